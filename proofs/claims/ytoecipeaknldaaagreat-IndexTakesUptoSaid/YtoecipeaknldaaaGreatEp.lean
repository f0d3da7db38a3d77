/- view.Put, by reference: its base in memory. -/
import Derived.Test.YtoecipeaknldaaaGreatEk
set_option maxRecDepth 100000
set_option linter.unusedVariables false
set_option linter.unusedSimpArgs false
namespace Go.Proofs.YtoecipeaknldaaaGreat
section
theorem _root_.Go.Proofs.YtoecipeaknldaaaGreat.Vr.ArgIs.on {bs m:List Blk}{a:V}{z:Nat}{nl:Bool}{es:List (List V)}(h:Vr.ArgIs bs a z nl es)(ho:∀ x,x<bs.length->m[x]?=bs[x]?):Vr.ArgIs m a z nl es:=⟨h.nil,λhn=>by
 obtain ⟨b,cap,rest,h1,h2⟩:=h.row hn;exact ⟨b,cap,rest,h1,aM (ho b (aJ h2)) h2⟩⟩
structure BaseA (bs:List Blk) (v:Vw) (e:Int) (a1 a2 a3 a4 a5:V):Prop where
 fz:∀ ys lo,frz ⟨bs++ys,lo⟩ (.agg (ah e a1 a2 a3 a4 a5))=some v.v
 a2:Vr.ArgIs bs a2 7 v.pods.nl (v.pods.l.map λx=>x.c.map V.d)
 a3:Vr.ArgIs bs a3 5 v.services.nl (v.services.l.map λx=>x.c.map V.d)
 a4:Vr.ArgIs bs a4 2 v.bound.nl (v.bound.l.map λx=>x.c.map V.d)
 a5:Vr.ArgIs bs a5 5 v.policies.nl (v.policies.l.map λx=>x.c.map V.d)
section
variable {E:Calls'}(H:PutD E)
include H
theorem QD (v:Vw)(hv:v.ok)(hw:∀ p∈v.policies.l,p.wf big)(d:Dlt)(hd:d.ok)(hwd:∀ p∈d.policies.l,p.wf big)(hno:(bg v&&dL d)=false){bs:List Blk}{e:Int}{a1 a2 a3 a4 a5:V}(ba:BaseA bs v e a1 a2 a3 a4 a5)(lo:Nat) :
 Sm E TSd bA 25 [.agg (ah e a1 a2 a3 a4 a5),d.v] ⟨bs,lo⟩=some (.tup [.agg (ah 0 aK aK aK aK aK),.d (i64 1)],⟨bs,lo⟩):=by
 have k1:∀ ys lo,Sm E TSd bA 45 [.agg (ah e a1 a2 a3 a4 a5)] ⟨bs++ys,lo⟩=some (bl (bg v),⟨bs++ys,lo⟩):=λys lo=>by rw [aU OL]; exact H.h75 v hv hw _ _ (ba.fz ys lo)
 simp only [ah] at k1 ⊢;have k2:∀ h,Sm E TSd bA 46 [d.v] h=some (bl (dL d),h):=λh=>by rw [aU Lh]; exact H.h164 d hd hwd h
 rw [aT Vg rfl];cases m1:bg v with
 | false=>simp +decide [aa,q80,k1,m1,V.under,V.under.go,ah]
 | true =>
  have m2:dL d=false:=by simpa [m1] using hno
  simp +decide [aa,q80,k1,k2,m1,m2,V.under,V.under.go,ah]
theorem YW (v:Vw)(hv:v.ok)(hw:∀ p∈v.policies.l,p.wf big)(d:Dlt)(hd:d.ok)(hwd:∀ p∈d.policies.l,p.wf big)(m1:bg v=true)(m2:dL d=true){bs:List Blk}{e0:Int}{o1 o2 o3 o4 o5:V}(ba:BaseA bs v e0 o1 o2 o3 o4 o5) :
 ∃ bs' w1 w2 w3 w4 w5 k e,∃ F:Nat->Nat,(∀ lo,Sm E TSd bA 25 [.agg (ah e0 o1 o2 o3 o4 o5),d.v] ⟨bs,lo⟩=some (.tup [.agg (ah e w1 w2 w3 w4 w5),.d (i64 k)],⟨bs',F lo⟩))/\(∀ x,x<bs.length->bs'[x]?=bs[x]?)/\bs.length<=bs'.length ∧
  ((bg (lm v d)=true/\k=0/\e=d.epoch/\ViewE bs.length bs' d.covers.l (bL Pod.uid v.pods.l d.pods.l d.gonePods.l) (bL Svc.id v.services.l d.services.l d.goneServices.l) (bL Way.id v.bound.l d.bound.l d.goneBound.l) (bL Pol.id v.policies.l d.policies.l d.gonePolicies.l) w1 w2 w3 w4 w5) ∨
   (bg (lm v d)=false/\k=1/\e=0/\w1=aK/\w2=aK/\w3=aK/\w4=aK/\w5=aK)):=by
 have k1:∀ ys lo,Sm E TSd bA 45 [.agg (ah e0 o1 o2 o3 o4 o5)] ⟨bs++ys,lo⟩=some (bl (bg v),⟨bs++ys,lo⟩):=λys lo=>by rw [aU OL]; exact H.h75 v hv hw _ _ (ba.fz ys lo)
 have k2:∀ h,Sm E TSd bA 46 [d.v] h=some (bl (dL d),h):=λh=>by rw [aU Lh]; exact H.h164 d hd hwd h
 have md:bg d.vw=true:=by
  simp only [dL,ao] at m2;exact m2.2
 obtain ⟨r1,r2,r3,r4⟩:=nI m1;obtain ⟨s1,s2,s3,s4⟩:=nI md;have hbig:(32:Nat)<=big:=by decide
 have a1:=aY r1; have a2:=aY r2; have a3:=aY r3; have a4:=aY r4;have b1:=aY s1; have b2:=aY s2; have b3:=aY s3; have b4:=aY s4;simp only [Dlt.vw] at b1 b2 b3 b4;obtain ⟨hdv,g1,g2,g3,g4⟩:=hd;have hok:∀ {x:Pol},x.wf big->x.ok:=λh=>h.fits;have q1:=eY (key:=Pod.uid) (l:=v.pods.l) (fresh:=d.pods.l) (gone:=d.gonePods.l);have q2:=eY (key:=Svc.id) (l:=v.services.l) (fresh:=d.services.l) (gone:=d.goneServices.l);have q3:=eY (key:=Way.id) (l:=v.bound.l) (fresh:=d.bound.l) (gone:=d.goneBound.l);have q4:=eY (key:=Pol.id) (l:=v.policies.l) (fresh:=d.policies.l) (gone:=d.gonePolicies.l);have w4:∀ p∈bL Pol.id v.policies.l d.policies.l d.gonePolicies.l,p.wf big:=λp hp=>by
  obtain h | h:=uV hp
  . exact hw p h
  . exact hwd p h
 obtain ⟨x1,m0,c1,l1,f1,t1⟩:=kE (E:=E) (T:=TSd) (val:=bA) (cells:=bz) (z:=1) (b:=4) (zero:=[(.d (.int .u32 0))]) Hy rfl (by decide) (by decide) (λ_=>rfl) (s:=d.covers) hdv.1 (bs++[.cells (ah e0 o1 o2 o3 o4 o5),.cells (d.c.map .d),.cells [.d (.int .u64 0),.d (.slice true []),.d (.slice true []),.d (.slice true []),.d (.slice true []),.d (.slice true [])]]);have oo1:=fM c1 (bp _) l1 f1;simp only [am,cg,ch] at l1 f1 t1;have hq0:∀ x,x<bs.length->(m0++[Blk.cells (ah d.epoch x1 aK aK aK aK)])[x]?=bs[x]?:=λx hx=>by
  rw [al (by omega),f1 x (by omega),al hx]
 obtain ⟨x2,n2,F2,c2,l2,f2,t2⟩:=Qy H (l:=v.pods) (fresh:=d.pods) hv.2.1 (a:=o2) (bs:=m0++[.cells (ah d.epoch x1 aK aK aK aK)]) (ba.a2.on λx hx=>hq0 x hx) hdv.2.1 (by omega) (gone:=d.gonePods) g1 (ku a1.1 b1.1);have hq1:∀ x,x<bs.length->(n2.set m0.length (Blk.cells (ah d.epoch x1 x2 aK aK aK)))[x]?=bs[x]?:=λx hx=>by
  have b2:=l2; simp only [am,cg,ch] at b2;rw [ac (by omega),f2 x (by simp only [am,cg,ch,List.length_set]; omega),hq0 x hx]
 obtain ⟨x3,n3,F3,c3,l3,f3,t3⟩:=Qz H (l:=v.services) (fresh:=d.services) hv.2.2.1 (a:=o3) (bs:=n2.set m0.length (.cells (ah d.epoch x1 x2 aK aK aK))) (ba.a3.on λx hx=>hq1 x hx) hdv.2.2.1 (by omega) (gone:=d.goneServices) g2 (ku a2.1 b2.1);have hq2:∀ x,x<bs.length->(n3.set m0.length (Blk.cells (ah d.epoch x1 x2 x3 aK aK)))[x]?=bs[x]?:=λx hx=>by
  have b2:=l2; simp only [am,cg,ch] at b2;rw [ac (by omega),f3 x (by simp only [am,cg,ch,List.length_set]; omega),hq1 x hx]
 obtain ⟨x4,n4,F4,c4,l4,f4,t4⟩:=QA H (l:=v.bound) (fresh:=d.bound) hv.2.2.2.1 (a:=o4) (bs:=n3.set m0.length (.cells (ah d.epoch x1 x2 x3 aK aK))) (ba.a4.on λx hx=>hq2 x hx) hdv.2.2.2.1 (by omega) (gone:=d.goneBound) g3 (ku a3.1 b3.1);have hq3:∀ x,x<bs.length->(n4.set m0.length (Blk.cells (ah d.epoch x1 x2 x3 x4 aK)))[x]?=bs[x]?:=λx hx=>by
  have b2:=l2; simp only [am,cg,ch] at b2;have b3:=l3; simp only [List.length_set] at b3;rw [ac (by omega),f4 x (by simp only [am,cg,ch,List.length_set]; omega),hq2 x hx]
 obtain ⟨x5,n5,F5,c5,l5,f5,t5⟩:=QB H (l:=v.policies) (fresh:=d.policies) hv.2.2.2.2.1 (a:=o5) (bs:=n4.set m0.length (.cells (ah d.epoch x1 x2 x3 x4 aK))) (ba.a5.on λx hx=>hq3 x hx) hdv.2.2.2.2.1 (by omega) (gone:=d.gonePolicies) g4 (ku a4.1 b4.1);obtain ⟨v',mm,e1,e2,e3,e4⟩:=yK (E:=E) (T:=TSd) (val:=bA) (cells:=Pol.c) (z:=5) (b:=64) (zero:=Em) Hz rfl (by decide) (by decide) (λ_=>rfl) (l:=bL Pol.id v.policies.l d.policies.l d.gonePolicies.l) (by omega) t5;obtain ⟨x6,n6,F6,c6,l6,f6,t6,_⟩:=Fg (E:=E) (T:=TSd) (val:=bA) Lg rfl (l:=bL Pol.id v.policies.l d.policies.l d.gonePolicies.l) (λp hp h=>H.c113 p (hok (w4 p hp)) h) (by omega) (bs:=n5) (a:=x5) ⟨v',mm,e1,e2,e3,e4⟩ t5.okv.2.1 t5.okv.1;have u1:=t1.nu; have y1:=t1.ok; have z1:=t1.cl;obtain ⟨y2,u2,z2⟩:=t2.okv;obtain ⟨y3,u3,z3⟩:=t3.okv;obtain ⟨y4,u4,z4⟩:=t4.okv;obtain ⟨y5,u5,z5⟩:=t5.okv;obtain ⟨y6,u6,z6⟩:=t6.okv;simp only [am,cg,ch,List.length_set] at l2 l3 l4 l5 f2 f3 f4 f5;have h0v:ai m0 bs.length=some (ah e0 o1 o2 o3 o4 o5):=aM (f1 _ (by omega)) (by simp);have h0d:ai m0 (bs.length+1)=some (d.c.map .d):=aM (f1 _ (by omega)) (by simp);have h0z:ai m0 (bs.length+2)=some [.d (.int .u64 0),.d (.slice true []),.d (.slice true []),.d (.slice true []),.d (.slice true []),.d (.slice true [])]:=aM (f1 _ (by omega)) (by simp)
 have r2:∀ x,x<m0.length->n2[x]?=m0[x]?:=λx hx=>by rw [f2 x (by omega),al hx]
 have r3:∀ x,x<n2.length->x≠m0.length->n3[x]?=n2[x]?:=λx hx hn=>by rw [f3 x hx,ac (Ne.symm hn)]
 have r4:∀ x,x<n3.length->x≠m0.length->n4[x]?=n3[x]?:=λx hx hn=>by rw [f4 x hx,ac (Ne.symm hn)]
 have r5:∀ x,x<n4.length->x≠m0.length->n5[x]?=n4[x]?:=λx hx hn=>by rw [f5 x hx,ac (Ne.symm hn)]
 have v2:∀ {x cs},x<m0.length->ai m0 x=some cs->ai n2 x=some cs:=λhx h=>aM (r2 _ hx) h;have v3:∀ {x cs},x<m0.length->ai m0 x=some cs->ai n3 x=some cs:=λhx h=>aM (r3 _ (by omega) (by omega)) (v2 hx h);have v4:∀ {x cs},x<m0.length->ai m0 x=some cs->ai n4 x=some cs:=λhx h=>aM (r4 _ (by omega) (by omega)) (v3 hx h);have v5:∀ {x cs},x<m0.length->ai m0 x=some cs->ai n5 x=some cs:=λhx h=>aM (r5 _ (by omega) (by omega)) (v4 hx h);have v6:∀ {x cs},x<m0.length->ai m0 x=some cs->ai n6 x=some cs:=λhx h=>aM (f6 _ (by omega)) (v5 hx h);have d2:ai n2 m0.length=some (ah d.epoch x1 aK aK aK aK):=aM (f2 _ (by omega)) (by rw [cO]; rfl);have d3:ai n3 m0.length=some (ah d.epoch x1 x2 aK aK aK):=aM (f3 _ (by omega)) (aN d2);have d4:ai n4 m0.length=some (ah d.epoch x1 x2 x3 aK aK):=aM (f4 _ (by omega)) (aN d3);have d5:ai n5 m0.length=some (ah d.epoch x1 x2 x3 x4 aK):=aM (f5 _ (by omega)) (aN d4);have d6:ai n6 m0.length=some (ah d.epoch x1 x2 x3 x4 aK):=aM (f6 _ (by omega)) d5;have nn:∀ {m:List Blk} {x:Nat} {cs C:List V},x<m0.length->ai m x=some cs->ai (m.set m0.length (.cells C)) x=some cs:=λhx h=>by rw [bi (by omega)]; exact h
 have ax:∀ {x:Nat} {cs C:List V},x<m0.length->ai m0 x=some cs->ai (m0++[.cells C]) x=some cs:=λhx h=>aj h
 let t:Nat->Nat:=λx=>if x<m0.length then 3 else if x<n2.length then 4 else if x<n3.length then 5 else if x<n4.length then 6 else if x<n5.length then 0 else 7
 have ht:∀ x i,t x=i↔(if x<m0.length then 3 else if x<n2.length then 4 else if x<n3.length then 5 else if x<n4.length then 6 else if x<n5.length then 0 else 7)=i:=λx i=>Iff.rfl;have S:∀ m:List Blk,m.length=n6.length->(∀ x,x≠m0.length->x≠bs.length+2->m[x]?=n6[x]?)->ViewD bs.length t m d.covers.l (bL Pod.uid v.pods.l d.pods.l d.gonePods.l) (bL Svc.id v.services.l d.services.l d.goneServices.l) (bL Way.id v.bound.l d.bound.l d.goneBound.l) (bL Pol.id v.policies.l d.policies.l d.gonePolicies.l) x1 x2 x3 x4 x6:=λm hlm hm=>by
  have s5:∀ x,x<n5.length->x≠m0.length->x≠bs.length+2->m[x]?=n5[x]?:=λx h1 h2 h3=>(hm x h2 h3).trans (f6 x h1);have s4:∀ x,x<n4.length->x≠m0.length->x≠bs.length+2->m[x]?=n4[x]?:=λx h1 h2 h3=>(s5 x (by omega) h2 h3).trans (r5 x h1 h2);have s3:∀ x,x<n3.length->x≠m0.length->x≠bs.length+2->m[x]?=n3[x]?:=λx h1 h2 h3=>(s4 x (by omega) h2 h3).trans (r4 x h1 h2);have s2:∀ x,x<n2.length->x≠m0.length->x≠bs.length+2->m[x]?=n2[x]?:=λx h1 h2 h3=>(s3 x (by omega) h2 h3).trans (r3 x h1 h2);have s1:∀ x,x<m0.length->x≠bs.length+2->m[x]?=m0[x]?:=λx h1 h3=>(s2 x (by omega) (by omega) h3).trans (r2 x h1);refine ⟨(t1.on λx h1 h2=>s1 x h2 (by omega)).g (f:=bz) (L0:=bs.length) (i:=3) (tag:=t) (by omega) (by omega) λx h1 h2=>?_,t2.on λx hx=>⟨⟨?_,?_,?_⟩,?_⟩,t3.on λx hx=>⟨⟨?_,?_,?_⟩,?_⟩,t4.on λx hx=>⟨⟨?_,?_,?_⟩,?_⟩,t6.on λx hx=>⟨⟨?_,?_,?_⟩,?_⟩⟩
  . rw [ht,if_pos h2]
  . have:=hx.1; simp at this; omega
  . have:=hx.2; omega
  . have:=hx.1; have:=hx.2; simp at *;rw [ht,if_neg (by omega),if_pos (by omega)]
  . have:=hx.1; have:=hx.2; simp at *;exact s2 x (by omega) (by omega) (by omega)
  . have:=hx.1; simp at this; omega
  . have:=hx.2; omega
  . have:=hx.1; have:=hx.2; simp at *;rw [ht,if_neg (by omega),if_neg (by omega),if_pos (by omega)]
  . have:=hx.1; have:=hx.2; simp at *;exact s3 x (by omega) (by omega) (by omega)
  . have:=hx.1; simp at this; omega
  . have:=hx.2; omega
  . have:=hx.1; have:=hx.2; simp at *;rw [ht,if_neg (by omega),if_neg (by omega),if_neg (by omega),if_pos (by omega)]
  . have:=hx.1; have:=hx.2; simp at *;exact s4 x (by omega) (by omega) (by omega)
  . have:=hx.1; omega
  . have:=hx.2; omega
  . have:=hx.1; have:=hx.2;rw [ht,if_neg (by omega),if_neg (by omega),if_neg (by omega),if_neg (by omega),if_neg (by omega)]
  . have:=hx.1; exact hm x (by omega) (by omega)
 have hcl:d.covers.l.length<=big:=hdv.1.1;have hmay:bg (VwD d.epoch d.covers.l (bL Pod.uid v.pods.l d.pods.l d.gonePods.l) (bL Svc.id v.services.l d.services.l d.goneServices.l) (bL Way.id v.bound.l d.bound.l d.goneBound.l) (bL Pol.id v.policies.l d.policies.l d.gonePolicies.l) x1 x2 x3 x4 x6)=bg (lm v d):=by
  rw [← eZ,← eZ (lm v d)]
  congr 1
 have S6:=S (n6.set m0.length (.cells (ah d.epoch x1 x2 x3 x4 x6))) (by simp) λx h1 _=>ac (Ne.symm h1);have k75:∀ lo,Sm E TSd bA 45 [.agg (ah d.epoch x1 x2 x3 x4 x6)] ⟨n6.set m0.length (.cells (ah d.epoch x1 x2 x3 x4 x6)),lo⟩=some (bl (bg (lm v d)),⟨n6.set m0.length (.cells (ah d.epoch x1 x2 x3 x4 x6)),lo⟩):=λlo=>by
  rw [aU OL,← hmay];refine H.h75 _ (S6.ok d.epoch hcl (by omega) (by omega) (by omega) (by omega) λp hp=>hok (Pol.own_wf (w4 p hp))) (λp hp=>?_) _ _ (by rw [jW,S6.fz d.epoch _ lo λ_ _ _=>rfl]);obtain ⟨x,hx,rfl⟩:=b9.1 (show p∈(bL Pol.id v.policies.l d.policies.l d.gonePolicies.l).map Pol.own from hp);exact Pol.own_wf (w4 x hx)
 have w6:=v6 (show bs.length+2<m0.length by omega) h0z;have zs:∀ C,ai (n6.set m0.length (.cells C)) (bs.length+2)=some [.d (.int .u64 0),.d (.slice true []),.d (.slice true []),.d (.slice true []),.d (.slice true []),.d (.slice true [])]:=λC=>nn (by omega) w6;have qs:∀ C,ai (n6.set m0.length (.cells C)) m0.length=some C:=λC=>aN d6;have zss:∀ C B,ai ((n6.set m0.length (.cells C)).set (bs.length+2) (.cells B)) (bs.length+2)=some B:=λC B=>aN (zs C);have hB:∃ lo2,Bd E TSd bA q80 [.agg (ah e0 o1 o2 o3 o4 o5),d.v] ⟨bs,bs.length⟩=if bg (lm v d)=true then some (.tup [.agg (ah d.epoch x1 x2 x3 x4 x6),.d (i64 0)],⟨(n6.set m0.length (.cells (ah d.epoch x1 x2 x3 x4 x6))).set (bs.length+2) (.cells (ah d.epoch x1 x2 x3 x4 x6)),lo2⟩) else some (.tup [.agg (ah 0 aK aK aK aK aK),.d (i64 1)],⟨(n6.set m0.length (.cells (ah d.epoch x1 x2 x3 x4 x6))).set (bs.length+2) (.cells (ah 0 aK aK aK aK aK)),lo2⟩):=by
  have b0v:=λC=>ax (C:=C) (show bs.length<m0.length by omega) h0v;have b0d:=λC=>ax (C:=C) (show bs.length+1<m0.length by omega) h0d;have b2v:=λC=>nn (C:=C) (show bs.length<m0.length by omega) (v2 (by omega) h0v);have b2d:=λC=>nn (C:=C) (show bs.length+1<m0.length by omega) (v2 (by omega) h0d);have b3v:=λC=>nn (C:=C) (show bs.length<m0.length by omega) (v3 (by omega) h0v);have b3d:=λC=>nn (C:=C) (show bs.length+1<m0.length by omega) (v3 (by omega) h0d);have b4v:=λC=>nn (C:=C) (show bs.length<m0.length by omega) (v4 (by omega) h0v);have b4d:=λC=>nn (C:=C) (show bs.length+1<m0.length by omega) (v4 (by omega) h0d);simp at oo1;simp only [ah] at c2 c3 c4 c5 k75 d2 d3 d4 d5 d6 k1 h0v b0v b2v b3v b4v oo1 ⊢;cases hm:bg (lm v d) with
  | true =>
   rw [hm] at k75;apply Exists.intro;simp [q80,aa,k1,k2,m1,m2,oo1,h0v,h0d,h0z,u1,y1,z1,aB,az,aL,aA,aG,List.range,List.range.loop,Tr.spares];rw [if_pos (by omega)];simp [b0v,b0d,b2v,b2d,b3v,b3d,b4v,b4d,c2,c3,c4,c5,c6,d2,d3,d4,d5,d6,u2,y2,z2,u3,y3,z3,u4,y4,z4,u5,y5,z5,u6,y6,z6,k75,qs,zs,zss,ba.a2.ok,ba.a3.ok,ba.a4.ok,ba.a5.ok];rfl
  | false =>
   rw [hm] at k75;apply Exists.intro;simp [q80,aa,k1,k2,m1,m2,oo1,h0v,h0d,h0z,u1,y1,z1,aB,az,aL,aA,aG,List.range,List.range.loop,Tr.spares];rw [if_pos (by omega)];simp [b0v,b0d,b2v,b2d,b3v,b3d,b4v,b4d,c2,c3,c4,c5,c6,d2,d3,d4,d5,d6,u2,y2,z2,u3,y3,z3,u4,y4,z4,u5,y5,z5,u6,y6,z6,k75,qs,zs,zss,ba.a2.ok,ba.a3.ok,ba.a4.ok,ba.a5.ok];rfl
 obtain ⟨lo2,hB⟩:=hB;have out:∀ {r:V} {m:List Blk},Bd E TSd bA q80 [.agg (ah e0 o1 o2 o3 o4 o5),d.v] ⟨bs,bs.length⟩=some (r,⟨m,lo2⟩)->(¬ (bs.length<=lo2/\r.under bs.length=true)->∀ lo,Sm E TSd bA 25 [.agg (ah e0 o1 o2 o3 o4 o5),d.v] ⟨bs,lo⟩=some (r,⟨m,min lo lo2⟩))/\(bs.length<=lo2/\r.under bs.length=true->∀ lo,Sm E TSd bA 25 [.agg (ah e0 o1 o2 o3 o4 o5),d.v] ⟨bs,lo⟩=some (r,⟨bs,lo⟩)):=λ{r m} h=>by
  refine ⟨λhc lo=>?_,λhc lo=>?_⟩;all_goals
   rw [aT Vg rfl];show dY ⟨bs,lo⟩ (Bd E TSd bA q80 [.agg (ah e0 o1 o2 o3 o4 o5),d.v] ⟨bs,bs.length⟩)=_;rw [h,eu]
  . exact if_neg hc
  . exact if_pos hc
 have hold:∀ C x,x<bs.length->((n6.set m0.length (.cells (ah d.epoch x1 x2 x3 x4 x6))).set (bs.length+2) (.cells C))[x]?=bs[x]?:=λC x hx=>by
  rw [ac (by omega),ac (by omega),f6 x (by omega),r5 x (by omega) (by omega),r4 x (by omega) (by omega),r3 x (by omega) (by omega),r2 x (by omega),f1 x (by omega),al hx]
 cases hm:bg (lm v d) with
 | true =>
  rw [hm,if_pos rfl] at hB;obtain ⟨oo1,oo2⟩:=out hB;have Sf:=S ((n6.set m0.length (.cells (ah d.epoch x1 x2 x3 x4 x6))).set (bs.length+2) (.cells (ah d.epoch x1 x2 x3 x4 x6))) (by simp) λx h1 h2=>by rw [ac (Ne.symm h2),ac (Ne.symm h1)]
  by_cases hc:bs.length<=lo2/\(V.tup [.agg (ah d.epoch x1 x2 x3 x4 x6),.d (i64 0)]).under bs.length=true
  . have hu:=hc.2;simp [V.under,V.under.go,ah] at hu;exact ⟨bs,x1,x2,x3,x4,x6,0,d.epoch,id,oo2 hc,λ_ _=>rfl,bp _,.inl ⟨rfl,rfl,rfl,⟨t,Sf.none (bp _) hu.1 hu.2.1 hu.2.2.1 hu.2.2.2.1 hu.2.2.2.2 _ _ _⟩⟩⟩
  . exact ⟨_,x1,x2,x3,x4,x6,0,d.epoch,λlo=>min lo lo2,oo1 hc,hold _,by simp; omega,.inl ⟨rfl,rfl,rfl,⟨t,Sf⟩⟩⟩
 | false =>
  rw [hm,if_neg (by decide)] at hB;obtain ⟨oo1,oo2⟩:=out hB;by_cases hc:bs.length<=lo2/\(V.tup [.agg (ah 0 aK aK aK aK aK),.d (i64 1)]).under bs.length=true
  . exact ⟨bs,aK,aK,aK,aK,aK,1,0,id,oo2 hc,λ_ _=>rfl,bp _,.inr ⟨rfl,rfl,rfl,rfl,rfl,rfl,rfl,rfl⟩⟩
  . exact ⟨_,aK,aK,aK,aK,aK,1,0,λlo=>min lo lo2,oo1 hc,hold _,by simp; omega,.inr ⟨rfl,rfl,rfl,rfl,rfl,rfl,rfl,rfl⟩⟩
end
end
section
def Idx.own (x:Idx):Idx:={ x with view:=x.view.own }
def Wk (x:Idx)(n:Int):List V:=x.c.map .d++[.d (u64 n)]
section
variable {x:Idx}{n:Int}
@[simp] theorem Wk.len:(Wk x n).length=15:=(rfl)
@[simp] theorem Wk.s0_14:sub (Wk x n) 0 14=some (x.c.map .d):=(rfl)
@[simp] theorem Wk.s1_1:sub (Wk x n) 1 1=some [.d (u64 x.inc)]:=(rfl)
@[simp] theorem Wk.s2_1:sub (Wk x n) 2 1=some [.d (u64 x.asked)]:=(rfl)
@[simp] theorem Wk.s3_1:sub (Wk x n) 3 1=some [.d (x.addrs.d bz)]:=(rfl)
@[simp] theorem Wk.s5_1:sub (Wk x n) 5 1=some [.d (u64 x.life)]:=(rfl)
@[simp] theorem Wk.s6_1:sub (Wk x n) 6 1=some [.d (u64 x.seq)]:=(rfl)
@[simp] theorem Wk.s7_6:sub (Wk x n) 7 6=some (x.view.c.map .d):=(rfl)
@[simp] theorem Wk.s13_1:sub (Wk x n) 13 1=some [.d (u64 x.high)]:=(rfl)
@[simp] theorem Wk.s14_1:sub (Wk x n) 14 1=some [.d (u64 n)]:=(rfl)
@[simp] theorem Wk.p2 {m:Int}:put (Wk x n) 2 [.d (u64 m)]=some (Wk { x with asked:=m } n):=(rfl)
@[simp] theorem Wk.p4 {m:Int}:put (Wk x n) 4 [.d (u64 m)]=some (Wk { x with since:=m } n):=(rfl)
@[simp] theorem Wk.p5 {m:Int}:put (Wk x n) 5 [.d (u64 m)]=some (Wk { x with life:=m } n):=(rfl)
@[simp] theorem Wk.p6 {m:Int}:put (Wk x n) 6 [.d (u64 m)]=some (Wk { x with seq:=m } n):=(rfl)
@[simp] theorem Wk.p7 {v:Vw}:put (Wk x n) 7 (v.c.map .d)=some (Wk { x with view:=v } n):=(rfl)
@[simp] theorem Wk.p13 {m:Int}:put (Wk x n) 13 [.d (u64 m)]=some (Wk { x with high:=m } n):=(rfl)
@[simp] theorem Idx.p3:put (x.c.map V.d) 3 [.d (x.addrs.d bz)]=some (x.c.map .d):=(rfl)
@[simp] theorem Idx.p7 {v:Vw}:put (x.c.map V.d) 7 (v.c.map .d)=some ((Idx.c { x with view:=v }).map .d):=(rfl)
end
section
variable {E:Calls'}
theorem Cc:vw0.ok:=⟨⟨Nat.zero_le _,λ_=>rfl⟩,⟨Nat.zero_le _,λ_=>rfl⟩,⟨Nat.zero_le _,λ_=>rfl⟩,⟨Nat.zero_le _,λ_=>rfl⟩,⟨Nat.zero_le _,λ_=>rfl⟩,λp hp=>by cases hp⟩
def Idx.same (a b:Idx):Bool:=(a.node==b.node&&(a.inc==b.inc&&(a.asked==b.asked&&(a.since==b.since&&(a.life==b.life&&(a.seq==b.seq&&a.high==b.high))))))&&(all2 (λx y:Int=>x==y) a.addrs.l b.addrs.l&&a.view.same b.view)
end
end
section
section
variable {x:Idx}
@[simp] theorem Idx.own_node:x.own.node=x.node:=(rfl)
@[simp] theorem Idx.own_inc:x.own.inc=x.inc:=(rfl)
@[simp] theorem Idx.own_life:x.own.life=x.life:=(rfl)
@[simp] theorem Idx.own_seq:x.own.seq=x.seq:=(rfl)
@[simp] theorem Idx.own_high:x.own.high=x.high:=(rfl)
@[simp] theorem Idx.own_view:x.own.view=x.view.own:=(rfl)
end
structure Whole (x:Idx):Prop where
 addrs:short x.addrs
 view:x.view.ok
 wf:∀ p∈x.view.policies.l,p.wf big
theorem Vw.own_ok {v:Vw}(hv:v.ok)(hw:∀ p∈v.policies.l,p.wf big):v.own.ok/\∀ p∈v.own.policies.l,p.wf big:=by
 have hw':∀ p∈v.own.policies.l,p.wf big:=λp hp=>by
  obtain ⟨q,hq,rfl⟩:=b9.1 hp;exact Pol.own_wf (hw q hq)
 refine ⟨⟨hv.1,hv.2.1,hv.2.2.1,hv.2.2.2.1,⟨?_,λh=>?_⟩,λp hp=>(hw' p hp).fits⟩,hw'⟩
 . show (v.policies.l.map Pol.own).length<=big;rw [bx]; exact hv.2.2.2.2.1.1
 . show v.policies.l.map Pol.own=[];have e:v.policies.l=[]:=hv.2.2.2.2.1.2 h;rw [e]; rfl
theorem Whole.own {x:Idx}(h:Whole x):Whole x.own:=⟨h.addrs,(Vw.own_ok h.view h.wf).1,(Vw.own_ok h.view h.wf).2⟩
end
section
def aD (x:Idx)(a w1 w2 w3 w4 w5:V):List V:=[.d (i64 x.node),.d (u64 x.inc),.d (u64 x.asked),a,.d (u64 x.since),.d (u64 x.life),.d (u64 x.seq),.d (u64 x.view.epoch),w1,w2,w3,w4,w5,.d (u64 x.high)]
def Wm (x:Idx)(n:Int)(a w1 w2 w3 w4 w5:V):List V:=[.d (i64 x.node),.d (u64 x.inc),.d (u64 x.asked),a,.d (u64 x.since),.d (u64 x.life),.d (u64 x.seq),.d (u64 x.view.epoch),w1,w2,w3,w4,w5,.d (u64 x.high),.d (u64 n)]
section
variable {x:Idx}{n e:Int}{a b w1 w2 w3 w4 w5 v1 v2 v3 v4 v5:V}
theorem Jd:x.c.map V.d=aD x (.d (x.addrs.d bz)) (.d (x.view.covers.d bz)) (.d (x.view.pods.d Pod.c)) (.d (x.view.services.d Svc.c)) (.d (x.view.bound.d Way.c)) (.d (x.view.policies.d Pol.c)):=rfl
theorem bU:(aD x a w1 w2 w3 w4 w5).length=14:=rfl
theorem RQ:sub (aD x a w1 w2 w3 w4 w5) 3 1=some [a]:=rfl
theorem KX:sub (aD x a w1 w2 w3 w4 w5) 7 6=some (ah x.view.epoch w1 w2 w3 w4 w5):=rfl
theorem bI:sub (aD x a w1 w2 w3 w4 w5) 0 14=some (aD x a w1 w2 w3 w4 w5):=rfl
theorem RN:put (aD x a w1 w2 w3 w4 w5) 3 [b]=some (aD x b w1 w2 w3 w4 w5):=rfl
theorem RP:put (aD x a w1 w2 w3 w4 w5) 7 (ah x.view.epoch v1 v2 v3 v4 v5)=some (aD x a v1 v2 v3 v4 v5):=rfl
theorem fU:put [V.d (i64 0),(.d (.int .u64 0)),(.d (.int .u64 0)),(.d (.slice true [])),(.d (.int .u64 0)),(.d (.int .u64 0)),(.d (.int .u64 0)),(.d (.int .u64 0)),(.d (.slice true [])),(.d (.slice true [])),(.d (.slice true [])),(.d (.slice true [])),(.d (.slice true [])),(.d (.int .u64 0))] 0 (aD x a w1 w2 w3 w4 w5)=some (aD x a w1 w2 w3 w4 w5):=rfl
theorem eF:(Wm x n a w1 w2 w3 w4 w5).length=15:=rfl
theorem gV:sub (Wm x n a w1 w2 w3 w4 w5) 0 14=some (aD x a w1 w2 w3 w4 w5):=rfl
theorem kU:sub (Wm x n a w1 w2 w3 w4 w5) 1 1=some [.d (u64 x.inc)]:=rfl
theorem kV:sub (Wm x n a w1 w2 w3 w4 w5) 5 1=some [.d (u64 x.life)]:=rfl
theorem kW:sub (Wm x n a w1 w2 w3 w4 w5) 6 1=some [.d (u64 x.seq)]:=rfl
theorem kX:sub (Wm x n a w1 w2 w3 w4 w5) 7 6=some (ah x.view.epoch w1 w2 w3 w4 w5):=rfl
theorem gU:sub (Wm x n a w1 w2 w3 w4 w5) 13 1=some [.d (u64 x.high)]:=rfl
theorem FY {ev:X->V}{z:List V}{p q:X}(hz:z.length=15)(ha:ev p=.agg (aD x a w1 w2 w3 w4 w5))(hb:ev q=.d (u64 n)):aB ev z [(0,14,p),(14,1,q)]=some (Wm x n a w1 w2 w3 w4 w5):=by
 have p1:put z 0 (aD x a w1 w2 w3 w4 w5)=some (aD x a w1 w2 w3 w4 w5++z.drop 14):=by
  unfold put;rw [if_pos (by rw [bU,hz]; omega),bU];simp
 have p2:put (aD x a w1 w2 w3 w4 w5++z.drop 14) 14 [V.d (u64 n)]=some (Wm x n a w1 w2 w3 w4 w5):=by
  have e2:(aD x a w1 w2 w3 w4 w5++z.drop 14).drop (14+[V.d (u64 n)].length)=[]:=aq (by rw [am,bU,List.length_drop,hz]; simp);unfold put;rw [if_pos (by rw [am,bU,List.length_drop,hz]; simp),List.take_left' bU,e2,List.append_nil];rfl
 have c1:V.cells (.agg (aD x a w1 w2 w3 w4 w5))=some (aD x a w1 w2 w3 w4 w5):=rfl;simp only [aB,ha,hb,c1,IR,bU,if_true,p1,p2,cg,ch]
end
structure IdxM (L0:Nat) (tag:Nat->Nat) (bs:List Blk) (x:Idx) (a w1 w2 w3 w4 w5:V):Prop where
 r0:RowG (Tg L0 bs.length tag 2) bs 1 (x.addrs.l.map cU) a
 vw:ViewD L0 tag bs x.view.covers.l x.view.pods.l x.view.services.l x.view.bound.l x.view.policies.l w1 w2 w3 w4 w5
theorem ViewD.move {L0:Nat}{tag:Nat->Nat}{bs:List Blk}{cov:List Int}{pods:List Pod}{svcs:List Svc}{ways:List Way}{pols:List Pol}{w1 w2 w3 w4 w5:V}(S:ViewD L0 tag bs cov pods svcs ways pols w1 w2 w3 w4 w5){L2:Nat}{tag2:Nat->Nat}{bs2:List Blk}(hL:L2<=L0)(hl:bs.length<=bs2.length)
 (ho:∀ y,L0<=y->y<bs.length->3<=tag y->bs2[y]?=bs[y]?/\tag2 y=tag y):ViewD L2 tag2 bs2 cov pods svcs ways pols w1 w2 w3 w4 w5:=by
 have m:∀ {i z:Nat} {es:List (List V)} {v:V},3<=i->RowG (Tg L0 bs.length tag i) bs z es v->RowG (Tg L2 bs2.length tag2 i) bs2 z es v:=λhi h=>h.on λy hy=>by
  have:=ho y hy.1 hy.2.1 (by have:=hy.2.2; omega);exact ⟨⟨cf hL hy.1,cd hy.2.1 hl,this.2.trans hy.2.2⟩,this.1⟩
 exact ⟨m (by decide) S.r1,m (by decide) S.r2,m (by decide) S.r3,m (by decide) S.r4,m (by decide) S.r5⟩
theorem IdxM.move {L0:Nat}{tag:Nat->Nat}{bs:List Blk}{x:Idx}{a w1 w2 w3 w4 w5:V}(S:IdxM L0 tag bs x a w1 w2 w3 w4 w5){L2:Nat}{tag2:Nat->Nat}{bs2:List Blk}(hL:L2<=L0)(hl:bs.length<=bs2.length)
 (ho:∀ y,L0<=y->y<bs.length->2<=tag y->bs2[y]?=bs[y]?/\tag2 y=tag y):IdxM L2 tag2 bs2 x a w1 w2 w3 w4 w5 :=
 ⟨S.r0.on λy hy=>by
  have:=ho y hy.1 hy.2.1 (by have:=hy.2.2; omega);exact ⟨⟨cf hL hy.1,cd hy.2.1 hl,this.2.trans hy.2.2⟩,this.1⟩,S.vw.move hL hl λy h1 h2 h3=>ho y h1 h2 (by omega)⟩
section
variable {E:Calls'}(H:PutD E)
include H
theorem XG (x:Idx)(ha:short x.addrs)(hv:x.view.ok)(n:Int)(bs:List Blk) :
 ∃ m Q tag a w1 w2 w3 w4 w5,∃ F:Nat->Nat,(∀ lo,Sm E TSd bA 24 [x.v,.d (u64 n)] ⟨bs,lo⟩=some (.ptr Q 0,⟨m,F lo⟩))/\(∀ y,y<bs.length->m[y]?=bs[y]?)/\bs.length<=Q/\m.length=Q+1/\ai m Q=some (Wm x n a w1 w2 w3 w4 w5)/\IdxM bs.length tag m x a w1 w2 w3 w4 w5/\(∀ y,Q<=y->tag y=0)/\∀ lo,bs.length<=lo->bs.length<=F lo:=by
 obtain ⟨a,b3,a3,l3,k3,r3⟩:=kE (E:=E) (T:=TSd) (val:=bA) (cells:=bz) (z:=1) (b:=4) (zero:=[(.d (.int .u32 0))]) Hy rfl (by decide) (by decide) (λ_=>rfl) ha (bs++[.cells (x.c.map .d)]);obtain ⟨b4,w1,w2,w3,w4,w5,F4,a4,k4,l4,⟨tv,S⟩,q4⟩:=Qx H x.view hv b3;have o3:=fM a3 (bp _) l3 k3;have o4:=fM (a4 b3.length) (q4 _ (bp _)) l4 k4;simp only [am,cg,ch] at l3 k3 r3;have g3:ai b3 bs.length=some (x.c.map .d):=aM (k3 _ (by omega)) (by simp);have g4:ai b4 bs.length=some (x.c.map .d):=aM (k4 _ (by omega)) g3;rw [Jd] at g3 g4;have u3:=r3.nu; have ok3:=r3.ok; have t3:=r3.cl;have n1:=S.r1.okv; have n2:=S.r2.okv; have n3:=S.r3.okv; have n4:=S.r4.okv; have n5:=S.r5.okv;have gs:∀ B,ai (b4.set bs.length (.cells B)) bs.length=some B:=λB=>aN g4;have hf:∀ {ev:X->V} {p q:X},ev p=.agg (aD x a w1 w2 w3 w4 w5)->ev q=.d (u64 n)->aB ev [(.d (i64 0)),(.d (.int .u64 0)),(.d (.int .u64 0)),(.d (.slice true [])),(.d (.int .u64 0)),(.d (.int .u64 0)),(.d (.int .u64 0)),(.d (.int .u64 0)),(.d (.slice true [])),(.d (.slice true [])),(.d (.slice true [])),(.d (.slice true [])),(.d (.slice true [])),(.d (.int .u64 0)),(.d (.int .u64 0))] [(0,14,p),(14,1,q)]=some (Wm x n a w1 w2 w3 w4 w5):=λhp hq=>FY rfl hp hq;have hxv:(x.v:V)=.agg (x.c.map .d):=rfl
 have hB:∃ lo2,bs.length<=lo2/\Bd E TSd bA q76 [x.v,.d (u64 n)] ⟨bs,bs.length⟩=some (.ptr b4.length 0,⟨(b4.set bs.length (.cells (aD x a w1 w2 w3 w4 w5)))++[.cells (Wm x n a w1 w2 w3 w4 w5)],lo2⟩):=by
  refine ⟨min bs.length bs.length,by simp,?_⟩;rw [Jd] at o3;simp at o3;have hvv:(x.view.v:V)=.agg (ah x.view.epoch (.d (x.view.covers.d bz)) (.d (x.view.pods.d Pod.c)) (.d (x.view.services.d Svc.c)) (.d (x.view.bound.d Way.c)) (.d (x.view.policies.d Pol.c))):=rfl;rw [hvv] at o4;simp [aa,q76,o3,o4,g3,g4,gs,u3,ok3,t3,n1,n2,n3,n4,n5,Jd,bU,RQ,KX,bI,RN,RP,Gq,az,aL];rw [if_pos]
  . simp +decide [gs,hf,Jd,bU,bI,fU]
  . simp [aG,List.range,List.range.loop,Tr.spares]
 obtain ⟨lo2,hlo,hB⟩:=hB;have hml:((b4.set bs.length (.cells (aD x a w1 w2 w3 w4 w5)))++[Blk.cells (Wm x n a w1 w2 w3 w4 w5)]).length=b4.length+1:=by simp
 have hm:∀ y,y<b4.length->y≠bs.length->((b4.set bs.length (.cells (aD x a w1 w2 w3 w4 w5)))++[Blk.cells (Wm x n a w1 w2 w3 w4 w5)])[y]?=b4[y]?:=λy h1 h2=>by
  rw [al (by simpa using h1),ac (Ne.symm h2)]
 have hQ:ai ((b4.set bs.length (.cells (aD x a w1 w2 w3 w4 w5)))++[Blk.cells (Wm x n a w1 w2 w3 w4 w5)]) b4.length=some (Wm x n a w1 w2 w3 w4 w5):=by
  have:=cO (bs:=b4.set bs.length (.cells (aD x a w1 w2 w3 w4 w5))) (ys:=[.cells (Wm x n a w1 w2 w3 w4 w5)]);rw [List.length_set] at this;exact this
 generalize (b4.set bs.length (.cells (aD x a w1 w2 w3 w4 w5)))++[Blk.cells (Wm x n a w1 w2 w3 w4 w5)]=m at *;refine ⟨m,b4.length,λy=>if y<bs.length+1 then 0 else if y<b3.length then 2 else if y<b4.length then tv y else 0,a,w1,w2,w3,w4,w5,λlo=>min lo lo2,λlo=>?_,λy hy=>?_,by omega,hml,hQ,⟨(r3.on (bs':=m) λy h1 h2=>?_).g (by omega) (by omega) λy h1 h2=>?_,S.move (by omega) (by omega) λy h1 h2 h3=>⟨hm y h2 (by omega),?_⟩⟩,λy hy=>?_,λlo h=>by show _<=min lo lo2; omega⟩
 . rw [aT af9 rfl];show dY ⟨bs,lo⟩ (Bd E TSd bA q76 [x.v,.d (u64 n)] ⟨bs,bs.length⟩)=_;rw [hB,eu];exact if_neg λh=>by have:=h.2; simp [V.under] at this; omega
 . rw [hm y (by omega) (by omega),k4 y (by omega),k3 y (by omega),al hy]
 . rw [hm y (by omega) (by omega),k4 y h2]
 . show (if y<bs.length+1 then 0 else if y<b3.length then 2 else if y<b4.length then tv y else 0)=2;rw [if_neg (by omega),if_pos h2]
 . show (if y<bs.length+1 then 0 else if y<b3.length then 2 else if y<b4.length then tv y else 0)=_;rw [if_neg (by omega),if_neg (by omega),if_pos h2]
 . show (if y<bs.length+1 then 0 else if y<b3.length then 2 else if y<b4.length then tv y else 0)=0;rw [if_neg (by omega),if_neg (by omega),if_neg (by omega)]
end
end
section
def jA (v:Vw)(d:Dlt):Bool:=bg v&&dL d&&bg (lm v d)
def qy (v:Vw)(d:Dlt):Vw:=⟨d.epoch,d.covers,⟨false,bL Pod.uid v.pods.l d.pods.l d.gonePods.l⟩,⟨false,bL Svc.id v.services.l d.services.l d.goneServices.l⟩,⟨false,bL Way.id v.bound.l d.bound.l d.goneBound.l⟩,⟨false,bL Pol.id v.policies.l d.policies.l d.gonePolicies.l⟩⟩
def takeB (x:Idx)(p:Psh):Vw:=if p.upon=0 then vw0 else x.view.own
def bG (x:Idx)(p:Psh):Idx×List Ack :=
 if p.inc≠x.inc\/p.life=0\/p.life<x.life\/p.seq=0\/(p.life=x.life/\p.seq<x.seq) then (x,[])
 else if p.life=x.life/\p.seq=x.seq then (x,[⟨p.life,p.inc,p.seq,1⟩])
 else if (p.upon=0\/(p.life=x.life/\p.upon=x.seq))/\x.high<=p.delta.epoch/\jA (takeB x p) p.delta=true then ({ x with life:=p.life,seq:=p.seq,view:=qy (takeB x p) p.delta,high:=p.delta.epoch },[⟨p.life,p.inc,p.seq,1⟩])
 else (x,[⟨p.life,p.inc,p.seq,0⟩])
theorem RowG.arg2 {K:Nat->Prop}{bs:List Blk}{z:Nat}{es:List (List V)}{v:V}(h:RowG K bs z es v):Vr.ArgIs bs v z (gu v) es:=by
 obtain ⟨h1,rfl⟩ | ⟨b,cap,rest,h1,rfl,h3⟩:=h
 . subst h1;exact Vr.ArgIs.mk (λ_=>rfl) λh=>absurd h (by decide)
 . exact Vr.ArgIs.mk (λh=>absurd h (by simp [gu])) λ_=>⟨b,cap,rest,rfl,h3⟩
theorem ViewD.base {L0:Nat}{tag:Nat->Nat}{bs:List Blk}{cov:List Int}{pods:List Pod}{svcs:List Svc}{ways:List Way}{pols:List Pol}{w1 w2 w3 w4 w5:V}(S:ViewD L0 tag bs cov pods svcs ways pols w1 w2 w3 w4 w5)(e:Int):BaseA bs (VwD e cov pods svcs ways pols w1 w2 w3 w4 w5) e w1 w2 w3 w4 w5 :=
 ⟨λys lo=>by rw [jW,S.fz e _ lo λx _ hx=>al hx],S.r2.arg2,S.r3.arg2,S.r4.arg2,by
  have:=S.r5.arg2;show Vr.ArgIs bs w5 5 (gu w5) ((pols.map Pol.own).map λx=>x.c.map V.d);rw [List.map_map];exact this⟩
theorem base0 (bs:List Blk):BaseA bs vw0 0 aK aK aK aK aK :=
 ⟨λys lo=>rfl,Vr.ArgIs.mk (λ_=>rfl) (λh=>absurd h (by decide)),Vr.ArgIs.mk (λ_=>rfl) (λh=>absurd h (by decide)),Vr.ArgIs.mk (λ_=>rfl) (λh=>absurd h (by decide)),Vr.ArgIs.mk (λ_=>rfl) (λh=>absurd h (by decide))⟩
section
variable {E:Calls'}(H:PutD E)
include H
theorem Ck {v:Vw}(hv:v.ok)(hw:∀ p∈v.policies.l,p.wf big){d:Dlt}(hd:d.ok)(hwd:∀ p∈d.policies.l,p.wf big){bs:List Blk}{e0:Int}{o1 o2 o3 o4 o5:V}(ba:BaseA bs v e0 o1 o2 o3 o4 o5) :
 ∃ bs' w1 w2 w3 w4 w5 k e,∃ F:Nat->Nat,(∀ lo,Sm E TSd bA 25 [.agg (ah e0 o1 o2 o3 o4 o5),d.v] ⟨bs,lo⟩=some (.tup [.agg (ah e w1 w2 w3 w4 w5),.d (i64 k)],⟨bs',F lo⟩))/\(∀ x,x<bs.length->bs'[x]?=bs[x]?)/\bs.length<=bs'.length ∧
  ((jA v d=true/\k=0/\e=d.epoch/\ViewE bs.length bs' d.covers.l (bL Pod.uid v.pods.l d.pods.l d.gonePods.l) (bL Svc.id v.services.l d.services.l d.goneServices.l) (bL Way.id v.bound.l d.bound.l d.goneBound.l) (bL Pol.id v.policies.l d.policies.l d.gonePolicies.l) w1 w2 w3 w4 w5) ∨
   (jA v d=false/\k=1/\e=0/\w1=aK/\w2=aK/\w3=aK/\w4=aK/\w5=aK)):=by
 cases hm:bg v&&dL d with
 | false=>exact ⟨bs,aK,aK,aK,aK,aK,1,0,id,λlo=>QD H v hv hw d hd hwd hm ba lo,λ_ _=>rfl,bp _,.inr ⟨by simp [jA,hm],rfl,rfl,rfl,rfl,rfl,rfl,rfl⟩⟩
 | true =>
  have hm':=hm;simp only [ao] at hm';obtain ⟨bs',w1,w2,w3,w4,w5,k,e,F,h1,h2,h3,h4⟩:=YW H v hv hw d hd hwd hm'.1 hm'.2 ba;have hp:jA v d=bg (lm v d):=by simp [jA,hm]
  exact ⟨bs',w1,w2,w3,w4,w5,k,e,F,h1,h2,h3,by rw [hp]; exact h4⟩
omit H in
theorem IdxM.none {L0:Nat}{tag:Nat->Nat}{bs:List Blk}{x:Idx}{a w1 w2 w3 w4 w5:V}(S:IdxM L0 tag bs x a w1 w2 w3 w4 w5){n:Nat}(hn:n<=L0)(k0:a.under n=true)(k1:w1.under n=true)(k2:w2.under n=true)(k3:w3.under n=true)(k4:w4.under n=true)(k5:w5.under n=true)(m:List Blk)(L1:Nat)(t1:Nat->Nat):IdxM L1 t1 m x a w1 w2 w3 w4 w5:=by
 refine ⟨.inl ?_,S.vw.none hn k1 k2 k3 k4 k5 m L1 t1⟩;obtain h | ⟨b,cap,rest,h1,rfl,h3⟩:=S.r0
 . exact h
 . have:=h1.1;simp [V.under] at k0;omega
omit H in
theorem jB {x:Idx}{p:Psh}{bs:List Blk}{y:Idx}{acks:List Ack}{m:List Blk}{lo2:Nat}{t:Nat->Nat}{a w1 w2 w3 w4 w5 r:V}(hB:Bd E TSd bA q18 [x.v,ag p.c] ⟨bs,bs.length⟩=some (.tup [.agg (aD y a w1 w2 w3 w4 w5),r],⟨m,lo2⟩))(hl:bs.length<=m.length)(ho:∀ z,z<bs.length->m[z]?=bs[z]?)
 (S:IdxM bs.length t m y a w1 w2 w3 w4 w5) (R:RowG (fD bs m) m 4 (acks.map λk=>k.c.map V.d) r) :
 ∃ bs' t a w1 w2 w3 w4 w5 r,∃ F:Nat->Nat,(∀ lo,Sm E TSd bA 8 [x.v,ag p.c] ⟨bs,lo⟩=some (.tup [.agg (aD y a w1 w2 w3 w4 w5),r],⟨bs',F lo⟩))/\bs.length<=bs'.length/\(∀ z,z<bs.length->bs'[z]?=bs[z]?)/\IdxM bs.length t bs' y a w1 w2 w3 w4 w5/\RowG (fD bs bs') bs' 4 (acks.map λk=>k.c.map V.d) r:=by
 by_cases hc:bs.length<=lo2/\(V.tup [.agg (aD y a w1 w2 w3 w4 w5),r]).under bs.length=true
 . have hu:=hc.2;simp [V.under,V.under.go,aD] at hu;obtain ⟨⟨k0,k1,k2,k3,k4,k5⟩,k6⟩:=hu;refine ⟨bs,t,a,w1,w2,w3,w4,w5,r,id,λlo=>?_,bp _,λ_ _=>rfl,S.none (bp _) k0 k1 k2 k3 k4 k5 _ _ _,?_⟩
   . rw [aT UR rfl];show dY ⟨bs,lo⟩ (Bd E TSd bA q18 [x.v,ag p.c] ⟨bs,bs.length⟩)=_;rw [hB,eu];exact if_pos hc
   . obtain R | ⟨b,cap,rest,h1,rfl,h3⟩:=R
     . exact .inl R
     . have:=h1.1;simp [V.under] at k6;omega
 . refine ⟨m,t,a,w1,w2,w3,w4,w5,r,λlo=>min lo lo2,λlo=>?_,hl,ho,S,R⟩;rw [aT UR rfl];show dY ⟨bs,lo⟩ (Bd E TSd bA q18 [x.v,ag p.c] ⟨bs,bs.length⟩)=_;rw [hB,eu];exact if_neg hc
end
end
set_option maxHeartbeats 2000000
section
variable {E:Calls'}
theorem kK {α:Type}{key:α->Int}{l:List α}{n:Int}(h:lu key l n=true):l.Pairwise λa b=>key a<key b:=by
 simp only [lu,ao,br] at h;exact List.pairwise_map.1 (ny h.1)
theorem OM {α:Type}(m l:List α)(c c' d:α):(m++c::c'::l).set (m.length+1) d=m++c::d::l:=by
 rw [List.set_append_right _ _ (by omega),Nat.add_sub_cancel_left]; rfl
theorem OO {α:Type}(m l:List α)(c c' c2 d:α):(m++c::c'::c2::l).set (m.length+2) d=m++c::c'::d::l:=by
 rw [List.set_append_right _ _ (by omega),Nat.add_sub_cancel_left]; rfl
def cz (v:Vw)(d:Dlt):Vw:=⟨d.epoch,⟨false,d.covers.l⟩,bY (bL Pod.uid v.pods.l d.pods.l d.gonePods.l),bY (bL Svc.id v.services.l d.services.l d.goneServices.l),bY (bL Way.id v.bound.l d.bound.l d.goneBound.l),bY ((bL Pol.id v.policies.l d.policies.l d.gonePolicies.l).map Pol.cp)⟩
structure DocPutE (E:Calls'):Prop where
 h35:∀ p:Pol,p.fits big->∀ h,E 61 [ag p.c] h=some (ag p.cp.c,h)
 h79:∀ d:Dlt,∀ h,E 19 [d.v] h=some (d.vw.v,h)
 h288:∀ p:Pol,p.wf big->∀ h,E 120 [ag p.c] h=some (bl (dw p),h)
section
variable (H:DocPutE E)
include H
theorem YV {v:Vw}(hv:v.ok)(hw:∀ p∈v.policies.l,p.wf big){d:Dlt}(hd:d.ok)(hwd:∀ p∈d.policies.l,p.wf big)(l1:d.pods.l.length<big)(l2:d.services.l.length<big)(l3:d.bound.l.length<big)(l4:d.policies.l.length<big)(hno:(bg v&&dL d)=false)(h:Hp) :
 Sm E TDp bJ 26 [v.v,d.v] h=some (.tup [ag [.int .u64 0,.slice true [],.slice true [],.slice true [],.slice true [],.slice true []],.d (i64 1)],h):=by
 have n1:=λh=>II (E:=E) H.h288 v hv hw h;have n2:=λh=>Qm (E:=E) H.h79 H.h288 d hd hwd l1 l2 l3 l4 h;rw [aQ (show TDp 26=some q84 by kernel_rfl) rfl];cases h1:bg v with
 | false =>
  simp [aa,q84,n1,h1,az,ae,aL,bu,Tr.mute,aA]
 | true =>
  have h2:dL d=false:=by simpa [h1] using hno
  simp [aa,q84,n1,n2,h1,h2,az,ae,aL,bu,Tr.mute,aA]
theorem S84 {v:Vw}(hv:v.ok)(hw:∀ p∈v.policies.l,p.wf big){d:Dlt}(hd:d.ok)(hwd:∀ p∈d.policies.l,p.wf big)(l1:d.pods.l.length<big)(l2:d.services.l.length<big)(l3:d.bound.l.length<big)(l4:d.policies.l.length<big)(m1:bg v=true)(m2:dL d=true)(h:Hp) :
 Sm E TDp bJ 26 [v.v,d.v] h=some (if bg (cz v d)=true then .tup [(cz v d).v,.d (i64 0)] else .tup [ag [.int .u64 0,.slice true [],.slice true [],.slice true [],.slice true [],.slice true []],.d (i64 1)],h):=by
 have n1:=λh=>II (E:=E) H.h288 v hv hw h;have n2:=λh=>Qm (E:=E) H.h79 H.h288 d hd hwd l1 l2 l3 l4 h;have n79:=λh=>(aU (E:=E) (T:=TDp) (val:=bJ) (f:=19) (by kernel_rfl)).trans (H.h79 d h);have n180:=λh=>Qn (E:=E) d.vw l1 l2 l3 l4 h;have n181:=λh=>Qo (E:=E) d h;have n35:∀ p:Pol,p.fits big->∀ h,Sm E TDp bJ 61 [ag p.c] h=some (ag p.cp.c,h):=λp hp h=>by rw [aU (by kernel_rfl)]; exact H.h35 p hp h
 obtain ⟨hdv,hg1,hg2,hg3,hg4⟩:=hd;have md:bg d.vw=true:=by
  simp only [dL,ao] at m2;exact m2.2
 obtain ⟨r1,r2,r3,r4⟩:=nI m1;obtain ⟨s1,s2,s3,s4⟩:=nI md;have a1:=aY r1; have a2:=aY r2; have a3:=aY r3; have a4:=aY r4;have b1:=aY s1; have b2:=aY s2; have b3:=aY s3; have b4:=aY s4;simp only [Dlt.vw] at b1 b2 b3 b4 s1 s2 s3 s4;have hbig:(64:Nat)<big:=by decide
 have hb62:(64:Nat)<2 ^ 62:=by decide
 obtain ⟨x,bs,a,l,k,r,u⟩:=Dx (cells:=bz) (z:=1) (by_:=4) (s:=d.covers) (λ_=>rfl) (by decide) (by decide) hdv.1 [.cells (v.c.map .d),.cells (d.c.map .d),.cells [.d (.int .u64 0),.d (.slice true []),.d (.slice true []),.d (.slice true []),.d (.slice true []),.d (.slice true [])]];have hx:x≠.d (.slice true []):=by rintro rfl; exact absurd (u 0 (by simp)) (by simp [V.under])
 have g0:ai bs 0=some (v.c.map .d):=by unfold ai; rw [k 0 (by simp)]; rfl
 have g1:ai bs 1=some (d.c.map .d):=by unfold ai; rw [k 1 (by simp)]; rfl
 have g2:ai bs 2=some [.d (.int .u64 0),.d (.slice true []),.d (.slice true []),.d (.slice true []),.d (.slice true []),.d (.slice true [])]:=by unfold ai; rw [k 2 (by simp)]; rfl
 have h3:3<=bs.length:=by simpa using l
 have h4:3<bs.length:=by
  obtain ⟨_,rfl⟩ | ⟨b,cap,r1,r2,_⟩:=r.2
  . exact absurd rfl hx
  . simp at r1; omega
 have hne:¬ bs=[]:=by rintro rfl; simp at h4
 let pc:List V:=[.d ((bY (d.pods.l.map Pod.uid)).d aR),.d ((bY (d.services.l.map Svc.id)).d aR),.d ((bY (d.bound.l.map Way.id)).d aR),.d ((bY (d.policies.l.map Pol.id)).d aR)]
 let gc:List V:=[.d (d.gonePods.d aR),.d (d.goneServices.d aR),.d (d.goneBound.d aR),.d (d.gonePolicies.d aR)]
 have hpc:pc=_:=rfl;have hgc:gc=_:=rfl;have i0:ai (bs++[.cells (ah d.epoch x aK aK aK aK),.cells pc,.cells gc]) 0=_:=aj g0;have i1:ai (bs++[.cells (ah d.epoch x aK aK aK aK),.cells pc,.cells gc]) 1=_:=aj g1;have i2:ai (bs++[.cells (ah d.epoch x aK aK aK aK),.cells pc,.cells gc]) 2=_:=aj g2;have iQ:ai (bs++[.cells (ah d.epoch x aK aK aK aK),.cells pc,.cells gc]) bs.length=some (ah d.epoch x aK aK aK aK):=by rw [cO]; rfl
 have iP:ai (bs++[.cells (ah d.epoch x aK aK aK aK),.cells pc,.cells gc]) (bs.length+1)=some pc:=by rw [bX]; rfl
 have iR:ai (bs++[.cells (ah d.epoch x aK aK aK aK),.cells pc,.cells gc]) (bs.length+2)=some gc:=by
  have:=iy (bs:=bs) (ys:=[.cells (ah d.epoch x aK aK aK aK),.cells pc,.cells gc]) (i:=2);rw [this]; rfl
 have sh:∀ {α:Type} (l:List α) (f:α->Int),l.length<=big->short (bY (l.map f)):=λl f h=>⟨by simpa [bY] using h,λhn=>by simpa [bY] using hn⟩;have kp1:=qm (key:=Pod.uid) (gone:=d.gonePods.l) (kK r1) (kK s1);have kp2:=qm (key:=Svc.id) (gone:=d.goneServices.l) (kK r2) (kK s2);have kp3:=qm (key:=Way.id) (gone:=d.goneBound.l) (kK r3) (kK s3);have kp4:=qm (key:=Pol.id) (gone:=d.gonePolicies.l) (kK r4) (kK s4);obtain ⟨x2,lo2,w2,c2,K2⟩:=PZ (E:=E) (P:=bs.length+1) (R:=bs.length+2) (ep:=d.epoch) (w1:=x) i0 i1 iP iR (by omega) (by omega) (by omega) (sh d.pods.l Pod.uid (by omega)) hg1 rfl rfl (by omega) (by omega) (by omega) iQ 0;obtain ⟨x3,lo3,w3,c3,K3⟩:=P5 (E:=E) (P:=bs.length+1) (R:=bs.length+2) (ep:=d.epoch) (w1:=x) (w2:=w2) (K2.get (by omega) i0) (K2.get (by omega) i1) (K2.get (by omega) iP) (K2.get (by omega) iR) (by omega) (by omega) (by omega) (sh d.services.l Svc.id (by omega)) hg2 rfl rfl (by omega) (by omega) (by omega) K2.atD lo2;obtain ⟨x4,lo4,w4,c4,K4⟩:=P6 (E:=E) (P:=bs.length+1) (R:=bs.length+2) (ep:=d.epoch) (w1:=x) (w2:=w2) (w3:=w3) (K3.get (by omega) (K2.get (by omega) i0)) (K3.get (by omega) (K2.get (by omega) i1)) (K3.get (by omega) (K2.get (by omega) iP)) (K3.get (by omega) (K2.get (by omega) iR)) (by omega) (by omega) (by omega) (sh d.bound.l Way.id (by omega)) hg3 rfl rfl (by omega) (by omega) (by omega) K3.atD lo3
 obtain ⟨x5,lo5,w5,c5,K5⟩:=P7 (E:=E) (P:=bs.length+1) (R:=bs.length+2) (ep:=d.epoch) (w1:=x) (w2:=w2) (w3:=w3) (w4:=w4) (K4.get (by omega) (K3.get (by omega) (K2.get (by omega) i0))) (K4.get (by omega) (K3.get (by omega) (K2.get (by omega) i1))) (K4.get (by omega) (K3.get (by omega) (K2.get (by omega) iP))) (K4.get (by omega) (K3.get (by omega) (K2.get (by omega) iR))) (by omega) (by omega) (by omega) n35 (λp hp=>(hw p hp).fits) (λp hp=>(hwd p hp).fits) (sh d.policies.l Pol.id (by omega)) hg4 rfl rfl (by omega) (by omega) (by omega) K4.atD lo4;have f5:=K5.get (by omega) (K4.get (by omega) (K3.get (by omega) (K2.get (by omega) i2)));have d5:=K5.atD;have e2:=K2.len;have e3:=K3.len;have e4:=K4.len;have e5:=K5.len;have j2:(mrg Pod.uid (stayQ Pod.uid (bY (d.pods.l.map Pod.uid)).l d.gonePods.l) v.pods.l d.pods.l).map id=bL Pod.uid v.pods.l d.pods.l d.gonePods.l:=by rw [List.map_id]; exact kp1
 have j3:(mrg Svc.id (stayQ Svc.id (bY (d.services.l.map Svc.id)).l d.goneServices.l) v.services.l d.services.l).map id=bL Svc.id v.services.l d.services.l d.goneServices.l:=by rw [List.map_id]; exact kp2
 have j4:(mrg Way.id (stayQ Way.id (bY (d.bound.l.map Way.id)).l d.goneBound.l) v.bound.l d.bound.l).map id=bL Way.id v.bound.l d.bound.l d.goneBound.l:=by rw [List.map_id]; exact kp3
 have j5:mrg Pol.id (stayQ Pol.id (bY (d.policies.l.map Pol.id)).l d.gonePolicies.l) v.policies.l d.policies.l=bL Pol.id v.policies.l d.policies.l d.gonePolicies.l:=kp4;rw [j2] at K2; rw [j3] at K3; rw [j4] at K4; rw [j5] at K5;have b4:∀ y,y<x4.length->y≠bs.length->x5[y]?=x4[y]?:=K5.old;have b3:∀ y,y<x3.length->y≠bs.length->x5[y]?=x3[y]?:=λy hy hn=>(b4 y (by omega) hn).trans (K4.old y hy hn);have b2:∀ y,y<x2.length->y≠bs.length->x5[y]?=x2[y]?:=λy hy hn=>(b3 y (by omega) hn).trans (K3.old y hy hn);have bl2:bs.length+3<=x2.length:=by simpa using e2
 have b1:∀ y,y<bs.length->x5[y]?=bs[y]?:=λy hy=>by rw [b2 y (by omega) (by omega),K2.old y (by simp; omega) (by omega),al hy]
 have hcv:∀ (m:List Blk) (lo:Nat),(∀ y,y≠2->m[y]?=x5[y]?)->bP ⟨m,lo⟩ (ah d.epoch x w2 w3 w4 w5)=some (cz v d).c:=λm lo ho=>by
  have t1:dataV ⟨m,lo⟩ 8 x=_:=(r.on (bs':=m) λy h1 h2=>by simp at h1; rw [ho y (by omega),b1 y h2]).datN hx lo 7;have t2:dataV ⟨m,lo⟩ 8 w2=_:=K2.datL (λy h1 h2=>by rw [ho y (by omega),b2 y h2 (by omega)]) lo;have t3:dataV ⟨m,lo⟩ 8 w3=_:=K3.datL (λy h1 h2=>by rw [ho y (by omega),b3 y h2 (by omega)]) lo;have t4:dataV ⟨m,lo⟩ 8 w4=_:=K4.datL (λy h1 h2=>by rw [ho y (by omega),b4 y h2 (by omega)]) lo;have t5:dataV ⟨m,lo⟩ 8 w5=_:=K5.datL (λy h1 h2=>by rw [ho y (by omega)]) lo;simp only [ah,bP,List.mapM_cons,List.mapM_nil,t1,t2,t3,t4,t5];simp [cz,Vw.c,Sl.d,bY]
 have wp:∀ p∈bL Pol.id v.policies.l d.policies.l d.gonePolicies.l,p.wf big:=λp hp=>by
  obtain h | h:=uV hp
  . exact hw p h
  . exact hwd p h
 have lq1:=eY (key:=Pod.uid) (l:=v.pods.l) (fresh:=d.pods.l) (gone:=d.gonePods.l);have lq2:=eY (key:=Svc.id) (l:=v.services.l) (fresh:=d.services.l) (gone:=d.goneServices.l);have lq3:=eY (key:=Way.id) (l:=v.bound.l) (fresh:=d.bound.l) (gone:=d.goneBound.l);have lq4:=eY (key:=Pol.id) (l:=v.policies.l) (fresh:=d.policies.l) (gone:=d.gonePolicies.l);have shn:∀ {α:Type} {l:List α},l.length<=big->short (bY l):=λh=>⟨by simpa [bY] using h,λhn=>by simpa [bY] using hn⟩;have wpc:∀ p∈(cz v d).policies.l,p.wf big:=λp hp=>by
  obtain ⟨q,hq,rfl⟩:=b9.1 (show p∈(bL Pol.id v.policies.l d.policies.l d.gonePolicies.l).map Pol.cp from hp);exact Pol.cp_wf (wp q hq)
 have hok:(cz v d).ok:=⟨⟨hdv.1.1,λh=>by cases h⟩,shn (by omega),shn (by omega),shn (by omega),shn (by rw [bx]; omega),λp hp=>(wpc p hp).fits⟩;have n178:∀ (lo:Nat),Sm E TDp bJ 56 [.agg (ah d.epoch x w2 w3 w4 w5)] ⟨x5,lo⟩=some (bl (bg (cz v d)),⟨x5,lo⟩):=λlo =>
  Df (show TDp 56=some uW by kernel_rfl) rfl (λh=>II (E:=E) H.h288 (cz v d) hok wpc h) (by rw [jW,hcv x5 lo λ_ _=>rfl])
 have ez:((0:Nat):Int)=0:=rfl;have g1':=λys=>aj (ys:=ys) g1;rw [ez] at c2 c3 c4 c5;have rc:=r.cl;have rn:=r.nu;have hpz:put [V.d (.int .u64 0),.d (.slice true []),.d (.slice true []),.d (.slice true []),.d (.slice true []),.d (.slice true [])] 0 [.d (u64 d.epoch),x]=some (ah d.epoch x aK aK aK aK):=rfl;have hnum:CJ d.vw=.agg pc:=rfl;have hgon:Gd d=.agg gc:=rfl;rw [hnum] at n180;rw [hgon] at n181;have pz4:∀ c:List V,c.length=4->put [V.d (.slice true []),.d (.slice true []),.d (.slice true []),.d (.slice true [])] 0 c=some c:=λc hc=>by
  match c,hc with
  | [_,_,_,_],_=>rfl
 have pp:=pz4 pc rfl;have pg:=pz4 gc rfl;have lpc:pc.length=4:=rfl;have lgc:gc.length=4:=rfl;rw [aQ (show TDp 26=some q84 by kernel_rfl) rfl];generalize pc=pc at *;generalize gc=gc at *;simp at a;simp [ah] at c2;simp [aa,q84,n1,n2,n79,n180,n181,m1,m2,a,g0,g1,g1',g2,OM,OO,bX,rc,rn,aB,hne,h4,pp,pg,lpc,lgc,show 1<bs.length from by omega,az,ae,aL,bu,aG,Tr.mute,Tr.spares,List.range,List.range.loop,aA];rw [au];simp [c2];rw [au];simp [c3];rw [au];simp [c4];rw [au];have sA:sub (ah d.epoch x w2 w3 w4 w5) 0 6=some (ah d.epoch x w2 w3 w4 w5):=rfl;have pA:put [V.d (.int .u64 0),.d (.slice true []),.d (.slice true []),.d (.slice true []),.d (.slice true []),.d (.slice true [])] 0 (ah d.epoch x w2 w3 w4 w5)=some (ah d.epoch x w2 w3 w4 w5):=rfl;have s2:∀ X,ai (x5.set 2 (.cells X)) 2=some X:=λX=>aN f5;have hlen:(ah d.epoch x w2 w3 w4 w5).length=6:=rfl;have hcs:∀ X lo,bP ⟨x5.set 2 (.cells X),lo⟩ (ah d.epoch x w2 w3 w4 w5)=some (cz v d).c:=λX lo=>hcv _ lo λy hy=>ac (Ne.symm hy);cases hm:bg (cz v d) with
 | true =>
  rw [hm] at n178;simp [c5,f5,d5,sA,pA,s2,hlen,n178];simp [hcs]
 | false =>
  rw [hm] at n178;simp [c5,f5,d5,sA,pA,s2,hlen,n178]
end
end
section
variable {E:Calls'}
def Vx:List (Nat×QF):=[(7,q21),(9,q22),(10,q23),(11,q24),(28,q66),(23,q83),(27,q85)]
def TDq:FuncId->Option QF:=iN Vx
def jC (f:FuncId):Bool:=[7,9,10,11,28,23,27].any λn=>Nat.beq n f
theorem Zb:TDq 7=some q21:=by kernel_rfl
theorem mM:TDq 9=some q22:=by kernel_rfl
theorem QQ:TDq 10=some q23:=by kernel_rfl
theorem QR:TDq 11=some q24:=by kernel_rfl
theorem Zc:TDq 28=some q66:=by kernel_rfl
theorem Zd:TDq 23=some q83:=by kernel_rfl
theorem Ze:TDq 27=some q85:=by kernel_rfl
def Vsm (a b:Vw):Prop:=a.epoch=b.epoch/\a.covers.l=b.covers.l/\a.cfg.nf=b.cfg.nf
def Vw.own17 (v:Vw):Vw:=⟨v.epoch,fT v.covers,fT v.pods,fT v.services,fT v.bound,bY (v.policies.l.map Pol.cp)⟩
def Idx.own19 (x:Idx):Idx:={ x with addrs:=fT x.addrs,view:=x.view.own17 }
def jf (v:Vw)(d:Dlt):Bool:=bg v&&dL d&&bg (cz v d)
structure Doc19E (E:Calls'):Prop where
 e34:∀ c:Cfg,c.ok->∀ h,E 42 [c.v] h=some (ag c.cp.c,h)
 e38:∀ a b:Cfg,a.ok->∀ h,E 62 [a.v,b.v] h=some (bl (a.same b),h)
theorem S83 (H:Doc19E E)(v:Vw)(hv:v.ok)(h:Hp):Sm E TDq jC 23 [v.v] h=some (v.own17.v,h):=by
 have n1:=λh=>(aU (E:=E) (T:=TDq) (val:=jC) (f:=42) (by kernel_rfl)).trans (H.e34 v.cfg hv.2 h);have hcv:v.cfg.v=.agg [.d (.int .u64 0),.d (.int .u64 0),.d (i64 0),.d (i64 0),.d (v.pods.d Pod.c),.d (v.services.d Svc.c),.d (v.bound.d Way.c),.d (v.policies.d Pol.c)]:=rfl;rw [hcv] at n1;obtain ⟨x,bs,a,l,k,r,u⟩:=Dx (cells:=bz) (z:=1) (by_:=4) (λ_=>rfl) (by decide) (by decide) hv.1 [.cells (v.c.map .d),.cells [.d (.int .u64 0),.d (.slice true []),.d (.slice true []),.d (.slice true []),.d (.slice true []),.d (.slice true [])],.cells (v.cfg.cp.c.map .d)];have g0:ai bs 0=some (v.c.map .d):=by unfold ai; rw [k 0 (by simp)]; rfl
 have g1:ai bs 1=some [.d (.int .u64 0),.d (.slice true []),.d (.slice true []),.d (.slice true []),.d (.slice true []),.d (.slice true [])]:=by unfold ai; rw [k 1 (by simp)]; rfl
 have g2:ai bs 2=some (v.cfg.cp.c.map .d):=by unfold ai; rw [k 2 (by simp)]; rfl
 have hx:x≠.d (.slice true []):=by rintro rfl; exact absurd (u 0 (by simp)) (by simp [V.under])
 rw [aQ Zd rfl];have rc:=r.cl;have rn:=r.nu;simp at a;simp [aa,q83,rc,rn,put,n1,a,g0,g1,g2,aB,az,ae,aL,aG,Tr.spares,List.range,List.range.loop,aA];have gs:∀ X,ai (bs.set 1 (.cells X)) 1=some X:=λX=>aN g1;have dat:=λX=>(r.on (bs':=bs.set 1 (.cells X)) (λy h1 h2=>ac (by simp at h1; omega))).datN hx 0 7;simp [gs,sub,bH,bP,dat,Vw.own17,Vw.c,Vw.cfg,Cfg.cp,Sl.d,fT];try rfl
theorem X5 (a b:Vw)(hab:a.covers.l=b.covers.l)(hl:a.covers.l.length<2 ^ 62)(M:List Blk)(h0:ai M 0=some (a.c.map .d))(h1:ai M 1=some (b.c.map .d))(lo:Nat) :
 Cd E TDq jC (.loop [2,3,5] u7) [(2,.ptr 0 0),(3,.ptr 1 0),(5,.d (i64 ((0:Nat):Int)))] ⟨M,lo⟩=some (.exit 0,[(2,.ptr 0 0),(3,.ptr 1 0)],⟨M,lo⟩):=by
 have key:=bR (E:=E) (T:=TDq) (val:=jC) (keep:=[2,3,5]) (body:=u7) a.covers.l (λ_=>true) (λi=>[(2,.ptr 0 0),(3,.ptr 1 0),(5,.d (i64 i))]) ⟨M,lo⟩ (.ret,[(4,bl false)],⟨M,lo⟩) (.exit 0,[(2,.ptr 0 0),(3,.ptr 1 0)],⟨M,lo⟩) (λi x hx hi W=>?_) (λW=>?_)
 . have ht:(a.covers.l.all λ_=>true)=true:=cj.2 λ_ _=>rfl;rw [ht] at key;simpa using key
 . have hsx:=λh=>av (z:=1) h hx (cells:=bz) rfl;have hsy:=λh=>av (z:=1) h (s:=b.covers) (hab ▸ hx) (cells:=bz) rfl;have hw:=ay hi hl;have hlt:((i:Int)<a.covers.l.length):=by omega
   simp [u7,h0,h1,hsx,hsy,hlt,hw,bz]
 . simp [u7,h0,h1,hab]
theorem YT (H:Doc19E E)(a b:Vw)(ha:a.ok)(hs:Vsm a b)(h:Hp):Sm E TDq jC 28 [a.v,b.v] h=some (bl true,h):=by
 obtain ⟨he,hl,hn⟩:=hs;have n1:=λh=>(aU (E:=E) (T:=TDq) (val:=jC) (f:=62) (by kernel_rfl)).trans (H.e38 a.cfg b.cfg ha.2 h);rw [Cfg.same_iff.2 hn] at n1;have hcv:∀ v:Vw,v.cfg.v=.agg [.d (.int .u64 0),.d (.int .u64 0),.d (i64 0),.d (i64 0),.d (v.pods.d Pod.c),.d (v.services.d Svc.c),.d (v.bound.d Way.c),.d (v.policies.d Pol.c)]:=λ_=>rfl;simp only [hcv] at n1;have q:=X5 (E:=E) a b hl (ce ha.1.1 (by decide)) [.cells (a.c.map .d),.cells (b.c.map .d)] rfl rfl 0;have ez:((0:Nat):Int)=0:=rfl;rw [ez] at q;rw [aQ Zc rfl];simp +decide [aa,q66,hl,he,aA];rw [au];simp [q,n1,aB,put,aA]
theorem S85 {a b:Sl Int}(ha:short a)(hab:a.l=b.l)(h:Hp):Sm E TDq jC 27 [.d (a.d bz),.d (b.d bz)] h=some (bl true,h):=by
 have hl:a.l.length<2 ^ 62:=ha.lt;have key:=bR (E:=E) (T:=TDq) (val:=jC) (keep:=[0,1,5]) (body:=xV) a.l (λ_=>true) (λi=>[(0,.d (a.d bz)),(1,.d (b.d bz)),(5,.d (i64 i))]) ⟨[],0⟩ (.ret,[(4,bl false)],⟨[],0⟩) (.exit 0,[],⟨[],0⟩) (λi x hx hi W=>?_) (λW=>?_)
 . have ht:(a.l.all λ_=>true)=true:=cj.2 λ_ _=>rfl;rw [ht] at key;have ez:((0:Nat):Int)=0:=rfl;rw [ez] at key;have hlb:=congrArg List.length hab;rw [aQ Ze rfl];simp [aa,q85,hlb,aA];rw [au];simp [key]
 . have hsx:=λh=>av (z:=1) h hx (cells:=bz) rfl;have hsy:=λh=>av (z:=1) h (s:=b) (hab ▸ hx) (cells:=bz) rfl;have hw:=ay hi hl;have hlt:((i:Int)<a.l.length):=by omega
   simp [xV,hsx,hsy,hlt,hw,bz]
 . simp [xV]
theorem I8 {h:Hp}{x:Ack}:eqv (.agg [(.i .u64),(.i .u64),(.i .u64),(.i .i64)]) true (ag x.c) (ag x.c) h=some (.d (.bool false),h):=by
 simp [eqv,fV,ag,Ack.c,bB,ma]
theorem S23 {a b:Sl Ack}(ha:short a)(hab:a.l=b.l)(h:Hp):Sm E TDq jC 10 [.d (a.d Ack.c),.d (b.d Ack.c)] h=some (bl true,h):=by
 have hl:a.l.length<2 ^ 62:=ha.lt;have key:=bR (E:=E) (T:=TDq) (val:=jC) (keep:=[0,1,5]) (body:=xO) a.l (λ_=>true) (λi=>[(0,.d (a.d Ack.c)),(1,.d (b.d Ack.c)),(5,.d (i64 i))]) ⟨[],0⟩ (.ret,[(4,bl false)],⟨[],0⟩) (.exit 0,[],⟨[],0⟩) (λi x hx hi W=>?_) (λW=>?_)
 . have ht:(a.l.all λ_=>true)=true:=cj.2 λ_ _=>rfl;rw [ht] at key;have ez:((0:Nat):Int)=0:=rfl;rw [ez] at key;have hlb:=congrArg List.length hab;rw [aQ QQ rfl];simp [aa,q23,hlb,aA];rw [au];simp [key]
 . have hsx:=λh=>av (z:=4) h hx (cells:=Ack.c) rfl;have hsy:=λh=>av (z:=4) h (s:=b) (hab ▸ hx) (cells:=Ack.c) rfl;have hw:=ay hi hl;have hlt:((i:Int)<a.l.length):=by omega
   simp [xO,hsx,hsy,hlt,hw,I8]
 . simp [xO]
def lK (x:Idx):List V:=[.d (i64 x.node),.d (u64 x.inc),.d (u64 x.asked),.d (x.addrs.d bz),.d (u64 x.since),.d (u64 x.life),.d (u64 x.seq),.d (u64 x.view.epoch),.d (x.view.covers.d bz),.d (x.view.pods.d Pod.c),.d (x.view.services.d Svc.c),.d (x.view.bound.d Way.c),.d (x.view.policies.d Pol.c),.d (u64 x.high)]
def Ism (a b:Idx):Prop:=a.node=b.node/\a.inc=b.inc/\a.asked=b.asked/\a.addrs.l=b.addrs.l/\a.since=b.since/\a.life=b.life/\a.seq=b.seq/\a.high=b.high/\Vsm a.view b.view
theorem S24 (H:Doc19E E){a b:Idx}(ha:short a.addrs)(hv:a.view.ok)(hs:Ism a b)(h:Hp):Sm E TDq jC 11 [a.v,b.v] h=some (bl true,h):=by
 obtain ⟨h1,h2,h3,h4,h5,h6,h7,h8,h9⟩:=hs;have n1:=λh=>S85 (E:=E) ha h4 h;have n2:=λh=>YT H a.view b.view hv h9 h;have e1:∀ x:Idx,x.c.map V.d=lK x:=λ_=>rfl;have e2:∀ v:Vw,(v.v:V)=.agg [.d (u64 v.epoch),.d (v.covers.d bz),.d (v.pods.d Pod.c),.d (v.services.d Svc.c),.d (v.bound.d Way.c),.d (v.policies.d Pol.c)]:=λ_=>rfl;simp only [e2] at n2;rw [aQ QR rfl];simp [aa,q24,e1,lK,h1,h2,h3,h5,h6,h7,h8,n1,n2]
theorem S21 (H:Doc19E E)(x:Idx)(ha:short x.addrs)(hv:x.view.ok)(h:Hp):Sm E TDq jC 7 [x.v] h=some (x.own19.v,h):=by
 have n1:=λh=>S83 H x.view hv h;have e2:∀ v:Vw,(v.v:V)=.agg [.d (u64 v.epoch),.d (v.covers.d bz),.d (v.pods.d Pod.c),.d (v.services.d Svc.c),.d (v.bound.d Way.c),.d (v.policies.d Pol.c)]:=λ_=>rfl;simp only [e2] at n1;obtain ⟨r,bs,a,l,k,hr,u⟩:=Dx (cells:=bz) (z:=1) (by_:=4) (λ_=>rfl) (by decide) (by decide) ha [.cells (lK x),.cells [.d (i64 0),.d (.int .u64 0),.d (.int .u64 0),.d (.slice true []),.d (.int .u64 0),.d (.int .u64 0),.d (.int .u64 0),.d (.int .u64 0),.d (.slice true []),.d (.slice true []),.d (.slice true []),.d (.slice true []),.d (.slice true []),.d (.int .u64 0)]];have g0:ai bs 0=some (lK x):=by unfold ai; rw [k 0 (by simp)]; rfl
 have g1:ai bs 1=some [.d (i64 0),.d (.int .u64 0),.d (.int .u64 0),.d (.slice true []),.d (.int .u64 0),.d (.int .u64 0),.d (.int .u64 0),.d (.int .u64 0),.d (.slice true []),.d (.slice true []),.d (.slice true []),.d (.slice true []),.d (.slice true []),.d (.int .u64 0)]:=by unfold ai; rw [k 1 (by simp)]; rfl
 have hx:r≠.d (.slice true []):=by rintro rfl; exact absurd (u 0 (by simp)) (by simp [V.under])
 have e1:x.c.map V.d=lK x:=rfl;have hlb:2<=bs.length:=by simpa using l
 have gs0:∀ X,ai (bs.set 0 (.cells X)) 0=some X:=λX=>aN g0;have gs01:∀ X,ai (bs.set 0 (.cells X)) 1=some _:=λX=>(bi (by decide)).trans g1;have gs1:∀ X Y,ai ((bs.set 0 (.cells X)).set 1 (.cells Y)) 1=some Y:=λX Y=>aN (gs01 X);have rc:=hr.cl;have rn:=hr.nu;have dat:=λX Y=>(hr.on (bs':=(bs.set 0 (.cells X)).set 1 (.cells Y)) (λy h1 h2=>by simp at h1; rw [ac (by omega),ac (by omega)])).datN hx 0 7;rw [aQ Zb rfl];simp [lK] at a g0;simp [aa,q21,e1,lK,rc,rn,n1,a,g0,gs0,gs01,gs1,az,ae,aL,aG,Tr.spares,List.range,List.range.loop,aA];simp [bP,dat,Idx.own19,Idx.c,Vw.own17,Vw.c,fT,Sl.d];rfl
end
set_option maxHeartbeats 2000000
section
variable {E:Calls'}
def lH (x:Idx)(p:Psh):Vw:=if p.upon=0 then vw0 else x.view
def aS (x:Idx)(p:Psh):Idx×List Ack :=
 if p.inc≠x.inc\/p.life=0\/p.life<x.life\/p.seq=0\/(p.life=x.life/\p.seq<x.seq) then (x.own19,[])
 else if p.life=x.life/\p.seq=x.seq then (x.own19,[⟨p.life,p.inc,p.seq,1⟩])
 else if (p.upon=0\/(p.life=x.life/\p.upon=x.seq))/\x.high<=p.delta.epoch/\jf (lH x p) p.delta=true then ({ x.own19 with life:=p.life,seq:=p.seq,view:=cz (lH x p) p.delta,high:=p.delta.epoch },[⟨p.life,p.inc,p.seq,1⟩])
 else (x.own19,[⟨p.life,p.inc,p.seq,0⟩])
section
variable {x:Idx}
theorem jX:sub (x.c.map V.d) 0 14=some (x.c.map V.d):=rfl
theorem mR:sub (x.c.map V.d) 1 1=some [.d (u64 x.inc)]:=rfl
theorem mU:sub (x.c.map V.d) 5 1=some [.d (u64 x.life)]:=rfl
theorem jY:sub (x.c.map V.d) 6 1=some [.d (u64 x.seq)]:=rfl
theorem kS:sub (x.c.map V.d) 7 6=some (x.view.c.map V.d):=rfl
theorem jh:sub (x.c.map V.d) 13 1=some [.d (u64 x.high)]:=rfl
theorem ji {m:Int}:put (x.c.map V.d) 5 [.d (u64 m)]=some ((Idx.c { x with life:=m }).map .d):=rfl
theorem jk {m:Int}:put (x.c.map V.d) 6 [.d (u64 m)]=some ((Idx.c { x with seq:=m }).map .d):=rfl
theorem jl {v:Vw}:put (x.c.map V.d) 7 (v.c.map V.d)=some ((Idx.c { x with view:=v }).map .d):=rfl
theorem fG {m:Int}:put (x.c.map V.d) 13 [.d (u64 m)]=some ((Idx.c { x with high:=m }).map .d):=rfl
theorem iM:put [V.d (i64 0),(.d (.int .u64 0)),(.d (.int .u64 0)),(.d (.slice true [])),(.d (.int .u64 0)),(.d (.int .u64 0)),(.d (.int .u64 0)),(.d (.int .u64 0)),(.d (.slice true [])),(.d (.slice true [])),(.d (.slice true [])),(.d (.slice true [])),(.d (.slice true [])),(.d (.int .u64 0))] 0 (x.c.map V.d)=some (x.c.map V.d):=rfl
theorem iL:(x.c.map V.d).drop 14=[]:=rfl
theorem jo:x.own19.inc=x.inc:=rfl
theorem jq:x.own19.life=x.life:=rfl
theorem jr:x.own19.seq=x.seq:=rfl
theorem jv:x.own19.high=x.high:=rfl
end
theorem S22 (H:Doc19E E)(x:Idx)(hx:Whole x)(p:Psh)(h84:∀ v:Vw,v.ok->(∀ q∈v.policies.l,q.wf big)->∀ h,E 26 [v.v,p.delta.v] h=some (if jf v p.delta=true then .tup [(cz v p.delta).v,.d (i64 0)] else .tup [vw0.v,.d (i64 1)],h))(h:Hp) :
 Sm E TDq jC 9 [x.v,ag p.c] h=some (.tup [(aS x p).1.v,.d (Sl.d Ack.c ⟨(aS x p).2.isEmpty,(aS x p).2⟩)],h):=by
 have n21:=λh=>S21 H x hx.addrs hx.view h;have n84:∀ v:Vw,v.ok->(∀ q∈v.policies.l,q.wf big)->∀ h,Sm E TDq jC 26 [v.v,p.delta.v] h=_:=λv h1 h2 h=>(aU (by kernel_rfl)).trans (h84 v h1 h2 h);have n840:∀ h,Sm E TDq jC 26 [.agg [.d (.int .u64 0),.d (.slice true []),.d (.slice true []),.d (.slice true []),.d (.slice true []),.d (.slice true [])],ag p.delta.c] h=some (if jf vw0 p.delta=true then .tup [ag (cz vw0 p.delta).c,.d (i64 0)] else .tup [ag vw0.c,.d (i64 1)],h):=n84 vw0 Cc λp hp=>by cases hp
 have n841:∀ h,Sm E TDq jC 26 [ag x.view.c,ag p.delta.c] h=some (if jf x.view p.delta=true then .tup [ag (cz x.view p.delta).c,.d (i64 0)] else .tup [ag vw0.c,.d (i64 1)],h):=n84 x.view hx.view hx.wf;have ov:∀ y:Idx,(y.v:V)=ag y.c:=λ_=>rfl;have z6:∀ x:Vw,put [V.d (.int .u64 0),.d (.slice true []),.d (.slice true []),.d (.slice true []),.d (.slice true []),.d (.slice true [])] 0 (x.c.map V.d)=some (x.c.map V.d):=λ_=>rfl;have v0:∀ x:Vw,sub (x.c.map V.d) 0 1=some [.d (u64 x.epoch)]:=λ_=>rfl;have v6:∀ x:Vw,sub (x.c.map V.d) 0 6=some (x.c.map V.d):=λ_=>rfl;have dr6:∀ x:Vw,(x.c.map V.d).drop 6=[]:=λ_=>rfl;have d46:∀ (a b c d f:Blk) (k1 k2 k3 k4:Int) lo,dataV ⟨[a,b,c,d,.cells [.d (u64 k1),.d (u64 k2),.d (u64 k3),.d (i64 k4)],f],lo⟩ 8 (.row 4 0 1 (some 1) 4)=some (.slice false [[u64 k1,u64 k2,u64 k3,i64 k4]]):=λa b c d f k1 k2 k3 k4 lo =>
  eH (h:=⟨[a,b,c,d,.cells [.d (u64 k1),.d (u64 k2),.d (u64 k3),.d (i64 k4)],f],lo⟩) (k:=7) (b:=4) (n:=1) (cap:=some 1) (z:=4) (es:=[[u64 k1,u64 k2,u64 k3,i64 k4]]) (rest:=[]) (by simp) rfl rfl
 have d56:∀ (a b c d f:Blk) (k1 k2 k3 k4:Int) lo,dataV ⟨[a,b,c,d,f,.cells [.d (u64 k1),.d (u64 k2),.d (u64 k3),.d (i64 k4)]],lo⟩ 8 (.row 5 0 1 (some 1) 4)=some (.slice false [[u64 k1,u64 k2,u64 k3,i64 k4]]):=λa b c d f k1 k2 k3 k4 lo =>
  eH (h:=⟨[a,b,c,d,f,.cells [.d (u64 k1),.d (u64 k2),.d (u64 k3),.d (i64 k4)]],lo⟩) (k:=7) (b:=5) (n:=1) (cap:=some 1) (z:=4) (es:=[[u64 k1,u64 k2,u64 k3,i64 k4]]) (rest:=[]) (by simp) rfl rfl
 have d48:∀ (a b c d f g i:Blk) (k1 k2 k3 k4:Int) lo,dataV ⟨[a,b,c,d,.cells [.d (u64 k1),.d (u64 k2),.d (u64 k3),.d (i64 k4)],f,g,i],lo⟩ 8 (.row 4 0 1 (some 1) 4)=some (.slice false [[u64 k1,u64 k2,u64 k3,i64 k4]]):=λa b c d f g i k1 k2 k3 k4 lo =>
  eH (h:=⟨[a,b,c,d,.cells [.d (u64 k1),.d (u64 k2),.d (u64 k3),.d (i64 k4)],f,g,i],lo⟩) (k:=7) (b:=4) (n:=1) (cap:=some 1) (z:=4) (es:=[[u64 k1,u64 k2,u64 k3,i64 k4]]) (rest:=[]) (by simp) rfl rfl
 have d58:∀ (a b c d f g i:Blk) (k1 k2 k3 k4:Int) lo,dataV ⟨[a,b,c,d,f,.cells [.d (u64 k1),.d (u64 k2),.d (u64 k3),.d (i64 k4)],g,i],lo⟩ 8 (.row 5 0 1 (some 1) 4)=some (.slice false [[u64 k1,u64 k2,u64 k3,i64 k4]]):=λa b c d f g i k1 k2 k3 k4 lo =>
  eH (h:=⟨[a,b,c,d,f,.cells [.d (u64 k1),.d (u64 k2),.d (u64 k3),.d (i64 k4)],g,i],lo⟩) (k:=7) (b:=5) (n:=1) (cap:=some 1) (z:=4) (es:=[[u64 k1,u64 k2,u64 k3,i64 k4]]) (rest:=[]) (by simp) rfl rfl
 by_cases c1:p.inc=x.inc
 case neg =>
  have hts:aS x p=(x.own19,[]):=by unfold aS; rw [if_pos (.inl c1)]
  rw [hts,aQ mM rfl];simp +decide [aa,q22,aB,n21,jX,mR,mU,jY,kS,jh,ji,jk,jl,fG,iM,iL,jo,jq,jr,jv,z6,d46,d56,d48,d58,az,ae,aL,c1]<;>first | rfl | exact And.intro rfl rfl
 by_cases c2:p.life=0
 case pos =>
  have hts:aS x p=(x.own19,[]):=by unfold aS; rw [if_pos (.inr (.inl c2))]
  rw [hts,aQ mM rfl];simp +decide [aa,q22,aB,n21,jX,mR,mU,jY,kS,jh,ji,jk,jl,fG,iM,iL,jo,jq,jr,jv,z6,d46,d56,d48,d58,az,ae,aL,c1,c2]<;>first | rfl | exact And.intro rfl rfl
 by_cases c3:p.life<x.life
 case pos =>
  have hts:aS x p=(x.own19,[]):=by unfold aS; rw [if_pos (.inr (.inr (.inl c3)))]
  rw [hts,aQ mM rfl];simp +decide [aa,q22,aB,n21,jX,mR,mU,jY,kS,jh,ji,jk,jl,fG,iM,iL,jo,jq,jr,jv,z6,d46,d56,d48,d58,az,ae,aL,c1,c2,c3]<;>first | rfl | exact And.intro rfl rfl
 by_cases c4:p.seq=0
 case pos =>
  have hts:aS x p=(x.own19,[]):=by unfold aS; rw [if_pos (.inr (.inr (.inr (.inl c4))))]
  rw [hts,aQ mM rfl];simp +decide [aa,q22,aB,n21,jX,mR,mU,jY,kS,jh,ji,jk,jl,fG,iM,iL,jo,jq,jr,jv,z6,d46,d56,d48,d58,az,ae,aL,c1,c2,c3,c4]<;>first | rfl | exact And.intro rfl rfl
 by_cases s:p.life=x.life
 case pos =>
  have s2:¬ x.life=0:=by omega
  have s3:¬ x.life<x.life:=by omega
  by_cases c5:p.seq<x.seq
  case pos =>
   have hts:aS x p=(x.own19,[]):=by unfold aS; rw [if_pos (.inr (.inr (.inr (.inr ⟨s,c5⟩))))]
   rw [hts,aQ mM rfl];simp +decide [aa,q22,aB,n21,jX,mR,mU,jY,kS,jh,ji,jk,jl,fG,iM,iL,jo,jq,jr,jv,z6,d46,d56,d48,d58,az,ae,aL,c1,s,s2,s3,c4,c5]<;>first | rfl | exact And.intro rfl rfl
  by_cases c6:p.seq=x.seq
  case pos =>
   have c4':¬ x.seq=0:=by omega
   have c5':¬ x.seq<x.seq:=by omega
   have hts:aS x p=(x.own19,[⟨p.life,p.inc,p.seq,1⟩]):=by unfold aS; rw [if_neg (by omega),if_pos ⟨s,c6⟩]
   rw [hts,aQ mM rfl];simp +decide [aa,q22,aB,n21,jX,mR,mU,jY,kS,jh,ji,jk,jl,fG,iM,iL,jo,jq,jr,jv,z6,d46,d56,d48,d58,az,ae,aL,c1,s,s2,s3,c6,c4',c5']<;>first | rfl | exact And.intro rfl rfl
  by_cases c7:p.upon=0
  case pos =>
   have hdb:lH x p=vw0:=by unfold lH; rw [if_pos c7]
   by_cases c8:x.high<=p.delta.epoch
   case neg =>
    have c8':p.delta.epoch<x.high:=by omega
    have hts:aS x p=(x.own19,[⟨p.life,p.inc,p.seq,0⟩]):=by unfold aS; rw [if_neg (by omega),if_neg (by omega),if_neg (λh=>c8 h.2.1)]
    rw [hts,aQ mM rfl];simp +decide [aa,q22,aB,n21,jX,mR,mU,jY,kS,jh,ji,jk,jl,fG,iM,iL,jo,jq,jr,jv,z6,d46,d56,d48,d58,az,ae,aL,c1,s,s2,s3,c4,c5,c6,c7,c8']<;>first | rfl | exact And.intro rfl rfl
   have c8':¬ p.delta.epoch<x.high:=by omega
   cases dk:jf vw0 p.delta with
   | false =>
    simp only [dk] at n840;have hts:aS x p=(x.own19,[⟨p.life,p.inc,p.seq,0⟩]):=by unfold aS; rw [if_neg (by omega),if_neg (by omega),if_neg (λh=>by rw [hdb,dk] at h; exact absurd h.2.2 (by decide))]
    rw [hts,aQ mM rfl];simp +decide [aa,q22,aB,n21,jX,mR,mU,jY,kS,jh,ji,jk,jl,fG,iM,iL,jo,jq,jr,jv,z6,d46,d56,d48,d58,az,ae,aL,c1,s,s2,s3,c4,c5,c6,c7,c8',n840,v0,v6,dr6]<;>first | rfl | exact And.intro rfl rfl
   | true =>
    simp only [dk] at n840;have hts:aS x p=({ x.own19 with life:=p.life,seq:=p.seq,view:=cz (lH x p) p.delta,high:=p.delta.epoch },[⟨p.life,p.inc,p.seq,1⟩]):=by unfold aS; rw [if_neg (by omega),if_neg (by omega),if_pos ⟨.inl c7,c8,by rw [hdb]; exact dk⟩]
    rw [hts,aQ mM rfl];simp +decide [aa,q22,aB,n21,jX,mR,mU,jY,kS,jh,ji,jk,jl,fG,iM,iL,jo,jq,jr,jv,z6,d46,d56,d48,d58,az,ae,aL,c1,s,s2,s3,c4,c5,c6,c7,c8',hdb,n840,v0,v6,dr6]<;>first | rfl | exact And.intro rfl rfl
  by_cases c10:p.upon=x.seq
  case neg =>
   have hts:aS x p=(x.own19,[⟨p.life,p.inc,p.seq,0⟩]):=by unfold aS; rw [if_neg (by omega),if_neg (by omega),if_neg (λh=>by obtain h | h:=h.1; exact c7 h; exact c10 h.2)]
   rw [hts,aQ mM rfl];simp +decide [aa,q22,aB,n21,jX,mR,mU,jY,kS,jh,ji,jk,jl,fG,iM,iL,jo,jq,jr,jv,z6,d46,d56,d48,d58,az,ae,aL,c1,s,s2,s3,c4,c5,c6,c7,c10]<;>first | rfl | exact And.intro rfl rfl
  have c7':¬ x.seq=0:=by omega
  have hdb:lH x p=x.view:=by unfold lH; rw [if_neg c7]
  by_cases c8:x.high<=p.delta.epoch
  case neg =>
   have c8':p.delta.epoch<x.high:=by omega
   have hts:aS x p=(x.own19,[⟨p.life,p.inc,p.seq,0⟩]):=by unfold aS; rw [if_neg (by omega),if_neg (by omega),if_neg (λh=>c8 h.2.1)]
   rw [hts,aQ mM rfl];simp +decide [aa,q22,aB,n21,jX,mR,mU,jY,kS,jh,ji,jk,jl,fG,iM,iL,jo,jq,jr,jv,z6,d46,d56,d48,d58,az,ae,aL,c1,s,s2,s3,c4,c5,c6,c10,c7',c8']<;>first | rfl | exact And.intro rfl rfl
  have c8':¬ p.delta.epoch<x.high:=by omega
  cases dk:jf x.view p.delta with
  | false =>
   simp only [dk] at n841;have hts:aS x p=(x.own19,[⟨p.life,p.inc,p.seq,0⟩]):=by unfold aS; rw [if_neg (by omega),if_neg (by omega),if_neg (λh=>by rw [hdb,dk] at h; exact absurd h.2.2 (by decide))]
   rw [hts,aQ mM rfl];simp +decide [aa,q22,aB,n21,jX,mR,mU,jY,kS,jh,ji,jk,jl,fG,iM,iL,jo,jq,jr,jv,z6,d46,d56,d48,d58,az,ae,aL,c1,s,s2,s3,c4,c5,c6,c10,c7',c8',n841,v0,v6,dr6]<;>first | rfl | exact And.intro rfl rfl
  | true =>
   simp only [dk] at n841;have hts:aS x p=({ x.own19 with life:=p.life,seq:=p.seq,view:=cz (lH x p) p.delta,high:=p.delta.epoch },[⟨p.life,p.inc,p.seq,1⟩]):=by unfold aS; rw [if_neg (by omega),if_neg (by omega),if_pos ⟨.inr ⟨s,c10⟩,c8,by rw [hdb]; exact dk⟩]
   rw [hts,aQ mM rfl];simp +decide [aa,q22,aB,n21,jX,mR,mU,jY,kS,jh,ji,jk,jl,fG,iM,iL,jo,jq,jr,jv,z6,d46,d56,d48,d58,az,ae,aL,c1,s,s2,s3,c4,c5,c6,c10,c7',c8',hdb,n841,v0,v6,dr6]<;>first | rfl | exact And.intro rfl rfl
 by_cases c7:p.upon=0
 case pos =>
  have hdb:lH x p=vw0:=by unfold lH; rw [if_pos c7]
  by_cases c8:x.high<=p.delta.epoch
  case neg =>
   have c8':p.delta.epoch<x.high:=by omega
   have hts:aS x p=(x.own19,[⟨p.life,p.inc,p.seq,0⟩]):=by unfold aS; rw [if_neg (by omega),if_neg (by omega),if_neg (λh=>c8 h.2.1)]
   rw [hts,aQ mM rfl];simp +decide [aa,q22,aB,n21,jX,mR,mU,jY,kS,jh,ji,jk,jl,fG,iM,iL,jo,jq,jr,jv,z6,d46,d56,d48,d58,az,ae,aL,c1,c2,c3,c4,s,c7,c8']<;>first | rfl | exact And.intro rfl rfl
  have c8':¬ p.delta.epoch<x.high:=by omega
  cases dk:jf vw0 p.delta with
  | false =>
   simp only [dk] at n840;have hts:aS x p=(x.own19,[⟨p.life,p.inc,p.seq,0⟩]):=by unfold aS; rw [if_neg (by omega),if_neg (by omega),if_neg (λh=>by rw [hdb,dk] at h; exact absurd h.2.2 (by decide))]
   rw [hts,aQ mM rfl];simp +decide [aa,q22,aB,n21,jX,mR,mU,jY,kS,jh,ji,jk,jl,fG,iM,iL,jo,jq,jr,jv,z6,d46,d56,d48,d58,az,ae,aL,c1,c2,c3,c4,s,c7,c8',n840,v0,v6,dr6]<;>first | rfl | exact And.intro rfl rfl
  | true =>
   simp only [dk] at n840;have hts:aS x p=({ x.own19 with life:=p.life,seq:=p.seq,view:=cz (lH x p) p.delta,high:=p.delta.epoch },[⟨p.life,p.inc,p.seq,1⟩]):=by unfold aS; rw [if_neg (by omega),if_neg (by omega),if_pos ⟨.inl c7,c8,by rw [hdb]; exact dk⟩]
   rw [hts,aQ mM rfl];simp +decide [aa,q22,aB,n21,jX,mR,mU,jY,kS,jh,ji,jk,jl,fG,iM,iL,jo,jq,jr,jv,z6,d46,d56,d48,d58,az,ae,aL,c1,c2,c3,c4,s,c7,c8',hdb,n840,v0,v6,dr6]<;>first | rfl | exact And.intro rfl rfl
 have hts:aS x p=(x.own19,[⟨p.life,p.inc,p.seq,0⟩]):=by unfold aS; rw [if_neg (by omega),if_neg (by omega),if_neg (λh=>by obtain h | h:=h.1; exact c7 h; exact s h.1)]
 rw [hts,aQ mM rfl];simp +decide [aa,q22,aB,n21,jX,mR,mU,jY,kS,jh,ji,jk,jl,fG,iM,iL,jo,jq,jr,jv,z6,d46,d56,d48,d58,az,ae,aL,c1,c2,c3,c4,s,c7]<;>first | rfl | exact And.intro rfl rfl
end
section
section
variable {α:Type}{key:α->Int}{f:α->α}
theorem zX (hf:∀ x,key (f x)=key x)(l fresh:List α)(gone:List Int):(bL key l fresh gone).map f=bL key (l.map f) (fresh.map f) gone:=by
 have h1:∀ x,fI key (fresh.map f) gone (f x)=fI key fresh gone x:=λx=>by
  simp only [fI,hf,List.any_map]
  congr 2
  congr 1
  funext y;simp [hf]
 unfold bL;rw [List.map_mergeSort (s:=λa b=>decide (key a<=key b)) (λa _ b _=>by simp [hf]),List.map_append,List.filter_map]
 congr 3
 congr 1
 funext x;exact (h1 x).symm
end
end
