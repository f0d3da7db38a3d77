/- The document's does: a service, a way, a policy taken out. -/
import Derived.Test.YtmcchclfpneglaaGreatXn
set_option maxRecDepth 100000
set_option linter.unusedVariables false
set_option linter.unusedSimpArgs false
namespace Go.Proofs.YtmcchclfpneglaaGreat
open IntKind (wrap)
section
variable {E:Calls'}
theorem FT {α β:Type}{f:α->β}{l:List α}{k:Nat}:(l.map f).eraseIdx k=(l.eraseIdx k).map f:=by
 simp [List.eraseIdx_eq_take_drop_succ,List.map_take,List.map_drop]
theorem M4 (c:Cfg)(hc:c.ok)(e:Edt){L0 L1 L2 L3:Nat}{H:List Blk}{v4 v5 v6 v7:V}(S:DS c e L0 L1 L2 L3 H v4 v5 v6 v7)(n:Int):Cd E TY gQ (.loop [2,3,4,9,10] zG) [(2,.ptr 0 0),(3,.ptr 1 0),(4,.ptr 2 0),(9,.d (i64 n)),(10,.d (i64 ((0:Nat):Int)))] ⟨H,0⟩ =
 some (cond (c.pods.l.all fun p=>!(p.service==e.id)) (.exit 1,[(2,.ptr 0 0),(3,.ptr 1 0),(4,.ptr 2 0),(9,.d (i64 n))],⟨H,0⟩) (.ret,[(4,.ptr 2 0),(5,.d (i64 5))],⟨H.set 2 (.cells (cq c v4 v5 v6 v7)),0⟩)):=by
 have c0:=S.c0; have c1:=S.e1; have c2:=S.a2;simp only [z8] at c2;have hlen:=hc.1.lt;have hvl:=S.r4.len;simp only [bx] at hvl;have u4:=S.r4.nu; have u5:=S.r5.nu; have u6:=S.r6.nu; have u7:=S.r7.nu;refine bS c.pods.l (fun p=>!(p.service==e.id)) (fun i=>[(2,.ptr 0 0),(3,.ptr 1 0),(4,.ptr 2 0),(9,.d (i64 n)),(10,.d (i64 i))]) _ _ _ (fun i x hx hi W=>?_) (fun W=>?_)
 · obtain ⟨b,b1,b2,b3,b4,b5,b6⟩:=S.r4.at (i:=i) (e:=x.c) (by simp [hx]);have s1:=(b5 6 1 (by decide)).trans (show _=some [.d (u64 x.service)] from by simp [Pod.c]);have hw:=ak hi hlen;have h0:((i:Int)<c.pods.l.length):=by omega
   by_cases q:x.service=e.id<;>simp [zG,c0,c1,c2,cs4,cs5,cs6,cs7,cs8,cql,u4,u5,u6,u7,hvl,b3,b4,s1,h0,hw,q]
 · simp [zG,c0,cs4,cs5,cs6,cs7,u4,u5,u6,u7,hvl]
theorem M5 (c:Cfg)(hc:c.ok)(e:Edt){L0 L1 L2 L3:Nat}{H:List Blk}{v4 v5 v6 v7:V}(S:DS c e L0 L1 L2 L3 H v4 v5 v6 v7)(n:Int):Cd E TY gQ (.loop [2,3,4,9,11] zH) [(2,.ptr 0 0),(3,.ptr 1 0),(4,.ptr 2 0),(9,.d (i64 n)),(11,.d (i64 ((0:Nat):Int)))] ⟨H,0⟩ =
 some (cond (c.policies.l.all fun p=>!(p.service==e.id)) (.exit 3,[(2,.ptr 0 0),(4,.ptr 2 0),(9,.d (i64 n))],⟨H,0⟩) (.ret,[(4,.ptr 2 0),(5,.d (i64 5))],⟨H.set 2 (.cells (cq c v4 v5 v6 v7)),0⟩)):=by
 have c0:=S.c0; have c1:=S.e1; have c2:=S.a2;simp only [z8] at c2;have hlen:=hc.2.2.2.1.lt;have hvl:=S.r7.len;simp only [bx] at hvl;have u4:=S.r4.nu; have u5:=S.r5.nu; have u6:=S.r6.nu; have u7:=S.r7.nu;refine bS c.policies.l (fun p=>!(p.service==e.id)) (fun i=>[(2,.ptr 0 0),(3,.ptr 1 0),(4,.ptr 2 0),(9,.d (i64 n)),(11,.d (i64 i))]) _ _ _ (fun i x hx hi W=>?_) (fun W=>?_)
 · obtain ⟨b,b1,b2,b3,b4,b5,b6⟩:=S.r7.at (i:=i) (e:=x.cp.c) (by simp [hx]);have s1:=(b5 2 1 (by decide)).trans (show _=some [.d (u64 x.service)] from by simp [Pol.cp_c]);have hw:=ak hi hlen;have h0:((i:Int)<c.policies.l.length):=by omega
   by_cases q:x.service=e.id<;>simp [zH,c0,c1,c2,cs4,cs5,cs6,cs7,cs8,cql,u4,u5,u6,u7,hvl,b3,b4,s1,h0,hw,q]
 · simp [zH,c0,cs4,cs5,cs6,cs7,u4,u5,u6,u7,hvl]
theorem M6 (c:Cfg)(hc:c.ok)(e:Edt){L0 L1 L2 L3:Nat}{H:List Blk}{v4 v5 v6 v7:V}(S:DS c e L0 L1 L2 L3 H v4 v5 v6 v7)(n:Int):Cd E TY gQ (.loop [2,3,4,12,13] zI) [(2,.ptr 0 0),(3,.ptr 1 0),(4,.ptr 2 0),(12,.d (i64 n)),(13,.d (i64 ((0:Nat):Int)))] ⟨H,0⟩ =
 some (cond (c.services.l.all fun p=>!(p.way==e.id)) (.exit 5,[(2,.ptr 0 0),(4,.ptr 2 0),(12,.d (i64 n))],⟨H,0⟩) (.ret,[(4,.ptr 2 0),(5,.d (i64 5))],⟨H.set 2 (.cells (cq c v4 v5 v6 v7)),0⟩)):=by
 have c0:=S.c0; have c1:=S.e1; have c2:=S.a2;simp only [z8] at c2;have hlen:=hc.2.1.lt;have hvl:=S.r5.len;simp only [bx] at hvl;have u4:=S.r4.nu; have u5:=S.r5.nu; have u6:=S.r6.nu; have u7:=S.r7.nu;refine bS c.services.l (fun p=>!(p.way==e.id)) (fun i=>[(2,.ptr 0 0),(3,.ptr 1 0),(4,.ptr 2 0),(12,.d (i64 n)),(13,.d (i64 i))]) _ _ _ (fun i x hx hi W=>?_) (fun W=>?_)
 · obtain ⟨b,b1,b2,b3,b4,b5,b6⟩:=S.r5.at (i:=i) (e:=x.c) (by simp [hx]);have s1:=(b5 4 1 (by decide)).trans (show _=some [.d (u64 x.way)] from by simp [Svc.c]);have hw:=ak hi hlen;have h0:((i:Int)<c.services.l.length):=by omega
   by_cases q:x.way=e.id<;>simp [zI,c0,c1,c2,cs4,cs5,cs6,cs7,cs8,cql,u4,u5,u6,u7,hvl,b3,b4,s1,h0,hw,q]
 · simp [zI,c0,cs4,cs5,cs6,cs7,u4,u5,u6,u7,hvl]
theorem Nz (hE:DoesE E)(c:Cfg)(hc:c.ok)(e:Edt)(hk:e.kind=5)(hf:c.services.l.find? (fun p=>p.id==e.id)=none):Gives E c e c 4:=by
 obtain ⟨H,lo,v4,v5,v6,v7,L0,L1,L2,L3,a,g0,S,m0,m1,m2,m3,m4,U,f4,f5,f6,f7,G,fe,fra⟩:=jS hE c hc e;obtain ⟨hd8,hl8,g0',g1',g2',g2s⟩:=G;have hco:=lU hc;have hi:cu c.cp.services.l (fun p=>p.id==e.id)=-1:=by
  rcases gG (fun p:Svc=>p.id==e.id) c.services.l with ⟨h1,_⟩ | ⟨_,_,_,_,_,h4⟩
  · exact h1
  · rw [hf] at h4; cases h4
 have hcall:=fun lo=>(bC (E:=E) (T:=TY) (val:=gQ) (f:=80) (by kernel_rfl)).trans (hE.e111 c.cp e.id hco (.agg (cq c v4 v5 v6 v7)) ⟨H.set 0 (.cells (cq c v4 v5 v6 v7)),lo⟩ (fra lo));rw [hi] at hcall;refine ⟨c.cp.c,rfl,fun h=>(by omega),fun h=>?_⟩;rw [aV y96 z96];simp +decide [ae,q96,a,g0,hd8,hl8,g0',g1',g2',g2s,cqs,cqp,U,ai,aa,av,fe,hk,hcall]
theorem NB (hE:DoesE E)(c:Cfg)(hc:c.ok)(e:Edt)(hk:e.kind=7)(hf:c.bound.l.find? (fun p=>p.id==e.id)=none):Gives E c e c 4:=by
 obtain ⟨H,lo,v4,v5,v6,v7,L0,L1,L2,L3,a,g0,S,m0,m1,m2,m3,m4,U,f4,f5,f6,f7,G,fe,fra⟩:=jS hE c hc e;obtain ⟨hd8,hl8,g0',g1',g2',g2s⟩:=G;have hco:=lU hc;have hi:cu c.cp.bound.l (fun p=>p.id==e.id)=-1:=by
  rcases gG (fun p:Way=>p.id==e.id) c.bound.l with ⟨h1,_⟩ | ⟨_,_,_,_,_,h4⟩
  · exact h1
  · rw [hf] at h4; cases h4
 have hcall:=fun lo=>(bC (E:=E) (T:=TY) (val:=gQ) (f:=82) (by kernel_rfl)).trans (hE.e112 c.cp e.id hco (.agg (cq c v4 v5 v6 v7)) ⟨H.set 0 (.cells (cq c v4 v5 v6 v7)),lo⟩ (fra lo));rw [hi] at hcall;refine ⟨c.cp.c,rfl,fun h=>(by omega),fun h=>?_⟩;rw [aV y96 z96];simp +decide [ae,q96,a,g0,hd8,hl8,g0',g1',g2',g2s,cqs,cqp,U,ai,aa,av,fe,hk,hcall]
theorem NA (hE:DoesE E)(c:Cfg)(hc:c.ok)(e:Edt)(hk:e.kind=5){k:Nat}(hi:cu c.services.l (fun p=>p.id==e.id)=(k:Int))(hu:(c.pods.l.any fun p=>p.service==e.id)||(c.policies.l.any fun p=>p.service==e.id)):Gives E c e c 5:=by
 obtain ⟨H,lo,v4,v5,v6,v7,L0,L1,L2,L3,a,g0,S,m0,m1,m2,m3,m4,U,f4,f5,f6,f7,G,fe,fra⟩:=jS hE c hc e;obtain ⟨hd8,hl8,g0',g1',g2',g2s⟩:=G;have hco:=lU hc;have hcall:=fun lo=>(bC (E:=E) (T:=TY) (val:=gQ) (f:=80) (by kernel_rfl)).trans (hE.e111 c.cp e.id hco (.agg (cq c v4 v5 v6 v7)) ⟨H.set 0 (.cells (cq c v4 v5 v6 v7)),lo⟩ (fra lo));rw [show cu c.cp.services.l (fun p=>p.id==e.id)=(k:Int) from hi] at hcall;have hk0:¬ ((k:Int)<0):=by omega
 have a0:=M4 (E:=E) c hc e S k;have a1:=M5 (E:=E) c hc e S k;have n0:(c.pods.l.all fun p=>!(p.service==e.id))=!(c.pods.l.any fun p=>p.service==e.id):=by simp [List.not_any_eq_all_not]
 have n1:(c.policies.l.all fun p=>!(p.service==e.id))=!(c.policies.l.any fun p=>p.service==e.id):=by simp [List.not_any_eq_all_not]
 rw [n0] at a0;rw [n1] at a1;simp at a0 a1;refine ⟨c.cp.c,rfl,fun h=>(by omega),fun h=>?_⟩;rw [aV y96 z96];simp +decide [ae,q96,a,g0,hd8,hl8,g0',g1',g2',g2s,cqs,cqp,U,ai,aa,av,fe,hk,hcall,hk0];rw [au];cases hA:(c.pods.l.any fun p=>p.service==e.id) with
 | true =>
  rw [hA] at a0;simp at a0;simp [a0,ae,q96,a,g0,hd8,hl8,g0',g1',g2',g2s,cqs,cqp,U,ai,aa,av,fe]
 | false =>
  rw [hA] at a0 hu;simp at hu;have hu':(c.policies.l.any fun p=>p.service==e.id)=true:=by simpa using hu
  rw [hu'] at a1;simp at a0 a1;simp [a0];rw [au];simp [a1,ae,q96,a,g0,hd8,hl8,g0',g1',g2',g2s,cqs,cqp,U,ai,aa,av,fe]
theorem Q7 (hE:DoesE E)(c:Cfg)(hc:c.ok)(e:Edt)(hk:e.kind=5){k:Nat}(hi:cu c.services.l (fun p=>p.id==e.id)=(k:Int))(hkl:k<c.services.l.length)(hu:((c.pods.l.any fun p=>p.service==e.id)||(c.policies.l.any fun p=>p.service==e.id))=false):Gives E c e { c.cp with services:=⟨false,c.services.l.eraseIdx k⟩ } 0:=by
 obtain ⟨H,lo,v4,v5,v6,v7,L0,L1,L2,L3,a,g0,S,m0,m1,m2,m3,m4,U,f4,f5,f6,f7,G,fe,fra⟩:=jS hE c hc e;obtain ⟨hd8,hl8,g0',g1',g2',g2s⟩:=G;have hco:=lU hc;have hcall:=fun lo=>(bC (E:=E) (T:=TY) (val:=gQ) (f:=80) (by kernel_rfl)).trans (hE.e111 c.cp e.id hco (.agg (cq c v4 v5 v6 v7)) ⟨H.set 0 (.cells (cq c v4 v5 v6 v7)),lo⟩ (fra lo));rw [show cu c.cp.services.l (fun p=>p.id==e.id)=(k:Int) from hi] at hcall;have hk0:¬ ((k:Int)<0):=by omega
 simp at m4;have hlen:=hc.2.1.lt;have hw:wrap .i64 ((k:Int)+1)=((k+1:Nat):Int):=ak hkl hlen;obtain ⟨s1,s2,w,b2,F,hs1,hs2,⟨q1,q2,q3,q4⟩,ha,ko,kl,⟨tw,uw,ow⟩,hd⟩:=zK S.r5 (by decide) (by_:=48) (by decide) (by simpa using hc.2.1.1) (k:=k) (by simpa using hkl) (by simp; omega);simp at kl ko;have k0:af b2 0=some (cq c v4 v5 v6 v7):=by rw [← g0' (cq c v4 v5 v6 v7)]; unfold af; rw [ko 0 (by omega)]
 have k2:af b2 2=some [.d (.int .u64 0),.d (.int .u64 0),.d (i64 0),.d (i64 0),.d (.slice true []),.d (.slice true []),.d (.slice true []),.d (.slice true [])]:=by rw [← g2' (cq c v4 v5 v6 v7)]; unfold af; rw [ko 2 (by omega)]
 have k0s:∀ B,af (b2.set 0 (.cells B)) 0=some B:=fun B=>aK k0;have k2s:∀ B,af (b2.set 0 (.cells B)) 2=some [.d (.int .u64 0),.d (.int .u64 0),.d (i64 0),.d (i64 0),.d (.slice true []),.d (.slice true []),.d (.slice true []),.d (.slice true [])]:=fun B=>(aS (by decide)).trans k2;have k2t:∀ B B',af ((b2.set 0 (.cells B)).set 2 (.cells B')) 2=some B':=fun B B'=>aK (k2s B);have hJ:∀ (B B':List V) (x:Nat),3<=x->((b2.set 0 (.cells B)).set 2 (.cells B'))[x]?=b2[x]?:=fun B B' x hx=>by
  rw [am (by omega),am (by omega)]
 have hK:∀ (B B':List V) (x:Nat),3<=x->x<H.length->((b2.set 0 (.cells B)).set 2 (.cells B'))[x]?=(H.set 0 (.cells (cq c v4 v5 v6 v7)))[x]?:=fun B B' x hx hx2=>by
  rw [hJ B B' x hx,ko x hx2]
 have fz:∀ lo,bW ⟨(b2.set 0 (.cells (cq c v4 w v6 v7))).set 2 (.cells (cq c v4 w v6 v7)),lo⟩ (cq c v4 w v6 v7)=some ({ c.cp with services:=⟨false,c.services.l.eraseIdx k⟩ }:Cfg).c:=fun lo=>by
  rw [dW (c:=c) ((S.r4.on fun x h1 h2=>hK _ _ x (by omega) (by omega)).datN S.n4 lo 7) (hd _ lo 7 fun x h1 h2=>hJ _ _ x (by omega)) ((S.r6.on fun x h1 h2=>hK _ _ x (by omega) (by omega)).datN S.n6 lo 7)
   ((S.r7.on fun x h1 h2=>hK _ _ x (by omega) (by simpa using h2)).datE (fun h0=>S.n7 (by simpa using h0)) lo 7)]
  simp [Cfg.cp,Cfg.c,Sl.d,eO,gp,cj,FT]
 simp only [Bool.or_eq_false_iff] at hu;have a0:=M4 (E:=E) c hc e S k;have a1:=M5 (E:=E) c hc e S k;have n0:(c.pods.l.all fun p=>!(p.service==e.id))=true:=by rw [← List.not_any_eq_all_not,hu.1]; rfl
 have n1:(c.policies.l.all fun p=>!(p.service==e.id))=true:=by rw [← List.not_any_eq_all_not,hu.2]; rfl
 rw [n0] at a0;rw [n1] at a1;simp at a0 a1;refine ⟨_,Cfg.len,fun _=>rfl,fun h=>?_⟩;rw [aV y96 z96];simp +decide [ae,q96,a,g0,hd8,hl8,g0',g1',g2',g2s,cqs,cqp,U,ai,aa,av,fe,hk,hcall,hk0];rw [au];simp [a0];rw [au];simp [a1];simp [ae,q96,a,g0,hd8,hl8,g0',g1',g2',g2s,cqs,cqp,U,ai,aa,av,fe,hs1,hs2,q1,q2,q3,q4,hw,ha,k0,k2,k0s,k2s,k2t,tw,uw,ow,fz]
theorem Q9 (hE:DoesE E)(c:Cfg)(hc:c.ok)(e:Edt)(hk:e.kind=7){k:Nat}(hi:cu c.bound.l (fun p=>p.id==e.id)=(k:Int))(hkl:k<c.bound.l.length)(hu:(c.services.l.any fun p=>p.way==e.id)=false):Gives E c e { c.cp with bound:=⟨false,c.bound.l.eraseIdx k⟩ } 0:=by
 obtain ⟨H,lo,v4,v5,v6,v7,L0,L1,L2,L3,a,g0,S,m0,m1,m2,m3,m4,U,f4,f5,f6,f7,G,fe,fra⟩:=jS hE c hc e;obtain ⟨hd8,hl8,g0',g1',g2',g2s⟩:=G;have hco:=lU hc;have hcall:=fun lo=>(bC (E:=E) (T:=TY) (val:=gQ) (f:=82) (by kernel_rfl)).trans (hE.e112 c.cp e.id hco (.agg (cq c v4 v5 v6 v7)) ⟨H.set 0 (.cells (cq c v4 v5 v6 v7)),lo⟩ (fra lo));rw [show cu c.cp.bound.l (fun p=>p.id==e.id)=(k:Int) from hi] at hcall;have hk0:¬ ((k:Int)<0):=by omega
 simp at m4;have hlen:=hc.2.2.1.lt;have hw:wrap .i64 ((k:Int)+1)=((k+1:Nat):Int):=ak hkl hlen;obtain ⟨s1,s2,w,b2,F,hs1,hs2,⟨q1,q2,q3,q4⟩,ha,ko,kl,⟨tw,uw,ow⟩,hd⟩:=zK S.r6 (by decide) (by_:=16) (by decide) (by simpa using hc.2.2.1.1) (k:=k) (by simpa using hkl) (by simp; omega);simp at kl ko;have k0:af b2 0=some (cq c v4 v5 v6 v7):=by rw [← g0' (cq c v4 v5 v6 v7)]; unfold af; rw [ko 0 (by omega)]
 have k2:af b2 2=some [.d (.int .u64 0),.d (.int .u64 0),.d (i64 0),.d (i64 0),.d (.slice true []),.d (.slice true []),.d (.slice true []),.d (.slice true [])]:=by rw [← g2' (cq c v4 v5 v6 v7)]; unfold af; rw [ko 2 (by omega)]
 have k0s:∀ B,af (b2.set 0 (.cells B)) 0=some B:=fun B=>aK k0;have k2s:∀ B,af (b2.set 0 (.cells B)) 2=some [.d (.int .u64 0),.d (.int .u64 0),.d (i64 0),.d (i64 0),.d (.slice true []),.d (.slice true []),.d (.slice true []),.d (.slice true [])]:=fun B=>(aS (by decide)).trans k2;have k2t:∀ B B',af ((b2.set 0 (.cells B)).set 2 (.cells B')) 2=some B':=fun B B'=>aK (k2s B);have hJ:∀ (B B':List V) (x:Nat),3<=x->((b2.set 0 (.cells B)).set 2 (.cells B'))[x]?=b2[x]?:=fun B B' x hx=>by
  rw [am (by omega),am (by omega)]
 have hK:∀ (B B':List V) (x:Nat),3<=x->x<H.length->((b2.set 0 (.cells B)).set 2 (.cells B'))[x]?=(H.set 0 (.cells (cq c v4 v5 v6 v7)))[x]?:=fun B B' x hx hx2=>by
  rw [hJ B B' x hx,ko x hx2]
 have fz:∀ lo,bW ⟨(b2.set 0 (.cells (cq c v4 v5 w v7))).set 2 (.cells (cq c v4 v5 w v7)),lo⟩ (cq c v4 v5 w v7)=some ({ c.cp with bound:=⟨false,c.bound.l.eraseIdx k⟩ }:Cfg).c:=fun lo=>by
  rw [dW (c:=c) ((S.r4.on fun x h1 h2=>hK _ _ x (by omega) (by omega)).datN S.n4 lo 7) ((S.r5.on fun x h1 h2=>hK _ _ x (by omega) (by omega)).datN S.n5 lo 7) (hd _ lo 7 fun x h1 h2=>hJ _ _ x (by omega))
   ((S.r7.on fun x h1 h2=>hK _ _ x (by omega) (by simpa using h2)).datE (fun h0=>S.n7 (by simpa using h0)) lo 7)]
  simp [Cfg.cp,Cfg.c,Sl.d,eO,gp,cj,FT]
 have a0:=M6 (E:=E) c hc e S k;have n0:(c.services.l.all fun p=>!(p.way==e.id))=true:=by rw [← List.not_any_eq_all_not,hu]; rfl
 rw [n0] at a0;simp at a0;refine ⟨_,Cfg.len,fun _=>rfl,fun h=>?_⟩;rw [aV y96 z96];simp +decide [ae,q96,a,g0,hd8,hl8,g0',g1',g2',g2s,cqs,cqp,U,ai,aa,av,fe,hk,hcall,hk0];rw [au];simp [a0];simp [ae,q96,a,g0,hd8,hl8,g0',g1',g2',g2s,cqs,cqp,U,ai,aa,av,fe,hs1,hs2,q1,q2,q3,q4,hw,ha,k0,k2,k0s,k2s,k2t,tw,uw,ow,fz]
theorem NC (hE:DoesE E)(c:Cfg)(hc:c.ok)(e:Edt)(hk:e.kind=7){k:Nat}(hi:cu c.bound.l (fun p=>p.id==e.id)=(k:Int))(hu:(c.services.l.any fun p=>p.way==e.id)=true):Gives E c e c 5:=by
 obtain ⟨H,lo,v4,v5,v6,v7,L0,L1,L2,L3,a,g0,S,m0,m1,m2,m3,m4,U,f4,f5,f6,f7,G,fe,fra⟩:=jS hE c hc e;obtain ⟨hd8,hl8,g0',g1',g2',g2s⟩:=G;have hco:=lU hc;have hcall:=fun lo=>(bC (E:=E) (T:=TY) (val:=gQ) (f:=82) (by kernel_rfl)).trans (hE.e112 c.cp e.id hco (.agg (cq c v4 v5 v6 v7)) ⟨H.set 0 (.cells (cq c v4 v5 v6 v7)),lo⟩ (fra lo));rw [show cu c.cp.bound.l (fun p=>p.id==e.id)=(k:Int) from hi] at hcall;have hk0:¬ ((k:Int)<0):=by omega
 have a0:=M6 (E:=E) c hc e S k;have n0:(c.services.l.all fun p=>!(p.way==e.id))=false:=by rw [← List.not_any_eq_all_not,hu]; rfl
 rw [n0] at a0;simp at a0;refine ⟨c.cp.c,rfl,fun h=>(by omega),fun h=>?_⟩;rw [aV y96 z96];simp +decide [ae,q96,a,g0,hd8,hl8,g0',g1',g2',g2s,cqs,cqp,U,ai,aa,av,fe,hk,hcall,hk0];rw [au];simp [a0,ae,q96,a,g0,hd8,hl8,g0',g1',g2',g2s,cqs,cqp,U,ai,aa,av,fe]
theorem Db {α:Type}{q:α->Bool}{l:List α}{k:Nat}(h:cu l q=(k:Int)):∃ x,l[k]?=some x/\q x=true/\∀ i y,i<k->l[i]?=some y->q y=false:=by
 unfold cu at h;cases hf:l.findIdx? q with
 | none=>rw [hf] at h; simp at h<;>omega
 | some j =>
  rw [hf] at h;have:j=k:=by have h5:=h; simp at h5; omega
  subst this;obtain ⟨h1,h2,h3⟩:=List.findIdx?_eq_some_iff_getElem.1 hf;refine ⟨l[j],ac h1,h2,fun i y hi hy=>?_⟩;have:=h3 i hi;obtain ⟨hl,rfl⟩:=bw.1 hy;simpa using this
theorem FQ {T:FuncId->Option QF}{val:FuncId->Bool}{keep:List Nat}{body:QC}(env:Nat->EA)(h:Hp)(k:Nat)(R:Ex×EA×Hp)
 (hr:∀ i,i<k->∀ W:EA->Hp->fZ,eD keep W (Cd E T val body (bU keep (env i)) h)=W (env (i+1)) h)
 (hR:∀ W:EA->Hp->fZ,eD keep W (Cd E T val body (bU keep (env k)) h)=some R):Cd E T val (.loop keep body) (env 0) h=some R:=by
 have:∀ (m i:Nat),i+m=k->Cd E T val (.loop keep body) (env i) h=some R:=by
  intro m;have key:=aC (E:=E) (T:=T) (val:=val) keep body;generalize Cd E T val (.loop keep body)=W at key ⊢
  induction m with
  | zero=>intro i hi; rw [key,show i=k by omega,hR W]
  | succ m ih=>intro i hi; rw [key,hr i (by omega) W,ih (i+1) (by omega)]
 exact this k 0 (by omega)
theorem ND (hE:DoesE E)(c:Cfg)(hc:c.ok)(e:Edt)(hk:e.kind=9)(hf:c.policies.l.find? (fun p=>p.id==e.id)=none):Gives E c e c 4:=by
 obtain ⟨H,lo,v4,v5,v6,v7,L0,L1,L2,L3,a,g0,S,m0,m1,m2,m3,m4,U,f4,f5,f6,f7,G,fe,fra⟩:=jS hE c hc e;obtain ⟨hd8,hl8,g0',g1',g2',g2s⟩:=G;have hlen:=hc.2.2.2.1.lt;have hvl:=S.r7.len;simp only [bx] at hvl;have a0:Cd E TY gQ (.loop [2,3,4,14] qy) [(2,.ptr 0 0),(3,.ptr 1 0),(4,.ptr 2 0),(14,.d (i64 ((0:Nat):Int)))] ⟨H.set 0 (.cells (cq c v4 v5 v6 v7)),0⟩=some (cond (c.policies.l.all fun p=>!(p.id==e.id)) (.exit 7,[(2,.ptr 0 0),(4,.ptr 2 0)],⟨H.set 0 (.cells (cq c v4 v5 v6 v7)),0⟩) (.exit 7,[(2,.ptr 0 0),(4,.ptr 2 0)],⟨H.set 0 (.cells (cq c v4 v5 v6 v7)),0⟩)):=by
  refine bS c.policies.l (fun p=>!(p.id==e.id)) (fun i=>[(2,.ptr 0 0),(3,.ptr 1 0),(4,.ptr 2 0),(14,.d (i64 i))]) _ _ _ (fun i x hx hi W=>?_) (fun W=>?_)
  · obtain ⟨b,b1,b2,b3,b4,b5,b6⟩:=S.r7.at (i:=i) (e:=x.cp.c) (by simp [hx]);have s1:=(b6 1 (by decide)).trans (show _=some [.d (u64 x.id)] from by simp [Pol.cp_c]);have hw:=ak hi hlen;have h0:((i:Int)<c.policies.l.length):=by omega
    have hq:¬ x.id=e.id:=by
     have:=List.find?_eq_none.1 hf x (ca hx);simpa using this
    simp [qy,ae,q96,a,g0,hd8,hl8,g0',g1',g2',g2s,cqs,cqp,U,ai,aa,av,fe,hvl,b3,b4,s1,h0,hw,hq]
  · simp [qy,ae,q96,a,g0,hd8,hl8,g0',g1',g2',g2s,cqs,cqp,U,ai,aa,av,fe,hvl]
 have hall:(c.policies.l.all fun p=>!(p.id==e.id))=true:=by
  rw [ch];intro x hx;have:=List.find?_eq_none.1 hf x hx;simpa using this
 rw [hall] at a0;simp at a0;refine ⟨c.cp.c,rfl,fun h=>(by omega),fun h=>?_⟩;rw [aV y96 z96];simp +decide [ae,q96,a,g0,hd8,hl8,g0',g1',g2',g2s,cqs,cqp,U,ai,aa,av,fe,hk];rw [au];simp [a0];simp [ae,q96,a,g0,hd8,hl8,g0',g1',g2',g2s,cqs,cqp,U,ai,aa,av,fe]
theorem Rb (hE:DoesE E)(c:Cfg)(hc:c.ok)(e:Edt)(hk:e.kind=9){k:Nat}(hi:cu c.policies.l (fun p=>p.id==e.id)=(k:Int)):Gives E c e { c.cp with policies:=⟨false,(c.policies.l.map Pol.cp).eraseIdx k⟩ } 0:=by
 obtain ⟨H,lo,v4,v5,v6,v7,L0,L1,L2,L3,a,g0,S,m0,m1,m2,m3,m4,U,f4,f5,f6,f7,G,fe,fra⟩:=jS hE c hc e;obtain ⟨hd8,hl8,g0',g1',g2',g2s⟩:=G;have hlen:=hc.2.2.2.1.lt;have hvl:=S.r7.len;simp only [bx] at hvl;simp at m4;obtain ⟨x0,hx0,hq0,hfirst⟩:=Db hi;have hkl:k<c.policies.l.length:=(bw.1 hx0).1;have hwk:wrap .i64 ((k:Int)+1)=((k+1:Nat):Int):=ak hkl hlen;obtain ⟨s1,s2,w,b2,F,hs1,hs2,⟨q1,q2,q3,q4⟩,ha,ko,kl,⟨tw,uw,ow⟩,hd⟩:=zK S.r7 (by decide) (by_:=64) (by decide) (by simpa using hc.2.2.2.1.1) (k:=k) (by simpa using hkl) (by simp);simp at kl ko;have k0:af b2 0=some (cq c v4 v5 v6 v7):=by rw [← g0' (cq c v4 v5 v6 v7)]; unfold af; rw [ko 0 (by omega)]
 have k2:af b2 2=some [.d (.int .u64 0),.d (.int .u64 0),.d (i64 0),.d (i64 0),.d (.slice true []),.d (.slice true []),.d (.slice true []),.d (.slice true [])]:=by rw [← g2' (cq c v4 v5 v6 v7)]; unfold af; rw [ko 2 (by omega)]
 have k0s:∀ B,af (b2.set 0 (.cells B)) 0=some B:=fun B=>aK k0;have k2s:∀ B,af (b2.set 0 (.cells B)) 2=some [.d (.int .u64 0),.d (.int .u64 0),.d (i64 0),.d (i64 0),.d (.slice true []),.d (.slice true []),.d (.slice true []),.d (.slice true [])]:=fun B=>(aS (by decide)).trans k2;have k2t:∀ B B',af ((b2.set 0 (.cells B)).set 2 (.cells B')) 2=some B':=fun B B'=>aK (k2s B);have hJ:∀ (B B':List V) (x:Nat),3<=x->((b2.set 0 (.cells B)).set 2 (.cells B'))[x]?=b2[x]?:=fun B B' x hx=>by
  rw [am (by omega),am (by omega)]
 have hK:∀ (B B':List V) (x:Nat),3<=x->x<H.length->((b2.set 0 (.cells B)).set 2 (.cells B'))[x]?=(H.set 0 (.cells (cq c v4 v5 v6 v7)))[x]?:=fun B B' x hx hx2=>by
  rw [hJ B B' x hx,ko x hx2]
 have fz:∀ lo,bW ⟨(b2.set 0 (.cells (cq c v4 v5 v6 w))).set 2 (.cells (cq c v4 v5 v6 w)),lo⟩ (cq c v4 v5 v6 w)=some ({ c.cp with policies:=⟨false,(c.policies.l.map Pol.cp).eraseIdx k⟩ }:Cfg).c:=fun lo=>by
  rw [dW (c:=c) ((S.r4.on fun x h1 h2=>hK _ _ x (by omega) (by omega)).datN S.n4 lo 7) ((S.r5.on fun x h1 h2=>hK _ _ x (by omega) (by omega)).datN S.n5 lo 7) ((S.r6.on fun x h1 h2=>hK _ _ x (by omega) (by omega)).datN S.n6 lo 7) (hd _ lo 7 fun x h1 h2=>hJ _ _ x (by omega))];simp [Cfg.cp,Cfg.c,Sl.d,eO,gp,cj,FT]
 have a0:Cd E TY gQ (.loop [2,3,4,14] qy) [(2,.ptr 0 0),(3,.ptr 1 0),(4,.ptr 2 0),(14,.d (i64 ((0:Nat):Int)))] ⟨H.set 0 (.cells (cq c v4 v5 v6 v7)),0⟩=some (.ret,[(4,.ptr 2 0),(5,.d (i64 0))],⟨(b2.set 0 (.cells (cq c v4 v5 v6 w))).set 2 (.cells (cq c v4 v5 v6 w)),0⟩):=by
  refine FQ (fun i=>[(2,.ptr 0 0),(3,.ptr 1 0),(4,.ptr 2 0),(14,.d (i64 i))]) _ k _ (fun i hi W=>?_) (fun W=>?_)
  · have hil:i<c.policies.l.length:=by omega
    have hx:=ac hil;have hq:¬ c.policies.l[i].id=e.id:=by simpa using hfirst i _ hi hx
    generalize c.policies.l[i]=x at *;obtain ⟨b,b1,bb2,b3,b4,b5,b6⟩:=S.r7.at (i:=i) (e:=x.cp.c) (by simp [hx]);have t1:=(b6 1 (by decide)).trans (show _=some [.d (u64 x.id)] from by simp [Pol.cp_c]);have hw:=ak hil hlen;have h0:((i:Int)<c.policies.l.length):=by omega
    simp [qy,ae,q96,a,g0,hd8,hl8,g0',g1',g2',g2s,cqs,cqp,U,ai,aa,av,fe,hvl,b3,b4,t1,h0,hw,hq]
  · obtain ⟨b,b1,bb2,b3,b4,b5,b6⟩:=S.r7.at (i:=k) (e:=x0.cp.c) (by simp [hx0]);have t1:=(b6 1 (by decide)).trans (show _=some [.d (u64 x0.id)] from by simp [Pol.cp_c]);have h0:((k:Int)<c.policies.l.length):=by omega
    have hq:x0.id=e.id:=by simpa using hq0
    simp [qy,ae,q96,a,g0,hd8,hl8,g0',g1',g2',g2s,cqs,cqp,U,ai,aa,av,fe,hvl,b3,b4,t1,h0,hwk,hq,hs1,hs2,q1,q2,q3,q4,ha,k0,k2,k0s,k2s,k2t,tw,uw,ow]
 simp at a0;refine ⟨_,Cfg.len,fun _=>rfl,fun h=>?_⟩;rw [aV y96 z96];simp +decide [ae,q96,a,g0,hd8,hl8,g0',g1',g2',g2s,cqs,cqp,U,ai,aa,av,fe,hk];rw [au];simp [a0];simp [ae,q96,a,g0,hd8,hl8,g0',g1',g2',g2s,cqs,cqp,U,ai,aa,av,fe,k0s,k2s,k2t,fz]
end
section
variable {E:Calls'}
def bA (c:Cfg)(e:Edt):Cfg×Int :=
 if e.kind=1 then ({ c.cp with next:=wrap .u64 (c.next+1),pods:=⟨false,c.pods.l++[{ e.pod with uid:=c.next }]⟩ },0)
 else if e.kind=2 then match c.pods.l.find? (fun p=>p.uid==e.id) with
  | none=>(c,4)
  | some _=>({ c.cp with pods:=gp (c.pods.l.filter fun x=>!(x.uid==e.id)) },0)
 else if e.kind=3 then match c.pods.l.find? (fun p=>p.uid==e.id) with
  | none=>(c,4)
  | some p=>({ c.cp with next:=wrap .u64 (c.next+1),pods:=⟨false,(c.pods.l.filter fun x=>!(x.uid==e.id))++[{ p with uid:=c.next,host:=e.pod.host,addr:=e.pod.addr }]⟩ },0)
 else if e.kind=4 then ({ c.cp with services:=⟨false,cB Svc.id e.svc c.services.l⟩ },0)
 else if e.kind=5 then match c.services.l.findIdx? (fun p=>p.id==e.id) with
  | none=>(c,4)
  | some k=>if (c.pods.l.any fun p=>p.service==e.id)||(c.policies.l.any fun p=>p.service==e.id) then (c,5) else ({ c.cp with services:=⟨false,c.services.l.eraseIdx k⟩ },0)
 else if e.kind=6 then ({ c.cp with bound:=⟨false,cB Way.id e.way c.bound.l⟩ },0)
 else if e.kind=7 then match c.bound.l.findIdx? (fun p=>p.id==e.id) with
  | none=>(c,4)
  | some k=>if (c.services.l.any fun p=>p.way==e.id) then (c,5) else ({ c.cp with bound:=⟨false,c.bound.l.eraseIdx k⟩ },0)
 else if e.kind=8 then ({ c.cp with policies:=⟨false,cB Pol.id e.pol.cp (c.policies.l.map Pol.cp)⟩ },0)
 else if e.kind=9 then match c.policies.l.findIdx? (fun p=>p.id==e.id) with
  | none=>(c,4)
  | some k=>({ c.cp with policies:=⟨false,(c.policies.l.map Pol.cp).eraseIdx k⟩ },0)
 else (c,1)
theorem ja {α:Type}{q:α->Bool}{l:List α}(h:l.findIdx? q=none):l.find? q=none:=by
 rcases gG q l with ⟨_,h2⟩ | ⟨k,x,h1,_⟩
 · exact h2
 · simp [cu,h] at h1<;>omega
theorem pV {α:Type}{q:α->Bool}{l:List α}{k:Nat}(h:l.findIdx? q=some k):cu l q=(k:Int)/\k<l.length:=by
 refine ⟨by simp [cu,h],?_⟩;obtain ⟨h1,_⟩:=List.findIdx?_eq_some_iff_getElem.1 h;exact h1
theorem S96 (hE:DoesE E)(c:Cfg)(hc:c.ok)(h1:c.pods.l.length<big)(h2:c.services.l.length<big)(h3:c.bound.l.length<big)(h4:c.policies.l.length<big)(e:Edt)(hp:e.pol.fits big):Gives E c e (bA c e).1 (bA c e).2:=by
 unfold bA;by_cases k1:e.kind=1
 · rw [if_pos k1]; exact Q3 hE c hc e k1 h1
 rw [if_neg k1];by_cases k2:e.kind=2
 · rw [if_pos k2];cases hf:c.pods.l.find? (fun p=>p.uid==e.id) with
   | none=>exact Ed hE c hc e (.inl k2) hf
   | some p=>exact Q4 hE c hc e k2 hf
 rw [if_neg k2];by_cases k3:e.kind=3
 · rw [if_pos k3];cases hf:c.pods.l.find? (fun p=>p.uid==e.id) with
   | none=>exact Ed hE c hc e (.inr k3) hf
   | some p=>exact Q5 hE c hc e k3 hf h1
 rw [if_neg k3];by_cases k4:e.kind=4
 · rw [if_pos k4]; exact Q6 hE c hc e k4 h2
 rw [if_neg k4];by_cases k5:e.kind=5
 · rw [if_pos k5];cases hf:c.services.l.findIdx? (fun p=>p.id==e.id) with
   | none=>exact Nz hE c hc e k5 (ja hf)
   | some k =>
    obtain ⟨q1,q2⟩:=pV hf;cases hu:(c.pods.l.any fun p=>p.service==e.id)||(c.policies.l.any fun p=>p.service==e.id) with
    | true=>exact NA hE c hc e k5 q1 hu
    | false=>exact Q7 hE c hc e k5 q1 q2 hu
 rw [if_neg k5];by_cases k6:e.kind=6
 · rw [if_pos k6]; exact Q8 hE c hc e k6 h3
 rw [if_neg k6];by_cases k7:e.kind=7
 · rw [if_pos k7];cases hf:c.bound.l.findIdx? (fun p=>p.id==e.id) with
   | none=>exact NB hE c hc e k7 (ja hf)
   | some k =>
    obtain ⟨q1,q2⟩:=pV hf;cases hu:(c.services.l.any fun p=>p.way==e.id) with
    | true=>exact NC hE c hc e k7 q1 hu
    | false=>exact Q9 hE c hc e k7 q1 q2 hu
 rw [if_neg k7];by_cases k8:e.kind=8
 · rw [if_pos k8]; exact Ra hE c hc e hp k8 h4
 rw [if_neg k8];by_cases k9:e.kind=9
 · rw [if_pos k9];cases hf:c.policies.l.findIdx? (fun p=>p.id==e.id) with
   | none=>exact ND hE c hc e k9 (ja hf)
   | some k=>exact Rb hE c hc e k9 (pV hf).1
 rw [if_neg k9];exact Rc hE c hc e fun k q1 q2 hk=>by omega
def an0:List (Nat×QF):=[(10,q37)]
def TZ:FuncId->Option QF:=kz an0
def zY (f:FuncId):Bool:=Nat.beq 10 f
theorem bi9:TZ 10=some q37:=by kernel_rfl
theorem bj0:zY 10=true:=by kernel_rfl
def iX (c d:Cfg):Bool:=decide (c.epoch=4611686018427387903)||decide (d.next>4611686018427387904)||!bT d
def eQ (c d:Cfg):Cfg:={ d with epoch:=wrap .u64 (c.epoch+1) }
def eU (c:Cfg)(e:Edt):Cfg×Int :=
 if df c=false then (cfg0,1)
 else if (bA c e).2≠0 then (cfg0,(bA c e).2)
 else if iX c (bA c e).1=true then (cfg0,3)
 else if gP (eQ c (bA c e).1)=false then (cfg0,1)
 else if (bz (eQ c (bA c e).1)).length>8192 then (cfg0,6)
 else (eQ c (bA c e).1,0)
structure AppE (E:Calls') (c:Cfg) (e:Edt):Prop where
 e95:∀ h,E 26 [c.v] h=some (bl (df c),h)
 e96:df c=true->∃ d:List D,d.length=8/\((bA c e).2=0->d=(bA c e).1.c)/\∀ h,E 27 [c.v,ag e.c] h=some (.tup [ag d,.d (i64 (bA c e).2)],h)
 e97:df c=true->(bA c e).2=0->∀ h,E 28 [(bA c e).1.v] h=some (bl (bT (bA c e).1),h)
 e98:df c=true->(bA c e).2=0->iX c (bA c e).1=false->∀ h,E 29 [(eQ c (bA c e).1).v] h=some (bl (gP (eQ c (bA c e).1)),h)
 e99:df c=true->(bA c e).2=0->iX c (bA c e).1=false->gP (eQ c (bA c e).1)=true->∀ h,E 30 [(eQ c (bA c e).1).v] h=some (.d (bytesD (bz (eQ c (bA c e).1))),h)
theorem S37 (c:Cfg)(e:Edt)(hE:AppE E c e)(h:Hp):Sm E TZ zY 10 [c.v,ag e.c] h=some (.tup [ag (eU c e).1.c,.d (i64 (eU c e).2)],h):=by
 have n95:=fun h=>(bC (E:=E) (T:=TZ) (val:=zY) (f:=26) (by kernel_rfl)).trans (hE.e95 h);rw [aV bi9 bj0];cases hm:df c with
 | false =>
  simp only [hm] at n95;have:eU c e=(cfg0,1):=by simp [eU,hm]
  rw [this];simp +decide [ae,q37,n95,ai,aa,av,cfg0];rfl
 | true =>
  simp only [hm] at n95;obtain ⟨d,dl,dz,n96⟩:=hE.e96 hm;have n96:=fun h=>(bC (E:=E) (T:=TZ) (val:=zY) (f:=27) (by kernel_rfl)).trans (n96 h);have hA:eU c e=(if (bA c e).2≠0 then (cfg0,(bA c e).2)
   else if iX c (bA c e).1=true then (cfg0,3)
   else if gP (eQ c (bA c e).1)=false then (cfg0,1)
   else if (bz (eQ c (bA c e).1)).length>8192 then (cfg0,6)
   else (eQ c (bA c e).1,0)):=by simp [eU,hm]
  rw [hA];clear hA;have n97:=hE.e97 hm;have n98:=hE.e98 hm;have n99:=hE.e99 hm;clear hE;generalize (bA c e).1=o at *;generalize (bA c e).2=f at *;have hz:ag [(.int .u64 0),(.int .u64 0),(.int .i64 0),(.int .i64 0),(.slice true []),(.slice true []),(.slice true []),(.slice true [])]=ag cfg0.c:=rfl;have hp0:∀ z:List V,z.length=8->put z 0 (d.map V.d)=some (d.map V.d):=fun z hz=>by simp [put,hz,dl]
  have hdl:(d.map V.d).length=8:=by simpa using dl
  by_cases k1:f=0
  case neg =>
   simp +decide [ae,q37,n95,n96,k1,hdl,dl,ai,aa,av,az,hz]
  subst k1;have hd:d=o.c:=dz rfl;subst hd;have n97:=fun h=>(bC (E:=E) (T:=TZ) (val:=zY) (f:=28) (by kernel_rfl)).trans (n97 rfl h);have hnx:put (o.c.map V.d) 0 [.d (.int .u64 (wrap .u64 (c.epoch+1)))]=some ((eQ c o).c.map V.d):=rfl;have hn8:((eQ c o).c.map V.d).length=8:=rfl;by_cases a1:c.epoch=4611686018427387903
  · have hfu:iX c o=true:=by simp [iX,a1]
    simp +decide [ae,q37,n95,n96,n97,hfu,hnx,a1,ai,aa,av,az,hz]
  by_cases a2:o.next>4611686018427387904
  · have hfu:iX c o=true:=by simp [iX,a1,a2]
    simp +decide [ae,q37,n95,n96,n97,hfu,hnx,a1,a2,ai,aa,av,az,hz]
  cases a3:bT o with
  | false =>
   simp only [a3] at n97;have hfu:iX c o=true:=by simp [iX,a1,a2,a3]
   simp +decide [ae,q37,n95,n96,n97,hfu,hnx,a1,a2,ai,aa,av,az,hz]
  | true =>
   simp only [a3] at n97;have hfu:iX c o=false:=by simp [iX,a1,a2,a3]
   have n98:=fun h=>(bC (E:=E) (T:=TZ) (val:=zY) (f:=29) (by kernel_rfl)).trans (n98 rfl hfu h);cases a4:gP (eQ c o) with
   | false =>
    simp only [a4] at n98;simp +decide [ae,q37,n95,n96,n97,n98,hfu,hnx,a1,a2,ai,aa,av,az,hz]
   | true =>
    simp only [a4] at n98;have n99:=fun h=>(bC (E:=E) (T:=TZ) (val:=zY) (f:=30) (by kernel_rfl)).trans (n99 rfl hfu a4 h);have hbl:∀ h,nG false (.d (bytesD (bz (eQ c o)))) h=some (.d (i64 ((bz (eQ c o)).length:Nat)),h):=fun h=>by simp [bytesD]
    by_cases a5:(bz (eQ c o)).length>8192
    · have a5':((bz (eQ c o)).length:Int)>8192:=by omega
      simp +decide [ae,q37,n95,n96,n97,n98,n99,hbl,hfu,hnx,a1,a2,a5,a5',ai,aa,av,az,hz]
    · have a5':¬ ((bz (eQ c o)).length:Int)>8192:=by omega
      simp +decide [ae,q37,n95,n96,n97,n98,n99,hbl,hfu,hnx,a1,a2,a5,a5',ai,aa,av,az,hz]
end
section
theorem KA {h:Hp}{r:V}{k:IntKind}{n:Int}(hr:frz h r=some (.d (.int k n))):r=.d (.int k n):=by
 cases r with
 | d x=>simpa using hr
 | row b' o n cap z =>
  exfalso;simp only [frz,bQ] at hr;cases hd:dataV h 8 (.row b' o n cap z) with
  | none=>rw [hd] at hr; cases hr
  | some d =>
   rw [hd] at hr;obtain ⟨l,rfl⟩:=ic hd;cases hr
 | ptr b' o=>simp [frz,bQ,dataV] at hr
 | eptr cs o=>simp [frz,bQ,dataV] at hr
 | undef=>simp [frz,bQ] at hr
 | fn f cs=>cases cs<;>simp [frz,bQ] at hr
 | mfn f cs=>simp [frz,bQ,dataV] at hr
 | agg cs =>
  simp only [frz,bQ] at hr;split at hr<;>cases hr
 | tup vs =>
  simp only [frz] at hr;split at hr<;>cases hr
theorem xm {E:Calls'}{T:FuncId->Option QF}{val:FuncId->Bool}{f:FuncId}{q:QF}(ht:T f=some q)(hv:val f=true){l:List D}{x:D}{k:IntKind}{n:Int}(h0:∀ h,Sm E T val f [ag l,.d x] h=some (.d (.int k n),h)){a:V}{h:Hp}(ha:frz h a=some (ag l)):Sm E T val f [a,.d x] h=some (.d (.int k n),h):=by
 have h1:=h0 h;rw [aV ht hv] at h1 ⊢;simp only [List.mapM_cons,List.mapM_nil,lg,Da,ha,Option.pure_def,Option.bind_eq_bind,Option.bind_some,lq,zX] at h1 ⊢;cases hB:Bd E T val q [ag l,.d x] ⟨[],0⟩ with
 | none=>rw [hB] at h1; cases h1
 | some p =>
  obtain ⟨r,h'⟩:=p;rw [hB] at h1;simp only [Co] at h1 ⊢;cases hr:frz h' r with
  | none=>rw [hr] at h1; cases h1
  | some r' =>
   rw [hr] at h1;have e1:r'=.d (.int k n):=by
    simp at h1; exact h1
   subst e1;have:=KA hr;subst this;simp [ownR,xH,ll]
structure BaseE (E:Calls'):Prop where
 e29:∀ x y:Pol,x.ok->∀ h,E 13 [ag x.c,ag y.c] h=some (bl (x.same y),h)
 e46:∀ (c:Cfg) (n:Int),c.ok->∀ a h,frz h a=some (ag c.c)->E 77 [a,.d (u64 n)] h=some (.d (i64 (cu c.pods.l fun p=>p.uid==n)),h)
 e111:∀ (c:Cfg) (n:Int),c.ok->∀ a h,frz h a=some (ag c.c)->E 80 [a,.d (u64 n)] h=some (.d (i64 (cu c.services.l fun p=>p.id==n)),h)
 e112:∀ (c:Cfg) (n:Int),c.ok->∀ a h,frz h a=some (ag c.c)->E 82 [a,.d (u64 n)] h=some (.d (i64 (cu c.bound.l fun p=>p.id==n)),h)
theorem S9 {E:Calls'}:BaseE (Sm E TT aj):=⟨fun x y hx h=>S29 x y hx h,fun c n hc a h ha=>xm t46 v46 (fun h=>S46 c hc n h) ha,fun c n hc a h ha=>xm Vm VA (fun h=>X6 c hc n h) ha,fun c n hc a h ha=>xm Vn VB (fun h=>X7 c hc n h) ha⟩
theorem Na {E:Calls'}(hb:BaseE E):DoesE (Sm E TX aM):=⟨fun p hp h=>S35 p hp h,
 fun c n hc a h ha=>(bC (by kernel_rfl)).trans (hb.e46 c n hc a h ha),fun c n hc a h ha=>(bC (by kernel_rfl)).trans (hb.e111 c n hc a h ha),fun c n hc a h ha=>(bC (by kernel_rfl)).trans (hb.e112 c n hc a h ha),
 fun s x hs hl a h ha=>Yi s hs hl x a h ha,fun s x hs hl a h ha=>Yj s hs hl x a h ha⟩
end
section
theorem gu {α:Type}{B:Nat}{f:Nat->α->Prop}{s:Sl α}(h:s.wf B f):(eO s).wf B f:=⟨⟨h.1.1,fun h=>by cases h⟩,h.2⟩
theorem rz {α β:Type}{B:Nat}{f:Nat->α->Prop}{g:Nat->β->Prop}{s:Sl α}{k:α->β}(h:s.wf B f)(hk:∀ x∈s.l,f B x->g B (k x)):(gp (s.l.map k)).wf B g :=
 ⟨⟨by simpa [gp] using h.1.1,fun h=>by simpa [gp] using h⟩,fun y hy=>by
  obtain ⟨x,hx,rfl⟩:=b9.1 (show y∈s.l.map k from hy);exact hk x hx (h.2 x hx)⟩
theorem Source.cp_wf {B:Nat}{s:Source}(h:s.wf B):s.cp.wf B:=⟨gu h.1,gu h.2.1,gu h.2.2⟩
theorem Target.cp_wf {B:Nat}{s:Target}(h:s.wf B):s.cp.wf B:=⟨gu h.1,gu h.2.1,gu h.2.2.1,gu h.2.2.2⟩
theorem When.cp_wf {B:Nat}{s:When}(h:s.wf B):s.cp.wf B:=⟨h.1,gu h.2⟩
theorem Rule.cp_wf {B:Nat}{s:Rule}(h:s.wf B):s.cp.wf B:=⟨rz h.1 fun _ _ h=>Source.cp_wf h,rz h.2.1 fun _ _ h=>Target.cp_wf h,rz h.2.2 fun _ _ h=>When.cp_wf h⟩
theorem Pol.cp_wf {B:Nat}{s:Pol}(h:s.wf B):s.cp.wf B:=⟨h.1,h.2.1,h.2.2.1,h.2.2.2.1,rz h.2.2.2.2 fun _ _ h=>Rule.cp_wf h⟩
theorem Cfg.cp_wf {B:Nat}{c:Cfg}(h:c.wf B):c.cp.wf B:=⟨h.1,h.2.1,h.2.2.1,h.2.2.2.1,gu h.2.2.2.2.1,gu h.2.2.2.2.2.1,gu h.2.2.2.2.2.2.1,rz h.2.2.2.2.2.2.2 fun _ _ h=>Pol.cp_wf h⟩
theorem BD {α:Type}{id:α->Int}{x y:α}:∀ {l:List α} {pl:Bool},y∈dL id x pl l->y=x\/y∈l
 | [],pl,h=>by simp [dL] at h
 | z::l,pl,h=>by
  rw [dL,List.mem_append,jN,List.mem_append] at h;rcases h with (h | h) | h
  · split at h
    · simp at h; exact .inl h
    · cases h
  · split at h
    · simp at h; exact .inr (by simp [h])
    · cases h
  · rcases BD h with h | h
    · exact .inl h
    · exact .inr (by simp [h])
theorem I8 {α:Type}{id:α->Int}{x y:α}{l:List α}(h:y∈cB id x l):y=x\/y∈l:=by
 rw [cB,List.mem_append] at h;rcases h with h | h
 · exact BD h
 · split at h
   · cases h
   · simp at h; exact .inl h
theorem I7 {α:Type}{id:α->Int}{x:α}{l:List α}:(cB id x l).length<=l.length+1:=by
 have:=nL id x l false;rw [cB,ap];cases h:(l.any fun z=>decide (id z>=id x)) with
 | true=>simp at this ⊢; omega
 | false=>rw [iP id x l h]; simp
theorem zx {α:Type}{B:Nat}{f:Nat->α->Prop}{id:α->Int}{x:α}{l:List α}(h:∀ y∈l,f B y)(hx:f B x)(hl:l.length+1<=B):(⟨false,cB id x l⟩:Sl α).wf B f :=
 ⟨⟨ce I7 hl,fun h=>by cases h⟩,fun y hy=>by rcases I8 hy with rfl | h'; exact hx; exact h y h'⟩
theorem qV {α:Type}{B:Nat}{f:Nat->α->Prop}{l:List α}(h:∀ y∈l,f B y)(hl:l.length<=B):(⟨false,l⟩:Sl α).wf B f:=⟨⟨hl,fun h=>by cases h⟩,h⟩
theorem AR {B:Nat}{c:Cfg}{e:Edt}(h:c.wf B)(he:e.wf B)(hB:17<=B)(hs:bT c=true):(bA c e).1.wf B:=by
 obtain ⟨l1,l2,l3,l4⟩:=oQ hs;obtain ⟨e1,e2,e3,e4,e5,e6⟩:=he;have hcp:=Cfg.cp_wf h;obtain ⟨c1,c2,c3,c4,c5,c6,c7,c8⟩:=hcp;have hpm:∀ y∈c.policies.l.map Pol.cp,y.wf B:=fun y hy=>by
  obtain ⟨p,hp,rfl⟩:=b9.1 hy;exact Pol.cp_wf (h.2.2.2.2.2.2.2.2 p hp)
 unfold bA;split
 · refine ⟨c1,lX _,c3,c4,qV (fun y hy=>?_) (by simp; omega),c6,c7,c8⟩;rcases List.mem_append.1 hy with hy | hy
   · exact h.2.2.2.2.1.2 y hy
   · simp at hy; subst hy; exact ⟨h.2.1,e3.2⟩
 split
 · split
   · exact h
   · refine ⟨c1,c2,c3,c4,⟨⟨?_,fun hh=>by simpa [gp] using hh⟩,fun y hy=>h.2.2.2.2.1.2 y (List.mem_filter.1 hy).1⟩,c6,c7,c8⟩;have:=List.length_filter_le (fun x:Pod=>!(x.uid==e.id)) c.pods.l;simp only [gp]; omega
 split
 · split
   · exact h
   · rename_i p hp;have hpw:=h.2.2.2.2.1.2 p (List.mem_of_find?_eq_some hp);refine ⟨c1,lX _,c3,c4,qV (fun y hy=>?_) ?_,c6,c7,c8⟩
     · rcases List.mem_append.1 hy with hy | hy
       · exact h.2.2.2.2.1.2 y (List.mem_filter.1 hy).1
       · simp at hy; subst hy; exact ⟨h.2.1,hpw.2.1,hpw.2.2.1,e3.2.2.2.1,e3.2.2.2.2.1,hpw.2.2.2.2.2⟩
     · have:=List.length_filter_le (fun x:Pod=>!(x.uid==e.id)) c.pods.l;simp only [ap,List.length_singleton]; omega
 split
 · exact ⟨c1,c2,c3,c4,c5,zx h.2.2.2.2.2.1.2 e4 (by omega),c7,c8⟩
 split
 · split
   · exact h
   · split
     · exact h
     · refine ⟨c1,c2,c3,c4,c5,qV (fun y hy=>h.2.2.2.2.2.1.2 y (List.mem_of_mem_eraseIdx hy)) ?_,c7,c8⟩;exact ce (List.length_eraseIdx_le ..) h.2.2.2.2.2.1.1.1
 split
 · exact ⟨c1,c2,c3,c4,c5,c6,zx h.2.2.2.2.2.2.1.2 e5 (by omega),c8⟩
 split
 · split
   · exact h
   · split
     · exact h
     · refine ⟨c1,c2,c3,c4,c5,c6,qV (fun y hy=>h.2.2.2.2.2.2.1.2 y (List.mem_of_mem_eraseIdx hy)) ?_,c8⟩;exact ce (List.length_eraseIdx_le ..) h.2.2.2.2.2.2.1.1.1
 split
 · exact ⟨c1,c2,c3,c4,c5,c6,c7,zx hpm (Pol.cp_wf e6) (by simp; omega)⟩
 split
 · split
   · exact h
   · refine ⟨c1,c2,c3,c4,c5,c6,c7,qV (fun y hy=>hpm y (List.mem_of_mem_eraseIdx hy)) ?_⟩;refine ce (List.length_eraseIdx_le ..) ?_;simp; omega
 · exact h
end
section
variable {E:Calls'}
noncomputable def EX1 (E:Calls'):Calls':=Sm E TX aM
noncomputable def EX2 (E:Calls'):Calls':=Sm (EX1 E) TY gQ
theorem Nc (hb:BaseE E){c:Cfg}(hc:c.ok):FindX E c:=⟨fun n h=>hb.e111 c n hc _ h lg,fun n h=>hb.e112 c n hc _ h lg⟩
theorem IB {c:Cfg}(hs:bT c=true):c.pods.l.length<big/\c.services.l.length<big/\c.bound.l.length<big/\c.policies.l.length<big:=by
 obtain ⟨l1,l2,l3,l4⟩:=oQ hs;have:big=2 ^ 30:=rfl;omega
theorem og {c:Cfg}(h:df c=true):bT c=true/\gP c=true:=by
 simp only [df,aq] at h;exact ⟨h.1.1,h.1.2⟩
theorem Zr (hb:BaseE E)(c:Cfg)(hc:c.wf 1048576)(hcb:c.wf big)(e:Edt)(he:e.wf 1048576)(heb:e.wf big):AppE (EX2 E) c e:=by
 have hok:=hcb.ok (bp _);have w1:=fun hs=>AR (c:=c) (e:=e) hc he (by decide) hs;have w2:=fun hs=>AR (c:=c) (e:=e) hcb heb (by decide) hs;have v1:df c=true->(eQ c (bA c e).1).wf 1048576:=fun hm=>⟨lX _,(w1 (og hm).1).2⟩;have v2:df c=true->(eQ c (bA c e).1).wf big:=fun hm=>⟨lX _,(w2 (og hm).1).2⟩;refine ⟨fun h=>?_,fun hm=>?_,fun hm hz h=>?_,fun hm hz hf h=>?_,fun hm hz hf ha h=>?_⟩
 · exact (bC (by kernel_rfl)).trans (S95 c hc hcb (Nc hb hok) h)
 · obtain ⟨l1,l2,l3,l4⟩:=IB (og hm).1;exact S96 (Na hb) c hok l1 l2 l3 l4 e heb.2.2.2.2.2.fits
 · exact (bC (by kernel_rfl)).trans (S97 _ h)
 · exact (bC (by kernel_rfl)).trans (S98 _ (v1 hm) (v2 hm) (Nc hb ((v2 hm).ok (bp _))) h)
 · have hsm:bT (eQ c (bA c e).1)=true:=by
    simp only [iX,Bool.or_eq_false_iff] at hf;have:bT (eQ c (bA c e).1)=bT (bA c e).1:=rfl;rw [this];simpa using hf.2
   have hle:=nW hsm ha;have hbig:big=2 ^ 30:=rfl;have hpm:zo (eQ c (bA c e).1):=fK (by simp only [gP,aq] at ha; exact ha.2);exact (bC (by kernel_rfl)).trans (S99 _ (v2 hm) hpm (by omega) h)
theorem Fh (hb:BaseE E)(c:Cfg)(hc:c.wf 1048576)(hcb:c.wf big)(e:Edt)(he:e.wf 1048576)(heb:e.wf big)(h:Hp):Sm (EX2 E) TZ zY 10 [c.v,ag e.c] h=some (.tup [ag (eU c e).1.c,.d (i64 (eU c e).2)],h) :=
 S37 c e (Zr hb c hc hcb e he heb) h
end
section
section
variable {α:Type}{key:α->Int}{x:α}
theorem yj:∀ (l:List α),dL key x true l=l.filter fun y=>!(key y==key x)
 | []=>rfl
 | y::l=>by
  rw [dL,jN,show (true||decide (key y>=key x))=true from rfl,yj l];by_cases h:key y=key x<;>simp [h]
theorem EM {y:α}{l:List α}(h:key y<key x):cB key x (y::l)=y::cB key x l:=by
 have h1:¬ key y>=key x:=by omega
 have h2:key y≠key x:=by omega
 simp [cB,dL,jN,h1,h2]
theorem EL {y:α}{l:List α}(h:key y>=key x):cB key x (y::l)=x::((y::l).filter fun y=>!(key y==key x)):=by
 simp only [cB,dL,jN,List.any_cons,h,decide_true,Bool.true_or,Bool.not_false,Bool.false_or,Bool.and_self,if_true,yj];by_cases h2:key y=key x<;>simp [h2]
theorem wJ {y:α}:∀ {l:List α},l.Pairwise (fun a b=>key a<key b)->(y∈cB key x l↔y=x\/y∈l/\key y≠key x)
 | [],_=>by simp [cB,dL]
 | z::l,h=>by
  by_cases hz:key z<key x
  · rw [EM hz,List.mem_cons,wJ (List.pairwise_cons.1 h).2,List.mem_cons];constructor
    · rintro (rfl | h1 | h1)
      · exact .inr ⟨.inl rfl,by omega⟩
      · exact .inl h1
      · exact .inr ⟨.inr h1.1,h1.2⟩
    · rintro (h1 | ⟨h1 | h1,h2⟩)
      · exact .inr (.inl h1)
      · exact .inl h1
      · exact .inr (.inr ⟨h1,h2⟩)
  · rw [EL (by omega),List.mem_cons,List.mem_filter];simp
theorem yt:∀ {l:List α},l.Pairwise (fun a b=>key a<key b)->(cB key x l).Pairwise (fun a b=>key a<key b)
 | [],_=>by simp [cB,dL]
 | z::l,h=>by
  obtain ⟨h1,h2⟩:=List.pairwise_cons.1 h;by_cases hz:key z<key x
  · rw [EM hz,List.pairwise_cons];refine ⟨fun y hy=>?_,yt h2⟩;rcases (wJ h2).1 hy with rfl | h3
    · exact hz
    · exact h1 y h3.1
  · rw [EL (by omega),List.pairwise_cons];refine ⟨fun y hy=>?_,h.filter _⟩;obtain ⟨h3,h4⟩:=List.mem_filter.1 hy;simp at h4;rcases List.mem_cons.1 h3 with rfl | h5
    · omega
    · have:=h1 y h5; omega
theorem zq {l:List α}(h:l.Pairwise (fun a b=>key a<key b)):cB key x l=dE key x l :=
 wV (yt h) (yn h) fun y=>by rw [wJ h,BG]
theorem ym {l:List α}(h:l.Pairwise (fun a b=>key a<key b))(hx:∀ y∈l,key y<key x):dE key x l=l++[x]:=by
 refine wV (yn h) ?_ fun y=>?_
 · rw [List.pairwise_append];exact ⟨h,by simp,fun a ha b hb=>by simp at hb; subst hb; exact hx a ha⟩
 · rw [BG,List.mem_append,List.mem_singleton];constructor
   · rintro (h1 | h1)
     · exact .inr h1
     · exact .inl h1.1
   · rintro (h1 | h1)
     · exact .inr ⟨h1,by have:=hx y h1; omega⟩
     · exact .inl h1
theorem Bf {f:α->α}(hf:∀ y,key (f y)=key y):∀ (l:List α) (pl:Bool),(dL key x pl l).map f=dL key (f x) pl (l.map f)
 | [],_=>rfl
 | y::l,pl=>by
  rw [cm,dL,dL,List.map_append,Bf hf l,hf,hf]
  congr 1
  simp only [jN,hf,List.map_append];split<;>split<;>simp
theorem qY {f:α->α}(hf:∀ y,key (f y)=key y)(l:List α):(cB key x l).map f=cB key (f x) (l.map f):=by
 have ha:((l.map f).any fun z=>decide (key z>=key (f x)))=l.any fun z=>decide (key z>=key x):=by
  rw [List.any_map]; simp [cj,hf]
 rw [cB,cB,List.map_append,Bf hf,ha];split<;>simp
theorem nX {n:Int}:∀ {l:List α} {k:Nat},l.Pairwise (fun a b=>key a<key b)->l.findIdx? (fun y=>key y==n)=some k->l.eraseIdx k=l.filter fun y=>!(key y==n)
 | [],k,_,h=>by simp at h
 | y::l,k,hp,h=>by
  obtain ⟨h1,h2⟩:=List.pairwise_cons.1 hp;rw [List.findIdx?_cons] at h;by_cases hy:key y=n
  · simp [hy] at h;subst h;have:(l.filter fun y=>!(key y==n))=l:=List.filter_eq_self.2 fun z hz=>by have:=h1 z hz; simp; omega
    simp [hy,this]
  · simp [hy] at h;obtain ⟨j,h3,rfl⟩:=h;simp [hy,nX h2 h3]
theorem nY {n:Int}{s:Sl α}:jG key n s=(s.l.find? fun y=>key y==n).isSome:=by
 cases h:s.l.find? fun y=>key y==n with
 | none =>
  have:=List.filter_eq_self.2 (fun y hy=>by have:=List.find?_eq_none.1 h y hy; simpa using this:∀ y∈s.l,(!(key y==n))=true);simp [jG,this]
 | some x =>
  have h1:=List.mem_of_find?_eq_some h;have h2:=List.find?_some h;have:(s.l.filter fun y=>!(key y==n)).length<s.l.length:=List.length_filter_lt_length_iff_exists.2 ⟨x,h1,by simpa using h2⟩;simp [jG,this]
theorem vZ {q:α->Bool}{l:List α}{k:Nat}(h:l.findIdx? q=some k):(l.find? q).isSome=true:=by
 rcases gG q l with ⟨h1,_⟩ | ⟨_,_,_,_,_,h4⟩
 · simp [cu,h] at h1<;>omega
 · simp [h4]
end
theorem Source.cp_nf (s:Source):s.cp.nf=s.nf:=rfl
theorem Target.cp_nf (s:Target):s.cp.nf=s.nf:=rfl
theorem When.cp_nf (s:When):s.cp.nf=s.nf:=rfl
theorem Rule.cp_nf (r:Rule):r.cp.nf=r.nf:=by
 simp [Rule.cp,Rule.nf,Sl.nf,gp,cj,Source.cp_nf,Target.cp_nf,When.cp_nf]
theorem Pol.cp_nf (p:Pol):p.cp.nf=p.nf:=by
 simp [Pol.cp,Pol.nf,Sl.nf,gp,cj,Rule.cp_nf]
theorem p9 (p:Pol):p.own.nf=p.nf:=Pol.same_iff.1 (own_same p)
theorem Cfg.cp_nf (c:Cfg):c.cp.nf=c.nf:=by
 simp [Cfg.cp,Cfg.nf,Sl.nf,eO,gp,cj,Pol.cp_nf]
theorem EE (c:Cfg):gP c.nf=gP c:=by
 have h:c.nf={ c with pods:=⟨false,c.pods.l⟩,services:=⟨false,c.services.l⟩,bound:=⟨false,c.bound.l⟩,policies:=⟨false,c.policies.l.map Pol.nf⟩ }:=by simp [Cfg.nf,Sl.nf]
 have hp:bB c.nf=bB c:=by
  rw [h];simp only [bB,List.any_map,List.map_map];have h2:((eX { c with pods:=⟨false,c.pods.l⟩,services:=⟨false,c.services.l⟩,bound:=⟨false,c.bound.l⟩,policies:=⟨false,c.policies.l.map Pol.nf⟩ }) ∘ Pol.nf)=eX c:=by
   funext p;simp only [Function.comp,eX,Gg];rfl
  rw [h2];rfl
 have hb:dJ c.nf=dJ c:=xy rfl rfl (by rw [h]);have h1:jI c.nf=jI c:=rfl;have h2:fG c.nf=fG c:=by rw [h]; rfl
 have h3:bL c.nf=bL c:=by rw [h]; rfl
 have h4:jA c.nf=jA c:=by rw [h]; rfl
 simp only [gP,hp,hb,h1,h2,h3,h4]
theorem nH {c d:Cfg}(h:c.nf=d.nf):gP c=gP d:=by rw [← EE c,← EE d,h]
theorem kU {c d:Cfg}(h:c.nf=d.nf):bT c=bT d:=by
 have h1:=congrArg (fun x:Cfg=>x.pods.l.length) h;have h2:=congrArg (fun x:Cfg=>x.services.l.length) h;have h3:=congrArg (fun x:Cfg=>x.bound.l.length) h;have h4:=congrArg (fun x:Cfg=>x.policies.l.length) h;simp [Cfg.nf,Sl.nf] at h1 h2 h3 h4;simp only [bT,h1,h2,h3,h4]
end
section
structure Rise (c:Cfg):Prop where
 p:c.pods.l.Pairwise (fun a b=>a.uid<b.uid)
 s:c.services.l.Pairwise (fun a b=>a.id<b.id)
 b:c.bound.l.Pairwise (fun a b=>a.id<b.id)
 q:c.policies.l.Pairwise (fun a b=>a.id<b.id)
 n:∀ x∈c.pods.l,x.uid<c.next
 e:c.epoch<=4611686018427387903
theorem Bi {c:Cfg}(hm:gP c=true):Rise c:=by
 simp only [gP,fG,bL,dJ,bB,jI,aq,br] at hm;refine ⟨oP hm.1.1.1.1.2.2,oP hm.1.1.1.2.2,oP hm.1.2.2,oP hm.2.2,fun x hx=>?_,hm.1.1.1.1.1.1.1.1.1.1.1⟩;have h1:=hm.1.1.1.1.2.1;simp only [Bool.not_eq_true',List.any_eq_false] at h1;have h2:=h1 x hx;simp only [bq,aZ,Bool.or_eq_true,br,not_or] at h2;omega
theorem IG {l:List Pol}{f:Pol->Pol}(hf:∀ y,(f y).id=y.id)(h:l.Pairwise (fun a b=>a.id<b.id)):(l.map f).Pairwise (fun a b=>a.id<b.id):=by
 rw [List.pairwise_map];exact h.imp fun h=>by rw [hf,hf]; exact h
theorem fE {c d:Cfg}(h1:c.epoch=d.epoch)(h2:c.next=d.next)(h3:c.hosts=d.hosts)(h4:c.ways=d.ways)(h5:c.pods.l=d.pods.l)(h6:c.services.l=d.services.l)(h7:c.bound.l=d.bound.l)(h8:c.policies.l.map Pol.nf=d.policies.l.map Pol.nf):c.nf=d.nf:=by
 simp [Cfg.nf,Sl.nf,h1,h2,h3,h4,h5,h6,h7,h8]
theorem K7 (c:Cfg):c.cp.policies.l.map Pol.nf=c.own.policies.l.map Pol.nf:=by
 simp [Cfg.cp,Cfg.own,gp,cj,Pol.cp_nf,p9]
theorem Fv {c:Cfg}(hm:gP c=true)(e:Edt):(bA c e).2=(bK c.own e).2/\((bA c e).2=0->(bA c e).1.nf=(bK c.own e).1.nf):=by
 have R:=Bi hm;have hpn:=K7 c;unfold bA bK;by_cases k1:e.kind=1
 · rw [if_pos k1,if_pos k1];refine ⟨rfl,fun _=>fE rfl rfl rfl rfl ?_ rfl rfl hpn⟩;exact (ym (key:=Pod.uid) R.p fun y hy=>R.n y hy).symm
 rw [if_neg k1,if_neg k1];by_cases k2:e.kind=2
 · rw [if_pos k2,if_pos k2];have hl:=nY (key:=Pod.uid) (n:=e.id) (s:=c.own.pods);have hl':jG Pod.uid e.id c.own.pods=(c.pods.l.find? fun y=>y.uid==e.id).isSome:=hl;cases hf:c.pods.l.find? (fun p=>p.uid==e.id) with
   | none=>rw [hf] at hl'; simp [hl']
   | some p =>
    rw [hf] at hl';refine ⟨by simp [hl'],fun _=>fE rfl rfl rfl rfl rfl rfl rfl hpn⟩
 rw [if_neg k2,if_neg k2];by_cases k3:e.kind=3
 · rw [if_pos k3,if_pos k3];have:(c.own.pods.l.find? fun p=>p.uid==e.id)=c.pods.l.find? fun p=>p.uid==e.id:=rfl;rw [this];cases hf:c.pods.l.find? (fun p=>p.uid==e.id) with
   | none=>simp
   | some p =>
    refine ⟨rfl,fun _=>fE rfl rfl rfl rfl ?_ rfl rfl hpn⟩;exact (ym (key:=Pod.uid) (R.p.filter _) fun y hy=>R.n y (List.mem_filter.1 hy).1).symm
 rw [if_neg k3,if_neg k3];by_cases k4:e.kind=4
 · rw [if_pos k4,if_pos k4];exact ⟨rfl,fun _=>fE rfl rfl rfl rfl rfl (zq (key:=Svc.id) R.s) rfl hpn⟩
 rw [if_neg k4,if_neg k4];by_cases k5:e.kind=5
 · rw [if_pos k5,if_pos k5];have hl:jG Svc.id e.id c.own.services=(c.services.l.find? fun y=>y.id==e.id).isSome:=nY (key:=Svc.id) (n:=e.id) (s:=c.own.services);have ha:(c.own.policies.l.any fun p=>p.service==e.id)=c.policies.l.any fun p=>p.service==e.id:=by
    simp [Cfg.own,List.any_map,cj,Pol.own]
   have hb:(c.own.pods.l.any fun p=>p.service==e.id)=c.pods.l.any fun p=>p.service==e.id:=rfl;rw [ha,hb];cases hf:c.services.l.findIdx? (fun p=>p.id==e.id) with
   | none =>
    rw [ja hf] at hl;simp [hl]
   | some k =>
    rw [vZ hf] at hl;cases hu:(c.pods.l.any fun p=>p.service==e.id)||(c.policies.l.any fun p=>p.service==e.id) with
    | true=>simp [hl]
    | false =>
     simp only [hl,bm,if_false,if_true,true_and];exact fun _=>fE rfl rfl rfl rfl rfl (nX (key:=Svc.id) R.s hf) rfl hpn
 rw [if_neg k5,if_neg k5];by_cases k6:e.kind=6
 · rw [if_pos k6,if_pos k6];exact ⟨rfl,fun _=>fE rfl rfl rfl rfl rfl rfl (zq (key:=Way.id) R.b) hpn⟩
 rw [if_neg k6,if_neg k6];by_cases k7:e.kind=7
 · rw [if_pos k7,if_pos k7];have hl:jG Way.id e.id c.own.bound=(c.bound.l.find? fun y=>y.id==e.id).isSome:=nY (key:=Way.id) (n:=e.id) (s:=c.own.bound);have hb:(c.own.services.l.any fun p=>p.way==e.id)=c.services.l.any fun p=>p.way==e.id:=rfl;rw [hb];cases hf:c.bound.l.findIdx? (fun p=>p.id==e.id) with
   | none =>
    rw [ja hf] at hl;simp [hl]
   | some k =>
    rw [vZ hf] at hl;cases hu:(c.services.l.any fun p=>p.way==e.id) with
    | true=>simp [hl]
    | false =>
     simp only [hl,bm,if_false,if_true,true_and];exact fun _=>fE rfl rfl rfl rfl rfl rfl (nX (key:=Way.id) R.b hf) hpn
 rw [if_neg k7,if_neg k7];by_cases k8:e.kind=8
 · rw [if_pos k8,if_pos k8];refine ⟨rfl,fun _=>fE rfl rfl rfl rfl rfl rfl rfl ?_⟩;have h1:(dE Pol.id e.pol.own c.own.policies.l)=cB Pol.id e.pol.own (c.policies.l.map Pol.own):=(zq (key:=Pol.id) (IG (f:=Pol.own) (fun _=>rfl) R.q)).symm;show (cB Pol.id e.pol.cp (c.policies.l.map Pol.cp)).map Pol.nf=(dE Pol.id e.pol.own c.own.policies.l).map Pol.nf;rw [h1,qY (key:=Pol.id) (f:=Pol.nf) (fun _=>rfl),qY (key:=Pol.id) (f:=Pol.nf) (fun _=>rfl),Pol.cp_nf,p9];exact congrArg _ hpn
 rw [if_neg k8,if_neg k8];by_cases k9:e.kind=9
 · rw [if_pos k9,if_pos k9];have hl:jG Pol.id e.id c.own.policies=((c.policies.l.map Pol.own).find? fun y=>y.id==e.id).isSome:=nY (key:=Pol.id) (n:=e.id) (s:=c.own.policies);have hfm:((c.policies.l.map Pol.own).find? fun y=>y.id==e.id).isSome=(c.policies.l.find? fun y=>y.id==e.id).isSome:=by
    rw [List.find?_map,Option.isSome_map]; rfl
   rw [hfm] at hl;cases hf:c.policies.l.findIdx? (fun p=>p.id==e.id) with
   | none =>
    rw [ja hf] at hl;simp [hl]
   | some k =>
    rw [vZ hf] at hl;simp only [hl,if_true,true_and];refine fun _=>fE rfl rfl rfl rfl rfl rfl rfl ?_;show ((c.policies.l.map Pol.cp).eraseIdx k).map Pol.nf=((c.policies.l.map Pol.own).filter fun y=>!(y.id==e.id)).map Pol.nf;rw [FT,nX (key:=Pol.id) R.q hf,List.filter_map,List.map_map,List.map_map];exact List.map_congr_left fun p _=>by simp [Pol.cp_nf,p9]
 rw [if_neg k9,if_neg k9];exact ⟨rfl,fun h=>by simp at h⟩
theorem Gb (c:Cfg)(e:Edt):(bK c.own e).1.epoch=c.epoch:=by
 unfold bK Ae
 repeat' first
  | rfl
  | split
theorem CO {c:Cfg}(e:Edt):(eU c e).2=(iZ c e).2/\(eU c e).1.nf=(iZ c e).1.nf:=by
 unfold eU iZ;cases hm:df c with
 | false=>simp
 | true =>
  have hmt:=(og hm).2;obtain ⟨h1,h2⟩:=Fv hmt e;have R:=Bi hmt;have he:=Gb c e;simp only [Bool.true_eq_false,if_false];rw [← h1];by_cases k:(bA c e).2=0
  case neg=>simp [k]
  have hn:=h2 k;generalize (bA c e).1=x at *;generalize (bK c.own e).1=t at *;have hnext:x.next=t.next:=by have h5:=congrArg Cfg.next hn; exact h5
  have hfu:iX c x=mM c t:=by
   have:decide (c.epoch=4611686018427387903)=decide (c.epoch>=4611686018427387903):=by
    have:=R.e;by_cases q:c.epoch=4611686018427387903
    · simp [q]
    · have:¬ c.epoch>=4611686018427387903:=by omega
      simp [q,this]
   simp only [iX,mM,this,hnext,kU hn]
  have hnn:(eQ c x).nf=(dK t).nf:=by
   have h5:=congrArg Cfg.hosts hn;have h6:=congrArg Cfg.ways hn;have h7:=congrArg Cfg.pods hn;have h8:=congrArg Cfg.services hn;have h9:=congrArg Cfg.bound hn;have h0:=congrArg Cfg.policies hn;simp only [Cfg.nf] at h5 h6 h7 h8 h9 h0;simp only [Cfg.nf,eQ,dK,he,hnext,h5,h6,h7,h8,h9,h0]
  have k':¬ (bA c e).2≠0:=by simp [k]
  rw [if_neg k',if_neg k',hfu,nH hnn,kP hnn];split
  · exact ⟨rfl,rfl⟩
  split
  · exact ⟨rfl,rfl⟩
  split
  · exact ⟨rfl,rfl⟩
  · exact ⟨rfl,hnn⟩
end
section
variable {E:Calls'}
def am6:List (Nat×QF):=[(7,q34)]
def TV:FuncId->Option QF:=kz am6
def MX (f:FuncId):Bool:=Nat.beq 7 f
theorem V34 (hE:DoesE E)(c:Cfg)(hc:c.ok)(h:Hp):Sm E TV MX 7 [c.v] h=some (ag c.cp.c,h):=by
 obtain ⟨bs',lo',v4,v5,v6,v7,L0,L1,L2,L3,a,r1,r2,r3,r4,r5,r6,r7,r8,r9,r10,r11,r12,r13,r14,u4⟩:=B34 (T:=TV) (val:=MX) (by kernel_rfl) hE c hc [];have hcv:[c.v].mapM (frz h)=some [c.v]:=by simp [Cfg.v]
 rw [aV (q:=q34) (by kernel_rfl) (by kernel_rfl),hcv,lq];have a':Bd E TV MX q34 [c.v] ⟨[],0⟩=some (.agg (cq c v4 v5 v6 v7),⟨bs',lo'⟩):=a;rw [a',JQ,nA,dW (r7.datN r11 lo' 7) (r8.datN r12 lo' 7) (r9.datN r13 lo' 7) (r10.datE (fun h0=>r14 (by simpa using h0)) lo' 7),← Cfg.cp_c];simp [Cfg.v]
theorem NS (c:Cfg)(n:Int):(c.cp.policies.l.any fun p=>p.service==n)=c.policies.l.any fun p=>p.service==n:=by
 simp [Cfg.cp,gp,List.any_map,cj,Pol.cp]
theorem Kw (c:Cfg)(e:Edt):(bA c.cp e).2=(bA c e).2/\((bA c e).2=0->(bA c.cp e).1.nf=(bA c e).1.nf):=by
 have hpp:c.cp.cp.policies.l.map Pol.nf=c.cp.policies.l.map Pol.nf:=by
  simp [Cfg.cp,gp,cj,Pol.cp_nf]
 have hp1:(c.cp.policies.l.map Pol.cp).map Pol.nf=(c.policies.l.map Pol.cp).map Pol.nf:=hpp;have ha:=NS c e.id;have hfi:(c.cp.policies.l.findIdx? fun p=>p.id==e.id)=c.policies.l.findIdx? fun p=>p.id==e.id:=by
  simp only [Cfg.cp,gp,List.findIdx?_map]; rfl
 unfold bA;by_cases k1:e.kind=1
 · rw [if_pos k1,if_pos k1];exact ⟨rfl,fun _=>fE rfl rfl rfl rfl rfl rfl rfl hpp⟩
 rw [if_neg k1,if_neg k1];by_cases k2:e.kind=2
 · rw [if_pos k2,if_pos k2];have:(c.cp.pods.l.find? fun p=>p.uid==e.id)=c.pods.l.find? fun p=>p.uid==e.id:=rfl;rw [this];cases hf:c.pods.l.find? (fun p=>p.uid==e.id) with
   | none=>simp
   | some p=>exact ⟨rfl,fun _=>fE rfl rfl rfl rfl rfl rfl rfl hpp⟩
 rw [if_neg k2,if_neg k2];by_cases k3:e.kind=3
 · rw [if_pos k3,if_pos k3];have:(c.cp.pods.l.find? fun p=>p.uid==e.id)=c.pods.l.find? fun p=>p.uid==e.id:=rfl;rw [this];cases hf:c.pods.l.find? (fun p=>p.uid==e.id) with
   | none=>simp
   | some p=>exact ⟨rfl,fun _=>fE rfl rfl rfl rfl rfl rfl rfl hpp⟩
 rw [if_neg k3,if_neg k3];by_cases k4:e.kind=4
 · rw [if_pos k4,if_pos k4];exact ⟨rfl,fun _=>fE rfl rfl rfl rfl rfl rfl rfl hpp⟩
 rw [if_neg k4,if_neg k4];by_cases k5:e.kind=5
 · rw [if_pos k5,if_pos k5,ha];have h1:(c.cp.services.l.findIdx? fun p=>p.id==e.id)=c.services.l.findIdx? fun p=>p.id==e.id:=rfl;have h2:(c.cp.pods.l.any fun p=>p.service==e.id)=c.pods.l.any fun p=>p.service==e.id:=rfl;rw [h1,h2];cases hf:c.services.l.findIdx? (fun p=>p.id==e.id) with
   | none=>simp
   | some k =>
    cases hu:(c.pods.l.any fun p=>p.service==e.id)||(c.policies.l.any fun p=>p.service==e.id) with
    | true=>simp
    | false=>exact ⟨rfl,fun _=>fE rfl rfl rfl rfl rfl rfl rfl hpp⟩
 rw [if_neg k5,if_neg k5];by_cases k6:e.kind=6
 · rw [if_pos k6,if_pos k6];exact ⟨rfl,fun _=>fE rfl rfl rfl rfl rfl rfl rfl hpp⟩
 rw [if_neg k6,if_neg k6];by_cases k7:e.kind=7
 · rw [if_pos k7,if_pos k7];have h1:(c.cp.bound.l.findIdx? fun p=>p.id==e.id)=c.bound.l.findIdx? fun p=>p.id==e.id:=rfl;have h2:(c.cp.services.l.any fun p=>p.way==e.id)=c.services.l.any fun p=>p.way==e.id:=rfl;rw [h1,h2];cases hf:c.bound.l.findIdx? (fun p=>p.id==e.id) with
   | none=>simp
   | some k =>
    cases hu:(c.services.l.any fun p=>p.way==e.id) with
    | true=>simp
    | false=>exact ⟨rfl,fun _=>fE rfl rfl rfl rfl rfl rfl rfl hpp⟩
 rw [if_neg k7,if_neg k7];by_cases k8:e.kind=8
 · rw [if_pos k8,if_pos k8];refine ⟨rfl,fun _=>fE rfl rfl rfl rfl rfl rfl rfl ?_⟩;show (cB Pol.id e.pol.cp (c.cp.policies.l.map Pol.cp)).map Pol.nf=(cB Pol.id e.pol.cp (c.policies.l.map Pol.cp)).map Pol.nf;rw [qY (key:=Pol.id) (f:=Pol.nf) (fun _=>rfl),qY (key:=Pol.id) (f:=Pol.nf) (fun _=>rfl),hp1]
 rw [if_neg k8,if_neg k8];by_cases k9:e.kind=9
 · rw [if_pos k9,if_pos k9,hfi];cases hf:c.policies.l.findIdx? (fun p=>p.id==e.id) with
   | none=>simp
   | some k =>
    refine ⟨rfl,fun _=>fE rfl rfl rfl rfl rfl rfl rfl ?_⟩;show ((c.cp.policies.l.map Pol.cp).eraseIdx k).map Pol.nf=((c.policies.l.map Pol.cp).eraseIdx k).map Pol.nf;rw [← FT,← FT,hp1]
 rw [if_neg k9,if_neg k9];exact ⟨rfl,fun h=>by simp at h⟩
theorem Fq {c d:Cfg}(h:c.nf=d.nf):df c=df d:=by
 simp only [df,kU h,nH h,kP h]
theorem He (c:Cfg)(e:Edt):(eU c.cp e).2=(eU c e).2/\(eU c.cp e).1.nf=(eU c e).1.nf:=by
 unfold eU;rw [Fq c.cp_nf];obtain ⟨h1,h2⟩:=Kw c e;have hep:c.cp.epoch=c.epoch:=rfl;cases hm:df c with
 | false=>simp
 | true =>
  simp only [Bool.true_eq_false,if_false];rw [h1];by_cases k:(bA c e).2=0
  case neg=>simp [k]
  have hn:=h2 k;generalize (bA c e).1=x at *;generalize (bA c.cp e).1=t at *;have hnext:t.next=x.next:=by have h5:=congrArg Cfg.next hn; exact h5
  have hfu:iX c.cp t=iX c x:=by simp only [iX,hep,hnext,kU hn]
  have hnn:(eQ c.cp t).nf=(eQ c x).nf:=by
   have h5:=congrArg Cfg.hosts hn;have h6:=congrArg Cfg.ways hn;have h7:=congrArg Cfg.pods hn;have h8:=congrArg Cfg.services hn;have h9:=congrArg Cfg.bound hn;have h0:=congrArg Cfg.policies hn;simp only [Cfg.nf] at h5 h6 h7 h8 h9 h0;simp only [Cfg.nf,eQ,hep,hnext,h5,h6,h7,h8,h9,h0]
  have k':¬ (bA c e).2≠0:=by simp [k]
  rw [if_neg k',if_neg k',hfu,nH hnn,kP hnn];split
  · exact ⟨rfl,rfl⟩
  split
  · exact ⟨rfl,rfl⟩
  split
  · exact ⟨rfl,rfl⟩
  · exact ⟨rfl,hnn⟩
theorem JU {T:FuncId->Option QF}{val:FuncId->Bool}{f:FuncId}{q:QF}(ht:T f=some q)(hv:val f=true){l m:List D}{b:Bool}(h0:∀ h,Sm E T val f [ag l,ag m] h=some (bl b,h)){a a':V}{h:Hp}(ha:frz h a=some (ag l))(ha':frz h a'=some (ag m)):Sm E T val f [a,a'] h=some (bl b,h):=by
 have h1:=h0 h;rw [aV ht hv] at h1 ⊢;simp only [List.mapM_cons,List.mapM_nil,lg,ha,ha',Option.pure_def,Option.bind_eq_bind,Option.bind_some,lq,zX] at h1 ⊢;cases hB:Bd E T val q [ag l,ag m] ⟨[],0⟩ with
 | none=>rw [hB] at h1; cases h1
 | some p =>
  obtain ⟨r,h'⟩:=p;rw [hB] at h1;simp only [Co] at h1 ⊢;cases hr:frz h' r with
  | none=>rw [hr] at h1; cases h1
  | some r' =>
   rw [hr] at h1;have e1:r'=bl b:=by
    simp at h1; exact h1
   subst e1;have:=AY hr;subst this;simp [ownR,xH,ll]
end
section
variable {E:Calls'}
def am4:List (Nat×QF):=[(12,q39)]
def TS:FuncId->Option QF:=kz am4
def oZ (_:FuncId):Bool:=false
theorem BC {cs:List V}{o:Nat}{y:V}(h:o<cs.length):∃ cs',put cs o [y]=some cs'/\cs'.length=cs.length/\∀ j,cs'[j]?=if j=o then some y else cs[j]?:=by
 refine ⟨cs.set o y,?_,by simp,fun j=>?_⟩
 · simp only [put,List.length_singleton];rw [if_pos (by omega)]
   congr 1
   rw [List.set_eq_take_append_cons_drop,if_pos h];simp
 · rw [List.getElem?_set];by_cases hj:j=o
   · subst hj; simp [h]
   · rw [if_neg hj,if_neg (Ne.symm hj)]
theorem w9 {cs:List V}{o:Nat}{y:V}(h:cs[o]?=some y):sub cs o 1=some [y]:=by
 obtain ⟨h1,rfl⟩:=bw.1 h;exact ES h1
theorem lI {T:FuncId->Option QF}{val:FuncId->Bool}{keep:List Nat}{body:QC}(n:Nat)(env:Nat->EA)(P:Nat->List Blk->Prop)(X:Ex×EA)
 (hr:∀ i,i<n->∀ bs lo,P i bs->∃ bs' lo',P (i+1) bs'/\∀ W:EA->Hp->fZ,eD keep W (Cd E T val body (bU keep (env i)) ⟨bs,lo⟩)=W (env (i+1)) ⟨bs',lo'⟩)
 (he:∀ bs lo,P n bs->∀ W:EA->Hp->fZ,eD keep W (Cd E T val body (bU keep (env n)) ⟨bs,lo⟩)=some (X.1,X.2,⟨bs,lo⟩)) (bs:List Blk) (lo:Nat) (h0:P 0 bs) :
 ∃ bs' lo',Cd E T val (.loop keep body) (env 0) ⟨bs,lo⟩=some (X.1,X.2,⟨bs',lo'⟩)/\P n bs':=by
 have:∀ (m i:Nat) (bs:List Blk) (lo:Nat),i+m=n->P i bs->∃ bs' lo',Cd E T val (.loop keep body) (env i) ⟨bs,lo⟩=some (X.1,X.2,⟨bs',lo'⟩)/\P n bs':=by
  intro m;have key:=aC (E:=E) (T:=T) (val:=val) keep body;generalize Cd E T val (.loop keep body)=W at key ⊢
  induction m with
  | zero =>
   intro i bs lo hi hP;rw [show i=n by omega] at hP ⊢;exact ⟨bs,lo,by rw [key,he bs lo hP W],hP⟩
  | succ m ih =>
   intro i bs lo hi hP;obtain ⟨bs',lo',h1,h2⟩:=hr i (by omega) bs lo hP;obtain ⟨bs2,lo2,h3,h4⟩:=ih (i+1) bs' lo' (by omega) h1;exact ⟨bs2,lo2,by rw [key,h2 W,h3],h4⟩
 exact this n 0 bs lo (by omega) h0
def Idc (z n:Nat)(cs:List V):Prop:=∀ i,i<n->∃ x,cs[i * z]?=some (.d (u64 x))
theorem Idc.put {z n o:Nat}{cs cs':List V}{x:Int}(h:Idc z n cs)(hc:∀ j,cs'[j]?=if j=o then some (.d (u64 x)) else cs[j]?):Idc z n cs':=fun i hi=>by
 rw [hc];by_cases ho:i * z=o
 · rw [if_pos ho]; exact ⟨_,rfl⟩
 · rw [if_neg ho]; exact h i hi
def IdRow (K:Nat->Prop)(bs:List Blk)(z:Nat)(v:V):Prop:=(∃ nl,v=.d (.slice nl []))\/∃ b n cap cs,K b/\v=.row b 0 n cap z/\n<2 ^ 62/\af bs b=some cs/\Idc z n cs
def Keeps (K:Nat->Prop)(bs bs':List Blk):Prop:=(∀ x,¬ K x->bs'[x]?=bs[x]?)/\∀ x cs,af bs x=some cs->∃ cs',af bs' x=some cs'/\cs'.length=cs.length
theorem Keeps.refl {K:Nat->Prop}{bs:List Blk}:Keeps K bs bs:=⟨fun _ _=>rfl,fun x cs h=>⟨cs,h,rfl⟩⟩
theorem Keeps.trans {K:Nat->Prop}{a b c:List Blk}(h:Keeps K a b)(k:Keeps K b c):Keeps K a c:=⟨fun x hx=>(k.1 x hx).trans (h.1 x hx),fun x cs hc=>by
 obtain ⟨c1,h1,h2⟩:=h.2 x cs hc;obtain ⟨c2,h3,h4⟩:=k.2 x c1 h1;exact ⟨c2,h3,h4.trans h2⟩⟩
theorem Keeps.set {K:Nat->Prop}{x:Nat}{bs:List Blk}{cs cs0:List V}(h:K x)(h0:af bs x=some cs0)(hl:cs.length=cs0.length):Keeps K bs (bs.set x (.cells cs)):=⟨fun y hy=>am (by rintro rfl; exact hy h),fun y c hc=>by
 by_cases hy:x=y
 · subst hy;rw [h0] at hc;cases hc;exact ⟨cs,aK h0,hl⟩
 · exact ⟨c,by rw [aS hy]; exact hc,rfl⟩⟩
theorem Keeps.get {K:Nat->Prop}{x:Nat}{bs bs':List Blk}{cs:List V}(h:Keeps K bs bs')(hx:¬ K x)(hg:af bs x=some cs):af bs' x=some cs:=by
 rw [← hg]; unfold af; rw [h.1 x hx]
theorem RN {K:Nat->Prop}{p:Nat}{cells:List V}{v:V}(hp:¬ K p)(hs:sub cells 4 1=some [v])(bs:List Blk)(lo:Nat)(hg:af bs p=some cells)(hv:IdRow K bs 7 v) :
 ∃ bs' lo',Cd E TS oZ (.loop [1,2] tq) [(1,.ptr p 0),(2,.d (i64 ((0:Nat):Int)))] ⟨bs,lo⟩=some (.exit 0,[(1,.ptr p 0)],⟨bs',lo'⟩)/\Keeps K bs bs'/\∀ b n cap,v=.row b 0 n cap 7->∀ x,x≠b->bs'[x]?=bs[x]?:=by
 rcases hv with ⟨nl,rfl⟩ | ⟨b,n,cap,cs,hL,rfl,hn,hb,hi⟩
 · refine ⟨bs,lo,?_,Keeps.refl,fun b n cap h=>by simp at h⟩;rw [aC];simp [tq,hg,hs]
 · obtain ⟨bs',lo',h1,h2,h3,h4⟩:=lI (E:=E) (T:=TS) (val:=oZ) (keep:=[1,2]) (body:=tq) n (fun i=>[(1,.ptr p 0),(2,.d (i64 i))]) (fun i bs'=>Keeps K bs bs'/\(∀ x,x≠b->bs'[x]?=bs[x]?)/\∃ cs',af bs' b=some cs'/\Idc 7 n cs') (.exit 0,[(1,.ptr p 0)])
    (by
      intro i hlt bs1 lo1 ⟨hk,hx,cs1,hc1,hi1⟩;obtain ⟨x,hxx⟩:=hi1 i hlt;have hlen:=(bw.1 hxx).1;obtain ⟨cs2,q1,q2,q3⟩:=BC (y:=.d (u64 (wrap .u64 (x+1)))) hlen;have hgp:=hk.get hp hg;have hsx:=w9 hxx;have hw:=ak hlt hn;have h0:((i:Int)<n):=by omega
      have hix:∀ hp,eP none 7 (.row b 0 n cap 7) (.d (.int .i64 i)) hp=some (.ptr b (i * 7),hp):=fun hp=>by
       simp only [eP];rw [if_pos ⟨by omega,by omega,trivial⟩];simp
      refine ⟨bs1.set b (.cells cs2),min lo1 b,⟨hk.trans (Keeps.set hL hc1 q2),fun y hy=>by rw [am (Ne.symm hy),hx y hy],cs2,aK hc1,hi1.put q3⟩,fun W=>?_⟩;simp [tq,hgp,hs,hix,hc1,hsx,q1,h0,hw,-kG,-jJ])
    (by
      intro bs1 lo1 ⟨hk,hx,cs1,hc1,hi1⟩ W;have hgp:=hk.get hp hg;simp [tq,hgp,hs])
    bs lo ⟨Keeps.refl,fun _ _=>rfl,cs,hb,hi⟩
   exact ⟨bs',lo',h1,h2,fun b' n' cap' h=>by simp at h; obtain ⟨rfl,_⟩:=h; exact h3⟩
theorem RP {K:Nat->Prop}{p:Nat}{cells:List V}{v:V}(hp:¬ K p)(hs:sub cells 5 1=some [v])(bs:List Blk)(lo:Nat)(hg:af bs p=some cells)(hv:IdRow K bs 5 v) :
 ∃ bs' lo',Cd E TS oZ (.loop [1,3] tu) [(1,.ptr p 0),(3,.d (i64 ((0:Nat):Int)))] ⟨bs,lo⟩=some (.exit 2,[(1,.ptr p 0)],⟨bs',lo'⟩)/\Keeps K bs bs'/\∀ b n cap,v=.row b 0 n cap 5->∀ x,x≠b->bs'[x]?=bs[x]?:=by
 rcases hv with ⟨nl,rfl⟩ | ⟨b,n,cap,cs,hL,rfl,hn,hb,hi⟩
 · refine ⟨bs,lo,?_,Keeps.refl,fun b n cap h=>by simp at h⟩;rw [aC];simp [tu,hg,hs]
 · obtain ⟨bs',lo',h1,h2,h3,h4⟩:=lI (E:=E) (T:=TS) (val:=oZ) (keep:=[1,3]) (body:=tu) n (fun i=>[(1,.ptr p 0),(3,.d (i64 i))]) (fun i bs'=>Keeps K bs bs'/\(∀ x,x≠b->bs'[x]?=bs[x]?)/\∃ cs',af bs' b=some cs'/\Idc 5 n cs') (.exit 2,[(1,.ptr p 0)])
    (by
      intro i hlt bs1 lo1 ⟨hk,hx,cs1,hc1,hi1⟩;obtain ⟨x,hxx⟩:=hi1 i hlt;have hlen:=(bw.1 hxx).1;obtain ⟨cs2,q1,q2,q3⟩:=BC (y:=.d (u64 (wrap .u64 (x+1)))) hlen;have hgp:=hk.get hp hg;have hsx:=w9 hxx;have hw:=ak hlt hn;have h0:((i:Int)<n):=by omega
      have hix:∀ hp,eP none 5 (.row b 0 n cap 5) (.d (.int .i64 i)) hp=some (.ptr b (i * 5),hp):=fun hp=>by
       simp only [eP];rw [if_pos ⟨by omega,by omega,trivial⟩];simp
      refine ⟨bs1.set b (.cells cs2),min lo1 b,⟨hk.trans (Keeps.set hL hc1 q2),fun y hy=>by rw [am (Ne.symm hy),hx y hy],cs2,aK hc1,hi1.put q3⟩,fun W=>?_⟩;simp [tu,hgp,hs,hix,hc1,hsx,q1,h0,hw,-kG,-jJ])
    (by
      intro bs1 lo1 ⟨hk,hx,cs1,hc1,hi1⟩ W;have hgp:=hk.get hp hg;simp [tu,hgp,hs])
    bs lo ⟨Keeps.refl,fun _ _=>rfl,cs,hb,hi⟩
   exact ⟨bs',lo',h1,h2,fun b' n' cap' h=>by simp at h; obtain ⟨rfl,_⟩:=h; exact h3⟩
theorem RQ {K:Nat->Prop}{p:Nat}{cells:List V}{v:V}(hp:¬ K p)(hs:sub cells 6 1=some [v])(bs:List Blk)(lo:Nat)(hg:af bs p=some cells)(hv:IdRow K bs 2 v) :
 ∃ bs' lo',Cd E TS oZ (.loop [1,4] tC) [(1,.ptr p 0),(4,.d (i64 ((0:Nat):Int)))] ⟨bs,lo⟩=some (.exit 4,[(1,.ptr p 0)],⟨bs',lo'⟩)/\Keeps K bs bs'/\∀ b n cap,v=.row b 0 n cap 2->∀ x,x≠b->bs'[x]?=bs[x]?:=by
 rcases hv with ⟨nl,rfl⟩ | ⟨b,n,cap,cs,hL,rfl,hn,hb,hi⟩
 · refine ⟨bs,lo,?_,Keeps.refl,fun b n cap h=>by simp at h⟩;rw [aC];simp [tC,hg,hs]
 · obtain ⟨bs',lo',h1,h2,h3,h4⟩:=lI (E:=E) (T:=TS) (val:=oZ) (keep:=[1,4]) (body:=tC) n (fun i=>[(1,.ptr p 0),(4,.d (i64 i))]) (fun i bs'=>Keeps K bs bs'/\(∀ x,x≠b->bs'[x]?=bs[x]?)/\∃ cs',af bs' b=some cs'/\Idc 2 n cs') (.exit 4,[(1,.ptr p 0)])
    (by
      intro i hlt bs1 lo1 ⟨hk,hx,cs1,hc1,hi1⟩;obtain ⟨x,hxx⟩:=hi1 i hlt;have hlen:=(bw.1 hxx).1;obtain ⟨cs2,q1,q2,q3⟩:=BC (y:=.d (u64 (wrap .u64 (x+1)))) hlen;have hgp:=hk.get hp hg;have hsx:=w9 hxx;have hw:=ak hlt hn;have h0:((i:Int)<n):=by omega
      have hix:∀ hp,eP none 2 (.row b 0 n cap 2) (.d (.int .i64 i)) hp=some (.ptr b (i * 2),hp):=fun hp=>by
       simp only [eP];rw [if_pos ⟨by omega,by omega,trivial⟩];simp
      refine ⟨bs1.set b (.cells cs2),min lo1 b,⟨hk.trans (Keeps.set hL hc1 q2),fun y hy=>by rw [am (Ne.symm hy),hx y hy],cs2,aK hc1,hi1.put q3⟩,fun W=>?_⟩;simp [tC,hgp,hs,hix,hc1,hsx,q1,h0,hw,-kG,-jJ])
    (by
      intro bs1 lo1 ⟨hk,hx,cs1,hc1,hi1⟩ W;have hgp:=hk.get hp hg;simp [tC,hgp,hs])
    bs lo ⟨Keeps.refl,fun _ _=>rfl,cs,hb,hi⟩
   exact ⟨bs',lo',h1,h2,fun b' n' cap' h=>by simp at h; obtain ⟨rfl,_⟩:=h; exact h3⟩
def RulOk (K:Nat->Prop)(b:Nat)(bs:List Blk)(r:V):Prop:=(∃ nl,r=.d (.slice nl []))\/∃ b' m cap cs,K b'/\b'≠b/\r=.row b' 0 m cap 3/\m<2 ^ 62/\af bs b'=some cs/\m * 3<=cs.length
theorem RulOk.keep {K:Nat->Prop}{b:Nat}{bs bs':List Blk}{r:V}(h:RulOk K b bs r)(k:Keeps K bs bs'):RulOk K b bs' r:=by
 rcases h with h | ⟨b',m,cap,cs,h1,h2,h3,h4,h5,h6⟩
 · exact .inl h
 · obtain ⟨cs',q1,q2⟩:=k.2 b' cs h5;exact .inr ⟨b',m,cap,cs',h1,h2,h3,h4,q1,by omega⟩
def PolRow (K:Nat->Prop)(bs:List Blk)(v:V):Prop:=(∃ nl,v=.d (.slice nl []))\/∃ b n cap cs,K b/\v=.row b 0 n cap 5/\n<2 ^ 62/\af bs b=some cs/\Idc 5 n cs/\∀ i,i<n->∃ r,cs[i * 5+4]?=some r/\RulOk K b bs r
theorem RS {K:Nat->Prop}{p:Nat}{cells:List V}(hp:¬ K p){b n:Nat}{cap:Option Nat}(hs:sub cells 7 1=some [.row b 0 n cap 5])(bs:List Blk)(lo:Nat)(hg:af bs p=some cells){cs:List V}(hb:af bs b=some cs){i:Nat}(hi:i<n){r:V}(hr:cs[i * 5+4]?=some r)(ho:RulOk K b bs r) :
 ∃ bs' lo',Cd E TS oZ (.loop [1,5,6] tF) [(1,.ptr p 0),(5,.d (i64 i)),(6,.d (i64 ((0:Nat):Int)))] ⟨bs,lo⟩=some (.exit 8,[(1,.ptr p 0),(5,.d (i64 i))],⟨bs',lo'⟩)/\Keeps K bs bs'/\af bs' b=some cs:=by
 have hix:∀ hp,eP none 5 (.row b 0 n cap 5) (.d (.int .i64 i)) hp=some (.ptr b (i * 5),hp):=fun hp=>by
  simp only [eP];rw [if_pos ⟨by omega,by omega,trivial⟩];simp
 have hsr:=w9 hr;rcases ho with ⟨nl,rfl⟩ | ⟨b',m,cap',cs',hK,hne,rfl,hm,hb',hl⟩
 · refine ⟨bs,lo,?_,Keeps.refl,hb⟩;rw [aC];simp [tF,hg,hs,hix,hb,hsr]
 · obtain ⟨bs',lo',h1,h2,h3,_⟩:=lI (E:=E) (T:=TS) (val:=oZ) (keep:=[1,5,6]) (body:=tF) m (fun j=>[(1,.ptr p 0),(5,.d (i64 i)),(6,.d (i64 j))]) (fun j bs'=>Keeps K bs bs'/\af bs' b=some cs/\∃ cs1,af bs' b'=some cs1/\m * 3<=cs1.length) (.exit 8,[(1,.ptr p 0),(5,.d (i64 i))])
    (by
      intro j hlt bs1 lo1 ⟨hk,hx,cs1,hc1,hl1⟩;have hlen:j * 3<cs1.length:=by omega
      obtain ⟨cs2,q1,q2,q3⟩:=BC (y:=.d (.slice true [])) hlen;have hgp:=hk.get hp hg;have hw:=ak hlt hm;have h0:((j:Int)<m):=by omega
      have hjx:∀ hp,eP none 3 (.row b' 0 m cap' 3) (.d (.int .i64 j)) hp=some (.ptr b' (j * 3),hp):=fun hp=>by
       simp only [eP];rw [if_pos ⟨by omega,by omega,trivial⟩];simp
      refine ⟨bs1.set b' (.cells cs2),min lo1 b',⟨hk.trans (Keeps.set hK hc1 q2),(aS hne).trans hx,cs2,aK hc1,by omega⟩,fun W=>?_⟩;simp [tF,hgp,hs,hix,hx,hsr,hjx,hc1,q1,h0,hw,-kG,-jJ])
    (by
      intro bs1 lo1 ⟨hk,hx,cs1,hc1,hl1⟩ W;have hgp:=hk.get hp hg;simp [tF,hgp,hs,hix,hx,hsr])
    bs lo ⟨Keeps.refl,hb,cs',hb',hl⟩
   exact ⟨bs',lo',h1,h2,h3⟩
theorem RU {K:Nat->Prop}{p:Nat}{cells:List V}{v:V}(hp:¬ K p)(hs:sub cells 7 1=some [v])(bs:List Blk)(lo:Nat)(hg:af bs p=some cells)(hv:PolRow K bs v) :
 ∃ bs' lo',Cd E TS oZ (.loop [1,5] tH) [(1,.ptr p 0),(5,.d (i64 ((0:Nat):Int)))] ⟨bs,lo⟩=some (.exit 6,[],⟨bs',lo'⟩)/\Keeps K bs bs':=by
 rcases hv with ⟨nl,rfl⟩ | ⟨b,n,cap,cs,hK,rfl,hn,hb,hi,hr⟩
 · refine ⟨bs,lo,?_,Keeps.refl⟩;rw [aC];simp [tH,hg,hs]
 · obtain ⟨bs',lo',h1,h2,_⟩:=lI (E:=E) (T:=TS) (val:=oZ) (keep:=[1,5]) (body:=tH) n (fun i=>[(1,.ptr p 0),(5,.d (i64 i))]) (fun i bs'=>Keeps K bs bs'/\∃ cs',af bs' b=some cs'/\Idc 5 n cs'/\∀ i,i<n->∃ r,cs'[i * 5+4]?=some r/\RulOk K b bs' r) (.exit 6,[])
    (by
      intro i hlt bs1 lo1 ⟨hk,cs1,hc1,hi1,hr1⟩;obtain ⟨r,hrr,hro⟩:=hr1 i hlt;have hgp:=hk.get hp hg;obtain ⟨bs2,lo2,d1,d2,d3⟩:=RS (E:=E) hp (cap:=cap) hs bs1 lo1 hgp hc1 hlt hrr hro;obtain ⟨x,hxx⟩:=hi1 i hlt;have hlen:=(bw.1 hxx).1;obtain ⟨cs2,q1,q2,q3⟩:=BC (y:=.d (u64 (wrap .u64 (x+1)))) hlen;have hgp2:=d2.get hp hgp;have hsx:=w9 hxx;have hw:=ak hlt hn;have h0:((i:Int)<n):=by omega
      have hix:∀ hp,eP none 5 (.row b 0 n cap 5) (.d (.int .i64 i)) hp=some (.ptr b (i * 5),hp):=fun hp=>by
       simp only [eP];rw [if_pos ⟨by omega,by omega,trivial⟩];simp
      have hk2:=d2.trans (Keeps.set hK d3 q2);refine ⟨bs2.set b (.cells cs2),min lo2 b,⟨hk.trans hk2,cs2,aK d3,hi1.put q3,fun j hj=>?_⟩,fun W=>?_⟩
      · obtain ⟨r',e1,e2⟩:=hr1 j hj;refine ⟨r',?_,e2.keep hk2⟩;rw [q3,if_neg (by omega)];exact e1
      · simp at d1;simp [tH,hgp,hs,h0];rw [au];simp [d1,hgp2,hs,hix,d3,hsx,q1,hw,-kG,-jJ])
    (by
      intro bs1 lo1 ⟨hk,cs1,hc1,hi1,hr1⟩ W;have hgp:=hk.get hp hg;simp [tH,hgp,hs])
    bs lo ⟨Keeps.refl,cs,hb,hi,hr⟩
   exact ⟨bs',lo',h1,h2⟩
end
section
variable {E:Calls'}
def Tg (L M:Nat)(tag:Nat->Nat)(i:Nat):Nat->Prop:=fun x=>L<=x/\x<M/\tag x=i
def Tg2 (L M:Nat)(tag:Nat->Nat):Nat->Prop:=fun x=>L<=x/\x<M/\(tag x=7\/tag x=8)
theorem aX {bs bs':List Blk}{x:Nat}{cs:List V}(h:bs'[x]?=bs[x]?)(hg:af bs x=some cs):af bs' x=some cs:=by
 rw [← hg]; unfold af; rw [h]
theorem IdRow.on {K:Nat->Prop}{bs bs':List Blk}{z:Nat}{v:V}(h:IdRow K bs z v)(k:∀ x,K x->bs'[x]?=bs[x]?):IdRow K bs' z v:=by
 rcases h with h | ⟨b,n,cap,cs,h1,h2,h3,h4,h5⟩
 · exact .inl h
 · exact .inr ⟨b,n,cap,cs,h1,h2,h3,aX (k b h1) h4,h5⟩
theorem PolRow.on {K:Nat->Prop}{bs bs':List Blk}{v:V}(h:PolRow K bs v)(k:∀ x,K x->bs'[x]?=bs[x]?):PolRow K bs' v:=by
 rcases h with h | ⟨b,n,cap,cs,h1,h2,h3,h4,h5,h6⟩
 · exact .inl h
 · refine .inr ⟨b,n,cap,cs,h1,h2,h3,aX (k b h1) h4,h5,fun i hi=>?_⟩;obtain ⟨r,q1,q2⟩:=h6 i hi;refine ⟨r,q1,?_⟩;rcases q2 with q2 | ⟨b',m,cap',cs',e1,e2,e3,e4,e5,e6⟩
   · exact .inl q2
   · exact .inr ⟨b',m,cap',cs',e1,e2,e3,e4,aX (k b' e1) e5,e6⟩
structure Spoils (L0 M:Nat) (bs:List Blk) (cells:List V):Prop where
 len:cells.length=8
 low:L0<=M
 top:M<=bs.length
 is:∃ (tag:Nat->Nat) (v4 v5 v6 v7:V),sub cells 4 1=some [v4]/\sub cells 5 1=some [v5]/\sub cells 6 1=some [v6]/\sub cells 7 1=some [v7] ∧
  IdRow (Tg L0 M tag 4) bs 7 v4/\IdRow (Tg L0 M tag 5) bs 5 v5/\IdRow (Tg L0 M tag 6) bs 2 v6/\PolRow (Tg2 L0 M tag) bs v7
theorem Spoils.on {L0 M:Nat}{bs bs':List Blk}{cells:List V}(h:Spoils L0 M bs cells)(hl:M<=bs'.length)(k:∀ x,L0<=x->x<M->bs'[x]?=bs[x]?):Spoils L0 M bs' cells:=by
 obtain ⟨tag,v4,v5,v6,v7,s4,s5,s6,s7,r4,r5,r6,r7⟩:=h.is;exact ⟨h.len,h.low,hl,tag,v4,v5,v6,v7,s4,s5,s6,s7,r4.on fun x hx=>k x hx.1 hx.2.1,r5.on fun x hx=>k x hx.1 hx.2.1,r6.on fun x hx=>k x hx.1 hx.2.1,r7.on fun x hx=>k x hx.1 hx.2.1⟩
theorem s39:TS 12=some q39:=by kernel_rfl
theorem r39:oZ 12=false:=rfl
theorem S39 {L0 M:Nat}{bs:List Blk}{cells:List V}(h:Spoils L0 M bs cells):∃ bs',∃ F:Nat->Nat,(∀ lo,Sm E TS oZ 12 [.agg cells] ⟨bs,lo⟩=some (.tup [],⟨bs',F lo⟩))/\∀ x,x<L0->bs'[x]?=bs[x]?:=by
 obtain ⟨tag,v4,v5,v6,v7,s4,s5,s6,s7,r4,r5,r6,r7⟩:=h.is;have hM:=h.top;have hL0:=h.low;have hg:af (bs++[.cells cells]) bs.length=some cells:=by simp
 have n4:¬ Tg L0 M tag 4 bs.length:=fun h=>by have:=h.2.1; omega
 have n5:¬ Tg L0 M tag 5 bs.length:=fun h=>by have:=h.2.1; omega
 have n6:¬ Tg L0 M tag 6 bs.length:=fun h=>by have:=h.2.1; omega
 have n7:¬ Tg2 L0 M tag bs.length:=fun h=>by have:=h.2.1; omega
 have la:∀ x,x<bs.length->(bs++[Blk.cells cells])[x]?=bs[x]?:=fun x hx=>ao hx;obtain ⟨b1,lo1,a1,k1,_⟩:=RN (E:=E) n4 s4 _ bs.length hg (r4.on fun x h1=>la x (by have:=h1.2.1; omega));obtain ⟨b2,lo2,a2,k2,_⟩:=RP (E:=E) n5 s5 b1 lo1 (k1.get n4 hg) (r5.on fun x h1=>(k1.1 x (fun h2=>by have:=h1.2.2; have:=h2.2.2; omega)).trans (la x (by have:=h1.2.1; omega)));obtain ⟨b3,lo3,a3,k3,_⟩:=RQ (E:=E) n6 s6 b2 lo2 (k2.get n5 (k1.get n4 hg)) (r6.on fun x h1=>(k2.1 x (fun h2=>by have:=h1.2.2; have:=h2.2.2; omega)).trans ((k1.1 x (fun h2=>by have:=h1.2.2; have:=h2.2.2; omega)).trans (la x (by have:=h1.2.1; omega))));obtain ⟨b4,lo4,a4,k4⟩:=RU (E:=E) n7 s7 b3 lo3 (k3.get n6 (k2.get n5 (k1.get n4 hg))) (r7.on fun x h1=>(k3.1 x (fun h2=>by have:=h1.2.2; have:=h2.2.2; omega)).trans ((k2.1 x (fun h2=>by have:=h1.2.2; have:=h2.2.2; omega)).trans ((k1.1 x (fun h2=>by have:=h1.2.2; have:=h2.2.2; omega)).trans (la x (by have:=h1.2.1; omega)))));have hold:∀ x,x<L0->b4[x]?=bs[x]?:=fun x hx=>by
  rw [k4.1 x (fun h=>by have:=h.1; omega),k3.1 x (fun h=>by have:=h.1; omega),k2.1 x (fun h=>by have:=h.1; omega),k1.1 x (fun h=>by have:=h.1; omega),ao (by omega)]
 have hB:Bd E TS oZ q39 [.agg cells] ⟨bs,bs.length⟩=some (.tup [],⟨b4,lo4⟩):=by
  simp at a1 a2 a3 a4;simp [ae,q39];rw [au];simp [a1];rw [au];simp [a2];rw [au];simp [a3];rw [au];simp [a4,bG]
 by_cases hc:bs.length<=lo4/\(V.tup []).under bs.length=true
 · refine ⟨bs,id,fun lo=>?_,fun _ _=>rfl⟩;rw [aN s39 r39];show dU ⟨bs,lo⟩ (Bd E TS oZ q39 [.agg cells] ⟨bs,bs.length⟩)=_;rw [hB,bY,if_pos hc];rfl
 · refine ⟨b4,fun lo=>min lo lo4,fun lo=>?_,hold⟩;rw [aN s39 r39];show dU ⟨bs,lo⟩ (Bd E TS oZ q39 [.agg cells] ⟨bs,bs.length⟩)=_;rw [hB,bY,if_neg hc]
end
section
variable {E:Calls'}
def q5:QF:=⟨58,[.tmp 4],(sr [op 2 (.box (.t 0)),op 3 (.box (.t 1)),op 4 (.mov (.c zb))] (.seq (sr [op 11 (lf 8 2),op 12 (kc' 4 [.t 11]),mv 13 12,ow 13 14 (lf 21 3),ow 13 15 (kc' 5 [.t 14]),op 16 (.pick (.t 13) (.c (.d (.bool true))) (.t 15))] (.cond (.t 16) (sr [op 17 (kc' 6 []),mv 4 17] (.ret [4])) .skip)) (.seq (.reg (some [[],[0],[],[2],[3,2,1,0],[],[],[4,3,2,1,0,5,6],[7,4,3,2,1,0,5,6]]) [op 18 (lf 8 2),op 19 (kc' 7 [.t 18]),op 20 (fa 3 16),op 21 (lf 5 20),op 22 (kc' 8 [.t 21]),nw 5 [zu,zu,zi,zi,zs0,zs0,zs0,zs0],⟨none,some 6,.new [zu,(.d (.str ⟨#[]⟩)),zu,zi,zs0]⟩,so' 8 5 19,so' 5 6 22]) (sr [op 24 (lf 8 2),op 25 (lf 21 3),op 26 (kc' 9 [.t 24,.t 25]),mv 23 26,op 27 (.ext (.t 23) 0),op 28 (.ext (.t 23) 1),nw 7 [zu,zu,zi,zi,zs0,zs0,zs0,zs0],so' 8 7 27,mv 8 28] (sr [op 30 (lf 8 5),op 31 (lf 21 3),op 32 (kc' 10 [.t 30,.t 31]),mv 29 32,op 33 (.ext (.t 29) 0),op 34 (.ext (.t 29) 1),nw 9 [zu,zu,zi,zi,zs0,zs0,zs0,zs0],so' 8 9 33,mv 10 34] (.seq (sr [mv 35 8,mv 36 10,op 37 (.eq (.sc (.i .i64)) true (.t 35) (.t 36)),mv 38 37,ow 38 39 (lf 8 7),ow 38 40 (lf 8 9),ow 38 41 (kc' 11 [.t 39,.t 40]),ow 38 42 (.un .not (.t 41)),op 43 (.pick (.t 38) (.c (.d (.bool true))) (.t 42))] (.cond (.t 43) (sr [op 4 (.mov (.c zb))] (.ret [4])) .skip)) (sr [op 44 (lf 8 7),op 45 (kc' 12 [.t 44])] (sr [op 46 (lf 8 2),op 47 (lf 8 5),op 48 (kc' 11 [.t 46,.t 47]),mv 49 48,ot 49 50 (fa 3 16),ot 49 51 (lf 5 50),ot 49 52 (lf 5 6),ot 49 53 (kc' 13 [.t 51,.t 52]),op 54 (.pick (.t 49) (.t 53) (.c zb)),mv 55 54,ot 55 56 (kc' 6 []),op 57 (.pick (.t 55) (.t 56) (.c zb)),mv 4 57] (.ret [4])))))))))⟩
def tabQ:List (Nat×QF):=[(3,q5)]
def TQ:FuncId->Option QF:=kz tabQ
def valQ (f:FuncId):Bool:=Nat.beq 3 f
structure LawE (E:Calls') (c:Cfg) (e:Edt):Prop where
 e31:∃ b:Bool,∀ h,E 4 [c.v] h=some (bl b,h)
 e32:∃ b:Bool,∀ h,E 5 [ag e.c] h=some (bl b,h)
 e33:∀ h,E 6 [] h=some (bl true,h)
 e34:∀ h,E 7 [c.v] h=some (ag c.cp.c,h)
 e35:∀ h,E 8 [ag e.pol.c] h=some (ag e.pol.cp.c,h)
 e36:∀ bs,∃ bs' lo' cells,∃ d:Cfg,E 9 [c.v,ag e.c] ⟨bs,0⟩=some (.tup [.agg cells,.d (i64 (iZ c e).2)],⟨bs',lo'⟩)/\(∀ x,x<bs.length->bs'[x]?=bs[x]?)/\bs.length<=bs'.length/\Spoils bs.length bs'.length bs' cells ∧
  (∀ b2 lo2,(∀ x,bs.length<=x->x<bs'.length->b2[x]?=bs'[x]?)->bW ⟨b2,lo2⟩ cells=some d.c)/\d.ok/\d.nf=(iZ c e).1.nf
 e37:∀ h,E 10 [c.cp.v,ag e.c] h=some (.tup [ag (eU c.cp e).1.c,.d (i64 (eU c.cp e).2)],h)
 e38:∀ d w:Cfg,d.ok->∀ a h,frz h a=some (ag d.c)->E 11 [a,w.v] h=some (bl (d.same w),h)
 e39:∀ L0 M bs cells,Spoils L0 M bs cells->∃ bs',∃ F:Nat->Nat,(∀ lo,E 12 [.agg cells] ⟨bs,lo⟩=some (.tup [],⟨bs',F lo⟩))/\∀ x,x<L0->bs'[x]?=bs[x]?
 e29:∀ x y:Pol,x.ok->∀ h,E 13 [ag x.c,ag y.c] h=some (bl (x.same y),h)
theorem qt5:TQ 3=some q5:=by kernel_rfl
theorem qv5:valQ 3=true:=by kernel_rfl
theorem ZC (c:Cfg)(e:Edt)(hc:c.ok)(hp:e.pol.ok)(hE:LawE E c e)(h:Hp):Sm E TQ valQ 3 [c.v,ag e.c] h=some (bl true,h):=by
 have X:∀ f,TQ f=none->∀ a h,Sm E TQ valQ f a h=E f a h:=fun f hf a h=>bC hf;obtain ⟨b31,n31⟩:=hE.e31;obtain ⟨b32,n32⟩:=hE.e32;have n31:=fun h=>(X 4 (by kernel_rfl) _ _).trans (n31 h);have n32:=fun h=>(X 5 (by kernel_rfl) _ _).trans (n32 h);have n33:=fun h=>(X 6 (by kernel_rfl) _ _).trans (hE.e33 h);have n34:=fun h=>(X 7 (by kernel_rfl) _ _).trans (hE.e34 h);have n35:=fun h=>(X 8 (by kernel_rfl) _ _).trans (hE.e35 h);have n37:=fun h=>(X 10 (by kernel_rfl) _ _).trans (hE.e37 h);have n29:=fun h=>(X 13 (by kernel_rfl) _ _).trans (hE.e29 e.pol e.pol.cp hp h);have hps:e.pol.same e.pol.cp=true:=Pol.same_iff.2 e.pol.cp_nf.symm;rw [hps] at n29;have hcs:c.same c.cp=true:=Cfg.same_iff.2 c.cp_nf.symm;have n38c:=fun h=>(X 11 (by kernel_rfl) _ _).trans (hE.e38 c c.cp hc c.v h (by simp [Cfg.v]));rw [hcs] at n38c;obtain ⟨b1,lo1,cells,d,n36,k36,l36,sp,fz,hd,hn⟩:=hE.e36 [.cells (c.c.map .d),.cells (e.c.map .d),.cells (c.cp.c.map .d),.cells (e.pol.cp.c.map .d)];have n36:=(X 9 (by kernel_rfl) _ _).trans n36;have hl1:4<=b1.length:=by simpa using l36
 have g0:af b1 0=some (c.c.map .d):=by unfold af; rw [k36 0 (by simp)]; rfl
 have g1:af b1 1=some (e.c.map .d):=by unfold af; rw [k36 1 (by simp)]; rfl
 have g2:af b1 2=some (c.cp.c.map .d):=by unfold af; rw [k36 2 (by simp)]; rfl
 have g3:af b1 3=some (e.pol.cp.c.map .d):=by unfold af; rw [k36 3 (by simp)]; rfl
 obtain ⟨q1,q2⟩:=CO (c:=c) e;obtain ⟨p1,p2⟩:=He c e;have hcode:(eU c.cp e).2=(iZ c e).2:=p1.trans q1;have hsame:d.same (eU c.cp e).1=true:=Cfg.same_iff.2 (hn.trans (p2.trans q2).symm);rw [hcode] at n37;generalize (eU c.cp e).1=w at *;generalize (iZ c e).2=k at *;have hcl:cells.length=8:=sp.len;have hF:∀ ys lo,frz ⟨b1++ys,lo⟩ (.agg cells)=some (ag d.c):=fun ys lo=>by
  rw [nA,fz (b1++ys) lo fun x h1 h2=>ao h2]
 have n38:=fun ys lo=>(X 11 (by kernel_rfl) _ _).trans (hE.e38 d w hd (.agg cells) ⟨b1++ys,lo⟩ (hF ys lo));rw [hsame] at n38;obtain ⟨b2,F,n39,k39⟩:=hE.e39 4 b1.length (b1++[.cells cells,.cells (w.c.map .d)]) cells (sp.on (by simp) fun x h1 h2=>ao h2);have n39:=fun lo=>(X 12 (by kernel_rfl) _ _).trans (n39 lo);have m0:af b2 0=some (c.c.map .d):=aX (k39 0 (by decide)) (ax g0);have m1:af b2 1=some (e.c.map .d):=aX (k39 1 (by decide)) (ax g1);have m2:af b2 2=some (c.cp.c.map .d):=aX (k39 2 (by decide)) (ax g2);have m3:af b2 3=some (e.pol.cp.c.map .d):=aX (k39 3 (by decide)) (ax g3);have hcv:c.v=ag c.c:=rfl;have hs8:sub cells 0 8=some cells:=bH hcl;have ga:af (b1++[.cells cells,.cells (w.c.map .d)]) b1.length=some cells:=by simp
 have ga':af (b1++[.cells cells]) b1.length=some cells:=by simp
 rw [aV qt5 qv5];cases b31 with
 | true=>simp +decide [ae,q5,n31,n33]
 | false =>
  cases b32 with
  | true=>simp +decide [ae,q5,n31,n32,n33]
  | false =>
   simp +decide [ae,q5,n31,n32,n33,n34,n35,n36,n37,ai,aa,av];have n38':=fun lo=>n38 [.cells cells,.cells (w.c.map .d)] lo;simp at n38' n39 ga ga';simp +decide [hcl,hs8,g0,g1,g2,g3,ax g0,ax g1,ax g2,ax g3,n37,n38',n39,m0,m1,m2,m3,n38c,n29,n33,ga,ga',ai,aa,av]
end
