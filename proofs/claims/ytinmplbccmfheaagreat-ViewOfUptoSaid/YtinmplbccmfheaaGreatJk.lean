/- view.Of by reference. -/
import Derived.Test.YtinmplbccmfheaaGreatTn
import Derived.KernelRfl
set_option maxRecDepth 100000
set_option linter.unusedVariables false
set_option linter.unusedSimpArgs false
namespace Go.Proofs.YtinmplbccmfheaaGreat
open IntKind (wrap)
section
theorem Ka {E:Calls'}(H:OfR E){c:Cfg}(hok:c.ok)(bs:List Blk)(lo:Nat) :
 ∃ B lo1 v4 v5 v6 v7 tag pl,Sm E TJ aV 19 [c.v] ⟨bs,lo⟩=some (.agg (cq c v4 v5 v6 v7),⟨B,lo1⟩)/\(∀ x,x<bs.length->B[x]?=bs[x]?)/\bs.length<=B.length/\OwnS bs.length tag B c.own pl v4 v5 v6 v7:=by
 have h231:∀ r:Rule,r.fits big->∀ h,Sm E TJ aV 112 [ag r.c] h=some (ag r.own.c,h):=λr hr h=>(bB Xn).trans (H.h231 r hr h);obtain ⟨bs1,lo1,v4,v5,v6,v7,L1,L2,L3,Lq,n90,k1,k2,k3,k4,k5,k6,k7,r4,r5,r6,r7⟩:=P90 (E:=E) (T:=TJ) (val:=aV) ba0 ba2 PH PS PN PV PO PW PP PX WN XD Xm XZ h231 c hok bs lo
 let tag:Nat->Nat:=λx=>if x<L1 then 4 else if x<L2 then 5 else if x<L3 then 6 else if x<Lq then 7 else 8
 have ht:∀ x i,tag x=i↔(if x<L1 then 4 else if x<L2 then 5 else if x<L3 then 6 else if x<Lq then 7 else 8)=i:=λx i=>Iff.rfl;have q4:RowG (Tg bs.length bs1.length tag 4) bs1 7 (c.pods.l.map um) v4:=r4.g (by omega) (by omega) λx h1 h2=>by rw [ht,if_pos h2]
 have q5:RowG (Tg bs.length bs1.length tag 5) bs1 5 (c.services.l.map qx) v5:=r5.g (by omega) (by omega) λx h1 h2=>by rw [ht,if_neg (by omega),if_pos h2]
 have q6:RowG (Tg bs.length bs1.length tag 6) bs1 2 (c.bound.l.map BK) v6:=r6.g (by omega) (by omega) λx h1 h2=>by rw [ht,if_neg (by omega),if_neg (by omega),if_pos h2]
 obtain ⟨h1,h2⟩ | ⟨b,cap,css,h1,h2,h3,h4,h5,h6,h7⟩:=r7
 . exact ⟨bs1,lo1,v4,v5,v6,v7,tag,[],n90,k1,k2,q4,q5,q6,.inl ⟨rfl,h2⟩,by simp,by simp [Cfg.own,h1]⟩
 . obtain ⟨pl,p1,p2,p3⟩:=FW _ _ h5 h7;have hpll:pl.length=c.policies.l.length:=by rw [← p2]; simp
   refine ⟨bs1,lo1,v4,v5,v6,v7,tag,pl,n90,k1,k2,q4,q5,q6,.inr ⟨b,cap,[],⟨by omega,by omega,?_⟩,by simpa [hpll] using h3,?_⟩,λx hx=>(p3 x hx).g (by omega) (br _) λy h1 h2=>?_,?_⟩
   . rw [ht,if_neg (by omega),if_neg (by omega),if_neg (by omega),if_pos h2]
   . rw [h4,p1,List.append_nil]; rfl
   . rw [ht,if_neg (by omega),if_neg (by omega),if_neg (by omega),if_neg (by omega)]
   . show c.policies.l.map Pol.own=_;rw [← p2,List.map_map]; rfl
structure Of64 (bs:List Blk) (c:Cfg) (s:Scp) (B:List Blk) (v4 v5 v6 v7:V) (tag:Nat->Nat) (pl:List (Pol×V)) (D n1 n2 n3 n4 n5:Nat) (bs':List Blk) (w1 w2 w3 w4 w5:V):Prop where
 m3:bs.length+3<=B.length
 old:∀ x,x<bs.length+3->B[x]?=(bs++[Blk.cells (c.c.map .d),.cells (s.c.map .d),.cells [.d (.int .u64 0),aF,aF,aF,aF,aF]])[x]?
 own:OwnS (bs.length+3) tag B c.own pl v4 v5 v6 v7
 env:OfM bs.length B c.own s v4 v5 v6 v7 bs'
 r1:RowG (Wn (B.length+5) n1 D) bs' 1 ((lV c s).map cU) w1
 r2:RowG (Wn n1 n2 D) bs' 7 ((ja c.own s).map um) w2
 r3:RowG (Wn n2 n3 D) bs' 5 ((jb c.own s).map qx) w3
 r4:RowG (Wn n3 n4 D) bs' 2 ((lY c.own s).map BK) w4
 r5:RowG (Wn n4 n5 D) bs' 5 ((pl.filter λx=>fu c.own s.node x.1).map iJ) w5
 l1:B.length+5<=n1
 l2:n1<=n2
 l3:n2<=n3
 l4:n3<=n4
 l5:n4<=n5
 l6:n5<=bs'.length
theorem W64 {E:Calls'}(H:OfR E){c:Cfg}(hc:c.wf 1048576)(hcb:c.wf big){s:Scp}(hs:short s.addrs)(h1:bX c=true)(h2:dw s=true)(hsz:s.addrs.l.length+c.services.l.length<=big)(bs:List Blk) :
 ∃ B v4 v5 v6 v7 tag pl D n1 n2 n3 n4 n5 bs' lo' w1 w2 w3 w4 w5,Bd E TJ aV q64 [c.v,s.v] ⟨bs,bs.length⟩=some (.tup [.agg (aC c.epoch w1 w2 w3 w4 w5),.d (i64 0)],⟨bs',lo'⟩)/\Of64 bs c s B v4 v5 v6 v7 tag pl D n1 n2 n3 n4 n5 bs' w1 w2 w3 w4 w5:=by
 have hok:c.ok:=hcb.ok (br _);have hoo:c.own.ok:=(Cfg.own_wf hcb).ok (br _);have e1:∀ h,Sm E TJ aV 18 [c.v] h=some (bl true,h):=λh=>by rw [bB Xz,← h1]; exact H.h41 c hc hcb h
 have e2:∀ h,Sm E TJ aV 10 [s.v] h=some (bl true,h):=λh=>by rw [← h2]; exact W67 (E:=E) H.h117 hs h
 obtain ⟨B,lo1,v4,v5,v6,v7,tag,pl,e3,k1,k2,S⟩:=Ka H hok (bs++[.cells (c.c.map .d),.cells (s.c.map .d),.cells [.d (.int .u64 0),aF,aF,aF,aF,aF]]) bs.length;have hl0:(bs++[Blk.cells (c.c.map .d),.cells (s.c.map .d),.cells [.d (.int .u64 0),aF,aF,aF,aF,aF]]).length=bs.length+3:=by simp
 rw [hl0] at k1 k2 S;have g0:ah B bs.length=some (c.c.map .d):=dW (k1 _ (by omega)) (by simp);have g1:ah B (bs.length+1)=some (s.c.map .d):=dW (k1 _ (by omega)) (by simp);have g2:ah B (bs.length+2)=some [.d (.int .u64 0),aF,aF,aF,aF,aF]:=dW (k1 _ (by omega)) (by simp);have hqz:put (c.c.map V.d) 0 (cq c v4 v5 v6 v7)=some (cq c v4 v5 v6 v7):=cqz (by simp);have hfc:∀ f caps,(V.fn f caps).cells=some [V.fn f caps]:=λ_ _=>rfl;have hX:(B.set bs.length (.cells (cq c v4 v5 v6 v7))).length=B.length:=by simp
 have x0:ah (B.set bs.length (.cells (cq c v4 v5 v6 v7))) bs.length=some (cq c v4 v5 v6 v7):=bW g0;have x1:ah (B.set bs.length (.cells (cq c v4 v5 v6 v7))) (bs.length+1)=some (s.c.map .d):=(bV (by omega)).trans g1;have x2:ah (B.set bs.length (.cells (cq c v4 v5 v6 v7))) (bs.length+2)=some [.d (.int .u64 0),aF,aF,aF,aF,aF]:=(bV (by omega)).trans g2;have xo:∀ x,x≠bs.length->x≠bs.length+2->x<B.length->(B.set bs.length (.cells (cq c v4 v5 v6 v7)))[x]?=B[x]?:=λx h _ _=>am (Ne.symm h);generalize hXX:B.set bs.length (.cells (cq c v4 v5 v6 v7))=X at hX x0 x1 x2 xo;have hset:∀ ys k b,(X++ys).set (B.length+k) b=X++ys.set k b:=λys k b=>by rw [← hX,List.set_append_right _ _ (by omega)]; simp
 have hset0:∀ ys b,(X++ys).set B.length b=X++ys.set 0 b:=λys b=>hset ys 0 b;have hget:∀ ys k,ah (X++ys) (B.length+k)=ah ys k:=λys k=>by rw [← hX]; exact iX
 have hget0:∀ ys,ah (X++ys) B.length=ah ys 0:=λys=>hget ys 0;have hM:OfM bs.length B c.own s v4 v5 v6 v7 (X++Mg bs.length B.length):=QN hX k2 x0 x1 xo;obtain ⟨D,v,bs0,f,x35,x33,x32,x31,x30,p1,p2⟩:=ay2 (E:=E) hM (by simp [Mg,hX]) k2 (av x2) hs (.fn 28 [.ptr (bs.length+1) 0,.ptr (B.length+3) 0,.ptr (B.length+2) 0]) (.fn 20 [.ptr (bs.length+1) 0]) (.fn 21 [.ptr (bs.length+1) 0]) (.fn 23 [.ptr bs.length 0,.ptr B.length 0]) (.fn 25 [.ptr bs.length 0]) (.agg (cq c v4 v5 v6 v7)) (ag c.c) (.d (.bool false)) (.d (.bool false)) (bl true) (ag s.c) (.d (.bool false)) (.d (.bool false)) (bl true) (ag c.c) (.d (.int .i64 0)) (.ptr (bs.length+2) 0) (.ptr B.length 0) (.ptr (B.length+1) 0) (.ptr (B.length+2) 0) (.ptr (B.length+3) 0) (.ptr (B.length+4) 0) c.v s.v;simp only [regV,Mg,aF] at p1;obtain ⟨bs1,lo2,v',nl,l1,l2⟩:=al2 H.toOfC S k2 hoo (s:=s) c.services.l.length 0 s.addrs.l s.addrs.nl bs0 (f (min lo1 (min bs.length B.length))) v (by simp [Cfg.own]) (by omega) p2;simp only [List.drop_zero] at l2;rw [show ((0:Nat):Int)=0 from rfl,show c.own.services=c.services from rfl] at l1;have hlen:(s.addrs.l++xe c.own s.node c.own.services.l).length<2 ^ 59:=by
  have:(xe c.own s.node c.own.services.l).length<=c.services.l.length:=by
   simp only [xe,b9]; exact List.length_filter_le _ _
  rw [aw];have hb:big<2 ^ 59:=by decide
  omega
 obtain ⟨bs2,lo3,s1,s2⟩:=V6 H k2 l2 hlen lo2;obtain ⟨w1,bs3,lo4,c1,c2,c3⟩:=IW H k2 s2 (by rw [bM,List.length_mergeSort]; omega) lo3;have hlB:=c2.env.len;have d3:=c2.put k2 w1 aF aF aF aF;have r3:=c3.stepW (br _) (λ_ _=>rfl) (.cells (aC c.own.epoch w1 aF aF aF aF));obtain ⟨w2,bs4,lo5,a1,a2,a3,a4⟩:=Wk1 H k2 S hoo d3 hs (min lo4 D);have y3:(bs3.set D (.cells (aC c.own.epoch w1 aF aF aF aF))).length=bs3.length:=by simp
 have d4:=(d3.grow k2 a3).put k2 w1 w2 aF aF aF;have r4:=r3.stepW (by omega) a3 (.cells (aC c.own.epoch w1 w2 aF aF aF));have p4:=a4.stepW (br _) (λ_ _=>rfl) (.cells (aC c.own.epoch w1 w2 aF aF aF));obtain ⟨w3,bs5,lo6,b1,b2,b3,b4⟩:=Wk2 H k2 S hoo d4 hs (by simp) p4 (min lo5 D);have y4:(bs4.set D (.cells (aC c.own.epoch w1 w2 aF aF aF))).length=bs4.length:=by simp
 have d5:=(d4.grow k2 b3).put k2 w1 w2 w3 aF aF;have r5:=r4.stepW (by omega) b3 (.cells (aC c.own.epoch w1 w2 w3 aF aF));have p5:=p4.stepW (by omega) b3 (.cells (aC c.own.epoch w1 w2 w3 aF aF));have q5:=b4.stepW (br _) (λ_ _=>rfl) (.cells (aC c.own.epoch w1 w2 w3 aF aF));obtain ⟨w4,bs6,lo7,i1,i2,i3,i4⟩:=Wk3 (E:=E) k2 S hoo d5 (by simp) q5 (min lo6 D);have y5:(bs5.set D (.cells (aC c.own.epoch w1 w2 w3 aF aF))).length=bs5.length:=by simp
 have d6:=(d5.grow k2 i3).put k2 w1 w2 w3 w4 aF;have r6:=r5.stepW (by omega) i3 (.cells (aC c.own.epoch w1 w2 w3 w4 aF));have p6:=p5.stepW (by omega) i3 (.cells (aC c.own.epoch w1 w2 w3 w4 aF));have q6:=q5.stepW (by omega) i3 (.cells (aC c.own.epoch w1 w2 w3 w4 aF));have t6:=i4.stepW (br _) (λ_ _=>rfl) (.cells (aC c.own.epoch w1 w2 w3 w4 aF));obtain ⟨w5,bs7,lo8,j1,j2,j3,j4⟩:=Wk4 H k2 S hoo d6 (min lo7 D);have y6:(bs6.set D (.cells (aC c.own.epoch w1 w2 w3 w4 aF))).length=bs6.length:=by simp
 have d7:=(d6.grow k2 j3).put k2 w1 w2 w3 w4 w5;have r7:=r6.stepW (by omega) j3 (.cells (aC c.own.epoch w1 w2 w3 w4 w5));have p7:=p6.stepW (by omega) j3 (.cells (aC c.own.epoch w1 w2 w3 w4 w5));have q7:=q6.stepW (by omega) j3 (.cells (aC c.own.epoch w1 w2 w3 w4 w5));have t7:=t6.stepW (by omega) j3 (.cells (aC c.own.epoch w1 w2 w3 w4 w5));have u7:=j4.stepW (br _) (λ_ _=>rfl) (.cells (aC c.own.epoch w1 w2 w3 w4 w5));have y7:(bs7.set D (.cells (aC c.own.epoch w1 w2 w3 w4 w5))).length=bs7.length:=by simp
 have n136:∀ args h,Sm E TJ aV 30 args h=E 30 args h:=λargs h=>by rw [bB WV]
 have n137:∀ args h,Sm E TJ aV 31 args h=E 31 args h:=λargs h=>by rw [bB WW]
 have sv0:∀ e v1 v2 v3 v4 v5,sub (aC e v1 v2 v3 v4 v5) 0 6=some (aC e v1 v2 v3 v4 v5):=λ_ _ _ _ _ _=>rfl;have sv1:∀ e v1 v2 v3 v4 v5,sub (aC e v1 v2 v3 v4 v5) 1 1=some [v1]:=λ_ _ _ _ _ _=>rfl;have pu1:∀ e v1 v2 v3 v4 v5 w,put (aC e v1 v2 v3 v4 v5) 1 [w]=some (aC e w v2 v3 v4 v5):=λ_ _ _ _ _ _ _=>rfl;have pu2:∀ e v1 v2 v3 v4 v5 w,put (aC e v1 v2 v3 v4 v5) 2 [w]=some (aC e v1 w v3 v4 v5):=λ_ _ _ _ _ _ _=>rfl;have pu3:∀ e v1 v2 v3 v4 v5 w,put (aC e v1 v2 v3 v4 v5) 3 [w]=some (aC e v1 v2 w v4 v5):=λ_ _ _ _ _ _ _=>rfl;have pu4:∀ e v1 v2 v3 v4 v5 w,put (aC e v1 v2 v3 v4 v5) 4 [w]=some (aC e v1 v2 v3 w v5):=λ_ _ _ _ _ _ _=>rfl;have pu5:∀ e v1 v2 v3 v4 v5 w,put (aC e v1 v2 v3 v4 v5) 5 [w]=some (aC e v1 v2 v3 v4 w):=λ_ _ _ _ _ _ _=>rfl;have pz:∀ e v1 v2 v3 v4 v5,put [V.d (.int .u64 0),.d (.slice true []),.d (.slice true []),.d (.slice true []),.d (.slice true []),.d (.slice true [])] 0 (aC e v1 v2 v3 v4 v5)=some (aC e v1 v2 v3 v4 v5):=λ_ _ _ _ _ _=>rfl;have vl:∀ e v1 v2 v3 v4 v5,(aC e v1 v2 v3 v4 v5).length=6:=λ_ _ _ _ _ _=>rfl;have uv:=l2.is.nu;have q0:okV v'=true:=by obtain ⟨_,_,rfl⟩ | ⟨_,b,cap,_,_,rfl,_⟩:=l2.is<;>rfl
 have o1:=r7.okv;have o2:=p7.okv;have o3:=q7.okv;have o4:=t7.okv;have o5:=u7.okv;have ov4:okV v4=true/\nu v4=some v4:=S.r4.ok2;have ov5:okV v5=true/\nu v5=some v5:=S.r5.ok2;have ov6:okV v6=true/\nu v6=some v6:=S.r6.ok2;have ov7:okV v7=true/\nu v7=some v7:=S.r7.ok2;have z1:=l2.d0;have z2:=s2.d0;have z3:=c2.d0;have z4:=(d3.grow k2 a3).d0;have z5:=(d4.grow k2 b3).d0;have z6:=(d5.grow k2 i3).d0;have z7:=(d6.grow k2 j3).d0;have z8:=d7.d0;have z9:=d7.b2;have z10:ah ((bs7.set D (.cells (aC c.own.epoch w1 w2 w3 w4 w5))).set (bs.length+2) (.cells (aC c.own.epoch w1 w2 w3 w4 w5))) (bs.length+2)=some (aC c.own.epoch w1 w2 w3 w4 w5):=bW z9;have ht3:=d3.env.b0;have ht4:=d4.env.b0;have ht5:=d5.env.b0;have ht6:=d6.env.b0;have hpb:=p2.env.b0;have hrow5:RowG (Tg (bs.length+3) B.length tag 5) bs0 5 (c.services.l.map qx) v5:=S.r5.on λx hx=>⟨hx,p2.env.old x hx.1 hx.2.1⟩;have hlv5:∀ lo,qO false v5 ⟨bs0,lo⟩=some (.d (.int .i64 c.services.l.length),⟨bs0,lo⟩):=λlo=>by simpa using (hrow5.rowT xn).len ⟨bs0,lo⟩
 have hd8:=c2.d8;have fin:∀ {L U z:Nat} {es:List (List V)} {v:V},B.length+5<=L->RowG (Wn L U D) (bs7.set D (.cells (aC c.own.epoch w1 w2 w3 w4 w5))) z es v->RowG (Wn L U D) ((bs7.set D (.cells (aC c.own.epoch w1 w2 w3 w4 w5))).set (bs.length+2) (.cells (aC c.own.epoch w1 w2 w3 w4 w5))) z es v:=λhL h =>
  h.on λx hx=>⟨hx,am (by have:=hx.1; omega)⟩
 refine ⟨B,v4,v5,v6,v7,tag,pl,D,bs3.length,bs4.length,bs5.length,bs6.length,bs7.length,_,min (min lo8 D) (bs.length+2),w1,w2,w3,w4,w5,?_,k2,k1,S,?_,fin (br _) r7,fin (by omega) (by rw [← y3]; exact p7),fin (by omega) (by rw [← y4]; exact q7),fin (by omega) (by rw [← y5]; exact t7),fin (by omega) (by rw [← y6]; exact u7),by omega,by omega,by omega,by omega,by omega,by simp⟩
 . simp only [aF] at e3;simp +decide [af,q64,e1,e2,e3,hqz,cql,hfc,g0,hXX,hX,hset,hset0,hget,hget0,p1,hpb,cs5,hlv5,ov5];rw [aj];simp +decide [l1,z1,z2,z3,z4,z5,z6,z7,z8,z9,z10,ht3,ht4,ht5,ht6,cs4,cs6,cs7,cs5,sv0,sv1,pu1,pu2,pu3,pu4,pu5,pz,vl,o1,o2,o3,o4,o5,ov4,ov5,ov6,ov7,uv,q0,n136,n137,s1,c1,a1,b1,i1,j1];rfl
 . have hv:=d7.env;exact ⟨(bV (by omega)).trans hv.b0,(bV (by omega)).trans hv.b1,(bV (by omega)).trans hv.b3,(bV (by omega)).trans hv.b4,(bV (by omega)).trans hv.b5,(bV (by omega)).trans hv.b6,(bV (by omega)).trans hv.b7,λx h0 h1 h2=>(am (Ne.symm h1)).trans (hv.keep x h0 h1 h2)⟩
end
section
structure ViewS (L0:Nat) (tag:Nat->Nat) (bs:List Blk) (cov:List Int) (pods:List Pod) (svcs:List Svc) (ways:List Way) (pl:List (Pol×V)) (w1 w2 w3 w4 w5:V):Prop where
 r1:RowG (Tg L0 bs.length tag 3) bs 1 (cov.map cU) w1
 r2:RowG (Tg L0 bs.length tag 4) bs 7 (pods.map um) w2
 r3:RowG (Tg L0 bs.length tag 5) bs 5 (svcs.map qx) w3
 r4:RowG (Tg L0 bs.length tag 6) bs 2 (ways.map BK) w4
 r5:RowG (Tg L0 bs.length tag 7) bs 5 (pl.map iJ) w5
 r6:∀ x∈pl,RowG (Tg L0 bs.length tag 8) bs 3 (x.1.rules.l.map λr=>r.own.c.map V.d) x.2
theorem Of64.view {bs:List Blk}{c:Cfg}{s:Scp}{B:List Blk}{v4 v5 v6 v7:V}{tag:Nat->Nat}{pl:List (Pol×V)}{D n1 n2 n3 n4 n5:Nat}{bs':List Blk}{w1 w2 w3 w4 w5:V}(h:Of64 bs c s B v4 v5 v6 v7 tag pl D n1 n2 n3 n4 n5 bs' w1 w2 w3 w4 w5) :
 ∃ tag',ViewS bs.length tag' bs' (lV c s) (ja c.own s) (jb c.own s) (lY c.own s) (pl.filter λx=>fu c.own s.node x.1) w1 w2 w3 w4 w5:=by
 have m3:=h.m3;have l1:=h.l1;have l2:=h.l2;have l3:=h.l3;have l4:=h.l4;have l5:=h.l5;have l6:=h.l6;have lB:=h.env.len
 let t:Nat->Nat:=λx=>if x<B.length then (if tag x=8 then 8 else 0) else if x<n1 then 3 else if x<n2 then 4 else if x<n3 then 5 else if x<n4 then 6 else 7
 have ht:∀ x i,t x=i↔(if x<B.length then (if tag x=8 then 8 else 0) else if x<n1 then 3 else if x<n2 then 4 else if x<n3 then 5 else if x<n4 then 6 else 7)=i:=λx i=>Iff.rfl;refine ⟨t,h.r1.on λx hx=>⟨⟨?_,?_,?_⟩,rfl⟩,h.r2.on λx hx=>⟨⟨?_,?_,?_⟩,rfl⟩,h.r3.on λx hx=>⟨⟨?_,?_,?_⟩,rfl⟩,h.r4.on λx hx=>⟨⟨?_,?_,?_⟩,rfl⟩,h.r5.on λx hx=>⟨⟨?_,?_,?_⟩,rfl⟩,λy hy=>(h.own.r8 y (List.mem_filter.1 hy).1).on λx hx=>⟨⟨?_,?_,?_⟩,h.env.old x hx.1 hx.2.1⟩⟩;all_goals (have q1:=hx.1; have q2:=hx.2.1; first | omega | skip)
 . rw [ht,if_neg (by omega),if_pos (by omega)]
 . rw [ht,if_neg (by omega),if_neg (by omega),if_pos (by omega)]
 . rw [ht,if_neg (by omega),if_neg (by omega),if_neg (by omega),if_pos (by omega)]
 . rw [ht,if_neg (by omega),if_neg (by omega),if_neg (by omega),if_neg (by omega),if_pos (by omega)]
 . rw [ht,if_neg (by omega),if_neg (by omega),if_neg (by omega),if_neg (by omega),if_neg (by omega)]
 . rw [ht,if_pos q2,if_pos hx.2.2]
theorem Of64.frame {bs:List Blk}{c:Cfg}{s:Scp}{B:List Blk}{v4 v5 v6 v7:V}{tag:Nat->Nat}{pl:List (Pol×V)}{D n1 n2 n3 n4 n5:Nat}{bs':List Blk}{w1 w2 w3 w4 w5:V}(h:Of64 bs c s B v4 v5 v6 v7 tag pl D n1 n2 n3 n4 n5 bs' w1 w2 w3 w4 w5):(∀ x,x<bs.length->bs'[x]?=bs[x]?)/\bs.length<=bs'.length:=by
 have m3:=h.m3;have lB:=h.env.len;refine ⟨λx hx=>?_,by omega⟩;rw [h.env.keep x (by omega) (by omega) (by omega),h.old x (by omega),aq hx]
theorem ViewS.none {L0:Nat}{tag:Nat->Nat}{bs:List Blk}{cov:List Int}{pods:List Pod}{svcs:List Svc}{ways:List Way}{pl:List (Pol×V)}{w1 w2 w3 w4 w5:V}(S:ViewS L0 tag bs cov pods svcs ways pl w1 w2 w3 w4 w5){n:Nat}(hn:n<=L0)(k1:w1.under n=true)(k2:w2.under n=true)(k3:w3.under n=true)(k4:w4.under n=true)(k5:w5.under n=true)(L1:Nat)(tag1:Nat->Nat)(bs1:List Blk):ViewS L1 tag1 bs1 cov pods svcs ways pl w1 w2 w3 w4 w5:=by
 have row:∀ {i z:Nat} {es:List (List V)} {v:V},RowG (Tg L0 bs.length tag i) bs z es v->v.under n=true->es=[]/\v=.d (.slice true []):=λh hu=>by
  obtain h | ⟨b,cap,rest,h1,rfl,h3⟩:=h
  . exact h
  . have:=h1.1;simp [V.under] at hu;omega
 have hpl:pl=[]:=by simpa using (row S.r5 k5).1
 exact ⟨.inl (row S.r1 k1),.inl (row S.r2 k2),.inl (row S.r3 k3),.inl (row S.r4 k4),.inl (row S.r5 k5),by rw [hpl]; simp⟩
theorem S64 {E:Calls'}(H:OfR E){c:Cfg}(hc:c.wf 1048576)(hcb:c.wf big){s:Scp}(hs:short s.addrs)(h1:bX c=true)(h2:dw s=true)(hsz:s.addrs.l.length+c.services.l.length<=big)(bs:List Blk)(lo:Nat) :
 ∃ bs' lo' tag ps w1 w2 w3 w4 w5,Sm E TJ aV 7 [c.v,s.v] ⟨bs,lo⟩=some (.tup [.agg (aC c.epoch w1 w2 w3 w4 w5),.d (i64 0)],⟨bs',lo'⟩)/\(∀ x,x<bs.length->bs'[x]?=bs[x]?)/\bs.length<=bs'.length ∧
  ViewS bs.length tag bs' (lV c s) (ja c.own s) (jb c.own s) (lY c.own s) ps w1 w2 w3 w4 w5/\∃ pl:List (Pol×V),c.own.policies.l=pl.map (λx=>x.1.own)/\ps=pl.filter λx=>fu c.own s.node x.1:=by
 obtain ⟨B,v4,v5,v6,v7,tag,pl,D,n1,n2,n3,n4,n5,bs',lo',w1,w2,w3,w4,w5,hB,h⟩:=W64 H hc hcb hs h1 h2 hsz bs;obtain ⟨tag',hv⟩:=h.view;obtain ⟨f1,f2⟩:=h.frame;rw [aJ XA Yc];show ∃ bs' lo' tag ps w1 w2 w3 w4 w5,eU ⟨bs,lo⟩ (Bd E TJ aV q64 [c.v,s.v] ⟨bs,bs.length⟩)=_/\_;rw [hB,ed];by_cases hcnd:bs.length<=lo'/\(V.tup [.agg (aC c.epoch w1 w2 w3 w4 w5),.d (i64 0)]).under bs.length=true
 . have hu:=hcnd.2;simp [V.under,V.under.go,aC] at hu;refine ⟨bs,lo,tag',_,w1,w2,w3,w4,w5,if_pos hcnd,λ_ _=>rfl,br _,hv.none (br _) hu.1 hu.2.1 hu.2.2.1 hu.2.2.2.1 hu.2.2.2.2 _ _ _,pl,h.own.pol,rfl⟩
 . exact ⟨bs',min lo lo',tag',_,w1,w2,w3,w4,w5,if_neg hcnd,f1,f2,hv,pl,h.own.pol,rfl⟩
end
section
theorem aw4 {E:Calls'}(H:OfR E){c:Cfg}(hc:c.wf 1048576)(hcb:c.wf big){s:Scp}(hs:short s.addrs)(hno:(bX c&&dw s)=false)(h:Hp) :
 Sm E TJ aV 7 [c.v,s.v] h=some (.tup [.agg (aC 0 aF aF aF aF aF),.d (i64 1)],h):=by
 have e1:∀ h,Sm E TJ aV 18 [c.v] h=some (bl (bX c),h):=λh=>by rw [bB Xz]; exact H.h41 c hc hcb h
 have e2:=λh=>W67 (E:=E) H.h117 hs h;rw [aJ XA Yc];cases m1:bX c with
 | false =>
  simp +decide [af,q64,e1,m1,V.under,V.under.go,aC]
 | true =>
  have m2:dw s=false:=by simpa [m1] using hno
  simp +decide [af,q64,e1,e2,m1,m2,V.under,V.under.go,aC]
end
section
variable {E:Calls'}
def ZR:List (Nat×QF):=[(12,q69)]
def TSv:FuncId->Option QF:=kN ZR
def jm (_:FuncId):Bool:=false
theorem Vm {K:Nat->Prop}{p:Nat}{cells:List V}{v:V}(hp:¬ K p)(hs:sub cells 2 1=some [v])(bs:List Blk)(lo:Nat)(hg:ah bs p=some cells)(hv:IdRow K bs 7 v) :
 ∃ bs' lo',Cd E TSv jm (.loop [1,3] uJ) [(1,.ptr p 0),(3,.d (i64 ((0:Nat):Int)))] ⟨bs,lo⟩=some (.exit 2,[(1,.ptr p 0)],⟨bs',lo'⟩)/\Keeps K bs bs'/\∀ b n cap,v=.row b 0 n cap 7->∀ x,x≠b->bs'[x]?=bs[x]?:=by
 obtain ⟨nl,rfl⟩ | ⟨b,n,cap,cs,hL,rfl,hn,hb,hi⟩:=hv
 . refine ⟨bs,lo,?_,Keeps.refl,λb n cap h=>by simp at h⟩;rw [ay];simp [uJ,hg,hs]
 . obtain ⟨bs',lo',h1,h2,h3,h4⟩:=iZ (E:=E) (T:=TSv) (val:=jm) (keep:=[1,3]) (body:=uJ) n (λi=>[(1,.ptr p 0),(3,.d (i64 i))]) (λi bs'=>Keeps K bs bs'/\(∀ x,x≠b->bs'[x]?=bs[x]?)/\∃ cs',ah bs' b=some cs'/\Idc 7 n cs') (.exit 2,[(1,.ptr p 0)])
    (by
      intro i hlt bs1 lo1 ⟨hk,hx,cs1,hc1,hi1⟩;obtain ⟨x,hxx⟩:=hi1 i hlt;have hlen:=(bx.1 hxx).1;obtain ⟨cs2,q1,q2,q3⟩:=zK (y:=.d (u64 (wrap .u64 (x+1)))) hlen;have hgp:=hk.get hp hg;have hsx:=ve hxx;have hw:=ax hlt hn;have h0:((i:Int)<n):=by omega
      have hix:∀ hp,eP none 7 (.row b 0 n cap 7) (.d (.int .i64 i)) hp=some (.ptr b (i * 7),hp):=λhp=>by
       simp only [eP];rw [if_pos ⟨by omega,by omega,trivial⟩];simp
      refine ⟨bs1.set b (.cells cs2),min lo1 b,⟨hk.trans (Keeps.set hL hc1 q2),λy hy=>by rw [am (Ne.symm hy),hx y hy],cs2,bW hc1,hi1.put q3⟩,λW=>?_⟩;simp [uJ,hgp,hs,hix,hc1,hsx,q1,h0,hw,-jV,-jd])
    (by
      intro bs1 lo1 ⟨hk,hx,cs1,hc1,hi1⟩ W;have hgp:=hk.get hp hg;simp [uJ,hgp,hs])
    bs lo ⟨Keeps.refl,λ_ _=>rfl,cs,hb,hi⟩
   exact ⟨bs',lo',h1,h2,λb' n' cap' h=>by simp at h; obtain ⟨rfl,_⟩:=h; exact h3⟩
theorem Vn {K:Nat->Prop}{p:Nat}{cells:List V}{v:V}(hp:¬ K p)(hs:sub cells 3 1=some [v])(bs:List Blk)(lo:Nat)(hg:ah bs p=some cells)(hv:IdRow K bs 5 v) :
 ∃ bs' lo',Cd E TSv jm (.loop [1,4] uK) [(1,.ptr p 0),(4,.d (i64 ((0:Nat):Int)))] ⟨bs,lo⟩=some (.exit 4,[(1,.ptr p 0)],⟨bs',lo'⟩)/\Keeps K bs bs'/\∀ b n cap,v=.row b 0 n cap 5->∀ x,x≠b->bs'[x]?=bs[x]?:=by
 obtain ⟨nl,rfl⟩ | ⟨b,n,cap,cs,hL,rfl,hn,hb,hi⟩:=hv
 . refine ⟨bs,lo,?_,Keeps.refl,λb n cap h=>by simp at h⟩;rw [ay];simp [uK,hg,hs]
 . obtain ⟨bs',lo',h1,h2,h3,h4⟩:=iZ (E:=E) (T:=TSv) (val:=jm) (keep:=[1,4]) (body:=uK) n (λi=>[(1,.ptr p 0),(4,.d (i64 i))]) (λi bs'=>Keeps K bs bs'/\(∀ x,x≠b->bs'[x]?=bs[x]?)/\∃ cs',ah bs' b=some cs'/\Idc 5 n cs') (.exit 4,[(1,.ptr p 0)])
    (by
      intro i hlt bs1 lo1 ⟨hk,hx,cs1,hc1,hi1⟩;obtain ⟨x,hxx⟩:=hi1 i hlt;have hlen:=(bx.1 hxx).1;obtain ⟨cs2,q1,q2,q3⟩:=zK (y:=.d (u64 (wrap .u64 (x+1)))) hlen;have hgp:=hk.get hp hg;have hsx:=ve hxx;have hw:=ax hlt hn;have h0:((i:Int)<n):=by omega
      have hix:∀ hp,eP none 5 (.row b 0 n cap 5) (.d (.int .i64 i)) hp=some (.ptr b (i * 5),hp):=λhp=>by
       simp only [eP];rw [if_pos ⟨by omega,by omega,trivial⟩];simp
      refine ⟨bs1.set b (.cells cs2),min lo1 b,⟨hk.trans (Keeps.set hL hc1 q2),λy hy=>by rw [am (Ne.symm hy),hx y hy],cs2,bW hc1,hi1.put q3⟩,λW=>?_⟩;simp [uK,hgp,hs,hix,hc1,hsx,q1,h0,hw,-jV,-jd])
    (by
      intro bs1 lo1 ⟨hk,hx,cs1,hc1,hi1⟩ W;have hgp:=hk.get hp hg;simp [uK,hgp,hs])
    bs lo ⟨Keeps.refl,λ_ _=>rfl,cs,hb,hi⟩
   exact ⟨bs',lo',h1,h2,λb' n' cap' h=>by simp at h; obtain ⟨rfl,_⟩:=h; exact h3⟩
theorem Vo {K:Nat->Prop}{p:Nat}{cells:List V}{v:V}(hp:¬ K p)(hs:sub cells 4 1=some [v])(bs:List Blk)(lo:Nat)(hg:ah bs p=some cells)(hv:IdRow K bs 2 v) :
 ∃ bs' lo',Cd E TSv jm (.loop [1,5] uL) [(1,.ptr p 0),(5,.d (i64 ((0:Nat):Int)))] ⟨bs,lo⟩=some (.exit 6,[(1,.ptr p 0)],⟨bs',lo'⟩)/\Keeps K bs bs'/\∀ b n cap,v=.row b 0 n cap 2->∀ x,x≠b->bs'[x]?=bs[x]?:=by
 obtain ⟨nl,rfl⟩ | ⟨b,n,cap,cs,hL,rfl,hn,hb,hi⟩:=hv
 . refine ⟨bs,lo,?_,Keeps.refl,λb n cap h=>by simp at h⟩;rw [ay];simp [uL,hg,hs]
 . obtain ⟨bs',lo',h1,h2,h3,h4⟩:=iZ (E:=E) (T:=TSv) (val:=jm) (keep:=[1,5]) (body:=uL) n (λi=>[(1,.ptr p 0),(5,.d (i64 i))]) (λi bs'=>Keeps K bs bs'/\(∀ x,x≠b->bs'[x]?=bs[x]?)/\∃ cs',ah bs' b=some cs'/\Idc 2 n cs') (.exit 6,[(1,.ptr p 0)])
    (by
      intro i hlt bs1 lo1 ⟨hk,hx,cs1,hc1,hi1⟩;obtain ⟨x,hxx⟩:=hi1 i hlt;have hlen:=(bx.1 hxx).1;obtain ⟨cs2,q1,q2,q3⟩:=zK (y:=.d (u64 (wrap .u64 (x+1)))) hlen;have hgp:=hk.get hp hg;have hsx:=ve hxx;have hw:=ax hlt hn;have h0:((i:Int)<n):=by omega
      have hix:∀ hp,eP none 2 (.row b 0 n cap 2) (.d (.int .i64 i)) hp=some (.ptr b (i * 2),hp):=λhp=>by
       simp only [eP];rw [if_pos ⟨by omega,by omega,trivial⟩];simp
      refine ⟨bs1.set b (.cells cs2),min lo1 b,⟨hk.trans (Keeps.set hL hc1 q2),λy hy=>by rw [am (Ne.symm hy),hx y hy],cs2,bW hc1,hi1.put q3⟩,λW=>?_⟩;simp [uL,hgp,hs,hix,hc1,hsx,q1,h0,hw,-jV,-jd])
    (by
      intro bs1 lo1 ⟨hk,hx,cs1,hc1,hi1⟩ W;have hgp:=hk.get hp hg;simp [uL,hgp,hs])
    bs lo ⟨Keeps.refl,λ_ _=>rfl,cs,hb,hi⟩
   exact ⟨bs',lo',h1,h2,λb' n' cap' h=>by simp at h; obtain ⟨rfl,_⟩:=h; exact h3⟩
theorem Vp {K:Nat->Prop}{p:Nat}{cells:List V}(hp:¬ K p){b n:Nat}{cap:Option Nat}(hs:sub cells 5 1=some [.row b 0 n cap 5])(bs:List Blk)(lo:Nat)(hg:ah bs p=some cells){cs:List V}(hb:ah bs b=some cs){i:Nat}(hi:i<n){r:V}(hr:cs[i * 5+4]?=some r)(ho:RulOk K b bs r) :
 ∃ bs' lo',Cd E TSv jm (.loop [1,6,7] uM) [(1,.ptr p 0),(6,.d (i64 i)),(7,.d (i64 ((0:Nat):Int)))] ⟨bs,lo⟩=some (.exit 10,[(1,.ptr p 0),(6,.d (i64 i))],⟨bs',lo'⟩)/\Keeps K bs bs'/\ah bs' b=some cs:=by
 have hix:∀ hp,eP none 5 (.row b 0 n cap 5) (.d (.int .i64 i)) hp=some (.ptr b (i * 5),hp):=λhp=>by
  simp only [eP];rw [if_pos ⟨by omega,by omega,trivial⟩];simp
 have hsr:=ve hr;obtain ⟨nl,rfl⟩ | ⟨b',m,cap',cs',hK,hne,rfl,hm,hb',hl⟩:=ho
 . refine ⟨bs,lo,?_,Keeps.refl,hb⟩;rw [ay];simp [uM,hg,hs,hix,hb,hsr]
 . obtain ⟨bs',lo',h1,h2,h3,_⟩:=iZ (E:=E) (T:=TSv) (val:=jm) (keep:=[1,6,7]) (body:=uM) m (λj=>[(1,.ptr p 0),(6,.d (i64 i)),(7,.d (i64 j))]) (λj bs'=>Keeps K bs bs'/\ah bs' b=some cs/\∃ cs1,ah bs' b'=some cs1/\m * 3<=cs1.length) (.exit 10,[(1,.ptr p 0),(6,.d (i64 i))])
    (by
      intro j hlt bs1 lo1 ⟨hk,hx,cs1,hc1,hl1⟩;have hlen:j * 3+1<cs1.length:=by omega
      obtain ⟨cs2,q1,q2,q3⟩:=zK (y:=.d (.slice true [])) hlen;have hgp:=hk.get hp hg;have hw:=ax hlt hm;have h0:((j:Int)<m):=by omega
      have hjx:∀ hp,eP none 3 (.row b' 0 m cap' 3) (.d (.int .i64 j)) hp=some (.ptr b' (j * 3),hp):=λhp=>by
       simp only [eP];rw [if_pos ⟨by omega,by omega,trivial⟩];simp
      refine ⟨bs1.set b' (.cells cs2),min lo1 b',⟨hk.trans (Keeps.set hK hc1 q2),(bV hne).trans hx,cs2,bW hc1,by omega⟩,λW=>?_⟩;simp [uM,hgp,hs,hix,hx,hsr,hjx,hc1,q1,h0,hw,-jV,-jd])
    (by
      intro bs1 lo1 ⟨hk,hx,cs1,hc1,hl1⟩ W;have hgp:=hk.get hp hg;simp [uM,hgp,hs,hix,hx,hsr])
    bs lo ⟨Keeps.refl,hb,cs',hb',hl⟩
   exact ⟨bs',lo',h1,h2,h3⟩
theorem Vq {K:Nat->Prop}{p:Nat}{cells:List V}{v:V}(hp:¬ K p)(hs:sub cells 5 1=some [v])(bs:List Blk)(lo:Nat)(hg:ah bs p=some cells)(hv:PolRow K bs v) :
 ∃ bs' lo',Cd E TSv jm (.loop [1,6] uN) [(1,.ptr p 0),(6,.d (i64 ((0:Nat):Int)))] ⟨bs,lo⟩=some (.exit 8,[],⟨bs',lo'⟩)/\Keeps K bs bs':=by
 obtain ⟨nl,rfl⟩ | ⟨b,n,cap,cs,hK,rfl,hn,hb,hi,hr⟩:=hv
 . refine ⟨bs,lo,?_,Keeps.refl⟩;rw [ay];simp [uN,hg,hs]
 . obtain ⟨bs',lo',h1,h2,_⟩:=iZ (E:=E) (T:=TSv) (val:=jm) (keep:=[1,6]) (body:=uN) n (λi=>[(1,.ptr p 0),(6,.d (i64 i))]) (λi bs'=>Keeps K bs bs'/\∃ cs',ah bs' b=some cs'/\Idc 5 n cs'/\∀ i,i<n->∃ r,cs'[i * 5+4]?=some r/\RulOk K b bs' r) (.exit 8,[])
    (by
      intro i hlt bs1 lo1 ⟨hk,cs1,hc1,hi1,hr1⟩;obtain ⟨r,hrr,hro⟩:=hr1 i hlt;have hgp:=hk.get hp hg;obtain ⟨bs2,lo2,d1,d2,d3⟩:=Vp (E:=E) hp (cap:=cap) hs bs1 lo1 hgp hc1 hlt hrr hro;obtain ⟨x,hxx⟩:=hi1 i hlt;have hlen:=(bx.1 hxx).1;obtain ⟨cs2,q1,q2,q3⟩:=zK (y:=.d (u64 (wrap .u64 (x+1)))) hlen;have hgp2:=d2.get hp hgp;have hsx:=ve hxx;have hw:=ax hlt hn;have h0:((i:Int)<n):=by omega
      have hix:∀ hp,eP none 5 (.row b 0 n cap 5) (.d (.int .i64 i)) hp=some (.ptr b (i * 5),hp):=λhp=>by
       simp only [eP];rw [if_pos ⟨by omega,by omega,trivial⟩];simp
      have hk2:=d2.trans (Keeps.set hK d3 q2);refine ⟨bs2.set b (.cells cs2),min lo2 b,⟨hk.trans hk2,cs2,bW d3,hi1.put q3,λj hj=>?_⟩,λW=>?_⟩
      . obtain ⟨r',e1,e2⟩:=hr1 j hj;refine ⟨r',?_,e2.keep hk2⟩;rw [q3,if_neg (by omega)];exact e1
      . simp at d1;simp [uN,hgp,hs,h0];rw [aj];simp [d1,hgp2,hs,hix,d3,hsx,q1,hw,-jV,-jd])
    (by
      intro bs1 lo1 ⟨hk,cs1,hc1,hi1,hr1⟩ W;have hgp:=hk.get hp hg;simp [uN,hgp,hs])
    bs lo ⟨Keeps.refl,cs,hb,hi,hr⟩
   exact ⟨bs',lo',h1,h2⟩
end
section
variable {E:Calls'}
def Udc (n:Nat)(cs:List V):Prop:=∀ i,i<n->∃ x,cs[i]?=some (.d (u32 x))
theorem Udc.put {n o:Nat}{cs cs':List V}{x:Int}(h:Udc n cs)(hc:∀ j,cs'[j]?=if j=o then some (.d (u32 x)) else cs[j]?):Udc n cs':=λi hi=>by
 rw [hc];by_cases ho:i=o
 . rw [if_pos ho]; exact ⟨_,rfl⟩
 . rw [if_neg ho]; exact h i hi
def URow (K:Nat->Prop)(bs:List Blk)(v:V):Prop:=(∃ nl,v=.d (.slice nl []))\/∃ b n cap cs,K b/\v=.row b 0 n cap 1/\n<2 ^ 62/\ah bs b=some cs/\Udc n cs
theorem Vl {K:Nat->Prop}{p:Nat}{cells:List V}{v:V}(hp:¬ K p)(hs:sub cells 1 1=some [v])(bs:List Blk)(lo:Nat)(hg:ah bs p=some cells)(hv:URow K bs v) :
 ∃ bs' lo',Cd E TSv jm (.loop [1,2] uI) [(1,.ptr p 0),(2,.d (i64 ((0:Nat):Int)))] ⟨bs,lo⟩=some (.exit 0,[(1,.ptr p 0)],⟨bs',lo'⟩)/\Keeps K bs bs'/\∀ b n cap,v=.row b 0 n cap 1->∀ x,x≠b->bs'[x]?=bs[x]?:=by
 obtain ⟨nl,rfl⟩ | ⟨b,n,cap,cs,hL,rfl,hn,hb,hi⟩:=hv
 . refine ⟨bs,lo,?_,Keeps.refl,λb n cap h=>by simp at h⟩;rw [ay];simp [uI,hg,hs]
 . obtain ⟨bs',lo',h1,h2,h3,h4⟩:=iZ (E:=E) (T:=TSv) (val:=jm) (keep:=[1,2]) (body:=uI) n (λi=>[(1,.ptr p 0),(2,.d (i64 i))]) (λi bs'=>Keeps K bs bs'/\(∀ x,x≠b->bs'[x]?=bs[x]?)/\∃ cs',ah bs' b=some cs'/\Udc n cs') (.exit 0,[(1,.ptr p 0)])
    (by
      intro i hlt bs1 lo1 ⟨hk,hx,cs1,hc1,hi1⟩;obtain ⟨x,hxx⟩:=hi1 i hlt;have hlen:=(bx.1 hxx).1;obtain ⟨cs2,q1,q2,q3⟩:=zK (y:=.d (u32 (wrap .u32 (x+1)))) hlen;have hgp:=hk.get hp hg;have hsx:=ve hxx;have hw:=ax hlt hn;have h0:((i:Int)<n):=by omega
      have hix:∀ hp,eP none 1 (.row b 0 n cap 1) (.d (.int .i64 i)) hp=some (.ptr b i,hp):=λhp=>by
       simp only [eP];rw [if_pos ⟨by omega,by omega,trivial⟩];simp
      refine ⟨bs1.set b (.cells cs2),min lo1 b,⟨hk.trans (Keeps.set hL hc1 q2),λy hy=>by rw [am (Ne.symm hy),hx y hy],cs2,bW hc1,hi1.put q3⟩,λW=>?_⟩;simp [uI,hgp,hs,hix,hc1,hsx,q1,h0,hw,-jV,-jd])
    (by
      intro bs1 lo1 ⟨hk,hx,cs1,hc1,hi1⟩ W;have hgp:=hk.get hp hg;simp [uI,hgp,hs])
    bs lo ⟨Keeps.refl,λ_ _=>rfl,cs,hb,hi⟩
   exact ⟨bs',lo',h1,h2,λb' n' cap' h=>by simp at h; obtain ⟨rfl,_⟩:=h; exact h3⟩
end
section
variable {E:Calls'}
theorem URow.on {K:Nat->Prop}{bs bs':List Blk}{v:V}(h:URow K bs v)(k:∀ x,K x->bs'[x]?=bs[x]?):URow K bs' v:=by
 obtain h | ⟨b,n,cap,cs,h1,h2,h3,h4,h5⟩:=h
 . exact .inl h
 . exact .inr ⟨b,n,cap,cs,h1,h2,h3,dW (k b h1) h4,h5⟩
structure SpoilsV (L0 M:Nat) (bs:List Blk) (cells:List V):Prop where
 len:cells.length=6
 low:L0<=M
 top:M<=bs.length
 is:∃ (tag:Nat->Nat) (v3 v4 v5 v6 v7:V),sub cells 1 1=some [v3]/\sub cells 2 1=some [v4]/\sub cells 3 1=some [v5]/\sub cells 4 1=some [v6]/\sub cells 5 1=some [v7] ∧
  URow (Tg L0 M tag 3) bs v3/\IdRow (Tg L0 M tag 4) bs 7 v4/\IdRow (Tg L0 M tag 5) bs 5 v5/\IdRow (Tg L0 M tag 6) bs 2 v6/\PolRow (Tg2 L0 M tag) bs v7
theorem s69:TSv 12=some q69:=by kernel_rfl
theorem r69:jm 12=false:=rfl
theorem S69 {L0 M:Nat}{bs:List Blk}{cells:List V}(h:SpoilsV L0 M bs cells):∃ bs',∃ F:Nat->Nat,(∀ lo,Sm E TSv jm 12 [.agg cells] ⟨bs,lo⟩=some (.tup [],⟨bs',F lo⟩))/\∀ x,x<L0->bs'[x]?=bs[x]?:=by
 obtain ⟨tag,v3,v4,v5,v6,v7,s3,s4,s5,s6,s7,r3,r4,r5,r6,r7⟩:=h.is;have hM:=h.top;have hL0:=h.low;have hg:ah (bs++[.cells cells]) bs.length=some cells:=by simp
 have nn:∀ i,¬ Tg L0 M tag i bs.length:=λi h=>by have:=h.2.1; omega
 have n7:¬ Tg2 L0 M tag bs.length:=λh=>by have:=h.2.1; omega
 have la:∀ x,x<bs.length->(bs++[Blk.cells cells])[x]?=bs[x]?:=λx hx=>aq hx;have st:∀ {i j:Nat} {b b':List Blk},i≠j->Keeps (Tg L0 M tag i) b b'->∀ x,Tg L0 M tag j x->b'[x]?=b[x]?:=λhij k x h1=>k.1 x λh2=>hij (h2.2.2.symm.trans h1.2.2);have st2:∀ {i:Nat} {b b':List Blk},i≠7->i≠8->Keeps (Tg L0 M tag i) b b'->∀ x,Tg2 L0 M tag x->b'[x]?=b[x]?:=λh7 h8 k x h1=>k.1 x λh2=>by
  have:=h1.2.2; have:=h2.2.2; omega
 obtain ⟨b0,lo0,a0,k0,_⟩:=Vl (E:=E) (nn 3) s3 _ bs.length hg (r3.on λx h1=>la x (by have:=h1.2.1; omega));have g0:=k0.get (nn 3) hg;obtain ⟨b1,lo1,a1,k1,_⟩:=Vm (E:=E) (nn 4) s4 b0 lo0 g0 (r4.on λx h1=>(st (by decide) k0 x h1).trans (la x (by have:=h1.2.1; omega)));have g1:=k1.get (nn 4) g0;obtain ⟨b2,lo2,a2,k2,_⟩:=Vn (E:=E) (nn 5) s5 b1 lo1 g1 (r5.on λx h1=>(st (by decide) k1 x h1).trans ((st (by decide) k0 x h1).trans (la x (by have:=h1.2.1; omega))));have g2:=k2.get (nn 5) g1;obtain ⟨b3,lo3,a3,k3,_⟩:=Vo (E:=E) (nn 6) s6 b2 lo2 g2 (r6.on λx h1=>(st (by decide) k2 x h1).trans ((st (by decide) k1 x h1).trans ((st (by decide) k0 x h1).trans (la x (by have:=h1.2.1; omega)))));have g3:=k3.get (nn 6) g2;obtain ⟨b4,lo4,a4,k4⟩:=Vq (E:=E) n7 s7 b3 lo3 g3 (r7.on λx h1=>(st2 (by decide) (by decide) k3 x h1).trans ((st2 (by decide) (by decide) k2 x h1).trans ((st2 (by decide) (by decide) k1 x h1).trans ((st2 (by decide) (by decide) k0 x h1).trans (la x (by have:=h1.2.1; omega))))));have hold:∀ x,x<L0->b4[x]?=bs[x]?:=λx hx=>by
  rw [k4.1 x (λh=>by have:=h.1; omega),k3.1 x (λh=>by have:=h.1; omega),k2.1 x (λh=>by have:=h.1; omega),k1.1 x (λh=>by have:=h.1; omega),k0.1 x (λh=>by have:=h.1; omega),aq (by omega)]
 have hB:Bd E TSv jm q69 [.agg cells] ⟨bs,bs.length⟩=some (.tup [],⟨b4,lo4⟩):=by
  simp at a0 a1 a2 a3 a4;simp [af,q69];rw [aj];simp [a0];rw [aj];simp [a1];rw [aj];simp [a2];rw [aj];simp [a3];rw [aj];simp [a4,bK]
 by_cases hc:bs.length<=lo4/\(V.tup []).under bs.length=true
 . refine ⟨bs,id,λlo=>?_,λ_ _=>rfl⟩;rw [aJ s69 r69];show eU ⟨bs,lo⟩ (Bd E TSv jm q69 [.agg cells] ⟨bs,bs.length⟩)=_;rw [hB,ed,if_pos hc];rfl
 . refine ⟨b4,λlo=>min lo lo4,λlo=>?_,hold⟩;rw [aJ s69 r69];show eU ⟨bs,lo⟩ (Bd E TSv jm q69 [.agg cells] ⟨bs,bs.length⟩)=_;rw [hB,ed,if_neg hc]
end
section
theorem RowG.uRow {l:List Int}{K:Nat->Prop}{bs:List Blk}{v:V}(h:RowG K bs 1 (l.map cU) v)(hl:l.length<2 ^ 62):URow K bs v:=by
 obtain ⟨h1,rfl⟩ | ⟨b,cap,rest,h1,rfl,h3⟩:=h
 . exact .inl ⟨true,rfl⟩
 . refine .inr ⟨b,l.length,cap,_,h1,by simp,hl,h3,λi hi=>⟨l[i],?_⟩⟩;have:=mV (rest:=rest) (es:=l.map cU) (z:=1) (by simp [cU]) (i:=i) (j:=0) (e:=cU l[i]) (by simp [hi]) (by decide);simpa [cU] using this
theorem ViewS.spoils {L0:Nat}{tag:Nat->Nat}{bs:List Blk}{cov:List Int}{pods:List Pod}{svcs:List Svc}{ways:List Way}{pl:List (Pol×V)}{w1 w2 w3 w4 w5:V}(S:ViewS L0 tag bs cov pods svcs ways pl w1 w2 w3 w4 w5)(e:Int)(hL:L0<=bs.length)(h1:cov.length<2 ^ 62)(h2:pods.length<2 ^ 62)(h3:svcs.length<2 ^ 62)(h4:ways.length<2 ^ 62)(h5:pl.length<2 ^ 62)(h6:∀ x∈pl,x.1.rules.l.length<2 ^ 62):SpoilsV L0 bs.length bs (aC e w1 w2 w3 w4 w5):=by
 refine ⟨rfl,hL,br _,tag,w1,w2,w3,w4,w5,rfl,rfl,rfl,rfl,rfl,S.r1.uRow h1,S.r2.idRow (λ_=>rfl) (by decide) (λx=>⟨x.uid,rfl⟩) h2,S.r3.idRow (λ_=>rfl) (by decide) (λx=>⟨x.id,rfl⟩) h3,S.r4.idRow (λ_=>rfl) (by decide) (λx=>⟨x.id,rfl⟩) h4,?_⟩;obtain ⟨q1,q2⟩ | ⟨b,cap,rest,q1,q2,q3⟩:=S.r5
 . exact .inl ⟨true,q2⟩
 . have hcl:∀ e∈pl.map iJ,e.length=5:=λe he=>by obtain ⟨x,_,rfl⟩:=cb.1 he; rfl
   refine .inr ⟨b,pl.length,cap,_,⟨q1.1,q1.2.1,.inl q1.2.2⟩,by simpa using q2,h5,q3,λi hi=>?_,λi hi=>?_⟩
   . have:=mV (rest:=rest) hcl (i:=i) (j:=0) (e:=iJ pl[i]) (by simp [hi]) (by decide);have h2:(iJ pl[i])[0]?=some (.d (u64 pl[i].1.id)):=rfl;exact ⟨pl[i].1.id,by rw [← h2,← this]; simp⟩
   . have:=mV (rest:=rest) hcl (i:=i) (j:=4) (e:=iJ pl[i]) (by simp [hi]) (by decide);have hm:=bj hi;generalize pl[i]=x at *;refine ⟨x.2,this,?_⟩;obtain ⟨p1,p2⟩ | ⟨b',cap',rest',p1,p2,p3⟩:=S.r6 x hm
     . exact .inl ⟨true,p2⟩
     . refine .inr ⟨b',x.1.rules.l.length,cap',_,⟨p1.1,p1.2.1,.inr p1.2.2⟩,?_,by simpa using p2,h6 x hm,p3,?_⟩
       . rintro rfl;have e1:=p1.2.2;have e2:=q1.2.2;omega
       . rw [aw,Vr.flat_len (z:=3) (by intro e he; obtain ⟨r,_,rfl⟩:=cb.1 he; rfl)];simp
end
section
def VwV (e:Int)(cov:List Int)(pods:List Pod)(svcs:List Svc)(ways:List Way)(pl:List (Pol×V))(w1 w2 w3 w4 w5:V):Vw:=⟨e,⟨nZ w1,cov⟩,⟨nZ w2,pods⟩,⟨nZ w3,svcs⟩,⟨nZ w4,ways⟩,⟨nZ w5,pl.map ky⟩⟩
section
variable {L0:Nat}{tag:Nat->Nat}{bs:List Blk}{cov:List Int}{pods:List Pod}{svcs:List Svc}{ways:List Way}{pl:List (Pol×V)}{w1 w2 w3 w4 w5:V}(S:ViewS L0 tag bs cov pods svcs ways pl w1 w2 w3 w4 w5)
include S
theorem ViewS.hpol:∀ l:List (Pol×V),(∀ x∈l,x∈pl)->Hngs false (TgA L0 bs.length tag) bs 1 (l.map iJ).flatten (l.map λx=>(ky x).c).flatten
 | [],_=>trivial
 | x::l,h=>by
  have ih:=ViewS.hpol l λy hy=>h y (List.mem_cons_of_mem _ hy);have hr:=((S.r6 x (h x (by simp))).all (by decide)).hngD (f:=λr:Rule=>r.own.c) (λ_=>rfl);have he:(ky x).c=[u64 x.1.id,.str x.1.ns,u64 x.1.service,i64 x.1.deny,.slice (nZ x.2) (x.1.rules.l.map λr=>r.own.c)]:=by
   simp [ky,Pol.c,Sl.d,ck]
  rw [cn,cn,List.flatten_cons,List.flatten_cons,he];exact Hngs.app ⟨Hng.data,Hng.data,Hng.data,Hng.data,hr,trivial⟩ ih
theorem ViewS.fz (e:Int)(bs2:List Blk)(lo2:Nat)(h:∀ x,L0<=x->x<bs.length->bs2[x]?=bs[x]?):fA ⟨bs2,lo2⟩ (aC e w1 w2 w3 w4 w5)=some (VwV e cov pods svcs ways pl w1 w2 w3 w4 w5).c:=by
 have hK:∀ x,TgA L0 bs.length tag x->bs2[x]?=bs[x]?:=λx hx=>h x hx.1 hx.2.1;have h1:=(((S.r1.all (by decide)).hngD (f:=aY) (λ_=>rfl)) bs2 lo2 hK 8 (by decide)).1;have h2:=(((S.r2.all (by decide)).hngD (f:=Pod.c) (λ_=>rfl)) bs2 lo2 hK 8 (by decide)).1;have h3:=(((S.r3.all (by decide)).hngD (f:=Svc.c) (λ_=>rfl)) bs2 lo2 hK 8 (by decide)).1;have h4:=(((S.r4.all (by decide)).hngD (f:=Way.c) (λ_=>rfl)) bs2 lo2 hK 8 (by decide)).1;have h5:=(((S.r5.all (by decide)).hng (k:=1) (S.hpol pl λ_ h=>h) (λe he=>by obtain ⟨x,_,rfl⟩:=cb.1 he; rfl) (by simp)) bs2 lo2 hK 8 (by decide)).1;simp only [aC,fA,List.mapM_cons,List.mapM_nil,h1,h2,h3,h4,h5];simp [VwV,Vw.c,Sl.d,ck]
end
end
section
variable {E:Calls'}
def bt4:List (Nat×QF):=[(8,q65),(9,q66),(11,q68),(54,RQ),(47,Nw),(48,RZ),(50,Ku),(97,Sj)]
def TF:FuncId->Option QF:=kN bt4
def eY (f:FuncId):Bool:=[8,9,11,54,47,48,50,97].any λn=>Nat.beq n f
theorem ZY:TF 8=some q65:=by kernel_rfl
theorem ZZ:TF 9=some q66:=by kernel_rfl
theorem bu4:TF 11=some q68:=by kernel_rfl
theorem ZT:TF 54=some RQ:=by kernel_rfl
theorem ZU:TF 47=some Nw:=by kernel_rfl
theorem ZV:TF 48=some RZ:=by kernel_rfl
theorem ZW:TF 50=some Ku:=by kernel_rfl
theorem ZX:TF 97=some Sj:=by kernel_rfl
theorem WE:eY 8=true:=by kernel_rfl
theorem WF:eY 9=true:=by kernel_rfl
theorem az2:eY 11=true:=by kernel_rfl
theorem Wy:eY 54=true:=by kernel_rfl
theorem Wz:eY 47=true:=by kernel_rfl
theorem WA:eY 48=true:=by kernel_rfl
theorem WB:eY 50=true:=by kernel_rfl
theorem WC:eY 97=true:=by kernel_rfl
structure O17 (E:Calls'):Prop where
 e48:∀ c:Cfg,c.ok->∀ n h,E 94 [c.v,.d (u64 n)] h=some (.tup (match nV c n with | some w=>[w.v,bl true] | none=>[way0.v,bl false]),h)
 e111:∀ c:Cfg,c.ok->∀ n h,E 49 [c.v,.d (u64 n)] h=some (.d (i64 (ib c.services.l λp=>p.id==n)),h)
 e53:∀ (p:Pol) (x:Pod) h,E 52 [p.v,x.v] h=some (bl (jv p x.ns x.service),h)
 e121:∀ s:Sl Int,short s->∀ n h,E 51 [.d (s.d aY),.d (u32 n)] h=some (bl (dz s.l n),h)
 e95:∀ c:Cfg,c.wf 1048576->c.wf big->∀ h,E 46 [c.v] h=some (bl (bX c),h)
 e35:∀ p:Pol,p.fits big->∀ h,E 17 [ag p.c] h=some (ag p.cp.c,h)
 e38:∀ a b:Cfg,a.ok->∀ h,E 13 [a.v,b.v] h=some (bl (a.same b),h)
section
variable (H:O17 E)
include H
theorem O17.c48 (c:Cfg)(hc:c.ok)(n:Int)(h:Hp):Sm E TF eY 94 [c.v,.d (u64 n)] h=some (.tup (match nV c n with | some w=>[w.v,bl true] | none=>[way0.v,bl false]),h):=(bB (by kernel_rfl)).trans (H.e48 c hc n h)
theorem O17.c111 (c:Cfg)(hc:c.ok)(n:Int)(h:Hp):Sm E TF eY 49 [c.v,.d (u64 n)] h=some (.d (i64 (ib c.services.l λp=>p.id==n)),h):=(bB (by kernel_rfl)).trans (H.e111 c hc n h)
theorem O17.c53 (p:Pol)(x:Pod)(h:Hp):Sm E TF eY 52 [p.v,x.v] h=some (bl (jv p x.ns x.service),h):=(bB (by kernel_rfl)).trans (H.e53 p x h)
theorem O17.c121 (s:Sl Int)(hs:short s)(n:Int)(h:Hp):Sm E TF eY 51 [.d (s.d aY),.d (u32 n)] h=some (bl (dz s.l n),h):=(bB (by kernel_rfl)).trans (H.e121 s hs n h)
theorem O17.c95 (c:Cfg)(h1:c.wf 1048576)(h2:c.wf big)(h:Hp):Sm E TF eY 46 [c.v] h=some (bl (bX c),h):=(bB (by kernel_rfl)).trans (H.e95 c h1 h2 h)
theorem O17.c35 (p:Pol)(hp:p.fits big)(h:Hp):Sm E TF eY 17 [ag p.c] h=some (ag p.cp.c,h):=(bB (by kernel_rfl)).trans (H.e35 p hp h)
theorem O17.c38 (a b:Cfg)(ha:a.ok)(h:Hp):Sm E TF eY 13 [a.v,b.v] h=some (bl (a.same b),h):=(bB (by kernel_rfl)).trans (H.e38 a b ha h)
end
def rizQ (L:List Int)(i:Nat)(x:Int):Bool:=!(x==0)&&(i==0||decide ((L[i-1]?).getD 0<x))
theorem BB (L:List Int):∀ (l:List Int) (i:Nat) (p:Int),L.drop (i+1)=l->L[i]?=some p->fO (rizQ L) (i+1) l=(bQ (p::l)&&!dz l 0)
 | [],i,p,_,_=>rfl
 | x::l,i,p,hd,hp=>by
  have hx:L[i+1]?=some x:=by rw [← List.head?_drop,hd]; rfl
  have ih:=BB L l (i+1) x (by rw [← List.tail_drop,hd]; rfl) hx;rw [fO,ih];simp only [rizQ,Nat.add_sub_cancel,hp,Option.getD_some,bQ,dz,List.find?_cons,show (i+1==0)=false from rfl,Bool.false_or];by_cases h0:x=0
  . simp [h0]
  . have:(x==0)=false:=by simpa using h0
    simp [this,Bool.and_assoc]
theorem Gr (L:List Int):fO (rizQ L) 0 L=(bQ L&&!dz L 0):=by
 cases L with
 | nil=>rfl
 | cons p l =>
  have:=BB (p::l) l 0 p rfl rfl;rw [fO,this];simp only [rizQ,dz,List.find?_cons];by_cases h0:p=0
  . simp [h0]
  . have:(p==0)=false:=by simpa using h0
    simp [this]
theorem ao9 {s:Sl Int}(hs:short s)(h:Hp):Sm E TF eY 97 [.d (s.d aY)] h=some (bl (bQ s.l&&!dz s.l 0),h):=by
 have hlt:=hs.lt;have key:=λh=>pO (E:=E) (T:=TF) (val:=eY) (keep:=[0,3]) (body:=lq) s.l (rizQ s.l) (λi=>[(0,.d (s.d aY)),(3,.d (i64 i))]) h (.ret,[(2,bl false)],h) (.exit 0,[],h) (λi x hx hi W=>?_) (λW=>?_)
 . rw [aU ZX WC];have key:=λh=>key h;simp only [Gr] at key;simp at key;simp [af,Sj];rw [aj];simp [key];cases (bQ s.l&&!dz s.l 0)<;>simp
 . have hsx:=λh=>aA (z:=1) h hx (cells:=aY) rfl;have hw:=ax hi hlt;have h0:((i:Int)<s.l.length):=by omega
   cases i with
   | zero =>
    have e0:((0:Nat):Int)=0:=rfl;rw [e0] at hsx;by_cases hz:x=0
    . simp [lq,hsx,hi,aY,hz,rizQ]
    . simp [lq,hsx,hi,aY,hz,rizQ,show wrap .i64 1=1 from by rw [wrap64]<;>omega]
   | succ k =>
    have hp:=ac (show k<s.l.length by omega);generalize s.l[k]=p at hp;have hsp:=λh=>aA (z:=1) h hp (cells:=aY) rfl;have hw2:wrap .i64 (((k+1:Nat):Int)-1)=(k:Int):=by rw [wrap64]<;>omega
    have hg:((0:Int)<((k+1:Nat):Int)):=by omega
    generalize ((k+1:Nat):Int)=K at hsx hw h0 hw2 hg ⊢;by_cases hz:x=0
    . simp [lq,hsx,h0,aY,hz,rizQ]
    . by_cases hl:p<x
      . simp [lq,hsx,hsp,h0,aY,hz,rizQ,hw,hw2,hg,hp,hl,show ¬ x<=p by omega]
      . simp [lq,hsx,hsp,h0,aY,hz,rizQ,hw,hw2,hg,hp,hl,show x<=p by omega]
 . simp [lq]
theorem am7 {s:Sl Int}(hs:short s)(h:Hp):Sm E TF eY 54 [.d (s.d aY)] h=some (bl (mQ s.l 32),h):=by
 have k:=λh=>ao9 (E:=E) hs h;rw [aU ZT Wy];simp only [mQ];cases h1:bQ s.l<;>cases h2:dz s.l 0<;>simp [h1,h2] at k<;>simp [af,RQ,k]
theorem S68 {s:Scp}(hs:short s.addrs)(h:Hp):Sm E TF eY 11 [s.v] h=some (bl (dw s),h):=by
 have k:=λh=>am7 (E:=E) hs h;rw [aU bu4 az2];simp only [dw];by_cases h1:s.node>=2<;>by_cases h2:s.node<=9<;>simp [af,q68,k,h1,h2]
end
section
variable {E:Calls'}
theorem Qr (H:O17 E)(c:Cfg)(hc:c.ok)(x:Svc)(n:Int)(h:Hp):Sm E TF eY 47 [c.v,x.v,.d (i64 n)] h=some (bl (fT c n x),h):=by
 have k:=λh=>H.c48 c hc x.id h;rw [aU ZU Wz];unfold fT;cases hw:nV c x.id with
 | none =>
  simp only [hw] at k;simp [af,Nw,k];first | done | rfl
 | some w =>
  simp only [hw] at k;simp [af,Nw,k];first | done | rfl
theorem Me (c:Cfg)(n:Int){x y:Svc}(h:x.id=y.id):fT c n x=fT c n y:=by unfold fT; rw [h]
theorem BC {α:Type}(key:α->Int)(n:Int)(so:α->Bool)(hso:∀ x y,key x=key y->so x=so y):∀ l:List α,(l.any λx=>key x==n&&so x)=match l.find? (λx=>key x==n) with | some x=>so x | none=>false
 | []=>rfl
 | y::l=>by
  have ih:=BC key n so hso l;rw [List.any_cons,List.find?_cons,ih];cases hk:(key y==n) with
  | true =>
   simp only [Bool.true_and];cases hf:l.find? (λx=>key x==n) with
   | none=>simp
   | some z =>
    have hz:=List.find?_some hf;have:so z=so y:=hso z y (by simp at hz hk; omega);simp [this]
  | false=>simp
theorem Eg (c:Cfg)(p:Pod)(n:Int):nX c p (fT c n)=match c.services.l.find? (λx=>x.id==p.service) with | some x=>fT c n x | none=>false:=by
 have:=BC Svc.id p.service (fT c n) (λx y h=>Me c n h) c.services.l;unfold nX;rw [this];cases c.services.l.find? (λx=>x.id==p.service)<;>rfl
theorem VH (H:O17 E)(c:Cfg)(hc:c.ok)(p:Pod)(n:Int)(h:Hp):Sm E TF eY 50 [c.v,p.v,.d (i64 n)] h=some (bl (og c n p),h):=by
 have k:=λh=>H.c111 c hc p.service h;have k2:=λx h=>Qr H c hc x n h;rw [aU ZW WB];unfold og;rw [Eg];by_cases hh:p.host=n
 . simp [af,Ku,hh]
 . have hh':(p.host==n)=false:=by simpa using hh
   obtain ⟨g1,g2⟩ | ⟨i,x,g1,g2,g3⟩:=dE c.services.l (λx=>x.id==p.service)
   . rw [g2] at k;simp [af,Ku,hh,hh',k,g1,ai,aa,az,ae,Tr.mute]
   . rw [g2] at k;have hsx:=λh=>aA (z:=5) h g3 (cells:=Svc.c) rfl;have h0:((0:Int)<=(i:Int)):=by omega
     simp [af,Ku,hh,hh',k,g1,hsx,k2,h0,ai,aa,az,ae,Tr.mute]
def gM (a:Int):Bool->List Int->List Int
 | _,[]=>[]
 | pl,y::l=>(if !pl&&decide (y>a) then [a] else [])++y::gM a (pl||decide (y>a)) l
theorem Dv (a y:Int):∀ (l:List Int) (pl:Bool),gM a pl (l++[y])=gM a pl l++((if !(pl||l.any λz=>decide (z>a))&&decide (y>a) then [a] else [])++[y])
 | [],pl=>by simp [gM]
 | z::l,pl=>by
  rw [List.cons_append,gM,gM,Dv a y l,List.any_cons,Bool.or_assoc];simp
theorem tZ (a:Int):∀ (l:List Int) (pl:Bool),(gM a pl l).length<=l.length+(if pl then 0 else 1)
 | [],pl=>by simp [gM]
 | z::l,pl=>by
  have:=tZ a l (pl||decide (z>a));rw [gM,aw,cg,cg];cases pl<;>by_cases h1:z>a<;>simp [h1] at this ⊢<;>omega
theorem qp (a:Int):∀ l:List Int,gM a true l=l
 | []=>rfl
 | y::l=>by rw [gM]; simp [qp a l]
def iB (l:List Int)(a:Int):List Int:=gM a (dz l a) l++(if (dz l a||l.any λz=>decide (z>a)) then [] else [a])
theorem vv {l:List Int}{a:Int}(h:a∈l):iB l a=l:=by
 have h1:dz l a=true:=hasT_iff.2 h;simp [iB,h1,qp]
theorem tY {l:List Int}{a:Int}(h:¬ a∈l):iB l a=gM a false l++(if (l.any λz=>decide (z>a)) then [] else [a]):=by
 have h1:dz l a=false:=by
  cases hh:dz l a with
  | false=>rfl
  | true=>exact absurd (hasT_iff.1 hh) h
 simp [iB,h1]
theorem withT_mem {l:List Int}{a x:Int}:x∈iB l a↔x∈l\/x=a:=by
 by_cases h:a∈l
 . rw [vv h];constructor
   . exact .inl
   . rintro (h1 | rfl)
     . exact h1
     . exact h
 . rw [tY h];have:∀ l:List Int,x∈gM a false l++(if (l.any λz=>decide (z>a)) then [] else [a])↔x∈l\/x=a:=by
    intro l
    induction l with
    | nil=>simp [gM]
    | cons y l ih =>
     rw [gM,List.any_cons];by_cases h1:y>a
     . simp [h1,qp];constructor
       . rintro (h | h | h)<;>simp [h]
       . rintro ((h | h) | h)<;>simp [h]
     . simp only [h1,decide_false,Bool.false_or,Bool.not_false,Bool.true_and,bo,if_false,List.nil_append,List.cons_append,List.mem_cons,ih];constructor
       . rintro (h | h | h)<;>simp [h]
       . rintro ((h | h) | h)<;>simp [h]
   exact this l
theorem Fb {l:List Int}{a:Int}(h:l.Pairwise (·<·)):(iB l a).Pairwise (·<·):=by
 by_cases ha:a∈l
 . rw [vv ha]; exact h
 . rw [tY ha];have:∀ l:List Int,l.Pairwise (·<·)->¬ a∈l->(gM a false l++(if (l.any λz=>decide (z>a)) then [] else [a])).Pairwise (·<·):=by
    intro l
    induction l with
    | nil=>intro _ _; simp [gM]
    | cons y l ih =>
     intro hl hn;obtain ⟨h1,h2⟩:=List.pairwise_cons.1 hl;simp only [List.mem_cons,not_or] at hn;rw [gM,List.any_cons];by_cases hy:y>a
     . simp only [hy,decide_true,Bool.true_or,Bool.not_false,Bool.true_and,if_true,qp,List.append_nil,Bool.or_true];refine List.pairwise_cons.2 ⟨λz hz=>?_,hl⟩;obtain rfl | hz:=List.mem_cons.1 hz
       . exact hy
       . have:=h1 z hz; omega
     . have i2:=ih h2 hn.2;simp only [hy,decide_false,Bool.false_or,Bool.not_false,Bool.true_and,bo,if_false,List.nil_append,List.cons_append];refine List.pairwise_cons.2 ⟨λz hz=>?_,i2⟩;have hm:z∈l\/z=a:=by
        have:=withT_mem (l:=l) (a:=a) (x:=z);rw [tY hn.2] at this;exact this.1 hz
       obtain hm | rfl:=hm
       . exact h1 z hm
       . have:=hn.1; omega
   exact this l h ha
theorem LF (l:List Int)(a:Int):iB l a≠[]:=λh=>by
 have:a∈iB l a:=withT_mem.2 (.inr rfl);rw [h] at this; cases this
theorem IA (l:List Int)(a:Int):(iB l a).length<=l.length+1:=by
 by_cases ha:a∈l
 . rw [vv ha]; omega
 . rw [tY ha];have h1:=tZ a l false;cases hh:(l.any λz=>decide (z>a)) with
   | true=>simpa using h1
   | false =>
    have:∀ l:List Int,(l.any λz=>decide (z>a))=false->gM a false l=l:=by
     intro l
     induction l with
     | nil=>intro _; rfl
     | cons y l ih =>
      intro h;simp only [List.any_cons,Bool.or_eq_false_iff] at h;rw [gM,h.1,Bool.or_self,ih h.2]; simp
    simp [this l hh]
theorem ai7 (s:Sl Int)(hs:short s)(hsl:s.l.length+1<big)(a:Int)(p0:Bool):∃ bs' lo' v',Cd E TF eY (.loop [0,1,5,6,7] ny) [(0,.d (s.d aY)),(1,.d (u32 a)),(5,.d (.slice true [])),(6,bl p0),(7,.d (i64 0))] ⟨[],0⟩=some (.exit 0,[(1,.d (u32 a)),(5,v'),(6,bl (p0||s.l.any λz=>decide (z>a)))],⟨bs',lo'⟩)/\Acc [] 1 ((gM a p0 s.l).map aY) bs' v':=by
 have hlen:=hs.lt;have key:=xM (E:=E) (T:=TF) (val:=eY) (base:=[]) (z:=1) (keep:=[0,1,5,6,7]) (body:=ny) s.l.length (λi=>(gM a p0 (s.l.take i)).map aY) (λi v=>[(0,.d (s.d aY)),(1,.d (u32 a)),(5,v),(6,bl (p0||(s.l.take i).any λz=>decide (z>a))),(7,.d (i64 i))]) (λv=>(.exit 0,[(1,.d (u32 a)),(5,v),(6,bl (p0||s.l.any λz=>decide (z>a)))])) (λi hi bs lo v hA=>?_) (λbs lo v hA W=>?_) [] 0 _ (by simpa [gM] using Acc.nil [] 1)
 . simpa using key
 . have hx:=ac hi;have htk:s.l.take (i+1)=s.l.take i++[s.l[i]]:=by rw [List.take_add_one,hx]; rfl
   have hplen:=tZ a (s.l.take i) p0;have hple:(if p0 then 0 else 1)<=1:=by cases p0<;>simp
   simp only [List.length_take] at hplen;rw [htk,Dv,List.map_append,List.any_append];generalize s.l[i]=y at *;have hsx:=λh=>aA (z:=1) h hx (cells:=aY) rfl;have hw:=ax hi hlen;have h0:((i:Int)<s.l.length):=by omega
   have hl1:((gM a p0 (s.l.take i)).map aY).length<big:=by
    simp only [b9]; omega
   have hl2:(p0||(s.l.take i).any λz=>decide (z>a))=false->((gM a p0 (s.l.take i)).map aY).length+1<big:=λh=>by
    simp only [Bool.or_eq_false_iff] at h;obtain ⟨h3,h4⟩:=h;subst h3;have:∀ l:List Int,(l.any λz=>decide (z>a))=false->gM a false l=l:=by
     intro l
     induction l with
     | nil=>intro _; rfl
     | cons y l ih =>
      intro h;simp only [List.any_cons,Bool.or_eq_false_iff] at h;rw [gM,h.1,Bool.or_self,ih h.2]; simp
    rw [this _ h4];simp only [b9,List.length_take]; omega
   generalize (gM a p0 (s.l.take i)).map aY=acc at *;have hnu:=hA.nu;cases hpl:(p0||(s.l.take i).any λz=>decide (z>a)) with
   | true =>
    obtain ⟨v',bs',lo',ha,hA'⟩:=(hA.lay [.cells ((aY y).map .d)]).app (by decide) (by_:=4) (by decide) (e:=aY y) rfl (by omega) lo (r:=bs.length) (cap:=some 1) (by simp);refine ⟨bs',lo',v',by simpa using hA',λW=>?_⟩;have hor:(p0||((s.l.take i).any (λz=>decide (z>a))||[y].any λz=>decide (z>a)))=true:=by rw [← Bool.or_assoc,hpl]; rfl
    rw [hor];simp [aY] at ha;simp [ny,h0,hsx,hnu,aL,hw,ha,hA'.nu,aY]
   | false =>
    have hor:(p0||((s.l.take i).any (λz=>decide (z>a))||[y].any λz=>decide (z>a)))=decide (y>a):=by rw [← Bool.or_assoc,hpl]; simp
    rw [hor];by_cases c1:y>a
    . obtain ⟨v',bs',lo',ha,hA'⟩:=(hA.lay [.cells ((aY a).map .d)]).app (by decide) (by_:=4) (by decide) (e:=aY a) rfl (by omega) lo (r:=bs.length) (cap:=some 1) (by simp);obtain ⟨v2,bs2,lo2,ha2,hA2⟩:=(hA'.lay [.cells ((aY y).map .d)]).app (by decide) (by_:=4) (by decide) (e:=aY y) rfl (by simpa using hl2 hpl) lo' (r:=bs'.length) (cap:=some 1) (by simp);refine ⟨bs2,lo2,v2,by simpa [c1] using hA2,λW=>?_⟩;simp [aY] at ha ha2;simp [ny,h0,hsx,hnu,aL,hw,c1,ha,ha2,hA'.nu,hA2.nu,aY]
    . obtain ⟨v',bs',lo',ha,hA'⟩:=(hA.lay [.cells ((aY y).map .d)]).app (by decide) (by_:=4) (by decide) (e:=aY y) rfl (by omega) lo (r:=bs.length) (cap:=some 1) (by simp);refine ⟨bs',lo',v',by simpa [c1] using hA',λW=>?_⟩;simp [aY] at ha;simp [ny,h0,hsx,hnu,aL,hw,c1,ha,hA'.nu,aY]
 . simp [ny]
theorem an0 (H:O17 E)(s:Sl Int)(hs:short s)(hsl:s.l.length+1<big)(a:Int)(w:V)(h:Hp)(ha:frz h w=some (.d (s.d aY))):Sm E TF eY 48 [w,.d (u32 a)] h=some (.d ((⟨false,iB s.l a⟩:Sl Int).d aY),h):=by
 obtain ⟨bs,lo,v,a1,A⟩:=ai7 (E:=E) s hs hsl a (dz s.l a);have hnu:=A.nu;have k:=λh=>H.c121 s hs a h;rw [aU ZV WA];simp only [List.mapM_cons,List.mapM_nil,Ec,ha,Option.pure_def,Option.bind_eq_bind,Option.bind_some,rG];simp [af,RZ,k];rw [aj];have hwd:∀ l:List Int,∀ e∈l.map aY,∀ d∈e,∀ nl c cs,d≠.slice nl (c::cs):=λl e he d hd=>by
  obtain ⟨y,_,rfl⟩:=cb.1 he; simp [aY] at hd; subst hd; simp
 have hne:=LF s.l a;cases hp:(dz s.l a||s.l.any λz=>decide (z>a)) with
 | true =>
  have he:iB s.l a=gM a (dz s.l a) s.l:=by simp [iB,hp]
  rw [hp] at a1;rw [he] at hne ⊢;obtain ⟨z1,z2⟩:=A.frz lo;have ow:=A.ownR (hwd _) lo;have e1:((gM a (dz s.l a) s.l).map aY).isEmpty=false:=by simpa using hne
  rw [e1] at z1 z2;simp [a1];simp [hnu,z1,z2,bK,Sl.d,ow]
 | false =>
  have he:iB s.l a=gM a (dz s.l a) s.l++[a]:=by simp [iB,hp]
  rw [hp] at a1;have hl:(gM a (dz s.l a) s.l).length<big:=by
   have:=tZ a s.l (dz s.l a);have h2:(if dz s.l a=true then 0 else 1)<=1:=by split<;>simp
   omega
  obtain ⟨v',bs',lo',hap,hA'⟩:=(A.lay [.cells ((aY a).map .d)]).app (by decide) (by_:=4) (by decide) (e:=aY a) rfl (by simpa using hl) lo (r:=bs.length) (cap:=some 1) (by simp);obtain ⟨z1,z2⟩:=hA'.frz lo';have ow:=hA'.ownR (by
   have:(gM a (dz s.l a) s.l).map aY++[aY a]=(gM a (dz s.l a) s.l++[a]).map aY:=by simp
   rw [this]; exact hwd _) lo'
  rw [show ((gM a (dz s.l a) s.l).map aY++[aY a]).isEmpty=false by simp] at z1 z2;rw [he];simp [aY] at hap;simp [a1];simp [hnu,aL,hap,hA'.nu,z1,z2,bK,Sl.d,ow]
end
section
variable {E:Calls'}
structure MkF (Q:Nat) (bs0:List Blk) (F:V->List V) (z:Nat) (es:List (List D)) (bs:List Blk) (v:V):Prop where
 old:∀ x,x<bs0.length->x≠Q->bs[x]?=bs0[x]?
 len:bs0.length<=bs.length
 atD:ah bs Q=some (F v)
 lt:Q<bs0.length
 nil:es=[]->v=aF
 row:∃ L M,bs0.length<=L/\M<=bs.length/\Row1 L M bs z es v
section
variable {Q z:Nat}{bs0 bs:List Blk}{F:V->List V}{es:List (List D)}{v:V}
theorem MkF.start (z:Nat)(hD:ah bs0 Q=some (F aF)):MkF Q bs0 F z [] bs0 aF :=
 ⟨λ_ _ _=>rfl,br _,hD,aK hD,λ_=>rfl,bs0.length,bs0.length,br _,br _,by simp,.inl ⟨rfl,rfl⟩⟩
theorem MkF.get (h:MkF Q bs0 F z es bs v){x:Nat}{cs:List V}(hx:x≠Q)(hg:ah bs0 x=some cs):ah bs x=some cs:=bI hg (h.old x (aK hg) hx)
theorem MkF.nu (h:MkF Q bs0 F z es bs v):Go.Proofs.YtinmplbccmfheaaGreat.nu v=some v:=by
 obtain ⟨L,M,_,_,h⟩:=h.row; exact h.nu
theorem MkF.lay (h:MkF Q bs0 F z es bs v)(ys:List Blk):MkF Q bs0 F z es (bs++ys) v:=by
 obtain ⟨L,M,h1,h2,h3⟩:=h.row;have hl:=h.len;exact ⟨λx hx hd=>by rw [aq (by omega)]; exact h.old x hx hd,by simp; omega,av h.atD,h.lt,h.nil,L,M,h1,by simp; omega,h3.on λx _ hx=>by rw [aq (by omega)]⟩
theorem MkF.app (h:MkF Q bs0 F z es bs v)(hz0:0<z){by_:Nat}(hby:by_<=4096)(hl:es.length<big){e:List D}(he:e.length=z){r:Nat}{cap:Option Nat}(hr:ah bs r=some (e.map .d)) :
 ∃ v' bs',∃ G:Nat->Nat,(∀ lo,d9 ⟨bs,lo⟩ z by_ v (.row r 0 1 cap z)=some (v',⟨bs',G lo⟩))/\Go.Proofs.YtinmplbccmfheaaGreat.nu v'=some v'/\v'.cells=some [v']/\ah bs' Q=some (F v)/\MkF Q bs0 F z (es++[e]) (bs'.set Q (.cells (F v'))) v':=by
 obtain ⟨L,M,h1,h2,h3⟩:=h.row;have hlt:=h.lt;have hle:=h.len;obtain ⟨v',bs',G,a1,a2,a3,a4,a5⟩:=h3.app hz0 hby hl he hr h2;have hD:bs'[Q]?=bs[Q]?:=a4 Q (by omega) (.inl (by omega));refine ⟨v',bs',G,a1,a2.nu,a2.cl,bI h.atD hD,⟨λx hx hd=>by rw [am (Ne.symm hd),a4 x (by omega) (.inl (by omega))]; exact h.old x hx hd,by simp; omega,bW (bI h.atD hD),hlt,λhh=>by simp at hh,bs.length,bs'.length,hle,by simp,a2.on λx h1 _=>by rw [am (by omega)]⟩⟩
theorem MkF.dat (h:MkF Q bs0 F z es bs v)(lo k:Nat):dataV ⟨bs,lo⟩ (k+1) v=some (.slice es.isEmpty es):=by
 obtain ⟨L,M,h1,h2,h3⟩:=h.row;exact h3.datE h.nil lo k
end
theorem sI {T:FuncId->Option QF}{val:FuncId->Bool}{keep:List Nat}{body:QC}{α:Type}{cells:α->List D}(l:List α)(q:α->Bool)(f:α->α){Q z:Nat}{bs0:List Blk}{F:V->List V}(env:Nat->EA)(X:Ex×EA)
 (hr:∀ i x,l[i]?=some x->i<l.length->∀ bs lo v es,MkF Q bs0 F z es bs v->es.length<=i->∃ bs' lo' v',MkF Q bs0 F z (if q x then es++[cells (f x)] else es) bs' v'/\∀ W:EA->Hp->fM,dK keep W (Cd E T val body (bT keep (env i)) ⟨bs,lo⟩)=W (env (i+1)) ⟨bs',lo'⟩)
 (he:∀ bs lo v es,MkF Q bs0 F z es bs v->∀ W:EA->Hp->fM,dK keep W (Cd E T val body (bT keep (env l.length)) ⟨bs,lo⟩)=some (X.1,X.2,⟨bs,lo⟩)) (lo:Nat) (hD:ah bs0 Q=some (F aF)) :
 ∃ bs' lo' v',Cd E T val (.loop keep body) (env 0) ⟨bs0,lo⟩=some (X.1,X.2,⟨bs',lo'⟩)/\MkF Q bs0 F z (((l.filter q).map f).map cells) bs' v':=by
 obtain ⟨bs',lo',h1,v',h2⟩:=iZ (E:=E) (T:=T) (val:=val) (keep:=keep) (body:=body) l.length env (λi bs=>∃ v,MkF Q bs0 F z ((((l.take i).filter q).map f).map cells) bs v) X
  (λi hi bs lo ⟨v,hv⟩=>by
    have hx:=ac hi;have htk:l.take (i+1)=l.take i++[l[i]]:=by rw [List.take_add_one,hx]; rfl
    generalize l[i]=x at hx htk;obtain ⟨bs',lo',v',g1,g2⟩:=hr i x hx hi bs lo v _ hv (by
     have:=List.length_filter_le q (l.take i);simp only [b9];rw [List.length_take] at this; omega)
    refine ⟨bs',lo',⟨v',?_⟩,g2⟩;rw [htk,List.filter_append];cases hq:q x<;>simp [hq] at g1 ⊢<;>exact g1)
  (λbs lo ⟨v,hv⟩ W=>he bs lo v _ hv W) bs0 lo ⟨aF,MkF.start z hD⟩
 rw [List.take_length] at h2;exact ⟨bs',lo',v',h1,h2⟩
theorem xN {T:FuncId->Option QF}{val:FuncId->Bool}{keep:List Nat}{body:QC}{α:Type}(l:List α)(q:α->Bool)(y:Bool)(env:Nat->Bool->EA)(X:Bool->Ex×EA)(bs:List Blk)
 (hr:∀ i x,l[i]?=some x->i<l.length->∀ lo b,∀ W:EA->Hp->fM,dK keep W (Cd E T val body (bT keep (env i b)) ⟨bs,lo⟩)=W (env (i+1) (b||q x)) ⟨bs,lo⟩)
 (he:∀ lo b,∀ W:EA->Hp->fM,dK keep W (Cd E T val body (bT keep (env l.length b)) ⟨bs,lo⟩)=some ((X b).1,(X b).2,⟨bs,lo⟩)) (lo:Nat) :
 Cd E T val (.loop keep body) (env 0 y) ⟨bs,lo⟩=some ((X (y||l.any q)).1,(X (y||l.any q)).2,⟨bs,lo⟩):=by
 have:∀ (m i:Nat) (y:Bool),i+m=l.length->Cd E T val (.loop keep body) (env i y) ⟨bs,lo⟩=some ((X (y||(l.drop i).any q)).1,(X (y||(l.drop i).any q)).2,⟨bs,lo⟩):=by
  intro m;have key:=ay (E:=E) (T:=T) (val:=val) keep body;generalize Cd E T val (.loop keep body)=W at key ⊢
  induction m with
  | zero =>
   intro i y hi;rw [key,show i=l.length by omega,he lo y W,List.drop_length]; simp
  | succ m ih =>
   intro i y hi;have hlt:i<l.length:=by omega
   rw [key,hr i _ (ac hlt) hlt lo y W,ih (i+1) _ (by omega),ba hlt,List.any_cons,Bool.or_assoc]
 simpa using this l.length 0 y (by omega)
end
section
variable {E:Calls'}
def Cw (K:Nat->Prop)(bs:List Blk)(w:V)(l:List Int):Prop:=nu w=some w/\w.cells=some [w]/\okV w=true/\∀ bs' lo',(∀ x,K x->bs'[x]?=bs[x]?)->frz ⟨bs',lo'⟩ w=some (.d ((⟨false,l⟩:Sl Int).d aY))/\dataV ⟨bs',lo'⟩ 8 w=some ((⟨false,l⟩:Sl Int).d aY)
theorem Cw.data (K:Nat->Prop)(bs:List Blk)(l:List Int):Cw K bs (.d ((⟨false,l⟩:Sl Int).d aY)) l:=⟨rfl,rfl,rfl,λ_ _ _=>⟨JD _ _,rfl⟩⟩
theorem Cw.row {L M:Nat}{bs:List Blk}{l:List Int}{w:V}(h:Row1 L M bs 1 (l.map aY) w)(hn:w≠.d (.slice true [])):Cw (λx=>L<=x/\x<M) bs w l:=⟨h.nu,h.cl,h.ok,λbs' lo' hb=>by
 have h2:=(h.on (bs':=bs') λx h1 h2=>hb x ⟨h1,h2⟩).datN hn lo' 7;refine ⟨?_,h2⟩;obtain ⟨_,rfl⟩ | ⟨b,cap,_,_,rfl,_⟩:=h.2
 . exact absurd rfl hn
 . simp only [FK,h2]; rfl⟩
def jY (c:Cfg)(n:Int)(acc:List Int)(l:List Svc):List Int:=l.foldl (λa x=>if fT c n x then iB a x.addr else a) acc
theorem xx (c:Cfg)(n:Int):∀ (l:List Svc) (acc:List Int),(jY c n acc l).length<=acc.length+l.length
 | [],acc=>by simp [jY]
 | x::l,acc=>by
  have h1:=xx c n l (if fT c n x then iB acc x.addr else acc);have h2:=IA acc x.addr;simp only [jY,List.foldl_cons,cg] at h1 ⊢;cases hb:fT c n x<;>simp [hb] at h1 ⊢<;>omega
theorem Jk (c:Cfg)(n:Int)(acc:List Int)(l:List Svc)(x:Svc):jY c n acc (l++[x])=if fT c n x then iB (jY c n acc l) x.addr else jY c n acc l:=by simp [jY,List.foldl_append]
theorem RH (e:Int)(v w a b c d:V):put (aC e v a b c d) 1 [w]=some (aC e w a b c d):=rfl
theorem Uc (e:Int)(v a b c d:V):sub (aC e v a b c d) 1 1=some [v]:=rfl
theorem Eo (e:Int)(v w a b c d:V):put (aC e a v b c d) 2 [w]=some (aC e a w b c d):=rfl
theorem vg (e:Int)(v a b c d:V):sub (aC e a v b c d) 2 1=some [v]:=rfl
theorem RI (e:Int)(v w a b c d:V):put (aC e a b v c d) 3 [w]=some (aC e a b w c d):=rfl
theorem Bh (e:Int)(v a b c d:V):sub (aC e a b v c d) 3 1=some [v]:=rfl
theorem Km (e:Int)(v w a b c d:V):put (aC e a b c v d) 4 [w]=some (aC e a b c w d):=rfl
theorem Li (e:Int)(v a b c d:V):sub (aC e a b c v d) 4 1=some [v]:=rfl
theorem RJ (e:Int)(v w a b c d:V):put (aC e a b c d v) 5 [w]=some (aC e a b c d w):=rfl
theorem Ud (e:Int)(v a b c d:V):sub (aC e a b c d v) 5 1=some [v]:=rfl
section
variable (H:O17 E){c:Cfg}(hc:c.ok){s:Scp}(hs:short s.addrs){Q:Nat}(h3:3<=Q)
include H hc hs h3
omit hs in
theorem Vd {e:Int}{w0:V}{bs0:List Blk}(b0:ah bs0 0=some (c.c.map .d))(b1:ah bs0 1=some (s.c.map .d))(hw0:Cw (λx=>3<=x/\x<Q) bs0 w0 s.addrs.l)(hD:ah bs0 Q=some (aC e w0 aF aF aF aF))(hl:s.addrs.l.length+c.services.l.length+1<big)(lo:Nat) :
 ∃ bs' lo' w,Cd E TF eY (.loop [2,3,4,6,7] uC) [(2,.ptr 0 0),(3,.ptr 1 0),(4,.ptr 2 0),(6,.ptr Q 0),(7,.d (i64 ((0:Nat):Int)))] ⟨bs0,lo⟩=some (.exit 0,[(2,.ptr 0 0),(3,.ptr 1 0),(4,.ptr 2 0),(6,.ptr Q 0)],⟨bs',lo'⟩)/\(∀ x,x≠Q->bs'[x]?=bs0[x]?)/\bs'.length=bs0.length/\ah bs' Q=some (aC e w aF aF aF aF)/\Cw (λx=>3<=x/\x<Q) bs0 w (jY c s.node s.addrs.l c.services.l):=by
 have hlt:=hc.2.1.lt;obtain ⟨bs',lo',g1,w,g2⟩:=iZ (E:=E) (T:=TF) (val:=eY) (keep:=[2,3,4,6,7]) (body:=uC) c.services.l.length (λi=>[(2,.ptr 0 0),(3,.ptr 1 0),(4,.ptr 2 0),(6,.ptr Q 0),(7,.d (i64 i))]) (λi bs=>∃ w,(∀ x,x≠Q->bs[x]?=bs0[x]?)/\bs.length=bs0.length/\ah bs Q=some (aC e w aF aF aF aF)/\Cw (λx=>3<=x/\x<Q) bs0 w (jY c s.node s.addrs.l (c.services.l.take i))) (.exit 0,[(2,.ptr 0 0),(3,.ptr 1 0),(4,.ptr 2 0),(6,.ptr Q 0)])
  (by
    intro i hi bs lo ⟨w,k1,k2,k3,k4⟩;have hx:=ac hi;have htk:c.services.l.take (i+1)=c.services.l.take i++[c.services.l[i]]:=by rw [List.take_add_one,hx]; rfl
    generalize c.services.l[i]=x at hx htk;have hsx:=λh=>aA (z:=5) h hx (cells:=Svc.c) rfl;have hw:=ax hi hlt;have h0:((i:Int)<c.services.l.length):=by omega
    have g0:=bI b0 (k1 0 (by omega));have g1:=bI b1 (k1 1 (by omega));have n1:=λh=>Qr H c hc x s.node h;have hnu:=k4.1;have hcl:=k4.2.1;have hok:=k4.2.2.1;rw [htk];simp only [Jk];cases hb:fT c s.node x with
    | false =>
     refine ⟨bs,lo,⟨w,k1,k2,k3,k4⟩,λW=>?_⟩;simp [uC,g0,g1,hsx,h0,hw,n1,hb,ai,aa,az,ae,Tr.mute,aB]
    | true =>
     have hfl:(jY c s.node s.addrs.l (c.services.l.take i)).length+1<big:=by
      have:=xx c s.node (c.services.l.take i) s.addrs.l;rw [List.length_take] at this; omega
     have n2:=λlo=>an0 H ⟨false,jY c s.node s.addrs.l (c.services.l.take i)⟩ ⟨Nat.le_of_lt (Nat.lt_of_succ_lt hfl),λh=>by cases h⟩ hfl x.addr w ⟨bs,lo⟩ (k4.2.2.2 bs lo λy hy=>k1 y (by omega)).1;refine ⟨bs.set Q (.cells (aC e (.d ((⟨false,iB (jY c s.node s.addrs.l (c.services.l.take i)) x.addr⟩:Sl Int).d aY)) aF aF aF aF)),min lo Q,⟨_,λy hy=>by rw [am (Ne.symm hy)]; exact k1 y hy,by simpa using k2,bW k3,Cw.data _ _ _⟩,λW=>?_⟩;simp [uC,g0,g1,hsx,h0,hw,n1,n2,hb,k3,hnu,hcl,hok,RH,Uc,ai,aa,az,bz,Tr.spares,List.range,List.range.loop,aB])
  (by
    intro bs lo ⟨w,k1,k2,k3,k4⟩ W;have g0:=bI b0 (k1 0 (by omega));simp [uC,g0])
  bs0 lo ⟨w0,λ_ _=>rfl,rfl,hD,by simpa [jY] using hw0⟩
 rw [List.take_length] at g2;exact ⟨bs',lo',w,g1,g2⟩
def yQ (c:Cfg)(s:Scp)(p:Pod):Bool:=og c s.node p||(dz s.addrs.l p.addr||match c.services.l.find? (λx=>x.id==p.service) with | some x=>dz s.addrs.l x.addr | none=>false)
theorem Ve {e:Int}{w1:V}{bs0:List Blk}(b0:ah bs0 0=some (c.c.map .d))(b1:ah bs0 1=some (s.c.map .d))(hD:ah bs0 Q=some (aC e w1 aF aF aF aF))(hl:c.pods.l.length<big)(lo:Nat) :
 ∃ bs' lo' v',Cd E TF eY (.loop [2,3,4,6,8] nQ) [(2,.ptr 0 0),(3,.ptr 1 0),(4,.ptr 2 0),(6,.ptr Q 0),(8,.d (i64 ((0:Nat):Int)))] ⟨bs0,lo⟩=some (.exit 2,[(2,.ptr 0 0),(3,.ptr 1 0),(4,.ptr 2 0),(6,.ptr Q 0)],⟨bs',lo'⟩)/\MkF Q bs0 (λv=>aC e w1 v aF aF aF) 7 ((c.pods.l.filter (yQ c s)).map Pod.c) bs' v':=by
 have hlt:=hc.1.lt;have key:=sI (E:=E) (T:=TF) (val:=eY) (keep:=[2,3,4,6,8]) (body:=nQ) (cells:=Pod.c) c.pods.l (yQ c s) id (Q:=Q) (z:=7) (bs0:=bs0) (F:=λv=>aC e w1 v aF aF aF) (λi=>[(2,.ptr 0 0),(3,.ptr 1 0),(4,.ptr 2 0),(6,.ptr Q 0),(8,.d (i64 i))]) (.exit 2,[(2,.ptr 0 0),(3,.ptr 1 0),(4,.ptr 2 0),(6,.ptr Q 0)]) (λi x hx hi bs lo v es hM hes=>?_) (λbs lo v es hM W=>?_) lo hD
 . simpa using key
 . have hsx:=λh=>aA (z:=7) h hx (cells:=Pod.c) rfl;have hw:=ax hi hlt;have h0:((i:Int)<c.pods.l.length):=by omega
   have hM1:=hM.lay [.cells (x.c.map .d)];have hM2:=hM.lay [.cells (x.c.map .d),.cells (x.c.map .d)];have g0':=hM.get (x:=0) (by omega) b0;have g0:=λys=>av (ys:=ys) (hM.get (x:=0) (by omega) b0);have g1:=λys=>av (ys:=ys) (hM.get (x:=1) (by omega) b1);have gD:=λys=>av (ys:=ys) hM.atD;have hDb:¬ bs.length=Q:=by have:=hM.lt; have:=hM.len; omega
   have hz:put [V.d (.int .u64 0),.d (.str ⟨#[]⟩),.d (.str ⟨#[]⟩),.d (.int .i64 0),.d (.int .u32 0),.d (.int .i64 0),.d (.int .u64 0)] 0 (x.c.map V.d)=some (x.c.map V.d):=rfl;have n1:=λh=>H.c111 c hc x.service h;have n2:=λh=>VH H c hc x s.node h;have n3:=λa h=>H.c121 s.addrs hs a h;have hnu:=hM.nu;obtain ⟨v',bs',G,a1,a2,a3,a4,a5⟩:=hM2.app (by decide) (by_:=72) (by decide) (by omega) (e:=x.c) rfl (r:=bs.length+1) (cap:=some 1) (by rw [oO]; rfl);cases hq:yQ c s x with
   | true =>
    refine ⟨_,min (G (min lo bs.length)) Q,v',by simpa using a5,λW=>?_⟩;unfold yQ at hq;cases ho:og c s.node x with
    | true=>simp [nQ,g0',g0,g1,gD,hsx,h0,hw,hz,n1,n2,n3,ho,hnu,a1,a2,a3,a4,Eo,vg,aL,ai,aa,az,ae,Tr.mute,aB]
    | false =>
     cases hi:dz s.addrs.l x.addr with
     | true=>simp [nQ,g0',g0,g1,gD,hsx,h0,hw,hz,n1,n2,n3,ho,hi,hnu,a1,a2,a3,a4,Eo,vg,aL,ai,aa,az,ae,Tr.mute,aB]
     | false =>
      rw [ho,hi] at hq;obtain ⟨q1,q2⟩ | ⟨k,y,q1,q2,q3⟩:=dE c.services.l (λy=>y.id==x.service)
      . simp [q1] at hq
      . rw [q2] at n1;simp only [q1,Bool.false_or] at hq;have hsy:=λh=>aA (z:=5) h q3 (cells:=Svc.c) rfl;have hk:((0:Int)<=(k:Int)):=by omega
        simp [nQ,g0',g0,g1,gD,hsx,hsy,hk,h0,hw,hz,n1,n2,n3,ho,hi,hq,hnu,a1,a2,a3,a4,Eo,vg,aL,ai,aa,az,ae,Tr.mute,aB]
   | false =>
    refine ⟨_,min lo bs.length,v,by simpa using hM1,λW=>?_⟩;unfold yQ at hq;simp only [Bool.or_eq_false_iff] at hq;obtain ⟨ho,hi,hq⟩:=hq;obtain ⟨q1,q2⟩ | ⟨k,y,q1,q2,q3⟩:=dE c.services.l (λy=>y.id==x.service)
    . rw [q2] at n1;simp [nQ,g0',g0,g1,gD,hsx,h0,hw,hz,n1,n2,n3,ho,hi,ai,aa,az,ae,Tr.mute,aB]
    . rw [q2] at n1;simp only [q1] at hq;have hsy:=λh=>aA (z:=5) h q3 (cells:=Svc.c) rfl;have hk:((0:Int)<=(k:Int)):=by omega
      simp [nQ,g0',g0,g1,gD,hsx,hsy,hk,h0,hw,hz,n1,n2,n3,ho,hi,hq,ai,aa,az,ae,Tr.mute,aB]
 . have g0:=hM.get (x:=0) (by omega) b0;simp [nQ,g0]
end
end
