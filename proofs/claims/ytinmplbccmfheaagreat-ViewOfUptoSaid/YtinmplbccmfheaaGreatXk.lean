/- Sources, targets, conditions as1 bytes, as1 the document has them. -/
import Derived.Test.YtinmplbccmfheaaGreatWp
set_option maxRecDepth 100000
set_option linter.unusedVariables false
set_option linter.unusedSimpArgs false
namespace Go.Proofs.YtinmplbccmfheaaGreat
open IntKind (wrap)
section
variable {E:Calls'}
theorem gK {α:Type}(a b:List α):(a++b).length=a.length+b.length:=aw
section
variable {p:Pol}{L:Nat}{r:Rule}(hr:r.wf big)
include hr
theorem al4 (pi:Nat)(bs:List Blk)(lo:Nat)(v:V)(acc:List Int)(hK:K2 p L r bs)(hm:L+1<=bs.length)(hB:Bv (L+1) bs v acc)(hb:acc.length+(r.frm.l.flatMap jL).length<=big) :
 ∃ bs' lo' v',Cd E TX aP (.loop [1,3,4,5,6] sZ) [(1,.ptr 0 0),(3,v),(4,.d (i64 (pi:Int))),(5,.ptr L 0),(6,.d (i64 ((0:Nat):Int)))] ⟨bs,lo⟩ =
  some (.exit 2,[(1,.ptr 0 0),(3,v'),(4,.d (i64 (pi:Int))),(5,.ptr L 0)],⟨bs',lo'⟩)/\K2 p L r bs'/\L+1<=bs'.length/\Bv (L+1) bs' v' (acc++r.frm.l.flatMap jL)/\(L+1<=lo->L+1<=lo'):=by
 refine eQ (E:=E) (keep:=[1,3,4,5,6]) (body:=sZ) r.frm.l jL (λi v=>[(1,.ptr 0 0),(3,v),(4,.d (i64 (pi:Int))),(5,.ptr L 0),(6,.d (i64 i))]) (λv=>(.exit 2,[(1,.ptr 0 0),(3,v),(4,.d (i64 (pi:Int))),(5,.ptr L 0)])) (L+1)
  (λbs' v'=>K2 p L r bs') (λi x hx hi bs1 lo v1 acc1 hK1 hm1 hB1 hb=>?_) (λbs lo v acc hK1 hB W=>?_) bs lo v acc hK hm hB hb
 . have hwf:=hr.1.2 x (cc hx);have hsx:=λh=>aA (z:=3) h hx (cells:=Source.c) rfl;have hw:=ax hi (fit.lt hr.1.1);have h0:((i:Int)<r.frm.l.length):=by omega
   simp only [jL,gK,cg] at hb;obtain ⟨b1,bs2,t1,F1,o1,i1,B1,g1,k1,l1⟩:=(Gi (E:=E) x.names (fit.lt hwf.1.1) hB1 hm1 (by omega)).open hm1;have hK2:=hK1.kx hB1 k1;have hm2:L+1<=bs2.length:=cf hm1 k1.1;have B1':=B1.le hm1;obtain ⟨b2,bs3,t2,F2,o2,i2,B2,g2,k2,l2⟩:=(Gi (E:=E) x.spaces (fit.lt hwf.2.1.1) B1' hm2 (by rw [gK]; omega)).open hm2;have hK3:=hK2.kx B1' k2;have hm3:L+1<=bs3.length:=cf hm2 k2.1;have B2':=B2.le hm2;obtain ⟨bs4,F3,r1,r2,r3,r4,r5⟩:=(B2'.lay [.cells [.d (.int .u8 (wrap .u8 (x.nets.l.length:Int)))]]).app (by simp; omega) (xs:=[wrap .u8 (x.nets.l.length:Int)]) (by simp) (by simp only [gK,cg,ch]; omega) (src:=.row bs3.length 0 1 (some 1) 1) (λlo=>o9 lo);have hK4:=(hK3.lay _).kx (B2'.lay _) r3;have hl4:bs4.length=bs3.length+2:=by rw [r4]; simp
   have B4:=r2.le (show L+1<=_ by simp; omega);obtain ⟨bs5,lo5,v5,d1,d2,d3,d4,d5⟩:=al8 (E:=E) hr hx hi pi bs4 (F3 (F2 (F1 lo))) _ _ hK4 (by omega) B4 (by simp only [gK,cg,ch]; omega);have eT:acc1++seqB dI x.names.l++seqB dI x.spaces.l++[wrap .u8 (x.nets.l.length:Int)]++x.nets.l.flatMap kv=acc1++jL x:=by simp [jL]
   rw [eT] at d4;refine ⟨bs5,lo5,v5,λW=>?_,d2,d3,d4,λh=>d5 (r5 _ (l2 _ (l1 _ h)))⟩;have hnu:=hB1.nu;have hok:=hB1.ok;have hq2:=r1 (F2 (F1 lo));simp at hq2;simp at d1;simp [sZ,hK1.r0,hK2.r0,hK3.r0,h0,hsx,hnu,hok,ai,az,o1,o2];rw [if_pos (mf (L+1) [true,true,true,true,true,true,true,false,true,true,true,true,true,true,false,true] (by decide) ?_)]
   . simp [hK3.r0,hsx,aL,hq2];rw [aj];simp [d1,hw]
   . repeat' first
      | exact trivial
      | refine Cl1.t (by simp) ?_
      | exact ⟨i1,?_⟩
      | refine ⟨i1,?_⟩
      | refine ⟨i2,?_⟩
 . have hnu:=hB.nu;simp [sZ,hK1.r0,hnu]
theorem am0 {k:Nat}{t:Target}(ht:r.to.l[k]?=some t)(pi:Nat)(bs:List Blk)(lo:Nat)(v:V)(acc:List Int)(hK:K2 p L r bs)(hm:L+1<=bs.length)(hB:Bv (L+1) bs v acc)(hb:acc.length+(t.ports.l.flatMap oZ).length<=big) :
 ∃ bs' lo' v',Cd E TX aP (.loop [1,3,4,5,8,9] tq) [(1,.ptr 0 0),(3,v),(4,.d (i64 (pi:Int))),(5,.ptr L 0),(8,.d (i64 (k:Int))),(9,.d (i64 ((0:Nat):Int)))] ⟨bs,lo⟩ =
  some (.exit 8,[(1,.ptr 0 0),(3,v'),(4,.d (i64 (pi:Int))),(5,.ptr L 0),(8,.d (i64 (k:Int)))],⟨bs',lo'⟩)/\K2 p L r bs'/\L+1<=bs'.length/\Bv (L+1) bs' v' (acc++t.ports.l.flatMap oZ)/\(L+1<=lo->L+1<=lo'):=by
 have hwf:=hr.2.1.2 t (cc ht);refine eQ (E:=E) (keep:=[1,3,4,5,8,9]) (body:=tq) t.ports.l oZ (λi v=>[(1,.ptr 0 0),(3,v),(4,.d (i64 (pi:Int))),(5,.ptr L 0),(8,.d (i64 (k:Int))),(9,.d (i64 i))]) (λv=>(.exit 8,[(1,.ptr 0 0),(3,v),(4,.d (i64 (pi:Int))),(5,.ptr L 0),(8,.d (i64 (k:Int)))])) (L+1)
  (λbs' v'=>K2 p L r bs') (λi x hx hi bs1 lo v1 acc1 hK1 hm1 hB1 hb=>?_) (λbs lo v acc hK1 hB W=>?_) bs lo v acc hK hm hB hb
 . have htx:=λh=>aA (z:=4) h ht (cells:=Target.c) rfl;have hix:=λh=>aA (z:=1) h hx (cells:=ig) rfl;have hw:=ax hi (fit.lt hwf.1.1);have h0:((i:Int)<t.ports.l.length):=by omega
   have hr0:0<=wrap .u64 x:=by rw [wrap_u64]; omega
   have hr1:wrap .u64 x<2 ^ 64:=by rw [wrap_u64]; omega
   obtain ⟨b,bs2,k2,c1,c2,c3,c4,c5⟩:=Gro.short (E:=E) hr0 hr1 hm1;have hB2:Bv (L+1) bs2 v1 acc1:=by
    obtain h | ⟨e1,b',e2,rfl,e4⟩:=hB1
    . exact .inl h
    . exact .inr ⟨e1,b',e2,rfl,c4.get (by simp) e4⟩
   have hK2:K2 p L r bs2:=⟨c4.get (by simp) hK1.p0,c4.get (by simp) hK1.r0⟩;have hl2:=c4.1;obtain ⟨bs3,F,p1,p2,p3,p4,p5⟩:=hB2.app (by omega) (df (wrap .u64 x)) hb (src:=.row b 0 (aQ (wrap .u64 x)).length none 1) (λlo=>c2.rc lo);refine ⟨bs3,F (min lo k2),_,λW=>?_,hK2.kx hB2 p3,by omega,p2.le (show L+1<=bs2.length by omega),λh=>p5 _ (by omega)⟩;have hnu:=hB1.nu;have hq1:=p1 (min lo k2);simp at hq1;simp [tq,hK1.r0,h0,htx,hix,hnu,c1,hq1,hw,ig]
 . have htx:=λh=>aA (z:=4) h ht (cells:=Target.c) rfl;have hnu:=hB.nu;simp [tq,hK1.r0,htx,hnu]
theorem aw8 (pi:Nat)(bs:List Blk)(lo:Nat)(v:V)(acc:List Int)(hK:K2 p L r bs)(hm:L+1<=bs.length)(hB:Bv (L+1) bs v acc)(hb:acc.length+(r.to.l.flatMap jM).length<=big) :
 ∃ bs' lo' v',Cd E TX aP (.loop [1,3,4,5,8] tu) [(1,.ptr 0 0),(3,v),(4,.d (i64 (pi:Int))),(5,.ptr L 0),(8,.d (i64 ((0:Nat):Int)))] ⟨bs,lo⟩ =
  some (.exit 6,[(1,.ptr 0 0),(3,v'),(4,.d (i64 (pi:Int))),(5,.ptr L 0)],⟨bs',lo'⟩)/\K2 p L r bs'/\L+1<=bs'.length/\Bv (L+1) bs' v' (acc++r.to.l.flatMap jM)/\(L+1<=lo->L+1<=lo'):=by
 refine eQ (E:=E) (keep:=[1,3,4,5,8]) (body:=tu) r.to.l jM (λi v=>[(1,.ptr 0 0),(3,v),(4,.d (i64 (pi:Int))),(5,.ptr L 0),(8,.d (i64 i))]) (λv=>(.exit 6,[(1,.ptr 0 0),(3,v),(4,.d (i64 (pi:Int))),(5,.ptr L 0)])) (L+1)
  (λbs' v'=>K2 p L r bs') (λi x hx hi bs1 lo v1 acc1 hK1 hm1 hB1 hb=>?_) (λbs lo v acc hK1 hB W=>?_) bs lo v acc hK hm hB hb
 . have hwf:=hr.2.1.2 x (cc hx);have hsx:=λh=>aA (z:=4) h hx (cells:=Target.c) rfl;have hw:=ax hi (fit.lt hr.2.1.1);have h0:((i:Int)<r.to.l.length):=by omega
   simp only [jM,gK,cg] at hb;obtain ⟨bs2,F1,r1,r2,r3,r4,r5⟩:=(hB1.lay [.cells [.d (.int .u8 (wrap .u8 (x.ports.l.length:Int)))]]).app (by simp; omega) (xs:=[wrap .u8 (x.ports.l.length:Int)]) (by simp) (by simp only [cg,ch]; omega) (src:=.row bs1.length 0 1 (some 1) 1) (λlo=>o9 lo);have hK2:=(hK1.lay _).kx (hB1.lay _) r3;have hl2:bs2.length=bs1.length+2:=by rw [r4]; simp
   have B2:=r2.le (show L+1<=_ by simp; omega);obtain ⟨bs3,lo3,v3,d1,hK3,hm3,B3,d5⟩:=am0 (E:=E) hr hx pi bs2 (F1 lo) _ _ hK2 (by omega) B2 (by simp only [gK,cg,ch]; omega);obtain ⟨b1,bs4,t1,G1,o1,i1,B4,g1,k1,l1⟩:=(Gi (E:=E) x.methods (fit.lt hwf.2.1.1) B3 hm3 (by simp only [gK,cg,ch]; omega)).open hm3;have hK4:=hK3.kx B3 k1;have hm4:L+1<=bs4.length:=cf hm3 k1.1;have B4':=B4.le hm3;obtain ⟨b2,bs5,t2,G2,o2,i2,B5,g2,k2,l2⟩:=(Gi (E:=E) x.paths (fit.lt hwf.2.2.1.1) B4' hm4 (by simp only [gK,cg,ch]; omega)).open hm4;have hK5:=hK4.kx B4' k2;have hm5:L+1<=bs5.length:=cf hm4 k2.1;have B5':=B5.le hm4;obtain ⟨b3,bs6,t3,G3,o3,i3,B6,g3,k3,l3⟩:=(Gi (E:=E) x.hosts (fit.lt hwf.2.2.2.1) B5' hm5 (by simp only [gK,cg,ch]; omega)).open hm5;have hK6:=hK5.kx B5' k3;have hm6:L+1<=bs6.length:=cf hm5 k3.1;have B6':=B6.le hm5;have eT:acc1++[wrap .u8 (x.ports.l.length:Int)]++x.ports.l.flatMap oZ++seqB dI x.methods.l++seqB dI x.paths.l++seqB dI x.hosts.l=acc1++jM x:=by simp [jM]
   rw [eT] at B6' o3;refine ⟨bs6,G3 (G2 (G1 lo3)),_,λW=>?_,hK6,hm6,B6',λh=>l3 _ (l2 _ (l1 _ (d5 (r5 _ h))))⟩;have hnu:=hB1.nu;have hok3:=B3.ok;have hnu3:=B3.nu;have hq2:=r1 lo;simp at hq2;simp at d1;simp [tu,hK1.r0,h0,hsx,hnu,aL,hq2];rw [aj];simp [d1,hnu3,hok3,hK3.r0,hK4.r0,hK5.r0,hsx,ai,az,o1,o2,o3];rw [if_pos (mf (L+1) [true,true,true,true,true,true,true,false,true,true,true,true,true,true,false,true,true,true,true,true,true,false,true] (by decide) ?_)]
   . simp [hw]
   . repeat' first
      | exact trivial
      | refine Cl1.t (by simp) ?_
      | refine ⟨i1,?_⟩
      | refine ⟨i2,?_⟩
      | refine ⟨i3,?_⟩
 . have hnu:=hB.nu;simp [tu,hK1.r0,hnu]
theorem ax9 (pi:Nat)(bs:List Blk)(lo:Nat)(v:V)(acc:List Int)(hK:K2 p L r bs)(hm:L+1<=bs.length)(hB:Bv (L+1) bs v acc)(hb:acc.length+(r.whn.l.flatMap qH).length<=big) :
 ∃ bs' lo' v',Cd E TX aP (.loop [1,3,4,5,10] tC) [(1,.ptr 0 0),(3,v),(4,.d (i64 (pi:Int))),(5,.ptr L 0),(10,.d (i64 ((0:Nat):Int)))] ⟨bs,lo⟩ =
  some (.exit 10,[(1,.ptr 0 0),(3,v'),(4,.d (i64 (pi:Int)))],⟨bs',lo'⟩)/\K2 p L r bs'/\L+1<=bs'.length/\Bv (L+1) bs' v' (acc++r.whn.l.flatMap qH)/\(L+1<=lo->L+1<=lo'):=by
 refine eQ (E:=E) (keep:=[1,3,4,5,10]) (body:=tC) r.whn.l qH (λi v=>[(1,.ptr 0 0),(3,v),(4,.d (i64 (pi:Int))),(5,.ptr L 0),(10,.d (i64 i))]) (λv=>(.exit 10,[(1,.ptr 0 0),(3,v),(4,.d (i64 (pi:Int)))])) (L+1)
  (λbs' v'=>K2 p L r bs') (λi x hx hi bs1 lo v1 acc1 hK1 hm1 hB1 hb=>?_) (λbs lo v acc hK1 hB W=>?_) bs lo v acc hK hm hB hb
 . have hwf:=hr.2.2.2 x (cc hx);have hsx:=λh=>aA (z:=2) h hx (cells:=When.c) rfl;have hw:=ax hi (fit.lt hr.2.2.1);have h0:((i:Int)<r.whn.l.length):=by omega
   simp only [qH,gK] at hb;have hne:bG x.head≠[]:=by simp [bG,df]
   have o0:=Dt (λh=>Dy (E:=E) x.head (by omega) h) bs1;obtain ⟨bs2,F1,r1,r2,r3,r4,r5⟩:=hB1.app hm1 hne (by omega) (src:=.d (bytesD (bG x.head))) (λlo=>jW _ _);have hK2:=hK1.kx hB1 r3;have B2:=r2.le (show L+1<=bs1.length by omega);have hm2:L+1<=bs2.length:=by omega
   obtain ⟨b1,bs3,t1,G1,o1,i1,B3,g1,k1,l1⟩:=(Gi (E:=E) x.terms (fit.lt hwf.2.1) B2 hm2 (by simp only [gK]; omega)).open hm2;have hK3:=hK2.kx B2 k1;have hm3:L+1<=bs3.length:=cf hm2 k1.1;have B3':=B3.le hm2;have eT:acc1++bG x.head++seqB dI x.terms.l=acc1++qH x:=by simp [qH]
   rw [eT] at B3' o1;refine ⟨bs3,G1 (F1 lo),_,λW=>?_,hK3,hm3,B3',λh=>l1 _ (r5 _ h)⟩;have hnu:=hB1.nu;have hq2:=r1 lo;simp at hq2;simp [tC,hK1.r0,hK2.r0,h0,hsx,hnu,ai,az,o0,hq2,o1];rw [if_pos (mf (L+1) [true,true,true,true,true,true,true,false,false,true,true,true,true,true,true,false,true] (by decide) ?_)]
   . simp [hw]
   . have hvb:=hB1.vblk
     repeat' first
      | exact trivial
      | refine Cl1.t (by simp) ?_
      | refine Cl1.c ?_
      | refine Cl1.m ?_ ?_ ?_
      | refine ⟨i1,?_⟩
      | exact hvb
      | fail
     all_goals first
      | exact hvb
      | omega
      | (simp; try omega)
 . have hnu:=hB.nu;simp [tC,hK1.r0,hnu]
end
end
section
variable {E:Calls'}
theorem am2 (p:Pol)(hp:p.wf big)(bs:List Blk)(lo:Nat)(v:V)(acc:List Int)(hK:ah bs 0=some (p.c.map .d))(hm:1<=bs.length)(hB:Bv 1 bs v acc)(hb:acc.length+(p.rules.l.flatMap qD).length<=big) :
 ∃ bs' lo' v',Cd E TX aP (.loop [1,3,4] tF) [(1,.ptr 0 0),(3,v),(4,.d (i64 ((0:Nat):Int)))] ⟨bs,lo⟩ =
  some (.exit 0,[(3,v')],⟨bs',lo'⟩)/\ah bs' 0=some (p.c.map .d)/\1<=bs'.length/\Bv 1 bs' v' (acc++p.rules.l.flatMap qD)/\(0<=lo->0<=lo'):=by
 refine eQ (E:=E) (keep:=[1,3,4]) (body:=tF) p.rules.l qD (λi v=>[(1,.ptr 0 0),(3,v),(4,.d (i64 i))]) (λv=>(.exit 0,[(3,v)])) 1
  (λbs' v'=>ah bs' 0=some (p.c.map .d)) (λi x hx hi bs1 lo v1 acc1 hK1 hm1 hB1 hb=>?_) (λbs lo v acc hK1 hB W=>?_) bs lo v acc hK hm hB hb
 . have hwf:=hp.2.2.2.2.2 x (cc hx);have hsx:=λh=>aA (z:=3) h hx (cells:=Rule.c) rfl;have hw:=ax hi (fit.lt hp.2.2.2.2.1);have h0:((i:Int)<p.rules.l.length):=by omega
   simp only [qD,gK,cg] at hb;have hKa:K2 p bs1.length x (bs1++[.cells (x.c.map .d)]):=⟨av hK1,by simp⟩;have hA:=hB1.lay [.cells (x.c.map .d)];obtain ⟨bs2,F1,r1,r2,r3,r4,r5⟩:=(hA.lay [.cells [.d (.int .u8 (wrap .u8 (x.frm.l.length:Int)))]]).app (by simp) (xs:=[wrap .u8 (x.frm.l.length:Int)]) (by simp) (by simp only [cg,ch]; omega) (src:=.row (bs1++[Blk.cells (x.c.map .d)]).length 0 1 (some 1) 1) (λlo=>o9 lo);have hne:gG v1≠some bs1.length:=λe=>by have:=(hB1.blk e).2; omega
   have hn0:gG v1≠some 0:=λe=>by have:=(hB1.blk e).1; omega
   have hK2:K2 p bs1.length x bs2:=⟨r3.get hn0 (hKa.lay _).p0,r3.get hne (hKa.lay _).r0⟩;have hl2:bs2.length=bs1.length+3:=by rw [r4]; simp
   have B2:=r2.le (show bs1.length+1<=_ by simp);obtain ⟨bs3,lo3,v3,d1,hK3,hm3,B3,d5⟩:=al4 (E:=E) hwf i bs2 (F1 (min lo bs1.length)) _ _ hK2 (by omega) B2 (by simp only [gK,cg,ch]; omega);obtain ⟨bs4,F2,s1,s2,s3,s4,s5⟩:=(B3.lay [.cells [.d (.int .u8 (wrap .u8 (x.to.l.length:Int)))]]).app (by simp; omega) (xs:=[wrap .u8 (x.to.l.length:Int)]) (by simp) (by simp only [gK,cg,ch]; omega) (src:=.row bs3.length 0 1 (some 1) 1) (λlo=>o9 lo);have hK4:=(hK3.lay _).kx (B3.lay _) s3;have hl4:bs4.length=bs3.length+2:=by rw [s4]; simp
   have B4:=s2.le (show bs1.length+1<=_ by simp; omega);obtain ⟨bs5,lo5,v5,e1,hK5,hm5,B5,e5⟩:=aw8 (E:=E) hwf i bs4 (F2 lo3) _ _ hK4 (by omega) B4 (by simp only [gK,cg,ch]; omega);obtain ⟨bs6,F3,t1,t2,t3,t4,t5⟩:=(B5.lay [.cells [.d (.int .u8 (wrap .u8 (x.whn.l.length:Int)))]]).app (by simp; omega) (xs:=[wrap .u8 (x.whn.l.length:Int)]) (by simp) (by simp only [gK,cg,ch]; omega) (src:=.row bs5.length 0 1 (some 1) 1) (λlo=>o9 lo);have hK6:=(hK5.lay _).kx (B5.lay _) t3;have hl6:bs6.length=bs5.length+2:=by rw [t4]; simp
   have B6:=t2.le (show bs1.length+1<=_ by simp; omega);obtain ⟨bs7,lo7,v7,f1,hK7,hm7,B7,f5⟩:=ax9 (E:=E) hwf i bs6 (F3 lo5) _ _ hK6 (by omega) B6 (by simp only [gK,cg,ch]; omega);have eT:acc1++[wrap .u8 (x.frm.l.length:Int)]++x.frm.l.flatMap jL++[wrap .u8 (x.to.l.length:Int)]++x.to.l.flatMap jM++[wrap .u8 (x.whn.l.length:Int)]++x.whn.l.flatMap qH=acc1++qD x:=by simp [qD]
   rw [eT] at B7;refine ⟨bs7,lo7,v7,λW=>?_,hK7.p0,by omega,B7.le (by omega),λh=>?_⟩
   . have hnu:=hB1.nu;have hnu3:=B3.nu;have hnu5:=B5.nu;have hg:=av (ys:=[.cells (x.c.map .d)]) hK1;have hq1:=r1 (min lo bs1.length);have hq2:=s1 lo3;have hq3:=t1 lo5;simp at hq1 hq2 hq3 d1 e1 f1;simp [tF,hK1,hg,h0,hsx,hnu,aL,hq1];rw [aj];simp [d1,hK3.r0,hnu3,aL,hq2];rw [aj];simp [e1,hK5.r0,hnu5,aL,hq3];rw [aj];simp [f1,hw]
   . exact Nat.zero_le _
 . have hnu:=hB.nu;simp [tF,hK1,hnu]
theorem TI {bs:List Blk}{x y:Int}{k:IntKind}(lo:Nat):aH ⟨bs++[.cells [.d (.int k x),.d (.int k y)]],lo⟩ (.row bs.length 0 2 (some 2) 1) 1=some (([x,y]:List Int).length,([x,y]:List Int).map (iv k)):=by
 simp only [aH,if_true,get_eq,dU];rfl
theorem Bv.short {m:Nat}{bs bs':List Blk}{v:V}{acc:List Int}(h:Bv m bs v acc)(k:Kx none bs bs'):Bv m bs' v acc:=by
 obtain h | ⟨e1,b',e2,rfl,e4⟩:=h
 . exact .inl h
 . exact .inr ⟨e1,b',e2,rfl,k.get (by simp) e4⟩
theorem sj {n:Int}(h:Inr .u64 n):0<=n/\n<2 ^ 64:=by
 simp [Inr,Lit.wf,IntKind.min,IntKind.max,IntKind.bits,IntKind.signed] at h;omega
theorem cn6:TX 133=some Sg:=by kernel_rfl
theorem ck5:aP 133=true:=by kernel_rfl
theorem ao6 (p:Pol)(hp:p.wf big)(hl:(AC p).length<=big)(h:Hp):Sm E TX aP 133 [ag p.c] h=some (.d (bytesD (AC p)),h):=by
 simp only [AC,gK,cg] at hl;have hid:=sj hp.1;have hsv:=sj hp.2.2.1;have hK0:ah [Blk.cells (p.c.map .d)] 0=some (p.c.map .d):=by simp
 obtain ⟨b1,bs1,t1,G1,o1,i1,B1,g1,k1,l1⟩:=(Gro.short (E:=E) (x:=p.id) (m:=1) (bs:=[Blk.cells (p.c.map .d)]) hid.1 hid.2 (by simp)).open (by simp);have hK1:=k1.get (by simp) hK0;have hne:bG p.ns≠[]:=by simp [bG,df]
 have o2:=Dt (λh=>Dy (E:=E) p.ns (by omega) h) bs1;have B1':Bv 1 bs1 _ _:=B1;have hm1:1<=bs1.length:=k1.1;obtain ⟨bs2,F2,r1,r2,r3,r4,r5⟩:=B1'.app hm1 hne (by omega) (src:=.d (bytesD (bG p.ns))) (λlo=>jW _ _);have hK2:=r3.get (λe=>by have:=(B1'.blk e).1; omega) hK1;have B2:=r2.le hm1;have hm2:1<=bs2.length:=by omega
 obtain ⟨b3,bs3,k3,c1,c2,c3,c4,c5⟩:=Gro.short (E:=E) (x:=p.service) hsv.1 hsv.2 hm2;have hK3:=c4.get (by simp) hK2;have B3:=B2.short c4;have hl3:=c4.1;obtain ⟨bs4,F4,s1,s2,s3,s4,s5⟩:=B3.app (by omega) (df _) (by simp only [gK]; omega) (src:=.row b3 0 (aQ p.service).length none 1) (λlo=>c2.rc lo);have hK4:=s3.get (λe=>by have:=(B3.blk e).1; omega) hK3;have B4:=s2.le (show 1<=bs3.length by omega);obtain ⟨bs5,F5,u1,u2,u3,u4,u5⟩:=(B4.lay [.cells [.d (.int .u8 (wrap .u8 p.deny)),.d (.int .u8 (wrap .u8 (p.rules.l.length:Int)))]]).app (by simp) (xs:=[wrap .u8 p.deny,wrap .u8 (p.rules.l.length:Int)]) (by simp) (by simp only [gK,cg,ch]; omega) (src:=.row bs4.length 0 2 (some 2) 1) (λlo=>TI lo);have hK5:=u3.get (λe=>by have:=(B4.blk e).1; omega) (av (ys:=[.cells [.d (.int .u8 (wrap .u8 p.deny)),.d (.int .u8 (wrap .u8 (p.rules.l.length:Int)))]]) hK4);have hl5:bs5.length=bs4.length+2:=by rw [u4]; simp
 have B5:=u2.le (show 1<=_ by simp);obtain ⟨bs6,lo6,v6,d1,_,_,B6,_⟩:=am2 (E:=E) p hp bs5 (F5 (F4 (min (F2 (G1 0)) k3))) _ _ hK5 (by omega) B5 (by simp only [gK,cg,ch]; omega);have eT:aQ p.id++bG p.ns++aQ p.service++[wrap .u8 p.deny,wrap .u8 (p.rules.l.length:Int)]++p.rules.l.flatMap qD=AC p:=by simp [AC]
 rw [eT] at B6;have hne6:AC p≠[]:=by simp [AC,df]
 have hdat:=λlo=>B6.dat hne6 lo 7;have hnu6:=B6.nu;have hq1:=r1 (G1 0);have hq2:=s1 (min (F2 (G1 0)) k3);have hq3:=u1 (F4 (min (F2 (G1 0)) k3));simp at hq1 hq2 hq3 d1;rw [aU cn6 ck5];simp [af,Sg,ai,az,o1,hK1,o2,hq1];rw [if_pos (mf 1 [true,true,false,true,true,false,false,true] (by decide) ?_)]
 . simp [hK2,c1,hq2,hK4,aL,hq3];rw [aj];simp [d1,hnu6];obtain ⟨h1,_⟩ | ⟨_,b',_,rfl,_⟩:=B6
   . exact absurd h1 hne6
   . simp [hdat]
 . repeat' first
    | exact trivial
    | refine Cl1.t (by simp) ?_
    | refine Cl1.c ?_
    | refine Cl1.m ?_ ?_ ?_
    | refine ⟨i1,?_⟩
    | fail
   all_goals first
    | omega
    | (simp; try omega)
end
section
variable {E:Calls'}
theorem CS {xs:List Int}(hx:∀ x∈xs,0<=x/\x<2 ^ 64)(hne:xs≠[])(hxn:xs.length<2 ^ 62){bs:List Blk}{v:V}{acc:List Int}(hB:Bv 1 bs v acc)(hm:1<=bs.length)(hl:acc.length+(xs.flatMap aQ).length<=big)(cap:Option Nat) :
 ∃ b bs' k,(∀ lo,Sm E TX aP 131 [v,.row bs.length 0 xs.length cap 1] ⟨bs++[.cells (xs.map λn=>V.d (u64 n))],lo⟩=some (.row b 0 (acc++xs.flatMap aQ).length none 1,⟨bs',min lo k⟩)) ∧
  Bv 1 bs' (.row b 0 (acc++xs.flatMap aQ).length none 1) (acc++xs.flatMap aQ)/\bs.length<b/\1<=bs'.length/\Kx (gG v) bs bs':=by
 obtain ⟨b,bs',k,c1,c2,c3,c4,c5⟩:=UW (E:=E) hx hne hxn (hB.lay [.cells (xs.map λn=>V.d (u64 n))]) (by simp) (q:=bs.length) (cap:=cap) (by simp) (λe=>by have:=(hB.blk e).2; omega) hl;refine ⟨b,bs',k,c1,c2.le (by simp),by simp at c3; omega,by have:=c4.1; simp at this; omega,(Kx.lay _ bs _).trans c4 (.inl rfl)⟩
theorem jT {n:Int}:0<=wrap .u64 n/\wrap .u64 n<2 ^ 64:=by rw [wrap_u64]; omega
theorem MJ {n:Nat}(h:n<=big):0<=(n:Int)/\(n:Int)<2 ^ 64:=by have:big=2 ^ 30:=rfl; omega
theorem A99 (c:Cfg)(hc:c.wf big)(bs:List Blk)(lo:Nat)(v:V)(acc:List Int)(hK:ah bs 0=some (c.c.map .d))(hm:1<=bs.length)(hB:Bv 1 bs v acc)(hb:acc.length+(c.pods.l.flatMap mE).length<=big) :
 ∃ bs' lo' v',Cd E TX aP (.loop [1,3,4] yj) [(1,.ptr 0 0),(3,v),(4,.d (i64 ((0:Nat):Int)))] ⟨bs,lo⟩ =
  some (.exit 0,[(1,.ptr 0 0),(3,v')],⟨bs',lo'⟩)/\ah bs' 0=some (c.c.map .d)/\1<=bs'.length/\Bv 1 bs' v' (acc++c.pods.l.flatMap mE)/\(0<=lo->0<=lo'):=by
 have hok:=hc.ok (br _);refine eQ (E:=E) (keep:=[1,3,4]) (body:=yj) c.pods.l mE (λi v=>[(1,.ptr 0 0),(3,v),(4,.d (i64 i))]) (λv=>(.exit 0,[(1,.ptr 0 0),(3,v)])) 1
  (λbs' v'=>ah bs' 0=some (c.c.map .d)) (λi x hx hi bs1 lo v1 acc1 hK1 hm1 hB1 hb=>?_) (λbs lo v acc hK1 hB W=>?_) bs lo v acc hK hm hB hb
 . have hwf:=hc.2.2.2.2.1.2 x (cc hx);have hsx:=λh=>aA (z:=7) h hx (cells:=Pod.c) rfl;have hw:=ax hi hok.1.lt;have h0:((i:Int)<c.pods.l.length):=by omega
   simp only [mE,gK] at hb;have hn0:gG v1≠some 0:=λe=>by have:=(hB1.blk e).1; omega
   have hnL:gG v1≠some bs1.length:=λe=>by have:=(hB1.blk e).2; omega
   have hA:=hB1.lay [.cells (x.c.map .d)];have hKa:=av (ys:=[.cells (x.c.map .d)]) hK1;have hLa:ah (bs1++[.cells (x.c.map .d)]) bs1.length=some (x.c.map .d):=by simp
   obtain ⟨b2,bs2,k2,c1,B2,g2,m2,e2⟩:=CS (E:=E) (xs:=[x.uid]) (by simpa using sj hwf.1) (by simp) (by simp) hA (by simp) (by omega) (some 1);have hK2:=e2.get hn0 hKa;have hL2:=e2.get hnL hLa;have n20:gG (V.row b2 0 (acc1++[x.uid].flatMap aQ).length none 1)≠some 0:=λe=>by simp only [gG,be] at e; simp at g2; omega
   have n2L:gG (V.row b2 0 (acc1++[x.uid].flatMap aQ).length none 1)≠some bs1.length:=λe=>by simp only [gG,be] at e; simp at g2; omega
   have hne1:bG x.ns≠[]:=by simp [bG,df]
   have hne2:bG x.sa≠[]:=by simp [bG,df]
   have t1:=λh=>Dy (E:=E) x.ns (by omega) h;have t2:=λh=>Dy (E:=E) x.sa (by omega) h;have hl2:bs1.length<bs2.length:=by have:=e2.1; simp at this; omega
   obtain ⟨bs3,F3,r1,B3,e3,l3,_⟩:=B2.app m2 hne1 (by simp only [gK]; omega) (src:=.d (bytesD (bG x.ns))) (λlo=>jW _ _);have hK3:=e3.get n20 hK2;have hL3:=e3.get n2L hL2;have B3':=B3.le m2;obtain ⟨bs4,F4,s1,B4,e4,l4,_⟩:=B3'.app (by omega) hne2 (by simp only [gK]; omega) (src:=.d (bytesD (bG x.sa))) (λlo=>jW _ _);have hK4:=e4.get (λe=>by simp only [gG,be] at e; omega) hK3;have hL4:=e4.get (λe=>by simp only [gG,be] at e; omega) hL3;have B4':=B4.le (show 1<=bs3.length by omega);obtain ⟨b5,bs5,k5,d1,B5,g5,m5,e5⟩:=CS (E:=E) (xs:=[wrap .u64 x.host,wrap .u64 x.addr,wrap .u64 x.port,x.service]) (by
    intro y hy;simp only [List.mem_cons,List.not_mem_nil,or_false] at hy;obtain rfl | rfl | rfl | rfl:=hy
    . exact jT
    . exact jT
    . exact jT
    . exact sj hwf.2.2.2.2.2.2) (by simp) (by simp) B4' (by omega) (by simp only [gK]; omega) (some 4)
   have hK5:=e5.get (λe=>by simp only [gG,be] at e; omega) hK4;have eT:acc1++[x.uid].flatMap aQ++bG x.ns++bG x.sa++[wrap .u64 x.host,wrap .u64 x.addr,wrap .u64 x.port,x.service].flatMap aQ=acc1++mE x:=by simp [mE]
   rw [eT] at B5 d1;refine ⟨bs5,min (F4 (F3 (min (min lo bs1.length) k2))) k5,_,λW=>?_,hK5,m5,B5,λ_=>Nat.zero_le _⟩;have hnu:=hB1.nu;have hok1:=hB1.ok;have hq0:=c1 (min lo bs1.length);have hq1:=r1 (min (min lo bs1.length) k2);have hq2:=s1 (F3 (min (min lo bs1.length) k2));have hq3:=d1 (F4 (F3 (min (min lo bs1.length) k2)));simp at hq0 hq1 hq2 hq3;simp [yj,hK1,hKa,h0,hsx,hnu,hok1,aL,hq0,hL2,t1,hq1,hL3,t2,hq2,hL4,hq3,hw]
 . have hnu:=hB.nu;simp [yj,hK1,hnu]
theorem B99 (c:Cfg)(hc:c.wf big)(bs:List Blk)(lo:Nat)(v:V)(acc:List Int)(hK:ah bs 0=some (c.c.map .d))(hm:1<=bs.length)(hB:Bv 1 bs v acc)(hb:acc.length+(c.services.l.flatMap mK).length<=big) :
 ∃ bs' lo' v',Cd E TX aP (.loop [1,3,6] yl) [(1,.ptr 0 0),(3,v),(6,.d (i64 ((0:Nat):Int)))] ⟨bs,lo⟩ =
  some (.exit 2,[(1,.ptr 0 0),(3,v')],⟨bs',lo'⟩)/\ah bs' 0=some (c.c.map .d)/\1<=bs'.length/\Bv 1 bs' v' (acc++c.services.l.flatMap mK)/\(0<=lo->0<=lo'):=by
 have hok:=hc.ok (br _);refine eQ (E:=E) (keep:=[1,3,6]) (body:=yl) c.services.l mK (λi v=>[(1,.ptr 0 0),(3,v),(6,.d (i64 i))]) (λv=>(.exit 2,[(1,.ptr 0 0),(3,v)])) 1
  (λbs' v'=>ah bs' 0=some (c.c.map .d)) (λi x hx hi bs1 lo v1 acc1 hK1 hm1 hB1 hb=>?_) (λbs lo v acc hK1 hB W=>?_) bs lo v acc hK hm hB hb
 . have hwf:=hc.2.2.2.2.2.1.2 x (cc hx);have hsx:=λh=>aA (z:=5) h hx (cells:=Svc.c) rfl;have hw:=ax hi hok.2.1.lt;have h0:((i:Int)<c.services.l.length):=by omega
   simp only [mK,gK] at hb;have hn0:gG v1≠some 0:=λe=>by have:=(hB1.blk e).1; omega
   have hnL:gG v1≠some bs1.length:=λe=>by have:=(hB1.blk e).2; omega
   have hA:=hB1.lay [.cells (x.c.map .d)];have hKa:=av (ys:=[.cells (x.c.map .d)]) hK1;have hLa:ah (bs1++[.cells (x.c.map .d)]) bs1.length=some (x.c.map .d):=by simp
   obtain ⟨b2,bs2,k2,c1,B2,g2,m2,e2⟩:=CS (E:=E) (xs:=[x.id]) (by simpa using sj hwf.1) (by simp) (by simp) hA (by simp) (by omega) (some 1);have hK2:=e2.get hn0 hKa;have hL2:=e2.get hnL hLa;have n20:gG (V.row b2 0 (acc1++[x.id].flatMap aQ).length none 1)≠some 0:=λe=>by simp only [gG,be] at e; simp at g2; omega
   have n2L:gG (V.row b2 0 (acc1++[x.id].flatMap aQ).length none 1)≠some bs1.length:=λe=>by simp only [gG,be] at e; simp at g2; omega
   have hne1:bG x.ns≠[]:=by simp [bG,df]
   have t1:=λh=>Dy (E:=E) x.ns (by omega) h;have hl2:bs1.length<bs2.length:=by have:=e2.1; simp at this; omega
   obtain ⟨bs3,F3,r1,B3,e3,l3,_⟩:=B2.app m2 hne1 (by simp only [gK]; omega) (src:=.d (bytesD (bG x.ns))) (λlo=>jW _ _);have hK3:=e3.get n20 hK2;have hL3:=e3.get n2L hL2;have B3':=B3.le m2;obtain ⟨b5,bs5,k5,d1,B5,g5,m5,e5⟩:=CS (E:=E) (xs:=[wrap .u64 x.addr,wrap .u64 x.port,x.way]) (by
    intro y hy;simp only [List.mem_cons,List.not_mem_nil,or_false] at hy;obtain rfl | rfl | rfl:=hy
    . exact jT
    . exact jT
    . exact sj hwf.2.2.2.2) (by simp) (by simp) B3' (by omega) (by simp only [gK]; omega) (some 3)
   have hK5:=e5.get (λe=>by simp only [gG,be] at e; omega) hK3;have eT:acc1++[x.id].flatMap aQ++bG x.ns++[wrap .u64 x.addr,wrap .u64 x.port,x.way].flatMap aQ=acc1++mK x:=by simp [mK]
   rw [eT] at B5 d1;refine ⟨bs5,min (F3 (min (min lo bs1.length) k2)) k5,_,λW=>?_,hK5,m5,B5,λ_=>Nat.zero_le _⟩;have hnu:=hB1.nu;have hok1:=hB1.ok;have hq0:=c1 (min lo bs1.length);have hq1:=r1 (min (min lo bs1.length) k2);have hq3:=d1 (F3 (min (min lo bs1.length) k2));simp at hq0 hq1 hq3;simp [yl,hK1,hKa,h0,hsx,hnu,hok1,aL,hq0,hL2,t1,hq1,hL3,hq3,hw]
 . have hnu:=hB.nu;simp [yl,hK1,hnu]
theorem C99 (c:Cfg)(hc:c.wf big)(bs:List Blk)(lo:Nat)(v:V)(acc:List Int)(hK:ah bs 0=some (c.c.map .d))(hm:1<=bs.length)(hB:Bv 1 bs v acc)(hb:acc.length+(c.bound.l.flatMap rJ).length<=big) :
 ∃ bs' lo' v',Cd E TX aP (.loop [1,3,8] ym) [(1,.ptr 0 0),(3,v),(8,.d (i64 ((0:Nat):Int)))] ⟨bs,lo⟩ =
  some (.exit 4,[(1,.ptr 0 0),(3,v')],⟨bs',lo'⟩)/\ah bs' 0=some (c.c.map .d)/\1<=bs'.length/\Bv 1 bs' v' (acc++c.bound.l.flatMap rJ)/\(0<=lo->0<=lo'):=by
 have hok:=hc.ok (br _);refine eQ (E:=E) (keep:=[1,3,8]) (body:=ym) c.bound.l rJ (λi v=>[(1,.ptr 0 0),(3,v),(8,.d (i64 i))]) (λv=>(.exit 4,[(1,.ptr 0 0),(3,v)])) 1
  (λbs' v'=>ah bs' 0=some (c.c.map .d)) (λi x hx hi bs1 lo v1 acc1 hK1 hm1 hB1 hb=>?_) (λbs lo v acc hK1 hB W=>?_) bs lo v acc hK hm hB hb
 . have hwf:=hc.2.2.2.2.2.2.1.2 x (cc hx);have hsx:=λh=>aA (z:=2) h hx (cells:=Way.c) rfl;have hw:=ax hi hok.2.2.1.lt;have h0:((i:Int)<c.bound.l.length):=by omega
   have hn0:gG v1≠some 0:=λe=>by have:=(hB1.blk e).1; omega
   obtain ⟨b2,bs2,t1,F1,o1,i1,B2,g2,e2,_⟩:=(UW (E:=E) (m:=1) (bs:=bs1++[.cells [.d (u64 x.id),.d (u64 (wrap .u64 x.node))]]) (xs:=[x.id,wrap .u64 x.node]) (by
    intro y hy;simp only [List.mem_cons,List.not_mem_nil,or_false] at hy;obtain rfl | rfl:=hy
    . exact sj hwf.1
    . exact jT) (by simp) (by simp) (hB1.lay _) (by simp) (q:=bs1.length) (cap:=some 2) (by simp) (λe=>by have:=(hB1.blk e).2; omega) hb).open (by simp)
   have hK2:=e2.get hn0 (av (ys:=[.cells [.d (u64 x.id),.d (u64 (wrap .u64 x.node))]]) hK1);have hl2:=e2.1;refine ⟨bs2,F1 lo,_,λW=>?_,hK2,by simp at hl2; omega,B2.le (by simp),λ_=>Nat.zero_le _⟩;have hnu:=hB1.nu;have hok1:=hB1.ok;simp [ym,hK1,h0,hsx,hnu,hok1,ai,az,aL,o1];rw [if_pos (mf 1 [true,true,true,true,true,true,true,true,true,true,true,true,true,true,false,false,true] (by decide) ?_)]
   . simp [hw,rJ]
   . repeat' first
      | exact trivial
      | refine Cl1.t (by simp) ?_
      | refine Cl1.m ?_ ?_ ?_
      | refine ⟨i1,?_⟩
      | fail
     all_goals first
      | omega
      | (simp; try omega)
 . have hnu:=hB.nu;simp [ym,hK1,hnu]
theorem zQ:∀ n,n<128->aQ (n:Nat)=[wrap .u8 (n:Nat)]:=by decide +kernel
theorem kK {α:Type}{f g:α->List Int}:∀ {l:List α},(∀ x∈l,f x=g x)->l.flatMap f=l.flatMap g
 | [],_=>rfl
 | x::l,h=>by rw [List.flatMap_cons,List.flatMap_cons,h x (by simp),kK (l:=l) λy hy=>h y (List.mem_cons_of_mem _ hy)]
theorem EI {s:Source}(h:bZ s=true):jL s=gI s:=by
 simp only [bZ,kD,aE,bw] at h;have:=zQ s.nets.l.length (by omega);simp [jL,gI,jh,seqB,this]
theorem EX {t:Target}(h:aS t=true):jM t=gJ t:=by
 simp only [aS,aE,bw] at h;have:=zQ t.ports.l.length (by omega);simp [jM,gJ,jh,seqB,this]
theorem LD (w:When):qH w=lQ w:=by simp [qH,lQ,jh]
theorem KU {r:Rule}(h:fe r=true):qD r=kV r:=by
 simp only [fe,aE,bw,cj] at h;obtain ⟨⟨⟨h1,h2⟩,h3,h4⟩,h5,h6⟩:=h;have a1:=zQ r.frm.l.length (by omega);have a2:=zQ r.to.l.length (by omega);have a3:=zQ r.whn.l.length (by omega);rw [qD,kV,seqB,seqB,seqB,a1,a2,a3,kK λx hx=>EI (h2 x hx),kK λx hx=>EX (h4 x hx),kK λx _=>LD x];rfl
theorem M9 {p:Pol}(h:fB p=true):AC p=lZ p:=by
 simp only [fB,aE,Bool.or_eq_true,bw,cj,beq_iff_eq] at h;obtain ⟨⟨_,hd⟩,h1,h2⟩:=h;have a1:=zQ p.rules.l.length (by omega);have a2:aQ (wrap .u64 p.deny)=[wrap .u8 p.deny]:=by
  obtain hd | hd:=hd<;>rw [hd]<;>decide +kernel
 rw [AC,lZ,seqB,a1,kK λx hx=>KU (h2 x hx)];simp [a2]
def En (c:Cfg):Prop:=∀ p∈c.policies.l,fB p=true
theorem D99 (c:Cfg)(hc:c.wf big)(hpm:En c)(bs:List Blk)(lo:Nat)(v:V)(acc:List Int)(hK:ah bs 0=some (c.c.map .d))(hm:1<=bs.length)(hB:Bv 1 bs v acc)(hb:acc.length+(c.policies.l.flatMap gH).length<=big) :
 ∃ bs' lo' v',Cd E TX aP (.loop [1,3,9] yn) [(1,.ptr 0 0),(3,v),(9,.d (i64 ((0:Nat):Int)))] ⟨bs,lo⟩ =
  some (.exit 6,[(3,v')],⟨bs',lo'⟩)/\ah bs' 0=some (c.c.map .d)/\1<=bs'.length/\Bv 1 bs' v' (acc++c.policies.l.flatMap gH)/\(0<=lo->0<=lo'):=by
 have hok:=hc.ok (br _);refine eQ (E:=E) (keep:=[1,3,9]) (body:=yn) c.policies.l gH (λi v=>[(1,.ptr 0 0),(3,v),(9,.d (i64 i))]) (λv=>(.exit 6,[(3,v)])) 1
  (λbs' v'=>ah bs' 0=some (c.c.map .d)) (λi x hx hi bs1 lo v1 acc1 hK1 hm1 hB1 hb=>?_) (λbs lo v acc hK1 hB W=>?_) bs lo v acc hK hm hB hb
 . have hmem:=cc hx;have hwf:=hc.2.2.2.2.2.2.2.2 x hmem;have hsx:=λh=>aA (z:=5) h hx (cells:=Pol.c) rfl;have hw:=ax hi hok.2.2.2.1.lt;have h0:((i:Int)<c.policies.l.length):=by omega
   have hpx:=M9 (hpm x hmem);have hple:=wD (hpm x hmem);have hbig:big=2 ^ 30:=rfl;have p1:=λh=>ao6 (E:=E) x hwf (by rw [hpx]; omega) h;rw [hpx] at p1;have t1:=λh=>Dy (E:=E) (strOf (lZ x)) (by have:gH x=bG (strOf (lZ x)):=rfl; rw [← this]; omega) h;have hne:gH x≠[]:=by simp [gH,bG,df]
   obtain ⟨bs2,F1,r1,B2,e2,l2,_⟩:=hB1.app hm1 hne hb (src:=.d (bytesD (gH x))) (λlo=>jW _ _);have hK2:=e2.get (λe=>by have:=(hB1.blk e).1; omega) hK1;refine ⟨bs2,F1 lo,_,λW=>?_,hK2,by omega,B2.le hm1,λ_=>Nat.zero_le _⟩;have hnu:=hB1.nu;have hq:=r1 lo;have ht:bytesD (bG (strOf (lZ x)))=bytesD (gH x):=rfl;simp at hq;simp [yn,hK1,h0,hsx,hnu,p1,BQ,t1,ht,hq,hw]
 . have hnu:=hB.nu;simp [yn,hK1,hnu]
theorem x99:TX 93=some q99:=by kernel_rfl
theorem w99:aP 93=true:=by kernel_rfl
theorem S99 (c:Cfg)(hc:c.wf big)(hpm:En c)(hlen:(dM c).length<=big)(h:Hp):Sm E TX aP 93 [c.v] h=some (.d (bytesD (dM c)),h):=by
 have hok:=hc.ok (br _);have hE:dM c=[c.epoch,c.next,wrap .u64 c.hosts,wrap .u64 c.ways,(c.pods.l.length:Int)].flatMap aQ++(c.pods.l.flatMap mE++([(c.services.l.length:Int)].flatMap aQ++(c.services.l.flatMap mK++([(c.bound.l.length:Int)].flatMap aQ++(c.bound.l.flatMap rJ++([(c.policies.l.length:Int)].flatMap aQ++c.policies.l.flatMap gH)))))):=rfl;rw [hE] at hlen;simp only [gK] at hlen;have hw1:wrap .u64 (c.pods.l.length:Int)=c.pods.l.length:=wrapN hok.1.1;have hw2:wrap .u64 (c.services.l.length:Int)=c.services.l.length:=wrapN hok.2.1.1;have hw3:wrap .u64 (c.bound.l.length:Int)=c.bound.l.length:=wrapN hok.2.2.1.1;have hw4:wrap .u64 (c.policies.l.length:Int)=c.policies.l.length:=wrapN hok.2.2.2.1.1;have hK0:ah [Blk.cells (c.c.map .d)] 0=some (c.c.map .d):=by simp
 obtain ⟨b1,bs1,k1,c1,B1,g1,m1,e1⟩:=CS (E:=E) (xs:=[c.epoch,c.next,wrap .u64 c.hosts,wrap .u64 c.ways,(c.pods.l.length:Int)]) (by
  intro y hy;simp only [List.mem_cons,List.not_mem_nil,or_false] at hy;obtain rfl | rfl | rfl | rfl | rfl:=hy
  . exact sj hc.1
  . exact sj hc.2.1
  . exact jT
  . exact jT
  . exact MJ hok.1.1) (by simp) (by simp) (bs:=[Blk.cells (c.c.map .d)]) (v:=.d (.slice true [])) (acc:=[]) (.inl ⟨rfl,rfl⟩) (by simp) (by simp only [ch]; omega) (some 5)
 have hK1:=e1.get (by simp [gG]) hK0;obtain ⟨bs2,lo2,v2,d2,hK2,m2,B2,_⟩:=A99 (E:=E) c hc bs1 (min 0 k1) _ _ hK1 m1 B1 (by simp only [gK,ch]; omega);obtain ⟨b3,bs3,k3,c3,B3,g3,m3,e3⟩:=CS (E:=E) (xs:=[(c.services.l.length:Int)]) (by simpa using MJ hok.2.1.1) (by simp) (by simp) B2 m2 (by simp only [gK,ch]; omega) (some 1);have hK3:=e3.get (λe=>by have:=(B2.blk e).1; omega) hK2;obtain ⟨bs4,lo4,v4,d4,hK4,m4,B4,_⟩:=B99 (E:=E) c hc bs3 (min lo2 k3) _ _ hK3 m3 B3 (by simp only [gK,ch]; omega);obtain ⟨b5,bs5,k5,c5,B5,g5,m5,e5⟩:=CS (E:=E) (xs:=[(c.bound.l.length:Int)]) (by simpa using MJ hok.2.2.1.1) (by simp) (by simp) B4 m4 (by simp only [gK,ch]; omega) (some 1);have hK5:=e5.get (λe=>by have:=(B4.blk e).1; omega) hK4;obtain ⟨bs6,lo6,v6,d6,hK6,m6,B6,_⟩:=C99 (E:=E) c hc bs5 (min lo4 k5) _ _ hK5 m5 B5 (by simp only [gK,ch]; omega);obtain ⟨b7,bs7,k7,c7,B7,g7,m7,e7⟩:=CS (E:=E) (xs:=[(c.policies.l.length:Int)]) (by simpa using MJ hok.2.2.2.1.1) (by simp) (by simp) B6 m6 (by simp only [gK,ch]; omega) (some 1);have hK7:=e7.get (λe=>by have:=(B6.blk e).1; omega) hK6;obtain ⟨bs8,lo8,v8,d8,hK8,m8,B8,_⟩:=D99 (E:=E) c hc hpm bs7 (min lo6 k7) _ _ hK7 m7 B7 (by simp only [gK,ch]; omega)
 have eT:[]++[c.epoch,c.next,wrap .u64 c.hosts,wrap .u64 c.ways,(c.pods.l.length:Int)].flatMap aQ++c.pods.l.flatMap mE++[(c.services.l.length:Int)].flatMap aQ++c.services.l.flatMap mK++[(c.bound.l.length:Int)].flatMap aQ++c.bound.l.flatMap rJ++[(c.policies.l.length:Int)].flatMap aQ++c.policies.l.flatMap gH=dM c:=by rw [hE]; simp only [List.nil_append,List.append_assoc]
 rw [eT] at B8;have hne8:dM c≠[]:=by rw [hE]; simp [df]
 have hdat:=λlo=>B8.dat hne8 lo 7;have hnu8:=B8.nu;have n2:=B2.nu;have n4:=B4.nu;have n6:=B6.nu;have o2:=B2.ok;have o4:=B4.ok;have o6:=B6.ok;have hq1:=c1 0;have hq3:=c3 lo2;have hq5:=c5 lo4;have hq7:=c7 lo6;rw [aU x99 w99];simp at hq1 hq3 hq5 hq7 d2 d4 d6 d8;simp [af,q99,hw1,aL,hq1];rw [aj];simp [d2,n2,o2,hK2,hw2,aL,hq3];rw [aj];simp [d4,n4,o4,hK4,hw3,aL,hq5];rw [aj];simp [d6,n6,o6,hK6,hw4,aL,hq7];rw [aj];simp [d8,hnu8];obtain ⟨h1,_⟩ | ⟨_,b',_,rfl,_⟩:=B8
 . exact absurd h1 hne8
 . simp [hdat]
theorem x95:TX 46=some q95:=by kernel_rfl
theorem w95:aP 46=true:=by kernel_rfl
theorem S95 (c:Cfg)(hc:c.wf 1048576)(hcb:c.wf big)(hE:FindX E c)(h:Hp):Sm E TX aP 46 [c.v] h=some (bl (bX c),h):=by
 have n1:=λh=>S97 (E:=E) c h;have n2:=λh=>S98 c hc hcb hE h;rw [aU x95 w95,bX];cases h1:kg c with
 | false=>simp [af,q95,n1,h1]
 | true =>
  cases h2:oU c with
  | false=>simp [af,q95,n1,h1,n2,h2]
  | true =>
   have hle:=za h1 h2;have hbig:big=2 ^ 30:=rfl;have hpm:En c:=j6 (by simp only [oU,aE] at h2; exact h2.2);have n3:=λh=>S99 (E:=E) c hcb hpm (by omega) h;simp [af,q95,n1,h1,n2,h2,n3,bytesD]
end
section
def Cfg.nf (c:Cfg):Cfg:=⟨c.epoch,c.next,c.hosts,c.ways,c.pods.nf id,c.services.nf id,c.bound.nf id,c.policies.nf Pol.nf⟩
theorem Cfg.same_iff {a b:Cfg}:a.same b=true↔a.nf=b.nf:=by
 simp only [Cfg.same,aE,beq_iff_eq,gm (g:=id) (λx y=>Pod.eqB_iff (x:=x) (y:=y)),gm (g:=id) (λx y=>Svc.eqB_iff (x:=x) (y:=y)),gm (g:=id) (λx y=>Way.eqB_iff (x:=x) (y:=y)),gm (λx y=>Pol.same_iff (a:=x) (b:=y)),Cfg.nf,Cfg.mk.injEq,Sl.nf_iff,and_assoc]
theorem zf (c:Cfg):dM c.nf=dM c:=by
 have h:(c.policies.l.map Pol.nf).flatMap gH=c.policies.l.flatMap gH:=by
  rw [List.flatMap_map]; exact rX λp _=>Kh p
 simp only [dM,Cfg.nf,Sl.nf,List.map_id,b9,h]
theorem BJ {c d:Cfg}(h:c.nf=d.nf):dM c=dM d:=by rw [← zf c,← zf d,h]
end
section
def Hng (w:Bool)(K:Nat->Prop)(bs:List Blk)(v:V)(d:D)(k:Nat):Prop:=∀ bs' lo,(∀ x,K x->bs'[x]?=bs[x]?)->∀ j,k<=j->dataV ⟨bs',lo⟩ j v=some d/\(w=true->mZ ⟨bs',lo⟩ j v=true)
variable {w:Bool}
theorem Hng.d {K:Nat->Prop}{bs:List Blk}{d:D}{k:Nat}(h:∀ nl c cs,d≠.slice nl (c::cs)):Hng w K bs (.d d) d k:=λbs' lo _ j _=>by
 refine ⟨by cases j<;>rfl,λ_=>?_⟩;cases d with
 | slice nl es =>
  cases es with
  | nil=>cases j<;>rfl
  | cons c cs=>exact absurd rfl (h nl c cs)
 | _=>cases j<;>rfl
theorem Hng.on {K K':Nat->Prop}{bs bs':List Blk}{v:V}{d:D}{k:Nat}(h:Hng w K bs v d k)(hb:∀ x,K x->bs'[x]?=bs[x]?)(hK:∀ x,K x->K' x):Hng w K' bs' v d k :=
 λbs2 lo h2 j hj=>h bs2 lo (λx hx=>(h2 x (hK x hx)).trans (hb x hx)) j hj
def Hngs (w:Bool)(K:Nat->Prop)(bs:List Blk)(k:Nat):List V->List D->Prop
 | [],[]=>True
 | v::vs,d::ds=>Hng w K bs v d k/\Hngs w K bs k vs ds
 | _,_=>False
theorem Hngs.on {K K':Nat->Prop}{bs bs':List Blk}{k:Nat}(hb:∀ x,K x->bs'[x]?=bs[x]?)(hK:∀ x,K x->K' x):∀ {vs:List V} {ds:List D},Hngs w K bs k vs ds->Hngs w K' bs' k vs ds
 | [],[],_=>trivial
 | _::_,_::_,h=>⟨h.1.on hb hK,Hngs.on hb hK h.2⟩
 | [],_::_,h=>h.elim
 | _::_,[],h=>h.elim
theorem Hngs.app {K:Nat->Prop}{bs:List Blk}{k:Nat}:∀ {vs ws:List V} {ds es:List D},Hngs w K bs k vs ds->Hngs w K bs k ws es->Hngs w K bs k (vs++ws) (ds++es)
 | [],_,[],_,_,h=>h
 | _::_,_,_::_,_,h,h'=>⟨h.1,Hngs.app h.2 h'⟩
 | [],_,_::_,_,h,_=>h.elim
 | _::_,_,[],_,h,_=>h.elim
theorem Hngs.len {K:Nat->Prop}{bs:List Blk}{k:Nat}:∀ {vs:List V} {ds:List D},Hngs w K bs k vs ds->vs.length=ds.length
 | [],[],_=>rfl
 | _::_,_::_,h=>by simp [Hngs.len h.2]
 | [],_::_,h=>h.elim
 | _::_,[],h=>h.elim
theorem Hngs.mapM {K:Nat->Prop}{bs:List Blk}{k:Nat}{bs':List Blk}{lo:Nat}(hb:∀ x,K x->bs'[x]?=bs[x]?){j:Nat}(hj:k<=j):∀ {vs:List V} {ds:List D},Hngs w K bs k vs ds->vs.mapM (dataV ⟨bs',lo⟩ j)=some ds/\(w=true->vs.all (mZ ⟨bs',lo⟩ j)=true)
 | [],[],_=>⟨rfl,λ_=>rfl⟩
 | v::vs,d::ds,h=>by
  obtain ⟨a1,a2⟩:=h.1 bs' lo hb j hj;obtain ⟨b1,b2⟩:=Hngs.mapM (lo:=lo) hb hj h.2;refine ⟨?_,λhw=>by simp [a2 hw,b2 hw]⟩;rw [List.mapM_cons,a1,b1];rfl
 | [],_::_,h=>h.elim
 | _::_,[],h=>h.elim
theorem mP {z:Nat}:∀ (es:List (List D)),(∀ e∈es,e.length=z)->dataV.chunks z es.flatten es.length=es
 | [],_=>rfl
 | e::es,h=>by
  have he:e.length=z:=h e (by simp);simp only [List.flatten_cons,cg,dataV.chunks];rw [List.take_left' he,List.drop_left' he,mP es λx hx=>h x (by simp [hx])]
theorem Hng.row {K:Nat->Prop}{bs:List Blk}{k b n z:Nat}{cap:Option Nat}{cs:List V}{es:List (List D)}(hKb:K b)(hb:ah bs b=some cs)(hcs:Hngs w K bs k cs es.flatten)(hz:∀ e∈es,e.length=z)(hn:n=es.length) :
 Hng w K bs (.row b 0 n cap z) (.slice false es) (k+1):=by
 intro bs' lo h j hj;cases j with
 | zero=>omega
 | succ j =>
  have hg:Hp.get ⟨bs',lo⟩ b=some cs:=by
   unfold ah at hb;simp only [Hp.get,h b hKb];split at hb
   . rename_i hb2; rw [hb2]; simpa using hb
   . cases hb
  obtain ⟨m1,m2⟩:=Hngs.mapM (lo:=lo) h (show k<=j by omega) hcs;have hlen:cs.length=n * z:=by
   rw [hcs.len,hn,List.length_flatten];have:es.map List.length=List.replicate es.length z:=by
    rw [List.eq_replicate_iff];exact ⟨by simp,λx hx=>by obtain ⟨e,he,rfl⟩:=cb.1 hx; exact hz e he⟩
   rw [this]; simp
  have hs:sub cs 0 (n * z)=some cs:=by
   unfold sub;rw [if_pos (by omega)];simp [← hlen]
  refine ⟨?_,?_⟩
  . simp only [dataV,hg,hs,m1];rw [hn,mP es hz]
  . intro hw;simp only [mZ,hg];exact m2 hw
theorem Hng.data {K:Nat->Prop}{bs:List Blk}{d:D}{k:Nat}:Hng false K bs (.d d) d k:=λbs' lo _ j _=>⟨by cases j<;>rfl,λh=>by cases h⟩
theorem Hng.weak {K:Nat->Prop}{bs:List Blk}{v:V}{d:D}{k:Nat}(h:Hng true K bs v d k):Hng false K bs v d k:=λbs' lo hb j hj=>⟨(h bs' lo hb j hj).1,λh=>by cases h⟩
theorem Hngs.data {K:Nat->Prop}{bs:List Blk}{k:Nat}:∀ {ds:List D},Hngs false K bs k (ds.map .d) ds
 | []=>trivial
 | _::_=>⟨Hng.data,Hngs.data⟩
end
section
variable {w:Bool}
variable {w:Bool}
def KB (L:Nat)(bs:List Blk)(B:Nat):Nat->Prop:=λx=>L<=x/\x<bs.length/\x≠B
def KL (L:Nat)(bs:List Blk):Nat->Prop:=λx=>L<=x/\x<bs.length
def AccV (w:Bool)(L z k n:Nat)(ds:List D)(bs:List Blk)(v:V):Prop:=(n=0/\ds=[]/\v=.d (.slice true []))\/(0<n/\∃ B cs,L<=B/\v=.row B 0 n none z/\ah bs B=some cs/\cs.length=n * z/\Hngs w (KB L bs B) bs k cs ds)
theorem AccV.nil (L z k:Nat)(bs:List Blk):AccV w L z k 0 [] bs (.d (.slice true [])):=.inl ⟨rfl,rfl,rfl⟩
theorem AccV.nu {L z k n:Nat}{ds:List D}{bs:List Blk}{v:V}(h:AccV w L z k n ds bs v):nu v=some v:=by
 obtain ⟨_,_,rfl⟩ | ⟨_,B,cs,_,rfl,_⟩:=h<;>rfl
theorem AccV.on {L z k n:Nat}{ds:List D}{bs bs':List Blk}{v:V}(h:AccV w L z k n ds bs v)(hl:bs.length<=bs'.length)(ho:∀ x,L<=x->x<bs.length->bs'[x]?=bs[x]?):AccV w L z k n ds bs' v:=by
 obtain h | ⟨h0,B,cs,h1,h2,h3,h4,h5⟩:=h
 . exact .inl h
 . refine .inr ⟨h0,B,cs,h1,h2,?_,h4,h5.on (λx hx=>ho x hx.1 hx.2.1) λx hx=>⟨hx.1,by have:=hx.2.1; omega,hx.2.2⟩⟩;rw [← h3]; unfold ah; rw [ho B h1 (aK h3)]
theorem AccV.app {L L2 z k n:Nat}{ds es:List D}{bs:List Blk}{v:V}(h:AccV w L z k n ds bs v)(hz0:0<z){by_:Nat}(hby:by_<=4096)(hl:n<big){r:Nat}{cap:Option Nat}{vs:List V}(hvl:vs.length=z)(hr:ah bs r=some vs)
 (hL:L<=L2) (hB:∀ B n' c,v=.row B 0 n' c z->B<L2) (hv:Hngs w (KL L2 bs) bs k vs es) (hLb:L<=bs.length) :
 ∃ v' bs',∃ F:Nat->Nat,(∀ lo,d9 ⟨bs,lo⟩ z by_ v (.row r 0 1 cap z)=some (v',⟨bs',F lo⟩))/\AccV w L z k (n+1) (ds++es) bs' v'/\bs.length<=bs'.length/\(∀ x,x<L->bs'[x]?=bs[x]?)/\∀ lo:Nat,F lo<=lo:=by
 have hrc:∀ lo,aH ⟨bs,lo⟩ (.row r 0 1 cap z) z=some (1,vs):=λlo=>by
  have:sub vs 0 z=some vs:=bN hvl;simp only [aH,if_true,get_eq,hr,Nat.one_mul,this,Option.map_some]
 have hroom:∀ n,n<=big->roomy n by_=true:=λn hn=>by simp only [roomy,aE,bw]; exact ⟨hn,hby⟩
 obtain ⟨rfl,rfl,rfl⟩ | ⟨h0,B,cs,h1,rfl,h3,h4,h5⟩:=h
 . refine ⟨.row bs.length 0 1 none z,bs++[.cells vs],id,λlo=>by simp only [d9,hrc,aI,if_neg (show ¬ (1=0) by decide),if_neg (show ¬ z=0 by omega),hroom 1 (by decide),if_true]; rfl,.inr ⟨by omega,bs.length,vs,hLb,rfl,by simp,by simpa using hvl,?_⟩,by simp,λx hx=>by rw [aq (by omega)],λlo=>br _⟩;exact hv.on (λx hx=>by rw [aq hx.2]) λx hx=>⟨by have:=hx.1; omega,by have:=hx.2; simp; omega,by have:=hx.2; omega⟩
 . have hsub:sub cs 0 (n * z)=some cs:=bN h4;have hpos:0<cs.length:=by rw [h4]; exact Nat.mul_pos h0 hz0
   have hbl:=aK h3;have hBL:=hB B n none rfl;refine ⟨.row bs.length 0 (n+1) none z,bs.set B (.cells [])++[.cells (cs++vs)],λlo=>min lo B,λlo=>by simp only [d9,hrc,aI,ne_eq,not_true_eq_false,false_or,if_neg (show ¬ (1=0) by decide),if_neg (show ¬ z=0 by omega),get_eq,h3,hsub,hroom (n+1) (by omega),Bool.not_true,bo,if_false,hpos,and_self,if_true,Hp.size,Hp.alloc,Hp.set,List.length_set],.inr ⟨by omega,bs.length,cs++vs,hLb,rfl,?_,by rw [aw,h4,hvl,Nat.succ_mul],?_⟩,by simp,λx hx=>?_,λlo=>Nat.min_le_left _ _⟩
   . have:ah (bs.set B (.cells [])++[.cells (cs++vs)]) (bs.set B (.cells [])).length=some (cs++vs):=by rw [dU]; rfl
     rw [List.length_set] at this;exact this
   . have ho:∀ x,x<bs.length->x≠B->(bs.set B (.cells [])++[.cells (cs++vs)])[x]?=bs[x]?:=λx hx hne=>by
      rw [aq (by simpa using hx),am (Ne.symm hne)]
     refine (h5.on (λx hx=>ho x hx.2.1 hx.2.2) λx hx=>⟨hx.1,by have:=hx.2.1; simp; omega,by have:=hx.2.1; omega⟩).app (hv.on (λx hx=>ho x hx.2 (by have:=hx.1; omega)) λx hx=>⟨by have:=hx.1; omega,by have:=hx.2; simp; omega,by have:=hx.2; omega⟩)
   . rw [aq (by simp; omega),am (by omega)]
theorem AccV.hng {L z k n:Nat}{bs:List Blk}{v:V}{es:List (List D)}(h:AccV w L z k n es.flatten bs v)(hz:∀ e∈es,e.length=z)(hn:n=es.length):Hng w (KL L bs) bs v (.slice es.isEmpty es) (k+1):=by
 obtain ⟨h0,h1,rfl⟩ | ⟨h0,B,cs,h1,rfl,h3,h4,h5⟩:=h
 . have:es=[]:=List.eq_nil_of_length_eq_zero (by omega);subst this;exact Hng.d λnl c cs hh=>by simp at hh
 . have he:es.isEmpty=false:=by cases es with
    | nil=>simp at hn; omega
    | cons _ _=>rfl
   rw [he];exact Hng.row ⟨h1,aK h3⟩ h3 (h5.on (λ_ _=>rfl) λx hx=>⟨hx.1,hx.2.1⟩) hz hn
theorem cpy {α:Type}{cells:α->List D}{z by_:Nat}(hz:∀ x,(cells x).length=z)(hz0:0<z)(hby:by_<=4096){s:Sl α}(hs:short s)(bs:List Blk):∃ v ys,(∀ lo,d9 ⟨bs++[.cells []],lo⟩ z by_ (.row bs.length 0 0 (some 0) z) (.d (s.d cells))=some (v,⟨bs++([.cells []]++ys),lo⟩))/\v.cells=some [v]/\nu v=some v/\Hng false (KL bs.length (bs++([.cells []]++ys))) (bs++([.cells []]++ys)) v (.slice false (s.l.map cells)) 1:=by
 have hzz:z≠0:=by omega
 have hrc:∀ h,aH h (.d (s.d cells)) z=some (s.l.length,flat (s.l.map cells)):=λh=>by
  have hall:((s.l.map cells).all λe=>e.length==z)=true:=cj.2 λx hx=>by
   obtain ⟨y,_,rfl⟩:=cb.1 hx;simp [hz]
  simp only [aH,Sl.d,hall,if_true,flat,b9]
 by_cases h0:s.l.length=0
 . have hl:s.l=[]:=List.length_eq_zero_iff.1 h0;refine ⟨.row bs.length 0 0 (some 0) z,[],λlo=>?_,rfl,rfl,?_⟩
   . simp only [d9,hrc,aI,if_pos h0];simp [hzz]
   . rw [hl];exact Hng.row (cs:=[]) (es:=[]) (k:=0) ⟨br _,by simp⟩ (by simp) trivial (by simp) rfl
 . have hroom:roomy s.l.length by_=true:=by simp only [roomy,aE,bw]; exact ⟨hs.1,hby⟩
   refine ⟨.row (bs.length+1) 0 s.l.length none z,[.cells (flat (s.l.map cells))],λlo=>?_,rfl,rfl,?_⟩
   . simp only [d9,hrc,aI,if_neg h0];simp [hzz,hroom,h0]
   . refine Hng.row (cs:=flat (s.l.map cells)) (k:=0) ⟨by omega,by simp⟩ ?_ ?_ (λe he=>by obtain ⟨y,_,rfl⟩:=cb.1 he; exact hz y) (by simp)
     . have:=jS (bs:=bs) (ys:=[.cells [],.cells (flat (s.l.map cells))]) (i:=1);rw [show bs++([Blk.cells []]++[Blk.cells (flat (s.l.map cells))])=bs++[.cells [],.cells (flat (s.l.map cells))] from rfl,this];rfl
     . exact Hngs.data
end
section
variable {E:Calls'}
def ll {α:Type}(s:Sl α):Sl α:=⟨false,s.l⟩
def mr {α:Type}(l:List α):Sl α:=⟨l.isEmpty,l⟩
def Source.cp (s:Source):Source:=⟨ll s.names,ll s.spaces,ll s.nets⟩
def Target.cp (t:Target):Target:=⟨ll t.ports,ll t.methods,ll t.paths,ll t.hosts⟩
def When.cp (w:When):When:=⟨w.head,ll w.terms⟩
def Rule.cp (r:Rule):Rule:=⟨mr (r.frm.l.map Source.cp),mr (r.to.l.map Target.cp),mr (r.whn.l.map When.cp)⟩
structure K3 (r:Rule) (ws:List V) (L:Nat) (B0 bs:List Blk):Prop where
 r0:ah bs 0=some (r.c.map .d)
 a0:ah bs 1=some [.d (.slice true []),.d (.slice true []),.d (.slice true [])]
 x0:ah bs 2=some ws
 L3:3<=L
 len:L<=bs.length
 old:∀ x,x<L->x≠2->bs[x]?=B0[x]?
theorem AccV.cl {w:Bool}{L z k n:Nat}{ds:List D}{bs:List Blk}{v:V}(h:AccV w L z k n ds bs v):v.cells=some [v]:=by
 obtain ⟨_,_,rfl⟩ | ⟨_,B,cs,_,rfl,_⟩:=h<;>rfl
theorem AccV.blk {w:Bool}{L z k n:Nat}{ds:List D}{bs:List Blk}{v:V}(h:AccV w L z k n ds bs v):v.blk=[]\/∃ B,v.blk=[B]/\L<=B/\B<bs.length:=by
 obtain ⟨_,_,rfl⟩ | ⟨_,B,cs,h1,rfl,h3,_⟩:=h
 . exact .inl rfl
 . exact .inr ⟨B,rfl,h1,aK h3⟩
theorem Hng.ext {w:Bool}{L L' k:Nat}{bs:List Blk}{v:V}{d:D}(h:Hng w (KL L bs) bs v d k)(ys:List Blk)(hL:L'<=L):Hng w (KL L' (bs++ys)) (bs++ys) v d k :=
 h.on (λx hx=>aq hx.2) λx hx=>⟨cf hL hx.1,by have:=hx.2; simp; omega⟩
theorem UT (r:Rule)(hr:r.fits big)(vT vW:V)(L:Nat)(B0:List Blk):∀ (m i:Nat) (bs:List Blk) (lo:Nat) (v:V),i+m=r.frm.l.length->K3 r [v,vT,vW] L B0 bs->AccV false L 3 1 i ((r.frm.l.take i).map λs=>s.cp.c).flatten bs v →
 ∃ bs' lo' v',Cd E TX aP (.loop [1,2,3,4] uO) [(1,.ptr 0 0),(2,.ptr 1 0),(3,.ptr 2 0),(4,.d (i64 i))] ⟨bs,lo⟩=some (.exit 0,[(1,.ptr 0 0),(2,.ptr 1 0),(3,.ptr 2 0)],⟨bs',lo'⟩)/\K3 r [v',vT,vW] L B0 bs'/\AccV false L 3 1 r.frm.l.length (r.frm.l.map λs=>s.cp.c).flatten bs' v':=by
 intro m;have hlen:=hr.1.1.lt;have key:=ay (E:=E) (T:=TX) (val:=aP) [1,2,3,4] uO;generalize Cd E TX aP (.loop [1,2,3,4] uO)=W at key ⊢
 induction m with
 | zero =>
  intro i bs lo v hi hK hA;have:i=r.frm.l.length:=by omega
  subst this;rw [List.take_length] at hA;refine ⟨bs,lo,v,?_,hK,hA⟩;rw [key];simp [uO,hK.r0]
 | succ m ih =>
  intro i bs lo v hi hK hA;have hlt:i<r.frm.l.length:=by omega
  have hx:=ac hlt;have hmem:=bj hlt;have htk:r.frm.l.take (i+1)=r.frm.l.take i++[r.frm.l[i]]:=by rw [List.take_add_one,hx]; rfl
  generalize r.frm.l[i]=s at *;have hfs:=hr.1.2 s hmem;have hsx:=λh=>aA (z:=3) h hx (cells:=Source.c) rfl;have hw:=ax hlt hlen;have h0:((i:Int)<r.frm.l.length):=by omega
  have hnu:=hA.nu;have hL3:=hK.L3;have hk3:=hK.len;have hr1:=av (ys:=[.cells (s.c.map .d)]) hK.r0;obtain ⟨v1,y1,a1,b1,c1,d1⟩:=cpy (cells:=Term.c) (z:=2) (by_:=24) (λ_=>rfl) (by decide) (by decide) hfs.1 (bs++[.cells (s.c.map .d)]);obtain ⟨v2,y2,a2,b2,c2,d2⟩:=cpy (cells:=Term.c) (z:=2) (by_:=24) (λ_=>rfl) (by decide) (by decide) hfs.2.1 (bs++[.cells (s.c.map .d)]++([.cells []]++y1));obtain ⟨v3,y3,a3,b3,c3,d3⟩:=cpy (cells:=Cidr.c) (z:=2) (by_:=16) (λ_=>rfl) (by decide) (by decide) hfs.2.2 (bs++[.cells (s.c.map .d)]++([.cells []]++y1)++([.cells []]++y2));obtain ⟨H,hH⟩:∃ H,H=bs++Blk.cells (List.map V.d s.c)::Blk.cells []::(y1++Blk.cells []::(y2++Blk.cells []::(y3++[Blk.cells [v1,v2,v3]]))):=⟨_,rfl⟩;have g1:=d1.ext (L':=bs.length) (([.cells []]++y2)++([.cells []]++y3)++[.cells [v1,v2,v3]]) (by simp);have g2:=d2.ext (L':=bs.length) (([.cells []]++y3)++[.cells [v1,v2,v3]]) (by simp);have g3:=d3.ext (L':=bs.length) ([.cells [v1,v2,v3]]) (by simp);have G1:Hng false (KL bs.length H) H v1 (.slice false (s.names.l.map Term.c)) 1:=by rw [hH]; simpa using g1
  have G2:Hng false (KL bs.length H) H v2 (.slice false (s.spaces.l.map Term.c)) 1:=by rw [hH]; simpa using g2
  have G3:Hng false (KL bs.length H) H v3 (.slice false (s.nets.l.map Cidr.c)) 1:=by rw [hH]; simpa using g3
  have hvs:Hngs false (KL bs.length H) H 1 [v1,v2,v3] s.cp.c:=⟨G1,G2,G3,trivial⟩;have hHp:∀ x,x<bs.length->H[x]?=bs[x]?:=λx hx=>by rw [hH,aq hx]
  have hHl:bs.length<=H.length:=by rw [hH]; simp
  have hAH:=hA.on hHl λx _ hx=>hHp x hx;have hHr:ah H (bs.length+(y1.length+(y2.length+(y3.length+1)+1)+1+1))=some [v1,v2,v3]:=by
   rw [hH];have:=jS (bs:=bs) (ys:=Blk.cells (List.map V.d s.c)::Blk.cells []::(y1++Blk.cells []::(y2++Blk.cells []::(y3++[Blk.cells [v1,v2,v3]])))) (i:=y1.length+(y2.length+(y3.length+1)+1)+1+1);rw [this];have e:Blk.cells (List.map V.d s.c)::Blk.cells []::(y1++Blk.cells []::(y2++Blk.cells []::(y3++[Blk.cells [v1,v2,v3]])))=(Blk.cells (List.map V.d s.c)::Blk.cells []::(y1++Blk.cells []::(y2++Blk.cells []::y3)))++[Blk.cells [v1,v2,v3]]:=by simp
   unfold ah;rw [e,bm (by simp<;>omega)];have:y1.length+(y2.length+(y3.length+1)+1)+1+1-(Blk.cells (List.map V.d s.c)::Blk.cells []::(y1++Blk.cells []::(y2++Blk.cells []::y3))).length=0:=by simp<;>omega
   rw [this]; rfl
  have hlow:∀ B n' c,v=.row B 0 n' c 3->B<bs.length:=λB n' c hv=>by
   obtain ⟨_,_,rfl⟩ | ⟨_,B',cs,_,rfl,hb,_⟩:=hA
   . simp at hv
   . simp at hv; rw [← hv.1]; exact aK hb
  obtain ⟨v',bs',F,ha,hA',hL',hlo',hF⟩:=hAH.app (by decide) (by_:=72) (by decide) (cd hlt hr.1.1.1) (vs:=[v1,v2,v3]) rfl (cap:=some 1) hHr (L2:=bs.length) hk3 hlow hvs (by omega);have hb':∀ x,x<L->bs'[x]?=bs[x]?:=λx hx=>by rw [hlo' x hx,hHp x (by omega)]
  have hx2:ah bs' 2=some [v,vT,vW]:=by rw [← hK.x0]; unfold ah; rw [hb' 2 (by omega)]
  have hx2H:ah H 2=some [v,vT,vW]:=by rw [← hK.x0]; unfold ah; rw [hHp 2 (by omega)]
  obtain ⟨bs2,lo2,v2',r1,r2,r3⟩:=ih (i+1) (bs'.set 2 (.cells [v',vT,vW])) (min (F (min lo bs.length)) 2) v' (by omega)
   ⟨by rw [← hK.r0]; unfold ah; rw [am (by decide),hb' 0 (by omega)],by rw [← hK.a0]; unfold ah; rw [am (by decide),hb' 1 (by omega)],by
    have:=aK hx2;simp [ah,this],hL3,by simp; omega,λx h1 h2=>by rw [am (by omega),hb' x h1,hK.old x h1 h2]⟩
   (by
     rw [htk,List.map_append,List.flatten_append];simp only [cn,List.map_nil,List.flatten_cons,List.flatten_nil,List.append_nil];exact hA'.on (by simp) λx hx _=>am (by omega))
  refine ⟨bs2,lo2,v2',?_,r2,r3⟩
  . rw [key];have q1:=a1 (min lo bs.length);have q2:=a2 (min lo bs.length);have q3:=a3 (min lo bs.length);have ha':=ha (min lo bs.length);simp at q1 q2 q3;simp [uO,hK.r0,hr1,h0,hsx,hnu,ai,az,aL,hK.x0,av hK.x0,q1,q2,q3,b1,b2,b3,c1,c2,c3,← hH,ha',hx2,hx2H,hA'.cl];rw [if_pos]
    . simp [hw];exact r1
    . have hHn:H.length=bs.length+(y1.length+(y2.length+(y3.length+1)+1)+1+1)+1:=by rw [hH]; simp<;>omega
      have hne:¬ bs=[]:=λh=>by rw [h] at hk3; simp at hk3; omega
      obtain hb | ⟨B,hb,hB,hBl⟩:=hA.blk<;>rw [hb]
      . simp [bz,List.range,List.range.loop,Tr.spares,hne];omega
      . simp [bz,List.range,List.range.loop,Tr.spares,hne];omega
theorem UU (r:Rule)(hr:r.fits big)(vF vW:V)(L:Nat)(B0:List Blk):∀ (m i:Nat) (bs:List Blk) (lo:Nat) (v:V),i+m=r.to.l.length->K3 r [vF,v,vW] L B0 bs->AccV false L 4 1 i ((r.to.l.take i).map λs=>s.cp.c).flatten bs v →
 ∃ bs' lo' v',Cd E TX aP (.loop [1,2,3,6] uP) [(1,.ptr 0 0),(2,.ptr 1 0),(3,.ptr 2 0),(6,.d (i64 i))] ⟨bs,lo⟩=some (.exit 2,[(1,.ptr 0 0),(2,.ptr 1 0),(3,.ptr 2 0)],⟨bs',lo'⟩)/\K3 r [vF,v',vW] L B0 bs'/\AccV false L 4 1 r.to.l.length (r.to.l.map λs=>s.cp.c).flatten bs' v':=by
 intro m;have hlen:=hr.2.1.1.lt;have key:=ay (E:=E) (T:=TX) (val:=aP) [1,2,3,6] uP;generalize Cd E TX aP (.loop [1,2,3,6] uP)=W at key ⊢
 induction m with
 | zero =>
  intro i bs lo v hi hK hA;have:i=r.to.l.length:=by omega
  subst this;rw [List.take_length] at hA;refine ⟨bs,lo,v,?_,hK,hA⟩;rw [key];simp [uP,hK.r0]
 | succ m ih =>
  intro i bs lo v hi hK hA;have hlt:i<r.to.l.length:=by omega
  have hx:=ac hlt;have hmem:=bj hlt;have htk:r.to.l.take (i+1)=r.to.l.take i++[r.to.l[i]]:=by rw [List.take_add_one,hx]; rfl
  generalize r.to.l[i]=s at *;have hfs:=hr.2.1.2 s hmem;have hsx:=λh=>aA (z:=4) h hx (cells:=Target.c) rfl;have hw:=ax hlt hlen;have h0:((i:Int)<r.to.l.length):=by omega
  have hnu:=hA.nu;have hL3:=hK.L3;have hk3:=hK.len;have hr1:=av (ys:=[.cells (s.c.map .d)]) hK.r0;obtain ⟨v1,y1,a1,b1,c1,d1⟩:=cpy (cells:=ig) (z:=1) (by_:=8) (λ_=>rfl) (by decide) (by decide) hfs.1 (bs++[.cells (s.c.map .d)]);obtain ⟨v2,y2,a2,b2,c2,d2⟩:=cpy (cells:=Term.c) (z:=2) (by_:=24) (λ_=>rfl) (by decide) (by decide) hfs.2.1 (bs++[.cells (s.c.map .d)]++([.cells []]++y1));obtain ⟨v3,y3,a3,b3,c3,d3⟩:=cpy (cells:=Term.c) (z:=2) (by_:=24) (λ_=>rfl) (by decide) (by decide) hfs.2.2.1 (bs++[.cells (s.c.map .d)]++([.cells []]++y1)++([.cells []]++y2));obtain ⟨v4,y4,a4,b4,c4,d4⟩:=cpy (cells:=Term.c) (z:=2) (by_:=24) (λ_=>rfl) (by decide) (by decide) hfs.2.2.2 (bs++[.cells (s.c.map .d)]++([.cells []]++y1)++([.cells []]++y2)++([.cells []]++y3));obtain ⟨H,hH⟩:∃ H,H=bs++Blk.cells (List.map V.d s.c)::Blk.cells []::(y1++Blk.cells []::(y2++Blk.cells []::(y3++Blk.cells []::(y4++[Blk.cells [v1,v2,v3,v4]])))):=⟨_,rfl⟩;have g1:=d1.ext (L':=bs.length) (([.cells []]++y2)++([.cells []]++y3)++([.cells []]++y4)++[.cells [v1,v2,v3,v4]]) (by simp);have g2:=d2.ext (L':=bs.length) (([.cells []]++y3)++([.cells []]++y4)++[.cells [v1,v2,v3,v4]]) (by simp);have g3:=d3.ext (L':=bs.length) (([.cells []]++y4)++[.cells [v1,v2,v3,v4]]) (by simp);have g4:=d4.ext (L':=bs.length) ([.cells [v1,v2,v3,v4]]) (by simp)
  have G1:Hng false (KL bs.length H) H v1 (.slice false (s.ports.l.map ig)) 1:=by rw [hH]; simpa using g1
  have G2:Hng false (KL bs.length H) H v2 (.slice false (s.methods.l.map Term.c)) 1:=by rw [hH]; simpa using g2
  have G3:Hng false (KL bs.length H) H v3 (.slice false (s.paths.l.map Term.c)) 1:=by rw [hH]; simpa using g3
  have G4:Hng false (KL bs.length H) H v4 (.slice false (s.hosts.l.map Term.c)) 1:=by rw [hH]; simpa using g4
  have hvs:Hngs false (KL bs.length H) H 1 [v1,v2,v3,v4] s.cp.c:=⟨G1,G2,G3,G4,trivial⟩;have hHp:∀ x,x<bs.length->H[x]?=bs[x]?:=λx hx=>by rw [hH,aq hx]
  have hHl:bs.length<=H.length:=by rw [hH]; simp
  have hAH:=hA.on hHl λx _ hx=>hHp x hx;have hHr:ah H (bs.length+(y1.length+(y2.length+(y3.length+(y4.length+1)+1)+1)+1+1))=some [v1,v2,v3,v4]:=by
   rw [hH];have:=jS (bs:=bs) (ys:=Blk.cells (List.map V.d s.c)::Blk.cells []::(y1++Blk.cells []::(y2++Blk.cells []::(y3++Blk.cells []::(y4++[Blk.cells [v1,v2,v3,v4]]))))) (i:=y1.length+(y2.length+(y3.length+(y4.length+1)+1)+1)+1+1);rw [this];have e:Blk.cells (List.map V.d s.c)::Blk.cells []::(y1++Blk.cells []::(y2++Blk.cells []::(y3++Blk.cells []::(y4++[Blk.cells [v1,v2,v3,v4]]))))=(Blk.cells (List.map V.d s.c)::Blk.cells []::(y1++Blk.cells []::(y2++Blk.cells []::(y3++Blk.cells []::y4))))++[Blk.cells [v1,v2,v3,v4]]:=by simp
   unfold ah;rw [e,bm (by simp<;>omega)];have:y1.length+(y2.length+(y3.length+(y4.length+1)+1)+1)+1+1-(Blk.cells (List.map V.d s.c)::Blk.cells []::(y1++Blk.cells []::(y2++Blk.cells []::(y3++Blk.cells []::y4)))).length=0:=by simp<;>omega
   rw [this]; rfl
  have hlow:∀ B n' c,v=.row B 0 n' c 4->B<bs.length:=λB n' c hv=>by
   obtain ⟨_,_,rfl⟩ | ⟨_,B',cs,_,rfl,hb,_⟩:=hA
   . simp at hv
   . simp at hv; rw [← hv.1]; exact aK hb
  obtain ⟨v',bs',F,ha,hA',hL',hlo',hF⟩:=hAH.app (by decide) (by_:=96) (by decide) (cd hlt hr.2.1.1.1) (vs:=[v1,v2,v3,v4]) rfl (cap:=some 1) hHr (L2:=bs.length) hk3 hlow hvs (by omega);have hb':∀ x,x<L->bs'[x]?=bs[x]?:=λx hx=>by rw [hlo' x hx,hHp x (by omega)]
  have hx2:ah bs' 2=some [vF,v,vW]:=by rw [← hK.x0]; unfold ah; rw [hb' 2 (by omega)]
  have hx2H:ah H 2=some [vF,v,vW]:=by rw [← hK.x0]; unfold ah; rw [hHp 2 (by omega)]
  obtain ⟨bs2,lo2,v2',r1,r2,r3⟩:=ih (i+1) (bs'.set 2 (.cells [vF,v',vW])) (min (F (min lo bs.length)) 2) v' (by omega)
   ⟨by rw [← hK.r0]; unfold ah; rw [am (by decide),hb' 0 (by omega)],by rw [← hK.a0]; unfold ah; rw [am (by decide),hb' 1 (by omega)],by
    have:=aK hx2;simp [ah,this],hL3,by simp; omega,λx h1 h2=>by rw [am (by omega),hb' x h1,hK.old x h1 h2]⟩
   (by
     rw [htk,List.map_append,List.flatten_append];simp only [cn,List.map_nil,List.flatten_cons,List.flatten_nil,List.append_nil];exact hA'.on (by simp) λx hx _=>am (by omega))
  refine ⟨bs2,lo2,v2',?_,r2,r3⟩
  . rw [key];have q1:=a1 (min lo bs.length);have q2:=a2 (min lo bs.length);have q3:=a3 (min lo bs.length);have q4:=a4 (min lo bs.length);have ha':=ha (min lo bs.length);simp at q1 q2 q3 q4;simp [uP,hK.r0,hr1,h0,hsx,hnu,ai,az,aL,hK.x0,av hK.x0,q1,q2,q3,q4,b1,b2,b3,b4,c1,c2,c3,c4,← hH,ha',hx2,hx2H,hA'.cl];rw [if_pos]
    . simp [hw];exact r1
    . have hHn:H.length=bs.length+(y1.length+(y2.length+(y3.length+(y4.length+1)+1)+1)+1+1)+1:=by rw [hH]; simp<;>omega
      have hne:¬ bs=[]:=λh=>by rw [h] at hk3; simp at hk3; omega
      obtain hb | ⟨B,hb,hB,hBl⟩:=hA.blk<;>rw [hb]
      . simp [bz,List.range,List.range.loop,Tr.spares,hne];omega
      . simp [bz,List.range,List.range.loop,Tr.spares,hne];omega
theorem UV (r:Rule)(hr:r.fits big)(vF vT:V)(L:Nat)(B0:List Blk):∀ (m i:Nat) (bs:List Blk) (lo:Nat) (v:V),i+m=r.whn.l.length->K3 r [vF,vT,v] L B0 bs->AccV false L 2 1 i ((r.whn.l.take i).map λs=>s.cp.c).flatten bs v →
 ∃ bs' lo' v',Cd E TX aP (.loop [1,2,3,8] uQ) [(1,.ptr 0 0),(2,.ptr 1 0),(3,.ptr 2 0),(8,.d (i64 i))] ⟨bs,lo⟩=some (.exit 4,[(2,.ptr 1 0),(3,.ptr 2 0)],⟨bs',lo'⟩)/\K3 r [vF,vT,v'] L B0 bs'/\AccV false L 2 1 r.whn.l.length (r.whn.l.map λs=>s.cp.c).flatten bs' v':=by
 intro m;have hlen:=hr.2.2.1.lt;have key:=ay (E:=E) (T:=TX) (val:=aP) [1,2,3,8] uQ;generalize Cd E TX aP (.loop [1,2,3,8] uQ)=W at key ⊢
 induction m with
 | zero =>
  intro i bs lo v hi hK hA;have:i=r.whn.l.length:=by omega
  subst this;rw [List.take_length] at hA;refine ⟨bs,lo,v,?_,hK,hA⟩;rw [key];simp [uQ,hK.r0]
 | succ m ih =>
  intro i bs lo v hi hK hA;have hlt:i<r.whn.l.length:=by omega
  have hx:=ac hlt;have hmem:=bj hlt;have htk:r.whn.l.take (i+1)=r.whn.l.take i++[r.whn.l[i]]:=by rw [List.take_add_one,hx]; rfl
  generalize r.whn.l[i]=s at *;have hfs:=hr.2.2.2 s hmem;have hsx:=λh=>aA (z:=2) h hx (cells:=When.c) rfl;have hw:=ax hlt hlen;have h0:((i:Int)<r.whn.l.length):=by omega
  have hnu:=hA.nu;have hL3:=hK.L3;have hk3:=hK.len;have hr1:=av (ys:=[.cells []]) hK.r0;obtain ⟨v1,y1,a1,b1,c1,d1⟩:=cpy (cells:=Term.c) (z:=2) (by_:=24) (λ_=>rfl) (by decide) (by decide) hfs (bs);obtain ⟨H,hH⟩:∃ H,H=bs++Blk.cells []::(y1++[Blk.cells [V.d (D.str s.head),v1]]):=⟨_,rfl⟩;have g1:=d1.ext (L':=bs.length) ([.cells [.d (.str s.head),v1]]) (by simp);have G1:Hng false (KL bs.length H) H v1 (.slice false (s.terms.l.map Term.c)) 1:=by rw [hH]; simpa using g1
  have hvs:Hngs false (KL bs.length H) H 1 [.d (.str s.head),v1] s.cp.c:=⟨Hng.d λnl c cs hh=>by simp at hh,G1,trivial⟩;have hHp:∀ x,x<bs.length->H[x]?=bs[x]?:=λx hx=>by rw [hH,aq hx]
  have hHl:bs.length<=H.length:=by rw [hH]; simp
  have hAH:=hA.on hHl λx _ hx=>hHp x hx;have hHr:ah H (bs.length+(y1.length+1))=some [.d (.str s.head),v1]:=by
   rw [hH];have:=jS (bs:=bs) (ys:=Blk.cells []::(y1++[Blk.cells [V.d (D.str s.head),v1]])) (i:=y1.length+1);rw [this];have e:Blk.cells []::(y1++[Blk.cells [V.d (D.str s.head),v1]])=(Blk.cells []::y1)++[Blk.cells [V.d (D.str s.head),v1]]:=by simp
   unfold ah;rw [e,bm (by simp<;>omega)];have:y1.length+1-(Blk.cells []::y1).length=0:=by simp<;>omega
   rw [this]; rfl
  have hlow:∀ B n' c,v=.row B 0 n' c 2->B<bs.length:=λB n' c hv=>by
   obtain ⟨_,_,rfl⟩ | ⟨_,B',cs,_,rfl,hb,_⟩:=hA
   . simp at hv
   . simp at hv; rw [← hv.1]; exact aK hb
  obtain ⟨v',bs',F,ha,hA',hL',hlo',hF⟩:=hAH.app (by decide) (by_:=40) (by decide) (cd hlt hr.2.2.1.1) (vs:=[.d (.str s.head),v1]) rfl (cap:=some 1) hHr (L2:=bs.length) hk3 hlow hvs (by omega);have hb':∀ x,x<L->bs'[x]?=bs[x]?:=λx hx=>by rw [hlo' x hx,hHp x (by omega)]
  have hx2:ah bs' 2=some [vF,vT,v]:=by rw [← hK.x0]; unfold ah; rw [hb' 2 (by omega)]
  have hx2H:ah H 2=some [vF,vT,v]:=by rw [← hK.x0]; unfold ah; rw [hHp 2 (by omega)]
  obtain ⟨bs2,lo2,v2',r1,r2,r3⟩:=ih (i+1) (bs'.set 2 (.cells [vF,vT,v'])) (min (F lo) 2) v' (by omega)
   ⟨by rw [← hK.r0]; unfold ah; rw [am (by decide),hb' 0 (by omega)],by rw [← hK.a0]; unfold ah; rw [am (by decide),hb' 1 (by omega)],by
    have:=aK hx2;simp [ah,this],hL3,by simp; omega,λx h1 h2=>by rw [am (by omega),hb' x h1,hK.old x h1 h2]⟩
   (by
     rw [htk,List.map_append,List.flatten_append];simp only [cn,List.map_nil,List.flatten_cons,List.flatten_nil,List.append_nil];exact hA'.on (by simp) λx hx _=>am (by omega))
  refine ⟨bs2,lo2,v2',?_,r2,r3⟩
  . rw [key];have q1:=a1 lo;have ha':=ha lo;simp at q1;simp [uQ,hK.r0,hr1,h0,hsx,hnu,ai,az,aL,hK.x0,av hK.x0,q1,b1,c1,← hH,ha',hx2,hx2H,hA'.cl];rw [if_pos]
    . simp [hw];exact r1
    . have hHn:H.length=bs.length+(y1.length+1)+1:=by rw [hH]; simp<;>omega
      have hne:¬ bs=[]:=λh=>by rw [h] at hk3; simp at hk3; omega
      obtain hb | ⟨B,hb,hB,hBl⟩:=hA.blk<;>rw [hb]
      . simp [bz,List.range,List.range.loop,Tr.spares,hne];omega
      . simp [bz,List.range,List.range.loop,Tr.spares,hne];omega
end
section
variable {E:Calls'}
theorem K3.next {r:Rule}{ws:List V}{L:Nat}{B0 bs:List Blk}(h:K3 r ws L B0 bs):K3 r ws bs.length bs bs:=⟨h.r0,h.a0,h.x0,cf h.L3 h.len,br _,λ_ _ _=>rfl⟩
theorem AccV.old {r:Rule}{ws:List V}{L0 z k n:Nat}{ds:List D}{B0 bs:List Blk}{v:V}(h:AccV false L0 z k n ds B0 v)(hK:K3 r ws B0.length B0 bs)(h3:3<=L0):AccV false L0 z k n ds bs v :=
 h.on hK.len λx hx hl=>hK.old x hl (by omega)
theorem Rule.cp_c (r:Rule):r.cp.c=[.slice (r.frm.l.map λs=>s.cp.c).isEmpty (r.frm.l.map λs=>s.cp.c),.slice (r.to.l.map λs=>s.cp.c).isEmpty (r.to.l.map λs=>s.cp.c),.slice (r.whn.l.map λs=>s.cp.c).isEmpty (r.whn.l.map λs=>s.cp.c)]:=by
 simp [Rule.cp,Rule.c,Sl.d,mr,ck]
theorem x89:TX 65=some q89:=by kernel_rfl
theorem w89:aP 65=true:=by kernel_rfl
theorem S89 (r:Rule)(hr:r.fits big)(h:Hp):Sm E TX aP 65 [ag r.c] h=some (ag r.cp.c,h):=by
 have hK:K3 r [.d (.slice true []),.d (.slice true []),.d (.slice true [])] 3 [.cells (r.c.map .d),.cells [.d (.slice true []),.d (.slice true []),.d (.slice true [])],.cells [.d (.slice true []),.d (.slice true []),.d (.slice true [])]] [.cells (r.c.map .d),.cells [.d (.slice true []),.d (.slice true []),.d (.slice true [])],.cells [.d (.slice true []),.d (.slice true []),.d (.slice true [])]]:=⟨rfl,rfl,rfl,by decide,by simp,λ_ _ _=>rfl⟩;obtain ⟨bs1,lo1,v1,a1,k1,A1⟩:=UT (E:=E) r hr _ _ _ _ r.frm.l.length 0 _ 0 _ (by omega) hK (by simpa using AccV.nil 3 3 1 _);obtain ⟨bs2,lo2,v2,a2,k2,A2⟩:=UU (E:=E) r hr _ _ _ _ r.to.l.length 0 _ lo1 _ (by omega) k1.next (by simpa using AccV.nil bs1.length 4 1 _);obtain ⟨bs3,lo3,v3,a3,k3,A3⟩:=UV (E:=E) r hr _ _ _ _ r.whn.l.length 0 _ lo2 _ (by omega) k2.next (by simpa using AccV.nil bs2.length 2 1 _);have h1:=k1.len; have h2:=k2.len; have h3:=k3.len;have B1:=(A1.old k2 (by omega)).old k3 (by omega);have B2:=A2.old k3 (by omega);have G1:=B1.hng (λe he=>by obtain ⟨y,_,rfl⟩:=cb.1 he; rfl) (by simp);have G2:=B2.hng (λe he=>by obtain ⟨y,_,rfl⟩:=cb.1 he; rfl) (by simp);have G3:=A3.hng (λe he=>by obtain ⟨y,_,rfl⟩:=cb.1 he; rfl) (by simp);have c1:=B1.cl; have c2:=B2.cl; have c3:=A3.cl;have n1:=B1.nu; have n2:=B2.nu; have n3:=A3.nu;have e1:=λlo=>(G1 (bs3.set 1 (.cells [v1,v2,v3])) lo (λx hx=>am (by have:=hx.1; omega)) 8 (by omega)).1
 have e2:=λlo=>(G2 (bs3.set 1 (.cells [v1,v2,v3])) lo (λx hx=>am (by have:=hx.1; omega)) 8 (by omega)).1;have e3:=λlo=>(G3 (bs3.set 1 (.cells [v1,v2,v3])) lo (λx hx=>am (by have:=hx.1; omega)) 8 (by omega)).1;have ha3:=k3.a0; have hx3:=k3.x0;have hl3:=aK ha3;have hset:ah (bs3.set 1 (.cells [v1,v2,v3])) 1=some [v1,v2,v3]:=by simp [ah,hl3]
 rw [aU x89 w89,Rule.cp_c];have a1':=a1; have a2':=a2; have a3':=a3;simp at a1' a2' a3';simp [af,q89];rw [aj];simp [a1'];rw [aj];simp [a2'];rw [aj];simp [a3',ha3,hx3,c1,c2,c3,n1,n2,n3,hl3,fA,e1,e2,e3,hset]
theorem xM {T:FuncId->Option QF}{val:FuncId->Bool}{keep:List Nat}{body:QC}{base:List Blk}{z:Nat}(n:Nat)(G:Nat->List (List D))(env:Nat->V->EA)(X:V->Ex×EA)
 (hr:∀ i,i<n->∀ bs lo v,Acc base z (G i) bs v->∃ bs' lo' v',Acc base z (G (i+1)) bs' v'/\∀ W:EA->Hp->fM,dK keep W (Cd E T val body (bT keep (env i v)) ⟨bs,lo⟩)=W (env (i+1) v') ⟨bs',lo'⟩)
 (he:∀ bs lo v,Acc base z (G n) bs v->∀ W:EA->Hp->fM,dK keep W (Cd E T val body (bT keep (env n v)) ⟨bs,lo⟩)=some ((X v).1,(X v).2,⟨bs,lo⟩)) (bs:List Blk) (lo:Nat) (v:V) (h0:Acc base z (G 0) bs v) :
 ∃ bs' lo' v',Cd E T val (.loop keep body) (env 0 v) ⟨bs,lo⟩=some ((X v').1,(X v').2,⟨bs',lo'⟩)/\Acc base z (G n) bs' v':=by
 have:∀ (m i:Nat) (bs:List Blk) (lo:Nat) (v:V),i+m=n->Acc base z (G i) bs v->∃ bs' lo' v',Cd E T val (.loop keep body) (env i v) ⟨bs,lo⟩=some ((X v').1,(X v').2,⟨bs',lo'⟩)/\Acc base z (G n) bs' v':=by
  intro m;have key:=ay (E:=E) (T:=T) (val:=val) keep body;generalize Cd E T val (.loop keep body)=W at key ⊢
  induction m with
  | zero =>
   intro i bs lo v hi hP;rw [show i=n by omega] at hP ⊢;exact ⟨bs,lo,v,by rw [key,he bs lo v hP W],hP⟩
  | succ m ih =>
   intro i bs lo v hi hP;obtain ⟨bs',lo',v',h1,h2⟩:=hr i (by omega) bs lo v hP;obtain ⟨bs2,lo2,v2,h3,h4⟩:=ih (i+1) bs' lo' v' (by omega) h1;exact ⟨bs2,lo2,v2,by rw [key,h2 W,h3],h4⟩
 exact this n 0 bs lo v (by omega) h0
def Pol.cp (p:Pol):Pol:={ p with rules:=mr (p.rules.l.map Rule.cp) }
theorem Pol.cp_c (p:Pol):p.cp.c=[u64 p.id,.str p.ns,u64 p.service,i64 p.deny,.slice (p.rules.l.map λr=>r.cp.c).isEmpty (p.rules.l.map λr=>r.cp.c)]:=by
 simp [Pol.cp,Pol.c,Sl.d,mr,ck]
theorem x35:TX 17=some q35:=by kernel_rfl
theorem w35:aP 17=true:=by kernel_rfl
theorem L35 (p:Pol)(hp:p.fits big)(base:List Blk)(hb:ah base 0=some (p.c.map .d))(lo:Nat):∃ bs' lo' v',Cd E TX aP (.loop [1,2,3,4] yg) [(1,.ptr 0 0),(2,.ptr 1 0),(3,.d (.slice true [])),(4,.d (i64 0))] ⟨base,lo⟩=some (.exit 0,[(1,.ptr 0 0),(2,.ptr 1 0),(3,v')],⟨bs',lo'⟩)/\Acc base 3 (p.rules.l.map λr=>r.cp.c) bs' v':=by
 have hlen:=hp.1.lt;have key:=xM (E:=E) (T:=TX) (val:=aP) (base:=base) (z:=3) (keep:=[1,2,3,4]) (body:=yg) p.rules.l.length (λi=>(p.rules.l.take i).map λr=>r.cp.c) (λi v=>[(1,.ptr 0 0),(2,.ptr 1 0),(3,v),(4,.d (i64 i))]) (λv=>(.exit 0,[(1,.ptr 0 0),(2,.ptr 1 0),(3,v)])) (λi hi bs lo v hA=>?_) (λbs lo v hA W=>?_) base lo _ (by simpa using Acc.nil base 3)
 . simpa using key
 . have hx:=ac hi;have hmem:=bj hi;have htk:p.rules.l.take (i+1)=p.rules.l.take i++[p.rules.l[i]]:=by rw [List.take_add_one,hx]; rfl
   generalize p.rules.l[i]=r at *;have hsx:=λh=>aA (z:=3) h hx (cells:=Rule.c) rfl;have hw:=ax hi hlen;have h0:((i:Int)<p.rules.l.length):=by omega
   have hnu:=hA.nu;have hg:=hA.get hb;have hcall:=λh=>S89 (E:=E) r (hp.2 r hmem) h;obtain ⟨v',bs',lo',ha,hA'⟩:=(hA.lay [.cells (r.cp.c.map .d)]).app (by decide) (by_:=72) (by decide) (e:=r.cp.c) rfl (by simp; have:=hp.1.1; omega) lo (r:=bs.length) (cap:=some 1) (by simp);refine ⟨bs',lo',v',by rw [htk,List.map_append]; exact hA',λW=>?_⟩;simp [yg,hg,h0,hsx,hnu,hcall,aL,ha,hw,hA'.nu]
 . simp [yg,hA.get hb]
theorem Acc.hng {base:List Blk}{z:Nat}{acc:List (List D)}{bs:List Blk}{v:V}(h:Acc base z acc bs v):Hng false (KL base.length bs) bs v (.slice acc.isEmpty acc) 1:=by
 obtain ⟨rfl,rfl⟩ | ⟨h1,b,h2,rfl,h4⟩:=h.is
 . exact Hng.data
 . rw [show acc.isEmpty=false by cases acc with | nil=>exact absurd rfl h1 | cons _ _=>rfl];exact Hng.row (k:=0) ⟨h2,aK h4⟩ h4 Hngs.data h.wid rfl
theorem Acc.cl {base:List Blk}{z:Nat}{acc:List (List D)}{bs:List Blk}{v:V}(h:Acc base z acc bs v):v.cells=some [v]:=by
 obtain ⟨_,rfl⟩ | ⟨_,b,_,rfl,_⟩:=h.is<;>rfl
theorem S35 (p:Pol)(hp:p.fits big)(h:Hp):Sm E TX aP 17 [ag p.c] h=some (ag p.cp.c,h):=by
 obtain ⟨bs,lo,v,a1,A⟩:=L35 (E:=E) p hp [.cells (p.c.map .d),.cells [.d (.int .u64 0),.d (.str ⟨#[]⟩),.d (.int .u64 0),.d (i64 0),.d (.slice true [])]] rfl 0;have hg:=A.get (x:=0) (cs:=p.c.map .d) rfl;have hg1:=A.get (x:=1) rfl;have hnu:=A.nu;rw [aU x35 w35,Pol.cp_c];simp [af,q35];rw [aj];have hcl:=A.cl;have hl:=A.len;simp at hl;have hl0:0<bs.length:=by omega
 have hl1:1<bs.length:=by omega
 have e1:=λlo=>(A.hng ((bs.set 0 (.cells [.d (u64 p.id),.d (.str p.ns),.d (u64 p.service),.d (i64 p.deny),v])).set 1 (.cells [.d (u64 p.id),.d (.str p.ns),.d (u64 p.service),.d (i64 p.deny),v])) lo (λx hx=>by have:=hx.1; simp at this; rw [am (by omega),am (by omega)]) 8 (by omega)).1;have h0:ah (bs.set 0 (.cells [.d (u64 p.id),.d (.str p.ns),.d (u64 p.service),.d (i64 p.deny),v])) 0=some [.d (u64 p.id),.d (.str p.ns),.d (u64 p.service),.d (i64 p.deny),v]:=by
  simp [ah,hl0,hl1]
 have h1:ah (bs.set 0 (.cells [.d (u64 p.id),.d (.str p.ns),.d (u64 p.service),.d (i64 p.deny),v])) 1=some [.d (.int .u64 0),.d (.str ⟨#[]⟩),.d (.int .u64 0),.d (i64 0),.d (.slice true [])]:=by
  rw [← hg1]; unfold ah; rw [am (by decide)]
 have h2:ah ((bs.set 0 (.cells [.d (u64 p.id),.d (.str p.ns),.d (u64 p.service),.d (i64 p.deny),v])).set 1 (.cells [.d (u64 p.id),.d (.str p.ns),.d (u64 p.service),.d (i64 p.deny),v])) 1=some [.d (u64 p.id),.d (.str p.ns),.d (u64 p.service),.d (i64 p.deny),v]:=by
  simp [ah,hl0,hl1]
 simp [a1];simp [hg,hg1,hnu,hcl,Pol.c,h0,h1,h2,fA,e1]
end
