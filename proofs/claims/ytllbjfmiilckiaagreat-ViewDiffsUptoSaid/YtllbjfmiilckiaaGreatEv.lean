/- The document's Own of views and indexes; Same of addresses, answers, views, indexes. -/
import Derived.Test.YtllbjfmiilckiaaGreatDf
set_option maxRecDepth 100000
set_option linter.unusedVariables false
set_option linter.unusedSimpArgs false
namespace Go.Proofs.YtllbjfmiilckiaaGreat
open IntKind (wrap)
section
variable {E:Calls'}
def WP:List (Nat×QF):=[(11,q66),(7,q83),]
def TDq:FuncId->Option QF:=gI WP
def rH (f:FuncId):Bool:=[11,7].any λn=>Nat.beq n f
theorem ab3:TDq 7=some q83:=by kernel_rfl
def Vsm (a b:Vw):Prop:=a.epoch=b.epoch/\a.covers.l=b.covers.l/\a.cfg.nf=b.cfg.nf
def Vw.own17 (v:Vw):Vw:=⟨v.epoch,gG v.covers,gG v.pods,gG v.services,gG v.bound,bn (v.policies.l.map Pol.cp)⟩
def ru (v:Vw)(d:Dlt):Bool:=aT v&&dw d&&aT (fe v d)
structure Doc19E (E:Calls'):Prop where
 e34:∀ c:Cfg,c.ok->∀ h,E 26 [c.v] h=some (ag c.cp.c,h)
 e38:∀ a b:Cfg,a.ok->∀ h,E 36 [a.v,b.v] h=some (bl (a.same b),h)
theorem S83 (H:Doc19E E)(v:Vw)(hv:v.ok)(h:Hp):Sm E TDq rH 7 [v.v] h=some (v.own17.v,h):=by
 have n1:=λh=>(aO (E:=E) (T:=TDq) (val:=rH) (f:=26) (by kernel_rfl)).trans (H.e34 v.cfg hv.2 h);have hcv:v.cfg.v=.agg [.d (.int .u64 0),.d (.int .u64 0),.d (i64 0),.d (i64 0),.d (v.pods.d Pod.c),.d (v.services.d Svc.c),.d (v.bound.d Way.c),.d (v.policies.d Pol.c)]:=rfl;rw [hcv] at n1;obtain ⟨x,bs,a,l,k,r,u⟩:=Dn (cells:=bP) (z:=1) (by_:=4) (λ_=>rfl) (by decide) (by decide) hv.1 [.cells (v.c.map .d),.cells [.d (.int .u64 0),.d (.slice true []),.d (.slice true []),.d (.slice true []),.d (.slice true []),.d (.slice true [])],.cells (v.cfg.cp.c.map .d)];have g0:ah bs 0=some (v.c.map .d):=by unfold ah; rw [k 0 (by simp)]; rfl
 have g1:ah bs 1=some [.d (.int .u64 0),.d (.slice true []),.d (.slice true []),.d (.slice true []),.d (.slice true []),.d (.slice true [])]:=by unfold ah; rw [k 1 (by simp)]; rfl
 have g2:ah bs 2=some (v.cfg.cp.c.map .d):=by unfold ah; rw [k 2 (by simp)]; rfl
 have hx:x≠.d (.slice true []):=by rintro rfl; exact absurd (u 0 (by simp)) (by simp [V.under])
 rw [aY ab3 rfl];have rc:=r.cl;have rn:=r.nu;simp at a;simp [ae,q83,rc,rn,put,n1,a,g0,g1,g2,aN,aA,aa,aM,aG,Tr.spares,List.range,List.range.loop,aj];have gs:∀ X,ah (bs.set 1 (.cells X)) 1=some X:=λX=>aU g1;have dat:=λX=>(r.on (bs':=bs.set 1 (.cells X)) (λy h1 h2=>ac (by simp at h1; omega))).datN hx 0 7;simp [gs,sub,bD,bG,dat,Vw.own17,Vw.c,Vw.cfg,Cfg.cp,Sl.d,gG];try rfl
end
set_option maxHeartbeats 2000000
section
variable {E:Calls'}
def WQ:List (Nat×QF):=[(18,r68)]
def TDs:FuncId->Option QF:=gI WQ
def iy (f:FuncId):Bool:=Nat.beq 18 f
theorem Tk:TDs 18=some r68:=by kernel_rfl
theorem Tp:iy 18=true:=by kernel_rfl
structure DocSameE (E:Calls'):Prop where
 h181:∀ (d:Dlt) h,E 46 [d.v] h=some (yZ d,h)
 h79:∀ d:Dlt,∀ h,E 19 [d.v] h=some (d.vw.v,h)
 h66:∀ a b:Vw,a.ok->Vsm a b->∀ h,E 11 [a.v,b.v] h=some (bl true,h)
def Dsm (d e:Dlt):Prop:=Vsm d.vw e.vw/\d.gonePods.l=e.gonePods.l/\d.goneServices.l=e.goneServices.l/\d.goneBound.l=e.goneBound.l/\d.gonePolicies.l=e.gonePolicies.l
theorem QE {s0 s1 s2 s3 t0 t1 t2 t3:Sl Int}(he:s0.l=t0.l)(hl:s0.l.length<2 ^ 62){M:List Blk}(g2:ah M 2=some [.d (s0.d ak),.d (s1.d ak),.d (s2.d ak),.d (s3.d ak)])(g3:ah M 3=some [.d (t0.d ak),.d (t1.d ak),.d (t2.d ak),.d (t3.d ak)])(lo:Nat) :
 Cd E TDs iy (.loop [2,3,5,6,7,8] fB) [(2,.ptr 0 0),(3,.ptr 1 0),(5,.ptr 2 0),(6,.ptr 3 0),(7,.d (.int .i64 0)),(8,.d (i64 ((0:Nat):Int)))] ⟨M,lo⟩=some (.exit 2,[(2,.ptr 0 0),(3,.ptr 1 0),(5,.ptr 2 0),(6,.ptr 3 0),(7,.d (.int .i64 0))],⟨M,lo⟩):=by
 have hix:∀ P hp,bg (some 4) 1 (.ptr P 0) (.d (.int .i64 0)) hp=some (.ptr P 0,hp):=λP hp=>by simp +decide [bg]
 have key:=bK (E:=E) (T:=TDs) (val:=iy) (keep:=[2,3,5,6,7,8]) (body:=fB) s0.l (λ_=>true) (λi=>[(2,.ptr 0 0),(3,.ptr 1 0),(5,.ptr 2 0),(6,.ptr 3 0),(7,.d (.int .i64 0)),(8,.d (i64 i))]) ⟨M,lo⟩ (.ret,[(4,bl false)],⟨M,lo⟩) (.exit 2,[(2,.ptr 0 0),(3,.ptr 1 0),(5,.ptr 2 0),(6,.ptr 3 0),(7,.d (.int .i64 0))],⟨M,lo⟩) (λi x hx hi W=>?_) (λW=>?_)
 . have ht:(s0.l.all λ_=>true)=true:=cn.2 λ_ _=>rfl;rw [ht] at key;simpa using key
 . have hsx:=λh=>av (z:=1) h hx (cells:=ak) rfl;have hsy:=λh=>av (z:=1) h (s:=t0) (he ▸ hx) (cells:=ak) rfl;have hw:=ay hi hl;have hlt:((i:Int)<s0.l.length):=by omega
   simp +decide [fB,g2,g3,hix,hsx,hsy,hlt,hw,ak]
 . simp +decide [fB,g2,hix]
theorem QG {s0 s1 s2 s3 t0 t1 t2 t3:Sl Int}(he:s1.l=t1.l)(hl:s1.l.length<2 ^ 62){M:List Blk}(g2:ah M 2=some [.d (s0.d ak),.d (s1.d ak),.d (s2.d ak),.d (s3.d ak)])(g3:ah M 3=some [.d (t0.d ak),.d (t1.d ak),.d (t2.d ak),.d (t3.d ak)])(lo:Nat) :
 Cd E TDs iy (.loop [2,3,5,6,7,8] fB) [(2,.ptr 0 0),(3,.ptr 1 0),(5,.ptr 2 0),(6,.ptr 3 0),(7,.d (.int .i64 1)),(8,.d (i64 ((0:Nat):Int)))] ⟨M,lo⟩=some (.exit 2,[(2,.ptr 0 0),(3,.ptr 1 0),(5,.ptr 2 0),(6,.ptr 3 0),(7,.d (.int .i64 1))],⟨M,lo⟩):=by
 have hix:∀ P hp,bg (some 4) 1 (.ptr P 0) (.d (.int .i64 1)) hp=some (.ptr P 1,hp):=λP hp=>by simp +decide [bg]
 have key:=bK (E:=E) (T:=TDs) (val:=iy) (keep:=[2,3,5,6,7,8]) (body:=fB) s1.l (λ_=>true) (λi=>[(2,.ptr 0 0),(3,.ptr 1 0),(5,.ptr 2 0),(6,.ptr 3 0),(7,.d (.int .i64 1)),(8,.d (i64 i))]) ⟨M,lo⟩ (.ret,[(4,bl false)],⟨M,lo⟩) (.exit 2,[(2,.ptr 0 0),(3,.ptr 1 0),(5,.ptr 2 0),(6,.ptr 3 0),(7,.d (.int .i64 1))],⟨M,lo⟩) (λi x hx hi W=>?_) (λW=>?_)
 . have ht:(s1.l.all λ_=>true)=true:=cn.2 λ_ _=>rfl;rw [ht] at key;simpa using key
 . have hsx:=λh=>av (z:=1) h hx (cells:=ak) rfl;have hsy:=λh=>av (z:=1) h (s:=t1) (he ▸ hx) (cells:=ak) rfl;have hw:=ay hi hl;have hlt:((i:Int)<s1.l.length):=by omega
   simp +decide [fB,g2,g3,hix,hsx,hsy,hlt,hw,ak]
 . simp +decide [fB,g2,hix]
theorem QH {s0 s1 s2 s3 t0 t1 t2 t3:Sl Int}(he:s2.l=t2.l)(hl:s2.l.length<2 ^ 62){M:List Blk}(g2:ah M 2=some [.d (s0.d ak),.d (s1.d ak),.d (s2.d ak),.d (s3.d ak)])(g3:ah M 3=some [.d (t0.d ak),.d (t1.d ak),.d (t2.d ak),.d (t3.d ak)])(lo:Nat) :
 Cd E TDs iy (.loop [2,3,5,6,7,8] fB) [(2,.ptr 0 0),(3,.ptr 1 0),(5,.ptr 2 0),(6,.ptr 3 0),(7,.d (.int .i64 2)),(8,.d (i64 ((0:Nat):Int)))] ⟨M,lo⟩=some (.exit 2,[(2,.ptr 0 0),(3,.ptr 1 0),(5,.ptr 2 0),(6,.ptr 3 0),(7,.d (.int .i64 2))],⟨M,lo⟩):=by
 have hix:∀ P hp,bg (some 4) 1 (.ptr P 0) (.d (.int .i64 2)) hp=some (.ptr P 2,hp):=λP hp=>by simp +decide [bg]
 have key:=bK (E:=E) (T:=TDs) (val:=iy) (keep:=[2,3,5,6,7,8]) (body:=fB) s2.l (λ_=>true) (λi=>[(2,.ptr 0 0),(3,.ptr 1 0),(5,.ptr 2 0),(6,.ptr 3 0),(7,.d (.int .i64 2)),(8,.d (i64 i))]) ⟨M,lo⟩ (.ret,[(4,bl false)],⟨M,lo⟩) (.exit 2,[(2,.ptr 0 0),(3,.ptr 1 0),(5,.ptr 2 0),(6,.ptr 3 0),(7,.d (.int .i64 2))],⟨M,lo⟩) (λi x hx hi W=>?_) (λW=>?_)
 . have ht:(s2.l.all λ_=>true)=true:=cn.2 λ_ _=>rfl;rw [ht] at key;simpa using key
 . have hsx:=λh=>av (z:=1) h hx (cells:=ak) rfl;have hsy:=λh=>av (z:=1) h (s:=t2) (he ▸ hx) (cells:=ak) rfl;have hw:=ay hi hl;have hlt:((i:Int)<s2.l.length):=by omega
   simp +decide [fB,g2,g3,hix,hsx,hsy,hlt,hw,ak]
 . simp +decide [fB,g2,hix]
theorem QI {s0 s1 s2 s3 t0 t1 t2 t3:Sl Int}(he:s3.l=t3.l)(hl:s3.l.length<2 ^ 62){M:List Blk}(g2:ah M 2=some [.d (s0.d ak),.d (s1.d ak),.d (s2.d ak),.d (s3.d ak)])(g3:ah M 3=some [.d (t0.d ak),.d (t1.d ak),.d (t2.d ak),.d (t3.d ak)])(lo:Nat) :
 Cd E TDs iy (.loop [2,3,5,6,7,8] fB) [(2,.ptr 0 0),(3,.ptr 1 0),(5,.ptr 2 0),(6,.ptr 3 0),(7,.d (.int .i64 3)),(8,.d (i64 ((0:Nat):Int)))] ⟨M,lo⟩=some (.exit 2,[(2,.ptr 0 0),(3,.ptr 1 0),(5,.ptr 2 0),(6,.ptr 3 0),(7,.d (.int .i64 3))],⟨M,lo⟩):=by
 have hix:∀ P hp,bg (some 4) 1 (.ptr P 0) (.d (.int .i64 3)) hp=some (.ptr P 3,hp):=λP hp=>by simp +decide [bg]
 have key:=bK (E:=E) (T:=TDs) (val:=iy) (keep:=[2,3,5,6,7,8]) (body:=fB) s3.l (λ_=>true) (λi=>[(2,.ptr 0 0),(3,.ptr 1 0),(5,.ptr 2 0),(6,.ptr 3 0),(7,.d (.int .i64 3)),(8,.d (i64 i))]) ⟨M,lo⟩ (.ret,[(4,bl false)],⟨M,lo⟩) (.exit 2,[(2,.ptr 0 0),(3,.ptr 1 0),(5,.ptr 2 0),(6,.ptr 3 0),(7,.d (.int .i64 3))],⟨M,lo⟩) (λi x hx hi W=>?_) (λW=>?_)
 . have ht:(s3.l.all λ_=>true)=true:=cn.2 λ_ _=>rfl;rw [ht] at key;simpa using key
 . have hsx:=λh=>av (z:=1) h hx (cells:=ak) rfl;have hsy:=λh=>av (z:=1) h (s:=t3) (he ▸ hx) (cells:=ak) rfl;have hw:=ay hi hl;have hlt:((i:Int)<s3.l.length):=by omega
   simp +decide [fB,g2,g3,hix,hsx,hsy,hlt,hw,ak]
 . simp +decide [fB,g2,hix]
theorem S68 (H:DocSameE E){d e:Dlt}(hd:d.ok)(hs:Dsm d e)(h:Hp):Sm E TDs iy 18 [d.v,e.v] h=some (bl true,h):=by
 obtain ⟨hv,e0,e1,e2,e3⟩:=hs;obtain ⟨hdv,f0,f1,f2,f3⟩:=hd;have n1:=λh=>(aO (E:=E) (T:=TDs) (val:=iy) (f:=46) (by kernel_rfl)).trans (H.h181 d h);have n2:=λh=>(aO (E:=E) (T:=TDs) (val:=iy) (f:=46) (by kernel_rfl)).trans (H.h181 e h);have n3:=λh=>(aO (E:=E) (T:=TDs) (val:=iy) (f:=19) (by kernel_rfl)).trans (H.h79 d h);have n4:=λh=>(aO (E:=E) (T:=TDs) (val:=iy) (f:=19) (by kernel_rfl)).trans (H.h79 e h);have n5:=λh=>(aO (E:=E) (T:=TDs) (val:=iy) (f:=11) (by kernel_rfl)).trans (H.h66 d.vw e.vw hdv hv h);have hg:∀ d:Dlt,yZ d=.agg [.d (d.gonePods.d ak),.d (d.goneServices.d ak),.d (d.goneBound.d ak),.d (d.gonePolicies.d ak)]:=λ_=>rfl;simp only [hg] at n1 n2
 let M:List Blk:=[.cells (d.c.map .d),.cells (e.c.map .d),.cells [.d (d.gonePods.d ak),.d (d.goneServices.d ak),.d (d.goneBound.d ak),.d (d.gonePolicies.d ak)],.cells [.d (e.gonePods.d ak),.d (e.goneServices.d ak),.d (e.goneBound.d ak),.d (e.gonePolicies.d ak)]]
 have g0:ah M 0=some (d.c.map .d):=rfl;have g1:ah M 1=some (e.c.map .d):=rfl;have g2:ah M 2=some [.d (d.gonePods.d ak),.d (d.goneServices.d ak),.d (d.goneBound.d ak),.d (d.gonePolicies.d ak)]:=rfl;have g3:ah M 3=some [.d (e.gonePods.d ak),.d (e.goneServices.d ak),.d (e.goneBound.d ak),.d (e.gonePolicies.d ak)]:=rfl;have c0:=QE (E:=E) e0 f0.lt g2 g3;have c1:=QG (E:=E) e1 f1.lt g2 g3;have c2:=QH (E:=E) e2 f2.lt g2 g3;have c3:=QI (E:=E) e3 f3.lt g2 g3;have ez:((0:Nat):Int)=0:=rfl;rw [ez] at c0 c1 c2 c3;have hp:∀ c:List V,c.length=4->put [V.d (.slice true []),.d (.slice true []),.d (.slice true []),.d (.slice true [])] 0 c=some c:=λc hc=>by
  match c,hc with
  | [_,_,_,_],_=>rfl
 have hM:∀ lo,(⟨[.cells (d.c.map .d),.cells (e.c.map .d),.cells [.d (d.gonePods.d ak),.d (d.goneServices.d ak),.d (d.goneBound.d ak),.d (d.gonePolicies.d ak)],.cells [.d (e.gonePods.d ak),.d (e.goneServices.d ak),.d (e.goneBound.d ak),.d (e.gonePolicies.d ak)]],lo⟩:Hp)=⟨M,lo⟩:=λ_=>rfl;have w1:wrap .i64 1=1:=by decide
 have w2:wrap .i64 2=2:=by decide
 have w3:wrap .i64 3=3:=by decide
 have w4:wrap .i64 4=4:=by decide
 have hix0:∀ P hp,bg (some 4) 1 (.ptr P 0) (.d (.int .i64 0)) hp=some (.ptr P 0,hp):=λP hp=>by simp +decide [bg]
 have hix1:∀ P hp,bg (some 4) 1 (.ptr P 0) (.d (.int .i64 1)) hp=some (.ptr P 1,hp):=λP hp=>by simp +decide [bg]
 have hix2:∀ P hp,bg (some 4) 1 (.ptr P 0) (.d (.int .i64 2)) hp=some (.ptr P 2,hp):=λP hp=>by simp +decide [bg]
 have hix3:∀ P hp,bg (some 4) 1 (.ptr P 0) (.d (.int .i64 3)) hp=some (.ptr P 3,hp):=λP hp=>by simp +decide [bg]
 rw [aY Tk Tp];simp +decide [ae,r68,n1,n2,put,aN,aA,aa,aM,aF,aG,Tr.mute,Tr.spares,List.range,List.range.loop,aj];rw [au];simp only [jC,kz];simp [hM]
 clear_value M
 have keyW:=aC (E:=E) (T:=TDs) (val:=iy) [2,3,5,6,7] mf;generalize Cd E TDs iy (.loop [2,3,5,6,7] mf)=W at keyW ⊢;rw [keyW];simp +decide [mf,g2,g3,hix0,e0];rw [au];simp +decide [c0,w1,w2,w3,w4];rw [keyW];simp +decide [mf,g2,g3,hix1,e1];rw [au];simp +decide [c1,w1,w2,w3,w4];rw [keyW];simp +decide [mf,g2,g3,hix2,e2];rw [au];simp +decide [c2,w1,w2,w3,w4];rw [keyW];simp +decide [mf,g2,g3,hix3,e3];rw [au];simp +decide [c3,w1,w2,w3,w4];rw [keyW];simp +decide [mf];simp +decide [g0,g1,n3,n4,n5,aA,aa,aM,aF,aG,Tr.mute,Tr.spares,List.range,List.range.loop,aj]
end
set_option maxHeartbeats 2000000
section
variable {E:Calls'}
theorem vsm_nf {a b:Vw}:Vsm a b↔a.nf=b.nf:=by
 simp [Vsm,Vw.nf,Cfg.nf,Vw.cfg,Sl.nf]
theorem vsm_same {a b:Vw}:Vsm a b↔a.same b=true:=vsm_nf.trans Vw.same_iff.symm
theorem Vsm.refl (a:Vw):Vsm a a:=vsm_nf.2 rfl
theorem Vsm.symm {a b:Vw}(h:Vsm a b):Vsm b a:=vsm_nf.2 (vsm_nf.1 h).symm
theorem Vsm.trans {a b c:Vw}(h:Vsm a b)(h':Vsm b c):Vsm a c:=vsm_nf.2 ((vsm_nf.1 h).trans (vsm_nf.1 h'))
theorem pF (v:Vw):v.own17.nf=v.nf:=by
 simp [Vw.own17,Vw.nf,Sl.nf,gG,bn,co,Pol.cp_nf]
theorem wE (v:Vw):Vsm v v.own17:=vsm_nf.2 (pF v).symm
theorem BF (a b:Vw):a.own17.same b.own17=a.same b:=by
 rw [Bool.eq_iff_iff,Vw.same_iff,Vw.same_iff,pF,pF]
theorem Am:∀ {l m:List Int},l.length=m.length->((l.zip m).all λp=>p.1==p.2)=all2 (λx y:Int=>x==y) l m
 | [],[],_=>rfl
 | [],y::m,h=>by simp at h
 | x::l,[],h=>by simp at h
 | x::l,y::m,h=>by simp [all2,Am (l:=l) (m:=m) (by simpa using h)]
theorem Za (a b:Vw)(hn:a.covers.l.length=b.covers.l.length)(hl:a.covers.l.length<2 ^ 62)(M:List Blk)(h0:ah M 0=some (a.c.map .d))(h1:ah M 1=some (b.c.map .d))(lo:Nat) :
 Cd E TDq rH (.loop [2,3,5] qB) [(2,.ptr 0 0),(3,.ptr 1 0),(5,.d (i64 ((0:Nat):Int)))] ⟨M,lo⟩=some (cond (all2 (λx y:Int=>x==y) a.covers.l b.covers.l) (.exit 0,[(2,.ptr 0 0),(3,.ptr 1 0)],⟨M,lo⟩) (.ret,[(4,bl false)],⟨M,lo⟩)):=by
 rw [← Am hn];have hz:(a.covers.l.zip b.covers.l).length=a.covers.l.length:=by rw [List.length_zip]; omega
 refine bK (E:=E) (T:=TDq) (val:=rH) (keep:=[2,3,5]) (body:=qB) (a.covers.l.zip b.covers.l) (λp=>p.1==p.2) (λi=>[(2,.ptr 0 0),(3,.ptr 1 0),(5,.d (i64 i))]) ⟨M,lo⟩ (.ret,[(4,bl false)],⟨M,lo⟩) (.exit 0,[(2,.ptr 0 0),(3,.ptr 1 0)],⟨M,lo⟩) (λi x hx hi W=>?_) (λW=>?_)
 . obtain ⟨x,y⟩:=x;obtain ⟨hx,hy⟩:=List.getElem?_zip_eq_some.1 hx;have hsx:=λh=>av (z:=1) h hx (cells:=bP) rfl;have hsy:=λh=>av (z:=1) h (s:=b.covers) hy (cells:=bP) rfl;have hw:=ay (show i<a.covers.l.length by omega) hl;have hlt:((i:Int)<a.covers.l.length):=by omega
   cases hq:x==y with
   | true =>
    have:x=y:=by simpa using hq
    subst this;simp [qB,h0,h1,hsx,hsy,hlt,hw,bP]
   | false =>
    have:¬ x=y:=by simpa using hq
    simp [qB,h0,h1,hsx,hsy,hlt,hw,this,bP]
 . rw [hz]; simp [qB,h0]
theorem FD (a b:Vw):Cfg.same a.cfg b.cfg=(all2 Pod.eqB a.pods.l b.pods.l&&(all2 Svc.eqB a.services.l b.services.l&&(all2 Way.eqB a.bound.l b.bound.l&&all2 Pol.same a.policies.l b.policies.l))):=by
 simp [Cfg.same,Vw.cfg]
theorem Re (H:Doc19E E)(a b:Vw)(ha:a.ok)(h:Hp):Sm E TDq rH 11 [a.v,b.v] h=some (bl (a.same b),h):=by
 have n1:=λh=>(aO (E:=E) (T:=TDq) (val:=rH) (f:=36) (by kernel_rfl)).trans (H.e38 a.cfg b.cfg ha.2 h);rw [FD] at n1;have hcv:∀ v:Vw,v.cfg.v=.agg [.d (.int .u64 0),.d (.int .u64 0),.d (i64 0),.d (i64 0),.d (v.pods.d Pod.c),.d (v.services.d Svc.c),.d (v.bound.d Way.c),.d (v.policies.d Pol.c)]:=λ_=>rfl;simp only [hcv] at n1;have hS:a.same b=(a.epoch==b.epoch&&(all2 (λx y:Int=>x==y) a.covers.l b.covers.l&&(all2 Pod.eqB a.pods.l b.pods.l&&(all2 Svc.eqB a.services.l b.services.l&&(all2 Way.eqB a.bound.l b.bound.l&&all2 Pol.same a.policies.l b.policies.l))))):=rfl;rw [hS];generalize (all2 Pod.eqB a.pods.l b.pods.l&&(all2 Svc.eqB a.services.l b.services.l&&(all2 Way.eqB a.bound.l b.bound.l&&all2 Pol.same a.policies.l b.policies.l)))=C at *;rw [aY (show TDq 11=some q66 by kernel_rfl) rfl];by_cases he:a.epoch=b.epoch
 . by_cases hl:a.covers.l.length=b.covers.l.length
   . have q:=Za (E:=E) a b hl (ch ha.1.1 (by decide)) [.cells (a.c.map .d),.cells (b.c.map .d)] rfl rfl 0;have ez:((0:Nat):Int)=0:=rfl;rw [ez] at q;simp +decide [ae,q66,hl,he,aj];rw [au];cases hc:all2 (λx y:Int=>x==y) a.covers.l b.covers.l with
     | true =>
      rw [hc] at q;simp [q,n1,aN,put,aj]
     | false =>
      rw [hc] at q;simp [q]
   . have hc:all2 (λx y:Int=>x==y) a.covers.l b.covers.l=false:=by
      cases hc:all2 (λx y:Int=>x==y) a.covers.l b.covers.l with
      | true=>exact absurd (sV hc) hl
      | false=>rfl
     have hl':¬ ((a.covers.l.length:Int)=b.covers.l.length):=by omega
     simp +decide [ae,q66,hl',hl,he,hc,aj]
 . simp +decide [ae,q66,he,aj]
theorem lW {α:Type}{key:α->Int}{eqB:α->α->Bool}(heq:∀ x y,eqB x y=true↔x=y){a b:List α}(hn:(a.map key).Nodup):bC eqB a b=b.filter (bT key eqB a):=by
 unfold bC;apply List.filter_congr;intro x _;unfold bT;cases hf:a.find? λy=>key y==key x with
 | none =>
  have h0:=List.find?_eq_none.1 hf;simp only [Bool.not_eq_true',List.any_eq_false];intro y hy he;have:=(heq x y).1 he;subst this;exact h0 x hy (by simp)
 | some y =>
  have hy:=List.mem_of_find?_eq_some hf;have hk:key y=key x:=by simpa using List.find?_some hf
  simp only
  congr 1
  cases he:eqB y x with
  | true =>
   have:=(heq y x).1 he;subst this;exact List.any_eq_true.2 ⟨y,hy,(heq y y).2 rfl⟩
  | false =>
   rw [List.any_eq_false];intro z hz hxz;have:=(heq x z).1 hxz;subst this;have h2:=yV hn hz;rw [h2] at hf;cases hf;rw [(heq x x).2 rfl] at he;cases he
theorem kQ {α:Type}{key:α->Int}(a b:List α):jS (a.map key) (b.map key)=bW key a b:=by
 unfold jS bW;rw [List.filter_map]
 congr 1
 apply List.filter_congr;intro x _;simp only [co,bu]
 congr 1
 rw [Bool.eq_iff_iff];simp only [List.find?_isSome,List.any_eq_true,ce,beq_iff_eq];constructor
 . rintro ⟨n,⟨y,hy,rfl⟩,h⟩; exact ⟨y,hy,h.symm⟩
 . rintro ⟨y,hy,h⟩; exact ⟨key y,⟨y,hy,rfl⟩,h.symm⟩
theorem wY (a b:List Pol):bC Pol.same a b=b.filter (kP a):=by
 unfold bC;apply List.filter_congr;intro x _;unfold kP
 congr 1
 rw [Bool.eq_iff_iff];simp only [List.any_eq_true,Pol.same_iff];exact ⟨λ⟨y,h1,h2⟩=>⟨y,h1,h2.symm⟩,λ⟨y,h1,h2⟩=>⟨y,h1,h2.symm⟩⟩
theorem FK {a b:Vw}(m1:aT a=true){x:Dlt}(he:x.epoch=b.epoch)(h1:x.covers.l=b.covers.l)(h2:x.pods.l=bC Pod.eqB a.pods.l b.pods.l)(h3:x.services.l=bC Svc.eqB a.services.l b.services.l)(h4:x.bound.l=bC Way.eqB a.bound.l b.bound.l)(h5:x.policies.l.map Pol.nf=(bC Pol.same a.policies.l b.policies.l).map Pol.nf)
 (g1:x.gonePods.l=bW Pod.uid a.pods.l b.pods.l) (g2:x.goneServices.l=bW Svc.id a.services.l b.services.l) (g3:x.goneBound.l=bW Way.id a.bound.l b.bound.l) (g4:x.gonePolicies.l=bW Pol.id a.policies.l b.policies.l):Dsm x (gT a b):=by
 obtain ⟨r1,r2,r3,r4⟩:=iO m1;have a1:=aL r1; have a2:=aL r2; have a3:=aL r3;refine ⟨vsm_nf.2 ?_,by rw [g1]; exact (kQ _ _).symm,by rw [g2]; exact (kQ _ _).symm,by rw [g3]; exact (kQ _ _).symm,by rw [g4]; exact (kQ _ _).symm⟩;have e1:=lW (key:=Pod.uid) (eqB:=Pod.eqB) (λx y=>Pod.eqB_iff) (a:=a.pods.l) (b:=b.pods.l) a1.1;have e2:=lW (key:=Svc.id) (eqB:=Svc.eqB) (λx y=>Svc.eqB_iff) (a:=a.services.l) (b:=b.services.l) a2.1;have e3:=lW (key:=Way.id) (eqB:=Way.eqB) (λx y=>Way.eqB_iff) (a:=a.bound.l) (b:=b.bound.l) a3.1;have e4:=wY a.policies.l b.policies.l;simp only [Dlt.vw,gT,Vw.nf,Sl.nf,bn,he,h1,h2,h3,h4,h5,e1,e2,e3,e4,List.map_map,Vw.mk.injEq,Sl.mk.injEq,true_and,and_true];exact List.map_congr_left λx _=>(Pol.cp_nf x).symm
end
set_option maxHeartbeats 2000000
section
theorem Vsm.of {a b:Vw}(h0:a.epoch=b.epoch)(h1:a.covers.l=b.covers.l)(h2:a.pods.l=b.pods.l)(h3:a.services.l=b.services.l)(h4:a.bound.l=b.bound.l)(h5:a.policies.l.map Pol.nf=b.policies.l.map Pol.nf):Vsm a b :=
 ⟨h0,h1,by simp only [Vw.cfg,Cfg.nf,Sl.nf,h2,h3,h4,h5]⟩
theorem Bc (l:List Pol):(l.map Pol.own).map Pol.nf=l.map Pol.nf:=by
 rw [List.map_map]; exact List.map_congr_left λp _=>Pol.own_nf p
theorem iG (l:List Pol):(l.map Pol.cp).map Pol.nf=l.map Pol.nf:=by
 rw [List.map_map]; exact List.map_congr_left λp _=>Pol.cp_nf p
theorem Ct {l l' fresh:List Pol}{gone:List Int}(h:l.map Pol.nf=l'.map Pol.nf):(bU Pol.id l fresh gone).map Pol.nf=(bU Pol.id l' fresh gone).map Pol.nf:=by
 rw [zK (f:=Pol.nf) (λ_=>rfl),zK (f:=Pol.nf) (λ_=>rfl),h]
theorem iE (v:Vw):aT v.own17=aT v:=by rw [← kJ,← kJ v,pF]
def ko (v:Vw)(d:Dlt):Bool:=aT v&&dw d&&aT (jU v d)
theorem yS (v:Vw)(d:Dlt):ru v.own17 d=ko v d:=by
 have hp:aT (fe v.own17 d)=aT (jU v d):=by
  rw [← kJ,← kJ (jU v d)]
  congr 1
  have h5:(bU Pol.id v.own17.policies.l d.policies.l d.gonePolicies.l).map Pol.nf=(bU Pol.id v.policies.l d.policies.l d.gonePolicies.l).map Pol.nf:=Ct (iG _);simp only [fe,jU,Vw.nf,Sl.nf,bn,Bc,iG,h5];rfl
 unfold ru ko;rw [iE,hp]
structure WV (v:Vw):Prop where
 ok:v.ok
 wf:∀ p∈v.policies.l,p.wf big
structure WD (d:Dlt):Prop where
 ok:d.ok
 wf:∀ p∈d.policies.l,p.wf big
 l1:d.pods.l.length<big
 l2:d.services.l.length<big
 l3:d.bound.l.length<big
 l4:d.policies.l.length<big
theorem WV.own17 {v:Vw}(h:WV v):WV v.own17:=by
 obtain ⟨⟨h0,h1,h2,h3,h4,h5⟩,hw⟩:=h;refine ⟨⟨⟨h0.1,λhh=>by cases hh⟩,⟨h1.1,λhh=>by cases hh⟩,⟨h2.1,λhh=>by cases hh⟩,⟨h3.1,λhh=>by cases hh⟩,⟨by simpa [Vw.own17,Vw.cfg,bn] using h4.1,λhh=>by simpa [Vw.own17,Vw.cfg,bn] using hh⟩,λp hp=>?_⟩,λp hp=>?_⟩
 . obtain ⟨q,hq,rfl⟩:=ce.1 (show p∈v.policies.l.map Pol.cp from hp);exact (Pol.cp_wf (hw q hq)).fits
 . obtain ⟨q,hq,rfl⟩:=ce.1 (show p∈v.policies.l.map Pol.cp from hp);exact Pol.cp_wf (hw q hq)
theorem SpoilsV.on {L0 M:Nat}{bs bs2:List Blk}{cells:List V}(h:SpoilsV L0 M bs cells)(hl:M<=bs2.length)(ho:∀ x,L0<=x->x<M->bs2[x]?=bs[x]?):SpoilsV L0 M bs2 cells:=by
 obtain ⟨tag,v3,v4,v5,v6,v7,s3,s4,s5,s6,s7,r3,r4,r5,r6,r7⟩:=h.is;exact ⟨h.len,h.low,hl,tag,v3,v4,v5,v6,v7,s3,s4,s5,s6,s7,r3.on λx hx=>ho x hx.1 hx.2.1,r4.on λx hx=>ho x hx.1 hx.2.1,r5.on λx hx=>ho x hx.1 hx.2.1,r6.on λx hx=>ho x hx.1 hx.2.1,r7.on λx hx=>ho x hx.1 hx.2.1⟩
structure ViewG (n:Nat) (bs:List Blk) (e:Int) (w1 w2 w3 w4 w5:V) (x:Vw):Prop where
 sp:SpoilsV n bs.length bs (az e w1 w2 w3 w4 w5)
 fz:∀ bs2 lo2,(∀ z,n<=z->z<bs.length->bs2[z]?=bs[z]?)->bG ⟨bs2,lo2⟩ (az e w1 w2 w3 w4 w5)=some x.c
 ok:x.ok
 un:∀ m,bs.length<=m->w1.under m=true/\w2.under m=true/\w3.under m=true/\w4.under m=true/\w5.under m=true
 ov:(okV w1=true/\nu w1=some w1/\w1.cells=some [w1])/\(okV w2=true/\nu w2=some w2/\w2.cells=some [w2])/\(okV w3=true/\nu w3=some w3/\w3.cells=some [w3])/\(okV w4=true/\nu w4=some w4/\w4.cells=some [w4])/\(okV w5=true/\nu w5=some w5/\w5.cells=some [w5])
theorem RowG.und {L n:Nat}{tag:Nat->Nat}{i z:Nat}{bs:List Blk}{es:List (List V)}{v:V}(h:RowG (Tg L n tag i) bs z es v){m:Nat}(hm:n<=m):v.under m=true:=by
 obtain ⟨_,rfl⟩ | ⟨b,cap,rest,h1,rfl,_⟩:=h
 . rfl
 . have:=h1.2.1;simp [V.under];omega
theorem ViewN.g {n:Nat}{bs:List Blk}{cov:List Int}{pods:List Pod}{svcs:List Svc}{ways:List Way}{pols:List Pol}{w1 w2 w3 w4 w5:V}(N:ViewN n bs cov pods svcs ways pols w1 w2 w3 w4 w5)(hn:n<=bs.length)(e:Int)(h1:cov.length<=big)(h2:pods.length<=big)(h3:svcs.length<=big)(h4:ways.length<=big)(h5:pols.length<=big)(hw:∀ p∈pols,p.wf big) :
 ∃ x,ViewG n bs e w1 w2 w3 w4 w5 x/\x.epoch=e/\x.covers.l=cov/\x.pods.l=pods/\x.services.l=svcs/\x.bound.l=ways/\x.policies.l.map Pol.nf=pols.map Pol.nf:=by
 obtain ⟨tag,pl,hp,S⟩:=N.is;have hb:∀ {k:Nat},k<=big->k<2 ^ 62:=λh=>ch h (by decide);have hpl:pl.length<=big:=by rw [← b9 (f:=Prod.fst),hp]; exact h5
 have hm:∀ x∈pl,x.1.wf big:=λx hx=>hw x.1 (by rw [← hp]; exact List.mem_map_of_mem hx);refine ⟨VwV e cov pods svcs ways pl w1 w2 w3 w4 w5,⟨S.spoils e hn (hb h1) (hb h2) (hb h3) (hb h4) (hb hpl) λx hx=>hb (hm x hx).2.2.2.2.1.1,λbs2 lo2 h=>S.fz e bs2 lo2 h,S.ok e h1 h2 h3 h4 hpl λx hx=>(Pol.own_wf (hm x hx)).fits,λm hm=>⟨S.r1.und hm,S.r2.und hm,S.r3.und hm,S.r4.und hm,S.r5.und hm⟩,S.r1.okv,S.r2.okv,S.r3.okv,S.r4.okv,S.r5.okv⟩,rfl,rfl,rfl,rfl,rfl,?_⟩;show (pl.map ku).map Pol.nf=pols.map Pol.nf;rw [← hp,List.map_map,List.map_map];exact List.map_congr_left λx _=>(yt x).trans (Pol.own_nf x.1)
theorem ViewG.nil (bs:List Blk):ViewG bs.length bs 0 ai ai ai ai ai vw0:=by
 have N:ViewN bs.length bs [] [] [] [] [] ai ai ai ai ai:=⟨λ_=>0,[],rfl,.inl ⟨rfl,rfl⟩,.inl ⟨rfl,rfl⟩,.inl ⟨rfl,rfl⟩,.inl ⟨rfl,rfl⟩,.inl ⟨rfl,rfl⟩,by simp⟩;obtain ⟨x,g,_⟩:=N.g (br _) 0 (by simp) (by simp) (by simp) (by simp) (by simp) (by simp);have h0:=g.fz bs 0 λ_ _ _=>rfl;exact ⟨g.sp,λbs2 lo2 _=>rfl,⟨⟨Nat.zero_le _,λ_=>rfl⟩,⟨Nat.zero_le _,λ_=>rfl⟩,⟨Nat.zero_le _,λ_=>rfl⟩,⟨Nat.zero_le _,λ_=>rfl⟩,⟨Nat.zero_le _,λ_=>rfl⟩,λp hp=>by cases hp⟩,λ_ _=>⟨rfl,rfl,rfl,rfl,rfl⟩,⟨⟨rfl,rfl,rfl⟩,⟨rfl,rfl,rfl⟩,⟨rfl,rfl,rfl⟩,⟨rfl,rfl,rfl⟩,⟨rfl,rfl,rfl⟩⟩⟩
structure H8 (E:Calls'):Prop where
 h4:∀ v:Vw,v.ok->∃ b:Bool,∀ h,E 4 [v.v] h=some (bl b,h)
 h5:∀ d:Dlt,d.ok->∃ b:Bool,∀ h,E 5 [d.v] h=some (bl b,h)
 h6:∀ h,E 6 [] h=some (bl true,h)
 h7:∀ v:Vw,v.ok->∀ h,E 7 [v.v] h=some (v.own17.v,h)
 h8:∀ v,WV v->∀ h,E 8 [v.v] h=some (bl (aT v),h)
 h9:∀ v,WV v->∀ h,E 9 [v.v] h=some (bl (aT v),h)
 h10:∀ a b:Vw,a.ok->∀ h,E 10 [a.v,b.v] h=some (bl (a.same b),h)
 h11:∀ a b:Vw,a.ok->∀ w h,frz h w=some a.v->E 11 [w,b.v] h=some (bl (a.same b),h)
 h12:∀ d,WD d->∀ h,E 12 [d.v] h=some (bl (dw d),h)
 h13:∀ d,WD d->∀ h,E 13 [d.v] h=some (bl (dw d),h)
 h14:∀ v:Vw,v.ok->∀ bs,∃ bs' w1 w2 w3 w4 w5,∃ F:Nat->Nat,(∀ lo,E 14 [v.v] ⟨bs,lo⟩=some (.agg (az v.epoch w1 w2 w3 w4 w5),⟨bs',F lo⟩))/\(∀ x,x<bs.length->bs'[x]?=bs[x]?)/\bs.length<=bs'.length/\ViewN bs.length bs' v.covers.l v.pods.l v.services.l v.bound.l v.policies.l w1 w2 w3 w4 w5/\∀ lo,bs.length<=lo->bs.length<=F lo
 h15:∀ (L0 M:Nat) (bs:List Blk) (cells:List V),SpoilsV L0 M bs cells->∃ bs',∃ F:Nat->Nat,(∀ lo,E 15 [.agg cells] ⟨bs,lo⟩=some (.tup [],⟨bs',F lo⟩))/\∀ x,x<L0->bs'[x]?=bs[x]?
 h16n:∀ a b,WV a->WV b->(aT a&&aT b)=false->∀ h,E 16 [a.v,b.v] h=some (.tup [.agg (dcV 0 ai ai ai ai ai ai ai ai ai),.d (i64 1)],h)
 h16:∀ a b,WV a->WV b->aT a=true->aT b=true->∀ bs,∃ bs' w1 w2 w3 w4 w5 g1 g2 g3 g4,∃ F:Nat->Nat,(∀ lo,E 16 [a.v,b.v] ⟨bs,lo⟩=some (.tup [.agg (dcV b.epoch w1 w2 w3 w4 w5 g1 g2 g3 g4),.d (i64 0)],⟨bs',F lo⟩))/\(∀ x,x<bs.length->bs'[x]?=bs[x]?)/\bs.length<=bs'.length ∧
  ViewN bs.length bs' b.covers.l (bC Pod.eqB a.pods.l b.pods.l) (bC Svc.eqB a.services.l b.services.l) (bC Way.eqB a.bound.l b.bound.l) (bC Pol.same a.policies.l b.policies.l) w1 w2 w3 w4 w5 ∧
  RowG (bI bs bs') bs' 1 (gU (bW Pod.uid a.pods.l b.pods.l)) g1/\RowG (bI bs bs') bs' 1 (gU (bW Svc.id a.services.l b.services.l)) g2/\RowG (bI bs bs') bs' 1 (gU (bW Way.id a.bound.l b.bound.l)) g3/\RowG (bI bs bs') bs' 1 (gU (bW Pol.id a.policies.l b.policies.l)) g4
 h17n:∀ a b,WV a->WV b->(aT a&&aT b)=false->∀ h,E 17 [a.v,b.v] h=some (.tup [ag dlt0.c,.d (i64 1)],h)
 h17:∀ a b,WV a->WV b->aT a=true->aT b=true->∀ h,E 17 [a.v,b.v] h=some (.tup [ag (gT a b).c,.d (i64 0)],h)
 h18:∀ d e:Dlt,d.ok->Dsm d e->∀ w h,frz h w=some d.v->E 18 [w,e.v] h=some (bl true,h)
 h19:∀ (e:Int) (w1 w2 w3 w4 w5 g1 g2 g3 g4:V) (bs:List Blk) (lo:Nat),w1.under bs.length=true/\w2.under bs.length=true/\w3.under bs.length=true/\w4.under bs.length=true/\w5.under bs.length=true->(okV w1=true/\nu w1=some w1/\w1.cells=some [w1])/\(okV w2=true/\nu w2=some w2/\w2.cells=some [w2])/\(okV w3=true/\nu w3=some w3/\w3.cells=some [w3])/\(okV w4=true/\nu w4=some w4/\w4.cells=some [w4])/\(okV w5=true/\nu w5=some w5/\w5.cells=some [w5])->E 19 [.agg (dcV e w1 w2 w3 w4 w5 g1 g2 g3 g4)] ⟨bs,lo⟩=some (.agg (az e w1 w2 w3 w4 w5),⟨bs,lo⟩)
 h20:∀ v,WV v->∀ d,WD d->∀ bs,∃ bs' w1 w2 w3 w4 w5 k e,∃ F:Nat->Nat,(∀ lo,E 20 [v.v,d.v] ⟨bs,lo⟩=some (.tup [.agg (az e w1 w2 w3 w4 w5),.d (i64 k)],⟨bs',F lo⟩))/\(∀ x,x<bs.length->bs'[x]?=bs[x]?)/\bs.length<=bs'.length ∧
  ((ko v d=true/\k=0/\e=d.epoch/\ViewN bs.length bs' d.covers.l (bU Pod.uid v.pods.l d.pods.l d.gonePods.l) (bU Svc.id v.services.l d.services.l d.goneServices.l) (bU Way.id v.bound.l d.bound.l d.goneBound.l) (bU Pol.id v.policies.l d.policies.l d.gonePolicies.l) w1 w2 w3 w4 w5) ∨
   (ko v d=false/\k=1/\e=0/\w1=ai/\w2=ai/\w3=ai/\w4=ai/\w5=ai))
 h21:∀ v,WV v->∀ d,WD d->∀ h,E 21 [v.v,d.v] h=some (if ru v d=true then .tup [(fe v d).v,.d (i64 0)] else .tup [vw0.v,.d (i64 1)],h)
section
variable {E:Calls'}(H:H8 E)
include H
theorem Zd {a:Vw}(ha:WV a)(bs:List Blk):∃ bs' w1 w2 w3 w4 w5 x,∃ F:Nat->Nat,(∀ lo,E 14 [a.v] ⟨bs,lo⟩=some (.agg (az a.epoch w1 w2 w3 w4 w5),⟨bs',F lo⟩))/\(∀ x,x<bs.length->bs'[x]?=bs[x]?)/\bs.length<=bs'.length/\ViewG bs.length bs' a.epoch w1 w2 w3 w4 w5 x/\Vsm x a.own17:=by
 obtain ⟨bs',w1,w2,w3,w4,w5,F,a1,a2,a3,a4,_⟩:=H.h14 a ha.ok bs;obtain ⟨x,g,e0,e1,e2,e3,e4,e5⟩:=a4.g a3 a.epoch ha.ok.1.1 ha.ok.2.1.1 ha.ok.2.2.1.1 ha.ok.2.2.2.1.1 ha.ok.2.2.2.2.1.1 ha.wf;exact ⟨bs',w1,w2,w3,w4,w5,x,F,a1,a2,a3,g,Vsm.of e0 e1 e2 e3 e4 (e5.trans (iG _).symm)⟩
theorem Zh {a:Vw}(ha:WV a){d:Dlt}(hd:WD d)(bs:List Blk):∃ bs' e w1 w2 w3 w4 w5 k x y,∃ F:Nat->Nat,(∀ lo,E 20 [a.v,d.v] ⟨bs,lo⟩=some (.tup [.agg (az e w1 w2 w3 w4 w5),.d (i64 k)],⟨bs',F lo⟩))/\(∀ h,E 21 [a.own17.v,d.v] h=some (.tup [Vw.v y,.d (i64 k)],h))/\(∀ x,x<bs.length->bs'[x]?=bs[x]?)/\bs.length<=bs'.length/\ViewG bs.length bs' e w1 w2 w3 w4 w5 x/\Vsm x y:=by
 obtain ⟨bs',w1,w2,w3,w4,w5,k,e,F,a1,a2,a3,a4⟩:=H.h20 a ha d hd bs;have hdoc:=H.h21 a.own17 ha.own17 d hd;rw [yS] at hdoc;obtain ⟨c1,rfl,rfl,c4⟩ | ⟨c1,rfl,rfl,rfl,rfl,rfl,rfl,rfl⟩:=a4
 . rw [c1] at hdoc;simp only [if_true] at hdoc;have q1:=eO (key:=Pod.uid) (l:=a.pods.l) (fresh:=d.pods.l) (gone:=d.gonePods.l);have q2:=eO (key:=Svc.id) (l:=a.services.l) (fresh:=d.services.l) (gone:=d.goneServices.l);have q3:=eO (key:=Way.id) (l:=a.bound.l) (fresh:=d.bound.l) (gone:=d.goneBound.l);have q4:=eO (key:=Pol.id) (l:=a.policies.l) (fresh:=d.policies.l) (gone:=d.gonePolicies.l);simp only [ko,aq] at c1;obtain ⟨⟨m1,m2⟩,m3⟩:=c1;have md:aT d.vw=true:=by
    simp only [dw,aq] at m2;exact m2.2
   obtain ⟨r1,r2,r3,r4⟩:=iO m1;obtain ⟨s1,s2,s3,s4⟩:=iO md;have hbig:(32:Nat)<=big:=by decide
   have x1:=(aL r1).2; have x2:=(aL r2).2; have x3:=(aL r3).2; have x4:=(aL r4).2;have y1:=(aL s1).2; have y2:=(aL s2).2; have y3:=(aL s3).2; have y4:=(aL s4).2;simp only [Dlt.vw] at y1 y2 y3 y4;obtain ⟨x,g,e0,e1,e2,e3,e4,e5⟩:=c4.g a3 d.epoch hd.ok.1.1.1 (by omega) (by omega) (by omega) (by omega) λp hp=>by
    obtain h | h:=uH hp
    . exact ha.wf p h
    . exact hd.wf p h
   refine ⟨bs',_,w1,w2,w3,w4,w5,0,x,fe a.own17 d,F,a1,hdoc,a2,a3,g,Vsm.of e0 e1 e2 e3 e4 (e5.trans ?_)⟩;show _=((bU Pol.id a.own17.policies.l d.policies.l d.gonePolicies.l).map Pol.cp).map Pol.nf;rw [iG];exact (Ct (iG _)).symm
 . rw [c1] at hdoc;simp only [bo,if_false] at hdoc;have hg:=ViewG.nil bs';refine ⟨bs',0,ai,ai,ai,ai,ai,1,vw0,vw0,F,a1,hdoc,a2,a3,⟨?_,λ_ _ _=>rfl,hg.ok,hg.un,hg.ov⟩,Vsm.refl _⟩;have:=hg.sp;obtain ⟨tag,v3,v4,v5,v6,v7,s3,s4,s5,s6,s7,_⟩:=this.is;have N:ViewN bs.length bs' [] [] [] [] [] ai ai ai ai ai:=⟨λ_=>0,[],rfl,.inl ⟨rfl,rfl⟩,.inl ⟨rfl,rfl⟩,.inl ⟨rfl,rfl⟩,.inl ⟨rfl,rfl⟩,.inl ⟨rfl,rfl⟩,by simp⟩;obtain ⟨x,g,_⟩:=N.g a3 0 (by simp) (by simp) (by simp) (by simp) (by simp) (by simp);exact g.sp
omit H in
theorem AJ {h:Hp}{l m:List V}{c d:List D}(h1:bG h l=some c)(h2:bG h m=some d):bG h (l++m)=some (c++d):=by
 unfold bG at *;rw [List.mapM_append,h1,h2];rfl
theorem Qe {a b:Vw}(ha:WV a)(hb:WV b)(bs:List Blk):∃ bs' e w1 w2 w3 w4 w5 g1 g2 g3 g4 k xv x y,∃ F:Nat->Nat,(∀ lo,E 16 [a.v,b.v] ⟨bs,lo⟩=some (.tup [.agg (dcV e w1 w2 w3 w4 w5 g1 g2 g3 g4),.d (i64 k)],⟨bs',F lo⟩))/\(∀ h,E 17 [a.own17.v,b.own17.v] h=some (.tup [ag (Dlt.c y),.d (i64 k)],h))/\(∀ x,x<bs.length->bs'[x]?=bs[x]?)/\bs.length<=bs'.length/\ViewG bs.length bs' e w1 w2 w3 w4 w5 xv ∧
 (∀ bs2 lo2,(∀ z,bs.length<=z->z<bs'.length->bs2[z]?=bs'[z]?)->bG ⟨bs2,lo2⟩ (dcV e w1 w2 w3 w4 w5 g1 g2 g3 g4)=some (Dlt.c x))/\Dlt.ok x/\Dsm x y/\((nu g1=some g1/\g1.cells=some [g1])/\(nu g2=some g2/\g2.cells=some [g2])/\(nu g3=some g3/\g3.cells=some [g3])/\(nu g4=some g4/\g4.cells=some [g4])):=by
 cases hm:aT a&&aT b with
 | false =>
  have n16:=H.h16n a b ha hb hm;have n17:=H.h17n a.own17 b.own17 ha.own17 hb.own17 (by rw [iE,iE]; exact hm);have hg:=ViewG.nil bs;exact ⟨bs,0,ai,ai,ai,ai,ai,ai,ai,ai,ai,1,vw0,dlt0,dlt0,id,λlo=>n16 _,n17,λ_ _=>rfl,br _,hg,λ_ _ _=>rfl,⟨hg.ok,⟨Nat.zero_le _,λ_=>rfl⟩,⟨Nat.zero_le _,λ_=>rfl⟩,⟨Nat.zero_le _,λ_=>rfl⟩,⟨Nat.zero_le _,λ_=>rfl⟩⟩,⟨Vsm.refl _,rfl,rfl,rfl,rfl⟩,⟨rfl,rfl⟩,⟨rfl,rfl⟩,⟨rfl,rfl⟩,⟨rfl,rfl⟩⟩
 | true =>
  simp only [aq] at hm;obtain ⟨m1,m2⟩:=hm;obtain ⟨bs',w1,w2,w3,w4,w5,g1,g2,g3,g4,F,a1,a2,a3,a4,b1,b2,b3,b4⟩:=H.h16 a b ha hb m1 m2 bs;have n17:=H.h17 a.own17 b.own17 ha.own17 hb.own17 (by rw [iE]; exact m1) (by rw [iE]; exact m2);have fl:∀ {α:Type} {f:α->α->Bool} {l m:List α},m.length<=big->(bC f l m).length<=big:=λh=>cj (List.length_filter_le _ _) h;have gl:∀ {α:Type} {f:α->Int} {l m:List α},l.length<=big->(bW f l m).length<=big:=λh=>by
   unfold bW;rw [b9];exact cj (List.length_filter_le _ _) h
  obtain ⟨xv,g,e0,e1,e2,e3,e4,e5⟩:=a4.g a3 b.epoch hb.ok.1.1 (fl hb.ok.2.1.1) (fl hb.ok.2.2.1.1) (fl hb.ok.2.2.2.1.1) (fl hb.ok.2.2.2.2.1.1) λp hp=>hb.wf p (List.mem_filter.1 hp).1;have hgd:∀ {l:List Int} {v:V},RowG (bI bs bs') bs' 1 (gU l) v->∀ bs2 lo2,(∀ z,bs.length<=z->z<bs'.length->bs2[z]?=bs'[z]?)->dataV ⟨bs2,lo2⟩ 8 v=some ((⟨iw v,l⟩:Sl Int).d ak):=λh bs2 lo2 ho=>((h.hngD (f:=ak) (λ_=>rfl)) bs2 lo2 (λz hz=>ho z hz.1 hz.2) 8 (by decide)).1;have hgs:∀ {l:List Int} {v:V},RowG (bI bs bs') bs' 1 (gU l) v->l.length<=big->short (⟨iw v,l⟩:Sl Int):=λh hl=>⟨hl,λhn=>RowG.short (f:=λa=>(ak a).map V.d) h hn⟩;refine ⟨bs',b.epoch,w1,w2,w3,w4,w5,g1,g2,g3,g4,0,xv,⟨xv.epoch,xv.covers,xv.pods,xv.services,xv.bound,xv.policies,⟨iw g1,bW Pod.uid a.pods.l b.pods.l⟩,⟨iw g2,bW Svc.id a.services.l b.services.l⟩,⟨iw g3,bW Way.id a.bound.l b.bound.l⟩,⟨iw g4,bW Pol.id a.policies.l b.policies.l⟩⟩,gT a.own17 b.own17,F,a1,n17,a2,a3,g,λbs2 lo2 ho=>?_,⟨g.ok,hgs b1 (gl ha.ok.2.1.1),hgs b2 (gl ha.ok.2.2.1.1),hgs b3 (gl ha.ok.2.2.2.1.1),hgs b4 (gl ha.ok.2.2.2.2.1.1)⟩,?_,b1.okv.2,b2.okv.2,b3.okv.2,b4.okv.2⟩
  . have c1:=g.fz bs2 lo2 ho;have c2:bG ⟨bs2,lo2⟩ [g1,g2,g3,g4]=some [(⟨iw g1,bW Pod.uid a.pods.l b.pods.l⟩:Sl Int).d ak,(⟨iw g2,bW Svc.id a.services.l b.services.l⟩:Sl Int).d ak,(⟨iw g3,bW Way.id a.bound.l b.bound.l⟩:Sl Int).d ak,(⟨iw g4,bW Pol.id a.policies.l b.policies.l⟩:Sl Int).d ak]:=by
     simp only [bG,List.mapM_cons,List.mapM_nil,hgd b1 bs2 lo2 ho,hgd b2 bs2 lo2 ho,hgd b3 bs2 lo2 ho,hgd b4 bs2 lo2 ho];rfl
    exact AJ c1 c2
  . refine FK (a:=a.own17) (b:=b.own17) (by rw [iE]; exact m1) e0 e1 e2 e3 e4 ?_ rfl rfl rfl ?_
    . rw [e5,uf Pol.same_nf,uf Pol.same_nf];show _=bC Pol.same ((a.policies.l.map Pol.cp).map Pol.nf) ((b.policies.l.map Pol.cp).map Pol.nf);rw [iG,iG]
    . have hk:∀ x:Pol,Pol.id x.cp=x.id:=λ_=>rfl;exact (Dx hk a.policies.l b.policies.l).symm
end
end
set_option maxHeartbeats 2000000
section
def WR:List (Nat×QF):=[(3,r8)]
def TL8:FuncId->Option QF:=gI WR
def Aj (f:FuncId):Bool:=Nat.beq 3 f
theorem tl8:TL8 3=some r8:=by kernel_rfl
theorem vl8:Aj 3=true:=by kernel_rfl
theorem GN (v:Vw):put [V.d (.int .u64 0),.d (.slice true []),.d (.slice true []),.d (.slice true []),.d (.slice true []),.d (.slice true [])] 0 (v.c.map V.d)=some (v.c.map V.d):=rfl
theorem Jn (d:Dlt):put [V.d (.int .u64 0),.d (.slice true []),.d (.slice true []),.d (.slice true []),.d (.slice true []),.d (.slice true []),.d (.slice true []),.d (.slice true []),.d (.slice true []),.d (.slice true [])] 0 (d.c.map V.d)=some (d.c.map V.d):=rfl
theorem Jo (e:Int)(w1 w2 w3 w4 w5 g1 g2 g3 g4:V):put [V.d (.int .u64 0),.d (.slice true []),.d (.slice true []),.d (.slice true []),.d (.slice true []),.d (.slice true []),.d (.slice true []),.d (.slice true []),.d (.slice true []),.d (.slice true [])] 0 (dcV e w1 w2 w3 w4 w5 g1 g2 g3 g4)=some (dcV e w1 w2 w3 w4 w5 g1 g2 g3 g4):=rfl
theorem CP (e:Int)(w1 w2 w3 w4 w5 g1 g2 g3 g4:V):sub (dcV e w1 w2 w3 w4 w5 g1 g2 g3 g4) 0 10=some (dcV e w1 w2 w3 w4 w5 g1 g2 g3 g4):=rfl
theorem Cm (e:Int)(w1 w2 w3 w4 w5 g1 g2 g3 g4:V):(dcV e w1 w2 w3 w4 w5 g1 g2 g3 g4).length=10:=rfl
variable {E:Calls'}
theorem S8 (H:H8 E){a b:Vw}(ha:WV a)(hb:WV b){d:Dlt}(hd:WD d)(h:Hp):Sm E TL8 Aj 3 [a.v,b.v,d.v] h=some (bl true,h):=by
 have X:∀ f,TL8 f=none->∀ args h,Sm E TL8 Aj f args h=E f args h:=λf hf args h=>aO hf;obtain ⟨b1,hb1⟩:=H.h4 a ha.ok;obtain ⟨b2,hb2⟩:=H.h4 b hb.ok;obtain ⟨b3,hb3⟩:=H.h5 d hd.ok;have c4a:=λh=>(X 4 (by kernel_rfl) _ _).trans (hb1 h);have c4b:=λh=>(X 4 (by kernel_rfl) _ _).trans (hb2 h);have c5:=λh=>(X 5 (by kernel_rfl) _ _).trans (hb3 h);have c6:=λh=>(X 6 (by kernel_rfl) _ _).trans (H.h6 h);rw [aY tl8 vl8];cases b1 with
 | true=>simp +decide [ae,r8,c4a,c6]
 | false =>
 cases b2 with
 | true=>simp +decide [ae,r8,c4a,c4b,c6]
 | false =>
 cases b3 with
 | true=>simp +decide [ae,r8,c4a,c4b,c5,c6]
 | false =>
 have c7a:=λh=>(X 7 (by kernel_rfl) _ _).trans (H.h7 a ha.ok h);have c7b:=λh=>(X 7 (by kernel_rfl) _ _).trans (H.h7 b hb.ok h);have c8:=λh=>(X 8 (by kernel_rfl) _ _).trans (H.h8 a ha h);have c9:=λh=>(X 9 (by kernel_rfl) _ _).trans (H.h9 a.own17 ha.own17 h);have c10:=λh=>(X 10 (by kernel_rfl) _ _).trans (H.h10 a b ha.ok h);have c10a:=λh=>(X 10 (by kernel_rfl) _ _).trans (H.h10 a a ha.ok h);have c11:=λh=>(X 11 (by kernel_rfl) _ _).trans (H.h11 a.own17 b.own17 ha.own17.ok _ h lX);have c12:=λh=>(X 12 (by kernel_rfl) _ _).trans (H.h12 d hd h);have c13:=λh=>(X 13 (by kernel_rfl) _ _).trans (H.h13 d hd h);rw [iE] at c9;rw [BF] at c11;rw [vsm_same.1 (Vsm.refl a)] at c10a;obtain ⟨m1,w1,w2,w3,w4,w5,x,F1,a14,o1,l1,G1,s1⟩:=Zd H ha [.cells (a.c.map .d),.cells (b.c.map .d),.cells (d.c.map .d),.cells (a.own17.c.map .d),.cells (b.own17.c.map .d)];have c14:=λlo=>(X 14 (by kernel_rfl) _ _).trans (a14 lo);have e1:∀ m lo,(∀ z,z<m1.length->m[z]?=m1[z]?)->frz ⟨m,lo⟩ (.agg (az a.epoch w1 w2 w3 w4 w5))=some x.v:=λm lo ho=>by rw [jB,G1.fz m lo λz _ hz=>ho z hz]
 have c11o:=λm lo ho=>(X 11 (by kernel_rfl) _ _).trans (H.h11 x a.own17 G1.ok _ ⟨m,lo⟩ (e1 m lo ho));rw [vsm_same.1 s1] at c11o;simp only [ck,cm,Nat.zero_add] at o1 l1 G1;obtain ⟨m2,F2,a15,o2⟩:=H.h15 5 m1.length (m1++[.cells (az a.epoch w1 w2 w3 w4 w5)]) _ (G1.sp.on (by simp) λz _ hz=>am hz);have c15:=λlo=>(X 15 (by kernel_rfl) _ _).trans (a15 lo)
 let P:List Blk->Prop:=λm=>ah m 0=some (a.c.map .d)/\ah m 1=some (b.c.map .d)/\ah m 2=some (d.c.map .d)/\ah m 3=some (a.own17.c.map .d)/\ah m 4=some (b.own17.c.map .d)
 have Pon:∀ {m m':List Blk},P m->(∀ x,x<5->m'[x]?=m[x]?)->P m':=λp ho=>⟨aS (ho 0 (by decide)) p.1,aS (ho 1 (by decide)) p.2.1,aS (ho 2 (by decide)) p.2.2.1,aS (ho 3 (by decide)) p.2.2.2.1,aS (ho 4 (by decide)) p.2.2.2.2⟩;have p1:P m1:=Pon (m:=[.cells (a.c.map .d),.cells (b.c.map .d),.cells (d.c.map .d),.cells (a.own17.c.map .d),.cells (b.own17.c.map .d)]) ⟨rfl,rfl,rfl,rfl,rfl⟩ λx hx=>o1 x hx;have p2:P m2:=Pon p1 λx hx=>by rw [o2 x hx,am (by omega)]
 have l2:4<m2.length:=aB p2.2.2.2.2;have c11o':=λlo=>c11o (m1++[.cells (az a.epoch w1 w2 w3 w4 w5)]) lo λz hz=>am hz;obtain ⟨m3,e3,v1,v2,v3,v4,v5,g1,g2,g3,g4,k3,xv,xd,y,F3,a16,a17,o3,l3,G3,cz,okd,sd,ug⟩:=Qe H ha hb m2;have c16:=λlo=>(X 16 (by kernel_rfl) _ _).trans (a16 lo);have c17:=λh=>(X 17 (by kernel_rfl) _ _).trans (a17 h);have p3:P m3:=Pon p2 λx hx=>o3 x (by omega);have c18:=λlo=>(X 18 (by kernel_rfl) _ _).trans (H.h18 xd y okd sd (.agg (dcV e3 v1 v2 v3 v4 v5 g1 g2 g3 g4)) ⟨m3++[.cells (dcV e3 v1 v2 v3 v4 v5 g1 g2 g3 g4),.cells (y.c.map .d)],lo⟩ (by rw [jB,cz _ lo λz _ hz=>am hz]));have c19:=λlo=>(X 19 (by kernel_rfl) _ _).trans (H.h19 e3 v1 v2 v3 v4 v5 g1 g2 g3 g4 (m3++[.cells (dcV e3 v1 v2 v3 v4 v5 g1 g2 g3 g4),.cells (y.c.map .d)]) lo (by
  rw [ao];exact G3.un _ (by omega)) G3.ov)
 obtain ⟨m4,F4,b15,o4⟩:=H.h15 m2.length m3.length (m3++[.cells (dcV e3 v1 v2 v3 v4 v5 g1 g2 g3 g4),.cells (y.c.map .d)]) _ (G3.sp.on (by simp) λz _ hz=>am hz);have d15:=λlo=>(X 15 (by kernel_rfl) _ _).trans (b15 lo);have p4:P m4:=Pon p3 λx hx=>by rw [o4 x (by omega),am (by omega)]
 have l4:4<m4.length:=aB p4.2.2.2.2;obtain ⟨m5,e5,u1,u2,u3,u4,u5,k5,x5,y5,F5,a20,a21,o5,l5,G5,s5⟩:=Zh H ha hd m4;have c20:=λlo=>(X 20 (by kernel_rfl) _ _).trans (a20 lo);have c21:=λh=>(X 21 (by kernel_rfl) _ _).trans (a21 h);have p5:P m5:=Pon p4 λx hx=>o5 x (by omega);have c11u:=λlo=>(X 11 (by kernel_rfl) _ _).trans (H.h11 x5 y5 G5.ok (.agg (az e5 u1 u2 u3 u4 u5)) ⟨m5++[.cells (az e5 u1 u2 u3 u4 u5),.cells (y5.c.map .d)],lo⟩ (by rw [jB,G5.fz _ lo λz _ hz=>am hz]));rw [vsm_same.1 s5] at c11u;obtain ⟨m6,F6,f15,o6⟩:=H.h15 m4.length m5.length (m5++[.cells (az e5 u1 u2 u3 u4 u5),.cells (y5.c.map .d)]) _ (G5.sp.on (by simp) λz _ hz=>am hz);have g15:=λlo=>(X 15 (by kernel_rfl) _ _).trans (f15 lo);have p6:P m6:=Pon p5 λx hx=>by rw [o6 x (by omega),am (by omega)]
 have z11a:=λh=>(X 11 (by kernel_rfl) _ _).trans (H.h11 a a.own17 ha.ok _ h lX);have z11b:=λh=>(X 11 (by kernel_rfl) _ _).trans (H.h11 b b.own17 hb.ok _ h lX);rw [vsm_same.1 (wE a)] at z11a;rw [vsm_same.1 (wE b)] at z11b;obtain ⟨q10,q11,q12,q13,q14⟩:=p1;obtain ⟨q20,q21,q22,q23,q24⟩:=p2;obtain ⟨q30,q31,q32,q33,q34⟩:=p3;obtain ⟨q40,q41,q42,q43,q44⟩:=p4;obtain ⟨q50,q51,q52,q53,q54⟩:=p5;obtain ⟨q60,q61,q62,q63,q64⟩:=p6;have at1:∀ (m:List Blk) (A B:List V),ah (m++[.cells A,.cells B]) (m.length+1)=some B:=λm A B=>by rw [uk]; rfl
 have ofB:∀ {m:List Blk} {i:Nat} {cs:List V},ah m i=some cs->∀ ys,ah (m++ys) i=some cs:=λh ys=>aJ h;have r13:=ofB q13; have r30:=ofB q30; have r31:=ofB q31; have r32:=ofB q32; have r33:=ofB q33; have r34:=ofB q34;have r50:=ofB q50; have r52:=ofB q52; have r53:=ofB q53;clear H X c11o e1 cz G1 G3 G5 okd sd a14 a15 a16 a17 b15 a20 a21 f15 o1 o2 o3 o4 o5 o6 hb1 hb2 hb3;cases hA:aT a<;>cases hB:a.same b<;>cases hD:dw d<;>simp only [hA,hB,hD] at c8 c9 c10 c11 c12 c13;all_goals
  simp +decide [ae,r8,c4a,c4b,c5,c7a,c7b,c8,c9,c10,c10a,c11,c12,c13,GN,aN,aA,aa,aM,aF,Tr.mute,aG,Tr.spares,List.range,List.range.loop,aj];simp +decide [c14,xu,uT,zh,c11o',r13,c15];simp +decide [q20,q21,c16,Jo,CP,Cm,r33,r34,c17,Jn,at1];simp +decide [c18,c19,d15,at1,CP,Cm];simp +decide [q40,q42,c20,xu,uT,zh,r52,r53,c21,GN,at1];simp +decide [c11u,g15,at1,uT,zh];simp +decide [q60,q61,q63,q64,z11a,z11b,c6]
end
section
@[simp] theorem Vw.own_epoch {v:Vw}:v.own.epoch=v.epoch:=(rfl)
section
variable {E:Calls'}
theorem I79 (d:Dlt)(h:Hp):Sm E TI aR 19 [d.v] h=some (d.vw.v,h):=by
 rw [aY i79 j79];simp +decide [ae,q79,aN]; rfl
theorem I17 (h70:∀ v:Vw,v.ok->∃ b:Bool,∀ h,E 4 [v.v] h=some (bl b,h))(d:Dlt)(hd:d.ok):∃ b:Bool,∀ h,Sm E TI aR 5 [d.v] h=some (bl b,h):=by
 obtain ⟨b,hb⟩:=h70 d.vw hd.1;have hb:∀ h,Sm E TI aR 4 [d.vw.v] h=some (bl b,h):=λh=>by rw [aO i70]; exact hb h
 have n79:=λh=>I79 (E:=E) d h;cases b with
 | true =>
  refine ⟨true,λh=>?_⟩;rw [aY i17 j17];simp +decide [ae,q17,n79,hb]
 | false =>
  refine ⟨decide (wrap .i64 (wrap .i64 (wrap .i64 ((d.gonePods.l.length:Int)+d.goneServices.l.length)+d.goneBound.l.length)+d.gonePolicies.l.length)>1000),λh=>?_⟩;rw [aY i17 j17];simp +decide [ae,q17,n79,hb]
end
end
