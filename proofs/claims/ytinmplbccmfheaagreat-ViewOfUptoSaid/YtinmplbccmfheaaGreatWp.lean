/- config.with, at any width. -/
import Derived.Test.YtinmplbccmfheaaGreatWa
set_option maxRecDepth 100000
set_option linter.unusedVariables false
set_option linter.unusedSimpArgs false
namespace Go.Proofs.YtinmplbccmfheaaGreat
open IntKind (wrap)
section
section
variable {E:Calls'}{T:FuncId->Option QF}{val:FuncId->Bool}
theorem DK {pr:List (List Nat)}{l:List Tr}(k:Nat)(hk:(List.range l.length).all (λj=>j==k||(pr.getD k []).contains j||(pr.getD j []).contains k)=true)(hm:(l.take k++l.drop (k+1)).all Tr.mute=true):bz pr l=true:=by
 rw [cj] at hk hm;have hmm:∀ j,j<l.length->j≠k->∃ t,l[j]?=some t/\t.mute=true:=by
  intro j hj hjk;refine ⟨l[j],by simp [hj],hm _ ?_⟩;rw [List.mem_append];obtain h | h:=Nat.lt_or_gt_of_ne hjk
  . left;rw [List.mem_take_iff_getElem];exact ⟨j,by omega,rfl⟩
  . right;rw [List.mem_drop_iff_getElem];exact ⟨j-(k+1),by omega,by congr 1; omega⟩
 unfold bz;simp only [cj,List.mem_range];intro i hi j hj;by_cases hij:i=j
 . simp [hij]
 by_cases hik:i=k
 . subst hik;have:=hk j (by simpa using hj);simp only [Bool.or_eq_true,beq_iff_eq] at this ⊢;obtain (h | h) | h:=this
   . exact absurd h.symm hij
   . exact .inl (.inl (.inr h))
   . exact .inl (.inr h)
 by_cases hjk:j=k
 . subst hjk;have:=hk i (by simpa using hi);simp only [Bool.or_eq_true,beq_iff_eq] at this ⊢;obtain (h | h) | h:=this
   . exact absurd h hij
   . exact .inl (.inr h)
   . exact .inl (.inl (.inr h))
 obtain ⟨s,hs,ms⟩:=hmm i hi hik;obtain ⟨t,ht,mt⟩:=hmm j hj hjk;simp only [Tr.mute,aE,Bool.not_eq_true',List.isEmpty_iff,beq_iff_eq] at ms mt;have:s.spares t=true:=by
  unfold Tr.spares;rw [ms.1.1,mt.1.1,ms.1.2,ms.2];cases t.call<;>simp
 simp [hs,ht,this]
def Ht {α:Type}(key:α->Int)(x:α)(l:List α):List α:=((l.filter λe=>!(key e==key x))++[x]).mergeSort λa b=>decide (key a<=key b)
end
end
section
section
variable {E:Calls'}{T:FuncId->Option QF}{val:FuncId->Bool}
theorem Gy {ev:X->V}{zero xs:List V}{z:Nat}{x:X}(h0:zero.length=z)(hx:xs.length=z)(he:ev x=.agg xs):aL ev zero [(0,z,x)]=some xs:=by
 simp [aL,he,V.cells,hx,put,h0]
end
end
section
def ZL:List V:=[(.d (.int .u64 0)),(.d (.str ⟨#[]⟩)),(.d (.int .u32 0)),(.d (.int .i64 0)),(.d (.int .u64 0))]
def ab0:List V:=[(.d (.int .u64 0)),(.d (.int .i64 0))]
def YE:List V:=[(.d (.int .u64 0)),(.d (.str ⟨#[]⟩)),(.d (.int .u64 0)),(.d (.int .i64 0)),(.d (.slice true []))]
end
section
structure Edt where
 kind:Int
 id:Int
 pod:Pod
 svc:Svc
 way:Way
 pol:Pol
def Edt.c (e:Edt):List D:=[i64 e.kind,u64 e.id]++e.pod.c++e.svc.c++e.way.c++e.pol.c
@[simp] theorem Edt.len {x:Edt}:x.c.length=21:=(rfl)
@[simp] theorem Edt.all {x:Edt}:sub x.c 0 21=some x.c:=(rfl)
@[simp] theorem Edt.s0_1 {x:Edt}:sub x.c 0 1=some [i64 x.kind]:=(rfl)
@[simp] theorem Edt.s1_1 {x:Edt}:sub x.c 1 1=some [u64 x.id]:=(rfl)
@[simp] theorem Edt.s2_7 {x:Edt}:sub x.c 2 7=some x.pod.c:=(rfl)
@[simp] theorem Edt.s9_5 {x:Edt}:sub x.c 9 5=some x.svc.c:=(rfl)
@[simp] theorem Edt.s14_2 {x:Edt}:sub x.c 14 2=some x.way.c:=(rfl)
@[simp] theorem Edt.s16_5 {x:Edt}:sub x.c 16 5=some x.pol.c:=(rfl)
@[simp] theorem Edt.s5_1 {x:Edt}:sub x.c 5 1=some [i64 x.pod.host]:=(rfl)
@[simp] theorem Edt.s6_1 {x:Edt}:sub x.c 6 1=some [u32 x.pod.addr]:=(rfl)
theorem Cfg.p0 {x:Cfg}{n:Int}:put (x.c.map V.d) 0 [.d (u64 n)]=some (({ x with epoch:=n }:Cfg).c.map V.d):=(rfl)
theorem Cfg.p1 {x:Cfg}{n:Int}:put (x.c.map V.d) 1 [.d (u64 n)]=some (({ x with next:=n }:Cfg).c.map V.d):=(rfl)
theorem Cfg.p4 {x:Cfg}{s:Sl Pod}:put (x.c.map V.d) 4 [.d (s.d Pod.c)]=some (({ x with pods:=s }:Cfg).c.map V.d):=(rfl)
theorem Cfg.p5 {x:Cfg}{s:Sl Svc}:put (x.c.map V.d) 5 [.d (s.d Svc.c)]=some (({ x with services:=s }:Cfg).c.map V.d):=(rfl)
theorem Cfg.p6 {x:Cfg}{s:Sl Way}:put (x.c.map V.d) 6 [.d (s.d Way.c)]=some (({ x with bound:=s }:Cfg).c.map V.d):=(rfl)
theorem Cfg.p7 {x:Cfg}{s:Sl Pol}:put (x.c.map V.d) 7 [.d (s.d Pol.c)]=some (({ x with policies:=s }:Cfg).c.map V.d):=(rfl)
theorem Pod.p0 {x:Pod}{n:Int}:put (x.c.map V.d) 0 [.d (u64 n)]=some (({ x with uid:=n }:Pod).c.map V.d):=(rfl)
theorem Pod.p3 {x:Pod}{n:Int}:put (x.c.map V.d) 3 [.d (i64 n)]=some (({ x with host:=n }:Pod).c.map V.d):=(rfl)
theorem Pod.p4 {x:Pod}{n:Int}:put (x.c.map V.d) 4 [.d (u32 n)]=some (({ x with addr:=n }:Pod).c.map V.d):=(rfl)
end
section
end
section
end
section
def Cfg.own (c:Cfg):Cfg:={ c with policies:=⟨c.policies.nl,c.policies.l.map Pol.own⟩ }
end
section
theorem uu {α:Type}{B:Nat}{l:List α}(h:l.length<=B):fit B ⟨l.isEmpty,l⟩:=⟨h,λhh=>by simpa using hh⟩
theorem Rule.own_wf {B:Nat}{r:Rule}(h:r.wf B):r.own.wf B:=⟨⟨uu h.1.1.1,h.1.2⟩,⟨uu h.2.1.1.1,h.2.1.2⟩,⟨uu h.2.2.1.1,h.2.2.2⟩⟩
theorem Pol.own_wf {B:Nat}{p:Pol}(h:p.wf B):p.own.wf B:=by
 refine ⟨h.1,h.2.1,h.2.2.1,h.2.2.2.1,⟨?_,λhh=>by simpa [Pol.own] using hh⟩,λx hx=>?_⟩
 . simp only [Pol.own,b9]; exact h.2.2.2.2.1.1
 . obtain ⟨r,hr,rfl⟩:=cb.1 hx;exact Rule.own_wf (h.2.2.2.2.2 r hr)
theorem Cfg.own_wf {B:Nat}{c:Cfg}(h:c.wf B):c.own.wf B:=by
 obtain ⟨h1,h2,h3,h4,h5,h6,h7,h8⟩:=h;refine ⟨h1,h2,h3,h4,h5,h6,h7,⟨?_,λhh=>?_⟩,λx hx=>?_⟩
 . simp only [Cfg.own,b9]; exact h8.1.1
 . simp only [Cfg.own] at hh ⊢; rw [h8.1.2 hh]; rfl
 . obtain ⟨p,hp,rfl⟩:=cb.1 hx;exact Pol.own_wf (h8.2 p hp)
def Edt.wf (B:Nat)(e:Edt):Prop:=Inr .i64 e.kind/\Inr .u64 e.id/\e.pod.wf B/\e.svc.wf B/\e.way.wf B/\e.pol.wf B
end
section
section
variable {E:Calls'}(h385:∀ t:Target,t.wf big->∀ h,E 233 [ag t.c] h=some (bl (aS t),h))
theorem jZ {h:Hp}{k b o n z:Nat}{cap:Option Nat}{d:D}(hd:dataV h (k+1) (.row b o n cap z)=some d):∃ l,d=.slice false l:=by
 simp only [dataV] at hd;split at hd
 . split at hd
   . split at hd
     . cases hd; exact ⟨_,rfl⟩
     . cases hd
   . cases hd
 . cases hd
theorem JC {h:Hp}{r:V}{b:Bool}(hr:frz h r=some (bl b)):r=bl b:=by
 cases r with
 | d x=>simpa using hr
 | row b' o n cap z =>
  exfalso;simp only [frz,cO] at hr;cases hd:dataV h 8 (.row b' o n cap z) with
  | none=>rw [hd] at hr; cases hr
  | some d =>
   rw [hd] at hr;obtain ⟨l,rfl⟩:=jZ hd;cases hr
 | ptr b' o=>simp [frz,cO,dataV] at hr
 | eptr cs o=>simp [frz,cO,dataV] at hr
 | undef=>simp [frz,cO] at hr
 | fn f cs=>cases cs<;>simp [frz,cO] at hr
 | mfn f cs=>simp [frz,cO,dataV] at hr
 | agg cs =>
  simp only [frz,cO] at hr;split at hr<;>cases hr
 | tup vs =>
  simp only [frz] at hr;split at hr<;>cases hr
end
end
section
end
section
def Cfg.same (a b:Cfg):Bool:=a.epoch==b.epoch&&a.next==b.next&&a.hosts==b.hosts&&a.ways==b.ways&&(all2 Pod.eqB a.pods.l b.pods.l&&(all2 Svc.eqB a.services.l b.services.l&&(all2 Way.eqB a.bound.l b.bound.l&&all2 Pol.same a.policies.l b.policies.l)))
end
section
theorem CY {α:Type}{key:α->Int}:∀ {l m:List α},l.Pairwise (λa b=>key a<key b)->m.Pairwise (λa b=>key a<key b)->(∀ x,x∈l↔x∈m)->l=m
 | [],[],_,_,_=>rfl
 | [],b::m,_,_,h=>by have:=(h b).2 (by simp); simp at this
 | a::l,[],_,_,h=>by have:=(h a).1 (by simp); simp at this
 | a::l,b::m,h1,h2,h=>by
  obtain ⟨p1,p2⟩:=List.pairwise_cons.1 h1;obtain ⟨q1,q2⟩:=List.pairwise_cons.1 h2;have hab:a=b:=by
   obtain e | e:=List.mem_cons.1 ((h a).1 (by simp))
   . exact e
   . obtain e2 | e2:=List.mem_cons.1 ((h b).2 (by simp))
     . exact e2.symm
     . have:=q1 a e; have:=p1 b e2; omega
  subst hab;have:=CY p2 q2 λx=>⟨λhx=>by
   obtain e | e:=List.mem_cons.1 ((h x).1 (List.mem_cons_of_mem _ hx))
   . subst e; have:=p1 x hx; omega
   . exact e,λhx=>by
   obtain e | e:=List.mem_cons.1 ((h x).2 (List.mem_cons_of_mem _ hx))
   . subst e; have:=q1 x hx; omega
   . exact e⟩
  rw [this]
theorem H7 {α:Type}{key:α->Int}{l:List α}(h:bQ (l.map key)=true):l.Pairwise (λa b=>key a<key b):=by
 have:=pu h
 rwa [List.pairwise_map] at this
def Lg (n:Int)(x:Int):Prop:=0<=n/\x<2 ^ n.toNat/\(1<=x->2 ^ n.toNat<=2 * x)
theorem MI:((List.range 256).all λi=>decide ((i:Int)<2 ^ (lenT i).toNat)&&(decide (i=0)||decide ((2:Int) ^ (lenT i).toNat<=2 * i)))=true:=by decide +kernel
theorem Fg {x:Int}(h0:0<=x)(h1:x<256):Lg (lenT (wrap .u8 x).toNat) x:=by
 have hw:wrap .u8 x=x:=by simp [wrap,IntKind.bits,IntKind.signed]; omega
 rw [hw];have:=cj.1 MI x.toNat (List.mem_range.2 (by omega));simp only [aE,Bool.or_eq_true,bw] at this;have hx:((x.toNat:Nat):Int)=x:=by omega
 rw [hx] at this;exact ⟨(Aq _).1,this.1,λh=>by obtain h2 | h2:=this.2<;>omega⟩
theorem wX {n x K:Int}(k:Nat)(hK:K=2 ^ k)(hK0:0<K)(hx:K<=x)(h:Lg n (x.fdiv K)):Lg ((k:Int)+n) x:=by
 obtain ⟨h0,h1,h2⟩:=h;have e:((k:Int)+n).toNat=k+n.toNat:=by omega
 rw [Int.fdiv_eq_ediv_of_nonneg _ (by omega)] at h1 h2;have hp:(2:Int) ^ (k+n.toNat)=K * 2 ^ n.toNat:=by rw [Int.pow_add,← hK]
 have hd:=Int.mul_ediv_add_emod x K;have hm:=Int.emod_nonneg x (show K≠0 by omega);have hl:=Int.emod_lt_of_pos x hK0;have hq:1<=x / K:=by
  have:=(Int.le_ediv_iff_mul_le hK0 (a:=1) (b:=x)).2 (by omega);exact this
 refine ⟨by omega,?_,λ_=>?_⟩
 . rw [e,hp];have:=(Int.ediv_lt_iff_lt_mul hK0).1 h1;rw [Int.mul_comm]; exact this
 . rw [e,hp];have h3:=Int.mul_le_mul_of_nonneg_left (h2 hq) (Int.le_of_lt hK0);have h4:K * (2 * (x / K))=2 * (K * (x / K)):=by rw [Int.mul_left_comm]
   omega
theorem xL {x:Int}(h0:0<=x)(h1:x<2 ^ 64):Lg (bY x) x:=by
 have hb:∀ y,0<=y->y<65536->Lg ((if y>=256 then 8 else 0)+lenT (wrap .u8 (uz y)).toNat) y:=by
  intro y a b;by_cases c:y>=256
  . rw [if_pos c,uz,if_pos c];have hd:y.fdiv 256=y / 256:=Int.fdiv_eq_ediv_of_nonneg _ (by omega);exact wX (K:=256) 8 (by decide) (by omega) c (Fg (by rw [hd]; omega) (by rw [hd]; omega))
  . rw [if_neg c,uz,if_neg c,Int.zero_add];exact Fg a (by omega)
 have ha:∀ y,0<=y->y<4294967296->Lg ((if y>=65536 then 16 else 0)+((if nY y>=256 then 8 else 0)+lenT (wrap .u8 (uz (nY y))).toNat)) y:=by
  intro y a b;by_cases c:y>=65536
  . have hB:nY y=y.fdiv 65536:=by rw [nY,if_pos c]
    rw [if_pos c,hB];have hd:y.fdiv 65536=y / 65536:=Int.fdiv_eq_ediv_of_nonneg _ (by omega);exact wX (K:=65536) 16 (by decide) (by omega) c (hb _ (by rw [hd]; omega) (by rw [hd]; omega))
  . have hB:nY y=y:=by rw [nY,if_neg c]
    rw [if_neg c,hB,Int.zero_add];exact hb _ a (by omega)
 have hz:bY x=(if x>=4294967296 then 32 else 0)+((if mW x>=65536 then 16 else 0)+((if nY (mW x)>=256 then 8 else 0)+lenT (wrap .u8 (uz (nY (mW x)))).toNat)):=by
  unfold bY; omega
 rw [hz];by_cases c:x>=4294967296
 . have hA:mW x=x.fdiv 4294967296:=by rw [mW,if_pos c]
   rw [if_pos c,hA];have hd:x.fdiv 4294967296=x / 4294967296:=Int.fdiv_eq_ediv_of_nonneg _ (by omega);exact wX (K:=4294967296) 32 (by decide) (by omega) c (ha _ (by rw [hd]; omega) (by rw [hd]; omega))
 . have hA:mW x=x:=by rw [mW,if_neg c]
   rw [if_neg c,hA,Int.zero_add];exact ha _ h0 (by omega)
theorem Mt (x:Int):oP x=if (bY x+6) / 7>1 then (bY x+6) / 7 else 1:=by
 have:=oQ x;have h2:(bY x+6).tdiv 7=(bY x+6) / 7:=Int.tdiv_eq_ediv_of_nonneg (by omega);unfold oP; rw [h2]
theorem tX {a b:Cfg}(h1:a.hosts=b.hosts)(h2:a.ways=b.ways):∀ (l pre:List Way),iH a pre l=iH b pre l
 | [],_=>rfl
 | x::l,pre=>by
  have ih:=tX h1 h2 l (pre++[x]);simp only [iH,ih,iM,h1,h2]
theorem yM {a b:Cfg}(h1:a.hosts=b.hosts)(h2:a.ways=b.ways)(h3:a.bound.l=b.bound.l):fF a=fF b:=by
 simp only [fF,tX h1 h2,h3]
theorem Pol.own_same (p:Pol):Pol.same p.own p=true:=by
 have:all2 Rule.same (p.rules.l.map Rule.own) p.rules.l=true:=by
  rw [Bt]; exact eO Rule.same_refl _
 simp [Pol.same,Pol.own,this]
theorem Cfg.same_refl (a:Cfg):a.same a=true:=by
 simp [Cfg.same,eO (λ_=>Pod.eqB_iff.2 rfl),eO (λ_=>Svc.eqB_iff.2 rfl),eO (λ_=>Way.eqB_iff.2 rfl),eO Pol.same_refl]
end
section
abbrev Pr (α:Type):=List Int->Option (α×List Int)
def Pr.ret {α:Type}(x:α):Pr α:=λb=>some (x,b)
def Pr.seq {α β:Type}(p:Pr α)(q:Pr β):Pr (α×β):=λb=>match p b with
 | some (x,l)=>match q l with
  | some (y,m)=>some ((x,y),m)
  | none=>none
 | none=>none
def Pr.map {α β:Type}(f:α->β)(p:Pr α):Pr β:=λb=>match p b with
 | some (x,l)=>some (f x,l)
 | none=>none
def Pr.keep {α:Type}(p:Pr α)(ok:α->Bool):Pr α:=λb=>match p b with
 | some (x,l)=>if ok x=true then some (x,l) else none
 | none=>none
theorem wrap_u8 (x:Int):wrap .u8 x=x % 256:=by simp [wrap,IntKind.bits,IntKind.signed]
theorem Rs:((List.range 256).all λa=>decide (orI .u8 (a:Int) 128=(a:Int) % 128+128))=true:=by decide +kernel
theorem Rq (x:Int):orI .u8 (wrap .u8 x) 128=x % 128+128:=by
 rw [wrap_u8];have h:=cj.1 Rs (x % 256).toNat (List.mem_range.2 (by omega));simp only [bw] at h;have e:(((x % 256).toNat:Nat):Int)=x % 256:=by omega
 rw [e] at h;rw [h]; omega
end
section
theorem gm {α β:Type}{f:α->α->Bool}{g:α->β}(h:∀ x y,f x y=true↔g x=g y):∀ {l m:List α},all2 f l m=true↔l.map g=m.map g
 | [],[]=>by simp [all2]
 | [],y::m=>by simp [all2]
 | x::l,[]=>by simp [all2]
 | x::l,y::m=>by
  have ih:=gm (f:=f) (g:=g) h (l:=l) (m:=m);simp only [all2,aE,cn,List.cons.injEq];rw [h x y,ih]
def Sl.nf {α:Type}(f:α->α)(s:Sl α):Sl α:=⟨false,s.l.map f⟩
theorem Sl.nf_iff {α:Type}{f:α->α}{s t:Sl α}:s.nf f=t.nf f↔s.l.map f=t.l.map f:=by
 simp [Sl.nf]
def Source.nf (s:Source):Source:=⟨s.names.nf id,s.spaces.nf id,s.nets.nf id⟩
def Target.nf (s:Target):Target:=⟨s.ports.nf id,s.methods.nf id,s.paths.nf id,s.hosts.nf id⟩
def When.nf (s:When):When:=⟨s.head,s.terms.nf id⟩
def Rule.nf (s:Rule):Rule:=⟨s.frm.nf Source.nf,s.to.nf Target.nf,s.whn.nf When.nf⟩
def Pol.nf (s:Pol):Pol:={ s with rules:=s.rules.nf Rule.nf }
theorem vk {l m:List Term}:all2 Term.eqB l m=true↔l.map id=m.map id:=gm (f:=Term.eqB) (g:=id) λ_ _=>Term.eqB_iff
theorem Gv {l m:List Cidr}:all2 Cidr.eqB l m=true↔l.map id=m.map id:=gm (f:=Cidr.eqB) (g:=id) λ_ _=>Cidr.eqB_iff
theorem JH {l m:List Int}:all2 (λx y:Int=>x==y) l m=true↔l.map id=m.map id:=gm (f:=λx y:Int=>x==y) (g:=id) λ_ _=>by simp
theorem Source.same_iff {a b:Source}:a.same b=true↔a.nf=b.nf:=by
 simp only [Source.same,aE,vk,Gv,Source.nf,Source.mk.injEq,Sl.nf_iff]
theorem Target.same_iff {a b:Target}:a.same b=true↔a.nf=b.nf:=by
 simp only [Target.same,aE,vk,JH,Target.nf,Target.mk.injEq,Sl.nf_iff];constructor
 . rintro ⟨h1,h2,h3,h4⟩; exact ⟨h4,h1,h2,h3⟩
 . rintro ⟨h4,h1,h2,h3⟩; exact ⟨h1,h2,h3,h4⟩
theorem When.same_iff {a b:When}:a.same b=true↔a.nf=b.nf:=by
 simp only [When.same,aE,vk,eqS_iff,When.nf,When.mk.injEq,Sl.nf_iff]
theorem Rule.same_iff {a b:Rule}:a.same b=true↔a.nf=b.nf:=by
 simp only [Rule.same,aE,gm (λx y=>Source.same_iff (a:=x) (b:=y)),gm (λx y=>Target.same_iff (a:=x) (b:=y)),gm (λx y=>When.same_iff (a:=x) (b:=y)),Rule.nf,Rule.mk.injEq,Sl.nf_iff]
theorem Pol.same_iff {a b:Pol}:a.same b=true↔a.nf=b.nf:=by
 simp only [Pol.same,aE,beq_iff_eq,eqS_iff,gm (λx y=>Rule.same_iff (a:=x) (b:=y)),Pol.nf,Pol.mk.injEq,Sl.nf_iff]
theorem Aa {α:Type}{p:α->Bool}{f:α->α}(h:∀ x,p (f x)=p x)(s:Sl α):(s.nf f).l.all p=s.l.all p:=by
 simp only [Sl.nf,List.all_map]
 congr 1
 funext x;exact h x
theorem pI (s:Sl Term):aT (s.nf id)=aT s:=by simp [aT,Sl.nf]
theorem Bg (s:Source):bZ s.nf=bZ s:=by
 simp only [bZ,Source.nf,pI];simp [kD,Sl.nf]
theorem Bi (s:Target):aS s.nf=aS s:=by
 simp only [aS,Target.nf,pI];simp [Sl.nf]
theorem Fa (s:When):gX s.nf=gX s:=by
 simp only [gX,When.nf,pI];simp [Sl.nf]
theorem EC (s:Rule):fe s.nf=fe s:=by
 simp only [fe,Rule.nf,Aa Bg,Aa Bi,Aa Fa];simp [Sl.nf]
theorem Ho (p:Pol):fB p.nf=fB p:=by
 simp only [fB,Pol.nf,Aa EC];simp only [Sl.nf,b9];rfl
end
section
theorem wrap_u64 (x:Int):wrap .u64 x=x % 18446744073709551616:=by simp [wrap,IntKind.bits,IntKind.signed]
theorem rX {α β:Type}{f g:α->List β}{l:List α}(h:∀ x∈l,f x=g x):l.flatMap f=l.flatMap g:=by
 induction l with
 | nil=>rfl
 | cons x l ih=>simp only [List.flatMap_cons,h x (by simp),ih λy hy=>h y (by simp [hy])]
theorem tQ {α:Type}{e:α->List Int}{f:α->α}(h:∀ x,e (f x)=e x)(l:List α):seqB e (l.map f)=seqB e l:=by
 simp only [seqB,b9,List.flatMap_map]
 congr 1
 exact rX λx _=>h x
abbrev aa2 (n:Int):Prop:=0<=n/\n<2 ^ 64
theorem EH (s:Source):gI s.nf=gI s:=by simp [gI,Source.nf,Sl.nf,jh]
theorem EW (s:Target):gJ s.nf=gJ s:=by simp [gJ,Target.nf,Sl.nf,jh]
theorem LC (s:When):lQ s.nf=lQ s:=by simp [lQ,When.nf,Sl.nf,jh]
theorem KT (s:Rule):kV s.nf=kV s:=by
 simp only [kV,Rule.nf,Sl.nf,tQ EH,tQ EW,tQ LC]
theorem M8 (s:Pol):lZ s.nf=lZ s:=by
 simp only [lZ,Pol.nf,Sl.nf,tQ KT]
theorem Kh (s:Pol):gH s.nf=gH s:=by rw [gH,M8]; rfl
theorem Inr.u64 {n:Int}(h:Inr .u64 n):aa2 n:=by
 simp [Inr,Lit.wf,IntKind.min,IntKind.max,IntKind.bits,IntKind.signed] at h;exact ⟨h.1,by omega⟩
theorem Inr.u32 {n:Int}(h:Inr .u32 n):0<=n/\n<=4294967295:=by
 simp [Inr,Lit.wf,IntKind.min,IntKind.max,IntKind.bits,IntKind.signed] at h;exact ⟨h.1,by omega⟩
end
section
variable {E:Calls'}
theorem Nf {l:List V}{i:Nat}{x:V}(h:i<l.length):put l i [x]=some (l.set i x):=by
 simp only [put,cg,ch];rw [if_pos (by omega),List.set_eq_take_append_cons_drop,if_pos h];simp
theorem F9 {l:List V}{i:Nat}(h:i<l.length):sub l i 1=some [l[i]]:=by
 rw [eG,if_pos (by omega),ba h]; rfl
def jk (x:Int)(j:Nat):Int:=x / 128 ^ j % 128
theorem Cb (x:Int)(j:Nat):0<=jk x j/\jk x j<128:=⟨Int.emod_nonneg _ (by decide),Int.emod_lt_of_pos _ (by decide)⟩
def kP (x:Int):Nat->Nat
 | 0=>0
 | i+1=>if jk x i>0 then i else kP x i
theorem Av (x:Int):∀ i,kP x i<=i-1
 | 0=>br _
 | i+1=>by
  have:=Av x i;simp only [kP];split<;>omega
def fq (f:Nat->Int):List V:=(List.range 10).map λj=>iv .u8 (f j)
theorem xc (f:Nat->Int):(fq f).length=10:=by simp [fq]
theorem L8 (f:Nat->Int){i:Nat}(h:i<10):sub (fq f) i 1=some [iv .u8 (f i)]:=by
 rw [F9 (by rw [xc]; exact h)];simp [fq]
theorem IZ (f:Nat->Int){i:Nat}(h:i<10)(y:Int):put (fq f) i [iv .u8 y]=some (fq λj=>if j=i then y else f j):=by
 rw [Nf (by rw [xc]; exact h)]
 congr 1
 apply List.ext_getElem
 . simp [fq]
 . intro n h1 h2;rw [List.getElem_set];simp only [fq,List.getElem_map,List.getElem_range];by_cases hn:i=n
   . simp [hn]
   . rw [if_neg hn,if_neg (λh=>hn h.symm)]
theorem qI {f g:Nat->Int}(h:∀ j,j<10->f j=g j):fq f=fq g:=by
 simp only [fq];apply List.map_congr_left;intro j hj;rw [h j (by simpa using hj)]
theorem FN {b i:Nat}(h:i<10)(hp:Hp):eP (some 10) 1 (.ptr b 0) (.d (.int .i64 (i:Int))) hp=some (.ptr b i,hp):=by
 simp only [eP];rw [if_pos ⟨by omega,by omega⟩];simp
theorem JQ {bs:List Blk}{b lo i:Nat}{f:Nat->Int}(hb:ah bs b=some (fq f))(h:i<10):ldv ⟨bs,lo⟩ (.ptr b i) 1 true=some (.d (.int .u8 (f i)),⟨bs,lo⟩):=by
 rw [aG,get_eq];show (match (match ah bs b with | some cs=>sub cs i 1 | none=>none) with | some cs=>_ | none=>none)=_;rw [hb];simp only [L8 f h]; rfl
theorem Le {bs:List Blk}{b lo i:Nat}{f:Nat->Int}(hb:ah bs b=some (fq f))(h:i<10)(y:Int):stv ⟨bs,lo⟩ (.ptr b i) (.d (.int .u8 y)) 1=some (.undef,⟨bs.set b (.cells (fq λj=>if j=i then y else f j)),min lo b⟩):=by
 have hp:=IZ f h y;simp only [iv] at hp;simp [aN,Di,hb,hp,-jV,-jd]
def QI (a b:Int):Int:=wrap .u64 ((BitVec.ofInt 64 a &&& BitVec.ofInt 64 b).toNat)
theorem y8 {a b:Int}:bC .and (.d (.int .u64 a)) (.d (.int .u64 b))=some (.int .u64 (QI a b)):=by
 simp only [bC,fw,if_true];rfl
theorem LZ {x:Int}(h0:0<=x)(h1:x<2 ^ 64):QI x 127=x % 128:=by
 obtain ⟨n,rfl⟩:=Int.eq_ofNat_of_zero_le h0;have e:(BitVec.ofInt 64 (n:Int) &&& BitVec.ofInt 64 127).toNat=n % 128:=by
  rw [show (127:Int)=((127:Nat):Int) from rfl,BitVec.ofInt_natCast,BitVec.ofInt_natCast,BitVec.toNat_and,BitVec.toNat_ofNat,BitVec.toNat_ofNat];rw [Nat.mod_eq_of_lt (show n<2 ^ 64 by omega),show 127 % 2 ^ 64=2 ^ 7-1 from rfl,Nat.and_two_pow_sub_one_eq_mod]
 rw [QI,e];simp [wrap,IntKind.bits,IntKind.signed];omega
theorem BG {x:Int}:bC .shr (.d (.int .u64 x)) (.d (.int .u64 7))=some (.int .u64 (x.fdiv 128)):=by simp [bC,IntKind.bits]
theorem Na {x:Int}(h0:0<=x)(i:Nat):(x / 128 ^ i).fdiv 128=x / 128 ^ (i+1):=by
 have hp:(0:Int)<128 ^ i:=Int.pow_pos (by omega);rw [Int.fdiv_eq_ediv_of_nonneg _ (by omega),Int.ediv_ediv_of_nonneg (by omega),Int.pow_succ]
def jX (x:Int)(i j:Nat):Int:=if j<i then jk x j else 0
theorem ak1 {x:Int}(h0:0<=x)(h1:x<2 ^ 64)(bs:List Blk):∀ (m i:Nat) (ys:List Blk),i+m=10->ys=[.cells (fq (jX x i))] →
 Cd E TX aP (.loop [0,3,4,5] nI) [(0,.d (u64 (x / 128 ^ i))),(3,.ptr bs.length 0),(4,.d (i64 (kP x i:Nat))),(5,.d (i64 i))] ⟨bs++ys,bs.length⟩ =
  some (.exit 0,[(3,.ptr bs.length 0),(4,.d (i64 (kP x 10:Nat)))],⟨bs++[.cells (fq (jX x 10))],bs.length⟩):=by
 intro m;have key:=ay (E:=E) (T:=TX) (val:=aP) [0,3,4,5] nI;generalize Cd E TX aP (.loop [0,3,4,5] nI)=W at key ⊢
 induction m with
 | zero =>
  intro i ys hi hy;have:i=10:=by omega
  subst this;subst hy;rw [key];simp [nI]
 | succ m ih =>
  intro i ys hi hy;have hi10:i<10:=by omega
  have hxi0:0<=x / 128 ^ i:=Int.ediv_nonneg h0 (Int.le_of_lt (Int.pow_pos (by omega)));have hxi1:x / 128 ^ i<2 ^ 64:=Int.lt_of_le_of_lt (Int.ediv_le_self _ h0) h1;have hand:=LZ hxi0 hxi1;have hdig:x / 128 ^ i % 128=jk x i:=rfl;have hdr:=Cb x i;have hw8:wrap .u8 (jk x i)=jk x i:=by rw [wrap_u8]; omega
  have hsh:=Na h0 i;have hw:wrap .i64 ((i:Int)+1)=((i+1:Nat):Int):=by rw [wrap64]<;>omega
  have hb:ah (bs++ys) bs.length=some (fq (jX x i)):=by subst hy; simp
  have hst:=Le (lo:=bs.length) hb hi10 (jk x i);have hcong:(fq λj=>if j=i then jk x i else jX x i j)=fq (jX x (i+1)):=qI λj hj=>by
   simp only [jX];by_cases h2:j=i
   . subst h2; simp
   . rw [if_neg h2];by_cases h3:j<i
     . rw [if_pos h3,if_pos (by omega)]
     . rw [if_neg h3,if_neg (by omega)]
  have hset:(bs++ys).set bs.length (.cells (fq λj=>if j=i then jk x i else jX x i j))=bs++[.cells (fq (jX x (i+1)))]:=by
   subst hy; rw [hcong]; simp
  rw [hset,Nat.min_self] at hst;have hb2:ah (bs++[.cells (fq (jX x (i+1)))]) bs.length=some (fq (jX x (i+1))):=by simp
  have hld:=λlo=>JQ (lo:=lo) hb2 hi10;have hsi:jX x (i+1) i=jk x i:=by simp [jX]
  rw [hsi] at hld;have hix:=λh=>FN (b:=bs.length) hi10 h;have h10:((i:Int)<10):=by omega
  have k:=ih (i+1) _ (by omega) rfl;rw [← k,key];by_cases hd:jk x i>0
  . have hl:kP x (i+1)=i:=by simp [kP,hd]
    simp [nI,h10,y8,hand,hdig,hw8,hix,hst,BG,hsh,hld,hd,hl,hw,-aN,-aG]
  . have hl:kP x (i+1)=kP x i:=by simp [kP,hd]
    simp [nI,h10,y8,hand,hdig,hw8,hix,hst,BG,hsh,hld,hd,hl,hw,-aN,-aG]
def kX (x:Int)(i j:Nat):Int:=if j<i then jk x j+128 else jk x j
theorem al5 {x:Int}(bs:List Blk)(n:Nat)(hn:n<=9):∀ (m i:Nat) (ys:List Blk),i+m=n->ys=[.cells (fq (kX x i))] →
 Cd E TX aP (.loop [3,4,6] qc) [(3,.ptr bs.length 0),(4,.d (i64 (n:Nat))),(6,.d (i64 i))] ⟨bs++ys,bs.length⟩ =
  some (.exit 2,[(3,.ptr bs.length 0),(4,.d (i64 (n:Nat)))],⟨bs++[.cells (fq (kX x n))],bs.length⟩):=by
 intro m;have key:=ay (E:=E) (T:=TX) (val:=aP) [3,4,6] qc;generalize Cd E TX aP (.loop [3,4,6] qc)=W at key ⊢
 induction m with
 | zero =>
  intro i ys hi hy;have:i=n:=by omega
  subst this;subst hy;rw [key];simp [qc]
 | succ m ih =>
  intro i ys hi hy;have hi10:i<10:=by omega
  have hdr:=Cb x i;have hw8:wrap .u8 (jk x i+128)=jk x i+128:=by rw [wrap_u8]; omega
  have hw:wrap .i64 ((i:Int)+1)=((i+1:Nat):Int):=by rw [wrap64]<;>omega
  have hb:ah (bs++ys) bs.length=some (fq (kX x i)):=by subst hy; simp
  have hld:=JQ (lo:=bs.length) hb hi10;have hsi:kX x i i=jk x i:=by simp [kX]
  rw [hsi] at hld;have hst:=Le (lo:=bs.length) hb hi10 (jk x i+128);have hcong:(fq λj=>if j=i then jk x i+128 else kX x i j)=fq (kX x (i+1)):=qI λj hj=>by
   simp only [kX];by_cases h2:j=i
   . subst h2; simp
   . rw [if_neg h2];by_cases h3:j<i
     . rw [if_pos h3,if_pos (by omega)]
     . rw [if_neg h3,if_neg (by omega)]
  have hset:(bs++ys).set bs.length (.cells (fq λj=>if j=i then jk x i+128 else kX x i j))=bs++[.cells (fq (kX x (i+1)))]:=by
   subst hy; rw [hcong]; simp
  rw [hset,Nat.min_self] at hst;have hix:=λh=>FN (b:=bs.length) hi10 h;have h10:((i:Int)<(n:Int)):=by omega
  have k:=ih (i+1) _ (by omega) rfl;rw [← k,key];simp [qc,h10,hix,hld,hw8,hst,hw,-aN,-aG]
theorem yE:∀ (k:Nat) (x:Int),0<=x->qG k x=(List.range k).map (λj=>jk x j+128)++[wrap .u8 (x / 128 ^ k)]
 | 0,x,_=>by simp [qG]
 | k+1,x,h0=>by
  rw [qG,Rq,Int.fdiv_eq_ediv_of_nonneg _ (by omega),yE k (x / 128) (by omega),List.range_succ_eq_map,cn,List.cons_append,List.map_map];have e:∀ j,x / 128 / 128 ^ j=x / 128 ^ (j+1):=λj=>by
   rw [Int.ediv_ediv_of_nonneg (by omega),Int.pow_succ,Int.mul_comm]
  congr 2
  . simp [jk]
  . apply List.map_congr_left;intro j _;simp only [jk,Function.comp,e]
  . rw [e]
theorem FQ {x:Int}{k:Nat}(hz:∀ j,k<j->jk x j=0)(hk:k=0\/jk x k>0):∀ n,k<n->kP x n=k
 | 0,h=>by omega
 | i+1,h=>by
  simp only [kP];by_cases hi:i=k
  . subst hi;obtain h0 | h0:=hk
    . subst h0;split
      . rfl
      . rfl
    . rw [if_pos h0]
  . rw [hz i (by omega),if_neg (by decide),FQ hz hk i (by omega)]
theorem ML {x:Int}(h0:0<=x)(h1:x<2 ^ 64):kP x 10=(oP x).toNat-1/\x / 128 ^ ((oP x).toNat-1)<128:=by
 have hg:=Ao x;obtain ⟨a0,a1,a2⟩:=xL h0 h1;have hl:=oQ x;have hgeq:=Mt x;generalize hk:(oP x).toNat-1=k;have e:(oP x).toNat=k+1:=by omega
 have hlt:x<128 ^ (k+1):=by
  have h7:(128:Int) ^ (k+1)=2 ^ (7 * (k+1)):=by rw [Int.pow_mul]; rfl
  have hle:(bY x).toNat<=7 * (k+1):=by rw [← e]; split at hgeq<;>omega
  have hpp:(2:Int) ^ (bY x).toNat<=2 ^ (7 * (k+1)):=by exact_mod_cast Nat.pow_le_pow_right (by omega:0<2) hle
  rw [h7]; omega
 have hpk:(0:Int)<128 ^ k:=Int.pow_pos (by omega);have hq:x / 128 ^ k<128:=by
  rw [Int.pow_succ,Int.mul_comm] at hlt;exact (Int.ediv_lt_iff_lt_mul hpk).2 hlt
 refine ⟨FQ (λj hj=>?_) ?_ 10 (by omega),hq⟩
 . have h2:(128:Int) ^ (k+1)<=128 ^ j:=by exact_mod_cast Nat.pow_le_pow_right (by omega:0<128) (by omega:k+1<=j)
   rw [jk,Int.ediv_eq_zero_of_lt h0 (by omega)];rfl
 . by_cases hk0:k=0
   . exact .inl hk0
   . refine .inr ?_;have hlen:7 * k+1<=(bY x).toNat:=by split at hgeq<;>omega
     have hx1:1<=x:=by
      obtain h | h:=Int.lt_or_le x 1
      . have hx0:x=0:=by omega
        subst hx0;have:(oP 0).toNat-1=0:=by decide
        omega
      . exact h
     have h3:=a2 hx1;have h4:(2:Int) ^ (7 * k+1)<=2 ^ (bY x).toNat:=by exact_mod_cast Nat.pow_le_pow_right (by omega:0<2) hlen
     have h5:(2:Int) ^ (7 * k+1)=2 * 128 ^ k:=by rw [Int.pow_succ,Int.pow_mul,Int.mul_comm]; rfl
     have h6:(128:Int) ^ k<=x:=by omega
     have h7:1<=x / 128 ^ k:=(Int.le_ediv_iff_mul_le hpk).2 (by omega);rw [jk]; omega
theorem co1:TX 190=some SB:=by kernel_rfl
theorem cl1:aP 190=false:=by kernel_rfl
theorem EZ {x:Int}(h0:0<=x)(h1:x<2 ^ 64):(aQ x).map (iv .u8)=(fq (kX x (kP x 10))).take (kP x 10+1):=by
 obtain ⟨e1,e2⟩:=ML h0 h1;rw [aQ,← e1,yE _ _ h0];rw [← e1] at e2;have hk:=Av x 10;generalize kP x 10=k at *;have hn:0<=x / 128 ^ k:=Int.ediv_nonneg h0 (Int.le_of_lt (Int.pow_pos (by omega)));apply List.ext_getElem
 . simp [fq]; omega
 . intro n a1 a2;have hn1:n<k+1:=by simp at a1; omega
   simp only [List.getElem_map,List.getElem_take,fq,List.getElem_range]
   congr 1
   by_cases h:n<k
   . rw [List.getElem_append_left (by simpa using h)];simp [kX,h]
   . have:n=k:=by omega
     subst this;rw [List.getElem_append_right (by simp)];simp only [b9,List.length_range,Nat.sub_self,List.getElem_cons_zero,kX,jk,wrap_u8];rw [if_neg (by omega)];omega
theorem aq5 {x:Int}(h0:0<=x)(h1:x<2 ^ 64)(bs:List Blk):∃ A,∀ lo,Sm E TX aP 190 [.d (u64 x)] ⟨bs,lo⟩=some (.row (bs.length+2) 0 (aQ x).length none 1,⟨bs++[.cells A,.cells [],.cells ((aQ x).map (iv .u8))],min lo bs.length⟩):=by
 refine ⟨fq (kX x (kP x 10)),λlo=>?_⟩;have hk:=Av x 10;have k1:=ak1 (E:=E) h0 h1 bs 10 0 [.cells (fq (jX x 0))] rfl rfl;have hs1:fq (jX x 10)=fq (kX x 0):=qI λj hj=>by simp [jX,kX,hj]
 rw [hs1] at k1;have k2:=al5 (E:=E) (x:=x) bs (kP x 10) (by omega) (kP x 10) 0 [.cells (fq (kX x 0))] (by omega) rfl;have hu:=EZ h0 h1;have hul:(aQ x).length=kP x 10+1:=by
  have:=congrArg List.length hu;simp [fq] at this;omega
 have h00:fq (jX x 0)=[.d (.int .u8 0),.d (.int .u8 0),.d (.int .u8 0),.d (.int .u8 0),.d (.int .u8 0),.d (.int .u8 0),.d (.int .u8 0),.d (.int .u8 0),.d (.int .u8 0),.d (.int .u8 0)]:=by
  simp only [fq,jX]; rfl
 rw [h00] at k1;simp only [Int.pow_zero,Int.ediv_one] at k1;have hl0:kP x 0=0:=rfl;rw [hl0] at k1;have hal:=xc (kX x (kP x 10));rw [hul];generalize kP x 10=k at *;have hw:wrap .i64 ((k:Int)+1)=((k+1:Nat):Int):=by rw [wrap64]<;>omega
 have hsl:∀ (ev:X->V) lo,ev (.t 36)=.d (.int .i64 ((k+1:Nat):Int))->dH ⟨bs++[.cells (fq (kX x k)),.cells []],lo⟩ ev (.ar 10) 1 (.ptr bs.length 0) none (some (.t 36)) none=some (.row bs.length 0 (k+1) (some 10) 1):=λev lo hev=>by
  simp only [dH,dL,hev];rw [if_pos (by omega)];simp only [Int.toNat_natCast];rw [if_pos ⟨by omega,by omega,by omega,by omega⟩];simp [hal]
 have hrc:∀ lo,aH ⟨bs++[.cells (fq (kX x k)),.cells []],lo⟩ (.row bs.length 0 (k+1) (some 10) 1) 1=some (k+1,(fq (kX x k)).take (k+1)):=λlo=>by
  simp only [aH,if_true,get_eq,dU,uw,Nat.mul_one];rw [eG,if_pos (by rw [hal]; omega)];simp
 have hroom:roomy (0+(k+1)) 1=true:=by simp only [roomy,aE,bw]; omega
 have hap:∀ lo,d9 ⟨bs++[.cells (fq (kX x k)),.cells []],lo⟩ 1 1 (.row (bs.length+1) 0 0 (some 0) 1) (.row bs.length 0 (k+1) (some 10) 1)=some (.row (bs.length+2) 0 (k+1) none 1,⟨bs++[.cells (fq (kX x k)),.cells [],.cells ((aQ x).map (iv .u8))],lo⟩):=λlo=>by
  simp only [d9,hrc,aI,hu];rw [Nat.zero_add] at hroom;simp [hroom]
 rw [aJ co1 cl1];simp at k1 k2;simp [af,SB];rw [aj];simp [k1];rw [aj];simp [k2];simp [aL,hw,hsl,hap,V.under]
end
section
variable {E:Calls'}
def Bv (m:Nat)(bs:List Blk)(v:V)(l:List Int):Prop:=(l=[]/\v=.d (.slice true []))\/(l≠[]/\∃ b,m<=b/\v=.row b 0 l.length none 1/\ah bs b=some (l.map (iv .u8)))
theorem Bv.nu {m:Nat}{bs:List Blk}{v:V}{l:List Int}(h:Bv m bs v l):Go.Proofs.YtinmplbccmfheaaGreat.nu v=some v:=by
 obtain ⟨_,rfl⟩ | ⟨_,b,_,rfl,_⟩:=h<;>rfl
theorem Bv.ok {m:Nat}{bs:List Blk}{v:V}{l:List Int}(h:Bv m bs v l):okV v=true:=by
 obtain ⟨_,rfl⟩ | ⟨_,b,_,rfl,_⟩:=h<;>rfl
theorem Bv.lay {m:Nat}{bs:List Blk}{v:V}{l:List Int}(h:Bv m bs v l)(ys:List Blk):Bv m (bs++ys) v l:=by
 obtain h | ⟨h1,b,h2,h3,h4⟩:=h
 . exact .inl h
 . exact .inr ⟨h1,b,h2,h3,av h4⟩
theorem Bv.le {m m':Nat}{bs:List Blk}{v:V}{l:List Int}(h:Bv m bs v l)(hm:m'<=m):Bv m' bs v l:=by
 obtain h | ⟨h1,b,h2,h3⟩:=h
 . exact .inl h
 . exact .inr ⟨h1,b,by omega,h3⟩
def gG:V->Option Nat
 | .row b _ _ _ _=>some b
 | _=>none
def Kx (o:Option Nat)(bs bs':List Blk):Prop:=bs.length<=bs'.length/\∀ x,x<bs.length->o≠some x->bs'[x]?=bs[x]?
theorem Kx.refl (o:Option Nat)(bs:List Blk):Kx o bs bs:=⟨br _,λ_ _ _=>rfl⟩
theorem Kx.lay (o:Option Nat)(bs ys:List Blk):Kx o bs (bs++ys):=⟨by simp,λx hx _=>aq hx⟩
theorem Kx.trans {o o':Option Nat}{a b c:List Blk}(h:Kx o a b)(k:Kx o' b c)(ho:o'=o\/∀ y,o'=some y->a.length<=y):Kx o a c :=
 ⟨cf h.1 k.1,λx hx hn=>(k.2 x (by have:=h.1; omega) (λe=>by
  obtain rfl | ho:=ho
  . exact hn e
  . have:=ho x e; omega)).trans (h.2 x hx hn)⟩
theorem Kx.get {o:Option Nat}{bs bs':List Blk}(h:Kx o bs bs'){x:Nat}{cs:List V}(hn:o≠some x)(hg:ah bs x=some cs):ah bs' x=some cs:=by
 have:=h.2 x (aK hg) hn;unfold ah at hg ⊢;rw [this]; exact hg
theorem Bv.blk {m:Nat}{bs:List Blk}{v:V}{l:List Int}(h:Bv m bs v l){x:Nat}(hx:gG v=some x):m<=x/\x<bs.length:=by
 obtain ⟨_,rfl⟩ | ⟨_,b,h2,rfl,h4⟩:=h
 . cases hx
 . cases hx; exact ⟨h2,aK h4⟩
theorem Bv.app {m:Nat}{bs:List Blk}{v:V}{l xs:List Int}(h:Bv m bs v l)(hm:m<=bs.length)(hx:xs≠[])(hl:l.length+xs.length<=big){src:V}(hs:∀ lo,aH ⟨bs,lo⟩ src 1=some (xs.length,xs.map (iv .u8))) :
 ∃ bs',∃ F:Nat->Nat,(∀ lo,d9 ⟨bs,lo⟩ 1 1 v src=some (.row bs.length 0 (l++xs).length none 1,⟨bs',F lo⟩))/\Bv bs.length bs' (.row bs.length 0 (l++xs).length none 1) (l++xs)/\Kx (gG v) bs bs'/\bs'.length=bs.length+1/\∀ lo,m<=lo->m<=F lo:=by
 have hxl:xs.length≠0:=by intro h0; exact hx (List.length_eq_zero_iff.1 h0)
 have hroom:∀ n,n<=big->roomy n 1=true:=λn hn=>by simp only [roomy,aE,bw]; exact ⟨hn,by decide⟩
 obtain ⟨rfl,rfl⟩ | ⟨h1,b,h2,rfl,h4⟩:=h
 . refine ⟨bs++[.cells (xs.map (iv .u8))],id,λlo=>?_,.inr ⟨by simpa using hx,bs.length,br _,rfl,by simp⟩,Kx.lay _ _ _,by simp,λ_ h=>h⟩;simp only [d9,hs,aI,if_neg hxl,hroom xs.length (by simpa using hl)];simp
 . have hll:0<l.length:=List.length_pos_iff.2 h1;have hb:=aK h4;have hsub:sub (l.map (iv .u8)) 0 (l.length * 1)=some (l.map (iv .u8)):=bN (by simp);refine ⟨bs.set b (.cells [])++[.cells ((l++xs).map (iv .u8))],λlo=>min lo b,λlo=>?_,.inr ⟨by simp [h1],bs.length,br _,rfl,?_⟩,⟨by simp,λx hxm hxn=>?_⟩,by simp,λlo hlo=>by show m<=min lo b; omega⟩
   . simp only [d9,hs,aI,get_eq,h4,hsub,if_neg hxl,hroom _ hl];simp [hll,Hp.set]
   . have:=dU (bs:=bs.set b (.cells [])) (ys:=[.cells ((l++xs).map (iv .u8))]);simp only [List.length_set] at this;rw [this]; rfl
   . rw [aq (by simp; omega),am (λe=>hxn (by simp [gG,e]))]
def Gro (E:Calls')(f:FuncId)(args:List V)(o:Option Nat)(m:Nat)(bs:List Blk)(l:List Int):Prop:=∃ b bs' k,(∀ lo,Sm E TX aP f args ⟨bs,lo⟩=some (.row b 0 l.length none 1,⟨bs',min lo k⟩))/\Bv bs.length bs' (.row b 0 l.length none 1) l/\bs.length<=b/\Kx o bs bs'/\m<=k
theorem Gro.short {x:Int}(h0:0<=x)(h1:x<2 ^ 64){m:Nat}{bs:List Blk}(hm:m<=bs.length):Gro E 190 [.d (u64 x)] none m bs (aQ x):=by
 obtain ⟨A,hA⟩:=aq5 (E:=E) h0 h1 bs;have hne:aQ x≠[]:=by intro h; have:=congrArg List.length h; rw [aQ,qo] at this; simp at this
 refine ⟨bs.length+2,bs++[.cells A,.cells [],.cells ((aQ x).map (iv .u8))],bs.length,λlo=>?_,.inr ⟨hne,_,by omega,rfl,?_⟩,by omega,Kx.lay _ _ _,hm⟩
 . exact hA lo
 . have:=jS (bs:=bs) (ys:=[.cells A,.cells [],.cells ((aQ x).map (iv .u8))]) (i:=2);rw [this]; rfl
theorem Bv.dat {m:Nat}{bs:List Blk}{v:V}{l:List Int}(h:Bv m bs v l)(hl:l≠[])(lo k:Nat):dataV ⟨bs,lo⟩ (k+1) v=some (bytesD l)/\mZ ⟨bs,lo⟩ (k+1) v=true:=by
 obtain ⟨h1,_⟩ | ⟨h1,b,h2,rfl,h4⟩:=h
 . exact absurd h1 hl
 . have hf:flat (l.map λn=>[D.int .u8 n])=l.map (iv .u8):=by
    clear h1 h4 hl
    induction l with
    | nil=>rfl
    | cons x l ih=>rw [cn,flat_cons,ih]; rfl
   refine ⟨?_,?_⟩
   . exact iO (h:=⟨bs,lo⟩) (k:=k) (b:=b) (z:=1) (n:=l.length) (cap:=none) (es:=l.map λn=>[D.int .u8 n]) (rest:=[]) (by intro e he; obtain ⟨x,_,rfl⟩:=cb.1 he; rfl) (by simp) (by rw [hf,List.append_nil]; exact h4)
   . simp only [mZ,get_eq,h4,List.all_map,cj];intro x _;simp [iv,mZ]
theorem jW (h:Hp)(l:List Int):aH h (.d (bytesD l)) 1=some (l.length,l.map (iv .u8)):=by
 have hf:(l.map λn=>[D.int .u8 n]).flatten.map V.d=l.map (iv .u8):=by
  induction l with
  | nil=>rfl
  | cons x l ih=>simp only [cn,List.flatten_cons,List.map_append,ih]; rfl
 simp only [aH,bytesD,hf,b9];rw [if_pos (by simp)]
theorem Bv.rc {m:Nat}{bs:List Blk}{b:Nat}{l:List Int}(h:Bv m bs (.row b 0 l.length none 1) l)(lo:Nat):aH ⟨bs,lo⟩ (.row b 0 l.length none 1) 1=some (l.length,l.map (iv .u8)):=by
 obtain ⟨h1,h2⟩ | ⟨h1,b',h2,h3,h4⟩:=h
 . cases h2
 . cases h3;have hsub:sub (l.map (iv .u8)) 0 (l.length * 1)=some (l.map (iv .u8)):=bN (by simp);simp only [aH,if_true,get_eq,h4,hsub,Option.map_some]
theorem eQ {k:Nat}{keep:List Nat}{body:QC}{α:Type}(l:List α)(enc:α->List Int)(env:Nat->V->EA)(X:V->Ex×EA)(m:Nat)
 (K:List Blk->V->Prop)
 (hr:∀ i x,l[i]?=some x->i<l.length->∀ bs lo v acc,K bs v->m<=bs.length->Bv m bs v acc->acc.length+(enc x).length<=big->∃ bs' lo' v',(∀ W:EA->Hp->fM,dK keep W (Cd E TX aP body (bT keep (env i v)) ⟨bs,lo⟩)=W (env (i+1) v') ⟨bs',lo'⟩)/\K bs' v'/\m<=bs'.length/\Bv m bs' v' (acc++enc x)/\(k<=lo->k<=lo'))
 (he:∀ bs lo v acc,K bs v->Bv m bs v acc->∀ W:EA->Hp->fM,dK keep W (Cd E TX aP body (bT keep (env l.length v)) ⟨bs,lo⟩)=some ((X v).1,(X v).2,⟨bs,lo⟩))
 (bs:List Blk) (lo:Nat) (v:V) (acc:List Int) (hK:K bs v) (hm:m<=bs.length) (hB:Bv m bs v acc) (hb:acc.length+(l.flatMap enc).length<=big) :
 ∃ bs' lo' v',Cd E TX aP (.loop keep body) (env 0 v) ⟨bs,lo⟩=some ((X v').1,(X v').2,⟨bs',lo'⟩)/\K bs' v'/\m<=bs'.length/\Bv m bs' v' (acc++l.flatMap enc)/\(k<=lo->k<=lo'):=by
 have:∀ (n i:Nat) (bs:List Blk) (lo:Nat) (v:V) (acc:List Int),i+n=l.length->K bs v->m<=bs.length->Bv m bs v acc->acc.length+((l.drop i).flatMap enc).length<=big →
  ∃ bs' lo' v',Cd E TX aP (.loop keep body) (env i v) ⟨bs,lo⟩=some ((X v').1,(X v').2,⟨bs',lo'⟩)/\K bs' v'/\m<=bs'.length/\Bv m bs' v' (acc++(l.drop i).flatMap enc)/\(k<=lo->k<=lo'):=by
  intro n;have key:=ay (E:=E) (T:=TX) (val:=aP) keep body;generalize Cd E TX aP (.loop keep body)=W at key ⊢
  induction n with
  | zero =>
   intro i bs lo v acc hi hK hm hB hb;refine ⟨bs,lo,v,?_,hK,hm,?_,id⟩
   . rw [key,show i=l.length by omega,he bs lo v acc hK hB W]
   . rw [bb (by omega)]; simpa using hB
  | succ n ih =>
   intro i bs lo v acc hi hK hm hB hb;have hlt:i<l.length:=by omega
   rw [ba hlt,dJ] at hb;obtain ⟨bs1,lo1,v1,i1,i2,i3,i4,i5⟩:=hr i _ (ac hlt) hlt bs lo v acc hK hm hB (by omega);obtain ⟨bs2,lo2,v2,j1,j2,j3,j4,j5⟩:=ih (i+1) bs1 lo1 v1 _ (by omega) i2 i3 i4 (by rw [aw]; omega);refine ⟨bs2,lo2,v2,?_,j2,j3,?_,λh=>j5 (i5 h)⟩
   . rw [key,i1 W,j1]
   . rw [ba hlt,List.flatMap_cons,← List.append_assoc]; exact j4
 have:=this l.length 0 bs lo v acc (by omega) hK hm hB (by simpa using hb);simpa using this
theorem cn5:TX 132=some Sd:=by kernel_rfl
theorem ck4:aP 132=true:=by kernel_rfl
theorem o9 {bs:List Blk}{x:Int}{k:IntKind}(lo:Nat):aH ⟨bs++[.cells [.d (.int k x)]],lo⟩ (.row bs.length 0 1 (some 1) 1) 1=some (([x]:List Int).length,([x]:List Int).map (iv k)):=KG lo
theorem Dy (s:ByteArray)(hs:(bG s).length<=big)(h:Hp):Sm E TX aP 132 [.d (.str s)] h=some (.d (bytesD (bG s)),h):=by
 have hsl:=fK s;have hs2:=hs;simp only [bG,aw,b9,hsl] at hs2;have hsz:s.size<2 ^ 62:=ce (m:=big) (by omega) (by decide);have hbig:big=2 ^ 30:=rfl;obtain ⟨b,bs1,k1,c1,c2,c3,c4,c5⟩:=Gro.short (E:=E) (x:=s.size) (by omega) (by omega) (m:=0) (bs:=[]) (br _);have hfm:∀ l:List UInt8,l.flatMap (λb=>[(b.toNat:Int)])=l.map λb=>(b.toNat:Int):=λl=>by
  induction l with
  | nil=>rfl
  | cons x l ih=>rw [List.flatMap_cons,ih]; rfl
 obtain ⟨bs2,lo2,v2,d1,_,_,d4,_⟩:=eQ (E:=E) (k:=0) (keep:=[0,3,4]) (body:=wJ) s.toList (λb=>[(b.toNat:Int)]) (λi v=>[(0,.d (.str s)),(3,v),(4,.d (i64 i))]) (λv=>(.exit 0,[(3,v)])) 0 (λ_ _=>True)
  (λi x hx hi bs lo v acc _ _ hB hb=>by
    have hxs:=λh=>ic (h:=h) hx;have hw:=ax (show i<s.size by omega) hsz;have h0:((i:Int)<s.size):=by omega
    obtain ⟨bs',F,p1,p2,p3,p4,p5⟩:=(hB.lay [.cells [.d (.int .u8 (x.toNat:Int))]]).app (Nat.zero_le _) (xs:=[(x.toNat:Int)]) (by simp) hb (src:=.row bs.length 0 1 (some 1) 1) (λlo=>o9 lo);refine ⟨bs',F lo,_,λW=>?_,trivial,Nat.zero_le _,p2.le (Nat.zero_le _),λ_=>Nat.zero_le _⟩;have hnu:=hB.nu;have hq:=p1 lo;simp at hq;simp [wJ,hxs,h0,hnu,aL,hq,hw])
  (λbs lo v acc _ hB W=>by
    have hnu:=hB.nu;simp [wJ,hsl,hnu]) bs1 (min 0 k1) (.row b 0 (aQ s.size).length none 1) (aQ s.size) trivial (Nat.zero_le _) (c2.le (Nat.zero_le _)) (by rw [hfm]; simp; omega)
 rw [hfm] at d4;have d4':Bv 0 bs2 v2 (bG s):=d4;have hne:bG s≠[]:=by simp [bG,df]
 have hdat:=λlo=>d4'.dat hne lo 7;have hnu:=d4'.nu;have hw:wrap .u64 (s.size:Int)=s.size:=by rw [wrap_u64]; omega
 rw [aU cn5 ck4];simp at d1;have c1':=c1 0;simp at c1';simp [af,Sd,hw,c1'];rw [aj];simp [d1,hnu];obtain ⟨h1,_⟩ | ⟨_,b',_,rfl,_⟩:=d4'
 . exact absurd h1 hne
 . simp [hdat]
theorem cn4:TX 131=some Sc:=by kernel_rfl
theorem ck3:aP 131=false:=by kernel_rfl
theorem UW {xs:List Int}(hx:∀ x∈xs,0<=x/\x<2 ^ 64)(hne:xs≠[])(hxn:xs.length<2 ^ 62){m:Nat}{bs:List Blk}{v:V}{acc:List Int}(hB:Bv m bs v acc)(hm:m<=bs.length){q:Nat}{cap:Option Nat}(hq:ah bs q=some (xs.map λn=>V.d (u64 n)))(hvq:gG v≠some q)(hl:acc.length+(xs.flatMap aQ).length<=big) :
 Gro E 131 [v,.row q 0 xs.length cap 1] (gG v) m bs (acc++xs.flatMap aQ):=by
 obtain ⟨bs2,lo2,v2,d1,⟨d2,d3,d5,d6⟩,_,d4,d7⟩:=eQ (E:=E) (k:=m) (keep:=[0,1,5]) (body:=wI) xs aQ (λi v=>[(0,v),(1,.row q 0 xs.length cap 1),(5,.d (i64 i))]) (λv=>(.exit 0,[(0,v)])) m
  (λbs' v'=>ah bs' q=some (xs.map λn=>V.d (u64 n))/\gG v'≠some q/\Kx (gG v) bs bs'/\(v'=v\/∃ b n,v'=.row b 0 n none 1/\bs.length<=b))
  (λi x hxi hi bs1 lo v1 acc1 ⟨hq1,hv1,hk1,hn1⟩ hm1 hB1 hb=>by
    have hw:=ax hi hxn;have h0:((i:Int)<xs.length):=by omega
    have hxe:xs[i]=x:=by rw [ac hi] at hxi; exact co hxi
    have hix:=λh=>fQ (b:=q) (o:=0) (z:=1) (cap:=cap) (kd:=.i64) (h:=h) hi;simp only [Nat.mul_one,Nat.zero_add] at hix;have hs:sub (xs.map λn=>V.d (u64 n)) i 1=some [.d (u64 x)]:=by
     rw [eG,if_pos (by simp; omega),ba (by simpa using hi)]; simp [hxe]
    have hld:ldv ⟨bs1,lo⟩ (.ptr q i) 1 true=some (.d (u64 x),⟨bs1,lo⟩):=by
     rw [aG,get_eq];show (match (match ah bs1 q with | some cs=>sub cs i 1 | none=>none) with | some cs=>_ | none=>none)=_;rw [hq1]; simp only [hs]; rfl
    obtain ⟨y0,y1⟩:=hx x (cc hxi);obtain ⟨b,bs2,k,c1,c2,c3,c4,c5⟩:=Gro.short (E:=E) y0 y1 hm1;have hB2:Bv m bs2 v1 acc1:=by
     obtain h | ⟨e1,b',e2,rfl,e4⟩:=hB1
     . exact .inl h
     . exact .inr ⟨e1,b',e2,rfl,c4.get (by simp) e4⟩
    have hlen2:m<=bs2.length:=cf hm1 c4.1;obtain ⟨bs3,F,p1,p2,p3,p4,p5⟩:=hB2.app hlen2 (df x) hb (src:=.row b 0 (aQ x).length none 1) (λlo=>c2.rc lo);have hlen1:=hk1.1;have hbq:=aK hq1;have hl2:=c4.1;refine ⟨bs3,F (min lo k),_,λW=>?_,⟨?_,?_,?_,.inr ⟨bs2.length,_,rfl,by omega⟩⟩,by omega,p2.le hlen2,λh=>p5 _ (by omega)⟩
    . have hnu:=hB1.nu;have hq':=p1 (min lo k);simp at hq';simp [wI,h0,hnu,hix,hld,c1,hq',hw,-aG]
    . exact p3.get hv1 (c4.get (by simp) hq1)
    . simp only [gG,ne_eq,be]; omega
    . refine (hk1.trans c4 (.inr λy e=>by cases e)).trans p3 ?_;obtain rfl | ⟨b',n,rfl,e⟩:=hn1
      . exact .inl rfl
      . refine .inr λy e'=>?_;cases e'; exact e)
  (λbs lo v acc _ hB W=>by
    have hnu:=hB.nu;simp [wI,hnu]) bs bs.length v acc ⟨hq,hvq,Kx.refl _ _,.inl rfl⟩ hm hB hl
 have hne2:acc++xs.flatMap aQ≠[]:=by
  cases xs with
  | nil=>exact absurd rfl hne
  | cons x l=>simp [df]
 obtain ⟨h1,_⟩ | ⟨e1,b,e2,rfl,e4⟩:=d4
 . exact absurd h1 hne2
 have hbb:bs.length<=b:=by
  obtain h | ⟨b',n,h,e⟩:=d6
  . obtain ⟨h1,h2⟩ | ⟨h1,b',h2,h3,h4⟩:=hB
    . rw [h2] at h; cases h
    . rw [h3] at h;injection h with hb1 hb2 hb3
      rw [aw] at hb3;have:0<(xs.flatMap aQ).length:=by
       cases xs with
       | nil=>exact absurd rfl hne
       | cons x l=>rw [dJ]; have:=List.length_pos_iff.2 (df x); omega
      omega
  . cases h; exact e
 refine ⟨b,bs2,lo2,λlo=>?_,.inr ⟨e1,b,hbb,rfl,e4⟩,hbb,d5,d7 hm⟩;have hnu:=hB.nu;rw [aJ cn4 ck3];simp at d1;simp [af,Sc];rw [aj];simp [d1];intro _ hu;simp [V.under] at hu;omega
end
section
variable {E:Calls'}
def Qt1 (m:Nat)(u:Tr):Prop:=u.call=false/\u.big=false/\u.wr=[]/\u.lo=u.hi/\∀ b∈u.nd,b<m
def Hi1 (m:Nat)(t:Tr):Prop:=∀ u,Qt1 m u->t.spares u=true/\u.spares t=true
theorem Qt1.hi {m:Nat}{t:Tr}(h:Qt1 m t):Hi1 m t:=λu k=>by
 obtain ⟨a1,a2,a3,a4,a5⟩:=h;obtain ⟨b1,b2,b3,b4,b5⟩:=k;constructor
 . simp only [Tr.spares,a2,b2,b1,a3,a4,Bool.or_self,bo,if_false,cj];intro b _; simp
 . simp only [Tr.spares,a2,b2,a1,b3,b4,Bool.or_self,bo,if_false,cj];intro b _; simp
theorem Hi1.mem {m:Nat}{nd wr:List Nat}{lo hi:Nat}{bl:Bl}(hw:∀ b∈wr,m<=b)(hl:m<=lo):Hi1 m ⟨false,false,nd,wr,lo,hi,bl⟩:=λu k=>by
 obtain ⟨b1,b2,b3,b4,b5⟩:=k;constructor
 . simp only [Tr.spares,b2,b1,Bool.or_self,bo,if_false,cj];intro b hb;have h1:=b5 b hb;have h2:b ∉ wr:=λh=>by have:=hw b h; omega
   have h3:¬ lo<=b:=by omega
   simp [h2,h3]
 . simp only [Tr.spares,b2,b3,b4,Bool.or_self,bo,if_false,cj];intro b _; simp
theorem Hi1.calm {m n:Nat}{bl:Bl}:Hi1 m ⟨true,false,[],[],n,n,bl⟩:=λu k=>by
 obtain ⟨b1,b2,b3,b4,b5⟩:=k;constructor
 . simp only [Tr.spares,b2,b1,Bool.or_self,bo,if_false,cj];intro b _; simp
 . simp only [Tr.spares,b2,b3,b4,Bool.or_self,bo,if_false,if_true];simp
theorem Hi1.lay {m n n':Nat}{bl:Bl}(hn:m<=n):Hi1 m ⟨true,false,[],[],n,n',bl⟩:=λu k=>by
 obtain ⟨b1,b2,b3,b4,b5⟩:=k;constructor
 . simp only [Tr.spares,b2,b1,Bool.or_self,bo,if_false,cj];intro b hb;have h1:=b5 b hb;have h3:¬ n<=b:=by omega
   simp [h3]
 . simp only [Tr.spares,b2,b3,b4,Bool.or_self,bo,if_false,if_true];simp
theorem Hi1.big {m n n' k:Nat}{kp:List Nat}(hk:m<=k):Hi1 m ⟨true,true,[],[],n,n',⟨k,kp⟩⟩:=λu q=>by
 obtain ⟨b1,b2,b3,b4,b5⟩:=q;constructor
 . have h3:(u.nd.all λb=>decide (b<k)||kp.contains b)=true:=cj.2 λb hb=>by
    have h1:=b5 b hb;have:b<k:=by omega
    simp [this]
   simp only [Tr.spares,Bool.true_or,if_true,b1,h3,Bool.not_false,Bool.and_true,Bool.or_true]
 . simp [Tr.spares,Tr.calm,b2,b3,b4]
def Cl1 (m:Nat):List Bool->List Tr->Prop
 | [],[]=>True
 | true::cs,t::ts=>Qt1 m t/\Cl1 m cs ts
 | false::cs,t::ts=>Hi1 m t/\Cl1 m cs ts
 | _,_=>False
def ck1 (pr:List (List Nat))(cs:List Bool):Bool:=(List.range cs.length).all λi=>(List.range cs.length).all λj =>
 i==j||(pr.getD i []).contains j||(pr.getD j []).contains i||cs.getD i false||cs.getD j false
theorem Cl1.len {m:Nat}:∀ {cs:List Bool} {ts:List Tr},Cl1 m cs ts->cs.length=ts.length
 | [],[],_=>rfl
 | true::_,_::_,h=>by simp [Cl1.len h.2]
 | false::_,_::_,h=>by simp [Cl1.len h.2]
 | [],_::_,h=>h.elim
 | true::_,[],h=>h.elim
 | false::_,[],h=>h.elim
theorem Cl1.get {m:Nat}:∀ {cs:List Bool} {ts:List Tr},Cl1 m cs ts->∀ {i:Nat},i<ts.length->∃ t,ts[i]?=some t/\Hi1 m t/\(cs.getD i false=true->Qt1 m t)
 | [],[],_,i,hi=>by simp at hi
 | true::cs,t::ts,h,0,_=>⟨t,rfl,h.1.hi,λ_=>h.1⟩
 | false::cs,t::ts,h,0,_=>⟨t,rfl,h.1,λh=>by simp at h⟩
 | true::cs,t::ts,h,i+1,hi=>by
  obtain ⟨t,h1,h2⟩:=Cl1.get h.2 (i:=i) (by simpa using hi);exact ⟨t,by simpa using h1,by simpa using h2⟩
 | false::cs,t::ts,h,i+1,hi=>by
  obtain ⟨t,h1,h2⟩:=Cl1.get h.2 (i:=i) (by simpa using hi);exact ⟨t,by simpa using h1,by simpa using h2⟩
 | [],_::_,h,_,_=>h.elim
 | true::_,[],h,_,hi=>h.elim
 | false::_,[],h,_,hi=>h.elim
theorem mf {pr:List (List Nat)}{l:List Tr}(m:Nat)(cs:List Bool)(hck:ck1 pr cs=true)(h:Cl1 m cs l):bz pr l=true:=by
 unfold bz;simp only [cj,List.mem_range];intro i hi j hj;simp only [ck1,h.len,cj,List.mem_range] at hck;have hc:=hck i hi j hj;obtain ⟨s,s1,s2,s3⟩:=h.get hi;obtain ⟨t,t1,t2,t3⟩:=h.get hj;simp only [Bool.or_eq_true] at hc ⊢;obtain (hc | hc) | hc:=hc
 . exact .inl hc
 . refine .inr ?_;rw [s1,t1];exact (t2 s (s3 hc)).2
 . refine .inr ?_;rw [s1,t1];exact (s2 t (t3 hc)).1
theorem Gro.open {f:FuncId}{args:List V}{o:Option Nat}{m:Nat}{bs:List Blk}{l:List Int}(h:Gro E f args o m bs l)(hm:m<=bs.length):∃ b bs' t,∃ F:Nat->Nat,
 (∀ (lo:Nat) (xs:List X) (ev:X->V),xs.all (λx=>okV (ev x))=true->xs.map ev=args->ev (.c (.fn f []))=.fn f []->dh (Sm E TX aP) (.call (.c (.fn f [])) xs) ev ⟨bs,lo⟩=some (.row b 0 l.length none 1,⟨bs',F lo⟩,t)) ∧
 Hi1 m t/\Bv bs.length bs' (.row b 0 l.length none 1) l/\bs.length<=b/\Kx o bs bs'/\∀ lo,m<=lo->m<=F lo:=by
 obtain ⟨b,bs',k,c1,c2,c3,c4,c5⟩:=h;by_cases hk:bs.length<=k
 . by_cases hl:bs'.length=bs.length
   . have:=(c2.blk rfl).2;omega
   . refine ⟨b,bs',⟨true,false,[],[],bs.length,bs'.length,0⟩,λlo=>lo,λlo xs ev ha hx hf=>?_,Hi1.lay hm,c2,c3,c4,λ_ h=>h⟩;rw [aa,if_pos ha,hf,hx,mh,List.append_nil,c1];simp only;rw [if_pos (by omega),if_neg hl]
 . refine ⟨b,bs',⟨true,true,[],[],bs.length,bs'.length,⟨min bs.length k,vL bs bs'⟩⟩,λlo=>min lo (min bs.length k),λlo xs ev ha hx hf=>?_,Hi1.big (by omega),c2,c3,c4,λlo h=>by show m<=min lo (min bs.length k); omega⟩;rw [aa,if_pos ha,hf,hx,mh,List.append_nil,c1];simp only;rw [if_neg (by omega)]
end
section
variable {E:Calls'}
theorem Bv.vblk {m:Nat}{bs:List Blk}{v:V}{l:List Int}(h:Bv m bs v l):∀ b∈v.blk,m<=b:=by
 obtain ⟨_,rfl⟩ | ⟨_,b,h2,rfl,h4⟩:=h
 . intro b hb; cases hb
 . intro x hx;have:x=b:=by simpa [V.blk] using hx
   omega
theorem Cl1.t {m n:Nat}{cs:List Bool}{ts:List Tr}{nd:List Nat}{bl:Bl}(h:∀ b∈nd,b<m)(k:Cl1 m cs ts):Cl1 m (true::cs) (⟨false,false,nd,[],n,n,bl⟩::ts):=⟨⟨rfl,rfl,rfl,rfl,h⟩,k⟩
theorem Cl1.c {m n:Nat}{cs:List Bool}{ts:List Tr}{bl:Bl}(k:Cl1 m cs ts):Cl1 m (false::cs) (⟨true,false,[],[],n,n,bl⟩::ts):=⟨Hi1.calm,k⟩
theorem Cl1.m {m lo hi:Nat}{cs:List Bool}{ts:List Tr}{nd wr:List Nat}{bl:Bl}(hw:∀ b∈wr,m<=b)(hl:m<=lo)(k:Cl1 m cs ts):Cl1 m (false::cs) (⟨false,false,nd,wr,lo,hi,bl⟩::ts):=⟨Hi1.mem hw hl,k⟩
theorem co2:TX 191=some SC:=by kernel_rfl
theorem cl2:aP 191=false:=by kernel_rfl
theorem ak2 (s:Sl Term)(hs:s.l.length<2 ^ 62){m:Nat}{bs:List Blk}{v:V}{acc:List Int}(hB:Bv m bs v acc)(hm:m<=bs.length)(hl:acc.length+(s.l.flatMap dI).length<=big)(lo:Nat)(bs0:List Blk)(o:Option Nat)(hk:Kx o bs0 bs)(hn:∀ b,gG v=some b->bs0.length<=b) :
 ∃ bs' lo' v',Cd E TX aP (.loop [0,1,5] tJ) [(0,v),(1,.d (s.d Term.c)),(5,.d (i64 ((0:Nat):Int)))] ⟨bs,lo⟩=some (.exit 0,[(0,v')],⟨bs',lo'⟩)/\(Kx o bs0 bs'/\∀ b,gG v'=some b->bs0.length<=b)/\m<=bs'.length/\Bv m bs' v' (acc++s.l.flatMap dI)/\(m<=lo->m<=lo'):=by
 refine eQ (E:=E) (keep:=[0,1,5]) (body:=tJ) s.l dI (λi v=>[(0,v),(1,.d (s.d Term.c)),(5,.d (i64 i))]) (λv=>(.exit 0,[(0,v)])) m
  (λbs' v'=>Kx o bs0 bs'/\∀ b,gG v'=some b->bs0.length<=b)
  (λi x hx hi bs1 lo v1 acc1 ⟨hk1,hn1⟩ hm1 hB1 hb=>?_)
  (λbs lo v acc _ hB W=>?_) bs lo v acc ⟨hk,hn⟩ hm hB hl
 . have hix:=λh=>aA (z:=2) h hx (cells:=Term.c) rfl;have hw:=ax hi hs;have h0:((i:Int)<s.l.length):=by omega
   simp only [dI,cg] at hb;obtain ⟨bs2,F,p1,p2,p3,p4,p5⟩:=(hB1.lay [.cells [.d (.int .u8 (wrap .u8 x.kind))]]).app (by simp; omega) (xs:=[wrap .u8 x.kind]) (by simp) (by simp; omega) (src:=.row bs1.length 0 1 (some 1) 1) (λlo=>o9 lo);have ht:=λh=>Dy (E:=E) x.text (by omega) h;have hne:bG x.text≠[]:=by simp [bG,df]
   obtain ⟨bs3,F3,r1,r2,r3,r4,r5⟩:=(p2.le (cf hm1 (by simp))).app (m:=m) (by rw [p4]; simp; omega) hne (by simp; omega) (src:=.d (bytesD (bG x.text))) (λlo=>jW _ _);have eT:acc1++[wrap .u8 x.kind]++bG x.text=acc1++dI x:=by simp [dI]
   rw [eT] at r1 r2;have hl2:bs2.length=bs1.length+2:=by rw [p4]; simp
   have hl01:=hk1.1;have hq1:=p1 lo;have hnu:=hB1.nu;simp at hq1;have hq2:=r1 (F lo);simp at hq2;refine ⟨bs3,F3 (F lo),.row bs2.length 0 (acc1++dI x).length none 1,λW=>?_,⟨?_,?_⟩,by omega,?_,λh=>r5 _ (p5 _ h)⟩
   . simp [tJ,h0,hix,hnu,ai,aa,az,aL,hq1,ht,hq2];rw [if_pos (mf m [true,true,true,true,true,true,true,false,false,true,true,true,true,true,false,false,true] (by decide) ?_)]
     . simp [hw]
     . have hvb:=hB1.vblk
       repeat' first
        | exact trivial
        | refine Cl1.t (by simp) ?_
        | refine Cl1.c ?_
        | refine Cl1.m ?_ ?_ ?_
       all_goals first
        | exact hvb
        | omega
        | (simp; try omega)
   . exact ((hk1.trans (Kx.lay o _ _) (.inl rfl)).trans p3 (.inr λy e=>hn1 y e)).trans r3 (.inr λy e=>by cases e; simp; omega)
   . intro b e;cases e; omega
   . exact r2.le (show m<=bs2.length by omega)
 . have hnu:=hB.nu;simp [tJ,hnu]
theorem Gi (s:Sl Term)(hs:s.l.length<2 ^ 62){m:Nat}{bs:List Blk}{v:V}{acc:List Int}(hB:Bv m bs v acc)(hm:m<=bs.length)(hl:acc.length+(seqB dI s.l).length<=big) :
 Gro E 191 [v,.d (s.d Term.c)] (gG v) m bs (acc++seqB dI s.l):=by
 simp only [seqB,aw] at hl;obtain ⟨b,bs1,k,c1,c2,c3,c4,c5⟩:=Gro.short (E:=E) (x:=s.l.length) (by omega) (by omega) hm;have hB2:Bv m bs1 v acc:=by
  obtain h | ⟨e1,b',e2,rfl,e4⟩:=hB
  . exact .inl h
  . exact .inr ⟨e1,b',e2,rfl,c4.get (by simp) e4⟩
 have hl1:=c4.1;obtain ⟨bs2,F,p1,p2,p3,p4,p5⟩:=hB2.app (by omega) (df _) (by omega) (src:=.row b 0 (aQ s.l.length).length none 1) (λlo=>c2.rc lo);have hK:Kx (gG v) bs bs2:=(Kx.trans c4 (Kx.refl none _) (.inl rfl) |> λ_=>(show Kx (gG v) bs bs1 from ⟨c4.1,λx hx _=>c4.2 x hx (by simp)⟩)).trans p3 (.inl rfl);obtain ⟨bs3,lo3,v3,d1,⟨d2,d3⟩,d4,d5,d6⟩:=ak2 (E:=E) s hs (p2.le (show m<=bs1.length by omega)) (by omega) (by rw [aw]; omega) (F (min bs.length k)) bs (gG v) hK (λb e=>by cases e; omega);have hne:acc++seqB dI s.l≠[]:=by simp [seqB,df]
 have eA:acc++aQ s.l.length++s.l.flatMap dI=acc++seqB dI s.l:=by simp [seqB]
 rw [eA] at d5;have hw:wrap .u64 (s.l.length:Int)=s.l.length:=by rw [wrap_u64]; omega
 have hnu:=hB.nu;have hq:=p1 (min bs.length k);simp at hq;simp at d1;have hlo:m<=lo3:=d6 (p5 _ (by omega));obtain ⟨h1,_⟩ | ⟨e1,b3,e2,rfl,e4⟩:=d5
 . exact absurd h1 hne
 have hbb:=d3 b3 rfl;refine ⟨b3,bs3,lo3,λlo=>?_,.inr ⟨e1,b3,hbb,rfl,e4⟩,hbb,d2,hlo⟩;rw [aJ co2 cl2];simp [af,SC,hw,hnu,c1,hq];rw [aj];simp [d1];intro _ hu;simp [V.under] at hu;omega
end
section
variable {E:Calls'}
theorem co3:TX 192=some SE:=by kernel_rfl
theorem cl3:aP 192=true:=by kernel_rfl
theorem aq6 (x:Int)(h:Hp):Sm E TX aP 192 [.d (u64 x),.d (i64 4)] h=some (.d (bytesD (yD x)),h):=by
 rw [aU co3 cl3];have key:=ay (E:=E) (T:=TX) (val:=aP) [0,1,5,6] lu;generalize hW:Cd E TX aP (.loop [0,1,5,6] lu)=W at key;have hm:∀ (ev:X->V) (hp:Hp),ev (.t 7)=.d (i64 4)->opE (Sm E TX aP) (.mksl 1 1 [(.d (.int .u8 0))] (.t 7) (.t 7)) ev hp=some (.row hp.size 0 4 (some 4) 1,hp.alloc [.d (.int .u8 0),.d (.int .u8 0),.d (.int .u8 0),.d (.int .u8 0)]):=λev hp he=>by
  simp only [opE,he]; rfl
 have s0:bC .shr (.d (.int .u64 x)) (.d (.int .i64 0))=some (.int .u64 x):=by rw [iC (by decide)]; simp
 have s1:bC .shr (.d (.int .u64 x)) (.d (.int .i64 8))=some (.int .u64 (x.fdiv 256)):=by rw [iC (by decide)]; rfl
 have s2:bC .shr (.d (.int .u64 x)) (.d (.int .i64 16))=some (.int .u64 (x.fdiv 65536)):=by rw [iC (by decide)]; rfl
 have s3:bC .shr (.d (.int .u64 x)) (.d (.int .i64 24))=some (.int .u64 (x.fdiv 16777216)):=by rw [iC (by decide)]; rfl
 have m0:bC .mul (.d (.int .i64 8)) (.d (.int .i64 0))=some (.int .i64 0):=by rfl
 have m1:bC .mul (.d (.int .i64 8)) (.d (.int .i64 1))=some (.int .i64 8):=by rfl
 have m2:bC .mul (.d (.int .i64 8)) (.d (.int .i64 2))=some (.int .i64 16):=by rfl
 have m3:bC .mul (.d (.int .i64 8)) (.d (.int .i64 3))=some (.int .i64 24):=by rfl
 have w1:wrap .i64 1=1:=by decide
 have w2:wrap .i64 2=2:=by decide
 have w3:wrap .i64 3=3:=by decide
 have w4:wrap .i64 4=4:=by decide
 simp [af,SE,hm];rw [aj,hW,key];simp [lu,s0,m0,w1,eP];rw [key];simp [lu,s1,m1,w2,eP];rw [key];simp [lu,s2,m2,w3,eP];rw [key];simp [lu,s3,m3,w4,eP];rw [key];simp [lu];simp [bytesD,yD,dataV,dataV.chunks,sub]
theorem Dt {f:FuncId}{args:List V}{v:V}(hc:∀ h,Sm E TX aP f args h=some (v,h))(bs:List Blk):∀ (lo:Nat) (xs:List X) (ev:X->V),xs.all (λx=>okV (ev x))=true->xs.map ev=args->ev (.c (.fn f []))=.fn f []->dh (Sm E TX aP) (.call (.c (.fn f [])) xs) ev ⟨bs,lo⟩=some (v,⟨bs,lo⟩,⟨true,false,[],[],bs.length,bs.length,0⟩):=λlo xs ev ha hx hf=>by
 rw [aa,if_pos ha,hf,hx,mh,List.append_nil,hc];simp
def jL (s:Source):List Int:=seqB dI s.names.l++(seqB dI s.spaces.l++(wrap .u8 (s.nets.l.length:Int)::s.nets.l.flatMap kv))
def jM (t:Target):List Int:=(wrap .u8 (t.ports.l.length:Int)::t.ports.l.flatMap oZ)++(seqB dI t.methods.l++(seqB dI t.paths.l++seqB dI t.hosts.l))
def qH (w:When):List Int:=bG w.head++seqB dI w.terms.l
def qD (r:Rule):List Int:=(wrap .u8 (r.frm.l.length:Int)::r.frm.l.flatMap jL)++((wrap .u8 (r.to.l.length:Int)::r.to.l.flatMap jM)++(wrap .u8 (r.whn.l.length:Int)::r.whn.l.flatMap qH))
def AC (p:Pol):List Int:=aQ p.id++(bG p.ns++(aQ p.service++(wrap .u8 p.deny::wrap .u8 (p.rules.l.length:Int)::p.rules.l.flatMap qD)))
structure K2 (p:Pol) (L:Nat) (r:Rule) (bs:List Blk):Prop where
 p0:ah bs 0=some (p.c.map .d)
 r0:ah bs L=some (r.c.map .d)
theorem K2.kx {p:Pol}{L:Nat}{r:Rule}{bs bs':List Blk}(h:K2 p L r bs){v:V}{acc:List Int}(hB:Bv (L+1) bs v acc)(hk:Kx (gG v) bs bs'):K2 p L r bs' :=
 ⟨hk.get (λe=>by have:=(hB.blk e).1; omega) h.p0,hk.get (λe=>by have:=(hB.blk e).1; omega) h.r0⟩
theorem K2.lay {p:Pol}{L:Nat}{r:Rule}{bs:List Blk}(h:K2 p L r bs)(ys:List Blk):K2 p L r (bs++ys):=⟨av h.p0,av h.r0⟩
section
variable {p:Pol}{L:Nat}{r:Rule}(hr:r.wf big)
include hr
theorem al8 {k:Nat}{s:Source}(hs:r.frm.l[k]?=some s)(hk:k<r.frm.l.length)(pi:Nat)(bs:List Blk)(lo:Nat)(v:V)(acc:List Int)(hK:K2 p L r bs)(hm:L+1<=bs.length)(hB:Bv (L+1) bs v acc)(hb:acc.length+(s.nets.l.flatMap kv).length<=big) :
 ∃ bs' lo' v',Cd E TX aP (.loop [1,3,4,5,6,7] sW) [(1,.ptr 0 0),(3,v),(4,.d (i64 (pi:Int))),(5,.ptr L 0),(6,.d (i64 (k:Int))),(7,.d (i64 ((0:Nat):Int)))] ⟨bs,lo⟩ =
  some (.exit 4,[(1,.ptr 0 0),(3,v'),(4,.d (i64 (pi:Int))),(5,.ptr L 0),(6,.d (i64 (k:Int)))],⟨bs',lo'⟩)/\K2 p L r bs'/\L+1<=bs'.length/\Bv (L+1) bs' v' (acc++s.nets.l.flatMap kv)/\(L+1<=lo->L+1<=lo'):=by
 have hwf:=hr.1.2 s (cc hs);refine eQ (E:=E) (keep:=[1,3,4,5,6,7]) (body:=sW) s.nets.l kv (λi v=>[(1,.ptr 0 0),(3,v),(4,.d (i64 (pi:Int))),(5,.ptr L 0),(6,.d (i64 (k:Int))),(7,.d (i64 i))]) (λv=>(.exit 4,[(1,.ptr 0 0),(3,v),(4,.d (i64 (pi:Int))),(5,.ptr L 0),(6,.d (i64 (k:Int)))])) (L+1)
  (λbs' v'=>K2 p L r bs') (λi x hx hi bs1 lo v1 acc1 hK1 hm1 hB1 hb=>?_) (λbs lo v acc hK1 hB W=>?_) bs lo v acc hK hm hB hb
 . have hsx:=λh=>aA (z:=3) h hs (cells:=Source.c) rfl;have hix:=λh=>aA (z:=2) h hx (cells:=Cidr.c) rfl;have hw:=ax hi (fit.lt hwf.2.2.1);have h0:((i:Int)<s.nets.l.length):=by omega
   have hxr:=FO (hwf.2.2.2 x (cc hx)).1;have hwa:wrap .u64 x.addr=x.addr:=by rw [wrap_u64]; omega
   have hc:=λh=>aq6 (E:=E) x.addr h;have hu:(yD x.addr).length=4:=rfl;have hb':acc1.length+5<=big:=by
    have:(kv x).length=5:=rfl;omega
   obtain ⟨bs2,F,p1,p2,p3,p4,p5⟩:=hB1.app hm1 (xs:=yD x.addr) (by simp [yD]) (by rw [hu]; omega) (src:=.d (bytesD (yD x.addr))) (λlo=>jW _ _);have hB2:=p2.le (show L+1<=bs1.length by omega);have hK2:=hK1.kx hB1 p3;obtain ⟨bs3,F3,r1,r2,r3,r4,r5⟩:=(hB2.lay [.cells [.d (.int .u8 (wrap .u8 x.bits))]]).app (by simp; omega) (xs:=[wrap .u8 x.bits]) (by simp) (by rw [aw,hu]; simp; omega) (src:=.row bs2.length 0 1 (some 1) 1) (λlo=>o9 lo);have eT:acc1++yD x.addr++[wrap .u8 x.bits]=acc1++kv x:=by simp [kv]
   rw [eT] at r1 r2;have hl3:bs3.length=bs2.length+2:=by rw [r4]; simp
   refine ⟨bs3,F3 (F lo),_,λW=>?_,(hK2.lay _).kx (hB2.lay _) r3,by omega,r2.le (by simp; omega),λh=>r5 _ (p5 _ h)⟩;have hnu:=hB1.nu;have hq1:=p1 lo;have hq2:=r1 (F lo);simp at hq1 hq2;simp [sW,hK1.r0,hK2.r0,h0,hsx,hix,hnu,hwa,hc,hq1,aL,hq2,hw]
 . have hsx:=λh=>aA (z:=3) h hs (cells:=Source.c) rfl;have hnu:=hB.nu;simp [sW,hK1.r0,hsx,hnu]
end
end
