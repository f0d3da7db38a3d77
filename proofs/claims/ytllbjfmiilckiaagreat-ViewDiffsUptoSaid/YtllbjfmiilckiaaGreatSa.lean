/- Layer 16's functions: Pod, At, WayOf, service. -/
import Derived.Test.YtllbjfmiilckiaaGreatT8
set_option maxRecDepth 100000
set_option linter.unusedVariables false
set_option linter.unusedSimpArgs false
namespace Go.Proofs.YtllbjfmiilckiaaGreat
open IntKind (wrap)
section
variable {E:Calls'}
def bp8 (c:Cfg)(n:Int):Option Way:=match c.services.l.find? (λp=>p.id==n) with
 | none=>none
 | some s=>if s.way==0 then none else c.bound.l.find? λw=>w.id==s.way
theorem L46 (c:Cfg)(hc:short c.pods)(n:Int)(bs:List Blk)(lo:Nat)(hb:ah bs 0=some (c.c.map .d)):∀ (m i:Nat),i+m=c.pods.l.length →
 Cd E TT aD (.loop [1,2,5] nQ) [(1,.d (u64 n)),(2,.ptr 0 0),(5,.d (i64 i))] ⟨bs,lo⟩ =
  match (c.pods.l.drop i).findIdx? (λp=>p.uid==n) with
  | some k=>some (.ret,[(4,.d (i64 (i+k:Nat)))],⟨bs,lo⟩)
  | none=>some (.exit 0,[],⟨bs,lo⟩):=by
 have hlt:=hc.lt;intro m;have key:=aC (E:=E) (T:=TT) (val:=aD) [1,2,5] nQ;generalize Cd E TT aD (.loop [1,2,5] nQ)=W at key ⊢
 induction m with
 | zero =>
  intro i hi;have h0:c.pods.l.drop i=[]:=ba (by omega);rw [key];simp [nQ,hb,h0,Sl.d,show ¬ ((i:Int)<c.pods.l.length) from by omega]
 | succ m ih =>
  intro i hi;have hlt:i<c.pods.l.length:=by omega
  have hd:c.pods.l.drop i=c.pods.l[i]::c.pods.l.drop (i+1):=aw hlt;have hg:c.pods.l[i]?=some c.pods.l[i]:=ab hlt;generalize c.pods.l[i]=x at *;have hx:=λh=>av (z:=7) h hg (cells:=Pod.c) rfl;rw [key,hd];have hl:rM false (.d (Sl.d Pod.c c.pods)) ⟨bs,lo⟩=some (.d (i64 c.pods.l.length),⟨bs,lo⟩):=by simp [Sl.d]
  by_cases hq:x.uid=n
  . simp [nQ,hb,hl,hx,hq,List.findIdx?_cons,show ((i:Int)<c.pods.l.length) from by omega]
  . have hq':(x.uid==n)=false:=by simpa using hq
    have hw:wrap .i64 ((i:Int)+1)=((i+1:Nat):Int):=by rw [wrap64]<;>omega
    have:=ih (i+1) (by omega);simp [nQ,hb,hl,hx,hq',hq,List.findIdx?_cons,hw,show ((i:Int)<c.pods.l.length) from by omega];rw [show ((i:Int)+1)=((i+1:Nat):Int) from by omega,this];cases hfi:(c.pods.l.drop (i+1)).findIdx? (λp=>p.uid==n) with
    | none=>rfl
    | some k=>simp; omega
theorem S46 (c:Cfg)(hc:c.ok)(n:Int)(h:Hp):Sm E TT aD 60 [c.v,.d (u64 n)] h=some (.d (i64 (gp c.pods.l λp=>p.uid==n)),h):=by
 rw [aY t46 v46];have hl:=L46 (E:=E) c hc.1 n [.cells (c.c.map .d)] 0 rfl c.pods.l.length 0 (by omega);simp at hl;simp [q46,ae];rw [au];simp [hl,gp];cases c.pods.l.findIdx? (λp=>p.uid==n)<;>simp
theorem YQ (c:Cfg)(hc:short c.services)(n:Int)(bs:List Blk)(lo:Nat)(hb:ah bs 0=some (c.c.map .d)):∀ (m i:Nat),i+m=c.services.l.length →
 Cd E TT aD (.loop [1,2,5] kR) [(1,.d (u64 n)),(2,.ptr 0 0),(5,.d (i64 i))] ⟨bs,lo⟩ =
  match (c.services.l.drop i).findIdx? (λp=>p.id==n) with
  | some k=>some (.ret,[(4,.d (i64 (i+k:Nat)))],⟨bs,lo⟩)
  | none=>some (.exit 0,[],⟨bs,lo⟩):=by
 have hlt:=hc.lt;intro m;have key:=aC (E:=E) (T:=TT) (val:=aD) [1,2,5] kR;generalize Cd E TT aD (.loop [1,2,5] kR)=W at key ⊢
 induction m with
 | zero =>
  intro i hi;have h0:c.services.l.drop i=[]:=ba (by omega);rw [key];simp [kR,hb,h0,Sl.d,show ¬ ((i:Int)<c.services.l.length) from by omega]
 | succ m ih =>
  intro i hi;have hlt:i<c.services.l.length:=by omega
  have hd:c.services.l.drop i=c.services.l[i]::c.services.l.drop (i+1):=aw hlt;have hg:c.services.l[i]?=some c.services.l[i]:=ab hlt;generalize c.services.l[i]=x at *;have hx:=λh=>av (z:=5) h hg (cells:=Svc.c) rfl;rw [key,hd];have hl:rM false (.d (Sl.d Svc.c c.services)) ⟨bs,lo⟩=some (.d (i64 c.services.l.length),⟨bs,lo⟩):=by simp [Sl.d]
  by_cases hq:x.id=n
  . simp [kR,hb,hl,hx,hq,List.findIdx?_cons,show ((i:Int)<c.services.l.length) from by omega]
  . have hq':(x.id==n)=false:=by simpa using hq
    have hw:wrap .i64 ((i:Int)+1)=((i+1:Nat):Int):=by rw [wrap64]<;>omega
    have:=ih (i+1) (by omega);simp [kR,hb,hl,hx,hq',hq,List.findIdx?_cons,hw,show ((i:Int)<c.services.l.length) from by omega];rw [show ((i:Int)+1)=((i+1:Nat):Int) from by omega,this];cases hfi:(c.services.l.drop (i+1)).findIdx? (λp=>p.id==n) with
    | none=>rfl
    | some k=>simp; omega
theorem Zj (c:Cfg)(hc:c.ok)(n:Int)(h:Hp):Sm E TT aD 61 [c.v,.d (u64 n)] h=some (.d (i64 (gp c.services.l λp=>p.id==n)),h):=by
 rw [aY ay0 bi3];have hl:=YQ (E:=E) c hc.2.1 n [.cells (c.c.map .d)] 0 rfl c.services.l.length 0 (by omega);simp at hl;simp [NV,ae];rw [au];simp [hl,gp];cases c.services.l.findIdx? (λp=>p.id==n)<;>simp
theorem YR (c:Cfg)(hc:short c.bound)(n:Int)(bs:List Blk)(lo:Nat)(hb:ah bs 0=some (c.c.map .d)):∀ (m i:Nat),i+m=c.bound.l.length →
 Cd E TT aD (.loop [1,2,5] kS) [(1,.d (u64 n)),(2,.ptr 0 0),(5,.d (i64 i))] ⟨bs,lo⟩ =
  match (c.bound.l.drop i).findIdx? (λp=>p.id==n) with
  | some k=>some (.ret,[(4,.d (i64 (i+k:Nat)))],⟨bs,lo⟩)
  | none=>some (.exit 0,[],⟨bs,lo⟩):=by
 have hlt:=hc.lt;intro m;have key:=aC (E:=E) (T:=TT) (val:=aD) [1,2,5] kS;generalize Cd E TT aD (.loop [1,2,5] kS)=W at key ⊢
 induction m with
 | zero =>
  intro i hi;have h0:c.bound.l.drop i=[]:=ba (by omega);rw [key];simp [kS,hb,h0,Sl.d,show ¬ ((i:Int)<c.bound.l.length) from by omega]
 | succ m ih =>
  intro i hi;have hlt:i<c.bound.l.length:=by omega
  have hd:c.bound.l.drop i=c.bound.l[i]::c.bound.l.drop (i+1):=aw hlt;have hg:c.bound.l[i]?=some c.bound.l[i]:=ab hlt;generalize c.bound.l[i]=x at *;have hx:=λh=>av (z:=2) h hg (cells:=Way.c) rfl;rw [key,hd];have hl:rM false (.d (Sl.d Way.c c.bound)) ⟨bs,lo⟩=some (.d (i64 c.bound.l.length),⟨bs,lo⟩):=by simp [Sl.d]
  by_cases hq:x.id=n
  . simp [kS,hb,hl,hx,hq,List.findIdx?_cons,show ((i:Int)<c.bound.l.length) from by omega]
  . have hq':(x.id==n)=false:=by simpa using hq
    have hw:wrap .i64 ((i:Int)+1)=((i+1:Nat):Int):=by rw [wrap64]<;>omega
    have:=ih (i+1) (by omega);simp [kS,hb,hl,hx,hq',hq,List.findIdx?_cons,hw,show ((i:Int)<c.bound.l.length) from by omega];rw [show ((i:Int)+1)=((i+1:Nat):Int) from by omega,this];cases hfi:(c.bound.l.drop (i+1)).findIdx? (λp=>p.id==n) with
    | none=>rfl
    | some k=>simp; omega
theorem Zk (c:Cfg)(hc:c.ok)(n:Int)(h:Hp):Sm E TT aD 62 [c.v,.d (u64 n)] h=some (.d (i64 (gp c.bound.l λp=>p.id==n)),h):=by
 rw [aY ay1 bi4];have hl:=YR (E:=E) c hc.2.2.1 n [.cells (c.c.map .d)] 0 rfl c.bound.l.length 0 (by omega);simp at hl;simp [NW,ae];rw [au];simp [hl,gp];cases c.bound.l.findIdx? (λp=>p.id==n)<;>simp
def Nk (p:Pol)(ns:ByteArray)(service:Int):Bool:=(eqS p.ns ⟨#[]⟩||eqS p.ns ns)&&(p.service==0||p.service==service)
end
section
section
variable {E:Calls'}{T:FuncId->Option QF}{val:FuncId->Bool}
def DW (z b:Nat)(zero:List V):QC:=(sr [op 11 (bt .lss 10 9)] (.seq (.cond (.t 11) .skip (.exit 0 [5])) (.seq (.block 1 (sr [op 12 (.idxA none z (.t 8) (.t 10)),op 13 (.load false z (.t 12)),op 7 (.new zero),⟨none,none,.store z (.t 7) (.t 13)⟩] (.reg none [mv 14 5,mv 15 1,op 16 (.load false z (.t 7)),op 17 (kt' 15 [.t 16]),op 18 (.buildS z 1 zero [(0,z,(.t 17))]),op 19 (.app z b (.t 14) (.t 18)),mv 5 19]))) (.reg none [op 20 (bc .add 10 1),mv 10 20]))))
def mapQ (z b:Nat)(zero:List V):QF:=⟨22,[.tmp 4],(sr [op 4 (.mov (.c zs0))] (sr [op 5 (.mov (.c zs0))] (.seq (sr [mv 8 0,op 9 (ln' 8),oc' 10 0] (.block 0 (.loop [1,5,8,9,10] (DW z b zero)))) (sr [mv 21 5,mv 4 21] (.ret [4])))))⟩
theorem Gn {α:Type}{cells:α->List D}{z by_:Nat}(hz:∀ x,(cells x).length=z)(hz0:0<z)(hby:by_<=4096){zero:List V}(hzero:zero.length=z){s:Sl α}(hs:short s){f:FuncId}{g:α->α}{base:List Blk}
 (hf:∀ e∈s.l,∀ h,Sm E T val f [ag (cells e)] h=some (ag (cells (g e)),h)) :
 ∀ (m i:Nat) (acc:List (List D)) (bs:List Blk) (lo:Nat) (v:V),i+m=s.l.length->acc.length<=i->Acc base z acc bs v →
  ∃ bs' lo' v',Cd E T val (.loop [1,5,8,9,10] (DW z by_ zero)) [(1,.fn f []),(5,v),(8,.d (s.d cells)),(9,.d (.int .i64 s.l.length)),(10,.d (.int .i64 i))] ⟨bs,lo⟩ =
   some (.exit 0,[(5,v')],⟨bs',lo'⟩)/\Acc base z (acc++((s.l.drop i).map λx=>cells (g x))) bs' v':=by
 intro m;have hlen:=hs.lt;have key:=aC (E:=E) (T:=T) (val:=val) [1,5,8,9,10] (DW z by_ zero);generalize Cd E T val (.loop [1,5,8,9,10] (DW z by_ zero))=W at key ⊢
 induction m with
 | zero =>
  intro i acc bs lo v hi hai ha;have h0:s.l.drop i=[]:=ba (by omega);refine ⟨bs,lo,v,?_,by simpa [h0] using ha⟩;rw [key];simp [DW,show ¬ ((i:Int)<s.l.length) from by omega]
 | succ m ih =>
  intro i acc bs lo v hi hai ha;have hlt:i<s.l.length:=by omega
  have hd:s.l.drop i=s.l[i]::s.l.drop (i+1):=aw hlt;have hg:s.l[i]?=some s.l[i]:=ab hlt;have hcall:=hf _ (bj hlt);generalize s.l[i]=x at *;have hx:=λh=>av (z:=z) h hg (cells:=cells) (hz x);have hput:∀ y:α,put zero 0 ((cells y).map V.d)=some ((cells y).map .d):=by intro y; simp [put,hz,hzero]
  have hsubx:sub (cells x) 0 z=some (cells x):=cO (hz x);have hw:wrap .i64 ((i:Int)+1)=((i+1:Nat):Int):=by rw [wrap64]<;>omega
  have hnu:=ha.nu;have ha1:=ha.lay [.cells ((cells x).map .d),.cells ((cells (g x)).map .d)];have hbig:acc.length<big:=by have:=hs.1; omega
  obtain ⟨v1,bs1,lo1,k1,k2⟩:=ha1.app hz0 hby (e:=cells (g x)) (hz _) hbig (min lo bs.length) (r:=bs.length+1) (cap:=some 1) (by simp);have hnu1:=k2.nu;obtain ⟨bs',lo',v',q1,q2⟩:=ih (i+1) (acc++[cells (g x)]) bs1 lo1 v1 (by omega) (by simp; omega) k2;refine ⟨bs',lo',v',?_,by simpa [hd] using q2⟩;rw [key];simp [DW,hx,hput,hsubx,hcall,hw,hnu,hz,hz0,aN,k1,hnu1,show ((i:Int)<s.l.length) from by omega];simpa using q1
theorem Fb {α:Type}{cells:α->List D}{z by_ id:Nat}{zero:List V}(ht:T id=some (mapQ z by_ zero))(hv:val id=true)(hz:∀ x,(cells x).length=z)(hz0:0<z)(hby:by_<=4096)(hzero:zero.length=z){s:Sl α}(hs:short s){f:FuncId}{g:α->α}
 (hf:∀ e∈s.l,∀ h,Sm E T val f [ag (cells e)] h=some (ag (cells (g e)),h)) (h:Hp) :
 Sm E T val id [.d (s.d cells),.fn f []] h=some (.d (Sl.d cells ⟨s.l.isEmpty,s.l.map g⟩),h):=by
 rw [aY ht hv];obtain ⟨bs',lo',v',q1,q2⟩:=Gn (E:=E) (T:=T) (val:=val) hz hz0 hby hzero hs hf s.l.length 0 [] [] 0 _ (by omega) (by simp) (Acc.nil [] z);have hn:=q2.nu;have hfz:=(q2.frz lo').1;have hfr:frz h (.fn f [])=some (.fn f []):=rfl;have hl:rM false (.d (Sl.d cells s)) ⟨[],0⟩=some (.d (i64 s.l.length),⟨[],0⟩):=by simp [Sl.d]
 have hfm:(s.l.map λx=>cells (g x)).isEmpty=s.l.isEmpty:=by cases s.l<;>rfl
 simp at q1;simp [ae,mapQ,hfr,hl];rw [au];simp [q1,hn];simp only [List.nil_append,List.drop_zero] at hfz;rw [hfz];simp [hfm,Sl.d,dY]
end
end
section
variable {E:Calls'}
def nk:List V:=[(.d (.int .u64 0)),(.d (.str ⟨#[]⟩)),(.d (.str ⟨#[]⟩)),(.d (.int .i64 0)),(.d (.int .u32 0)),(.d (.int .i64 0)),(.d (.int .u64 0))]
end
section
theorem bL (a:ByteArray):a.toList=a.data.toList:=by
 simp [ByteArray.toList_eq]
theorem eqS_iff {a b:ByteArray}:eqS a b=true↔a=b:=by
 simp only [eqS,beq_iff_eq,bL];constructor
 . intro h;cases a; cases b;simp at h;rw [h]
 . rintro rfl; rfl
@[simp] theorem Tn (a:ByteArray):eqS a a=true:=eqS_iff.2 rfl
def Pod.eqB (x y:Pod):Bool:=x.uid==y.uid&&(eqS x.ns y.ns&&(eqS x.sa y.sa&&(x.host==y.host&&(x.addr==y.addr&&(x.port==y.port&&(x.service==y.service&&true))))))
def Svc.eqB (x y:Svc):Bool:=x.id==y.id&&(eqS x.ns y.ns&&(x.addr==y.addr&&(x.port==y.port&&(x.way==y.way&&true))))
def Way.eqB (x y:Way):Bool:=x.id==y.id&&(x.node==y.node&&true)
def Term.eqB (x y:Term):Bool:=x.kind==y.kind&&(eqS x.text y.text&&true)
def Cidr.eqB (x y:Cidr):Bool:=x.addr==y.addr&&(x.bits==y.bits&&true)
theorem Pod.eqB_iff {x y:Pod}:x.eqB y=true↔x=y:=by
 cases x; cases y; simp [Pod.eqB,eqS_iff]
theorem Svc.eqB_iff {x y:Svc}:x.eqB y=true↔x=y:=by
 cases x; cases y; simp [Svc.eqB,eqS_iff]
theorem Way.eqB_iff {x y:Way}:x.eqB y=true↔x=y:=by
 cases x; cases y; simp [Way.eqB]
theorem Term.eqB_iff {x y:Term}:x.eqB y=true↔x=y:=by
 cases x; cases y; simp [Term.eqB,eqS_iff]
theorem Cidr.eqB_iff {x y:Cidr}:x.eqB y=true↔x=y:=by
 cases x; cases y; simp [Cidr.eqB]
section
variable {h:Hp}{n:Bool}
@[simp] theorem IW {x y:Pod}:eqv (.agg [(.i .u64),.s,.s,(.i .i64),(.i .u32),(.i .i64),(.i .u64)]) n (ag x.c) (ag y.c) h=some (.d (.bool (x.eqB y != n)),h):=by
 simp [eqv,fQ,ag,Pod.c,bz,lH,Pod.eqB,eqS]
@[simp] theorem IX {x y:Svc}:eqv (.agg [(.i .u64),.s,(.i .u32),(.i .i64),(.i .u64)]) n (ag x.c) (ag y.c) h=some (.d (.bool (x.eqB y != n)),h):=by
 simp [eqv,fQ,ag,Svc.c,bz,lH,Svc.eqB,eqS]
@[simp] theorem IY {x y:Way}:eqv (.agg [(.i .u64),(.i .i64)]) n (ag x.c) (ag y.c) h=some (.d (.bool (x.eqB y != n)),h):=by
 simp [eqv,fQ,ag,Way.c,bz,lH,Way.eqB]
@[simp] theorem FY {x y:Term}:eqv (.agg [(.i .i64),.s]) n (ag x.c) (ag y.c) h=some (.d (.bool (x.eqB y != n)),h):=by
 simp [eqv,fQ,ag,Term.c,bz,lH,Term.eqB,eqS]
@[simp] theorem FX {x y:Cidr}:eqv (.agg [(.i .u32),(.i .i64)]) n (ag x.c) (ag y.c) h=some (.d (.bool (x.eqB y != n)),h):=by
 simp [eqv,fQ,ag,Cidr.c,bz,lH,Cidr.eqB]
end
def all2 {α β:Type}(f:α->β->Bool):List α->List β->Bool
 | [],[]=>true
 | x::l,y::m=>f x y&&all2 f l m
 | _,_=>false
theorem sV {α β:Type}{f:α->β->Bool}:∀ {l:List α} {m:List β},all2 f l m=true->l.length=m.length
 | [],[],_=>rfl
 | x::l,y::m,h=>by simp [all2] at h; simp [sV h.2]
 | [],y::m,h=>by simp [all2] at h
 | x::l,[],h=>by simp [all2] at h
theorem eU {α β:Type}{f:α->β->Bool}{l:List α}{m:List β}(h:l.length≠m.length):all2 f l m=false:=by
 cases hx:all2 f l m with
 | false=>rfl
 | true=>exact absurd (sV hx) h
theorem dE {α:Type}{f:α->α->Bool}(hf:∀ x,f x x=true):∀ l:List α,all2 f l l=true
 | []=>rfl
 | x::l=>by simp [all2,hf,dE hf l]
theorem yz {α β γ:Type}{f:α->β->Bool}(g:γ->α):∀ (l:List γ) (m:List β),all2 f (l.map g) m=all2 (λx y=>f (g x) y) l m
 | [],[]=>rfl
 | x::l,y::m=>by simp [all2,yz g l m]
 | [],y::m=>rfl
 | x::l,[]=>rfl
theorem eP {α β:Type}{f:α->β->Bool}{l:List α}{m:List β}{i:Nat}(h1:i<l.length)(h2:i<m.length):all2 f (l.drop i) (m.drop i)=(f l[i] m[i]&&all2 f (l.drop (i+1)) (m.drop (i+1))):=by
 rw [aw h1,aw h2]; rfl
def Source.same (a b:Source):Bool:=all2 Term.eqB a.names.l b.names.l&&(all2 Term.eqB a.spaces.l b.spaces.l&&all2 Cidr.eqB a.nets.l b.nets.l)
def Target.same (a b:Target):Bool:=all2 Term.eqB a.methods.l b.methods.l&&(all2 Term.eqB a.paths.l b.paths.l&&(all2 Term.eqB a.hosts.l b.hosts.l&&all2 (λx y:Int=>x==y) a.ports.l b.ports.l))
def When.same (a b:When):Bool:=eqS a.head b.head&&all2 Term.eqB a.terms.l b.terms.l
def Rule.same (a b:Rule):Bool:=all2 Source.same a.frm.l b.frm.l&&(all2 Target.same a.to.l b.to.l&&all2 When.same a.whn.l b.whn.l)
def Pol.same (a b:Pol):Bool:=a.id==b.id&&(eqS a.ns b.ns&&(a.service==b.service&&(a.deny==b.deny&&all2 Rule.same a.rules.l b.rules.l)))
theorem oh (l:List Term):all2 Term.eqB l l=true:=dE (λ_=>Term.eqB_iff.2 rfl) l
theorem Source.same_refl (a:Source):a.same a=true:=by simp [Source.same,oh,dE (λ_=>Cidr.eqB_iff.2 rfl)]
theorem Target.same_refl (a:Target):a.same a=true:=by simp [Target.same,oh,dE]
theorem When.same_refl (a:When):a.same a=true:=by simp [When.same,oh]
theorem Rule.same_refl (a:Rule):a.same a=true:=by simp [Rule.same,dE Source.same_refl,dE Target.same_refl,dE When.same_refl]
theorem Pol.same_refl (a:Pol):a.same a=true:=by simp [Pol.same,dE Rule.same_refl]
end
section
variable {E:Calls'}
theorem Dc {s:Sl Term}(hs:short s)(h:Hp):Sm E TT aD 352 [.d (s.d Term.c)] h=some (.d (s.d Term.c),h) :=
 sU (z:=2) (b:=24) (zero:=[(.d (.int .i64 0)),(.d (.str ⟨#[]⟩))]) az8 bk3 (by decide) (by decide) (λ_=>rfl) hs h
theorem ZA {s:Sl Cidr}(hs:short s)(h:Hp):Sm E TT aD 353 [.d (s.d Cidr.c)] h=some (.d (s.d Cidr.c),h) :=
 sU (z:=2) (b:=16) (zero:=[(.d (.int .u32 0)),(.d (.int .i64 0))]) az9 bk4 (by decide) (by decide) (λ_=>rfl) hs h
theorem ZB {s:Sl Int}(hs:short s)(h:Hp):Sm E TT aD 344 [.d (s.d gq)] h=some (.d (s.d gq),h) :=
 sU (z:=1) (b:=8) (zero:=[(.d (.int .i64 0))]) ba0 bk5 (by decide) (by decide) (λ_=>rfl) hs h
theorem Zr (s:Source)(hs:s.fits big)(h:Hp):Sm E TT aD 268 [ag s.c] h=some (ag s.c,h):=by
 rw [aY az0 bj3];simp +decide [ae,Ou,aA,aa,Dc hs.1,Dc hs.2.1,ZA hs.2.2];rfl
theorem Zu (s:Target)(hs:s.fits big)(h:Hp):Sm E TT aD 270 [ag s.c] h=some (ag s.c,h):=by
 rw [aY az2 bj5];simp +decide [ae,Ov,aA,aa,ZB hs.1,Dc hs.2.1,Dc hs.2.2.1,Dc hs.2.2.2];rfl
@[simp] theorem When.p1 {x:When}{v:V}:put (x.c.map V.d) 1 [v]=some [.d (.str x.head),v]:=rfl
@[simp] theorem Pol.p4 {x:Pol}{v:V}:put (x.c.map V.d) 4 [v]=some [.d (u64 x.id),.d (.str x.ns),.d (u64 x.service),.d (i64 x.deny),v]:=rfl
theorem Zw (s:When)(hs:s.fits big)(h:Hp):Sm E TT aD 272 [ag s.c] h=some (ag s.c,h):=by
 rw [aY az4 bj7];simp [ae,Ow,Dc hs];rfl
def sl0 (n:Nat):List V:=List.replicate n (.d (.slice true []))
theorem Zq {s:Sl Source}(hs:short s)(hf:∀ x∈s.l,x.fits big)(h:Hp):Sm E TT aD 267 [.d (s.d Source.c),.fn 268 []] h=some (.d (Sl.d Source.c ⟨s.l.isEmpty,s.l⟩),h):=by
 have:=Fb (E:=E) (T:=TT) (val:=aD) (cells:=Source.c) (z:=3) (by_:=72) (zero:=sl0 3) ay9 bj2 (λ_=>rfl) (by decide) (by decide) rfl hs (f:=268) (g:=id) (λe he h=>Zr e (hf e he) h) h;simpa using this
theorem Zt {s:Sl Target}(hs:short s)(hf:∀ x∈s.l,x.fits big)(h:Hp):Sm E TT aD 269 [.d (s.d Target.c),.fn 270 []] h=some (.d (Sl.d Target.c ⟨s.l.isEmpty,s.l⟩),h):=by
 have:=Fb (E:=E) (T:=TT) (val:=aD) (cells:=Target.c) (z:=4) (by_:=96) (zero:=sl0 4) az1 bj4 (λ_=>rfl) (by decide) (by decide) rfl hs (f:=270) (g:=id) (λe he h=>Zu e (hf e he) h) h;simpa using this
theorem Zv {s:Sl When}(hs:short s)(hf:∀ x∈s.l,x.fits big)(h:Hp):Sm E TT aD 271 [.d (s.d When.c),.fn 272 []] h=some (.d (Sl.d When.c ⟨s.l.isEmpty,s.l⟩),h):=by
 have:=Fb (E:=E) (T:=TT) (val:=aD) (cells:=When.c) (z:=2) (by_:=40) (zero:=[(.d (.str ⟨#[]⟩)),(.d (.slice true []))]) az3 bj6 (λ_=>rfl) (by decide) (by decide) rfl hs (f:=272) (g:=id) (λe he h=>Zw e (hf e he) h) h;simpa using this
def Rule.own (r:Rule):Rule:=⟨⟨r.frm.l.isEmpty,r.frm.l⟩,⟨r.to.l.isEmpty,r.to.l⟩,⟨r.whn.l.isEmpty,r.whn.l⟩⟩
def Pol.own (p:Pol):Pol:={ p with rules:=⟨p.rules.l.isEmpty,p.rules.l.map Rule.own⟩ }
theorem Q8 (r:Rule)(hr:r.fits big)(h:Hp):Sm E TT aD 204 [ag r.c] h=some (ag r.own.c,h):=by
 rw [aY ay4 bi7];simp +decide [ae,Oh,aA,aa,Zq hr.1.1 hr.1.2,Zt hr.2.1.1 hr.2.1.2,Zv hr.2.2.1 hr.2.2.2];rfl
end
section
variable {E:Calls'}
theorem ay {i n:Nat}(h:i<n)(hn:n<2 ^ 62):wrap .i64 ((i:Int)+1)=((i+1:Nat):Int):=by rw [wrap64]<;>omega
theorem YS {a b:Sl Term}(ha:short a)(hl:a.l.length=b.l.length)(h:Hp):∀ (m i:Nat),i+m=a.l.length →
 Cd E TT aD (.loop [0,1,5] kT) [(0,.d (a.d Term.c)),(1,.d (b.d Term.c)),(5,.d (i64 i))] h=if all2 Term.eqB (a.l.drop i) (b.l.drop i)=true then some (.exit 0,[],h) else some (.ret,[(4,bl false)],h):=by
 have hlt:=ha.lt;intro m;have key:=aC (E:=E) (T:=TT) (val:=aD) [0,1,5] kT;generalize Cd E TT aD (.loop [0,1,5] kT)=W at key ⊢
 induction m with
 | zero =>
  intro i hi;rw [key,ba (by omega),ba (by omega)];simp [kT,all2,show ¬ ((i:Int)<a.l.length) from by omega]
 | succ m ih =>
  intro i hi;have h1:i<a.l.length:=by omega
  have h2:i<b.l.length:=by omega
  have hx:=λh=>av (z:=2) h (ab h1) (cells:=Term.c) rfl;have hy:=λh=>av (z:=2) h (ab h2) (cells:=Term.c) rfl;have hw:=ay h1 hlt;have:=ih (i+1) (by omega);rw [key,eP h1 h2];cases hq:Term.eqB a.l[i] b.l[i] with
  | true =>
   simp [kT,hx,hy,hq,hw,show ((i:Int)<a.l.length) from by omega];simpa using this
  | false=>simp [kT,hx,hy,hq,show ((i:Int)<a.l.length) from by omega]
theorem jY {a b:Sl Term}(ha:short a)(h:Hp):Sm E TT aD 205 [.d (a.d Term.c),.d (b.d Term.c)] h=some (bl (all2 Term.eqB a.l b.l),h):=by
 rw [aY t183 v183];by_cases hl:a.l.length=b.l.length
 . have hL:=YS (E:=E) ha hl ⟨[],0⟩ a.l.length 0 (by omega);simp at hL;simp [ae,Ju,hl];rw [au];simp [hL];cases hq:all2 Term.eqB a.l b.l<;>simp
 . have hl':¬ ((a.l.length:Int)=b.l.length):=by omega
   simp [ae,Ju,hl,hl',eU hl]
theorem YT {a b:Sl Cidr}(ha:short a)(hl:a.l.length=b.l.length)(h:Hp):∀ (m i:Nat),i+m=a.l.length →
 Cd E TT aD (.loop [0,1,5] kU) [(0,.d (a.d Cidr.c)),(1,.d (b.d Cidr.c)),(5,.d (i64 i))] h=if all2 Cidr.eqB (a.l.drop i) (b.l.drop i)=true then some (.exit 0,[],h) else some (.ret,[(4,bl false)],h):=by
 have hlt:=ha.lt;intro m;have key:=aC (E:=E) (T:=TT) (val:=aD) [0,1,5] kU;generalize Cd E TT aD (.loop [0,1,5] kU)=W at key ⊢
 induction m with
 | zero =>
  intro i hi;rw [key,ba (by omega),ba (by omega)];simp [kU,all2,show ¬ ((i:Int)<a.l.length) from by omega]
 | succ m ih =>
  intro i hi;have h1:i<a.l.length:=by omega
  have h2:i<b.l.length:=by omega
  have hx:=λh=>av (z:=2) h (ab h1) (cells:=Cidr.c) rfl;have hy:=λh=>av (z:=2) h (ab h2) (cells:=Cidr.c) rfl;have hw:=ay h1 hlt;have:=ih (i+1) (by omega);rw [key,eP h1 h2];cases hq:Cidr.eqB a.l[i] b.l[i] with
  | true =>
   simp [kU,hx,hy,hq,hw,show ((i:Int)<a.l.length) from by omega];simpa using this
  | false=>simp [kU,hx,hy,hq,show ((i:Int)<a.l.length) from by omega]
theorem Q7 {a b:Sl Cidr}(ha:short a)(h:Hp):Sm E TT aD 206 [.d (a.d Cidr.c),.d (b.d Cidr.c)] h=some (bl (all2 Cidr.eqB a.l b.l),h):=by
 rw [aY ay2 bi5];by_cases hl:a.l.length=b.l.length
 . have hL:=YT (E:=E) ha hl ⟨[],0⟩ a.l.length 0 (by omega);simp at hL;simp [ae,Jv,hl];rw [au];simp [hL];cases hq:all2 Cidr.eqB a.l b.l<;>simp
 . have hl':¬ ((a.l.length:Int)=b.l.length):=by omega
   simp [ae,Jv,hl,hl',eU hl]
theorem QT {a b:Rule}(ha:a.fits big)(hl:a.frm.l.length=b.frm.l.length):∀ (m i:Nat) (J:List Blk),i+m=a.frm.l.length →
 ∃ J',Cd E TT aD (.loop [2,3,5] nR) [(2,.ptr 0 0),(3,.ptr 1 0),(5,.d (i64 i))] ⟨.cells (a.c.map .d)::.cells (b.c.map .d)::J,0⟩ =
  if all2 Source.same (a.frm.l.drop i) (b.frm.l.drop i)=true then some (.exit 0,[(2,.ptr 0 0),(3,.ptr 1 0)],⟨.cells (a.c.map .d)::.cells (b.c.map .d)::J',0⟩)
  else some (.ret,[(4,bl false)],⟨.cells (a.c.map .d)::.cells (b.c.map .d)::J',0⟩):=by
 have hlt:=ha.1.1.lt;intro m;have key:=aC (E:=E) (T:=TT) (val:=aD) [2,3,5] nR;generalize Cd E TT aD (.loop [2,3,5] nR)=W at key ⊢
 induction m with
 | zero =>
  intro i J hi;refine ⟨J,?_⟩;rw [key,ba (by omega),ba (by omega)];simp [nR,all2,show ¬ ((i:Int)<a.frm.l.length) from by omega]
 | succ m ih =>
  intro i J hi;have h1:i<a.frm.l.length:=by omega
  have h2:i<b.frm.l.length:=by omega
  have hx:=λh=>av (z:=3) h (ab h1) (cells:=Source.c) rfl;have hy:=λh=>av (z:=3) h (ab h2) (cells:=Source.c) rfl;have hw:=ay h1 hlt;have hfx:=ha.1.2 _ (bj h1);rw [eP h1 h2];generalize a.frm.l[i]=x at *;generalize b.frm.l[i]=y at *;obtain ⟨J',hJ⟩:=ih (i+1) (J++[.cells (x.c.map .d),.cells (y.c.map .d)]) (by omega);cases hA:all2 Term.eqB x.names.l y.names.l<;>cases hB:all2 Term.eqB x.spaces.l y.spaces.l<;>cases hC:all2 Cidr.eqB x.nets.l y.nets.l
  case true.true.true =>
   refine ⟨J',?_⟩;rw [key];simp [nR,hx,hy,aA,aG,Tr.spares,List.range,List.range.loop,jY hfx.1,jY hfx.2.1,Q7 hfx.2.2,hA,hB,hC,hw,Source.same,show ((i:Int)<a.frm.l.length) from by omega];simpa using hJ
  all_goals
   refine ⟨J++[.cells (x.c.map .d),.cells (y.c.map .d)],?_⟩;rw [key];simp [nR,hx,hy,aA,aG,Tr.spares,List.range,List.range.loop,jY hfx.1,jY hfx.2.1,Q7 hfx.2.2,hA,hB,hC,Source.same,show ((i:Int)<a.frm.l.length) from by omega]
theorem QU {x y:Target}(hx:short x.ports)(hl:x.ports.l.length=y.ports.l.length){h:Hp}{p q:Nat}{t2 t3 t8:V}(hp:ah h.bs p=some (x.c.map .d))(hq:ah h.bs q=some (y.c.map .d)):∀ (m i:Nat),i+m=x.ports.l.length →
 Cd E TT aD (.loop [2,3,8,9,10,11] nS) [(2,t2),(3,t3),(8,t8),(9,.ptr p 0),(10,.ptr q 0),(11,.d (i64 i))] h =
  if all2 (λx y:Int=>x==y) (x.ports.l.drop i) (y.ports.l.drop i)=true then some (.exit 4,[(2,t2),(3,t3),(8,t8)],h) else some (.ret,[(4,bl false)],h):=by
 have hlt:=hx.lt;intro m;have key:=aC (E:=E) (T:=TT) (val:=aD) [2,3,8,9,10,11] nS;generalize Cd E TT aD (.loop [2,3,8,9,10,11] nS)=W at key ⊢
 induction m with
 | zero =>
  intro i hi;rw [key,ba (by omega),ba (by omega)];simp [nS,all2,hp,show ¬ ((i:Int)<x.ports.l.length) from by omega]
 | succ m ih =>
  intro i hi;have h1:i<x.ports.l.length:=by omega
  have h2:i<y.ports.l.length:=by omega
  have hx:=λh=>av (z:=1) h (ab h1) (cells:=gq) rfl;have hy:=λh=>av (z:=1) h (ab h2) (cells:=gq) rfl;have hw:=ay h1 hlt;have:=ih (i+1) (by omega);rw [key,eP h1 h2];generalize x.ports.l[i]=u at *;generalize y.ports.l[i]=w at *;by_cases hu:u=w
  . subst hu;simp [nS,hp,hq,hx,hy,hw,gq,show ((i:Int)<x.ports.l.length) from by omega];simpa using this
  . simp [nS,hp,hq,hx,hy,hu,gq,show ((i:Int)<x.ports.l.length) from by omega]
theorem QV {a b:Rule}(ha:a.fits big)(hl:a.to.l.length=b.to.l.length):∀ (m i:Nat) (J:List Blk),i+m=a.to.l.length →
 ∃ J',Cd E TT aD (.loop [2,3,8] jL) [(2,.ptr 0 0),(3,.ptr 1 0),(8,.d (i64 i))] ⟨.cells (a.c.map .d)::.cells (b.c.map .d)::J,0⟩ =
  if all2 Target.same (a.to.l.drop i) (b.to.l.drop i)=true then some (.exit 2,[(2,.ptr 0 0),(3,.ptr 1 0)],⟨.cells (a.c.map .d)::.cells (b.c.map .d)::J',0⟩)
  else some (.ret,[(4,bl false)],⟨.cells (a.c.map .d)::.cells (b.c.map .d)::J',0⟩):=by
 have hlt:=ha.2.1.1.lt;intro m;have key:=aC (E:=E) (T:=TT) (val:=aD) [2,3,8] jL;generalize Cd E TT aD (.loop [2,3,8] jL)=W at key ⊢
 induction m with
 | zero =>
  intro i J hi;refine ⟨J,?_⟩;rw [key,ba (by omega),ba (by omega)];simp [jL,all2,show ¬ ((i:Int)<a.to.l.length) from by omega]
 | succ m ih =>
  intro i J hi;have h1:i<a.to.l.length:=by omega
  have h2:i<b.to.l.length:=by omega
  have hx:=λh=>av (z:=4) h (ab h1) (cells:=Target.c) rfl;have hy:=λh=>av (z:=4) h (ab h2) (cells:=Target.c) rfl;have hw:=ay h1 hlt;have hfx:=ha.2.1.2 _ (bj h1);rw [eP h1 h2];generalize a.to.l[i]=x at *;generalize b.to.l[i]=y at *;obtain ⟨J',hJ⟩:=ih (i+1) (J++[.cells (x.c.map .d),.cells (y.c.map .d)]) (by omega);by_cases hA:all2 Term.eqB x.methods.l y.methods.l=true
  case neg =>
   refine ⟨J++[.cells (x.c.map .d),.cells (y.c.map .d)],?_⟩;simp only [Bool.not_eq_true] at hA;rw [key];simp [jL,hx,hy,aA,aG,Tr.spares,List.range,List.range.loop,jY hfx.2.1,hA,Target.same,show ((i:Int)<a.to.l.length) from by omega]
  by_cases hB:all2 Term.eqB x.paths.l y.paths.l=true
  case neg =>
   refine ⟨J++[.cells (x.c.map .d),.cells (y.c.map .d)],?_⟩;simp only [Bool.not_eq_true] at hB;rw [key];simp [jL,hx,hy,aA,aG,Tr.spares,List.range,List.range.loop,jY hfx.2.1,jY hfx.2.2.1,hA,hB,Target.same,show ((i:Int)<a.to.l.length) from by omega]
  by_cases hC:all2 Term.eqB x.hosts.l y.hosts.l=true
  case neg =>
   refine ⟨J++[.cells (x.c.map .d),.cells (y.c.map .d)],?_⟩;simp only [Bool.not_eq_true] at hC;rw [key];simp [jL,hx,hy,aA,aG,Tr.spares,List.range,List.range.loop,jY hfx.2.1,jY hfx.2.2.1,jY hfx.2.2.2,hA,hB,hC,Target.same,show ((i:Int)<a.to.l.length) from by omega]
  by_cases hD:x.ports.l.length=y.ports.l.length
  case neg =>
   refine ⟨J++[.cells (x.c.map .d),.cells (y.c.map .d)],?_⟩;have hD':¬ ((x.ports.l.length:Int)=y.ports.l.length):=by omega
   rw [key];simp [jL,hx,hy,aA,aG,Tr.spares,List.range,List.range.loop,jY hfx.2.1,jY hfx.2.2.1,jY hfx.2.2.2,hA,hB,hC,hD',eU hD,Target.same,show ((i:Int)<a.to.l.length) from by omega]
  have hin:=QU (E:=E) (x:=x) (y:=y) hfx.1 hD (h:=⟨.cells (a.c.map .d)::.cells (b.c.map .d)::(J++[.cells (x.c.map .d),.cells (y.c.map .d)]),0⟩) (p:=J.length+1+1) (q:=J.length+1+1+1) (t2:=.ptr 0 0) (t3:=.ptr 1 0) (t8:=.d (i64 i)) (by simp) (by simp) x.ports.l.length 0 (by omega);simp at hin;by_cases hF:all2 (λx y:Int=>x==y) x.ports.l y.ports.l=true
  . refine ⟨J',?_⟩;rw [key];simp [jL,hx,hy,aA,aG,Tr.spares,List.range,List.range.loop,jY hfx.2.1,jY hfx.2.2.1,jY hfx.2.2.2,hA,hB,hC,hD,Target.same,show ((i:Int)<a.to.l.length) from by omega];rw [au];simp [hin,hF,hw];simpa using hJ
  . refine ⟨J++[.cells (x.c.map .d),.cells (y.c.map .d)],?_⟩;rw [key];simp [jL,hx,hy,aA,aG,Tr.spares,List.range,List.range.loop,jY hfx.2.1,jY hfx.2.2.1,jY hfx.2.2.2,hA,hB,hC,hD,Target.same,show ((i:Int)<a.to.l.length) from by omega];rw [au];simp [hin,hF]
theorem QW {a b:Rule}(ha:a.fits big)(hl:a.whn.l.length=b.whn.l.length)(J:List Blk):∀ (m i:Nat),i+m=a.whn.l.length →
 Cd E TT aD (.loop [2,3,12] ma) [(2,.ptr 0 0),(3,.ptr 1 0),(12,.d (i64 i))] ⟨.cells (a.c.map .d)::.cells (b.c.map .d)::J,0⟩ =
  if all2 When.same (a.whn.l.drop i) (b.whn.l.drop i)=true then some (.exit 6,[],⟨.cells (a.c.map .d)::.cells (b.c.map .d)::J,0⟩)
  else some (.ret,[(4,bl false)],⟨.cells (a.c.map .d)::.cells (b.c.map .d)::J,0⟩):=by
 have hlt:=ha.2.2.1.lt;intro m;have key:=aC (E:=E) (T:=TT) (val:=aD) [2,3,12] ma;generalize Cd E TT aD (.loop [2,3,12] ma)=W at key ⊢
 induction m with
 | zero =>
  intro i hi;rw [key,ba (by omega),ba (by omega)];simp [ma,all2,show ¬ ((i:Int)<a.whn.l.length) from by omega]
 | succ m ih =>
  intro i hi;have h1:i<a.whn.l.length:=by omega
  have h2:i<b.whn.l.length:=by omega
  have hx:=λh=>av (z:=2) h (ab h1) (cells:=When.c) rfl;have hy:=λh=>av (z:=2) h (ab h2) (cells:=When.c) rfl;have hw:=ay h1 hlt;have hfx:=ha.2.2.2 _ (bj h1);have:=ih (i+1) (by omega);rw [key,eP h1 h2];generalize a.whn.l[i]=x at *;generalize b.whn.l[i]=y at *;cases hA:eqS x.head y.head
  case false=>simp [ma,hx,hy,aA,aa,aG,Tr.spares,aM,List.range,List.range.loop,hA,When.same,show ((i:Int)<a.whn.l.length) from by omega]
  cases hB:all2 Term.eqB x.terms.l y.terms.l
  case false=>simp [ma,hx,hy,aA,aa,aG,Tr.spares,aM,List.range,List.range.loop,jY hfx,hA,hB,When.same,show ((i:Int)<a.whn.l.length) from by omega]
  simp [ma,hx,hy,aA,aa,aG,Tr.spares,aM,List.range,List.range.loop,jY hfx,hA,hB,hw,When.same,show ((i:Int)<a.whn.l.length) from by omega];simpa using this
end
section
def aZ:List Int->Bool
 | x::y::l=>decide (x<y)&&aZ (y::l)
 | _=>true
theorem mh {l:List Int}{i:Nat}(h:i+1<l.length):aZ (l.drop i)=(decide (l[i]<l[i+1])&&aZ (l.drop (i+1))):=by
 rw [aw (show i<l.length by omega),aw h];simp only [aZ]
theorem og {l:List Int}{i:Nat}(h:l.length<=i+1):aZ (l.drop i)=true:=by
 have:(l.drop i).length<=1:=by simp only [List.length_drop]; omega
 match l.drop i,this with
 | [],_=>rfl
 | [_],_=>rfl
 | _::_::_,h=>simp at h
theorem oJ {α:Type}{cells:α->List D}{z:Nat}(hz:∀ x,(cells x).length=z){s:Sl α}{i:Nat}(hi:i<s.l.length){kd:IntKind}{h:Hp}:bg none z (.d (s.d cells)) (.d (.int kd i)) h=some (.eptr (cells s.l[i]) 0,h):=by
 simp [bg,Sl.d,hi,hz]
section
variable {E:Calls'}{T:FuncId->Option QF}{val:FuncId->Bool}
theorem lJ {con id:FuncId}(ht:T id=some (someQ con))(hv:val id=false){v:V}{f:FuncId}{caps:List V}{b:Bool}{h:Hp}(hnu:nu v=some v)(hok:okV v=true)(hc:Sm E T val con [v,.fn f caps] ⟨h.bs,h.bs.length⟩=some (bl b,⟨h.bs,h.bs.length⟩)) :
 Sm E T val id [v,.fn f caps] h=some (bl b,h):=by
 rw [aW ht hv];simp [someQ,ae,hnu,hok,hc,V.under]
end
end
section
variable {E:Calls'}
theorem S86 (a b:Rule)(ha:a.fits big)(h:Hp):Sm E TT aD 143 [ag a.c,ag b.c] h=some (bl (a.same b),h):=by
 rw [aY t86 v86];by_cases h1:a.frm.l.length=b.frm.l.length
 case neg =>
  have h1':¬ ((a.frm.l.length:Int)=b.frm.l.length):=by omega
  simp [ae,q86,h1',Rule.same,eU h1]
 by_cases h2:a.to.l.length=b.to.l.length
 case neg =>
  have h1':¬ ((a.to.l.length:Int)=b.to.l.length):=by omega
  simp [ae,q86,h1,h1',Rule.same,eU h2]
 by_cases h3:a.whn.l.length=b.whn.l.length
 case neg =>
  have h1':¬ ((a.whn.l.length:Int)=b.whn.l.length):=by omega
  simp [ae,q86,h1,h2,h1',Rule.same,eU h3]
 obtain ⟨J1,k1⟩:=QT (E:=E) ha h1 a.frm.l.length 0 [] (by omega);obtain ⟨J2,k2⟩:=QV (E:=E) ha h2 a.to.l.length 0 J1 (by omega);have k3:=QW (E:=E) ha h3 J2 a.whn.l.length 0 (by omega);simp at k1 k2 k3;simp [ae,q86,h1,h2,h3];rw [au];simp [k1];cases hA:all2 Source.same a.frm.l b.frm.l
 case false=>simp [Rule.same,hA]
 simp;rw [au];simp [k2];cases hB:all2 Target.same a.to.l b.to.l
 case false=>simp [Rule.same,hA,hB]
 simp;rw [au];simp [k3];cases hC:all2 When.same a.whn.l b.whn.l
 case false=>simp [Rule.same,hA,hB,hC]
 simp [Rule.same,hA,hB,hC]
theorem L29 {a b:Pol}(ha:a.ok)(hl:a.rules.l.length=b.rules.l.length):∀ (m i:Nat),i+m=a.rules.l.length →
 Cd E TT aD (.loop [2,3,5] nM) [(2,.ptr 0 0),(3,.ptr 1 0),(5,.d (i64 i))] ⟨[.cells (a.c.map .d),.cells (b.c.map .d)],0⟩ =
  if all2 Rule.same (a.rules.l.drop i) (b.rules.l.drop i)=true then some (.exit 0,[],⟨[.cells (a.c.map .d),.cells (b.c.map .d)],0⟩)
  else some (.ret,[(4,bl false)],⟨[.cells (a.c.map .d),.cells (b.c.map .d)],0⟩):=by
 have hlt:=ha.1.lt;intro m;have key:=aC (E:=E) (T:=TT) (val:=aD) [2,3,5] nM;generalize Cd E TT aD (.loop [2,3,5] nM)=W at key ⊢
 induction m with
 | zero =>
  intro i hi;rw [key,ba (by omega),ba (by omega)];simp [nM,all2,show ¬ ((i:Int)<a.rules.l.length) from by omega]
 | succ m ih =>
  intro i hi;have h1:i<a.rules.l.length:=by omega
  have h2:i<b.rules.l.length:=by omega
  have hx:=λh=>av (z:=3) h (ab h1) (cells:=Rule.c) rfl;have hy:=λh=>av (z:=3) h (ab h2) (cells:=Rule.c) rfl;have hw:=ay h1 hlt;have hfx:=ha.2 _ (bj h1);have:=ih (i+1) (by omega);rw [key,eP h1 h2];generalize a.rules.l[i]=x at *;generalize b.rules.l[i]=y at *;cases hA:x.same y
  case false=>simp +decide [nM,hx,hy,aA,aa,S86 x y hfx,hA,show ((i:Int)<a.rules.l.length) from by omega]
  simp +decide [nM,hx,hy,aA,aa,S86 x y hfx,hA,hw,show ((i:Int)<a.rules.l.length) from by omega];simpa using this
theorem S29 (a b:Pol)(ha:a.ok)(h:Hp):Sm E TT aD 63 [ag a.c,ag b.c] h=some (bl (a.same b),h):=by
 rw [aY t29 v29];by_cases h1:a.id=b.id
 case neg=>simp [ae,q29,h1,Pol.same]
 cases h2:eqS a.ns b.ns
 case false=>simp [ae,q29,h1,h2,Pol.same]
 by_cases h3:a.service=b.service
 case neg=>simp [ae,q29,h1,h2,h3,Pol.same]
 by_cases h4:a.deny=b.deny
 case neg=>simp [ae,q29,h1,h2,h3,h4,Pol.same]
 by_cases h5:a.rules.l.length=b.rules.l.length
 case neg =>
  have h1':¬ ((a.rules.l.length:Int)=b.rules.l.length):=by omega
  simp [ae,q29,h1,h2,h3,h4,h1',Pol.same,eU h5]
 have k:=L29 (E:=E) ha h5 a.rules.l.length 0 (by omega);simp at k;simp [ae,q29,h1,h2,h3,h4,h5];rw [au];simp [k];cases hA:all2 Rule.same a.rules.l b.rules.l
 case false=>simp [Pol.same,hA]
 simp [Pol.same,hA,h1,h2,h3,h4]
theorem yA:∀ (l:List Rule),all2 Rule.same (l.map Rule.own) l=true
 | []=>rfl
 | r::l=>by
  have h1:r.own.same r=true:=by
   have:=r.same_refl;simpa [Rule.same,Rule.own] using this
  simp [all2,h1,yA l]
theorem own_same (p:Pol):p.own.same p=true:=by
 simp [Pol.same,Pol.own,yA]
end
section
variable {E:Calls'}
end
section
variable {E:Calls'}
@[simp] theorem PH (a b:Nat):(a<b\/b<=a)↔True:=⟨λ_=>trivial,λ_=>cr a b⟩
@[simp] theorem em' {p:Prop}:(¬ p\/p)↔True:=⟨λ_=>trivial,λ_=>(Classical.em p).symm⟩
end
section
variable {E:Calls'}
theorem kv {n:Int}:∃ m,dP .quo (.d (.int .i64 n)) (.d (.int .i64 64))=some (.int .i64 m):=⟨_,by simp [dP,fI]; rfl⟩
theorem YU {s:Sl Term}(hs:short s)(h:Hp):∀ (m i:Nat) (n:Int),i+m=s.l.length →
 ∃ n',Cd E TT aD (.loop [0,3,4] kV) [(0,.d (s.d Term.c)),(3,.d (i64 n)),(4,.d (i64 i))] h=some (.exit 0,[(3,.d (i64 n'))],h):=by
 have hlt:=hs.lt;intro m;have key:=aC (E:=E) (T:=TT) (val:=aD) [0,3,4] kV;generalize Cd E TT aD (.loop [0,3,4] kV)=W at key ⊢
 induction m with
 | zero =>
  intro i n hi;refine ⟨n,?_⟩;rw [key];simp [kV,show ¬ ((i:Int)<s.l.length) from by omega]
 | succ m ih =>
  intro i n hi;have hlt:i<s.l.length:=by omega
  have hx:=λh=>av (z:=2) h (ab hlt) (cells:=Term.c) rfl;have hw:=ay hlt (by omega);by_cases hn:n<=2000
  . generalize s.l[i]=x at *;obtain ⟨k,hq⟩:=kv (n:=x.text.size);obtain ⟨n',q1⟩:=ih (i+1) (wrap .i64 (n+k)) (by omega);refine ⟨n',?_⟩;rw [key];simp [kV,hx,hq,hw,hn,show ((i:Int)<s.l.length) from by omega];simpa using q1
  . refine ⟨n,?_⟩;rw [key];simp [kV,hn,show ((i:Int)<s.l.length) from by omega]
theorem Db {s:Sl Term}(hs:short s):∃ n':Int,∀ h,Sm E TT aD 162 [.d (s.d Term.c)] h=some (.d (i64 n'),h):=by
 obtain ⟨n',q1⟩:=YU (E:=E) hs ⟨[],0⟩ s.l.length 0 s.l.length (by omega);refine ⟨n',λh=>?_⟩;rw [aY ay3 bi6];simp at q1;simp [ae,Og];rw [au];simp [q1]
def Tr.mute (t:Tr):Bool:=!t.big&&t.wr.isEmpty&&t.lo==t.hi
theorem aF {pr:List (List Nat)}{l:List Tr}(h:l.all Tr.mute=true):aG pr l=true:=by
 have hm:∀ t∈l,t.big=false/\t.wr=[]/\t.lo=t.hi:=by
  intro t ht;have:=cn.1 h t ht;simp only [Tr.mute,aq,Bool.not_eq_true',List.isEmpty_iff,beq_iff_eq] at this;exact ⟨this.1.1,this.1.2,this.2⟩
 simp only [aG,cn,List.mem_range,Bool.or_eq_true];intro i hi j hj;right;rw [ab hi,ab hj];obtain ⟨a1,a2,a3⟩:=hm _ (bj hi);obtain ⟨b1,b2,b3⟩:=hm _ (bj hj);simp only [Tr.spares,a1,b1,a2,a3,Bool.or_self,bo,if_false];split
 . simp
 . simp only [cn];intro b _;simp
theorem QX {r:Rule}(hr:r.fits big){h:Hp}{q:Nat}{t1 t4:V}(hq:ah h.bs q=some (r.c.map .d)):∀ (m i:Nat) (n:Int),i+m=r.frm.l.length →
 ∃ n',Cd E TT aD (.loop [1,3,4,5,6] nT) [(1,t1),(3,.d (i64 n)),(4,t4),(5,.ptr q 0),(6,.d (i64 i))] h=some (.exit 2,[(1,t1),(3,.d (i64 n')),(4,t4),(5,.ptr q 0)],h):=by
 have hlt:=hr.1.1.lt;intro m;have key:=aC (E:=E) (T:=TT) (val:=aD) [1,3,4,5,6] nT;generalize Cd E TT aD (.loop [1,3,4,5,6] nT)=W at key ⊢
 induction m with
 | zero =>
  intro i n hi;refine ⟨n,?_⟩;rw [key];simp [nT,hq,show ¬ ((i:Int)<r.frm.l.length) from by omega]
 | succ m ih =>
  intro i n hi;have h1:i<r.frm.l.length:=by omega
  have hx:=λh=>av (z:=3) h (ab h1) (cells:=Source.c) rfl;have hw:=ay h1 hlt;have hfx:=hr.1.2 _ (bj h1);by_cases hn:n<=2000
  . generalize r.frm.l[i]=x at *;obtain ⟨k0,hk0⟩:=Db (E:=E) (s:=x.names) hfx.1;obtain ⟨k1,hk1⟩:=Db (E:=E) (s:=x.spaces) hfx.2.1;rw [key];simp [nT,hq,hx,aA,aa,aF,Tr.mute,hk0,hk1,hw,hn,show ((i:Int)<r.frm.l.length) from by omega];rw [show ((i:Int)+1)=((i+1:Nat):Int) from by omega];exact ih (i+1) _ (by omega)
  . refine ⟨n,?_⟩;rw [key];simp [nT,hq,hn,show ((i:Int)<r.frm.l.length) from by omega]
theorem QY {r:Rule}(hr:r.fits big){h:Hp}{q:Nat}{t1 t4:V}(hq:ah h.bs q=some (r.c.map .d)):∀ (m i:Nat) (n:Int),i+m=r.to.l.length →
 ∃ n',Cd E TT aD (.loop [1,3,4,5,7] nU) [(1,t1),(3,.d (i64 n)),(4,t4),(5,.ptr q 0),(7,.d (i64 i))] h=some (.exit 4,[(1,t1),(3,.d (i64 n')),(4,t4),(5,.ptr q 0)],h):=by
 have hlt:=hr.2.1.1.lt;intro m;have key:=aC (E:=E) (T:=TT) (val:=aD) [1,3,4,5,7] nU;generalize Cd E TT aD (.loop [1,3,4,5,7] nU)=W at key ⊢
 induction m with
 | zero =>
  intro i n hi;refine ⟨n,?_⟩;rw [key];simp [nU,hq,show ¬ ((i:Int)<r.to.l.length) from by omega]
 | succ m ih =>
  intro i n hi;have h1:i<r.to.l.length:=by omega
  have hx:=λh=>av (z:=4) h (ab h1) (cells:=Target.c) rfl;have hw:=ay h1 hlt;have hfx:=hr.2.1.2 _ (bj h1);by_cases hn:n<=2000
  . generalize r.to.l[i]=x at *;obtain ⟨k0,hk0⟩:=Db (E:=E) (s:=x.methods) hfx.2.1;obtain ⟨k1,hk1⟩:=Db (E:=E) (s:=x.paths) hfx.2.2.1;obtain ⟨k2,hk2⟩:=Db (E:=E) (s:=x.hosts) hfx.2.2.2;rw [key];simp [nU,hq,hx,aA,aa,aF,Tr.mute,hk0,hk1,hk2,hw,hn,show ((i:Int)<r.to.l.length) from by omega];rw [show ((i:Int)+1)=((i+1:Nat):Int) from by omega];exact ih (i+1) _ (by omega)
  . refine ⟨n,?_⟩;rw [key];simp [nU,hq,hn,show ((i:Int)<r.to.l.length) from by omega]
theorem QZ {r:Rule}(hr:r.fits big){h:Hp}{q:Nat}{t1 t4:V}(hq:ah h.bs q=some (r.c.map .d)):∀ (m i:Nat) (n:Int),i+m=r.whn.l.length →
 ∃ n',Cd E TT aD (.loop [1,3,4,5,8] nV) [(1,t1),(3,.d (i64 n)),(4,t4),(5,.ptr q 0),(8,.d (i64 i))] h=some (.exit 6,[(1,t1),(3,.d (i64 n')),(4,t4)],h):=by
 have hlt:=hr.2.2.1.lt;intro m;have key:=aC (E:=E) (T:=TT) (val:=aD) [1,3,4,5,8] nV;generalize Cd E TT aD (.loop [1,3,4,5,8] nV)=W at key ⊢
 induction m with
 | zero =>
  intro i n hi;refine ⟨n,?_⟩;rw [key];simp [nV,hq,show ¬ ((i:Int)<r.whn.l.length) from by omega]
 | succ m ih =>
  intro i n hi;have h1:i<r.whn.l.length:=by omega
  have hx:=λh=>av (z:=2) h (ab h1) (cells:=When.c) rfl;have hw:=ay h1 hlt;have hfx:=hr.2.2.2 _ (bj h1);by_cases hn:n<=2000
  . generalize r.whn.l[i]=x at *;obtain ⟨k0,hk0⟩:=Db (E:=E) (s:=x.terms) hfx;obtain ⟨w,hw2⟩:=kv (n:=x.head.size);rw [key];simp [nV,hq,hx,aA,aa,aF,Tr.mute,hk0,hw,hn,hw2,show ((i:Int)<r.whn.l.length) from by omega];rw [show ((i:Int)+1)=((i+1:Nat):Int) from by omega];exact ih (i+1) _ (by omega)
  . refine ⟨n,?_⟩;rw [key];simp [nV,hq,hn,show ((i:Int)<r.whn.l.length) from by omega]
end
section
def DI (p:Nat)(r:List V):Option Int:=match r[p]? with
 | some (.d (.int .u64 n))=>some n
 | _=>none
def lZ (p:Nat)(r:List V):Int:=(DI p r).getD 0
theorem DJ {p:Nat}{r:List V}{n:Int}(h:DI p r=some n):r[p]?=some (.d (.int .u64 n)):=by
 unfold DI at h;split at h
 . rename_i m hm; cases h; exact hm
 . cases h
def chunk (z n:Nat)(cs:List V):List (List V):=(List.range n).map λi=>(cs.drop (i * z)).take z
def fP (p:Nat)(rs:List (List V)):List (List V):=rs.mergeSort λx y=>decide (lZ p x<=lZ p y)
structure SF where
 z:Nat
 p:Nat
 g:FuncId
 id:FuncId
def fD (s:SF)(args:List V)(h:Hp):Option (V×Hp):=match args with
 | [.row b 0 n _ z,.fn g [.ptr c 0]]=>match h.get b,h.get c with
  | some cs,some [.fn id []] =>
   if z=s.z/\g=s.g/\id=s.id/\b≠c/\0<n/\n<=2 ^ 40/\n * z<=cs.length/\(∀ r∈chunk z n cs,(DI s.p r).isSome=true)/\((chunk z n cs).map (lZ s.p)).Nodup then
    some (.tup [],h.set b ((fP s.p (chunk z n cs)).flatten++cs.drop (n * z)))
   else none
  | _,_=>none
 | _=>none
theorem lv {s:SF}{args:List V}{h:Hp}{r:V}{h':Hp}(hm:fD s args h=some (r,h')):LowOk h h':=by
 unfold fD at hm;split at hm
 . split at hm
   . split at hm
     . cases hm; exact LowOk.set _ _ _
     . cases hm
   . cases hm
 . cases hm
end
section
section
variable {E:Calls'}{T:FuncId->Option QF}{val:FuncId->Bool}
theorem rG {e:List D}{z:Nat}(he:e.length=z):sub (e.map V.d) 0 z=some (e.map V.d):=cO (by simpa using he)
end
end
section
section
variable {E:Calls'}{T:FuncId->Option QF}{val:FuncId->Bool}
theorem Mx {id:FuncId}{z:Nat}(ht:T id=some (notQ z))(hv:val id=false){c:List D}(hc:c.length=z){f:FuncId}{caps:List V}{x:Nat}{p:Bool}{h:Hp}(hp:ah h.bs x=some [.fn f caps])
 (hf:∀ ys lo,Sm E T val f (ag c::caps) ⟨h.bs++ys,lo⟩=some (bl p,⟨h.bs++ys,lo⟩)):Sm E T val id [ag c,.ptr x 0] h=some (bl (!p),h):=by
 rw [aW ht hv];have hs:=rG hc;simp [notQ,ae,aJ hp,hf,hs,V.under]
end
end
section
section
variable {E:Calls'}{T:FuncId->Option QF}{val:FuncId->Bool}
theorem tL {z:Nat}:∀ {l:List (List D)} {rest:List V},(∀ e∈l,e.length=z)->chunk z l.length (flat l++rest)=l.map λe=>e.map V.d
 | [],rest,_=>rfl
 | e::l,rest,h=>by
  have he:=h e (by simp);have ih:=tL (l:=l) (rest:=rest) λx hx=>h x (List.mem_cons_of_mem _ hx);have hl:(e.map V.d).length=z:=by simp [he]
  simp only [chunk,ck,List.range_succ_eq_map,ct,List.map_map,flat_cons,List.append_assoc] at ih ⊢
  congr 1
  . rw [Nat.zero_mul,List.drop_zero,← hl,List.take_left]
  . rw [← ih];refine List.map_congr_left λi _=>?_;simp only [Function.comp,Nat.succ_eq_add_one,Nat.add_mul,Nat.one_mul];rw [List.drop_append,ba (by omega),hl,List.nil_append,Nat.add_sub_cancel]
theorem Ez {α:Type}{cells:α->List D}{key:α->Int}{z p:Nat}{g idf:FuncId}(hz:∀ x,(cells x).length=z)(hkey:∀ x,(cells x)[p]?=some (.int .u64 (key x))){L:List α}(hnd:(L.map key).Nodup)(hne:L≠[])(hlen:L.length<=2 ^ 40){h:Hp}{b c:Nat}{cap:Option Nat}{rest:List V}
 (hb:ah h.bs b=some (flat (L.map cells)++rest)) (hc:ah h.bs c=some [.fn idf []]) (hbc:b≠c) :
 fD ⟨z,p,g,idf⟩ [.row b 0 L.length cap z,.fn g [.ptr c 0]] h=some (.tup [],h.set b (flat ((L.mergeSort λx y=>decide (key x<=key y)).map cells)++rest)):=by
 have hw:∀ e∈L.map cells,e.length=z:=by simp; intro a _; exact hz a
 have hch:=tL (rest:=rest) hw;rw [b9] at hch;have hkv:∀ x,DI p ((cells x).map V.d)=some (key x):=λx=>by simp [DI,hkey]
 have hki:∀ x,lZ p ((cells x).map V.d)=key x:=λx=>by simp [lZ,hkv]
 have hfl:=bV hz L;have h1:((L.map cells).map λe=>e.map V.d).map (lZ p)=L.map key:=by
  rw [List.map_map,List.map_map];exact List.map_congr_left λx _=>hki x
 have h2:fP p ((L.map cells).map λe=>e.map V.d)=((L.mergeSort λx y=>decide (key x<=key y)).map cells).map λe=>e.map V.d:=by
  rw [fP,List.map_map,List.map_map]
  symm
  refine List.map_mergeSort λx _ y _=>?_;simp only [Function.comp,hki]
 have h3:∀ l:List (List D),(l.map λe=>e.map V.d).flatten=flat l:=λl=>by simp only [flat,List.map_flatten]
 simp only [fD,get_eq,hb,hc];rw [if_pos]
 . rw [hch,h2,h3,← hfl,List.drop_left]
 . refine ⟨trivial,trivial,trivial,hbc,List.length_pos_iff.2 hne,hlen,by rw [ao,hfl]; omega,?_,?_⟩
   . rw [hch];intro r hr;obtain ⟨e,he,rfl⟩:=ce.1 hr;obtain ⟨x,_,rfl⟩:=ce.1 he;rw [hkv]; rfl
   . rw [hch,h1]; exact hnd
def Jm {α:Type}(key:α->Int)(x:α)(l:List α):List α:=((l.filter λe=>!(key e==key x))++[x]).mergeSort λa b=>decide (key a<=key b)
end
end
section
variable {E:Calls'}
theorem Q0 {p:Pol}(hp:p.ok):∀ (m i:Nat) (n:Int) (J:List Blk),i+m=p.rules.l.length →
 ∃ n' J',Cd E TT aD (.loop [1,3,4] nW) [(1,.ptr 0 0),(3,.d (i64 n)),(4,.d (i64 i))] ⟨.cells (p.c.map .d)::J,0⟩=some (.exit 0,[(3,.d (i64 n'))],⟨.cells (p.c.map .d)::J',0⟩):=by
 have hlt:=hp.1.lt;intro m;have key:=aC (E:=E) (T:=TT) (val:=aD) [1,3,4] nW;generalize Cd E TT aD (.loop [1,3,4] nW)=W at key ⊢
 induction m with
 | zero =>
  intro i n J hi;refine ⟨n,J,?_⟩;rw [key];simp [nW,show ¬ ((i:Int)<p.rules.l.length) from by omega]
 | succ m ih =>
  intro i n J hi;have h1:i<p.rules.l.length:=by omega
  have hx:=λh=>av (z:=3) h (ab h1) (cells:=Rule.c) rfl;have hw:=ay h1 hlt;have hfx:=hp.2 _ (bj h1);by_cases hn:n<=2000
  . generalize p.rules.l[i]=x at *;obtain ⟨n1,q1⟩:=QX (E:=E) hfx (h:=⟨.cells (p.c.map .d)::(J++[.cells (x.c.map .d)]),0⟩) (q:=J.length+1) (t1:=.ptr 0 0) (t4:=.d (i64 i)) (by simp) x.frm.l.length 0 (wrap .i64 (n+wrap .i64 (wrap .i64 (wrap .i64 (1+(x.frm.l.length:Int))+(x.to.l.length:Int))+(x.whn.l.length:Int)))) (by omega);obtain ⟨n2,q2⟩:=QY (E:=E) hfx (h:=⟨.cells (p.c.map .d)::(J++[.cells (x.c.map .d)]),0⟩) (q:=J.length+1) (t1:=.ptr 0 0) (t4:=.d (i64 i)) (by simp) x.to.l.length 0 n1 (by omega);obtain ⟨n3,q3⟩:=QZ (E:=E) hfx (h:=⟨.cells (p.c.map .d)::(J++[.cells (x.c.map .d)]),0⟩) (q:=J.length+1) (t1:=.ptr 0 0) (t4:=.d (i64 i)) (by simp) x.whn.l.length 0 n2 (by omega);simp at q1 q2 q3;rw [key];simp [nW,hx,hn,show ((i:Int)<p.rules.l.length) from by omega];rw [au];simp [q1];rw [au];simp [q2];rw [au];simp [q3,hw];rw [show ((i:Int)+1)=((i+1:Nat):Int) from by omega];exact ih (i+1) _ _ (by omega)
  . refine ⟨n,J,?_⟩;rw [key];simp [nW,hn,show ((i:Int)<p.rules.l.length) from by omega]
theorem S87 (p:Pol)(hp:p.ok):∃ n':Int,∀ h,Sm E TT aD 69 [ag p.c] h=some (.d (i64 n'),h):=by
 obtain ⟨k,hk⟩:=kv (n:=p.ns.size);obtain ⟨n',J',q1⟩:=Q0 (E:=E) hp p.rules.l.length 0 (wrap .i64 (1+k)) [] (by omega);refine ⟨n',λh=>?_⟩;rw [aY t87 v87];simp at q1;simp [ae,q87,hk];rw [au];simp [q1]
theorem Qq (c:Cfg)(hc:c.ok):∀ (m i:Nat) (n:Int),i+m=c.pods.l.length →
 ∃ n',Cd E TT aD (.loop [1,3,4] nN) [(1,.ptr 0 0),(3,.d (i64 n)),(4,.d (i64 i))] ⟨[.cells (c.c.map .d)],0⟩=some (.exit 0,[(1,.ptr 0 0),(3,.d (i64 n'))],⟨[.cells (c.c.map .d)],0⟩):=by
 have hlt:=hc.1.lt;intro m;have key:=aC (E:=E) (T:=TT) (val:=aD) [1,3,4] nN;generalize Cd E TT aD (.loop [1,3,4] nN)=W at key ⊢
 induction m with
 | zero =>
  intro i n hi;refine ⟨n,?_⟩;rw [key];simp [nN,show ¬ ((i:Int)<c.pods.l.length) from by omega]
 | succ m ih =>
  intro i n hi;have h1:i<c.pods.l.length:=by omega
  have hx:=λh=>av (z:=7) h (ab h1) (cells:=Pod.c) rfl;have hw:=ay h1 hlt;by_cases hn:n<=2000
  . generalize c.pods.l[i]=x at *;obtain ⟨k,hk⟩:=kv (n:=wrap .i64 ((x.ns.size:Int)+(x.sa.size:Int)));rw [key];simp [nN,hx,hk,hw,hn,show ((i:Int)<c.pods.l.length) from by omega];rw [show ((i:Int)+1)=((i+1:Nat):Int) from by omega];exact ih (i+1) _ (by omega)
  . refine ⟨n,?_⟩;rw [key];simp [nN,hn,show ((i:Int)<c.pods.l.length) from by omega]
theorem Qr (c:Cfg)(hc:c.ok):∀ (m i:Nat) (n:Int),i+m=c.services.l.length →
 ∃ n',Cd E TT aD (.loop [1,3,5] nO) [(1,.ptr 0 0),(3,.d (i64 n)),(5,.d (i64 i))] ⟨[.cells (c.c.map .d)],0⟩=some (.exit 2,[(1,.ptr 0 0),(3,.d (i64 n'))],⟨[.cells (c.c.map .d)],0⟩):=by
 have hlt:=hc.2.1.lt;intro m;have key:=aC (E:=E) (T:=TT) (val:=aD) [1,3,5] nO;generalize Cd E TT aD (.loop [1,3,5] nO)=W at key ⊢
 induction m with
 | zero =>
  intro i n hi;refine ⟨n,?_⟩;rw [key];simp [nO,show ¬ ((i:Int)<c.services.l.length) from by omega]
 | succ m ih =>
  intro i n hi;have h1:i<c.services.l.length:=by omega
  have hx:=λh=>av (z:=5) h (ab h1) (cells:=Svc.c) rfl;have hw:=ay h1 hlt;by_cases hn:n<=2000
  . generalize c.services.l[i]=x at *;obtain ⟨k,hk⟩:=kv (n:=x.ns.size);rw [key];simp [nO,hx,hk,hw,hn,show ((i:Int)<c.services.l.length) from by omega];rw [show ((i:Int)+1)=((i+1:Nat):Int) from by omega];exact ih (i+1) _ (by omega)
  . refine ⟨n,?_⟩;rw [key];simp [nO,hn,show ((i:Int)<c.services.l.length) from by omega]
theorem Qs (c:Cfg)(hc:c.ok):∀ (m i:Nat) (n:Int),i+m=c.policies.l.length →
 ∃ n',Cd E TT aD (.loop [1,3,6] nP) [(1,.ptr 0 0),(3,.d (i64 n)),(6,.d (i64 i))] ⟨[.cells (c.c.map .d)],0⟩=some (.exit 4,[(3,.d (i64 n'))],⟨[.cells (c.c.map .d)],0⟩):=by
 have hlt:=hc.2.2.2.1.lt;intro m;have key:=aC (E:=E) (T:=TT) (val:=aD) [1,3,6] nP;generalize Cd E TT aD (.loop [1,3,6] nP)=W at key ⊢
 induction m with
 | zero =>
  intro i n hi;refine ⟨n,?_⟩;rw [key];simp [nP,show ¬ ((i:Int)<c.policies.l.length) from by omega]
 | succ m ih =>
  intro i n hi;have h1:i<c.policies.l.length:=by omega
  have hx:=λh=>av (z:=5) h (ab h1) (cells:=Pol.c) rfl;have hw:=ay h1 hlt;have hfx:=hc.2.2.2.2 _ (bj h1);by_cases hn:n<=2000
  . generalize c.policies.l[i]=x at *;obtain ⟨k,hk⟩:=S87 (E:=E) x hfx;rw [key];simp [nP,hx,hk,hw,hn,show ((i:Int)<c.policies.l.length) from by omega];rw [show ((i:Int)+1)=((i+1:Nat):Int) from by omega];exact ih (i+1) _ (by omega)
  . refine ⟨n,?_⟩;rw [key];simp [nP,hn,show ((i:Int)<c.policies.l.length) from by omega]
theorem S31 (c:Cfg)(hc:c.ok):∃ b:Bool,∀ h,Sm E TT aD 22 [c.v] h=some (bl b,h):=by
 obtain ⟨n1,q1⟩:=Qq (E:=E) c hc c.pods.l.length 0 (wrap .i64 (wrap .i64 ((c.pods.l.length:Int)+(c.services.l.length:Int))+(c.bound.l.length:Int))) (by omega);obtain ⟨n2,q2⟩:=Qr (E:=E) c hc c.services.l.length 0 n1 (by omega);obtain ⟨n3,q3⟩:=Qs (E:=E) c hc c.policies.l.length 0 n2 (by omega);refine ⟨decide (2000<n3),λh=>?_⟩;rw [aY t31 v31];simp at q1 q2 q3;simp [ae,q31];rw [au];simp [q1];rw [au];simp [q2];rw [au];simp [q3]
end
section
variable {E:Calls'}
def bP (n:Int):List D:=[u32 n]
structure Vw where
 epoch:Int
 covers:Sl Int
 pods:Sl Pod
 services:Sl Svc
 bound:Sl Way
 policies:Sl Pol
def Vw.c (x:Vw):List D:=[u64 x.epoch,x.covers.d bP,x.pods.d Pod.c,x.services.d Svc.c,x.bound.d Way.c,x.policies.d Pol.c]
abbrev Vw.v (x:Vw):V:=ag x.c
def Vw.cfg (x:Vw):Cfg:=⟨0,0,0,0,x.pods,x.services,x.bound,x.policies⟩
abbrev Vw.ok (x:Vw):Prop:=short x.covers/\x.cfg.ok
@[simp] theorem Vw.len {x:Vw}:x.c.length=6:=(rfl)
@[simp] theorem Vw.all {x:Vw}:sub x.c 0 6=some x.c:=(rfl)
@[simp] theorem Vw.s0_1 {x:Vw}:sub x.c 0 1=some [u64 x.epoch]:=(rfl)
@[simp] theorem Vw.s1_1 {x:Vw}:sub x.c 1 1=some [x.covers.d bP]:=(rfl)
@[simp] theorem Vw.s2_1 {x:Vw}:sub x.c 2 1=some [x.pods.d Pod.c]:=(rfl)
@[simp] theorem Vw.s3_1 {x:Vw}:sub x.c 3 1=some [x.services.d Svc.c]:=(rfl)
@[simp] theorem Vw.s4_1 {x:Vw}:sub x.c 4 1=some [x.bound.d Way.c]:=(rfl)
@[simp] theorem Vw.s5_1 {x:Vw}:sub x.c 5 1=some [x.policies.d Pol.c]:=(rfl)
structure Fnd where
 kind:Int
 pod:Pod
 service:Svc
 way:Way
def Fnd.c (x:Fnd):List D:=i64 x.kind::(x.pod.c++(x.service.c++x.way.c))
abbrev Fnd.v (x:Fnd):V:=ag x.c
def fnd0:Fnd:=⟨0,am9,ax9,way0⟩
@[simp] theorem Fnd.len {x:Fnd}:x.c.length=15:=(rfl)
@[simp] theorem Fnd.all {x:Fnd}:sub x.c 0 15=some x.c:=(rfl)
@[simp] theorem Fnd.s1_7 {x:Fnd}:sub x.c 1 7=some x.pod.c:=(rfl)
@[simp] theorem Fnd.s7_1 {x:Fnd}:sub x.c 7 1=some [u64 x.pod.service]:=(rfl)
@[simp] theorem Fnd.s8_5 {x:Fnd}:sub x.c 8 5=some x.service.c:=(rfl)
@[simp] theorem br7:[(V.d (.int .i64 0)),(.d (.int .u64 0)),(.d (.str ⟨#[]⟩)),(.d (.str ⟨#[]⟩)),(.d (.int .i64 0)),(.d (.int .u32 0)),(.d (.int .i64 0)),(.d (.int .u64 0)),(.d (.int .u64 0)),(.d (.str ⟨#[]⟩)),(.d (.int .u32 0)),(.d (.int .i64 0)),(.d (.int .u64 0)),(.d (.int .u64 0)),(.d (.int .i64 0))]=fnd0.c.map .d:=(rfl)
@[simp] theorem ab8 {x:Fnd}{k:Int}:put (x.c.map V.d) 0 [.d (i64 k)]=some ((Fnd.c { x with kind:=k }).map .d):=(rfl)
@[simp] theorem br6 {x:Fnd}{k:Int}:V.d (.int .i64 k)::(x.c.map V.d).tail=(Fnd.c { x with kind:=k }).map .d:=(rfl)
@[simp] theorem br5 {x:Fnd}:(x.c.map V.d).drop 15=[]:=(rfl)
@[simp] theorem ab9 {x:Fnd}{p:Pod}:put (x.c.map V.d) 1 (p.c.map .d)=some ((Fnd.c { x with pod:=p }).map .d):=(rfl)
@[simp] theorem ac0 {x:Fnd}{p:Svc}:put (x.c.map V.d) 8 (p.c.map .d)=some ((Fnd.c { x with service:=p }).map .d):=(rfl)
@[simp] theorem XJ {x:Fnd}{p:Way}:put (x.c.map V.d) 13 (p.c.map .d)=some ((Fnd.c { x with way:=p }).map .d):=(rfl)
@[simp] theorem XK {x y:Fnd}:put (x.c.map V.d) 0 (y.c.map .d)=some (y.c.map .d):=(rfl)
def Fnd.eqB (x y:Fnd):Bool:=x.kind==y.kind&&(x.pod.uid==y.pod.uid&&(eqS x.pod.ns y.pod.ns&&(eqS x.pod.sa y.pod.sa&&(x.pod.host==y.pod.host&&(x.pod.addr==y.pod.addr&&(x.pod.port==y.pod.port&&(x.pod.service==y.pod.service&&(x.service.id==y.service.id&&(eqS x.service.ns y.service.ns&&(x.service.addr==y.service.addr&&(x.service.port==y.service.port&&(x.service.way==y.service.way&&(x.way.id==y.way.id&&(x.way.node==y.way.node&&true))))))))))))))
@[simp] theorem XG {h:Hp}{n:Bool}{x y:Fnd}:eqv (.agg [(.i .i64),(.i .u64),.s,.s,(.i .i64),(.i .u32),(.i .i64),(.i .u64),(.i .u64),.s,(.i .u32),(.i .i64),(.i .u64),(.i .u64),(.i .i64)]) n (ag x.c) (ag y.c) h=some (.d (.bool (x.eqB y != n)),h):=by
 simp [eqv,fQ,ag,Fnd.c,Pod.c,Svc.c,Way.c,bz,lH,Fnd.eqB,eqS]
@[simp] theorem Fnd.eqB_refl (x:Fnd):x.eqB x=true:=by simp [Fnd.eqB]
end
section
variable {E:Calls'}
@[simp] theorem Nf {α:Type}(l:List α):l.find? (λ_=>false)=none:=by simp [List.find?_eq_none]
theorem YV {s:Sl Int}(hs:short s)(n:Int)(h:Hp):∀ (m i:Nat),i+m=s.l.length →
 Cd E TT aD (.loop [0,1,7,8] kW) [(0,.d (s.d bP)),(1,.d (u32 n)),(7,.d (i64 s.l.length)),(8,.d (i64 i))] h =
  match (s.l.drop i).findIdx? (λx=>x==n) with
  | some k=>some (.ret,[(4,.d (i64 (i+k:Nat)))],h)
  | none=>some (.exit 0,[],h):=by
 have hlt:=hs.lt;intro m;have key:=aC (E:=E) (T:=TT) (val:=aD) [0,1,7,8] kW;generalize Cd E TT aD (.loop [0,1,7,8] kW)=W at key ⊢
 induction m with
 | zero =>
  intro i hi;have h0:s.l.drop i=[]:=ba (by omega);rw [key];simp [kW,h0,show ¬ ((i:Int)<s.l.length) from by omega]
 | succ m ih =>
  intro i hi;have h1:i<s.l.length:=by omega
  have hx:=λh=>av (z:=1) h (ab h1) (cells:=bP) rfl;have hw:=ay h1 hlt;have:=ih (i+1) (by omega);rw [key,aw h1];generalize s.l[i]=x at *;by_cases hq:x=n
  . simp [kW,hx,hq,bP,List.findIdx?_cons,show ((i:Int)<s.l.length) from by omega]
  . have hq':(x==n)=false:=by simpa using hq
    have hq2:¬ n=x:=λh=>hq h.symm;simp [kW,hx,hq',hq,hq2,bP,hw,List.findIdx?_cons,show ((i:Int)<s.l.length) from by omega];rw [show ((i:Int)+1)=((i+1:Nat):Int) from by omega,this];cases hfi:(s.l.drop (i+1)).findIdx? (λp=>p==n) with
    | none=>rfl
    | some k=>simp; omega
theorem Q9 {s:Sl Int}(hs:short s)(n:Int)(h:Hp):Sm E TT aD 167 [.d (s.d bP),.d (u32 n)] h=some (.d (i64 (gp s.l λx=>x==n)),h):=by
 rw [aY t232 v232];have k1:=λh=>YV (E:=E) hs n h s.l.length 0 (by omega);simp at k1;simp [ae,JH];rw [au];simp [k1,gp];cases s.l.findIdx? (λx=>x==n) with
 | none=>simp
 | some k=>simp
def bu (l:List Int)(n:Int):Bool:=(l.find? λx=>x==n).isSome
theorem Q5 {s:Sl Int}(hs:short s)(n:Int)(h:Hp):Sm E TT aD 77 [.d (s.d bP),.d (u32 n)] h=some (bl (bu s.l n),h):=by
 rw [aY t117 v117];obtain ⟨g1,g2⟩ | ⟨k,p,g1,g2,g3⟩:=gH s.l (λx=>x==n)
 . simp [ae,GQ,Q9 hs,g2,bu,g1]
 . simp [ae,GQ,Q9 hs,g2,bu,g1]
end
section
variable {E:Calls'}
end
section
section
variable {E:Calls'}{T:FuncId->Option QF}{val:FuncId->Bool}
theorem Ao {z b:Nat}{zero:List V}(hz0:0<z)(hb:b<=4096){es:List (List D)}(hz:∀ e∈es,e.length=z)(hlen:es.length<=big){bs:List Blk}(lo:Nat){r:Nat}{cap:Option Nat}{rest:List V}(hr:ah bs r=some (flat es++rest)) :
 Bd E T val (cloneQ z b zero) [.row r 0 es.length cap z] ⟨bs,lo⟩=some (bS z false es bs lo):=by
 have hzz:z≠0:=by omega
 have hl:=flat_len hz;have hs:sub (flat es++rest) 0 (es.length * z)=some (flat es):=by
  rw [fJ,if_pos (by rw [ao,hl]; omega),List.drop_zero,← hl,List.take_left]
 have hg:=aJ (ys:=[.cells []]) hr;have hrc:aP ⟨bs++[.cells []],lo⟩ (.row r 0 es.length cap z) z=some (es.length,flat es):=by
  simp only [aP,get_eq,hg,hs]; simp
 cases es with
 | nil=>simp at hrc; simp [cloneQ,ae,fH,hrc,aK,hzz,bS]
 | cons e es =>
  generalize hF:flat (e::es)=F at hrc;have hr:roomy (es.length+1) b=true:=by
   simp only [roomy,aq,bw];exact ⟨hlen,hb⟩
  simp at hrc;simp [cloneQ,ae,fH,hrc,aK,hzz,hr,bS,hF]
theorem Au {z b:Nat}{zero:List V}{id:FuncId}(ht:T id=some (cloneQ z b zero))(hv:val id=false)(hz0:0<z)(hb:b<=4096){es:List (List D)}(hz:∀ e∈es,e.length=z)(hlen:es.length<=big)(h:Hp){r:Nat}{cap:Option Nat}{rest:List V}(hr:ah h.bs r=some (flat es++rest)) :
 Sm E T val id [.row r 0 es.length cap z] h=some ((bS z false es h.bs h.low).1,⟨(bS z false es h.bs h.low).2.bs,min h.low h.bs.length⟩):=by
 have hrl:=aB hr;rw [aW ht hv,Ao hz0 hb hz hlen _ hr];cases es<;>simp [dL,bS,V.under]<;>(try intro hh)<;>omega
end
section
variable {E:Calls'}
def uG:List V:=[(.d (.int .u64 0)),(.d (.str ⟨#[]⟩)),(.d (.int .u64 0)),(.d (.int .i64 0)),(.d (.slice true []))]
end
end
section
variable {E:Calls'}
end
section
variable {E:Calls'}
end
section
variable {E:Calls'}
theorem S70 (v:Vw)(hv:v.ok):∃ b:Bool,∀ h,Sm E TT aD 4 [v.v] h=some (bl b,h):=by
 obtain ⟨b,hb⟩:=S31 (E:=E) v.cfg hv.2;have h31:∀ h,Sm E TT aD 22 [.agg [.d (.int .u64 0),.d (.int .u64 0),.d (.int .i64 0),.d (.int .i64 0),.d (v.pods.d Pod.c),.d (v.services.d Svc.c),.d (v.bound.d Way.c),.d (v.policies.d Pol.c)]] h=some (bl b,h):=hb;by_cases hc:(v.covers.l.length:Int)>1000
 . refine ⟨true,λh=>?_⟩;rw [aY t70 v70];simp [ae,q70,aN,put,h31,hc,aj]
 . refine ⟨b,λh=>?_⟩;rw [aY t70 v70];simp [ae,q70,aN,put,h31,hc,aj]
end
section
def rC (x i:V)(h:Hp):Option (V×Hp):=match i,x with
 | .d (.int _ i),.d (.str s)=>if 0<=i then (match s.toList[i.toNat]? with | some b=>some (.d (.int .u8 b.toNat),h) | none=>none) else none
 | _,_=>none
section
variable {C:Calls'}{ev:X->V}{h:Hp}
@[simp] theorem UD {x i:X}:opE C (.idxS x i) ev h=rC (ev x) (ev i) h:=(rfl)
end
theorem gV {s:ByteArray}{k:Nat}{b:UInt8}{h:Hp}(hk:s.toList[k]?=some b):rC (.d (.str s)) (.d (.int .i64 k)) h=some (.d (.int .u8 b.toNat),h):=by
 simp [rC,hk]
theorem fV (s:ByteArray):s.toList.length=s.size:=by rw [bL]; rfl
variable {E:Calls'}
def mV (b:UInt8):Bool:=decide ((b.toNat:Int)<33)||(decide ((b.toNat:Int)>126)||((b.toNat:Int)==42||(b.toNat:Int)==44))
def jf:List UInt8->Bool
 | []=>false
 | b::l=>mV b||jf l
def fG (t:Term):Bool:=!jf t.text.toList&&(if t.kind==4 then eqS t.text ⟨#[]⟩ else decide (1<=t.kind)&&(decide (t.kind<=3)&&(decide ((t.text.size:Int)>=1)&&decide ((t.text.size:Int)<=64))))
theorem Y9 (t:Term)(ht:t.text.size<=big):∀ (m i:Nat),i+m=t.text.size →
 Cd E TT aD (.loop [1,3] iU) [(1,.ptr 0 0),(3,.d (i64 i))] ⟨[.cells (t.c.map .d)],0⟩ =
  if jf (t.text.toList.drop i) then some (.ret,[(2,bl false)],⟨[.cells (t.c.map .d)],0⟩) else some (.exit 0,[(1,.ptr 0 0)],⟨[.cells (t.c.map .d)],0⟩):=by
 have hlt:t.text.size<2 ^ 62:=ch ht (by decide);have hsl:=fV t.text;intro m;have key:=aC (E:=E) (T:=TT) (val:=aD) [1,3] iU;generalize Cd E TT aD (.loop [1,3] iU)=W at key ⊢
 induction m with
 | zero =>
  intro i hi;rw [key,ba (by omega)];simp [iU,jf,show ¬ ((i:Int)<t.text.size) from by omega]
 | succ m ih =>
  intro i hi;have h1:i<t.text.toList.length:=by omega
  have hx:=λh=>gV (h:=h) (ab h1);have hw:=ay (show i<t.text.size by omega) hlt;have:=ih (i+1) (by omega);rw [key,aw h1];generalize t.text.toList[i]=b at *;have h0:((i:Int)<t.text.size):=by omega
  by_cases c1:(b.toNat:Int)<33
  . simp [iU,hx,c1,jf,mV,aj,h0]
  . by_cases c2:(b.toNat:Int)>126
    . simp [iU,hx,c1,c2,jf,mV,aj,h0]
    . by_cases c3:(b.toNat:Int)=42
      . simp [iU,hx,c3,jf,mV,aj,h0]
      . by_cases c4:(b.toNat:Int)=44
        . simp [iU,hx,c4,jf,mV,aj,h0]
        . have hb:mV b=false:=by simp [mV,c1,c2,c3,c4]
          simp [jf,hb,iU,hx,c1,c2,c3,c4,aj,h0,hw];simpa using this
theorem ZU (t:Term)(ht:t.text.size<=big)(h:Hp):Sm E TT aD 402 [ag t.c] h=some (bl (fG t),h):=by
 rw [aY be3 bo1];have k1:=Y9 (E:=E) t ht t.text.size 0 (by omega);simp at k1;simp [ae,OX];rw [au];simp [k1];cases hb:jf t.text.toList with
 | true=>simp [fG,hb]
 | false =>
  by_cases c0:t.kind=4
  . simp [fG,hb,c0]
  . by_cases c1:t.kind>=1<;>by_cases c2:t.kind<=3<;>by_cases c3:(t.text.size:Int)>=1<;>simp [fG,hb,c0,aj,c1,c2,c3]
theorem bi1:TT 416=some (idxQ 2):=be6
theorem bh8:TT 400=some (anyQ 416):=be1
theorem bh7:TT 399=some idx1Q:=be0
theorem bg9:TT 376=some (anyQ 399):=bc9
theorem ZT (t:Term)(ht:t.text.size<=big)(h:Hp):Sm E TT aD 401 [ag t.c] h=some (bl (!fG t),h):=by
 rw [aW be2 bo0];simp [ae,OW,ZU t ht,V.under]
def bf (s:Sl Term):Bool:=decide ((s.l.length:Int)<=6)&&s.l.all fG
theorem ZO (s:Sl Term)(hs:short s)(ht:∀ t∈s.l,t.text.size<=big)(h:Hp):Sm E TT aD 378 [.d (s.d Term.c)] h=some (bl (bf s),h):=by
 rw [aY bd1 bm9];have hany:=mY (E:=E) (T:=TT) (val:=aD) Term.c (z:=2) bi1 bo4 bh8 bn9 (v:=.d (s.d Term.c)) (es:=s.l) (f:=401) (caps:=[]) (q:=λt=>!fG t) (h:=⟨[],0⟩) (RowIs.of (cells:=Term.c) (z:=2) (λ_=>rfl) _) hs.lt (λe he lo=>ZT e (ht e he) _);by_cases hm:(s.l.length:Int)<=6
 . simp [ae,Kk,hm,hany,aj,bf,← rT]
 . simp [ae,Kk,hm,hany,aj,bf]
theorem ZN (s:Sl Term)(hs:short s)(ht:∀ t∈s.l,t.text.size<=big)(h:Hp):Sm E TT aD 377 [.d (s.d Term.c)] h=some (bl (!bf s),h):=by
 rw [aW bd0 bm8];simp [ae,OT,ZO s hs ht,V.under]
theorem Mo (ls:List (Sl Term))(hl:ls.length<2 ^ 62)(hs:∀ s∈ls,short s/\∀ t∈s.l,t.text.size<=big)(a:V)(h:Hp)(ha:frz h a=some (.d (.slice false (ls.map λs=>[s.d Term.c])))):Sm E TT aD 339 [a] h=some (bl (ls.all bf),h):=by
 rw [aY bb5 bl7];have hr:RowIs ([]:List Blk) (.d (.slice false (ls.map λs=>[s.d Term.c]))) 1 (ls.map λs=>[s.d Term.c]):=⟨by simp,.inl ⟨false,rfl⟩⟩;have hany:=EZ (E:=E) (T:=TT) (val:=aD) (Sl.d Term.c) bh7 bn8 bg9 bm7 (es:=ls) (f:=377) (caps:=[]) (q:=λs=>!bf s) (h:=⟨[],0⟩) hr hl (λe he lo=>ZN e (hs e he).1 (hs e he).2 _);simp [ae,OP,ha,hany,← rT,ownR,vD,mW]
end
section
def oV (mx:Bool)(l:List V)(h:Hp):Option (V×Hp):=match l with
 | []=>none
 | x::xs=>match fT mx x xs with
  | some v=>some (v,h)
  | none=>none
def FH (k:IntKind)(x:V)(h:Hp):Option (V×Hp):=match x with
 | .d (.int _ n)=>some (.d (.int k (k.wrap n)),h)
 | _=>none
section
variable {C:Calls'}{ev:X->V}{h:Hp}
@[simp] theorem NB {mx:Bool}{a b:X}:opE C (.minmax mx [a,b]) ev h=if okV (ev a)&&(okV (ev b)&&true) then oV mx [ev a,ev b] h else none:=(rfl)
@[simp] theorem PT {k:IntKind}{x:X}:opE C (.convI k x) ev h=FH k (ev x) h:=(rfl)
@[simp] theorem MR {k k':IntKind}{n:Int}:FH k (.d (.int k' n)) h=some (.d (.int k (k.wrap n)),h):=(rfl)
@[simp] theorem Un {k:IntKind}{a b:Int}:oV true [.d (.int k a),.d (.int k b)] h=some (.d (.int k (if b>a then b else a)),h):=by simp [oV,fT]
@[simp] theorem Um {k:IntKind}{a b:Int}:oV false [.d (.int k a),.d (.int k b)] h=some (.d (.int k (if b<a then b else a)),h):=by simp [oV,fT]
end
section
variable {k k':IntKind}{a b:Int}
theorem IC (hb:0<=b):dP .shl (.d (.int k a)) (.d (.int k' b))=some (.int k (k.wrap (a * 2 ^ (min b.toNat k.bits)))):=by simp [dP,show ¬ b<0 by omega]
theorem wS (hb:0<=b):dP .shr (.d (.int k a)) (.d (.int k' b))=some (.int k (a.fdiv (2 ^ (min b.toNat k.bits)))):=by simp [dP,show ¬ b<0 by omega]
def oC (k:IntKind)(a b:Int):Int:=k.wrap ((BitVec.ofInt k.bits a &&& ~~~ BitVec.ofInt k.bits b).toNat)
theorem AB:dP .andNot (.d (.int k a)) (.d (.int k b))=some (.int k (oC k a b)):=by simp [dP,fI,oC]
end
variable {E:Calls'}
theorem Zn (n:Int)(h:Hp):Sm E TT aD 306 [.d (i64 n)] h=some (bl (decide (n>=1)&&decide (n<=65535)),h):=by
 rw [aY ay7 bj0];by_cases c1:n>=1<;>simp [ae,JR,aj,c1]
def oU (n:Int):Int:=wrap .u32 (wrap .u64 (4294967296-wrap .u64 (1 * 2 ^ (min (wrap .i64 (32-n)).toNat 64))))
theorem ZP (n:Int)(h0:0<=n)(h1:n<=32)(h:Hp):Sm E TT aD 381 [.d (i64 n)] h=some (.d (u32 (oU n)),h):=by
 rw [aY bd4 bn2];have hw:wrap .i64 (32-n)=32-n:=wrap64 (by omega) (by omega);have hs:=IC (k:=.u64) (k':=.i64) (a:=1) (b:=32-n) (by omega);have e1:(if (0:Int)>n then 0 else n)=n:=if_neg (by omega);have e2:(if (32:Int)<n then 32 else n)=n:=if_neg (by omega);simp [ae,OU,hw,hs,e1,e2,oU,IntKind.bits]
def gM (c:Cidr):Bool:=decide (c.bits>=0)&&(decide (c.bits<=32)&&(oC .u32 c.addr (oU c.bits)==0))
theorem ZJ (c:Cidr)(h:Hp):Sm E TT aD 341 [ag c.c] h=some (bl (gM c),h):=by
 rw [aY bb7 bl9];by_cases c1:c.bits>=0
 . by_cases c2:c.bits<=32
   . simp +decide [ae,GX,aj,c1,c2,gM,ZP c.bits c1 c2,AB,aA,aa,aM]
   . simp +decide [ae,GX,aj,c1,c2,gM,aA,aM]
 . simp +decide [ae,GX,aj,c1,gM,aA,aM]
end
