/- Layer 16's functions: Pod, At, WayOf, service. -/
import Derived.Test.YtinmplbccmfheaaGreatT8
import Derived.Laws.RangeString
import Derived.KernelRfl
set_option maxRecDepth 100000
set_option linter.unusedVariables false
set_option linter.unusedSimpArgs false
namespace Go.Proofs.YtinmplbccmfheaaGreat
open IntKind (wrap)
section
variable {E:Calls'}
theorem ao7 (p:Svc)(b:Int)(x:Nat)(h:Hp)(hp:ah h.bs x=some [.d (u64 b)]):Sm E TT au 113 [p.v,.ptr x 0] h=some (bl (p.id==b),h):=by
 rw [aJ t229 v229];simp [af,NS,av hp,V.under]
theorem am4 (p:Way)(s:Svc)(x:Nat)(h:Hp)(hp:ah h.bs x=some (s.c.map .d)):Sm E TT au 77 [p.v,.ptr x 0] h=some (bl (p.id==s.way),h):=by
 rw [aJ bh7 by6];simp [af,Nj,av hp,V.under,Way.c]
theorem Bo {s:Sl Svc}(hs:short s){x:Nat}{n:Int}{h:Hp}(hp:ah h.bs x=some [.d (u64 n)]):Sm E TT au 61 [.d (s.d Svc.c),.fn 113 [.ptr x 0]] h=some (.d (i64 (ib s.l λp=>p.id==n)),h) :=
 S_idx Svc.c (z:=5) ZM aa3 (RowIs.of (cells:=Svc.c) (λ_=>rfl) _) hs.lt λp _ lo=>ao7 p n x _ hp
theorem IQ {s:Sl Way}(hs:short s){x:Nat}{n:Svc}{h:Hp}(hp:ah h.bs x=some (n.c.map .d)):Sm E TT au 76 [.d (s.d Way.c),.fn 77 [.ptr x 0]] h=some (.d (i64 (ib s.l λp=>p.id==n.way)),h) :=
 S_idx Way.c (z:=2) t109 v109 (RowIs.of (cells:=Way.c) (λ_=>rfl) _) hs.lt λp _ lo=>am4 p n x _ hp
theorem VE (c:Cfg)(hc:c.ok)(n:Int)(h:Hp):Sm E TT au 75 [c.v,.d (u64 n)] h=some (.tup (match c.services.l.find? (λp=>p.id==n) with | some p=>[p.v,bl true] | none=>[svc0.v,bl false]),h):=by
 rw [aU bh6 by5];obtain ⟨h1,h2⟩ | ⟨k,p,h1,h2,h3⟩:=dE c.services.l (λp=>p.id==n)
 . simp [af,Kn,Bo hc.2.1,h1,h2,svc0];first | done | rfl
 . simp [af,Kn,Bo hc.2.1,h1,h2,aA (z:=5) _ h3 (cells:=Svc.c) rfl];first | done | rfl
def nV (c:Cfg)(n:Int):Option Way:=match c.services.l.find? (λp=>p.id==n) with
 | none=>none
 | some s=>if s.way==0 then none else c.bound.l.find? λw=>w.id==s.way
theorem S45 (c:Cfg)(hc:c.ok)(n:Int)(h:Hp):Sm E TT au 24 [c.v,.d (u64 n)] h=some (.tup (match nV c n with | some w=>[w.v,bl true] | none=>[way0.v,bl false]),h):=by
 rw [aU t45 v45];have h108:=VE (E:=E) c hc n;have h109:=λs h hp=>IQ (E:=E) hc.2.2.1 (x:=2) (n:=s) (h:=h) hp;cases h1:c.services.l.find? (λp=>p.id==n) with
 | none =>
  simp only [h1] at h108;have h109:=h109 svc0;generalize ib c.bound.l _=ix at h109;simp [af,q45,h108,h109,nV,h1];rfl
 | some s =>
  simp only [h1] at h108;have h109:=h109 s;by_cases hw:s.way=0
  . generalize ib c.bound.l _=ix at h109;simp [af,q45,h108,h109,nV,h1,hw];rfl
  . obtain ⟨g1,g2⟩ | ⟨k,p,g1,g2,g3⟩:=dE c.bound.l (λw=>w.id==s.way)
    . simp [af,q45,h108,h109,nV,h1,hw,g1,g2];rfl
    . simp [af,q45,h108,h109,nV,h1,hw,g1,g2,aA (z:=2) _ g3 (cells:=Way.c) rfl]
theorem ai4 (c:Cfg)(hc:short c.services)(n:Int)(bs:List Blk)(lo:Nat)(hb:ah bs 0=some (c.c.map .d)):∀ (m i:Nat),i+m=c.services.l.length →
 Cd E TT au (.loop [1,2,5] ng) [(1,.d (u64 n)),(2,.ptr 0 0),(5,.d (i64 i))] ⟨bs,lo⟩ =
  match (c.services.l.drop i).findIdx? (λp=>p.id==n) with
  | some k=>some (.ret,[(4,.d (i64 (i+k:Nat)))],⟨bs,lo⟩)
  | none=>some (.exit 0,[],⟨bs,lo⟩):=by
 have hlt:=hc.lt;intro m;have key:=ay (E:=E) (T:=TT) (val:=au) [1,2,5] ng;generalize Cd E TT au (.loop [1,2,5] ng)=W at key ⊢
 induction m with
 | zero =>
  intro i hi;have h0:c.services.l.drop i=[]:=bb (by omega);rw [key];simp [ng,hb,h0,Sl.d,show ¬ ((i:Int)<c.services.l.length) from by omega]
 | succ m ih =>
  intro i hi;have hlt:i<c.services.l.length:=by omega
  have hd:c.services.l.drop i=c.services.l[i]::c.services.l.drop (i+1):=ba hlt;have hg:c.services.l[i]?=some c.services.l[i]:=ac hlt;generalize c.services.l[i]=x at *;have hx:=λh=>aA (z:=5) h hg (cells:=Svc.c) rfl;rw [key,hd];have hl:qO false (.d (Sl.d Svc.c c.services)) ⟨bs,lo⟩=some (.d (i64 c.services.l.length),⟨bs,lo⟩):=by simp [Sl.d]
  by_cases hq:x.id=n
  . simp [ng,hb,hl,hx,hq,List.findIdx?_cons,show ((i:Int)<c.services.l.length) from by omega]
  . have hq':(x.id==n)=false:=by simpa using hq
    have hw:wrap .i64 ((i:Int)+1)=((i+1:Nat):Int):=by rw [wrap64]<;>omega
    have:=ih (i+1) (by omega);simp [ng,hb,hl,hx,hq',hq,List.findIdx?_cons,hw,show ((i:Int)<c.services.l.length) from by omega];rw [show ((i:Int)+1)=((i+1:Nat):Int) from by omega,this];cases hfi:(c.services.l.drop (i+1)).findIdx? (λp=>p.id==n) with
    | none=>rfl
    | some k=>simp; omega
theorem Gj (c:Cfg)(hc:c.ok)(n:Int)(h:Hp):Sm E TT au 49 [c.v,.d (u64 n)] h=some (.d (i64 (ib c.services.l λp=>p.id==n)),h):=by
 rw [aU bh8 by7];have hl:=ai4 (E:=E) c hc.2.1 n [.cells (c.c.map .d)] 0 rfl c.services.l.length 0 (by omega);simp at hl;simp [RL,af];rw [aj];simp [hl,ib];cases c.services.l.findIdx? (λp=>p.id==n)<;>simp
theorem ai5 (c:Cfg)(hc:short c.bound)(n:Int)(bs:List Blk)(lo:Nat)(hb:ah bs 0=some (c.c.map .d)):∀ (m i:Nat),i+m=c.bound.l.length →
 Cd E TT au (.loop [1,2,5] ni) [(1,.d (u64 n)),(2,.ptr 0 0),(5,.d (i64 i))] ⟨bs,lo⟩ =
  match (c.bound.l.drop i).findIdx? (λp=>p.id==n) with
  | some k=>some (.ret,[(4,.d (i64 (i+k:Nat)))],⟨bs,lo⟩)
  | none=>some (.exit 0,[],⟨bs,lo⟩):=by
 have hlt:=hc.lt;intro m;have key:=ay (E:=E) (T:=TT) (val:=au) [1,2,5] ni;generalize Cd E TT au (.loop [1,2,5] ni)=W at key ⊢
 induction m with
 | zero =>
  intro i hi;have h0:c.bound.l.drop i=[]:=bb (by omega);rw [key];simp [ni,hb,h0,Sl.d,show ¬ ((i:Int)<c.bound.l.length) from by omega]
 | succ m ih =>
  intro i hi;have hlt:i<c.bound.l.length:=by omega
  have hd:c.bound.l.drop i=c.bound.l[i]::c.bound.l.drop (i+1):=ba hlt;have hg:c.bound.l[i]?=some c.bound.l[i]:=ac hlt;generalize c.bound.l[i]=x at *;have hx:=λh=>aA (z:=2) h hg (cells:=Way.c) rfl;rw [key,hd];have hl:qO false (.d (Sl.d Way.c c.bound)) ⟨bs,lo⟩=some (.d (i64 c.bound.l.length),⟨bs,lo⟩):=by simp [Sl.d]
  by_cases hq:x.id=n
  . simp [ni,hb,hl,hx,hq,List.findIdx?_cons,show ((i:Int)<c.bound.l.length) from by omega]
  . have hq':(x.id==n)=false:=by simpa using hq
    have hw:wrap .i64 ((i:Int)+1)=((i+1:Nat):Int):=by rw [wrap64]<;>omega
    have:=ih (i+1) (by omega);simp [ni,hb,hl,hx,hq',hq,List.findIdx?_cons,hw,show ((i:Int)<c.bound.l.length) from by omega];rw [show ((i:Int)+1)=((i+1:Nat):Int) from by omega,this];cases hfi:(c.bound.l.drop (i+1)).findIdx? (λp=>p.id==n) with
    | none=>rfl
    | some k=>simp; omega
theorem Qq (c:Cfg)(hc:c.ok)(n:Int)(h:Hp):Sm E TT au 134 [c.v,.d (u64 n)] h=some (.d (i64 (ib c.bound.l λp=>p.id==n)),h):=by
 rw [aU bh9 by8];have hl:=ai5 (E:=E) c hc.2.2.1 n [.cells (c.c.map .d)] 0 rfl c.bound.l.length 0 (by omega);simp at hl;simp [RN,af];rw [aj];simp [hl,ib];cases c.bound.l.findIdx? (λp=>p.id==n)<;>simp
def jv (p:Pol)(ns:ByteArray)(service:Int):Bool:=(eqS p.ns ⟨#[]⟩||eqS p.ns ns)&&(p.service==0||p.service==service)
theorem am5 (p:Pol)(ns:ByteArray)(s:Int)(h:Hp):Sm E TT au 90 [p.v,.d (.str ns),.d (u64 s)] h=some (bl (jv p ns s),h):=by
 rw [aU bi0 by9];cases h1:eqS p.ns ⟨#[]⟩<;>cases h2:eqS p.ns ns<;>cases h3:p.service==0<;>cases h4:p.service==s <;>
  simp [af,RP,jv,h1,h2,h3,h4]
theorem S53 (p:Pol)(x:Pod)(h:Hp):Sm E TT au 52 [p.v,x.v] h=some (bl (jv p x.ns x.service),h):=by
 rw [aU t53 v53];cases h1:eqS p.ns ⟨#[]⟩<;>cases h2:eqS p.ns x.ns<;>cases h3:p.service==0<;>cases h4:p.service==x.service <;>
  simp [af,q53,jv,h1,h2,h3,h4]
theorem S52 (p:Pol)(x:Pod)(h:Hp):Sm E TT au 45 [p.v,x.v] h=some (bl (jv p x.ns x.service),h):=by
 rw [aU t52 v52];simp [af,q52,am5]
end
section
section
variable {E:Calls'}{T:FuncId->Option QF}{val:FuncId->Bool}
def GV (z b:Nat)(zero:List V):QC:=(sr [op 11 (bt .lss 10 9)] (.seq (.cond (.t 11) .skip (.exit 0 [5])) (.seq (.block 1 (sr [op 12 (.idxA none z (.t 8) (.t 10)),op 13 (.load false z (.t 12)),op 7 (.new zero),⟨none,none,.store z (.t 7) (.t 13)⟩] (.reg none [mv 14 5,mv 15 1,op 16 (.load false z (.t 7)),op 17 (kt' 15 [.t 16]),op 18 (.buildS z 1 zero [(0,z,(.t 17))]),op 19 (.app z b (.t 14) (.t 18)),mv 5 19]))) (.reg none [op 20 (bc .add 10 1),mv 10 20]))))
def mapQ (z b:Nat)(zero:List V):QF:=⟨22,[.tmp 4],(sr [op 4 (.mov (.c zs0))] (sr [op 5 (.mov (.c zs0))] (.seq (sr [mv 8 0,op 9 (ln' 8),oc' 10 0] (.block 0 (.loop [1,5,8,9,10] (GV z b zero)))) (sr [mv 21 5,mv 4 21] (.ret [4])))))⟩
theorem JV {α:Type}{cells:α->List D}{z by_:Nat}(hz:∀ x,(cells x).length=z)(hz0:0<z)(hby:by_<=4096){zero:List V}(hzero:zero.length=z){s:Sl α}(hs:short s){f:FuncId}{g:α->α}{base:List Blk}
 (hf:∀ e∈s.l,∀ h,Sm E T val f [ag (cells e)] h=some (ag (cells (g e)),h)) :
 ∀ (m i:Nat) (acc:List (List D)) (bs:List Blk) (lo:Nat) (v:V),i+m=s.l.length->acc.length<=i->Acc base z acc bs v →
  ∃ bs' lo' v',Cd E T val (.loop [1,5,8,9,10] (GV z by_ zero)) [(1,.fn f []),(5,v),(8,.d (s.d cells)),(9,.d (.int .i64 s.l.length)),(10,.d (.int .i64 i))] ⟨bs,lo⟩ =
   some (.exit 0,[(5,v')],⟨bs',lo'⟩)/\Acc base z (acc++((s.l.drop i).map λx=>cells (g x))) bs' v':=by
 intro m;have hlen:=hs.lt;have key:=ay (E:=E) (T:=T) (val:=val) [1,5,8,9,10] (GV z by_ zero);generalize Cd E T val (.loop [1,5,8,9,10] (GV z by_ zero))=W at key ⊢
 induction m with
 | zero =>
  intro i acc bs lo v hi hai ha;have h0:s.l.drop i=[]:=bb (by omega);refine ⟨bs,lo,v,?_,by simpa [h0] using ha⟩;rw [key];simp [GV,show ¬ ((i:Int)<s.l.length) from by omega]
 | succ m ih =>
  intro i acc bs lo v hi hai ha;have hlt:i<s.l.length:=by omega
  have hd:s.l.drop i=s.l[i]::s.l.drop (i+1):=ba hlt;have hg:s.l[i]?=some s.l[i]:=ac hlt;have hcall:=hf _ (bj hlt);generalize s.l[i]=x at *;have hx:=λh=>aA (z:=z) h hg (cells:=cells) (hz x);have hput:∀ y:α,put zero 0 ((cells y).map V.d)=some ((cells y).map .d):=by intro y; simp [put,hz,hzero]
  have hsubx:sub (cells x) 0 z=some (cells x):=bN (hz x);have hw:wrap .i64 ((i:Int)+1)=((i+1:Nat):Int):=by rw [wrap64]<;>omega
  have hnu:=ha.nu;have ha1:=ha.lay [.cells ((cells x).map .d),.cells ((cells (g x)).map .d)];have hbig:acc.length<big:=by have:=hs.1; omega
  obtain ⟨v1,bs1,lo1,k1,k2⟩:=ha1.app hz0 hby (e:=cells (g x)) (hz _) hbig (min lo bs.length) (r:=bs.length+1) (cap:=some 1) (by simp);have hnu1:=k2.nu;obtain ⟨bs',lo',v',q1,q2⟩:=ih (i+1) (acc++[cells (g x)]) bs1 lo1 v1 (by omega) (by simp; omega) k2;refine ⟨bs',lo',v',?_,by simpa [hd] using q2⟩;rw [key];simp [GV,hx,hput,hsubx,hcall,hw,hnu,hz,hz0,aL,k1,hnu1,show ((i:Int)<s.l.length) from by omega];simpa using q1
theorem IV {α:Type}{cells:α->List D}{z by_ id:Nat}{zero:List V}(ht:T id=some (mapQ z by_ zero))(hv:val id=true)(hz:∀ x,(cells x).length=z)(hz0:0<z)(hby:by_<=4096)(hzero:zero.length=z){s:Sl α}(hs:short s){f:FuncId}{g:α->α}
 (hf:∀ e∈s.l,∀ h,Sm E T val f [ag (cells e)] h=some (ag (cells (g e)),h)) (h:Hp) :
 Sm E T val id [.d (s.d cells),.fn f []] h=some (.d (Sl.d cells ⟨s.l.isEmpty,s.l.map g⟩),h):=by
 rw [aU ht hv];obtain ⟨bs',lo',v',q1,q2⟩:=JV (E:=E) (T:=T) (val:=val) hz hz0 hby hzero hs hf s.l.length 0 [] [] 0 _ (by omega) (by simp) (Acc.nil [] z);have hn:=q2.nu;have hfz:=(q2.frz lo').1;have hfr:frz h (.fn f [])=some (.fn f []):=rfl;have hl:qO false (.d (Sl.d cells s)) ⟨[],0⟩=some (.d (i64 s.l.length),⟨[],0⟩):=by simp [Sl.d]
 have hfm:(s.l.map λx=>cells (g x)).isEmpty=s.l.isEmpty:=by cases s.l<;>rfl
 simp at q1;simp [af,mapQ,hfr,hl];rw [aj];simp [q1,hn];simp only [List.nil_append,List.drop_zero] at hfz;rw [hfz];simp [hfm,Sl.d,gY]
end
end
section
variable {E:Calls'}
def Qc:List V:=[(.d (.int .u64 0)),(.d (.str ⟨#[]⟩)),(.d (.str ⟨#[]⟩)),(.d (.int .i64 0)),(.d (.int .u32 0)),(.d (.int .i64 0)),(.d (.int .u64 0))]
end
section
theorem bR (a:ByteArray):a.toList=a.data.toList:=by
 simp [ByteArray.toList_eq]
theorem eqS_iff {a b:ByteArray}:eqS a b=true↔a=b:=by
 simp only [eqS,beq_iff_eq,bR];constructor
 . intro h;cases a; cases b;simp at h;rw [h]
 . rintro rfl; rfl
@[simp] theorem Wo (a:ByteArray):eqS a a=true:=eqS_iff.2 rfl
def Pod.eqB (x y:Pod):Bool:=x.uid==y.uid&&(eqS x.ns y.ns&&(eqS x.sa y.sa&&(x.host==y.host&&(x.addr==y.addr&&(x.port==y.port&&(x.service==y.service&&true))))))
def Svc.eqB (x y:Svc):Bool:=x.id==y.id&&(eqS x.ns y.ns&&(x.addr==y.addr&&(x.port==y.port&&(x.way==y.way&&true))))
def Way.eqB (x y:Way):Bool:=x.id==y.id&&(x.node==y.node&&true)
def Term.eqB (x y:Term):Bool:=x.kind==y.kind&&(eqS x.text y.text&&true)
def Cidr.eqB (x y:Cidr):Bool:=x.addr==y.addr&&(x.bits==y.bits&&true)
theorem Pod.eqB_iff {x y:Pod}:x.eqB y=true↔x=y:=by
 cases x; cases y; simp [Pod.eqB,eqS_iff]
theorem Svc.eqB_iff {x y:Svc}:x.eqB y=true↔x=y:=by
 cases x; cases y; simp [Svc.eqB,eqS_iff]
theorem Way.eqB_iff {x y:Way}:x.eqB y=true↔x=y:=by
 cases x; cases y; simp [Way.eqB]
theorem Term.eqB_iff {x y:Term}:x.eqB y=true↔x=y:=by
 cases x; cases y; simp [Term.eqB,eqS_iff]
theorem Cidr.eqB_iff {x y:Cidr}:x.eqB y=true↔x=y:=by
 cases x; cases y; simp [Cidr.eqB]
section
variable {h:Hp}{n:Bool}
@[simp] theorem ad2 {x y:Pod}:eqv (.agg [(.i .u64),.s,.s,(.i .i64),(.i .u32),(.i .i64),(.i .u64)]) n (ag x.c) (ag y.c) h=some (.d (.bool (x.eqB y != n)),h):=by
 simp [eqv,iy,ag,Pod.c,bJ,ol,Pod.eqB,eqS]
@[simp] theorem ad4 {x y:Svc}:eqv (.agg [(.i .u64),.s,(.i .u32),(.i .i64),(.i .u64)]) n (ag x.c) (ag y.c) h=some (.d (.bool (x.eqB y != n)),h):=by
 simp [eqv,iy,ag,Svc.c,bJ,ol,Svc.eqB,eqS]
@[simp] theorem ad5 {x y:Way}:eqv (.agg [(.i .u64),(.i .i64)]) n (ag x.c) (ag y.c) h=some (.d (.bool (x.eqB y != n)),h):=by
 simp [eqv,iy,ag,Way.c,bJ,ol,Way.eqB]
@[simp] theorem Wq {x y:Term}:eqv (.agg [(.i .i64),.s]) n (ag x.c) (ag y.c) h=some (.d (.bool (x.eqB y != n)),h):=by
 simp [eqv,iy,ag,Term.c,bJ,ol,Term.eqB,eqS]
@[simp] theorem Wp {x y:Cidr}:eqv (.agg [(.i .u32),(.i .i64)]) n (ag x.c) (ag y.c) h=some (.d (.bool (x.eqB y != n)),h):=by
 simp [eqv,iy,ag,Cidr.c,bJ,ol,Cidr.eqB]
end
def all2 {α β:Type}(f:α->β->Bool):List α->List β->Bool
 | [],[]=>true
 | x::l,y::m=>f x y&&all2 f l m
 | _,_=>false
theorem Br {α β:Type}{f:α->β->Bool}:∀ {l:List α} {m:List β},all2 f l m=true->l.length=m.length
 | [],[],_=>rfl
 | x::l,y::m,h=>by simp [all2] at h; simp [Br h.2]
 | [],y::m,h=>by simp [all2] at h
 | x::l,[],h=>by simp [all2] at h
theorem iQ {α β:Type}{f:α->β->Bool}{l:List α}{m:List β}(h:l.length≠m.length):all2 f l m=false:=by
 cases hx:all2 f l m with
 | false=>rfl
 | true=>exact absurd (Br hx) h
theorem eO {α:Type}{f:α->α->Bool}(hf:∀ x,f x x=true):∀ l:List α,all2 f l l=true
 | []=>rfl
 | x::l=>by simp [all2,hf,eO hf l]
theorem Bt {α β γ:Type}{f:α->β->Bool}(g:γ->α):∀ (l:List γ) (m:List β),all2 f (l.map g) m=all2 (λx y=>f (g x) y) l m
 | [],[]=>rfl
 | x::l,y::m=>by simp [all2,Bt g l m]
 | [],y::m=>rfl
 | x::l,[]=>rfl
theorem jq {α β:Type}{f:α->β->Bool}{l:List α}{m:List β}{i:Nat}(h1:i<l.length)(h2:i<m.length):all2 f (l.drop i) (m.drop i)=(f l[i] m[i]&&all2 f (l.drop (i+1)) (m.drop (i+1))):=by
 rw [ba h1,ba h2]; rfl
def Source.same (a b:Source):Bool:=all2 Term.eqB a.names.l b.names.l&&(all2 Term.eqB a.spaces.l b.spaces.l&&all2 Cidr.eqB a.nets.l b.nets.l)
def Target.same (a b:Target):Bool:=all2 Term.eqB a.methods.l b.methods.l&&(all2 Term.eqB a.paths.l b.paths.l&&(all2 Term.eqB a.hosts.l b.hosts.l&&all2 (λx y:Int=>x==y) a.ports.l b.ports.l))
def When.same (a b:When):Bool:=eqS a.head b.head&&all2 Term.eqB a.terms.l b.terms.l
def Rule.same (a b:Rule):Bool:=all2 Source.same a.frm.l b.frm.l&&(all2 Target.same a.to.l b.to.l&&all2 When.same a.whn.l b.whn.l)
def Pol.same (a b:Pol):Bool:=a.id==b.id&&(eqS a.ns b.ns&&(a.service==b.service&&(a.deny==b.deny&&all2 Rule.same a.rules.l b.rules.l)))
theorem rF (l:List Term):all2 Term.eqB l l=true:=eO (λ_=>Term.eqB_iff.2 rfl) l
theorem Source.same_refl (a:Source):a.same a=true:=by simp [Source.same,rF,eO (λ_=>Cidr.eqB_iff.2 rfl)]
theorem Target.same_refl (a:Target):a.same a=true:=by simp [Target.same,rF,eO]
theorem When.same_refl (a:When):a.same a=true:=by simp [When.same,rF]
theorem Rule.same_refl (a:Rule):a.same a=true:=by simp [Rule.same,eO Source.same_refl,eO Target.same_refl,eO When.same_refl]
theorem Pol.same_refl (a:Pol):a.same a=true:=by simp [Pol.same,eO Rule.same_refl]
end
section
variable {E:Calls'}
theorem Gn {s:Sl Term}(hs:short s)(h:Hp):Sm E TT au 217 [.d (s.d Term.c)] h=some (.d (s.d Term.c),h) :=
 wY (z:=2) (b:=24) (zero:=[(.d (.int .i64 0)),(.d (.str ⟨#[]⟩))]) bn5 ce2 (by decide) (by decide) (λ_=>rfl) hs h
theorem as9 {s:Sl Cidr}(hs:short s)(h:Hp):Sm E TT au 218 [.d (s.d Cidr.c)] h=some (.d (s.d Cidr.c),h) :=
 wY (z:=2) (b:=16) (zero:=[(.d (.int .u32 0)),(.d (.int .i64 0))]) bn6 ce3 (by decide) (by decide) (λ_=>rfl) hs h
theorem at0 {s:Sl Int}(hs:short s)(h:Hp):Sm E TT au 219 [.d (s.d ig)] h=some (.d (s.d ig),h) :=
 wY (z:=1) (b:=8) (zero:=[(.d (.int .i64 0))]) bn7 ce4 (by decide) (by decide) (λ_=>rfl) hs h
theorem aq8 (s:Source)(hs:s.fits big)(h:Hp):Sm E TT au 175 [ag s.c] h=some (ag s.c,h):=by
 rw [aU bl8 cc6];simp +decide [af,SG,ai,aa,Gn hs.1,Gn hs.2.1,as9 hs.2.2];rfl
theorem ar0 (s:Target)(hs:s.fits big)(h:Hp):Sm E TT au 177 [ag s.c] h=some (ag s.c,h):=by
 rw [aU bm0 cc8];simp +decide [af,SH,ai,aa,at0 hs.1,Gn hs.2.1,Gn hs.2.2.1,Gn hs.2.2.2];rfl
@[simp] theorem When.p1 {x:When}{v:V}:put (x.c.map V.d) 1 [v]=some [.d (.str x.head),v]:=rfl
@[simp] theorem Pol.p4 {x:Pol}{v:V}:put (x.c.map V.d) 4 [v]=some [.d (u64 x.id),.d (.str x.ns),.d (u64 x.service),.d (i64 x.deny),v]:=rfl
theorem ar2 (s:When)(hs:s.fits big)(h:Hp):Sm E TT au 179 [ag s.c] h=some (ag s.c,h):=by
 rw [aU bm2 cd0];simp [af,SI,Gn hs];rfl
def sl0 (n:Nat):List V:=List.replicate n (.d (.slice true []))
theorem aq7 {s:Sl Source}(hs:short s)(hf:∀ x∈s.l,x.fits big)(h:Hp):Sm E TT au 174 [.d (s.d Source.c),.fn 175 []] h=some (.d (Sl.d Source.c ⟨s.l.isEmpty,s.l⟩),h):=by
 have:=IV (E:=E) (T:=TT) (val:=au) (cells:=Source.c) (z:=3) (by_:=72) (zero:=sl0 3) bl7 cc5 (λ_=>rfl) (by decide) (by decide) rfl hs (f:=175) (g:=id) (λe he h=>aq8 e (hf e he) h) h;simpa using this
theorem aq9 {s:Sl Target}(hs:short s)(hf:∀ x∈s.l,x.fits big)(h:Hp):Sm E TT au 176 [.d (s.d Target.c),.fn 177 []] h=some (.d (Sl.d Target.c ⟨s.l.isEmpty,s.l⟩),h):=by
 have:=IV (E:=E) (T:=TT) (val:=au) (cells:=Target.c) (z:=4) (by_:=96) (zero:=sl0 4) bl9 cc7 (λ_=>rfl) (by decide) (by decide) rfl hs (f:=177) (g:=id) (λe he h=>ar0 e (hf e he) h) h;simpa using this
theorem ar1 {s:Sl When}(hs:short s)(hf:∀ x∈s.l,x.fits big)(h:Hp):Sm E TT au 178 [.d (s.d When.c),.fn 179 []] h=some (.d (Sl.d When.c ⟨s.l.isEmpty,s.l⟩),h):=by
 have:=IV (E:=E) (T:=TT) (val:=au) (cells:=When.c) (z:=2) (by_:=40) (zero:=[(.d (.str ⟨#[]⟩)),(.d (.slice true []))]) bm1 cc9 (λ_=>rfl) (by decide) (by decide) rfl hs (f:=179) (g:=id) (λe he h=>ar2 e (hf e he) h) h;simpa using this
def Rule.own (r:Rule):Rule:=⟨⟨r.frm.l.isEmpty,r.frm.l⟩,⟨r.to.l.isEmpty,r.to.l⟩,⟨r.whn.l.isEmpty,r.whn.l⟩⟩
def Pol.own (p:Pol):Pol:={ p with rules:=⟨p.rules.l.isEmpty,p.rules.l.map Rule.own⟩ }
theorem ao8 (r:Rule)(hr:r.fits big)(h:Hp):Sm E TT au 112 [ag r.c] h=some (ag r.own.c,h):=by
 rw [aU bj3 ca3];simp +decide [af,Si,ai,aa,aq7 hr.1.1 hr.1.2,aq9 hr.2.1.1 hr.2.1.2,ar1 hr.2.2.1 hr.2.2.2];rfl
end
section
variable {E:Calls'}
theorem ax {i n:Nat}(h:i<n)(hn:n<2 ^ 62):wrap .i64 ((i:Int)+1)=((i+1:Nat):Int):=by rw [wrap64]<;>omega
theorem ai8 {a b:Sl Term}(ha:short a)(hl:a.l.length=b.l.length)(h:Hp):∀ (m i:Nat),i+m=a.l.length →
 Cd E TT au (.loop [0,1,5] nz) [(0,.d (a.d Term.c)),(1,.d (b.d Term.c)),(5,.d (i64 i))] h=if all2 Term.eqB (a.l.drop i) (b.l.drop i)=true then some (.exit 0,[],h) else some (.ret,[(4,bl false)],h):=by
 have hlt:=ha.lt;intro m;have key:=ay (E:=E) (T:=TT) (val:=au) [0,1,5] nz;generalize Cd E TT au (.loop [0,1,5] nz)=W at key ⊢
 induction m with
 | zero =>
  intro i hi;rw [key,bb (by omega),bb (by omega)];simp [nz,all2,show ¬ ((i:Int)<a.l.length) from by omega]
 | succ m ih =>
  intro i hi;have h1:i<a.l.length:=by omega
  have h2:i<b.l.length:=by omega
  have hx:=λh=>aA (z:=2) h (ac h1) (cells:=Term.c) rfl;have hy:=λh=>aA (z:=2) h (ac h2) (cells:=Term.c) rfl;have hw:=ax h1 hlt;have:=ih (i+1) (by omega);rw [key,jq h1 h2];cases hq:Term.eqB a.l[i] b.l[i] with
  | true =>
   simp [nz,hx,hy,hq,hw,show ((i:Int)<a.l.length) from by omega];simpa using this
  | false=>simp [nz,hx,hy,hq,show ((i:Int)<a.l.length) from by omega]
theorem lT {a b:Sl Term}(ha:short a)(h:Hp):Sm E TT au 135 [.d (a.d Term.c),.d (b.d Term.c)] h=some (bl (all2 Term.eqB a.l b.l),h):=by
 rw [aU t183 v183];by_cases hl:a.l.length=b.l.length
 . have hL:=ai8 (E:=E) ha hl ⟨[],0⟩ a.l.length 0 (by omega);simp at hL;simp [af,Nz,hl];rw [aj];simp [hL];cases hq:all2 Term.eqB a.l b.l<;>simp
 . have hl':¬ ((a.l.length:Int)=b.l.length):=by omega
   simp [af,Nz,hl,hl',iQ hl]
theorem ai9 {a b:Sl Cidr}(ha:short a)(hl:a.l.length=b.l.length)(h:Hp):∀ (m i:Nat),i+m=a.l.length →
 Cd E TT au (.loop [0,1,5] nA) [(0,.d (a.d Cidr.c)),(1,.d (b.d Cidr.c)),(5,.d (i64 i))] h=if all2 Cidr.eqB (a.l.drop i) (b.l.drop i)=true then some (.exit 0,[],h) else some (.ret,[(4,bl false)],h):=by
 have hlt:=ha.lt;intro m;have key:=ay (E:=E) (T:=TT) (val:=au) [0,1,5] nA;generalize Cd E TT au (.loop [0,1,5] nA)=W at key ⊢
 induction m with
 | zero =>
  intro i hi;rw [key,bb (by omega),bb (by omega)];simp [nA,all2,show ¬ ((i:Int)<a.l.length) from by omega]
 | succ m ih =>
  intro i hi;have h1:i<a.l.length:=by omega
  have h2:i<b.l.length:=by omega
  have hx:=λh=>aA (z:=2) h (ac h1) (cells:=Cidr.c) rfl;have hy:=λh=>aA (z:=2) h (ac h2) (cells:=Cidr.c) rfl;have hw:=ax h1 hlt;have:=ih (i+1) (by omega);rw [key,jq h1 h2];cases hq:Cidr.eqB a.l[i] b.l[i] with
  | true =>
   simp [nA,hx,hy,hq,hw,show ((i:Int)<a.l.length) from by omega];simpa using this
  | false=>simp [nA,hx,hy,hq,show ((i:Int)<a.l.length) from by omega]
theorem VI {a b:Sl Cidr}(ha:short a)(h:Hp):Sm E TT au 136 [.d (a.d Cidr.c),.d (b.d Cidr.c)] h=some (bl (all2 Cidr.eqB a.l b.l),h):=by
 rw [aU bi2 bz1];by_cases hl:a.l.length=b.l.length
 . have hL:=ai9 (E:=E) ha hl ⟨[],0⟩ a.l.length 0 (by omega);simp at hL;simp [af,NA,hl];rw [aj];simp [hL];cases hq:all2 Cidr.eqB a.l b.l<;>simp
 . have hl':¬ ((a.l.length:Int)=b.l.length):=by omega
   simp [af,NA,hl,hl',iQ hl]
theorem Vs {a b:Rule}(ha:a.fits big)(hl:a.frm.l.length=b.frm.l.length):∀ (m i:Nat) (J:List Blk),i+m=a.frm.l.length →
 ∃ J',Cd E TT au (.loop [2,3,5] rq) [(2,.ptr 0 0),(3,.ptr 1 0),(5,.d (i64 i))] ⟨.cells (a.c.map .d)::.cells (b.c.map .d)::J,0⟩ =
  if all2 Source.same (a.frm.l.drop i) (b.frm.l.drop i)=true then some (.exit 0,[(2,.ptr 0 0),(3,.ptr 1 0)],⟨.cells (a.c.map .d)::.cells (b.c.map .d)::J',0⟩)
  else some (.ret,[(4,bl false)],⟨.cells (a.c.map .d)::.cells (b.c.map .d)::J',0⟩):=by
 have hlt:=ha.1.1.lt;intro m;have key:=ay (E:=E) (T:=TT) (val:=au) [2,3,5] rq;generalize Cd E TT au (.loop [2,3,5] rq)=W at key ⊢
 induction m with
 | zero =>
  intro i J hi;refine ⟨J,?_⟩;rw [key,bb (by omega),bb (by omega)];simp [rq,all2,show ¬ ((i:Int)<a.frm.l.length) from by omega]
 | succ m ih =>
  intro i J hi;have h1:i<a.frm.l.length:=by omega
  have h2:i<b.frm.l.length:=by omega
  have hx:=λh=>aA (z:=3) h (ac h1) (cells:=Source.c) rfl;have hy:=λh=>aA (z:=3) h (ac h2) (cells:=Source.c) rfl;have hw:=ax h1 hlt;have hfx:=ha.1.2 _ (bj h1);rw [jq h1 h2];generalize a.frm.l[i]=x at *;generalize b.frm.l[i]=y at *;obtain ⟨J',hJ⟩:=ih (i+1) (J++[.cells (x.c.map .d),.cells (y.c.map .d)]) (by omega);cases hA:all2 Term.eqB x.names.l y.names.l<;>cases hB:all2 Term.eqB x.spaces.l y.spaces.l<;>cases hC:all2 Cidr.eqB x.nets.l y.nets.l
  case true.true.true =>
   refine ⟨J',?_⟩;rw [key];simp [rq,hx,hy,ai,bz,Tr.spares,List.range,List.range.loop,lT hfx.1,lT hfx.2.1,VI hfx.2.2,hA,hB,hC,hw,Source.same,show ((i:Int)<a.frm.l.length) from by omega];simpa using hJ
  all_goals
   refine ⟨J++[.cells (x.c.map .d),.cells (y.c.map .d)],?_⟩;rw [key];simp [rq,hx,hy,ai,bz,Tr.spares,List.range,List.range.loop,lT hfx.1,lT hfx.2.1,VI hfx.2.2,hA,hB,hC,Source.same,show ((i:Int)<a.frm.l.length) from by omega]
theorem Vt {x y:Target}(hx:short x.ports)(hl:x.ports.l.length=y.ports.l.length){h:Hp}{p q:Nat}{t2 t3 t8:V}(hp:ah h.bs p=some (x.c.map .d))(hq:ah h.bs q=some (y.c.map .d)):∀ (m i:Nat),i+m=x.ports.l.length →
 Cd E TT au (.loop [2,3,8,9,10,11] ru) [(2,t2),(3,t3),(8,t8),(9,.ptr p 0),(10,.ptr q 0),(11,.d (i64 i))] h =
  if all2 (λx y:Int=>x==y) (x.ports.l.drop i) (y.ports.l.drop i)=true then some (.exit 4,[(2,t2),(3,t3),(8,t8)],h) else some (.ret,[(4,bl false)],h):=by
 have hlt:=hx.lt;intro m;have key:=ay (E:=E) (T:=TT) (val:=au) [2,3,8,9,10,11] ru;generalize Cd E TT au (.loop [2,3,8,9,10,11] ru)=W at key ⊢
 induction m with
 | zero =>
  intro i hi;rw [key,bb (by omega),bb (by omega)];simp [ru,all2,hp,show ¬ ((i:Int)<x.ports.l.length) from by omega]
 | succ m ih =>
  intro i hi;have h1:i<x.ports.l.length:=by omega
  have h2:i<y.ports.l.length:=by omega
  have hx:=λh=>aA (z:=1) h (ac h1) (cells:=ig) rfl;have hy:=λh=>aA (z:=1) h (ac h2) (cells:=ig) rfl;have hw:=ax h1 hlt;have:=ih (i+1) (by omega);rw [key,jq h1 h2];generalize x.ports.l[i]=u at *;generalize y.ports.l[i]=w at *;by_cases hu:u=w
  . subst hu;simp [ru,hp,hq,hx,hy,hw,ig,show ((i:Int)<x.ports.l.length) from by omega];simpa using this
  . simp [ru,hp,hq,hx,hy,hu,ig,show ((i:Int)<x.ports.l.length) from by omega]
theorem Vu {a b:Rule}(ha:a.fits big)(hl:a.to.l.length=b.to.l.length):∀ (m i:Nat) (J:List Blk),i+m=a.to.l.length →
 ∃ J',Cd E TT au (.loop [2,3,8] kT) [(2,.ptr 0 0),(3,.ptr 1 0),(8,.d (i64 i))] ⟨.cells (a.c.map .d)::.cells (b.c.map .d)::J,0⟩ =
  if all2 Target.same (a.to.l.drop i) (b.to.l.drop i)=true then some (.exit 2,[(2,.ptr 0 0),(3,.ptr 1 0)],⟨.cells (a.c.map .d)::.cells (b.c.map .d)::J',0⟩)
  else some (.ret,[(4,bl false)],⟨.cells (a.c.map .d)::.cells (b.c.map .d)::J',0⟩):=by
 have hlt:=ha.2.1.1.lt;intro m;have key:=ay (E:=E) (T:=TT) (val:=au) [2,3,8] kT;generalize Cd E TT au (.loop [2,3,8] kT)=W at key ⊢
 induction m with
 | zero =>
  intro i J hi;refine ⟨J,?_⟩;rw [key,bb (by omega),bb (by omega)];simp [kT,all2,show ¬ ((i:Int)<a.to.l.length) from by omega]
 | succ m ih =>
  intro i J hi;have h1:i<a.to.l.length:=by omega
  have h2:i<b.to.l.length:=by omega
  have hx:=λh=>aA (z:=4) h (ac h1) (cells:=Target.c) rfl;have hy:=λh=>aA (z:=4) h (ac h2) (cells:=Target.c) rfl;have hw:=ax h1 hlt;have hfx:=ha.2.1.2 _ (bj h1);rw [jq h1 h2];generalize a.to.l[i]=x at *;generalize b.to.l[i]=y at *;obtain ⟨J',hJ⟩:=ih (i+1) (J++[.cells (x.c.map .d),.cells (y.c.map .d)]) (by omega);by_cases hA:all2 Term.eqB x.methods.l y.methods.l=true
  case neg =>
   refine ⟨J++[.cells (x.c.map .d),.cells (y.c.map .d)],?_⟩;simp only [Bool.not_eq_true] at hA;rw [key];simp [kT,hx,hy,ai,bz,Tr.spares,List.range,List.range.loop,lT hfx.2.1,hA,Target.same,show ((i:Int)<a.to.l.length) from by omega]
  by_cases hB:all2 Term.eqB x.paths.l y.paths.l=true
  case neg =>
   refine ⟨J++[.cells (x.c.map .d),.cells (y.c.map .d)],?_⟩;simp only [Bool.not_eq_true] at hB;rw [key];simp [kT,hx,hy,ai,bz,Tr.spares,List.range,List.range.loop,lT hfx.2.1,lT hfx.2.2.1,hA,hB,Target.same,show ((i:Int)<a.to.l.length) from by omega]
  by_cases hC:all2 Term.eqB x.hosts.l y.hosts.l=true
  case neg =>
   refine ⟨J++[.cells (x.c.map .d),.cells (y.c.map .d)],?_⟩;simp only [Bool.not_eq_true] at hC;rw [key];simp [kT,hx,hy,ai,bz,Tr.spares,List.range,List.range.loop,lT hfx.2.1,lT hfx.2.2.1,lT hfx.2.2.2,hA,hB,hC,Target.same,show ((i:Int)<a.to.l.length) from by omega]
  by_cases hD:x.ports.l.length=y.ports.l.length
  case neg =>
   refine ⟨J++[.cells (x.c.map .d),.cells (y.c.map .d)],?_⟩;have hD':¬ ((x.ports.l.length:Int)=y.ports.l.length):=by omega
   rw [key];simp [kT,hx,hy,ai,bz,Tr.spares,List.range,List.range.loop,lT hfx.2.1,lT hfx.2.2.1,lT hfx.2.2.2,hA,hB,hC,hD',iQ hD,Target.same,show ((i:Int)<a.to.l.length) from by omega]
  have hin:=Vt (E:=E) (x:=x) (y:=y) hfx.1 hD (h:=⟨.cells (a.c.map .d)::.cells (b.c.map .d)::(J++[.cells (x.c.map .d),.cells (y.c.map .d)]),0⟩) (p:=J.length+1+1) (q:=J.length+1+1+1) (t2:=.ptr 0 0) (t3:=.ptr 1 0) (t8:=.d (i64 i)) (by simp) (by simp) x.ports.l.length 0 (by omega);simp at hin;by_cases hF:all2 (λx y:Int=>x==y) x.ports.l y.ports.l=true
  . refine ⟨J',?_⟩;rw [key];simp [kT,hx,hy,ai,bz,Tr.spares,List.range,List.range.loop,lT hfx.2.1,lT hfx.2.2.1,lT hfx.2.2.2,hA,hB,hC,hD,Target.same,show ((i:Int)<a.to.l.length) from by omega];rw [aj];simp [hin,hF,hw];simpa using hJ
  . refine ⟨J++[.cells (x.c.map .d),.cells (y.c.map .d)],?_⟩;rw [key];simp [kT,hx,hy,ai,bz,Tr.spares,List.range,List.range.loop,lT hfx.2.1,lT hfx.2.2.1,lT hfx.2.2.2,hA,hB,hC,hD,Target.same,show ((i:Int)<a.to.l.length) from by omega];rw [aj];simp [hin,hF]
theorem Vv {a b:Rule}(ha:a.fits big)(hl:a.whn.l.length=b.whn.l.length)(J:List Blk):∀ (m i:Nat),i+m=a.whn.l.length →
 Cd E TT au (.loop [2,3,12] o8) [(2,.ptr 0 0),(3,.ptr 1 0),(12,.d (i64 i))] ⟨.cells (a.c.map .d)::.cells (b.c.map .d)::J,0⟩ =
  if all2 When.same (a.whn.l.drop i) (b.whn.l.drop i)=true then some (.exit 6,[],⟨.cells (a.c.map .d)::.cells (b.c.map .d)::J,0⟩)
  else some (.ret,[(4,bl false)],⟨.cells (a.c.map .d)::.cells (b.c.map .d)::J,0⟩):=by
 have hlt:=ha.2.2.1.lt;intro m;have key:=ay (E:=E) (T:=TT) (val:=au) [2,3,12] o8;generalize Cd E TT au (.loop [2,3,12] o8)=W at key ⊢
 induction m with
 | zero =>
  intro i hi;rw [key,bb (by omega),bb (by omega)];simp [o8,all2,show ¬ ((i:Int)<a.whn.l.length) from by omega]
 | succ m ih =>
  intro i hi;have h1:i<a.whn.l.length:=by omega
  have h2:i<b.whn.l.length:=by omega
  have hx:=λh=>aA (z:=2) h (ac h1) (cells:=When.c) rfl;have hy:=λh=>aA (z:=2) h (ac h2) (cells:=When.c) rfl;have hw:=ax h1 hlt;have hfx:=ha.2.2.2 _ (bj h1);have:=ih (i+1) (by omega);rw [key,jq h1 h2];generalize a.whn.l[i]=x at *;generalize b.whn.l[i]=y at *;cases hA:eqS x.head y.head
  case false=>simp [o8,hx,hy,ai,aa,bz,Tr.spares,az,List.range,List.range.loop,hA,When.same,show ((i:Int)<a.whn.l.length) from by omega]
  cases hB:all2 Term.eqB x.terms.l y.terms.l
  case false=>simp [o8,hx,hy,ai,aa,bz,Tr.spares,az,List.range,List.range.loop,lT hfx,hA,hB,When.same,show ((i:Int)<a.whn.l.length) from by omega]
  simp [o8,hx,hy,ai,aa,bz,Tr.spares,az,List.range,List.range.loop,lT hfx,hA,hB,hw,When.same,show ((i:Int)<a.whn.l.length) from by omega];simpa using this
end
section
variable {E:Calls'}
theorem S86 (a b:Rule)(ha:a.fits big)(h:Hp):Sm E TT au 98 [ag a.c,ag b.c] h=some (bl (a.same b),h):=by
 rw [aU t86 v86];by_cases h1:a.frm.l.length=b.frm.l.length
 case neg =>
  have h1':¬ ((a.frm.l.length:Int)=b.frm.l.length):=by omega
  simp [af,q86,h1',Rule.same,iQ h1]
 by_cases h2:a.to.l.length=b.to.l.length
 case neg =>
  have h1':¬ ((a.to.l.length:Int)=b.to.l.length):=by omega
  simp [af,q86,h1,h1',Rule.same,iQ h2]
 by_cases h3:a.whn.l.length=b.whn.l.length
 case neg =>
  have h1':¬ ((a.whn.l.length:Int)=b.whn.l.length):=by omega
  simp [af,q86,h1,h2,h1',Rule.same,iQ h3]
 obtain ⟨J1,k1⟩:=Vs (E:=E) ha h1 a.frm.l.length 0 [] (by omega);obtain ⟨J2,k2⟩:=Vu (E:=E) ha h2 a.to.l.length 0 J1 (by omega);have k3:=Vv (E:=E) ha h3 J2 a.whn.l.length 0 (by omega);simp at k1 k2 k3;simp [af,q86,h1,h2,h3];rw [aj];simp [k1];cases hA:all2 Source.same a.frm.l b.frm.l
 case false=>simp [Rule.same,hA]
 simp;rw [aj];simp [k2];cases hB:all2 Target.same a.to.l b.to.l
 case false=>simp [Rule.same,hA,hB]
 simp;rw [aj];simp [k3];cases hC:all2 When.same a.whn.l b.whn.l
 case false=>simp [Rule.same,hA,hB,hC]
 simp [Rule.same,hA,hB,hC]
theorem L29 {a b:Pol}(ha:a.ok)(hl:a.rules.l.length=b.rules.l.length):∀ (m i:Nat),i+m=a.rules.l.length →
 Cd E TT au (.loop [2,3,5] qW) [(2,.ptr 0 0),(3,.ptr 1 0),(5,.d (i64 i))] ⟨[.cells (a.c.map .d),.cells (b.c.map .d)],0⟩ =
  if all2 Rule.same (a.rules.l.drop i) (b.rules.l.drop i)=true then some (.exit 0,[],⟨[.cells (a.c.map .d),.cells (b.c.map .d)],0⟩)
  else some (.ret,[(4,bl false)],⟨[.cells (a.c.map .d),.cells (b.c.map .d)],0⟩):=by
 have hlt:=ha.1.lt;intro m;have key:=ay (E:=E) (T:=TT) (val:=au) [2,3,5] qW;generalize Cd E TT au (.loop [2,3,5] qW)=W at key ⊢
 induction m with
 | zero =>
  intro i hi;rw [key,bb (by omega),bb (by omega)];simp [qW,all2,show ¬ ((i:Int)<a.rules.l.length) from by omega]
 | succ m ih =>
  intro i hi;have h1:i<a.rules.l.length:=by omega
  have h2:i<b.rules.l.length:=by omega
  have hx:=λh=>aA (z:=3) h (ac h1) (cells:=Rule.c) rfl;have hy:=λh=>aA (z:=3) h (ac h2) (cells:=Rule.c) rfl;have hw:=ax h1 hlt;have hfx:=ha.2 _ (bj h1);have:=ih (i+1) (by omega);rw [key,jq h1 h2];generalize a.rules.l[i]=x at *;generalize b.rules.l[i]=y at *;cases hA:x.same y
  case false=>simp +decide [qW,hx,hy,ai,aa,S86 x y hfx,hA,show ((i:Int)<a.rules.l.length) from by omega]
  simp +decide [qW,hx,hy,ai,aa,S86 x y hfx,hA,hw,show ((i:Int)<a.rules.l.length) from by omega];simpa using this
theorem S29 (a b:Pol)(ha:a.ok)(h:Hp):Sm E TT au 55 [ag a.c,ag b.c] h=some (bl (a.same b),h):=by
 rw [aU t29 v29];by_cases h1:a.id=b.id
 case neg=>simp [af,q29,h1,Pol.same]
 cases h2:eqS a.ns b.ns
 case false=>simp [af,q29,h1,h2,Pol.same]
 by_cases h3:a.service=b.service
 case neg=>simp [af,q29,h1,h2,h3,Pol.same]
 by_cases h4:a.deny=b.deny
 case neg=>simp [af,q29,h1,h2,h3,h4,Pol.same]
 by_cases h5:a.rules.l.length=b.rules.l.length
 case neg =>
  have h1':¬ ((a.rules.l.length:Int)=b.rules.l.length):=by omega
  simp [af,q29,h1,h2,h3,h4,h1',Pol.same,iQ h5]
 have k:=L29 (E:=E) ha h5 a.rules.l.length 0 (by omega);simp at k;simp [af,q29,h1,h2,h3,h4,h5];rw [aj];simp [k];cases hA:all2 Rule.same a.rules.l b.rules.l
 case false=>simp [Pol.same,hA]
 simp [Pol.same,hA,h1,h2,h3,h4]
theorem Bu:∀ (l:List Rule),all2 Rule.same (l.map Rule.own) l=true
 | []=>rfl
 | r::l=>by
  have h1:r.own.same r=true:=by
   have:=r.same_refl;simpa [Rule.same,Rule.own] using this
  simp [all2,h1,Bu l]
theorem own_same (p:Pol):p.own.same p=true:=by
 simp [Pol.same,Pol.own,Bu]
end
section
variable {E:Calls'}
theorem S48 (c:Cfg)(hc:c.ok)(n:Int)(h:Hp):Sm E TT au 94 [c.v,.d (u64 n)] h=some (.tup (match nV c n with | some w=>[w.v,bl true] | none=>[way0.v,bl false]),h):=by
 rw [aU t48 v48];obtain ⟨g1,g2⟩ | ⟨k,s,g1,g2,g3⟩:=dE c.services.l (λp=>p.id==n)
 . simp [af,q48,Gj c hc,g2,nV,g1];rfl
 . have hi:=λh=>aA (z:=5) h g3 (cells:=Svc.c) rfl;by_cases hw:s.way=0
   . simp [af,q48,Gj c hc,g2,nV,g1,hi,hw];rfl
   . obtain ⟨e1,e2⟩ | ⟨k2,w,e1,e2,e3⟩:=dE c.bound.l (λp=>p.id==s.way)
     . simp +decide [af,q48,Gj c hc,g2,nV,g1,hi,hw,ai,aa,Qq c hc,e1,e2];rfl
     . have hj:=λh=>aA (z:=2) h e3 (cells:=Way.c) rfl;simp +decide [af,q48,Gj c hc,g2,nV,g1,hi,hw,ai,aa,Qq c hc,e1,e2,hj];try rfl
end
section
variable {E:Calls'}
@[simp] theorem Uu (a b:Nat):(a<b\/b<=a)↔True:=⟨λ_=>trivial,λ_=>cm a b⟩
@[simp] theorem em' {p:Prop}:(¬ p\/p)↔True:=⟨λ_=>trivial,λ_=>(Classical.em p).symm⟩
end
section
variable {E:Calls'}
theorem mg {n:Int}:∃ m,bC .quo (.d (.int .i64 n)) (.d (.int .i64 64))=some (.int .i64 m):=⟨_,by simp [bC,fw]; rfl⟩
theorem aj0 {s:Sl Term}(hs:short s)(h:Hp):∀ (m i:Nat) (n:Int),i+m=s.l.length →
 ∃ n',Cd E TT au (.loop [0,3,4] nC) [(0,.d (s.d Term.c)),(3,.d (i64 n)),(4,.d (i64 i))] h=some (.exit 0,[(3,.d (i64 n'))],h):=by
 have hlt:=hs.lt;intro m;have key:=ay (E:=E) (T:=TT) (val:=au) [0,3,4] nC;generalize Cd E TT au (.loop [0,3,4] nC)=W at key ⊢
 induction m with
 | zero =>
  intro i n hi;refine ⟨n,?_⟩;rw [key];simp [nC,show ¬ ((i:Int)<s.l.length) from by omega]
 | succ m ih =>
  intro i n hi;have hlt:i<s.l.length:=by omega
  have hx:=λh=>aA (z:=2) h (ac hlt) (cells:=Term.c) rfl;have hw:=ax hlt (by omega);by_cases hn:n<=2000
  . generalize s.l[i]=x at *;obtain ⟨k,hq⟩:=mg (n:=x.text.size);obtain ⟨n',q1⟩:=ih (i+1) (wrap .i64 (n+k)) (by omega);refine ⟨n',?_⟩;rw [key];simp [nC,hx,hq,hw,hn,show ((i:Int)<s.l.length) from by omega];simpa using q1
  . refine ⟨n,?_⟩;rw [key];simp [nC,hn,show ((i:Int)<s.l.length) from by omega]
theorem Gl {s:Sl Term}(hs:short s):∃ n':Int,∀ h,Sm E TT au 56 [.d (s.d Term.c)] h=some (.d (i64 n'),h):=by
 obtain ⟨n',q1⟩:=aj0 (E:=E) hs ⟨[],0⟩ s.l.length 0 s.l.length (by omega);refine ⟨n',λh=>?_⟩;rw [aU bi3 bz2];simp at q1;simp [af,R3];rw [aj];simp [q1]
def Tr.mute (t:Tr):Bool:=!t.big&&t.wr.isEmpty&&t.lo==t.hi
theorem ae {pr:List (List Nat)}{l:List Tr}(h:l.all Tr.mute=true):bz pr l=true:=by
 have hm:∀ t∈l,t.big=false/\t.wr=[]/\t.lo=t.hi:=by
  intro t ht;have:=cj.1 h t ht;simp only [Tr.mute,aE,Bool.not_eq_true',List.isEmpty_iff,beq_iff_eq] at this;exact ⟨this.1.1,this.1.2,this.2⟩
 simp only [bz,cj,List.mem_range,Bool.or_eq_true];intro i hi j hj;right;rw [ac hi,ac hj];obtain ⟨a1,a2,a3⟩:=hm _ (bj hi);obtain ⟨b1,b2,b3⟩:=hm _ (bj hj);simp only [Tr.spares,a1,b1,a2,a3,Bool.or_self,bo,if_false];split
 . simp
 . simp only [cj];intro b _;simp
theorem Vx {r:Rule}(hr:r.fits big){h:Hp}{q:Nat}{t1 t4:V}(hq:ah h.bs q=some (r.c.map .d)):∀ (m i:Nat) (n:Int),i+m=r.frm.l.length →
 ∃ n',Cd E TT au (.loop [1,3,4,5,6] rz) [(1,t1),(3,.d (i64 n)),(4,t4),(5,.ptr q 0),(6,.d (i64 i))] h=some (.exit 2,[(1,t1),(3,.d (i64 n')),(4,t4),(5,.ptr q 0)],h):=by
 have hlt:=hr.1.1.lt;intro m;have key:=ay (E:=E) (T:=TT) (val:=au) [1,3,4,5,6] rz;generalize Cd E TT au (.loop [1,3,4,5,6] rz)=W at key ⊢
 induction m with
 | zero =>
  intro i n hi;refine ⟨n,?_⟩;rw [key];simp [rz,hq,show ¬ ((i:Int)<r.frm.l.length) from by omega]
 | succ m ih =>
  intro i n hi;have h1:i<r.frm.l.length:=by omega
  have hx:=λh=>aA (z:=3) h (ac h1) (cells:=Source.c) rfl;have hw:=ax h1 hlt;have hfx:=hr.1.2 _ (bj h1);by_cases hn:n<=2000
  . generalize r.frm.l[i]=x at *;obtain ⟨k0,hk0⟩:=Gl (E:=E) (s:=x.names) hfx.1;obtain ⟨k1,hk1⟩:=Gl (E:=E) (s:=x.spaces) hfx.2.1;rw [key];simp [rz,hq,hx,ai,aa,ae,Tr.mute,hk0,hk1,hw,hn,show ((i:Int)<r.frm.l.length) from by omega];rw [show ((i:Int)+1)=((i+1:Nat):Int) from by omega];exact ih (i+1) _ (by omega)
  . refine ⟨n,?_⟩;rw [key];simp [rz,hq,hn,show ((i:Int)<r.frm.l.length) from by omega]
theorem Vy {r:Rule}(hr:r.fits big){h:Hp}{q:Nat}{t1 t4:V}(hq:ah h.bs q=some (r.c.map .d)):∀ (m i:Nat) (n:Int),i+m=r.to.l.length →
 ∃ n',Cd E TT au (.loop [1,3,4,5,7] rA) [(1,t1),(3,.d (i64 n)),(4,t4),(5,.ptr q 0),(7,.d (i64 i))] h=some (.exit 4,[(1,t1),(3,.d (i64 n')),(4,t4),(5,.ptr q 0)],h):=by
 have hlt:=hr.2.1.1.lt;intro m;have key:=ay (E:=E) (T:=TT) (val:=au) [1,3,4,5,7] rA;generalize Cd E TT au (.loop [1,3,4,5,7] rA)=W at key ⊢
 induction m with
 | zero =>
  intro i n hi;refine ⟨n,?_⟩;rw [key];simp [rA,hq,show ¬ ((i:Int)<r.to.l.length) from by omega]
 | succ m ih =>
  intro i n hi;have h1:i<r.to.l.length:=by omega
  have hx:=λh=>aA (z:=4) h (ac h1) (cells:=Target.c) rfl;have hw:=ax h1 hlt;have hfx:=hr.2.1.2 _ (bj h1);by_cases hn:n<=2000
  . generalize r.to.l[i]=x at *;obtain ⟨k0,hk0⟩:=Gl (E:=E) (s:=x.methods) hfx.2.1;obtain ⟨k1,hk1⟩:=Gl (E:=E) (s:=x.paths) hfx.2.2.1;obtain ⟨k2,hk2⟩:=Gl (E:=E) (s:=x.hosts) hfx.2.2.2;rw [key];simp [rA,hq,hx,ai,aa,ae,Tr.mute,hk0,hk1,hk2,hw,hn,show ((i:Int)<r.to.l.length) from by omega];rw [show ((i:Int)+1)=((i+1:Nat):Int) from by omega];exact ih (i+1) _ (by omega)
  . refine ⟨n,?_⟩;rw [key];simp [rA,hq,hn,show ((i:Int)<r.to.l.length) from by omega]
theorem Vz {r:Rule}(hr:r.fits big){h:Hp}{q:Nat}{t1 t4:V}(hq:ah h.bs q=some (r.c.map .d)):∀ (m i:Nat) (n:Int),i+m=r.whn.l.length →
 ∃ n',Cd E TT au (.loop [1,3,4,5,8] rC) [(1,t1),(3,.d (i64 n)),(4,t4),(5,.ptr q 0),(8,.d (i64 i))] h=some (.exit 6,[(1,t1),(3,.d (i64 n')),(4,t4)],h):=by
 have hlt:=hr.2.2.1.lt;intro m;have key:=ay (E:=E) (T:=TT) (val:=au) [1,3,4,5,8] rC;generalize Cd E TT au (.loop [1,3,4,5,8] rC)=W at key ⊢
 induction m with
 | zero =>
  intro i n hi;refine ⟨n,?_⟩;rw [key];simp [rC,hq,show ¬ ((i:Int)<r.whn.l.length) from by omega]
 | succ m ih =>
  intro i n hi;have h1:i<r.whn.l.length:=by omega
  have hx:=λh=>aA (z:=2) h (ac h1) (cells:=When.c) rfl;have hw:=ax h1 hlt;have hfx:=hr.2.2.2 _ (bj h1);by_cases hn:n<=2000
  . generalize r.whn.l[i]=x at *;obtain ⟨k0,hk0⟩:=Gl (E:=E) (s:=x.terms) hfx;obtain ⟨w,hw2⟩:=mg (n:=x.head.size);rw [key];simp [rC,hq,hx,ai,aa,ae,Tr.mute,hk0,hw,hn,hw2,show ((i:Int)<r.whn.l.length) from by omega];rw [show ((i:Int)+1)=((i+1:Nat):Int) from by omega];exact ih (i+1) _ (by omega)
  . refine ⟨n,?_⟩;rw [key];simp [rC,hq,hn,show ((i:Int)<r.whn.l.length) from by omega]
end
section
variable {E:Calls'}
theorem VA {p:Pol}(hp:p.ok):∀ (m i:Nat) (n:Int) (J:List Blk),i+m=p.rules.l.length →
 ∃ n' J',Cd E TT au (.loop [1,3,4] rD) [(1,.ptr 0 0),(3,.d (i64 n)),(4,.d (i64 i))] ⟨.cells (p.c.map .d)::J,0⟩=some (.exit 0,[(3,.d (i64 n'))],⟨.cells (p.c.map .d)::J',0⟩):=by
 have hlt:=hp.1.lt;intro m;have key:=ay (E:=E) (T:=TT) (val:=au) [1,3,4] rD;generalize Cd E TT au (.loop [1,3,4] rD)=W at key ⊢
 induction m with
 | zero =>
  intro i n J hi;refine ⟨n,J,?_⟩;rw [key];simp [rD,show ¬ ((i:Int)<p.rules.l.length) from by omega]
 | succ m ih =>
  intro i n J hi;have h1:i<p.rules.l.length:=by omega
  have hx:=λh=>aA (z:=3) h (ac h1) (cells:=Rule.c) rfl;have hw:=ax h1 hlt;have hfx:=hp.2 _ (bj h1);by_cases hn:n<=2000
  . generalize p.rules.l[i]=x at *;obtain ⟨n1,q1⟩:=Vx (E:=E) hfx (h:=⟨.cells (p.c.map .d)::(J++[.cells (x.c.map .d)]),0⟩) (q:=J.length+1) (t1:=.ptr 0 0) (t4:=.d (i64 i)) (by simp) x.frm.l.length 0 (wrap .i64 (n+wrap .i64 (wrap .i64 (wrap .i64 (1+(x.frm.l.length:Int))+(x.to.l.length:Int))+(x.whn.l.length:Int)))) (by omega);obtain ⟨n2,q2⟩:=Vy (E:=E) hfx (h:=⟨.cells (p.c.map .d)::(J++[.cells (x.c.map .d)]),0⟩) (q:=J.length+1) (t1:=.ptr 0 0) (t4:=.d (i64 i)) (by simp) x.to.l.length 0 n1 (by omega);obtain ⟨n3,q3⟩:=Vz (E:=E) hfx (h:=⟨.cells (p.c.map .d)::(J++[.cells (x.c.map .d)]),0⟩) (q:=J.length+1) (t1:=.ptr 0 0) (t4:=.d (i64 i)) (by simp) x.whn.l.length 0 n2 (by omega);simp at q1 q2 q3;rw [key];simp [rD,hx,hn,show ((i:Int)<p.rules.l.length) from by omega];rw [aj];simp [q1];rw [aj];simp [q2];rw [aj];simp [q3,hw];rw [show ((i:Int)+1)=((i+1:Nat):Int) from by omega];exact ih (i+1) _ _ (by omega)
  . refine ⟨n,J,?_⟩;rw [key];simp [rD,hn,show ((i:Int)<p.rules.l.length) from by omega]
theorem S87 (p:Pol)(hp:p.ok):∃ n':Int,∀ h,Sm E TT au 14 [ag p.c] h=some (.d (i64 n'),h):=by
 obtain ⟨k,hk⟩:=mg (n:=p.ns.size);obtain ⟨n',J',q1⟩:=VA (E:=E) hp p.rules.l.length 0 (wrap .i64 (1+k)) [] (by omega);refine ⟨n',λh=>?_⟩;rw [aU t87 v87];simp at q1;simp [af,q87,hk];rw [aj];simp [q1]
theorem U5 (c:Cfg)(hc:c.ok):∀ (m i:Nat) (n:Int),i+m=c.pods.l.length →
 ∃ n',Cd E TT au (.loop [1,3,4] qX) [(1,.ptr 0 0),(3,.d (i64 n)),(4,.d (i64 i))] ⟨[.cells (c.c.map .d)],0⟩=some (.exit 0,[(1,.ptr 0 0),(3,.d (i64 n'))],⟨[.cells (c.c.map .d)],0⟩):=by
 have hlt:=hc.1.lt;intro m;have key:=ay (E:=E) (T:=TT) (val:=au) [1,3,4] qX;generalize Cd E TT au (.loop [1,3,4] qX)=W at key ⊢
 induction m with
 | zero =>
  intro i n hi;refine ⟨n,?_⟩;rw [key];simp [qX,show ¬ ((i:Int)<c.pods.l.length) from by omega]
 | succ m ih =>
  intro i n hi;have h1:i<c.pods.l.length:=by omega
  have hx:=λh=>aA (z:=7) h (ac h1) (cells:=Pod.c) rfl;have hw:=ax h1 hlt;by_cases hn:n<=2000
  . generalize c.pods.l[i]=x at *;obtain ⟨k,hk⟩:=mg (n:=wrap .i64 ((x.ns.size:Int)+(x.sa.size:Int)));rw [key];simp [qX,hx,hk,hw,hn,show ((i:Int)<c.pods.l.length) from by omega];rw [show ((i:Int)+1)=((i+1:Nat):Int) from by omega];exact ih (i+1) _ (by omega)
  . refine ⟨n,?_⟩;rw [key];simp [qX,hn,show ((i:Int)<c.pods.l.length) from by omega]
theorem U6 (c:Cfg)(hc:c.ok):∀ (m i:Nat) (n:Int),i+m=c.services.l.length →
 ∃ n',Cd E TT au (.loop [1,3,5] qY) [(1,.ptr 0 0),(3,.d (i64 n)),(5,.d (i64 i))] ⟨[.cells (c.c.map .d)],0⟩=some (.exit 2,[(1,.ptr 0 0),(3,.d (i64 n'))],⟨[.cells (c.c.map .d)],0⟩):=by
 have hlt:=hc.2.1.lt;intro m;have key:=ay (E:=E) (T:=TT) (val:=au) [1,3,5] qY;generalize Cd E TT au (.loop [1,3,5] qY)=W at key ⊢
 induction m with
 | zero =>
  intro i n hi;refine ⟨n,?_⟩;rw [key];simp [qY,show ¬ ((i:Int)<c.services.l.length) from by omega]
 | succ m ih =>
  intro i n hi;have h1:i<c.services.l.length:=by omega
  have hx:=λh=>aA (z:=5) h (ac h1) (cells:=Svc.c) rfl;have hw:=ax h1 hlt;by_cases hn:n<=2000
  . generalize c.services.l[i]=x at *;obtain ⟨k,hk⟩:=mg (n:=x.ns.size);rw [key];simp [qY,hx,hk,hw,hn,show ((i:Int)<c.services.l.length) from by omega];rw [show ((i:Int)+1)=((i+1:Nat):Int) from by omega];exact ih (i+1) _ (by omega)
  . refine ⟨n,?_⟩;rw [key];simp [qY,hn,show ((i:Int)<c.services.l.length) from by omega]
theorem U7 (c:Cfg)(hc:c.ok):∀ (m i:Nat) (n:Int),i+m=c.policies.l.length →
 ∃ n',Cd E TT au (.loop [1,3,6] qZ) [(1,.ptr 0 0),(3,.d (i64 n)),(6,.d (i64 i))] ⟨[.cells (c.c.map .d)],0⟩=some (.exit 4,[(3,.d (i64 n'))],⟨[.cells (c.c.map .d)],0⟩):=by
 have hlt:=hc.2.2.2.1.lt;intro m;have key:=ay (E:=E) (T:=TT) (val:=au) [1,3,6] qZ;generalize Cd E TT au (.loop [1,3,6] qZ)=W at key ⊢
 induction m with
 | zero =>
  intro i n hi;refine ⟨n,?_⟩;rw [key];simp [qZ,show ¬ ((i:Int)<c.policies.l.length) from by omega]
 | succ m ih =>
  intro i n hi;have h1:i<c.policies.l.length:=by omega
  have hx:=λh=>aA (z:=5) h (ac h1) (cells:=Pol.c) rfl;have hw:=ax h1 hlt;have hfx:=hc.2.2.2.2 _ (bj h1);by_cases hn:n<=2000
  . generalize c.policies.l[i]=x at *;obtain ⟨k,hk⟩:=S87 (E:=E) x hfx;rw [key];simp [qZ,hx,hk,hw,hn,show ((i:Int)<c.policies.l.length) from by omega];rw [show ((i:Int)+1)=((i+1:Nat):Int) from by omega];exact ih (i+1) _ (by omega)
  . refine ⟨n,?_⟩;rw [key];simp [qZ,hn,show ((i:Int)<c.policies.l.length) from by omega]
theorem S31 (c:Cfg)(hc:c.ok):∃ b:Bool,∀ h,Sm E TT au 4 [c.v] h=some (bl b,h):=by
 obtain ⟨n1,q1⟩:=U5 (E:=E) c hc c.pods.l.length 0 (wrap .i64 (wrap .i64 ((c.pods.l.length:Int)+(c.services.l.length:Int))+(c.bound.l.length:Int))) (by omega);obtain ⟨n2,q2⟩:=U6 (E:=E) c hc c.services.l.length 0 n1 (by omega);obtain ⟨n3,q3⟩:=U7 (E:=E) c hc c.policies.l.length 0 n2 (by omega);refine ⟨decide (2000<n3),λh=>?_⟩;rw [aU t31 v31];simp at q1 q2 q3;simp [af,q31];rw [aj];simp [q1];rw [aj];simp [q2];rw [aj];simp [q3]
end
section
def vK (x i:V)(h:Hp):Option (V×Hp):=match i,x with
 | .d (.int _ i),.d (.str s)=>if 0<=i then (match s.toList[i.toNat]? with | some b=>some (.d (.int .u8 b.toNat),h) | none=>none) else none
 | _,_=>none
section
variable {C:Calls'}{ev:X->V}{h:Hp}
@[simp] theorem Yz {x i:X}:opE C (.idxS x i) ev h=vK (ev x) (ev i) h:=(rfl)
end
theorem ic {s:ByteArray}{k:Nat}{b:UInt8}{h:Hp}(hk:s.toList[k]?=some b):vK (.d (.str s)) (.d (.int .i64 k)) h=some (.d (.int .u8 b.toNat),h):=by
 simp [vK,hk]
theorem fK (s:ByteArray):s.toList.length=s.size:=by rw [bR]; rfl
variable {E:Calls'}
def qw (b:UInt8):Bool:=decide ((b.toNat:Int)<33)||(decide ((b.toNat:Int)>126)||((b.toNat:Int)==42||(b.toNat:Int)==44))
def ko:List UInt8->Bool
 | []=>false
 | b::l=>qw b||ko l
def fZ (t:Term):Bool:=!ko t.text.toList&&(if t.kind==4 then eqS t.text ⟨#[]⟩ else decide (1<=t.kind)&&(decide (t.kind<=3)&&(decide ((t.text.size:Int)>=1)&&decide ((t.text.size:Int)<=64))))
theorem al1 (t:Term)(ht:t.text.size<=big):∀ (m i:Nat),i+m=t.text.size →
 Cd E TT au (.loop [1,3] jK) [(1,.ptr 0 0),(3,.d (i64 i))] ⟨[.cells (t.c.map .d)],0⟩ =
  if ko (t.text.toList.drop i) then some (.ret,[(2,bl false)],⟨[.cells (t.c.map .d)],0⟩) else some (.exit 0,[(1,.ptr 0 0)],⟨[.cells (t.c.map .d)],0⟩):=by
 have hlt:t.text.size<2 ^ 62:=ce ht (by decide);have hsl:=fK t.text;intro m;have key:=ay (E:=E) (T:=TT) (val:=au) [1,3] jK;generalize Cd E TT au (.loop [1,3] jK)=W at key ⊢
 induction m with
 | zero =>
  intro i hi;rw [key,bb (by omega)];simp [jK,ko,show ¬ ((i:Int)<t.text.size) from by omega]
 | succ m ih =>
  intro i hi;have h1:i<t.text.toList.length:=by omega
  have hx:=λh=>ic (h:=h) (ac h1);have hw:=ax (show i<t.text.size by omega) hlt;have:=ih (i+1) (by omega);rw [key,ba h1];generalize t.text.toList[i]=b at *;have h0:((i:Int)<t.text.size):=by omega
  by_cases c1:(b.toNat:Int)<33
  . simp [jK,hx,c1,ko,qw,aB,h0]
  . by_cases c2:(b.toNat:Int)>126
    . simp [jK,hx,c1,c2,ko,qw,aB,h0]
    . by_cases c3:(b.toNat:Int)=42
      . simp [jK,hx,c3,ko,qw,aB,h0]
      . by_cases c4:(b.toNat:Int)=44
        . simp [jK,hx,c4,ko,qw,aB,h0]
        . have hb:qw b=false:=by simp [qw,c1,c2,c3,c4]
          simp [ko,hb,jK,hx,c1,c2,c3,c4,aB,h0,hw];simpa using this
theorem aw3 (t:Term)(ht:t.text.size<=big)(h:Hp):Sm E TT au 330 [ag t.c] h=some (bl (fZ t),h):=by
 rw [aU bt0 ci9];have k1:=al1 (E:=E) t ht t.text.size 0 (by omega);simp at k1;simp [af,TG];rw [aj];simp [k1];cases hb:ko t.text.toList with
 | true=>simp [fZ,hb]
 | false =>
  by_cases c0:t.kind=4
  . simp [fZ,hb,c0]
  . by_cases c1:t.kind>=1<;>by_cases c2:t.kind<=3<;>by_cases c3:(t.text.size:Int)>=1<;>simp [fZ,hb,c0,aB,c1,c2,c3]
theorem by3:TT 343=some (idxQ 2):=bt3
theorem by0:TT 328=some (anyQ 343):=br9
theorem bx9:TT 327=some idx1Q:=br8
theorem bx2:TT 308=some (anyQ 327):=bq7
theorem aw2 (t:Term)(ht:t.text.size<=big)(h:Hp):Sm E TT au 329 [ag t.c] h=some (bl (!fZ t),h):=by
 rw [aJ bs9 ci8];simp [af,TE,aw3 t ht,V.under]
def aT (s:Sl Term):Bool:=decide ((s.l.length:Int)<=6)&&s.l.all fZ
theorem av8 (s:Sl Term)(hs:short s)(ht:∀ t∈s.l,t.text.size<=big)(h:Hp):Sm E TT au 310 [.d (s.d Term.c)] h=some (bl (aT s),h):=by
 rw [aU bq9 ch7];have hany:=S_any (E:=E) (T:=TT) (val:=au) Term.c (z:=2) by3 cj3 by0 ci7 (v:=.d (s.d Term.c)) (es:=s.l) (f:=329) (caps:=[]) (q:=λt=>!fZ t) (h:=⟨[],0⟩) (RowIs.of (cells:=Term.c) (z:=2) (λ_=>rfl) _) hs.lt (λe he lo=>aw2 e (ht e he) _);by_cases hm:(s.l.length:Int)<=6
 . simp [af,OC,hm,hany,aB,aT,← vY]
 . simp [af,OC,hm,hany,aB,aT]
theorem av7 (s:Sl Term)(hs:short s)(ht:∀ t∈s.l,t.text.size<=big)(h:Hp):Sm E TT au 309 [.d (s.d Term.c)] h=some (bl (!aT s),h):=by
 rw [aJ bq8 ch6];simp [af,TB,av8 s hs ht,V.under]
theorem Qx (ls:List (Sl Term))(hl:ls.length<2 ^ 62)(hs:∀ s∈ls,short s/\∀ t∈s.l,t.text.size<=big)(a:V)(h:Hp)(ha:frz h a=some (.d (.slice false (ls.map λs=>[s.d Term.c])))):Sm E TT au 275 [a] h=some (bl (ls.all aT),h):=by
 rw [aU bp5 cg2];have hr:RowIs ([]:List Blk) (.d (.slice false (ls.map λs=>[s.d Term.c]))) 1 (ls.map λs=>[s.d Term.c]):=⟨by simp,.inl ⟨false,rfl⟩⟩;have hany:=IU (E:=E) (T:=TT) (val:=au) (Sl.d Term.c) bx9 ci6 bx2 ch5 (es:=ls) (f:=309) (caps:=[]) (q:=λs=>!aT s) (h:=⟨[],0⟩) hr hl (λe he lo=>av7 e (hs e he).1 (hs e he).2 _);simp [af,Ty,ha,hany,← vY,ownR,CG,mZ]
end
section
def sM (mx:Bool)(l:List V)(h:Hp):Option (V×Hp):=match l with
 | []=>none
 | x::xs=>match iD mx x xs with
  | some v=>some (v,h)
  | none=>none
def Ji (k:IntKind)(x:V)(h:Hp):Option (V×Hp):=match x with
 | .d (.int _ n)=>some (.d (.int k (k.wrap n)),h)
 | _=>none
section
variable {C:Calls'}{ev:X->V}{h:Hp}
@[simp] theorem Ro {mx:Bool}{a b:X}:opE C (.minmax mx [a,b]) ev h=if okV (ev a)&&(okV (ev b)&&true) then sM mx [ev a,ev b] h else none:=(rfl)
@[simp] theorem UF {k:IntKind}{x:X}:opE C (.convI k x) ev h=Ji k (ev x) h:=(rfl)
@[simp] theorem QU {k k':IntKind}{n:Int}:Ji k (.d (.int k' n)) h=some (.d (.int k (k.wrap n)),h):=(rfl)
@[simp] theorem Yj {k:IntKind}{a b:Int}:sM true [.d (.int k a),.d (.int k b)] h=some (.d (.int k (if b>a then b else a)),h):=by simp [sM,iD]
@[simp] theorem Yi {k:IntKind}{a b:Int}:sM false [.d (.int k a),.d (.int k b)] h=some (.d (.int k (if b<a then b else a)),h):=by simp [sM,iD]
end
section
variable {k k':IntKind}{a b:Int}
theorem Md (hb:0<=b):bC .shl (.d (.int k a)) (.d (.int k' b))=some (.int k (k.wrap (a * 2 ^ (min b.toNat k.bits)))):=by simp [bC,show ¬ b<0 by omega]
theorem iC (hb:0<=b):bC .shr (.d (.int k a)) (.d (.int k' b))=some (.int k (a.fdiv (2 ^ (min b.toNat k.bits)))):=by simp [bC,show ¬ b<0 by omega]
def rT (k:IntKind)(a b:Int):Int:=k.wrap ((BitVec.ofInt k.bits a &&& ~~~ BitVec.ofInt k.bits b).toNat)
theorem DU:bC .andNot (.d (.int k a)) (.d (.int k b))=some (.int k (rT k a b)):=by simp [bC,fw,rT]
end
variable {E:Calls'}
theorem VO (n:Int)(h:Hp):Sm E TT au 157 [.d (i64 n)] h=some (bl (decide (n>=1)&&decide (n<=65535)),h):=by
 rw [aU bj9 cb0];by_cases c1:n>=1<;>simp [af,N7,aB,c1]
theorem ap7 (n:Int)(h:Hp):Sm E TT au 162 [.d (u64 n)] h=some (bl (decide (n>=1)&&decide (n<=4611686018427387903)),h):=by
 rw [aU bk6 cb4];by_cases c1:n>=1<;>simp [af,N9,aB,c1]
def sK (n:Int):Int:=wrap .u32 (wrap .u64 (4294967296-wrap .u64 (1 * 2 ^ (min (wrap .i64 (32-n)).toNat 64))))
theorem av9 (n:Int)(h0:0<=n)(h1:n<=32)(h:Hp):Sm E TT au 313 [.d (i64 n)] h=some (.d (u32 (sK n)),h):=by
 rw [aU br2 ci0];have hw:wrap .i64 (32-n)=32-n:=wrap64 (by omega) (by omega);have hs:=Md (k:=.u64) (k':=.i64) (a:=1) (b:=32-n) (by omega);have e1:(if (0:Int)>n then 0 else n)=n:=if_neg (by omega);have e2:(if (32:Int)<n then 32 else n)=n:=if_neg (by omega);simp [af,TC,hw,hs,e1,e2,sK,IntKind.bits]
def iU (c:Cidr):Bool:=decide (c.bits>=0)&&(decide (c.bits<=32)&&(rT .u32 c.addr (sK c.bits)==0))
theorem av1 (c:Cidr)(h:Hp):Sm E TT au 277 [ag c.c] h=some (bl (iU c),h):=by
 rw [aU bp7 cg5];by_cases c1:c.bits>=0
 . by_cases c2:c.bits<=32
   . simp +decide [af,KC,aB,c1,c2,iU,av9 c.bits c1 c2,DU,ai,aa,az]
   . simp +decide [af,KC,aB,c1,c2,iU,ai,az]
 . simp +decide [af,KC,aB,c1,iU,ai,az]
end
section
theorem D7 (s:ByteArray)(pos:Nat)(h:pos<s.size)(ha:¬ (s[pos]'h).toNat<128):128<=(Utf8.decode s pos).1:=by
 have e:s.get! (pos+0)=s[pos]'h:=by
  show s.get! pos=_;simp [ByteArray.get!,getElem!_pos,h];rfl
 simp only [Utf8.decode,e,ha,if_false]
 repeat' split
 all_goals first | (simp only [Utf8.runeError]; omega) | (rename_i hh; simp only [aE,bw] at hh; dsimp only; omega) | (rename_i hh; simp only [aE,bw] at hh; have:=hh.1; dsimp only; omega) | (dsimp only; omega)
def KF (x:V)(h:Hp):Option (V×Hp):=match x with
 | .d (.str s)=>some (.ptr h.size 0,{ h with bs:=h.bs++[.iter s 0] })
 | _=>none
def vN (x:V)(h:Hp):Option (V×Hp):=match x with
 | .ptr b 0=>match h.bs[b]? with
  | some (.iter s pos) =>
   if pos<s.size then
    let (c,w):=Utf8.decode s pos
    some (.tup [.d (.bool true),.d (.int .i64 pos),.d (.int .i32 c)],⟨h.bs.set b (.iter s (pos+w)),min h.low b⟩)
   else some (.tup [.d (.bool false)],h)
  | _=>none
 | _=>none
section
variable {C:Calls'}{ev:X->V}{h:Hp}
@[simp] theorem UG {x:X}:opE C (.range x) ev h=KF (ev x) h:=(rfl)
@[simp] theorem YB {x:X}:opE C (.next x) ev h=vN (ev x) h:=(rfl)
@[simp] theorem ZB {s:ByteArray}:KF (.d (.str s)) ⟨[],0⟩=some (.ptr 0 0,⟨[.iter s 0],0⟩):=(rfl)
end
theorem G5 {s:ByteArray}{pos:Nat}(h:¬ pos<s.size):vN (.ptr 0 0) ⟨[.iter s pos],0⟩=some (.tup [bl false],⟨[.iter s pos],0⟩):=by simp [vN,h]
theorem Cs {s:ByteArray}{pos:Nat}{b:UInt8}(hb:s.toList[pos]?=some b)(ha:b.toNat<128):vN (.ptr 0 0) ⟨[.iter s pos],0⟩=some (.tup [bl true,.d (i64 pos),.d (.int .i32 b.toNat)],⟨[.iter s (pos+1)],0⟩):=by
 have hl:=fK s;have h:pos<s.size:=by rw [← hl]; exact (bx.1 hb).1
 have he:s[pos]'h=b:=by
  have:=(bx.1 hb).2;simp only [bR] at this;exact this
 have hd:=decode_ascii s pos h (by rw [he]; exact ha);simp [vN,h,hd,he]
theorem GZ {s:ByteArray}{pos:Nat}{b:UInt8}(hb:s.toList[pos]?=some b)(ha:¬ b.toNat<128):∃ (c:Nat) (q:Nat),128<=c/\vN (.ptr 0 0) ⟨[.iter s pos],0⟩=some (.tup [bl true,.d (i64 pos),.d (.int .i32 c)],⟨[.iter s q],0⟩):=by
 have hl:=fK s;have h:pos<s.size:=by rw [← hl]; exact (bx.1 hb).1
 have he:s[pos]'h=b:=by
  have:=(bx.1 hb).2;simp only [bR] at this;exact this
 have hd:=D7 s pos h (by rw [he]; exact ha);exact ⟨(Utf8.decode s pos).1,pos+(Utf8.decode s pos).2,hd,by simp [vN,h]⟩
end
section
end
section
variable {E:Calls'}
def yP (n i c:Nat):Bool:=!((decide ((c:Int)>=97)&&decide ((c:Int)<=122))||((decide ((c:Int)>=48)&&decide ((c:Int)<=57))||(((c:Int)==45)&&!(((i:Int)==0)||((i:Int)+1==n)))))
def kM (n:Nat):Nat->List UInt8->Bool
 | _,[]=>false
 | i,b::l=>yP n i b.toNat||kM n (i+1) l
def bf (s:ByteArray):Bool:=!kM s.size 0 s.toList&&(decide ((s.size:Int)>=1)&&decide ((s.size:Int)<=20))
theorem am3 (s:ByteArray)(i c:Nat)(bs bs':List Blk)(hn:vN (.ptr 0 0) ⟨bs,0⟩=some (.tup [bl true,.d (i64 i),.d (.int .i32 c)],⟨bs',0⟩))(hi:i<s.size)(hs:s.size<2 ^ 62)(W:EA->Hp->fM) :
 dK [0,7] W (Cd E TT au nH [(0,.d (.str s)),(7,.ptr 0 0)] ⟨bs,0⟩)=(if yP s.size i c then some (.ret,[(2,bl false)],⟨bs',0⟩) else W [(0,.d (.str s)),(7,.ptr 0 0)] ⟨bs',0⟩):=by
 have hw:=ax hi hs;have e0:∃ t,((i:Int)==0)=t:=⟨_,rfl⟩;obtain ⟨t0,e0⟩:=e0;have e1:∃ t,((i:Int)+1==s.size)=t:=⟨_,rfl⟩;obtain ⟨t1,e1⟩:=e1;by_cases c1:(c:Int)>=97<;>by_cases c2:(c:Int)<=122<;>by_cases c3:(c:Int)>=48<;>by_cases c4:(c:Int)<=57<;>by_cases c5:(c:Int)=45<;>first
  | (exfalso; omega)
  | (simp only [yP,c1,c2,c3,c4,c5,e0,e1]; cases t0<;>cases t1<;>simp [nH,hn,aB,hw,e0,e1,c1,c2,c3,c4,c5])
theorem Ci {n i c:Nat}(h:128<=c):yP n i c=true:=by
 have h1:¬ ((c:Int)<=122):=by omega
 have h2:¬ ((c:Int)<=57):=by omega
 have h3:¬ ((c:Int)=45):=by omega
 simp [yP,h1,h2,h3]
theorem aj9 (s:ByteArray)(hs:s.size<2 ^ 62):∀ (m i:Nat),i+m=s.size →
 ∃ q,Cd E TT au (.loop [0,7] nH) [(0,.d (.str s)),(7,.ptr 0 0)] ⟨[.iter s i],0⟩ =
  if kM s.size i (s.toList.drop i) then some (.ret,[(2,bl false)],⟨[.iter s q],0⟩) else some (.exit 0,[(0,.d (.str s))],⟨[.iter s q],0⟩):=by
 have hsl:=fK s;intro m;have key:=ay (E:=E) (T:=TT) (val:=au) [0,7] nH;have hk:bT [0,7] [(0,.d (.str s)),(7,.ptr 0 0)]=[(0,.d (.str s)),(7,.ptr 0 0)]:=rfl;have hR:=λi c bs bs' hn hi=>am3 (E:=E) s i c bs bs' hn hi hs;generalize Cd E TT au (.loop [0,7] nH)=W at key ⊢
 induction m with
 | zero =>
  intro i hi;refine ⟨i,?_⟩;rw [key,bb (by omega)];simp [nH,kM,G5 (show ¬ i<s.size by omega)]
 | succ m ih =>
  intro i hi;have h1:i<s.toList.length:=by omega
  have hb:=ac h1;rw [ba h1];obtain ⟨q,hq⟩:=ih (i+1) (by omega);generalize s.toList[i]=b at *;by_cases ha:b.toNat<128
  . refine ⟨if yP s.size i b.toNat then i+1 else q,?_⟩;rw [key,hk,hR i b.toNat _ _ (Cs hb ha) (by omega) W];cases hl:yP s.size i b.toNat with
    | true=>simp [kM,hl]
    | false=>simp [kM,hl,hq]
  . obtain ⟨c,q',hc,hn⟩:=GZ hb ha;refine ⟨q',?_⟩;have hl:yP s.size i b.toNat=true:=Ci (by omega);rw [key,hk,hR i c _ _ hn (by omega) W,Ci hc];simp [kM,hl]
theorem LW (s:ByteArray)(hs:s.size<=big)(h:Hp):Sm E TT au 163 [.d (.str s)] h=some (bl (bf s),h):=by
 rw [aU bk7 cb5];obtain ⟨q,k1⟩:=aj9 (E:=E) s (ce hs (by decide)) s.size 0 (by omega);simp at k1;simp [af,Oa];rw [aj];simp [k1];cases hb:kM s.size 0 s.toList with
 | true=>simp [bf,hb]
 | false=>by_cases c1:(s.size:Int)>=1<;>simp [bf,hb,aB,c1]
theorem ap2 (a b:ByteArray)(ha:a.size<=big)(hb:b.size<=big)(h:Hp):Sm E TT au 156 [ag [.str a,.str b]] h=some (bl (bf a&&bf b),h):=by
 rw [aU bj8 ca9];have h1:=LW (E:=E) a ha;have h2:=LW (E:=E) b hb;cases hl:bf a<;>simp [af,NZ,h1,h2,hl,aB]
end
section
variable {E:Calls'}
def tokN:List Int:=[0,0,0,0,0,0,0,0,0,0,0,0,0,0,0,0,0,0,0,0,0,0,0,0,0,0,0,0,0,0,0,0,0,1,0,1,1,1,1,1,0,0,1,1,0,1,1,0,1,1,1,1,1,1,1,1,1,1,0,0,0,0,0,0,0,0,0,0,0,0,0,0,0,0,0,0,0,0,0,0,0,0,0,0,0,0,0,0,0,0,0,0,0,0,1,1,1,1,1,1,1,1,1,1,1,1,1,1,1,1,1,1,1,1,1,1,1,1,1,1,1,1,1,0,1,0,1,0,0,0,0,0,0,0,0,0,0,0,0,0,0,0,0,0,0,0,0,0,0,0,0,0,0,0,0,0,0,0,0,0,0,0,0,0,0,0,0,0,0,0,0,0,0,0,0,0,0,0,0,0,0,0,0,0,0,0,0,0,0,0,0,0,0,0,0,0,0,0,0,0,0,0,0,0,0,0,0,0,0,0,0,0,0,0,0,0,0,0,0,0,0,0,0,0,0,0,0,0,0,0,0,0,0,0,0,0,0,0,0,0,0,0,0,0,0,0,0,0,0,0,0,0,0,0,0,0]
def tokL:List D:=tokN.map i64
theorem Dm:tokL.length=256:=rfl
theorem ai3 (C:Calls'):aX C 300 q477.code [] ⟨[],0⟩=some (.ret,[(0,.ptr 0 0)],⟨[.cells (tokL.map .d),.iter ⟨#[97,98,99,100,101,102,103,104,105,106,107,108,109,110,111,112,113,114,115,116,117,118,119,120,121,122,48,49,50,51,52,53,54,55,56,57,33,35,36,37,38,39,42,43,45,46,94,95,96,124,126]⟩ 51],0⟩):=by kernel_rfl
theorem aw0 (h:Hp):Sm E TT au 319 [] h=some (ag tokL,h):=by
 rw [aU br7 ci5];have h1:Cd E TT au q477.code (kr 0 []) ⟨[],0⟩=_:=gU (k:=0) (ai3 _);have hr:q477.res=[.cell 0 false 256]:=rfl;have hs:=bN Dm;have h2:Bd E TT au q477 [] ⟨[],0⟩=some (ag tokL,⟨[.cells (tokL.map .d),.iter ⟨#[97,98,99,100,101,102,103,104,105,106,107,108,109,110,111,112,113,114,115,116,117,118,119,120,121,122,48,49,50,51,52,53,54,55,56,57,33,35,36,37,38,39,42,43,45,46,94,95,96,124,126]⟩ 51],0⟩):=by
  show fin q477.res (Cd E TT au q477.code (kr 0 []) ⟨[],0⟩)=_;rw [h1,hr];generalize tokL=L at hs ⊢;simp [hs]
 simp only [List.mapM_nil,Option.pure_def,rG,h2,Ls,Al,Uk];simp
def EY (b:UInt8):Int:=tokN.getD b.toNat 0
def kC:List UInt8->Bool
 | []=>false
 | b::l=>EY b==0||kC l
def iY (s:ByteArray):Bool:=!kC s.toList&&(decide ((s.size:Int)>=1)&&decide ((s.size:Int)<=64))
theorem Uf (b:UInt8):sub tokL b.toNat 1=some [i64 (EY b)]:=by
 have hb:b.toNat<256:=b.toNat_lt;have hl:tokN.length=256:=rfl;have e1:(tokN.drop b.toNat).take 1=[tokN[b.toNat]]:=by rw [ba (by omega)]; rfl
 rw [tokL,O3,eG,if_pos (by omega),e1,EY,bp,ac (by omega)];rfl
theorem ak7 (s:ByteArray)(hs:s.size<2 ^ 62):∀ (m i:Nat),i+m=s.size →
 Cd E TT au (.loop [0,3,4] nO) [(0,.d (.str s)),(3,.ptr 0 0),(4,.d (i64 i))] ⟨[.cells (tokL.map .d)],0⟩ =
  if kC (s.toList.drop i) then some (.ret,[(2,bl false)],⟨[.cells (tokL.map .d)],0⟩) else some (.exit 0,[(0,.d (.str s))],⟨[.cells (tokL.map .d)],0⟩):=by
 have hsl:=fK s;have htok:=Uf;generalize tokL=TL at htok ⊢;intro m;have key:=ay (E:=E) (T:=TT) (val:=au) [0,3,4] nO;generalize Cd E TT au (.loop [0,3,4] nO)=W at key ⊢
 induction m with
 | zero =>
  intro i hi;rw [key,bb (by omega)];simp [nO,kC,show ¬ ((i:Int)<s.size) from by omega]
 | succ m ih =>
  intro i hi;have h1:i<s.toList.length:=by omega
  have hx:=λh=>ic (h:=h) (ac h1);have hw:=ax (show i<s.size by omega) hs;have:=ih (i+1) (by omega);rw [key,ba h1];generalize s.toList[i]=b at *;have h0:((i:Int)<s.size):=by omega
  have hb:b.toNat<256:=b.toNat_lt;have hix:∀ h,eP (some 256) 1 (.ptr 0 0) (.d (.int .u8 b.toNat)) h=some (.ptr 0 b.toNat,h):=λh=>by simp [eP]; omega
  by_cases c1:EY b=0
  . simp [nO,hx,hix,htok,c1,kC,h0]
  . have c2:(EY b==0)=false:=by simpa using c1
    simp [nO,hx,hix,htok,c1,c2,kC,h0,hw];simpa using this
theorem av2 (s:ByteArray)(hs:s.size<=big)(h:Hp):Sm E TT au 285 [.d (.str s)] h=some (bl (iY s),h):=by
 rw [aU bq3 ch1];have k1:=ak7 (E:=E) s (ce hs (by decide)) s.size 0 (by omega);have h477:=aw0 (E:=E);have hl:=Dm;have hln:(tokL.map V.d).length=256:=by simp [hl]
 generalize hTL:tokL=TL at *;simp at k1;simp [af,Tz,h477,hl];rw [aj];simp [k1];cases hb:kC s.toList with
 | true=>simp [iY,hb]
 | false=>by_cases c1:(s.size:Int)>=1<;>simp [iY,hb,aB,c1]
end
