/- Layer 16's functions: Pod, At, WayOf, service. -/
import Derived.Test.YtjeflmaikicdnaaGreatT8
import Derived.KernelRfl
set_option maxRecDepth 100000
set_option linter.unusedVariables false
set_option linter.unusedSimpArgs false
namespace Go.Proofs.YtjeflmaikicdnaaGreat
open IntKind (wrap)
section
variable {E:Calls'}
theorem be8 (p:Pod)(b:Int)(x:Nat)(h:Hp)(hp:au h.bs x=some [.d (u64 b)]):Sm E TT ah 146 [p.v,.ptr x 0] h=some (bl (p.uid==b),h):=by
 rw [av cs6 dj7];simp [aa,Tx,ak hp,V.under]
theorem bh2 (p:Svc)(b:Int)(x:Nat)(h:Hp)(hp:au h.bs x=some [.d (u64 b)]):Sm E TT ah 206 [p.v,.ptr x 0] h=some (bl (p.id==b),h):=by
 rw [av t229 v229];simp [aa,Oy,ak hp,V.under]
theorem be9 (p:Way)(s:Svc)(x:Nat)(h:Hp)(hp:au h.bs x=some (s.c.map .d)):Sm E TT ah 195 [p.v,.ptr x 0] h=some (bl (p.id==s.way),h):=by
 rw [av cs9 dk4];simp [aa,NT,ak hp,V.under,Way.c]
theorem Ap {s:Sl Pod}(hs:short s){x:Nat}{n:Int}{h:Hp}(hp:au h.bs x=some [.d (u64 n)]):Sm E TT ah 145 [.d (s.d Pod.c),.fn 146 [.ptr x 0]] h=some (.d (i64 (lV s.l λp=>p.uid==n)),h) :=
 xZ Pod.c (z:=7) VD VL (RowIs.of (cells:=Pod.c) (λ_=>rfl) _) hs.lt λp _ lo=>be8 p n x _ hp
theorem Aq {s:Sl Svc}(hs:short s){x:Nat}{n:Int}{h:Hp}(hp:au h.bs x=some [.d (u64 n)]):Sm E TT ah 205 [.d (s.d Svc.c),.fn 206 [.ptr x 0]] h=some (.d (i64 (lV s.l λp=>p.id==n)),h) :=
 xZ Svc.c (z:=5) VE P6 (RowIs.of (cells:=Svc.c) (λ_=>rfl) _) hs.lt λp _ lo=>bh2 p n x _ hp
theorem Jb {s:Sl Way}(hs:short s){x:Nat}{n:Svc}{h:Hp}(hp:au h.bs x=some (n.c.map .d)):Sm E TT ah 194 [.d (s.d Way.c),.fn 195 [.ptr x 0]] h=some (.d (i64 (lV s.l λp=>p.id==n.way)),h) :=
 xZ Way.c (z:=2) t109 v109 (RowIs.of (cells:=Way.c) (λ_=>rfl) _) hs.lt λp _ lo=>be9 p n x _ hp
theorem S42 (c:Cfg)(hc:c.ok)(n:Int)(h:Hp):Sm E TT ah 58 [c.v,.d (u64 n)] h=some (.tup (match c.pods.l.find? (λp=>p.uid==n) with | some p=>[p.v,bl true] | none=>[pod0.v,bl false]),h):=by
 rw [aN t42 v42];obtain ⟨h1,h2⟩ | ⟨k,p,h1,h2,h3⟩:=iG c.pods.l (λp=>p.uid==n)
 . simp [aa,q42,Ap hc.1,h1,h2,pod0];first | done | rfl
 . simp [aa,q42,Ap hc.1,h1,h2,bv (z:=7) _ h3 (cells:=Pod.c) rfl];first | done | rfl
theorem Xe (c:Cfg)(hc:c.ok)(n:Int)(h:Hp):Sm E TT ah 118 [c.v,.d (u64 n)] h=some (.tup (match c.services.l.find? (λp=>p.id==n) with | some p=>[p.v,bl true] | none=>[svc0.v,bl false]),h):=by
 rw [aN cs8 dj9];obtain ⟨h1,h2⟩ | ⟨k,p,h1,h2,h3⟩:=iG c.services.l (λp=>p.id==n)
 . simp [aa,K9,Aq hc.2.1,h1,h2,svc0];first | done | rfl
 . simp [aa,K9,Aq hc.2.1,h1,h2,bv (z:=5) _ h3 (cells:=Svc.c) rfl];first | done | rfl
def xK (c:Cfg)(n:Int):Option Way:=match c.services.l.find? (λp=>p.id==n) with
 | none=>none
 | some s=>if s.way==0 then none else c.bound.l.find? λw=>w.id==s.way
theorem S45 (c:Cfg)(hc:c.ok)(n:Int)(h:Hp):Sm E TT ah 91 [c.v,.d (u64 n)] h=some (.tup (match xK c n with | some w=>[w.v,bl true] | none=>[way0.v,bl false]),h):=by
 rw [aN t45 v45];have h108:=Xe (E:=E) c hc n;have h109:=λs h hp=>Jb (E:=E) hc.2.2.1 (x:=2) (n:=s) (h:=h) hp;cases h1:c.services.l.find? (λp=>p.id==n) with
 | none =>
  simp only [h1] at h108;have h109:=h109 svc0;generalize lV c.bound.l _=ix at h109;simp [aa,q45,h108,h109,xK,h1];rfl
 | some s =>
  simp only [h1] at h108;have h109:=h109 s;by_cases hw:s.way=0
  . generalize lV c.bound.l _=ix at h109;simp [aa,q45,h108,h109,xK,h1,hw];rfl
  . obtain ⟨g1,g2⟩ | ⟨k,p,g1,g2,g3⟩:=iG c.bound.l (λw=>w.id==s.way)
    . simp [aa,q45,h108,h109,xK,h1,hw,g1,g2];rfl
    . simp [aa,q45,h108,h109,xK,h1,hw,g1,g2,bv (z:=2) _ g3 (cells:=Way.c) rfl]
def mY (p:Pol)(ns:ByteArray)(service:Int):Bool:=(eqS p.ns ⟨#[]⟩||eqS p.ns ns)&&(p.service==0||p.service==service)
theorem bf0 (p:Pol)(ns:ByteArray)(s:Int)(h:Hp):Sm E TT ah 202 [p.v,.d (.str ns),.d (u64 s)] h=some (bl (mY p ns s),h):=by
 rw [aN ct1 dk6];cases h1:eqS p.ns ⟨#[]⟩<;>cases h2:eqS p.ns ns<;>cases h3:p.service==0<;>cases h4:p.service==s <;>
  simp [aa,Tz,mY,h1,h2,h3,h4]
theorem S52 (p:Pol)(x:Pod)(h:Hp):Sm E TT ah 111 [p.v,x.v] h=some (bl (mY p x.ns x.service),h):=by
 rw [aN t52 v52];simp [aa,q52,bf0]
end
section
section
variable {E:Calls'}{T:FuncId->Option QF}{val:FuncId->Bool}
def G5 (z b:Nat)(zero:List V):QC:=(sr [op 11 (bt .lss 10 9)] (.seq (.cond (.t 11) .skip (.exit 0 [5])) (.seq (.block 1 (sr [op 12 (.idxA none z (.t 8) (.t 10)),op 13 (.load false z (.t 12)),op 7 (.new zero),⟨none,none,.store z (.t 7) (.t 13)⟩] (.reg none [mv 14 5,mv 15 1,op 16 (.load false z (.t 7)),op 17 (kt' 15 [.t 16]),op 18 (.buildS z 1 zero [(0,z,(.t 17))]),op 19 (.app z b (.t 14) (.t 18)),mv 5 19]))) (.reg none [op 20 (bc .add 10 1),mv 10 20]))))
def mapQ (z b:Nat)(zero:List V):QF:=⟨22,[.tmp 4],(sr [op 4 (.mov (.c zs0))] (sr [op 5 (.mov (.c zs0))] (.seq (sr [mv 8 0,op 9 (ln' 8),oc' 10 0] (.block 0 (.loop [1,5,8,9,10] (G5 z b zero)))) (sr [mv 21 5,mv 4 21] (.ret [4])))))⟩
theorem Kt {α:Type}{cells:α->List D}{z by_:Nat}(hz:∀ x,(cells x).length=z)(hz0:0<z)(hby:by_<=4096){zero:List V}(hzero:zero.length=z){s:Sl α}(hs:short s){f:FuncId}{g:α->α}{base:List Blk}
 (hf:∀ e∈s.l,∀ h,Sm E T val f [ag (cells e)] h=some (ag (cells (g e)),h)) :
 ∀ (m i:Nat) (acc:List (List D)) (bs:List Blk) (lo:Nat) (v:V),i+m=s.l.length->acc.length<=i->Acc base z acc bs v →
  ∃ bs' lo' v',Cd E T val (.loop [1,5,8,9,10] (G5 z by_ zero)) [(1,.fn f []),(5,v),(8,.d (s.d cells)),(9,.d (.int .i64 s.l.length)),(10,.d (.int .i64 i))] ⟨bs,lo⟩ =
   some (.exit 0,[(5,v')],⟨bs',lo'⟩)/\Acc base z (acc++((s.l.drop i).map λx=>cells (g x))) bs' v':=by
 intro m;have hlen:=hs.lt;have key:=ax (E:=E) (T:=T) (val:=val) [1,5,8,9,10] (G5 z by_ zero);generalize Cd E T val (.loop [1,5,8,9,10] (G5 z by_ zero))=W at key ⊢
 induction m with
 | zero =>
  intro i acc bs lo v hi hai ha;have h0:s.l.drop i=[]:=bb (by omega);refine ⟨bs,lo,v,?_,by simpa [h0] using ha⟩;rw [key];simp [G5,show ¬ ((i:Int)<s.l.length) from by omega]
 | succ m ih =>
  intro i acc bs lo v hi hai ha;have hlt:i<s.l.length:=by omega
  have hd:s.l.drop i=s.l[i]::s.l.drop (i+1):=ba hlt;have hg:s.l[i]?=some s.l[i]:=ab hlt;have hcall:=hf _ (bj hlt);generalize s.l[i]=x at *;have hx:=λh=>bv (z:=z) h hg (cells:=cells) (hz x);have hput:∀ y:α,put zero 0 ((cells y).map V.d)=some ((cells y).map .d):=by intro y; simp [put,hz,hzero]
  have hsubx:sub (cells x) 0 z=some (cells x):=bQ (hz x);have hw:wrap .i64 ((i:Int)+1)=((i+1:Nat):Int):=by rw [wrap64]<;>omega
  have hnu:=ha.nu;have ha1:=ha.lay [.cells ((cells x).map .d),.cells ((cells (g x)).map .d)];have hbig:acc.length<big:=by have:=hs.1; omega
  obtain ⟨v1,bs1,lo1,k1,k2⟩:=ha1.app hz0 hby (e:=cells (g x)) (hz _) hbig (min lo bs.length) (r:=bs.length+1) (cap:=some 1) (by simp);have hnu1:=k2.nu;obtain ⟨bs',lo',v',q1,q2⟩:=ih (i+1) (acc++[cells (g x)]) bs1 lo1 v1 (by omega) (by simp; omega) k2;refine ⟨bs',lo',v',?_,by simpa [hd] using q2⟩;rw [key];simp [G5,hx,hput,hsubx,hcall,hw,hnu,hz,hz0,az,k1,hnu1,show ((i:Int)<s.l.length) from by omega];simpa using q1
theorem EL {α:Type}{cells:α->List D}{z by_ id:Nat}{zero:List V}(ht:T id=some (mapQ z by_ zero))(hv:val id=true)(hz:∀ x,(cells x).length=z)(hz0:0<z)(hby:by_<=4096)(hzero:zero.length=z){s:Sl α}(hs:short s){f:FuncId}{g:α->α}
 (hf:∀ e∈s.l,∀ h,Sm E T val f [ag (cells e)] h=some (ag (cells (g e)),h)) (h:Hp) :
 Sm E T val id [.d (s.d cells),.fn f []] h=some (.d (Sl.d cells ⟨s.l.isEmpty,s.l.map g⟩),h):=by
 rw [aN ht hv];obtain ⟨bs',lo',v',q1,q2⟩:=Kt (E:=E) (T:=T) (val:=val) hz hz0 hby hzero hs hf s.l.length 0 [] [] 0 _ (by omega) (by simp) (Acc.nil [] z);have hn:=q2.nu;have hfz:=(q2.frz lo').1;have hfr:frz h (.fn f [])=some (.fn f []):=rfl;have hl:mo false (.d (Sl.d cells s)) ⟨[],0⟩=some (.d (i64 s.l.length),⟨[],0⟩):=by simp [Sl.d]
 have hfm:(s.l.map λx=>cells (g x)).isEmpty=s.l.isEmpty:=by cases s.l<;>rfl
 simp at q1;simp [aa,mapQ,hfr,hl];rw [aj];simp [q1,hn];simp only [List.nil_append,List.drop_zero] at hfz;rw [hfz];simp [hfm,Sl.d,dK]
end
end
section
variable {E:Calls'}
def og:List V:=[(.d (.int .u64 0)),(.d (.str ⟨#[]⟩)),(.d (.str ⟨#[]⟩)),(.d (.int .i64 0)),(.d (.int .u32 0)),(.d (.int .i64 0)),(.d (.int .u64 0))]
end
section
theorem df (a:ByteArray):a.toList=a.data.toList:=by
 simp [ByteArray.toList_eq]
theorem eqS_iff {a b:ByteArray}:eqS a b=true↔a=b:=by
 simp only [eqS,beq_iff_eq,df];constructor
 . intro h;cases a; cases b;simp at h;rw [h]
 . rintro rfl; rfl
@[simp] theorem XQ (a:ByteArray):eqS a a=true:=eqS_iff.2 rfl
def Pod.eqB (x y:Pod):Bool:=x.uid==y.uid&&(eqS x.ns y.ns&&(eqS x.sa y.sa&&(x.host==y.host&&(x.addr==y.addr&&(x.port==y.port&&(x.service==y.service&&true))))))
def Svc.eqB (x y:Svc):Bool:=x.id==y.id&&(eqS x.ns y.ns&&(x.addr==y.addr&&(x.port==y.port&&(x.way==y.way&&true))))
def Way.eqB (x y:Way):Bool:=x.id==y.id&&(x.node==y.node&&true)
def Term.eqB (x y:Term):Bool:=x.kind==y.kind&&(eqS x.text y.text&&true)
def Cidr.eqB (x y:Cidr):Bool:=x.addr==y.addr&&(x.bits==y.bits&&true)
theorem Pod.eqB_iff {x y:Pod}:x.eqB y=true↔x=y:=by
 cases x; cases y; simp [Pod.eqB,eqS_iff]
theorem Svc.eqB_iff {x y:Svc}:x.eqB y=true↔x=y:=by
 cases x; cases y; simp [Svc.eqB,eqS_iff]
theorem Way.eqB_iff {x y:Way}:x.eqB y=true↔x=y:=by
 cases x; cases y; simp [Way.eqB]
theorem Term.eqB_iff {x y:Term}:x.eqB y=true↔x=y:=by
 cases x; cases y; simp [Term.eqB,eqS_iff]
theorem Cidr.eqB_iff {x y:Cidr}:x.eqB y=true↔x=y:=by
 cases x; cases y; simp [Cidr.eqB]
section
variable {h:Hp}{n:Bool}
@[simp] theorem Nu {x y:Pod}:eqv (.agg [(.i .u64),.s,.s,(.i .i64),(.i .u32),(.i .i64),(.i .u64)]) n (ag x.c) (ag y.c) h=some (.d (.bool (x.eqB y != n)),h):=by
 simp [eqv,iK,ag,Pod.c,bJ,oz,Pod.eqB,eqS]
@[simp] theorem Nv {x y:Svc}:eqv (.agg [(.i .u64),.s,(.i .u32),(.i .i64),(.i .u64)]) n (ag x.c) (ag y.c) h=some (.d (.bool (x.eqB y != n)),h):=by
 simp [eqv,iK,ag,Svc.c,bJ,oz,Svc.eqB,eqS]
@[simp] theorem Nw {x y:Way}:eqv (.agg [(.i .u64),(.i .i64)]) n (ag x.c) (ag y.c) h=some (.d (.bool (x.eqB y != n)),h):=by
 simp [eqv,iK,ag,Way.c,bJ,oz,Way.eqB]
@[simp] theorem J3 {x y:Term}:eqv (.agg [(.i .i64),.s]) n (ag x.c) (ag y.c) h=some (.d (.bool (x.eqB y != n)),h):=by
 simp [eqv,iK,ag,Term.c,bJ,oz,Term.eqB,eqS]
@[simp] theorem J2 {x y:Cidr}:eqv (.agg [(.i .u32),(.i .i64)]) n (ag x.c) (ag y.c) h=some (.d (.bool (x.eqB y != n)),h):=by
 simp [eqv,iK,ag,Cidr.c,bJ,oz,Cidr.eqB]
end
def all2 {α β:Type}(f:α->β->Bool):List α->List β->Bool
 | [],[]=>true
 | x::l,y::m=>f x y&&all2 f l m
 | _,_=>false
theorem Ay {α β:Type}{f:α->β->Bool}:∀ {l:List α} {m:List β},all2 f l m=true->l.length=m.length
 | [],[],_=>rfl
 | x::l,y::m,h=>by simp [all2] at h; simp [Ay h.2]
 | [],y::m,h=>by simp [all2] at h
 | x::l,[],h=>by simp [all2] at h
theorem zf {α β:Type}{f:α->β->Bool}{l:List α}{m:List β}(h:l.length≠m.length):all2 f l m=false:=by
 cases hx:all2 f l m with
 | false=>rfl
 | true=>exact absurd (Ay hx) h
theorem eQ {α:Type}{f:α->α->Bool}(hf:∀ x,f x x=true):∀ l:List α,all2 f l l=true
 | []=>rfl
 | x::l=>by simp [all2,hf,eQ hf l]
theorem Az {α β γ:Type}{f:α->β->Bool}(g:γ->α):∀ (l:List γ) (m:List β),all2 f (l.map g) m=all2 (λx y=>f (g x) y) l m
 | [],[]=>rfl
 | x::l,y::m=>by simp [all2,Az g l m]
 | [],y::m=>rfl
 | x::l,[]=>rfl
theorem tC {α β:Type}{f:α->β->Bool}{l:List α}{m:List β}{i:Nat}(h1:i<l.length)(h2:i<m.length):all2 f (l.drop i) (m.drop i)=(f l[i] m[i]&&all2 f (l.drop (i+1)) (m.drop (i+1))):=by
 rw [ba h1,ba h2]; rfl
def Source.same (a b:Source):Bool:=all2 Term.eqB a.names.l b.names.l&&(all2 Term.eqB a.spaces.l b.spaces.l&&all2 Cidr.eqB a.nets.l b.nets.l)
def Target.same (a b:Target):Bool:=all2 Term.eqB a.methods.l b.methods.l&&(all2 Term.eqB a.paths.l b.paths.l&&(all2 Term.eqB a.hosts.l b.hosts.l&&all2 (λx y:Int=>x==y) a.ports.l b.ports.l))
def When.same (a b:When):Bool:=eqS a.head b.head&&all2 Term.eqB a.terms.l b.terms.l
def Rule.same (a b:Rule):Bool:=all2 Source.same a.frm.l b.frm.l&&(all2 Target.same a.to.l b.to.l&&all2 When.same a.whn.l b.whn.l)
def Pol.same (a b:Pol):Bool:=a.id==b.id&&(eqS a.ns b.ns&&(a.service==b.service&&(a.deny==b.deny&&all2 Rule.same a.rules.l b.rules.l)))
theorem qY (l:List Term):all2 Term.eqB l l=true:=eQ (λ_=>Term.eqB_iff.2 rfl) l
theorem Source.same_refl (a:Source):a.same a=true:=by simp [Source.same,qY,eQ (λ_=>Cidr.eqB_iff.2 rfl)]
theorem Target.same_refl (a:Target):a.same a=true:=by simp [Target.same,qY,eQ]
theorem When.same_refl (a:When):a.same a=true:=by simp [When.same,qY]
theorem Rule.same_refl (a:Rule):a.same a=true:=by simp [Rule.same,eQ Source.same_refl,eQ Target.same_refl,eQ When.same_refl]
theorem Pol.same_refl (a:Pol):a.same a=true:=by simp [Pol.same,eQ Rule.same_refl]
end
section
variable {E:Calls'}
theorem Gw {s:Sl Term}(hs:short s)(h:Hp):Sm E TT ah 291 [.d (s.d Term.c)] h=some (.d (s.d Term.c),h) :=
 ek (z:=2) (b:=24) (zero:=[(.d (.int .i64 0)),(.d (.str ⟨#[]⟩))]) cz8 dr0 (by decide) (by decide) (λ_=>rfl) hs h
theorem bl1 {s:Sl Cidr}(hs:short s)(h:Hp):Sm E TT ah 292 [.d (s.d Cidr.c)] h=some (.d (s.d Cidr.c),h) :=
 ek (z:=2) (b:=16) (zero:=[(.d (.int .u32 0)),(.d (.int .i64 0))]) cz9 dr1 (by decide) (by decide) (λ_=>rfl) hs h
theorem bl2 {s:Sl Int}(hs:short s)(h:Hp):Sm E TT ah 293 [.d (s.d om)] h=some (.d (s.d om),h) :=
 ek (z:=1) (b:=8) (zero:=[(.d (.int .i64 0))]) da0 dr2 (by decide) (by decide) (λ_=>rfl) hs h
theorem bj0 (s:Source)(hs:s.fits big)(h:Hp):Sm E TT ah 219 [ag s.c] h=some (ag s.c,h):=by
 rw [aN cy2 dp5];simp +decide [aa,Uz,aA,ae,Gw hs.1,Gw hs.2.1,bl1 hs.2.2];rfl
theorem bj2 (s:Target)(hs:s.fits big)(h:Hp):Sm E TT ah 221 [ag s.c] h=some (ag s.c,h):=by
 rw [aN cy4 dp7];simp +decide [aa,UA,aA,ae,bl2 hs.1,Gw hs.2.1,Gw hs.2.2.1,Gw hs.2.2.2];rfl
@[simp] theorem When.p1 {x:When}{v:V}:put (x.c.map V.d) 1 [v]=some [.d (.str x.head),v]:=rfl
@[simp] theorem Pol.p4 {x:Pol}{v:V}:put (x.c.map V.d) 4 [v]=some [.d (u64 x.id),.d (.str x.ns),.d (u64 x.service),.d (i64 x.deny),v]:=rfl
theorem bj4 (s:When)(hs:s.fits big)(h:Hp):Sm E TT ah 223 [ag s.c] h=some (ag s.c,h):=by
 rw [aN cy6 dp9];simp [aa,UB,Gw hs];rfl
def sl0 (n:Nat):List V:=List.replicate n (.d (.slice true []))
theorem bi9 {s:Sl Source}(hs:short s)(hf:∀ x∈s.l,x.fits big)(h:Hp):Sm E TT ah 218 [.d (s.d Source.c),.fn 219 []] h=some (.d (Sl.d Source.c ⟨s.l.isEmpty,s.l⟩),h):=by
 have:=EL (E:=E) (T:=TT) (val:=ah) (cells:=Source.c) (z:=3) (by_:=72) (zero:=sl0 3) cy1 dp4 (λ_=>rfl) (by decide) (by decide) rfl hs (f:=219) (g:=id) (λe he h=>bj0 e (hf e he) h) h;simpa using this
theorem bj1 {s:Sl Target}(hs:short s)(hf:∀ x∈s.l,x.fits big)(h:Hp):Sm E TT ah 220 [.d (s.d Target.c),.fn 221 []] h=some (.d (Sl.d Target.c ⟨s.l.isEmpty,s.l⟩),h):=by
 have:=EL (E:=E) (T:=TT) (val:=ah) (cells:=Target.c) (z:=4) (by_:=96) (zero:=sl0 4) cy3 dp6 (λ_=>rfl) (by decide) (by decide) rfl hs (f:=221) (g:=id) (λe he h=>bj2 e (hf e he) h) h;simpa using this
theorem bj3 {s:Sl When}(hs:short s)(hf:∀ x∈s.l,x.fits big)(h:Hp):Sm E TT ah 222 [.d (s.d When.c),.fn 223 []] h=some (.d (Sl.d When.c ⟨s.l.isEmpty,s.l⟩),h):=by
 have:=EL (E:=E) (T:=TT) (val:=ah) (cells:=When.c) (z:=2) (by_:=40) (zero:=[(.d (.str ⟨#[]⟩)),(.d (.slice true []))]) cy5 dp8 (λ_=>rfl) (by decide) (by decide) rfl hs (f:=223) (g:=id) (λe he h=>bj4 e (hf e he) h) h;simpa using this
def Rule.own (r:Rule):Rule:=⟨⟨r.frm.l.isEmpty,r.frm.l⟩,⟨r.to.l.isEmpty,r.to.l⟩,⟨r.whn.l.isEmpty,r.whn.l⟩⟩
def Pol.own (p:Pol):Pol:={ p with rules:=⟨p.rules.l.isEmpty,p.rules.l.map Rule.own⟩ }
theorem bh4 (r:Rule)(hr:r.fits big)(h:Hp):Sm E TT ah 141 [ag r.c] h=some (ag r.own.c,h):=by
 rw [aN cv1 dm7];simp +decide [aa,Ug,aA,ae,bi9 hr.1.1 hr.1.2,bj1 hr.2.1.1 hr.2.1.2,bj3 hr.2.2.1 hr.2.2.2];rfl
theorem bh3 {s:Sl Rule}(hs:short s)(hf:∀ x∈s.l,x.fits big)(h:Hp):Sm E TT ah 140 [.d (s.d Rule.c),.fn 141 []] h=some (.d (Sl.d Rule.c ⟨s.l.isEmpty,s.l.map Rule.own⟩),h) :=
 EL (E:=E) (T:=TT) (val:=ah) (cells:=Rule.c) (z:=3) (by_:=72) (zero:=sl0 3) cv0 dm6 (λ_=>rfl) (by decide) (by decide) rfl hs (f:=141) (g:=Rule.own) (λe he h=>bh4 e (hf e he) h) h
theorem Q7 (p:Pol)(hp:p.fits big)(h:Hp):Sm E TT ah 54 [ag p.c] h=some (ag p.own.c,h):=by
 rw [aN ct0 dk5];simp [aa,Ty,bh3 hp.1 hp.2];rfl
end
section
variable {E:Calls'}
theorem aI {i n:Nat}(h:i<n)(hn:n<2 ^ 62):wrap .i64 ((i:Int)+1)=((i+1:Nat):Int):=by rw [wrap64]<;>omega
end
section
theorem mi {bs:List Blk}{x:Nat}{cs cs0:List V}(h:au bs x=some cs0):au (bs.set x (.cells cs)) x=some cs:=by simp [au,aK h]
section
variable {E:Calls'}{T:FuncId->Option QF}{val:FuncId->Bool}
def Gy {α:Type}(q:Nat->α->Bool):Nat->List α->Bool
 | _,[]=>true
 | i,x::l=>q i x&&Gy q (i+1) l
theorem AB {α:Type}(q:α->Bool):∀ (l:List α) (i:Nat),Gy (λ_ x=>q x) i l=l.all q
 | [],_=>rfl
 | x::l,i=>by simp [Gy,AB q l]
theorem GZ {keep:List Nat}{body:QC}{α:Type}(l:List α)(q:Nat->α->Bool)(env:Nat->EA)(h:Hp)(R X:Ex×EA×Hp)
 (hr:∀ i x,l[i]?=some x->i<l.length->∀ W:EA->Hp->jf,iw keep W (Cd E T val body (aT keep (env i)) h)=cond (q i x) (W (env (i+1)) h) (some R))
 (he:∀ W:EA->Hp->jf,iw keep W (Cd E T val body (aT keep (env l.length)) h)=some X) :
 Cd E T val (.loop keep body) (env 0) h=some (cond (Gy q 0 l) X R):=by
 have:∀ (m i:Nat),i+m=l.length->Cd E T val (.loop keep body) (env i) h=some (cond (Gy q i (l.drop i)) X R):=by
  intro m;have key:=ax (E:=E) (T:=T) (val:=val) keep body;generalize Cd E T val (.loop keep body)=W at key ⊢
  induction m with
  | zero =>
   intro i hi;rw [key,show i=l.length by omega,he W,List.drop_length];rfl
  | succ m ih =>
   intro i hi;have hlt:i<l.length:=by omega
   rw [key,hr i _ (ab hlt) hlt W,ih (i+1) (by omega),ba hlt,Gy];cases q i l[i]<;>simp
 simpa using this l.length 0 (by omega)
theorem Kr {keep:List Nat}{body:QC}{α:Type}(l:List α)(q:α->Bool)(env:Nat->EA)(h:Hp)(R X:Ex×EA×Hp)
 (hr:∀ i x,l[i]?=some x->i<l.length->∀ W:EA->Hp->jf,iw keep W (Cd E T val body (aT keep (env i)) h)=cond (q x) (W (env (i+1)) h) (some R))
 (he:∀ W:EA->Hp->jf,iw keep W (Cd E T val body (aT keep (env l.length)) h)=some X) :
 Cd E T val (.loop keep body) (env 0) h=some (cond (l.all q) X R):=by
 rw [GZ l (λ_=>q) env h R X hr he,AB]
end
end
section
structure Chg (o:Nat->Nat) (k:Nat) (bs:List Blk) (o':Nat->Nat) (bs':List Blk):Prop where
 len:bs.length<=bs'.length
 on:∀ b,b<bs.length->o b≠k->bs'[b]?=bs[b]?/\o' b=o b
def CAt (o:Nat->Nat)(k:Nat)(bs:List Blk)(b:Nat)(cs:List V):Prop:=o b=k/\au bs b=some cs
def RAt (o:Nat->Nat)(k:Nat)(bs:List Blk)(z:Nat)(es:List (List D))(v:V):Prop :=
 (∀ e∈es,e.length=z)/\((es=[]/\v=.d (.slice true []))\/∃ b cap,CAt o k bs b (flat es)/\v=.row b 0 es.length cap z/\(cap=none/\es≠[]\/cap=some es.length))
section
variable {o o' p:Nat->Nat}{j k:Nat}{bs bs' cs:List Blk}
theorem Chg.rfl':Chg o k bs o bs:=⟨br _,λb _ _=>⟨rfl,rfl⟩⟩
theorem Chg.trans (h:Chg o k bs o' bs')(g:Chg o' k bs' p cs):Chg o k bs p cs :=
 ⟨ch h.len g.len,λb hb hk=>by
  obtain ⟨h1,h2⟩:=h.on b hb hk;obtain ⟨g1,g2⟩:=g.on b (cf hb h.len) (by rw [h2]; exact hk);exact ⟨g1.trans h1,g2.trans h2⟩⟩
theorem Chg.lay (o:Nat->Nat)(j k:Nat)(bs ys:List Blk):Chg o k bs (λb=>if b<bs.length then o b else j) (bs++ys) :=
 ⟨by simp,λb hb _=>⟨am hb,if_pos hb⟩⟩
theorem Chg.set {b:Nat}(h:o b=k)(X:Blk):Chg o k bs o (bs.set b X) :=
 ⟨by simp,λc hc hk=>⟨ac (λhbc=>hk (by rw [← hbc]; exact h)),rfl⟩⟩
theorem CAt.chg {b:Nat}{vs:List V}(h:CAt o k bs b vs)(c:Chg o j bs o' bs')(hk:k≠j):CAt o' k bs' b vs:=by
 obtain ⟨c1,c2⟩:=c.on b (aK h.2) (by rw [h.1]; exact hk);refine ⟨c2.trans h.1,?_⟩;rw [← h.2]; unfold au; rw [c1]
theorem RAt.chg {z:Nat}{es:List (List D)}{v:V}(h:RAt o k bs z es v)(c:Chg o j bs o' bs')(hk:k≠j):RAt o' k bs' z es v:=by
 refine ⟨h.1,?_⟩;obtain h | ⟨b,cap,h1,h2⟩:=h.2
 . exact .inl h
 . exact .inr ⟨b,cap,h1.chg c hk,h2⟩
theorem RAt.cl {z:Nat}{es:List (List D)}{v:V}(h:RAt o k bs z es v):v.cells=some [v]:=by
 obtain ⟨_,rfl⟩ | ⟨b,cap,_,rfl,_⟩:=h.2<;>rfl
theorem RAt.nu {z:Nat}{es:List (List D)}{v:V}(h:RAt o k bs z es v):nu v=some v:=by
 obtain ⟨_,rfl⟩ | ⟨b,cap,_,rfl,_⟩:=h.2<;>rfl
theorem RAt.ok {z:Nat}{es:List (List D)}{v:V}(h:RAt o k bs z es v):okV v=true:=by
 obtain ⟨_,rfl⟩ | ⟨b,cap,_,rfl,_⟩:=h.2<;>rfl
theorem RAt.len {z:Nat}{es:List (List D)}{v:V}(h:RAt o k bs z es v)(hp:Hp):mo false v hp=some (.d (i64 es.length),hp):=by
 obtain ⟨rfl,rfl⟩ | ⟨b,cap,_,rfl,_⟩:=h.2<;>simp [mo,V.len]
theorem IM {α:Type}{a b:List α}{o k:Nat}(h:o+k<=a.length):sub (a++b) o k=sub a o k:=by
 rw [eH,eH,if_pos (by simp; omega),if_pos h,List.drop_append_of_le_length (by omega),List.take_append_of_le_length (by simp; omega)]
theorem El {α:Type}{a b:List α}{o k:Nat}:sub (a++b) (a.length+o) k=sub b o k:=by
 rw [eH,eH,aq,List.drop_append];by_cases h:o+k<=b.length
 . rw [if_pos (by omega),if_pos h,bb (show a.length<=a.length+o by omega)];simp
 . rw [if_neg (by omega),if_neg h]
theorem Fg {z:Nat}:∀ {es:List (List D)} {i:Nat} {e:List D},(∀ e∈es,e.length=z)->es[i]?=some e->sub (flat es) (i * z) z=some (e.map V.d)
 | x::es,0,e,hz,hi=>by
  simp at hi;subst hi;have hx:=hz x (by simp);rw [ku,Nat.zero_mul,IM (by simp [hx])];exact bQ (by simp [hx])
 | x::es,i+1,e,hz,hi=>by
  have hx:=hz x (by simp);have:(i+1) * z=(x.map V.d).length+i * z:=by simp [hx,Nat.succ_mul]; omega
  rw [ku,this,El];exact Fg (λe he=>hz e (by simp [he])) (by simpa using hi)
theorem RAt.at {z:Nat}{es:List (List D)}{v:V}(h:RAt o k bs z es v){i:Nat}{e:List D}(hi:es[i]?=some e) :
 ∃ b,(∀ hp,iL none z v (.d (.int .i64 i)) hp=some (.ptr b (i * z),hp))/\au bs b=some (flat es)/\sub (flat es) (i * z) z=some (e.map V.d)/\o b=k:=by
 have hlt:=(bx.1 hi).1;obtain ⟨rfl,rfl⟩ | ⟨b,cap,h1,rfl,_⟩:=h.2
 . simp at hlt
 . refine ⟨b,λhp=>?_,h1.2,Fg h.1 hi,h1.1⟩;simp only [iL];rw [if_pos ⟨by omega,by omega,trivial⟩];simp
theorem mq {α β:Type}(f:α->β):∀ (l:List α) (i:Nat),(l.map f).eraseIdx i=(l.eraseIdx i).map f
 | [],i=>by simp
 | x::l,0=>by simp
 | x::l,i+1=>by simp [mq f l i]
theorem xx (k:Nat){n:Nat}(hn:0<n):bR .rem (.d (i64 k)) (.d (i64 n))=some (i64 ((k % n:Nat):Int)):=by
 have h0:¬ (n:Int)=0:=by omega
 show eZ .rem .i64 k n=_;simp only [eZ,if_neg h0];rfl
theorem RAt.nil (o:Nat->Nat)(k:Nat)(bs:List Blk)(z:Nat):RAt o k bs z [] (.d (.slice true [])):=⟨(λe he=>by cases he),.inl ⟨rfl,rfl⟩⟩
theorem RAt.app {z:Nat}{es fs:List (List D)}{v w:V}{by_:Nat}(h:RAt o k bs z es v)(hz0:0<z)(hby:by_<=4096)(hl:es.length+fs.length<=big)(hw:∀ f∈fs,f.length=z)(hr:∀ lo,aB ⟨bs,lo⟩ w z=some (fs.length,flat fs)) :
 ∃ v' bs' o',∃ F:Nat->Nat,(∀ lo,dP ⟨bs,lo⟩ z by_ v w=some (v',⟨bs',F lo⟩))/\RAt o' k bs' z (es++fs) v'/\Chg o k bs o' bs':=by
 have hzz:z≠0:=by omega
 have hwid:∀ e∈es++fs,e.length=z:=λe he=>by
  obtain h' | h':=List.mem_append.1 he
  . exact h.1 e h'
  . exact hw e h'
 have hroom:∀ n,n<=big->roomy n by_=true:=λn hn=>by simp only [roomy,aw,bw]; exact ⟨hn,hby⟩
 have fl:∀ a b:List (List D),flat (a++b)=flat a++flat b:=λa b=>by simp [flat]
 by_cases h0:fs=[]
 . subst h0;refine ⟨v,bs,o,id,λlo=>?_,by simpa using h,.rfl'⟩;obtain ⟨rfl,rfl⟩ | ⟨b,cap,h1,rfl,h3⟩:=h.2
   . simp only [dP,hr,aD,ck,if_true]; rfl
   . simp [dP,hr,aD,hzz]
 have hm:¬ fs.length=0:=λhh=>h0 (List.eq_nil_of_length_eq_zero hh);have tag:Chg o k bs (λx=>if x=bs.length then k else o x) (bs++[.cells (flat fs)]):=⟨by simp,λb hb _=>⟨am hb,if_neg (by omega)⟩⟩;obtain ⟨rfl,rfl⟩ | ⟨b,cap,h1,rfl,h3⟩:=h.2
 . refine ⟨.row bs.length 0 fs.length none z,bs++[.cells (flat fs)],λx=>if x=bs.length then k else o x,id,λlo=>?_,⟨hwid,.inr ⟨bs.length,none,⟨if_pos rfl,by simp [dh]⟩,by simp,.inl ⟨rfl,by simpa using h0⟩⟩⟩,tag⟩;simp only [dP,hr,aD,if_neg hm,if_neg hzz,hroom _ (show fs.length<=big by simpa using hl),if_true]; rfl
 . have hbl:=aK h1.2;have hsz:(flat es).length=es.length * z:=iU h.1;have hsub:sub (flat es) 0 (es.length * z)=some (flat es):=bQ hsz;obtain ⟨rfl,h3⟩ | rfl:=h3
   . have hpos:0<(flat es).length:=by rw [hsz]; exact Nat.mul_pos (Nat.pos_of_ne_zero λhh=>h3 (List.eq_nil_of_length_eq_zero hh)) hz0
     refine ⟨.row bs.length 0 (es.length+fs.length) none z,bs.set b (.cells [])++[.cells (flat es++flat fs)],λx=>if x=bs.length then k else o x,λlo=>min lo b,λlo=>?_,⟨hwid,.inr ⟨bs.length,none,⟨if_pos rfl,?_⟩,by simp,.inl ⟨rfl,by simp [h3]⟩⟩⟩,⟨by simp,λc hc hk=>⟨?_,if_neg (by omega)⟩⟩⟩
     . simp only [dP,hr,aD,ne_eq,not_true_eq_false,false_or,if_neg hm,if_neg hzz,get_eq,h1.2,hsub,hroom _ hl,Bool.not_true,bo,if_false,hpos,and_self,if_true,Hp.size,Hp.alloc,Hp.set,List.length_set]
     . have:au (bs.set b (.cells [])++[.cells (flat es++flat fs)]) (bs.set b (.cells [])).length=some (flat es++flat fs):=by rw [dh]; rfl
       rw [List.length_set] at this;rw [fl]; exact this
     . rw [am (by simpa using hc),ac (λhbc=>hk (by rw [← hbc]; exact h1.1))]
   . have hn:¬ es.length+fs.length<=es.length:=by omega
     refine ⟨.row bs.length 0 (es.length+fs.length) none z,bs++[.cells (flat es++flat fs)],λx=>if x=bs.length then k else o x,id,λlo=>?_,⟨hwid,.inr ⟨bs.length,none,⟨if_pos rfl,by simp [dh,fl]⟩,by simp,.inl ⟨rfl,by simp [h0]⟩⟩⟩,⟨by simp,λb hb _=>⟨am hb,if_neg (by omega)⟩⟩⟩;simp only [dP,hr,aD,ne_eq,not_true_eq_false,false_or,if_neg hm,if_neg hzz,get_eq,h1.2,hsub,hroom _ hl,Bool.not_true,bo,if_false,if_neg hn,Hp.size,Hp.alloc];rfl
end
end
section
def qW:QC:=(⟨_,by cbv⟩:C0 0x2e0dc23c00001e05f8d207d0f7d23206144006212113150971131c1687112775c1c3671125713347122c0b3707d027fc017101150971131c1687112775c53671125712347122c0b3707d027fc017101150971131c1687112775c23671125711347122c0b3707d027fc017101150000ae71164c5000ae7112000ae712397122c0b8707d077fc0671125713347122c0b3707d027fc017101121c161b0111211031122c0b107d01fc0f9d216d214617c5c3c2c1c0cba973211c35013131c5110a1fc0107d014211f3d).1
def xu:QC:=(⟨_,by cbv⟩:C0 0x106144006212113401971105c8412336c2c04749c0648c0541614413334106d247c01410111211931106d17c012c2106144006212113150871121c57701d067112571034713337106d277c017101150471001ee013c53710a27bc0171013c013c5110a1fc015c211101c212e4d2c4c1fc01bc01421002be).1
def xw:QC:=(.reg none [mv 57 15,op 58 (bc .add 57 1),mv 15 58])
def dL:QC:=(.seq (sr [mv 53 15,mv 54 2,op 55 (ln' 54),op 56 (bt .lss 53 55)] (.cond (.t 56) .skip (.exit 0 []))) (.seq (.block 1 (sr [mv 59 2,mv 60 15,op 61 (ia 24 59 60),op 62 (lf' 24 61),⟨none,some 16,.new [zi,zi,zi,zu,zu,(.d (.str ⟨#[]⟩)),(.d (.str ⟨#[]⟩)),zi,zw,zi,zu,zu,(.d (.str ⟨#[]⟩)),zw,zi,zu,zu,zi,zu,(.d (.str ⟨#[]⟩)),zu,zi,zs0,zs0]⟩,so' 24 16 62] (.seq (sr [op 63 (fa 16 2),op 64 (lf' 21 63),op 65 (kc' 8 [.t 64]),mv 66 65,ow 66 67 (fa 16 23),ow 66 68 (l1' 67),ow 66 69 (ln' 68),ow 66 70 (bc .gtr 69 100),op 71 (.pick (.t 66) (.c (.d (.bool true))) (.t 70))] (.cond (.t 71) (sr [op 72 (kc' 7 []),mv 6 72] (.ret [6])) .skip)) (sr [op 17 (.mov (.c zs0))] (sr [op 73 (fa 16 1),op 74 (l1' 73),op 75 (bc .and 74 65535),mv 18 75] (sr [mv 76 9,op 77 (.nilchk (.t 76)),op 78 (fa 77 3),op 79 (fa 78 0),op 80 (l1' 79),mv 19 80] (.seq (.block 2 (sr [op 82 (fa 16 0),op 83 (l1' 82),op 84 (.eq (.sc (.i .i64)) false (.t 83) (ci 0)),mv 81 84] (.cond (.t 81) (sr [op 86 (lf' 8 3),op 87 (fa 16 2),op 88 (lf' 21 87),op 89 (kc' 9 [.t 86,.t 88]),mv 85 89,op 90 (.ext (.t 85) 0),op 91 (.ext (.t 85) 1),nw 20 [zu,zu,zi,zi,zs0,zs0,zs0,zs0],so' 8 20 90,mv 21 91] (sr [mv 92 21,op 93 (.eq (.sc (.i .i64)) false (.t 92) (ci 0))] (.cond (.t 93) (sr [op 94 (lf' 8 20),so' 8 3 94] (sr [mv 95 10,op 96 (lf' 8 3),op 97 (.buildS 8 1 [zu,zu,zi,zi,zs0,zs0,zs0,zs0] [(0,8,(.t 96))]),op 98 (.app 8 128 (.t 95) (.t 97)),mv 10 98] (.reg none [op 100 (lf' 22 7),op 101 (lf' 8 3),mv 102 12,op 103 (kc' 10 [.t 100,.t 101,.t 102]),mv 99 103,op 104 (.ext (.t 99) 0),op 105 (.ext (.t 99) 1),so' 22 7 104,mv 17 105]))) .skip))) (sr [op 107 (fa 16 0),op 108 (l1' 107),op 109 (.eq (.sc (.i .i64)) false (.t 108) (ci 1)),mv 106 109] (.cond (.t 106) (.seq (.reg (some [[],[0],[1,0],[2,1,0],[],[4],[5,4],[6,5,4],[7,6,5,4],[],[9],[3,2,1,0,8,7,6,5,4,10,9],[],[11,3,2,1,0,8,7,6,5,4,10,9,12]]) [mv 110 9,op 111 (.nilchk (.t 110)),op 112 (fa 111 0),op 113 (l1' 112),mv 114 9,op 115 (.nilchk (.t 114)),op 116 (fa 115 1),op 117 (l1' 116),op 118 (.bin .add (.t 117) (.c (.d (.int .u64 1)))),op 119 (fa 16 23),op 120 (l1' 119),op 121 (.build [zu,zu,zs0] [(0,1,(.t 113)),(1,1,(.t 118)),(2,1,(.t 120))]),nw 22 [zu,zu,zs0],so' 3 22 121]) (sr [op 122 (lf' 3 22),op 123 (kc' 11 [.t 122])] (.cond (.t 123) (sr [mv 124 9,op 125 (.nilchk (.t 124)),op 126 (fa 125 1),op 127 (l1' 126),op 128 (.bin .add (.t 127) (.c (.d (.int .u64 1)))),op 129 (.nilchk (.t 124)),op 130 (fa 129 1),so' 1 130 128] (sr [mv 131 11,op 132 (fa 16 23),op 133 (l1' 132),op 134 (.buildS 1 1 [zs0] [(0,1,(.t 133))]),op 135 (.app 1 24 (.t 131) (.t 134)),mv 11 135] (.reg none [op 137 (lf' 22 7),op 138 (lf' 8 3),mv 139 12,op 140 (lf' 3 22),op 141 (kc' 12 [.t 137,.t 138,.t 139,.t 140]),mv 136 141,op 142 (.ext (.t 136) 0),op 143 (.ext (.t 136) 1),so' 22 7 142,mv 17 143]))) .skip))) (sr [op 145 (fa 16 0),op 146 (l1' 145),op 147 (.eq (.sc (.i .i64)) false (.t 146) (ci 2)),mv 148 147,ot 148 149 (.mov (.t 13)),ot 148 150 (ln' 149),ot 148 151 (bc .gtr 150 0),op 152 (.pick (.t 148) (.t 151) (.c zb)),mv 144 152] (.cond (.t 144) (sr [mv 153 18,mv 154 13,op 155 (ln' 154),op 156 (bt .rem 153 155),mv 23 156] (sr [mv 157 14,mv 158 9,mv 159 13,mv 160 23,op 161 (ia 14 159 160),op 162 (lf' 14 161),op 163 (kc' 13 [.t 158,.t 162]),op 164 (.app 4 32 (.t 157) (.t 163)),mv 14 164] (.reg none [mv 165 13,mv 166 23,op 167 (kc' 14 [.t 165,.t 166]),mv 13 167]))) (sr [op 169 (fa 16 0),op 170 (l1' 169),op 171 (.eq (.sc (.i .i64)) false (.t 170) (ci 3)),mv 172 171,ot 172 173 (.mov (.t 14)),ot 172 174 (ln' 173),ot 172 175 (bc .gtr 174 0),op 176 (.pick (.t 172) (.t 175) (.c zb)),mv 168 176] (.cond (.t 168) (sr [mv 177 18,mv 178 14,op 179 (ln' 178),op 180 (bt .rem 177 179),mv 24 180] (.seq (.reg (some [[],[],[],[],[],[3,4],[5,3,4],[0,1,2,6,5,3,4],[7,0,1,2,6,5,3,4],[8,7,0,1,2,6,5,3,4],[8,7,0,1,2,6,5,3,4],[9,8,7,0,1,2,6,5,3,4],[10,11,9,8,7,0,1,2,6,5,3,4]]) [op 182 (lf' 22 7),op 183 (lf' 8 3),mv 184 12,mv 185 14,mv 186 24,op 187 (ia 4 185 186),op 188 (lf' 4 187),op 189 (kc' 15 [.t 182,.t 183,.t 184,.t 188]),mv 181 189,op 190 (.ext (.t 181) 0),op 191 (.ext (.t 181) 1),so' 22 7 190,mv 17 191]) (.reg none [mv 192 14,mv 193 24,op 194 (kc' 16 [.t 192,.t 193]),mv 14 194]))) (sr [op 196 (fa 16 0),op 197 (l1' 196),op 198 (.eq (.sc (.i .i64)) false (.t 197) (ci 4)),mv 195 198] (.cond (.t 195) (sr [mv 199 12,op 200 (fa 16 1),op 201 (l1' 200),op 202 (bc .and 201 7),op 203 (.convI .u64 (.t 202)),op 204 (bt .add 199 203),mv 12 204] (.reg none [op 206 (lf' 22 7),mv 207 12,op 208 (kc' 17 [.t 206,.t 207]),mv 205 208,op 209 (.ext (.t 205) 0),op 210 (.ext (.t 205) 1),so' 22 7 209,mv 17 210])) (sr [op 212 (fa 16 0),op 213 (l1' 212),op 214 (.eq (.sc (.i .i64)) false (.t 213) (ci 5)),mv 211 214] (.cond (.t 211) (sr [mv 215 9,op 216 (.nilchk (.t 215)),op 217 (fa 216 0),op 218 (l1' 217),op 219 (.bin .add (.t 218) (.c (.d (.int .u64 1)))),op 220 (.build [zu,zu,zu,zu,zs0,zs0,zs0,zs0,zs0,zb] [(0,1,(.t 219))]),op 221 (.box (.t 220)),mv 9 221] (.reg none [op 19 (.mov (.c zu))])) (sr [op 223 (fa 16 0),op 224 (l1' 223),op 225 (.eq (.sc (.i .i64)) false (.t 224) (ci 6)),mv 226 225,ot 226 227 (.mov (.t 13)),ot 226 228 (ln' 227),ot 226 229 (bc .gtr 228 0),op 230 (.pick (.t 226) (.t 229) (.c zb)),mv 222 230] (.cond (.t 222) (.reg none [mv 231 13,mv 232 13,mv 233 18,mv 234 13,op 235 (ln' 234),op 236 (bt .rem 233 235),op 237 (ia 14 232 236),op 238 (lf' 14 237),op 239 (.buildS 14 1 [zu,zu,zu,zu,zu,zs0,zs0,zs0,zs0,zs0,zs0,zs0,zs0,zs0] [(0,14,(.t 238))]),op 240 (.app 14 256 (.t 231) (.t 239)),mv 13 240]) (sr [op 242 (fa 16 0),op 243 (l1' 242),op 244 (.eq (.sc (.i .i64)) false (.t 243) (ci 7)),mv 245 244,ot 245 246 (.mov (.t 13)),ot 245 247 (ln' 246),ot 245 248 (bc .gtr 247 0),op 249 (.pick (.t 245) (.t 248) (.c zb)),mv 241 249] (.cond (.t 241) (.reg none [mv 250 13,mv 251 18,mv 252 13,op 253 (ln' 252),op 254 (bt .rem 251 253),op 255 (kc' 14 [.t 250,.t 254]),mv 13 255]) (sr [op 257 (fa 16 0),op 258 (l1' 257),op 259 (.eq (.sc (.i .i64)) false (.t 258) (ci 8)),mv 260 259,ot 260 261 (.mov (.t 14)),ot 260 262 (ln' 261),ot 260 263 (bc .gtr 262 0),op 264 (.pick (.t 260) (.t 263) (.c zb)),mv 256 264] (.cond (.t 256) (.reg none [mv 265 14,mv 266 18,mv 267 14,op 268 (ln' 267),op 269 (bt .rem 266 268),op 270 (kc' 16 [.t 265,.t 269]),mv 14 270]) .skip))))))))))))))))))) (.seq (sr [oc' 25 0] (.block 3 (.loop [1,2,3,7,9,10,11,12,13,14,15,17,19,25] qW))) xu)))))))) xw))
def r13:QF:=(⟨_,λ_=>by cbv⟩:F1 0x6141062072c04004de22213c2c1c0cba97321b19d07060003c212113002c21213001c21211000c212110b23010131113c122110a21801333300118183c11c811321109210c117801014333331111a2c132106141062072c04122113150471105c371162c04271c81171011503711152c04271c811710115047188d013c53710a270c01710100191616c014c211108225cac901133333113333310131110ac1c724181308110ec214c0242c04160fc28214006230c12216013004ee).1 dL
def r99:QF:=cutQ 14 256 [zu,zu,zu,zu,zu,zs0,zs0,zs0,zs0,zs0,zs0,zs0,zs0,zs0]
def cp0:QF:=cutQ 4 32 [zu,zu,zu,zi]
def jB:QC:=(⟨_,by cbv⟩:C0 0xed0823c00dd0504d26c003d2320614500621211340147112208d2c04347c61241c611410100190618c0172110a227c69033333161c920fd1810fd0811005d216207d2c0411114c01023022c111211210b16c010c0118111280b15c01b006d21c5467810239ab2c0c3c1c5467810239ab1c05467810239ab5467810239ab5467810239a5467810239546745463542001023102004c4c813617321425013401971131c0684112741c036411254103441280b345c024b014101131c5110a10c019012c2115c).1
def qd:QC:=(⟨_,λ_=>by cbv⟩:C1 0xec0723c0dc054c25c03c23287321519d072600082121161005013131c5110a1b014014211b).1 jB
def Vn:QF:=(⟨_,λ_=>by cbv⟩:F1 0x614400621217321419d0706000112114006230c1221601319d).1 qd
end
section
def VF:List (Nat×QF):=[(3,r13),(14,r99),(16,cp0),(18,Vn)]
def dM:FuncId->Option QF:=iW VF
def aW (f:FuncId):Bool:=[3,18].any λn=>Nat.beq n f
def Tv:List V:=[(.d (.int .u64 0)),(.d (.int .u64 0)),(.d (.int .u64 0)),(.d (.int .u64 0)),(.d (.int .u64 0)),(.d (.slice true [])),(.d (.slice true [])),(.d (.slice true [])),(.d (.slice true [])),(.d (.slice true [])),(.d (.slice true [])),(.d (.slice true [])),(.d (.slice true [])),(.d (.slice true []))]
def br3:List V:=[(.d (.int .u64 0)),(.d (.int .u64 0)),(.d (.int .u64 0)),(.d (.int .i64 0))]
theorem lt3:dM 3=some r13:=by kernel_rfl
theorem lw3:aW 3=true:=by kernel_rfl
theorem Qs:dM 14=some (cutQ 14 256 Tv):=by kernel_rfl
theorem Yu:dM 16=some (cutQ 4 32 br3):=by kernel_rfl
theorem Yv:dM 18=some Vn:=by kernel_rfl
theorem Yw:aW 18=true:=by kernel_rfl
theorem CY {h:Hp}{z by_ B o n:Nat}{cap:Option Nat}{w:V}{xs:List V}(hz:0<z)(hr:aB h w z=some (0,xs)):dP h z by_ (.row B o n cap z) w=some (.row B o n cap z,h):=by
 have hzz:z≠0:=by omega
 simp [dP,hr,aD,hzz]
theorem ET {M:List Blk}{lo z by_ B m:Nat}{w:V}{xs:List V}(hz:0<z)(hby:by_<=4096)(hm:0<m)(hl:m<=big)(hb:au M B=some [])(hr:aB ⟨M,lo⟩ w z=some (m,xs)):dP ⟨M,lo⟩ z by_ (.row B 0 0 (some 0) z) w=some (.row M.length 0 m none z,⟨M++[.cells xs],lo⟩):=by
 have hzz:z≠0:=by omega
 have hm0:¬ m=0:=by omega
 have hroom:roomy m by_=true:=by simp only [roomy,aw,bw]; exact ⟨hl,hby⟩
 have hs:sub ([]:List V) 0 (0 * z)=some []:=bQ (by simp);have hn:¬ m<=0:=by omega
 simp only [dP,hr,aD,ne_eq,not_true_eq_false,false_or,if_neg hm0,if_neg hzz,get_eq,hb,hs,Nat.zero_add,hroom,Bool.not_true,bo,if_false,if_neg hn,Hp.size,Hp.alloc,List.nil_append]
theorem Jm {M:List Blk}{lo z by_ B n m:Nat}{w:V}{cs xs:List V}(hz:0<z)(hby:by_<=4096)(hn:0<n)(hm:0<m)(hl:n+m<=big)(hb:au M B=some cs)(hc:cs.length=n * z)(hr:aB ⟨M,lo⟩ w z=some (m,xs)):dP ⟨M,lo⟩ z by_ (.row B 0 n none z) w=some (.row M.length 0 (n+m) none z,⟨M.set B (.cells [])++[.cells (cs++xs)],min lo B⟩):=by
 have hzz:z≠0:=by omega
 have hm0:¬ m=0:=by omega
 have hroom:roomy (n+m) by_=true:=by simp only [roomy,aw,bw]; exact ⟨hl,hby⟩
 have hs:sub cs 0 (n * z)=some cs:=bQ hc;have hp:0<cs.length:=by rw [hc]; exact Nat.mul_pos hn hz
 simp only [dP,hr,aD,ne_eq,not_true_eq_false,false_or,if_neg hm0,if_neg hzz,get_eq,hb,hs,hroom,Bool.not_true,bo,if_false,hp,and_self,if_true,Hp.size,Hp.alloc,Hp.set,List.length_set]
section
variable {E:Calls'}
theorem JJ {z by_:Nat}{zero:List V}{bs M1 M2:List Blk}{b n i:Nat}{cap:Option Nat}{v1 v2 w:V}{F1 F2:Nat->Nat}(hz:0<z)(hb:b<bs.length)(hwr:wrap .i64 ((i:Int)+1)=(i:Int)+1)
 (sh:∀ (hp:Hp) (ev:X->V),ev (.t 7)=.d (i64 i)->bZ hp ev .sl z (.row b 0 n cap z) none (some (.t 7)) none=some (.row b 0 i cap z))
 (sd:∀ (hp:Hp) (ev:X->V),ev (.t 12)=.d (i64 ((i:Int)+1))->bZ hp ev .sl z (.row b 0 n cap z) (some (.t 12)) none none=some w)
 (a1:∀ lo,dP ⟨bs++[.cells []],lo⟩ z by_ (.row bs.length 0 0 (some 0) z) (.row b 0 i cap z)=some (v1,⟨M1,F1 lo⟩)) (a2:∀ lo,dP ⟨M1,lo⟩ z by_ v1 w=some (v2,⟨M2,F2 lo⟩)) (hn:nu v2=some v2) :
 ∃ lo1,Bd E dM aW (cutQ z by_ zero) [.row b 0 n cap z,.d (i64 i)] ⟨bs,bs.length⟩=some (v2,⟨M2,lo1⟩):=by
 have hzz:z≠0:=by omega
 have hb1:¬ b=bs.length:=by omega
 have hb2:b<bs.length+1:=by omega
 have hor:∀ x y:Nat,x<y\/y<=x:=λx y=>co x y;refine ⟨F2 (F1 bs.length),?_⟩;simp +decide [aa,cutQ,hwr,sh,sd,a1,a2,hn,hzz,hb,hb1,hb2,hor,aA,ae,bA,dE,Tr.spares,List.range,List.range.loop]
theorem EI {f z by_:Nat}{zero:List V}(hf:dM f=some (cutQ z by_ zero))(hv:aW f=false)(hz:0<z)(hby:by_<=4096){o:Nat->Nat}{k:Nat}{bs:List Blk}{es:List (List D)}{v:V}(h:RAt o k bs z es v){i:Nat}(hi:i<es.length)(hl:es.length<=big) :
 ∃ v' ys,∃ F:Nat->Nat,(∀ lo,Sm E dM aW f [v,.d (i64 i)] ⟨bs,lo⟩=some (v',⟨bs++ys,F lo⟩))/\RAt (λx=>if x<bs.length then o x else k) k (bs++ys) z (es.eraseIdx i) v':=by
 obtain ⟨hw,⟨rfl,_⟩ | ⟨b,cap,h1,rfl,_⟩⟩:=h
 . simp at hi
 have hbl:=aK h1.2;have hwr:wrap .i64 ((i:Int)+1)=(i:Int)+1:=by simpa using aI hi (by have:big=2 ^ 30:=rfl; omega)
 have fl:∀ a b:List (List D),flat (a++b)=flat a++flat b:=λa b=>by simp [flat]
 have hsz:(flat es).length=es.length * z:=iU hw;have hwt:∀ e∈es.take i,e.length=z:=λe he=>hw e (List.mem_of_mem_take he);have hwd:∀ e∈es.drop (i+1),e.length=z:=λe he=>hw e (List.mem_of_mem_drop he);have htl:(flat (es.take i)).length=i * z:=by rw [iU hwt,List.length_take,Nat.min_eq_left (by omega)]
 have hdl:(flat (es.drop (i+1))).length=(es.length-(i+1)) * z:=by rw [iU hwd,List.length_drop]
 have hdec:flat es=flat (es.take i)++(flat [es[i]]++flat (es.drop (i+1))):=by
  rw [← fl,← fl]
  congr 1
  simp
 have hel:(flat [es[i]]).length=z:=by rw [iU (z:=z) (by simp [hw])]; simp
 have hst:sub (flat es) 0 (i * z)=some (flat (es.take i)):=by
  rw [eH,if_pos (by rw [hsz]; simp; exact Nat.mul_le_mul_right z (by omega)),hdec];simp [htl,List.take_append_of_le_length]
 have hsd:sub (flat es) ((i+1) * z) ((es.length-(i+1)) * z)=some (flat (es.drop (i+1))):=by
  rw [eH,if_pos (by rw [hsz,← Nat.add_mul]; exact Nat.mul_le_mul_right z (by omega))];have:(i+1) * z=(flat (es.take i)++flat [es[i]]).length:=by rw [aq,htl,hel,Nat.succ_mul]
  rw [hdec,← List.append_assoc,this,List.drop_left,← hdl,List.take_length]
 have her:es.eraseIdx i=es.take i++es.drop (i+1):=List.eraseIdx_eq_take_drop_succ es i;have hwe:∀ e∈es.eraseIdx i,e.length=z:=λe he=>hw e (List.mem_of_mem_eraseIdx he);have gb:∀ ys,au (bs++ys) b=some (flat es):=λys=>ak h1.2;have g0:∀ ys,au (bs++Blk.cells []::ys) bs.length=some []:=λys=>by simp
 have rt:∀ ys lo,aB ⟨bs++ys,lo⟩ (.row b 0 i cap z) z=some (i,flat (es.take i)):=λys lo=>by
  simp only [aB,if_true,get_eq,gb,hst,Option.map_some]
 have sh:∀ (hp:Hp) (ev:X->V),ev (.t 7)=.d (i64 i)->bZ hp ev .sl z (.row b 0 es.length cap z) none (some (.t 7)) none=some (.row b 0 i cap z):=λhp ev he=>pI he (by omega);have tg:∀ x,x=bs.length\/x=bs.length+1\/x=bs.length+2->(if x<bs.length then o x else k)=k:=λx hx=>if_neg (by omega);have fin:∀ {v':V} {ys:List Blk} {lo1:Nat},Bd E dM aW (cutQ z by_ zero) [.row b 0 es.length cap z,.d (i64 i)] ⟨bs,bs.length⟩=some (v',⟨bs++ys,lo1⟩)->v'.under bs.length=false->RAt (λx=>if x<bs.length then o x else k) k (bs++ys) z (es.eraseIdx i) v' →
  ∃ v' ys,∃ F:Nat->Nat,(∀ lo,Sm E dM aW f [.row b 0 es.length cap z,.d (i64 i)] ⟨bs,lo⟩=some (v',⟨bs++ys,F lo⟩))/\RAt (λx=>if x<bs.length then o x else k) k (bs++ys) z (es.eraseIdx i) v':=λ{v' ys lo1} hb hu hr =>
  ⟨v',ys,λlo=>min lo lo1,λlo=>by
   rw [av hf hv];show fQ ⟨bs,lo⟩ (Bd E dM aW (cutQ z by_ zero) [.row b 0 es.length cap z,.d (i64 i)] ⟨bs,bs.length⟩)=_;rw [hb,gY,if_neg (by rintro ⟨_,h⟩; rw [hu] at h; cases h)],hr⟩
 have A:∃ (v1:V) (M1:List Blk) (F1:Nat->Nat),(∀ lo:Nat,dP ⟨bs++[.cells []],lo⟩ z by_ (.row bs.length 0 0 (some 0) z) (.row b 0 i cap z)=some (v1,⟨M1,F1 lo⟩))/\((i=0/\v1=.row bs.length 0 0 (some 0) z/\M1=bs++[.cells []])\/(0<i/\v1=.row (bs.length+1) 0 i none z/\M1=bs++[.cells [],.cells (flat (es.take i))])):=by
  by_cases h0:i=0
  . refine ⟨_,_,id,λlo=>?_,.inl ⟨h0,rfl,rfl⟩⟩;exact CY hz (by rw [rt,h0])
  . refine ⟨_,_,id,λlo=>?_,.inr ⟨by omega,rfl,rfl⟩⟩;have:=ET (M:=bs++[.cells []]) (lo:=lo) hz hby (show 0<i by omega) (by omega) (g0 []) (rt _ lo);simpa using this
 obtain ⟨v1,M1,F1,a1,hA⟩:=A;have hm1:∀ y z',au (bs++Blk.cells []::y::z') (bs.length+1)=au [y] 0:=λy z'=>by
  unfold au; rw [bm (by omega)]; simp
 have go:∀ {w v2:V} {ys:List Blk} {F2:Nat->Nat},(∀ (hp:Hp) (ev:X->V),ev (.t 12)=.d (i64 ((i:Int)+1))->bZ hp ev .sl z (.row b 0 es.length cap z) (some (.t 12)) none none=some w) →
  (∀ lo,dP ⟨M1,lo⟩ z by_ v1 w=some (v2,⟨bs++ys,F2 lo⟩))->nu v2=some v2->v2.under bs.length=false->RAt (λx=>if x<bs.length then o x else k) k (bs++ys) z (es.eraseIdx i) v2 →
  ∃ v' ys,∃ F:Nat->Nat,(∀ lo,Sm E dM aW f [.row b 0 es.length cap z,.d (i64 i)] ⟨bs,lo⟩=some (v',⟨bs++ys,F lo⟩))/\RAt (λx=>if x<bs.length then o x else k) k (bs++ys) z (es.eraseIdx i) v':=λsd a2 hn hu hr=>by
  obtain ⟨lo1,hb⟩:=JJ (E:=E) (zero:=zero) hz hbl hwr sh sd a1 a2 hn;exact fin hb hu hr
 by_cases hlast:i+1<es.length
 . have sd:∀ (hp:Hp) (ev:X->V),ev (.t 12)=.d (.int .i64 ((i:Int)+1))->bZ hp ev .sl z (.row b 0 es.length cap z) (some (.t 12)) none none=some (.row b ((i+1) * z) (es.length-(i+1)) (cap.map (· - (i+1))) z):=λhp ev he=>by
    have he':ev (.t 12)=.d (i64 ((i+1:Nat):Int)):=he;simp only [bZ,dU,he'];rw [if_pos (by omega)];simp only [Int.toNat_natCast];rw [if_pos ⟨by omega,by omega,trivial⟩,if_neg (by omega),if_pos hlast,Nat.zero_add]
   have rd:∀ ys lo,aB ⟨bs++ys,lo⟩ (.row b ((i+1) * z) (es.length-(i+1)) (cap.map (· - (i+1))) z) z=some (es.length-(i+1),flat (es.drop (i+1))):=λys lo=>by
    simp only [aB,if_true,get_eq,gb,hsd,Option.map_some]
   obtain ⟨h0,rfl,rfl⟩ | ⟨h0,rfl,rfl⟩:=hA
   . refine go (v2:=.row (bs.length+1) 0 (es.length-(i+1)) none z) (ys:=[.cells [],.cells (flat (es.drop (i+1)))]) (F2:=id) sd (λlo=>?_) rfl (by simp [V.under]) ⟨hwe,.inr ⟨bs.length+1,none,⟨tg _ (.inr (.inl rfl)),?_⟩,?_,.inl ⟨rfl,?_⟩⟩⟩
     . have:=ET (M:=bs++[.cells []]) (lo:=lo) hz hby (show 0<es.length-(i+1) by omega) (by omega) (g0 []) (rd _ lo);simpa using this
     . rw [her,h0,hm1]; simp
     . rw [her,h0]; simp
     . rw [her,h0]; intro hh; have:=congrArg List.length hh; simp at this; omega
   . refine go (v2:=.row (bs.length+2) 0 (i+(es.length-(i+1))) none z) (ys:=[.cells [],.cells [],.cells (flat (es.take i)++flat (es.drop (i+1)))]) (F2:=λlo=>min lo (bs.length+1)) sd (λlo=>?_) rfl (by simp [V.under]) ⟨hwe,.inr ⟨bs.length+2,none,⟨tg _ (.inr (.inr rfl)),?_⟩,?_,.inl ⟨rfl,?_⟩⟩⟩
     . have:=Jm (M:=bs++[.cells [],.cells (flat (es.take i))]) (lo:=lo) hz hby h0 (show 0<es.length-(i+1) by omega) (by omega) (by rw [hm1]; rfl) htl (rd _ lo);simpa [List.set_append] using this
     . rw [her,fl]; unfold au; rw [bm (by omega)]; simp
     . rw [her]; simp; omega
     . rw [her]; intro hh; have:=congrArg List.length hh; simp at this; omega
 . have sd:∀ (hp:Hp) (ev:X->V),ev (.t 12)=.d (.int .i64 ((i:Int)+1))->bZ hp ev .sl z (.row b 0 es.length cap z) (some (.t 12)) none none=some (.d (.slice false [])):=λhp ev he=>by
    have he':ev (.t 12)=.d (i64 ((i+1:Nat):Int)):=he;simp only [bZ,dU,he'];rw [if_pos (by omega)];simp only [Int.toNat_natCast];rw [if_pos ⟨by omega,by omega,trivial⟩,if_neg (by omega),if_neg hlast]
   have hd:es.drop (i+1)=[]:=bb (by omega);have r0:∀ h:Hp,aB h (.d (.slice false [])) z=some (0,[]):=λh=>by simp [aB]
   obtain ⟨h0,rfl,rfl⟩ | ⟨h0,rfl,rfl⟩:=hA
   . refine go (v2:=.row bs.length 0 0 (some 0) z) (ys:=[.cells []]) (F2:=id) sd (λlo=>CY hz (r0 _)) rfl (by simp [V.under]) ⟨hwe,.inr ⟨bs.length,some 0,⟨tg _ (.inl rfl),?_⟩,?_,.inr ?_⟩⟩
     . rw [her,hd,h0]; simp [flat]
     . rw [her,hd,h0]; rfl
     . rw [her,hd,h0]; rfl
   . refine go (v2:=.row (bs.length+1) 0 i none z) (ys:=[.cells [],.cells (flat (es.take i))]) (F2:=id) sd (λlo=>CY hz (r0 _)) rfl (by simp [V.under]) ⟨hwe,.inr ⟨bs.length+1,none,⟨tg _ (.inr (.inl rfl)),?_⟩,?_,.inl ⟨rfl,?_⟩⟩⟩
     . rw [her,hd,hm1]; simp
     . rw [her,hd]; simp; omega
     . rw [her,hd]; intro hh; have:=congrArg List.length hh; simp at this; obtain h | h:=this
       . omega
       . rw [h] at hi; simp at hi
end
end
section
section
variable {E:Calls'}{T:FuncId->Option QF}{val:FuncId->Bool}
theorem GM {α:Type}{cell:α->D}{bs:List Blk}{lo:Nat}{v:V}{es:List α}(hr:RowIs bs v 1 (es.map λx=>[cell x])){f:FuncId}{caps:List V}{q:α->Bool}(hlen:es.length<2 ^ 62)
 (hf:∀ e∈es,Sm E T val f (.d (cell e)::caps) ⟨bs,lo⟩=some (.d (.bool (q e)),⟨bs,lo⟩)):∀ (m i:Nat),i+m=es.length →
   Cd E T val (.loop [0,1,7,8] wN) [(0,v),(1,.fn f caps),(7,.d (.int .i64 es.length)),(8,.d (.int .i64 i))] ⟨bs,lo⟩ =
    match (es.drop i).findIdx? q with
    | some k=>some (.ret,[(4,.d (.int .i64 (i+k:Nat)))],⟨bs,lo⟩)
    | none=>some (.exit 0,[],⟨bs,lo⟩):=by
 intro m;have key:=ax (E:=E) (T:=T) (val:=val) [0,1,7,8] wN;generalize Cd E T val (.loop [0,1,7,8] wN)=W at key ⊢
 induction m with
 | zero =>
  intro i hi;have h0:es.drop i=[]:=bb (by omega);rw [key];simp [wN,h0,show ¬ ((i:Int)<es.length) from by omega]
 | succ m ih =>
  intro i hi;have hlt:i<es.length:=by omega
  have hd:es.drop i=es[i]::es.drop (i+1):=ba hlt;obtain ⟨p,hp1,hp2⟩:=hr.at hlt (l:=lo);have hv:=hr.ok;have hcall:=hf _ (bj hlt);generalize es[i]=x at *;rw [key,hd];cases hq:q x with
  | true=>simp [wN,hv,hp1,ldv,hp2,hcall,hq,List.findIdx?_cons,show ((i:Int)<es.length) from by omega]
  | false =>
   have hw:wrap .i64 ((i:Int)+1)=((i+1:Nat):Int):=by rw [wrap64]<;>omega
   have:=ih (i+1) (by omega);simp [wN,hv,hp1,ldv,hp2,hcall,hq,List.findIdx?_cons,hw,show ((i:Int)<es.length) from by omega];rw [show ((i:Int)+1)=((i+1:Nat):Int) from by omega,this];cases hfi:(es.drop (i+1)).findIdx? q with
   | none=>rfl
   | some k=>simp; omega
theorem Rk {α:Type}(cell:α->D){id:FuncId}(ht:T id=some idx1Q)(hvl:val id=false){v:V}{es:List α}{f:FuncId}{caps:List V}{q:α->Bool}{h:Hp}(hr:RowIs h.bs v 1 (es.map λx=>[cell x]))(hlen:es.length<2 ^ 62)
 (hf:∀ e∈es,∀ lo,Sm E T val f (.d (cell e)::caps) ⟨h.bs,lo⟩=some (.d (.bool (q e)),⟨h.bs,lo⟩)):Sm E T val id [v,.fn f caps] h=some (.d (.int .i64 (lV es q)),h):=by
 rw [av ht hvl];have hl:=GM hr hlen (λe he=>hf e he h.bs.length) es.length 0 (by omega);have hv:=hr.ok;have hn:=hr.lenT;simp [idx1Q,aa,hv,hn,lV];rw [aj];simp at hl;simp [hl];cases es.findIdx? q with
 | none=>simp [V.under]
 | some k=>simp [V.under]
theorem Bg {α:Type}(es:List α)(q:α->Bool):decide (lV es q>=0)=es.any q:=by
 obtain ⟨h1,h2⟩ | ⟨k,e,h1,h2,h3⟩:=iG es q
 . rw [h2];have:es.any q=false:=by
    rw [List.any_eq_false];intro x hx;simpa using List.find?_eq_none.1 h1 x hx
   rw [this]; rfl
 . rw [h2];have:es.any q=true:=List.any_eq_true.2 ⟨e,List.mem_of_find?_eq_some h1,List.find?_some h1⟩;rw [this];simp
theorem RowIs.okv {bs:List Blk}{v:V}{z:Nat}{es:List (List D)}(h:RowIs bs v z es):okV v=true:=by
 obtain ⟨nl,rfl⟩ | ⟨b,o,cap,cs,rfl,_⟩:=h.2<;>rfl
theorem Je {id idx:FuncId}(ht:T id=some (anyQ idx))(hv:val id=false){v:V}{f:FuncId}{caps:List V}{n:Int}{h:Hp}(hnu:nu v=some v)(hok:okV v=true)(hi:Sm E T val idx [v,.fn f caps] ⟨h.bs,h.bs.length⟩=some (.d (.int .i64 n),⟨h.bs,h.bs.length⟩)) :
 Sm E T val id [v,.fn f caps] h=some (bl (decide (n>=0)),h):=by
 rw [av ht hv];simp [anyQ,aa,hnu,hok,hi,V.under]
theorem gP {α:Type}(cells:α->List D){z:Nat}{idx id:FuncId}(hti:T idx=some (idxQ z))(hvi:val idx=false)(ht:T id=some (anyQ idx))(hv:val id=false){v:V}{es:List α}{f:FuncId}{caps:List V}{q:α->Bool}{h:Hp}(hr:RowIs h.bs v z (es.map cells))(hlen:es.length<2 ^ 62)
 (hf:∀ e∈es,∀ lo,Sm E T val f (.agg ((cells e).map .d)::caps) ⟨h.bs,lo⟩=some (.d (.bool (q e)),⟨h.bs,lo⟩)):Sm E T val id [v,.fn f caps] h=some (bl (es.any q),h):=by
 rw [Je ht hv hr.ok hr.okv (xZ (h:=⟨h.bs,h.bs.length⟩) cells hti hvi hr hlen hf),Bg]
theorem Jd {α:Type}(cell:α->D){idx id:FuncId}(hti:T idx=some idx1Q)(hvi:val idx=false)(ht:T id=some (anyQ idx))(hv:val id=false){v:V}{es:List α}{f:FuncId}{caps:List V}{q:α->Bool}{h:Hp}(hr:RowIs h.bs v 1 (es.map λx=>[cell x]))(hlen:es.length<2 ^ 62)
 (hf:∀ e∈es,∀ lo,Sm E T val f (.d (cell e)::caps) ⟨h.bs,lo⟩=some (.d (.bool (q e)),⟨h.bs,lo⟩)):Sm E T val id [v,.fn f caps] h=some (bl (es.any q),h):=by
 rw [Je ht hv hr.ok hr.okv (Rk (h:=⟨h.bs,h.bs.length⟩) cell hti hvi hr hlen hf),Bg]
theorem XA {id:FuncId}{z:Nat}(ht:T id=some (notQ z))(hv:val id=false){c:List D}(hc:c.length=z){f:FuncId}{x:Nat}{p:Bool}{h:Hp}(hp:au h.bs x=some [.fn f []])
 (hf:∀ h,Sm E T val f [ag c] h=some (bl p,h)):Sm E T val id [ag c,.ptr x 0] h=some (bl (!p),h):=by
 rw [av ht hv];have hs:=bQ hc;simp [notQ,aa,ak hp,hf,hs,V.under]
theorem Rl {id:FuncId}(ht:T id=some not1Q)(hv:val id=false){c:D}{f:FuncId}{x:Nat}{p:Bool}{h:Hp}(hp:au h.bs x=some [.fn f []])
 (hf:∀ h,Sm E T val f [.d c] h=some (bl p,h)):Sm E T val id [.d c,.ptr x 0] h=some (bl (!p),h):=by
 rw [av ht hv];simp [not1Q,aa,hp,hf,V.under]
theorem uY {α:Type}(l:List α)(p:α->Bool):(!l.any λx=>!p x)=l.all p:=by
 induction l with
 | nil=>rfl
 | cons x l ih=>simp only [List.any_cons,List.all_cons,Bool.not_or,Bool.not_not,ih]
theorem Au {α:Type}{cells:α->List D}{z:Nat}{idx con clo id:FuncId}(hti:T idx=some (idxQ z))(hvi:val idx=false)(htc:T con=some (anyQ idx))(hvc:val con=false)(htn:T clo=some (notQ z))(hvn:val clo=false)(ht:T id=some (allQ con clo))(hv:val id=true)
 (hz:∀ x,(cells x).length=z) {s:Sl α} (hs:short s) {m:Int} {f:FuncId} {p:α->Bool} (hf:∀ e∈s.l,∀ h,Sm E T val f [ag (cells e)] h=some (bl (p e),h)) (h:Hp) :
 Sm E T val id [.d (i64 m),.d (s.d cells),.fn f []] h=some (bl (decide ((s.l.length:Int)<=m)&&s.l.all p),h):=by
 rw [aN ht hv];have hfr:frz h (.fn f [])=some (.fn f []):=rfl;have hlen:s.l.length<2 ^ 62:=hs.lt;have hany:=gP (E:=E) (T:=T) (val:=val) cells (z:=z) hti hvi htc hvc (v:=.d (s.d cells)) (es:=s.l) (f:=clo) (caps:=[.ptr 0 0]) (q:=λx=>!p x) (h:=⟨[.cells [.fn f []]],0⟩) (RowIs.of hz _) hlen (λe he lo=>XA htn hvn (hz e) (by simp [au]) (hf e he));by_cases hm:(s.l.length:Int)<=m
 . simp [aa,allQ,hfr,hm,hany,ai,dK,← uY]
 . simp [aa,allQ,hfr,hm,ai,dK]
theorem Ri {α:Type}{cell:α->D}{idx con clo id:FuncId}(hti:T idx=some idx1Q)(hvi:val idx=false)(htc:T con=some (anyQ idx))(hvc:val con=false)(htn:T clo=some not1Q)(hvn:val clo=false)(ht:T id=some (allQ con clo))(hv:val id=true)
 {s:Sl α} (hs:short s) {m:Int} {f:FuncId} {p:α->Bool} (hf:∀ e∈s.l,∀ h,Sm E T val f [.d (cell e)] h=some (bl (p e),h)) (h:Hp) :
 Sm E T val id [.d (i64 m),.d (s.d λx=>[cell x]),.fn f []] h=some (bl (decide ((s.l.length:Int)<=m)&&s.l.all p),h):=by
 rw [aN ht hv];have hfr:frz h (.fn f [])=some (.fn f []):=rfl;have hlen:s.l.length<2 ^ 62:=hs.lt;have hany:=Jd (E:=E) (T:=T) (val:=val) cell hti hvi htc hvc (v:=.d (s.d λx=>[cell x])) (es:=s.l) (f:=clo) (caps:=[.ptr 0 0]) (q:=λx=>!p x) (h:=⟨[.cells [.fn f []]],0⟩) (RowIs.of (cells:=λx=>[cell x]) (z:=1) (λ_=>rfl) _) hlen (λe he lo=>Rl htn hvn (by simp [au]) (hf e he));by_cases hm:(s.l.length:Int)<=m
 . simp [aa,allQ,hfr,hm,hany,ai,dK,← uY]
 . simp [aa,allQ,hfr,hm,ai,dK]
end
end
section
def aU:List Int->Bool
 | x::y::l=>decide (x<y)&&aU (y::l)
 | _=>true
theorem jH {l:List Int}{i:Nat}(h:i+1<l.length):aU (l.drop i)=(decide (l[i]<l[i+1])&&aU (l.drop (i+1))):=by
 rw [ba (show i<l.length by omega),ba h];simp only [aU]
theorem kM {l:List Int}{i:Nat}(h:l.length<=i+1):aU (l.drop i)=true:=by
 have:(l.drop i).length<=1:=by simp only [List.length_drop]; omega
 match l.drop i,this with
 | [],_=>rfl
 | [_],_=>rfl
 | _::_::_,h=>simp at h
theorem mZ {α:Type}{cells:α->List D}{z:Nat}(hz:∀ x,(cells x).length=z){s:Sl α}{i:Nat}(hi:i<s.l.length){kd:IntKind}{h:Hp}:iL none z (.d (s.d cells)) (.d (.int kd i)) h=some (.eptr (cells s.l[i]) 0,h):=by
 simp [iL,Sl.d,hi,hz]
section
variable {E:Calls'}{T:FuncId->Option QF}{val:FuncId->Bool}
theorem LC {α:Type}{cells:α->List D}{z:Nat}(hz:∀ x,(cells x).length=z){s:Sl α}(hs:s.l.length<2 ^ 62){f:FuncId}{g:α->Int}(hf:∀ e∈s.l,∀ h,Sm E T val f [ag (cells e)] h=some (.d (u64 (g e)),h)):∀ (m i:Nat),i+m=s.l.length->1<=i →
 Cd E T val (.loop [0,1,7,8] (xz z)) [(0,.d (s.d cells)),(1,.fn f []),(7,.d (i64 s.l.length)),(8,.d (i64 i))] ⟨[],0⟩ =
  if aU ((s.l.map g).drop (i-1)) then some (.exit 0,[],⟨[],0⟩) else some (.ret,[(4,bl false)],⟨[],0⟩):=by
 intro m;have key:=ax (E:=E) (T:=T) (val:=val) [0,1,7,8] (xz z);generalize Cd E T val (.loop [0,1,7,8] (xz z))=W at key ⊢
 induction m with
 | zero =>
  intro i hi h1;rw [key,kM (by simp; omega)];simp [xz,show ¬ ((i:Int)<s.l.length) from by omega]
 | succ m ih =>
  intro i hi h1;have hlt:i<s.l.length:=by omega
  have hd:=jH (l:=s.l.map g) (i:=i-1) (by simp; omega);have hs1:i-1+1=i:=by omega
  simp only [hs1,List.getElem_map] at hd;have hp1:=λh=>mZ (cells:=cells) hz hlt (kd:=.i64) (h:=h);have hp0:=λh=>mZ (cells:=cells) hz (show i-1<s.l.length by omega) (kd:=.i64) (h:=h);have c1:=hf _ (bj hlt);have c0:=hf _ (bj (show i-1<s.l.length by omega));have hw:=aI hlt hs;have hwm:wrap .i64 ((i:Int)-1)=((i-1:Nat):Int):=by rw [wrap64]<;>omega
  have hpos:0<i:=h1;have hih:=ih (i+1) (by omega) (by omega);simp only [show i+1-1=i by omega] at hih;rw [key,hd];generalize s.l[i]=y at *;generalize s.l[i-1]=x at *;have hsx:=bQ (hz x);have hsy:=bQ (hz y);by_cases hg:g x<g y
  . simp +decide [xz,hp1,hp0,hsx,hsy,hwm,hw,hpos,c0,c1,hlt,hg,aA,ae,show ¬ (g x>=g y) from by omega];simpa using hih
  . simp +decide [xz,hp1,hp0,hsx,hsy,hwm,hpos,c0,c1,hlt,hg,aA,ae,show g x>=g y from by omega]
theorem uX {α:Type}{cells:α->List D}{z:Nat}{id:FuncId}(ht:T id=some (risQ z))(hv:val id=true)(hz:∀ x,(cells x).length=z){s:Sl α}(hs:s.l.length<2 ^ 62){f:FuncId}{g:α->Int}(hf:∀ e∈s.l,∀ h,Sm E T val f [ag (cells e)] h=some (.d (u64 (g e)),h))(h:Hp) :
 Sm E T val id [.d (s.d cells),.fn f []] h=some (bl (aU (s.l.map g)),h):=by
 rw [aN ht hv];have hfr:frz h (.fn f [])=some (.fn f []):=rfl;have key:=ax (E:=E) (T:=T) (val:=val) [0,1,7,8] (xz z);have hl:=LC (E:=E) (T:=T) (val:=val) hz hs hf;simp [aa,risQ,hfr];rw [aj];simp only [jh,kv];simp;generalize Cd E T val (.loop [0,1,7,8] (xz z))=W at key hl ⊢;by_cases h0:s.l=[]
 . rw [key];simp [xz,h0,aU,dK]
 . have hpos:0<s.l.length:=List.length_pos_iff.2 h0;have h1:=hl (s.l.length-1) 1 (by omega) (by omega);simp at h1;rw [key];have hw:=aI hpos hs;simp at hw;simp +decide [xz,aA,bA,hpos,hw,h1];cases aU (s.l.map g)<;>simp [dK]
theorem fK {con id:FuncId}(ht:T id=some (someQ con))(hv:val id=false){v:V}{f:FuncId}{caps:List V}{b:Bool}{h:Hp}(hnu:nu v=some v)(hok:okV v=true)(hc:Sm E T val con [v,.fn f caps] ⟨h.bs,h.bs.length⟩=some (bl b,⟨h.bs,h.bs.length⟩)) :
 Sm E T val id [v,.fn f caps] h=some (bl b,h):=by
 rw [av ht hv];simp [someQ,aa,hnu,hok,hc,V.under]
end
end
section
variable {E:Calls'}
theorem AA:∀ (l:List Rule),all2 Rule.same (l.map Rule.own) l=true
 | []=>rfl
 | r::l=>by
  have h1:r.own.same r=true:=by
   have:=r.same_refl;simpa [Rule.same,Rule.own] using this
  simp [all2,h1,AA l]
theorem own_same (p:Pol):p.own.same p=true:=by
 simp [Pol.same,Pol.own,AA]
end
section
variable {E:Calls'}
end
section
variable {E:Calls'}
@[simp] theorem V6 (a b:Nat):(a<b\/b<=a)↔True:=⟨λ_=>trivial,λ_=>co a b⟩
@[simp] theorem em' {p:Prop}:(¬ p\/p)↔True:=⟨λ_=>trivial,λ_=>(Classical.em p).symm⟩
end
section
variable {E:Calls'}
theorem lZ {n:Int}:∃ m,bR .quo (.d (.int .i64 n)) (.d (.int .i64 64))=some (.int .i64 m):=⟨_,by simp [bR,eZ]; rfl⟩
theorem bd6 {s:Sl Term}(hs:short s)(h:Hp):∀ (m i:Nat) (n:Int),i+m=s.l.length →
 ∃ n',Cd E TT ah (.loop [0,3,4] nE) [(0,.d (s.d Term.c)),(3,.d (i64 n)),(4,.d (i64 i))] h=some (.exit 0,[(3,.d (i64 n'))],h):=by
 have hlt:=hs.lt;intro m;have key:=ax (E:=E) (T:=TT) (val:=ah) [0,3,4] nE;generalize Cd E TT ah (.loop [0,3,4] nE)=W at key ⊢
 induction m with
 | zero =>
  intro i n hi;refine ⟨n,?_⟩;rw [key];simp [nE,show ¬ ((i:Int)<s.l.length) from by omega]
 | succ m ih =>
  intro i n hi;have hlt:i<s.l.length:=by omega
  have hx:=λh=>bv (z:=2) h (ab hlt) (cells:=Term.c) rfl;have hw:=aI hlt (by omega);by_cases hn:n<=2000
  . generalize s.l[i]=x at *;obtain ⟨k,hq⟩:=lZ (n:=x.text.size);obtain ⟨n',q1⟩:=ih (i+1) (wrap .i64 (n+k)) (by omega);refine ⟨n',?_⟩;rw [key];simp [nE,hx,hq,hw,hn,show ((i:Int)<s.l.length) from by omega];simpa using q1
  . refine ⟨n,?_⟩;rw [key];simp [nE,hn,show ((i:Int)<s.l.length) from by omega]
theorem Gu {s:Sl Term}(hs:short s):∃ n':Int,∀ h,Sm E TT ah 37 [.d (s.d Term.c)] h=some (.d (i64 n'),h):=by
 obtain ⟨n',q1⟩:=bd6 (E:=E) hs ⟨[],0⟩ s.l.length 0 s.l.length (by omega);refine ⟨n',λh=>?_⟩;rw [aN ct2 dk7];simp at q1;simp [aa,T9];rw [aj];simp [q1]
def Tr.mute (t:Tr):Bool:=!t.big&&t.wr.isEmpty&&t.lo==t.hi
theorem ay {pr:List (List Nat)}{l:List Tr}(h:l.all Tr.mute=true):dE pr l=true:=by
 have hm:∀ t∈l,t.big=false/\t.wr=[]/\t.lo=t.hi:=by
  intro t ht;have:=cm.1 h t ht;simp only [Tr.mute,aw,Bool.not_eq_true',List.isEmpty_iff,beq_iff_eq] at this;exact ⟨this.1.1,this.1.2,this.2⟩
 simp only [dE,cm,List.mem_range,Bool.or_eq_true];intro i hi j hj;right;rw [ab hi,ab hj];obtain ⟨a1,a2,a3⟩:=hm _ (bj hi);obtain ⟨b1,b2,b3⟩:=hm _ (bj hj);simp only [Tr.spares,a1,b1,a2,a3,Bool.or_self,bo,if_false];split
 . simp
 . simp only [cm];intro b _;simp
theorem WU {r:Rule}(hr:r.fits big){h:Hp}{q:Nat}{t1 t4:V}(hq:au h.bs q=some (r.c.map .d)):∀ (m i:Nat) (n:Int),i+m=r.frm.l.length →
 ∃ n',Cd E TT ah (.loop [1,3,4,5,6] qQ) [(1,t1),(3,.d (i64 n)),(4,t4),(5,.ptr q 0),(6,.d (i64 i))] h=some (.exit 2,[(1,t1),(3,.d (i64 n')),(4,t4),(5,.ptr q 0)],h):=by
 have hlt:=hr.1.1.lt;intro m;have key:=ax (E:=E) (T:=TT) (val:=ah) [1,3,4,5,6] qQ;generalize Cd E TT ah (.loop [1,3,4,5,6] qQ)=W at key ⊢
 induction m with
 | zero =>
  intro i n hi;refine ⟨n,?_⟩;rw [key];simp [qQ,hq,show ¬ ((i:Int)<r.frm.l.length) from by omega]
 | succ m ih =>
  intro i n hi;have h1:i<r.frm.l.length:=by omega
  have hx:=λh=>bv (z:=3) h (ab h1) (cells:=Source.c) rfl;have hw:=aI h1 hlt;have hfx:=hr.1.2 _ (bj h1);by_cases hn:n<=2000
  . generalize r.frm.l[i]=x at *;obtain ⟨k0,hk0⟩:=Gu (E:=E) (s:=x.names) hfx.1;obtain ⟨k1,hk1⟩:=Gu (E:=E) (s:=x.spaces) hfx.2.1;rw [key];simp [qQ,hq,hx,aA,ae,ay,Tr.mute,hk0,hk1,hw,hn,show ((i:Int)<r.frm.l.length) from by omega];rw [show ((i:Int)+1)=((i+1:Nat):Int) from by omega];exact ih (i+1) _ (by omega)
  . refine ⟨n,?_⟩;rw [key];simp [qQ,hq,hn,show ((i:Int)<r.frm.l.length) from by omega]
theorem WV {r:Rule}(hr:r.fits big){h:Hp}{q:Nat}{t1 t4:V}(hq:au h.bs q=some (r.c.map .d)):∀ (m i:Nat) (n:Int),i+m=r.to.l.length →
 ∃ n',Cd E TT ah (.loop [1,3,4,5,7] qR) [(1,t1),(3,.d (i64 n)),(4,t4),(5,.ptr q 0),(7,.d (i64 i))] h=some (.exit 4,[(1,t1),(3,.d (i64 n')),(4,t4),(5,.ptr q 0)],h):=by
 have hlt:=hr.2.1.1.lt;intro m;have key:=ax (E:=E) (T:=TT) (val:=ah) [1,3,4,5,7] qR;generalize Cd E TT ah (.loop [1,3,4,5,7] qR)=W at key ⊢
 induction m with
 | zero =>
  intro i n hi;refine ⟨n,?_⟩;rw [key];simp [qR,hq,show ¬ ((i:Int)<r.to.l.length) from by omega]
 | succ m ih =>
  intro i n hi;have h1:i<r.to.l.length:=by omega
  have hx:=λh=>bv (z:=4) h (ab h1) (cells:=Target.c) rfl;have hw:=aI h1 hlt;have hfx:=hr.2.1.2 _ (bj h1);by_cases hn:n<=2000
  . generalize r.to.l[i]=x at *;obtain ⟨k0,hk0⟩:=Gu (E:=E) (s:=x.methods) hfx.2.1;obtain ⟨k1,hk1⟩:=Gu (E:=E) (s:=x.paths) hfx.2.2.1;obtain ⟨k2,hk2⟩:=Gu (E:=E) (s:=x.hosts) hfx.2.2.2;rw [key];simp [qR,hq,hx,aA,ae,ay,Tr.mute,hk0,hk1,hk2,hw,hn,show ((i:Int)<r.to.l.length) from by omega];rw [show ((i:Int)+1)=((i+1:Nat):Int) from by omega];exact ih (i+1) _ (by omega)
  . refine ⟨n,?_⟩;rw [key];simp [qR,hq,hn,show ((i:Int)<r.to.l.length) from by omega]
theorem WW {r:Rule}(hr:r.fits big){h:Hp}{q:Nat}{t1 t4:V}(hq:au h.bs q=some (r.c.map .d)):∀ (m i:Nat) (n:Int),i+m=r.whn.l.length →
 ∃ n',Cd E TT ah (.loop [1,3,4,5,8] qU) [(1,t1),(3,.d (i64 n)),(4,t4),(5,.ptr q 0),(8,.d (i64 i))] h=some (.exit 6,[(1,t1),(3,.d (i64 n')),(4,t4)],h):=by
 have hlt:=hr.2.2.1.lt;intro m;have key:=ax (E:=E) (T:=TT) (val:=ah) [1,3,4,5,8] qU;generalize Cd E TT ah (.loop [1,3,4,5,8] qU)=W at key ⊢
 induction m with
 | zero =>
  intro i n hi;refine ⟨n,?_⟩;rw [key];simp [qU,hq,show ¬ ((i:Int)<r.whn.l.length) from by omega]
 | succ m ih =>
  intro i n hi;have h1:i<r.whn.l.length:=by omega
  have hx:=λh=>bv (z:=2) h (ab h1) (cells:=When.c) rfl;have hw:=aI h1 hlt;have hfx:=hr.2.2.2 _ (bj h1);by_cases hn:n<=2000
  . generalize r.whn.l[i]=x at *;obtain ⟨k0,hk0⟩:=Gu (E:=E) (s:=x.terms) hfx;obtain ⟨w,hw2⟩:=lZ (n:=x.head.size);rw [key];simp [qU,hq,hx,aA,ae,ay,Tr.mute,hk0,hw,hn,hw2,show ((i:Int)<r.whn.l.length) from by omega];rw [show ((i:Int)+1)=((i+1:Nat):Int) from by omega];exact ih (i+1) _ (by omega)
  . refine ⟨n,?_⟩;rw [key];simp [qU,hq,hn,show ((i:Int)<r.whn.l.length) from by omega]
end
