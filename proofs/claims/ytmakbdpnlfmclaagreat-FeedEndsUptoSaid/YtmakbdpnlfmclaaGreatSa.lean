/- Layer 16's functions: Pod, At, WayOf, service. -/
import Derived.Test.YtmakbdpnlfmclaaGreatT8
set_option maxRecDepth 100000
set_option linter.unusedVariables false
set_option linter.unusedSimpArgs false
namespace Go.Proofs.YtmakbdpnlfmclaaGreat
open IntKind (wrap)
section
variable {E:Calls'}
theorem be2 (p:Pod)(b:Int)(x:Nat)(h:Hp)(hp:ai h.bs x=some [.d (u64 b)]):Sm E TT ah 168 [p.v,.ptr x 0] h=some (bl (p.uid==b),h):=by
 rw [ax ct4 dl1];simp [aa,Tx,az hp,V.under]
theorem bg5 (p:Svc)(b:Int)(x:Nat)(h:Hp)(hp:ai h.bs x=some [.d (u64 b)]):Sm E TT ah 201 [p.v,.ptr x 0] h=some (bl (p.id==b),h):=by
 rw [ax t229 v229];simp [aa,Oj,az hp,V.under]
theorem be3 (p:Way)(s:Svc)(x:Nat)(h:Hp)(hp:ai h.bs x=some (s.c.map .d)):Sm E TT ah 121 [p.v,.ptr x 0] h=some (bl (p.id==s.way),h):=by
 rw [ax ct7 dl4];simp [aa,NG,az hp,V.under,Way.c]
theorem Aa {s:Sl Pod}(hs:short s){x:Nat}{n:Int}{h:Hp}(hp:ai h.bs x=some [.d (u64 n)]):Sm E TT ah 167 [.d (s.d Pod.c),.fn 168 [.ptr x 0]] h=some (.d (i64 (mh s.l λp=>p.uid==n)),h) :=
 xH Pod.c (z:=7) Vv VD (RowIs.of (cells:=Pod.c) (λ_=>rfl) _) hs.lt λp _ lo=>be2 p n x _ hp
theorem Ab {s:Sl Svc}(hs:short s){x:Nat}{n:Int}{h:Hp}(hp:ai h.bs x=some [.d (u64 n)]):Sm E TT ah 200 [.d (s.d Svc.c),.fn 201 [.ptr x 0]] h=some (.d (i64 (mh s.l λp=>p.id==n)),h) :=
 xH Svc.c (z:=5) Vx PO (RowIs.of (cells:=Svc.c) (λ_=>rfl) _) hs.lt λp _ lo=>bg5 p n x _ hp
theorem IQ {s:Sl Way}(hs:short s){x:Nat}{n:Svc}{h:Hp}(hp:ai h.bs x=some (n.c.map .d)):Sm E TT ah 120 [.d (s.d Way.c),.fn 121 [.ptr x 0]] h=some (.d (i64 (mh s.l λp=>p.id==n.way)),h) :=
 xH Way.c (z:=2) t109 v109 (RowIs.of (cells:=Way.c) (λ_=>rfl) _) hs.lt λp _ lo=>be3 p n x _ hp
theorem S42 (c:Cfg)(hc:c.ok)(n:Int)(h:Hp):Sm E TT ah 92 [c.v,.d (u64 n)] h=some (.tup (match c.pods.l.find? (λp=>p.uid==n) with | some p=>[p.v,bl true] | none=>[pod0.v,bl false]),h):=by
 rw [aN t42 v42];obtain ⟨h1,h2⟩ | ⟨k,p,h1,h2,h3⟩:=iI c.pods.l (λp=>p.uid==n)
 . simp [aa,q42,Aa hc.1,h1,h2,pod0];first | done | rfl
 . simp [aa,q42,Aa hc.1,h1,h2,aK (z:=7) _ h3 (cells:=Pod.c) rfl];first | done | rfl
theorem Xe (c:Cfg)(hc:c.ok)(n:Int)(h:Hp):Sm E TT ah 119 [c.v,.d (u64 n)] h=some (.tup (match c.services.l.find? (λp=>p.id==n) with | some p=>[p.v,bl true] | none=>[svc0.v,bl false]),h):=by
 rw [aN ct6 dl3];obtain ⟨h1,h2⟩ | ⟨k,p,h1,h2,h3⟩:=iI c.services.l (λp=>p.id==n)
 . simp [aa,KQ,Ab hc.2.1,h1,h2,svc0];first | done | rfl
 . simp [aa,KQ,Ab hc.2.1,h1,h2,aK (z:=5) _ h3 (cells:=Svc.c) rfl];first | done | rfl
def xe (c:Cfg)(n:Int):Option Way:=match c.services.l.find? (λp=>p.id==n) with
 | none=>none
 | some s=>if s.way==0 then none else c.bound.l.find? λw=>w.id==s.way
theorem S45 (c:Cfg)(hc:c.ok)(n:Int)(h:Hp):Sm E TT ah 39 [c.v,.d (u64 n)] h=some (.tup (match xe c n with | some w=>[w.v,bl true] | none=>[way0.v,bl false]),h):=by
 rw [aN t45 v45];have h108:=Xe (E:=E) c hc n;have h109:=λs h hp=>IQ (E:=E) hc.2.2.1 (x:=2) (n:=s) (h:=h) hp;cases h1:c.services.l.find? (λp=>p.id==n) with
 | none =>
  simp only [h1] at h108;have h109:=h109 svc0;generalize mh c.bound.l _=ix at h109;simp [aa,q45,h108,h109,xe,h1];rfl
 | some s =>
  simp only [h1] at h108;have h109:=h109 s;by_cases hw:s.way=0
  . generalize mh c.bound.l _=ix at h109;simp [aa,q45,h108,h109,xe,h1,hw];rfl
  . obtain ⟨g1,g2⟩ | ⟨k,p,g1,g2,g3⟩:=iI c.bound.l (λw=>w.id==s.way)
    . simp [aa,q45,h108,h109,xe,h1,hw,g1,g2];rfl
    . simp [aa,q45,h108,h109,xe,h1,hw,g1,g2,aK (z:=2) _ g3 (cells:=Way.c) rfl]
def mU (p:Pol)(ns:ByteArray)(service:Int):Bool:=(eqS p.ns ⟨#[]⟩||eqS p.ns ns)&&(p.service==0||p.service==service)
theorem be4 (p:Pol)(ns:ByteArray)(s:Int)(h:Hp):Sm E TT ah 134 [p.v,.d (.str ns),.d (u64 s)] h=some (bl (mU p ns s),h):=by
 rw [aN ct9 dl6];cases h1:eqS p.ns ⟨#[]⟩<;>cases h2:eqS p.ns ns<;>cases h3:p.service==0<;>cases h4:p.service==s <;>
  simp [aa,Tz,mU,h1,h2,h3,h4]
theorem S52 (p:Pol)(x:Pod)(h:Hp):Sm E TT ah 59 [p.v,x.v] h=some (bl (mU p x.ns x.service),h):=by
 rw [aN t52 v52];simp [aa,q52,be4]
end
section
section
variable {E:Calls'}{T:FuncId->Option QF}{val:FuncId->Bool}
def Gy (z b:Nat)(zero:List V):QC:=(sr [op 11 (bt .lss 10 9)] (.seq (.cond (.t 11) .skip (.exit 0 [5])) (.seq (.block 1 (sr [op 12 (.idxA none z (.t 8) (.t 10)),op 13 (.load false z (.t 12)),op 7 (.new zero),⟨none,none,.store z (.t 7) (.t 13)⟩] (.reg none [mv 14 5,mv 15 1,op 16 (.load false z (.t 7)),op 17 (kt' 15 [.t 16]),op 18 (.buildS z 1 zero [(0,z,(.t 17))]),op 19 (.app z b (.t 14) (.t 18)),mv 5 19]))) (.reg none [op 20 (bc .add 10 1),mv 10 20]))))
def mapQ (z b:Nat)(zero:List V):QF:=⟨22,[.tmp 4],(sr [op 4 (.mov (.c zs0))] (sr [op 5 (.mov (.c zs0))] (.seq (sr [mv 8 0,op 9 (ln' 8),oc' 10 0] (.block 0 (.loop [1,5,8,9,10] (Gy z b zero)))) (sr [mv 21 5,mv 4 21] (.ret [4])))))⟩
theorem Ka {α:Type}{cells:α->List D}{z by_:Nat}(hz:∀ x,(cells x).length=z)(hz0:0<z)(hby:by_<=4096){zero:List V}(hzero:zero.length=z){s:Sl α}(hs:short s){f:FuncId}{g:α->α}{base:List Blk}
 (hf:∀ e∈s.l,∀ h,Sm E T val f [ag (cells e)] h=some (ag (cells (g e)),h)) :
 ∀ (m i:Nat) (acc:List (List D)) (bs:List Blk) (lo:Nat) (v:V),i+m=s.l.length->acc.length<=i->Acc base z acc bs v →
  ∃ bs' lo' v',Cd E T val (.loop [1,5,8,9,10] (Gy z by_ zero)) [(1,.fn f []),(5,v),(8,.d (s.d cells)),(9,.d (.int .i64 s.l.length)),(10,.d (.int .i64 i))] ⟨bs,lo⟩ =
   some (.exit 0,[(5,v')],⟨bs',lo'⟩)/\Acc base z (acc++((s.l.drop i).map λx=>cells (g x))) bs' v':=by
 intro m;have hlen:=hs.lt;have key:=ak (E:=E) (T:=T) (val:=val) [1,5,8,9,10] (Gy z by_ zero);generalize Cd E T val (.loop [1,5,8,9,10] (Gy z by_ zero))=W at key ⊢
 induction m with
 | zero =>
  intro i acc bs lo v hi hai ha;have h0:s.l.drop i=[]:=ba (by omega);refine ⟨bs,lo,v,?_,by simpa [h0] using ha⟩;rw [key];simp [Gy,show ¬ ((i:Int)<s.l.length) from by omega]
 | succ m ih =>
  intro i acc bs lo v hi hai ha;have hlt:i<s.l.length:=by omega
  have hd:s.l.drop i=s.l[i]::s.l.drop (i+1):=aw hlt;have hg:s.l[i]?=some s.l[i]:=ab hlt;have hcall:=hf _ (bh hlt);generalize s.l[i]=x at *;have hx:=λh=>aK (z:=z) h hg (cells:=cells) (hz x);have hput:∀ y:α,put zero 0 ((cells y).map V.d)=some ((cells y).map .d):=by intro y; simp [put,hz,hzero]
  have hsubx:sub (cells x) 0 z=some (cells x):=bL (hz x);have hw:wrap .i64 ((i:Int)+1)=((i+1:Nat):Int):=by rw [wrap64]<;>omega
  have hnu:=ha.nu;have ha1:=ha.lay [.cells ((cells x).map .d),.cells ((cells (g x)).map .d)];have hbig:acc.length<big:=by have:=hs.1; omega
  obtain ⟨v1,bs1,lo1,k1,k2⟩:=ha1.app hz0 hby (e:=cells (g x)) (hz _) hbig (min lo bs.length) (r:=bs.length+1) (cap:=some 1) (by simp);have hnu1:=k2.nu;obtain ⟨bs',lo',v',q1,q2⟩:=ih (i+1) (acc++[cells (g x)]) bs1 lo1 v1 (by omega) (by simp; omega) k2;refine ⟨bs',lo',v',?_,by simpa [hd] using q2⟩;rw [key];simp [Gy,hx,hput,hsubx,hcall,hw,hnu,hz,hz0,aC,k1,hnu1,show ((i:Int)<s.l.length) from by omega];simpa using q1
theorem Eh {α:Type}{cells:α->List D}{z by_ id:Nat}{zero:List V}(ht:T id=some (mapQ z by_ zero))(hv:val id=true)(hz:∀ x,(cells x).length=z)(hz0:0<z)(hby:by_<=4096)(hzero:zero.length=z){s:Sl α}(hs:short s){f:FuncId}{g:α->α}
 (hf:∀ e∈s.l,∀ h,Sm E T val f [ag (cells e)] h=some (ag (cells (g e)),h)) (h:Hp) :
 Sm E T val id [.d (s.d cells),.fn f []] h=some (.d (Sl.d cells ⟨s.l.isEmpty,s.l.map g⟩),h):=by
 rw [aN ht hv];obtain ⟨bs',lo',v',q1,q2⟩:=Ka (E:=E) (T:=T) (val:=val) hz hz0 hby hzero hs hf s.l.length 0 [] [] 0 _ (by omega) (by simp) (Acc.nil [] z);have hn:=q2.nu;have hfz:=(q2.frz lo').1;have hfr:frz h (.fn f [])=some (.fn f []):=rfl;have hl:sZ false (.d (Sl.d cells s)) ⟨[],0⟩=some (.d (i64 s.l.length),⟨[],0⟩):=by simp [Sl.d]
 have hfm:(s.l.map λx=>cells (g x)).isEmpty=s.l.isEmpty:=by cases s.l<;>rfl
 simp at q1;simp [aa,mapQ,hfr,hl];rw [aj];simp [q1,hn];simp only [List.nil_append,List.drop_zero] at hfz;rw [hfz];simp [hfm,Sl.d,dn]
end
end
section
variable {E:Calls'}
def nU:List V:=[(.d (.int .u64 0)),(.d (.str ⟨#[]⟩)),(.d (.str ⟨#[]⟩)),(.d (.int .i64 0)),(.d (.int .u32 0)),(.d (.int .i64 0)),(.d (.int .u64 0))]
end
section
theorem bZ (a:ByteArray):a.toList=a.data.toList:=by
 simp [ByteArray.toList_eq]
theorem eqS_iff {a b:ByteArray}:eqS a b=true↔a=b:=by
 simp only [eqS,beq_iff_eq,bZ];constructor
 . intro h;cases a; cases b;simp at h;rw [h]
 . rintro rfl; rfl
@[simp] theorem XQ (a:ByteArray):eqS a a=true:=eqS_iff.2 rfl
def Pod.eqB (x y:Pod):Bool:=x.uid==y.uid&&(eqS x.ns y.ns&&(eqS x.sa y.sa&&(x.host==y.host&&(x.addr==y.addr&&(x.port==y.port&&(x.service==y.service&&true))))))
def Svc.eqB (x y:Svc):Bool:=x.id==y.id&&(eqS x.ns y.ns&&(x.addr==y.addr&&(x.port==y.port&&(x.way==y.way&&true))))
def Way.eqB (x y:Way):Bool:=x.id==y.id&&(x.node==y.node&&true)
def Term.eqB (x y:Term):Bool:=x.kind==y.kind&&(eqS x.text y.text&&true)
def Cidr.eqB (x y:Cidr):Bool:=x.addr==y.addr&&(x.bits==y.bits&&true)
theorem Pod.eqB_iff {x y:Pod}:x.eqB y=true↔x=y:=by
 cases x; cases y; simp [Pod.eqB,eqS_iff]
theorem Svc.eqB_iff {x y:Svc}:x.eqB y=true↔x=y:=by
 cases x; cases y; simp [Svc.eqB,eqS_iff]
theorem Way.eqB_iff {x y:Way}:x.eqB y=true↔x=y:=by
 cases x; cases y; simp [Way.eqB]
theorem Term.eqB_iff {x y:Term}:x.eqB y=true↔x=y:=by
 cases x; cases y; simp [Term.eqB,eqS_iff]
theorem Cidr.eqB_iff {x y:Cidr}:x.eqB y=true↔x=y:=by
 cases x; cases y; simp [Cidr.eqB]
section
variable {h:Hp}{n:Bool}
@[simp] theorem Ng {x y:Pod}:eqv (.agg [(.i .u64),.s,.s,(.i .i64),(.i .u32),(.i .i64),(.i .u64)]) n (ag x.c) (ag y.c) h=some (.d (.bool (x.eqB y != n)),h):=by
 simp [eqv,iM,ag,Pod.c,bE,nZ,Pod.eqB,eqS]
@[simp] theorem Nh {x y:Svc}:eqv (.agg [(.i .u64),.s,(.i .u32),(.i .i64),(.i .u64)]) n (ag x.c) (ag y.c) h=some (.d (.bool (x.eqB y != n)),h):=by
 simp [eqv,iM,ag,Svc.c,bE,nZ,Svc.eqB,eqS]
@[simp] theorem Ni {x y:Way}:eqv (.agg [(.i .u64),(.i .i64)]) n (ag x.c) (ag y.c) h=some (.d (.bool (x.eqB y != n)),h):=by
 simp [eqv,iM,ag,Way.c,bE,nZ,Way.eqB]
@[simp] theorem JJ {x y:Term}:eqv (.agg [(.i .i64),.s]) n (ag x.c) (ag y.c) h=some (.d (.bool (x.eqB y != n)),h):=by
 simp [eqv,iM,ag,Term.c,bE,nZ,Term.eqB,eqS]
@[simp] theorem JI {x y:Cidr}:eqv (.agg [(.i .u32),(.i .i64)]) n (ag x.c) (ag y.c) h=some (.d (.bool (x.eqB y != n)),h):=by
 simp [eqv,iM,ag,Cidr.c,bE,nZ,Cidr.eqB]
end
def all2 {α β:Type}(f:α->β->Bool):List α->List β->Bool
 | [],[]=>true
 | x::l,y::m=>f x y&&all2 f l m
 | _,_=>false
theorem Af {α β:Type}{f:α->β->Bool}:∀ {l:List α} {m:List β},all2 f l m=true->l.length=m.length
 | [],[],_=>rfl
 | x::l,y::m,h=>by simp [all2] at h; simp [Af h.2]
 | [],y::m,h=>by simp [all2] at h
 | x::l,[],h=>by simp [all2] at h
theorem fZ {α β:Type}{f:α->β->Bool}{l:List α}{m:List β}(h:l.length≠m.length):all2 f l m=false:=by
 cases hx:all2 f l m with
 | false=>rfl
 | true=>exact absurd (Af hx) h
theorem dY {α:Type}{f:α->α->Bool}(hf:∀ x,f x x=true):∀ l:List α,all2 f l l=true
 | []=>rfl
 | x::l=>by simp [all2,hf,dY hf l]
theorem Ag {α β γ:Type}{f:α->β->Bool}(g:γ->α):∀ (l:List γ) (m:List β),all2 f (l.map g) m=all2 (λx y=>f (g x) y) l m
 | [],[]=>rfl
 | x::l,y::m=>by simp [all2,Ag g l m]
 | [],y::m=>rfl
 | x::l,[]=>rfl
theorem fO {α β:Type}{f:α->β->Bool}{l:List α}{m:List β}{i:Nat}(h1:i<l.length)(h2:i<m.length):all2 f (l.drop i) (m.drop i)=(f l[i] m[i]&&all2 f (l.drop (i+1)) (m.drop (i+1))):=by
 rw [aw h1,aw h2]; rfl
def Source.same (a b:Source):Bool:=all2 Term.eqB a.names.l b.names.l&&(all2 Term.eqB a.spaces.l b.spaces.l&&all2 Cidr.eqB a.nets.l b.nets.l)
def Target.same (a b:Target):Bool:=all2 Term.eqB a.methods.l b.methods.l&&(all2 Term.eqB a.paths.l b.paths.l&&(all2 Term.eqB a.hosts.l b.hosts.l&&all2 (λx y:Int=>x==y) a.ports.l b.ports.l))
def When.same (a b:When):Bool:=eqS a.head b.head&&all2 Term.eqB a.terms.l b.terms.l
def Rule.same (a b:Rule):Bool:=all2 Source.same a.frm.l b.frm.l&&(all2 Target.same a.to.l b.to.l&&all2 When.same a.whn.l b.whn.l)
def Pol.same (a b:Pol):Bool:=a.id==b.id&&(eqS a.ns b.ns&&(a.service==b.service&&(a.deny==b.deny&&all2 Rule.same a.rules.l b.rules.l)))
theorem qK (l:List Term):all2 Term.eqB l l=true:=dY (λ_=>Term.eqB_iff.2 rfl) l
theorem Source.same_refl (a:Source):a.same a=true:=by simp [Source.same,qK,dY (λ_=>Cidr.eqB_iff.2 rfl)]
theorem Target.same_refl (a:Target):a.same a=true:=by simp [Target.same,qK,dY]
theorem When.same_refl (a:When):a.same a=true:=by simp [When.same,qK]
theorem Rule.same_refl (a:Rule):a.same a=true:=by simp [Rule.same,dY Source.same_refl,dY Target.same_refl,dY When.same_refl]
theorem Pol.same_refl (a:Pol):a.same a=true:=by simp [Pol.same,dY Rule.same_refl]
end
section
variable {E:Calls'}
theorem F8 {s:Sl Term}(hs:short s)(h:Hp):Sm E TT ah 304 [.d (s.d Term.c)] h=some (.d (s.d Term.c),h) :=
 dE (z:=2) (b:=24) (zero:=[(.d (.int .i64 0)),(.d (.str ⟨#[]⟩))]) da7 ds6 (by decide) (by decide) (λ_=>rfl) hs h
theorem bk5 {s:Sl Cidr}(hs:short s)(h:Hp):Sm E TT ah 305 [.d (s.d Cidr.c)] h=some (.d (s.d Cidr.c),h) :=
 dE (z:=2) (b:=16) (zero:=[(.d (.int .u32 0)),(.d (.int .i64 0))]) da8 ds7 (by decide) (by decide) (λ_=>rfl) hs h
theorem bk6 {s:Sl Int}(hs:short s)(h:Hp):Sm E TT ah 306 [.d (s.d jU)] h=some (.d (s.d jU),h) :=
 dE (z:=1) (b:=8) (zero:=[(.d (.int .i64 0))]) da9 ds8 (by decide) (by decide) (λ_=>rfl) hs h
theorem bi4 (s:Source)(hs:s.fits big)(h:Hp):Sm E TT ah 248 [ag s.c] h=some (ag s.c,h):=by
 rw [aN cz1 dq6];simp +decide [aa,Uz,ay,ae,F8 hs.1,F8 hs.2.1,bk5 hs.2.2];rfl
theorem bi6 (s:Target)(hs:s.fits big)(h:Hp):Sm E TT ah 250 [ag s.c] h=some (ag s.c,h):=by
 rw [aN cz3 dq8];simp +decide [aa,UA,ay,ae,bk6 hs.1,F8 hs.2.1,F8 hs.2.2.1,F8 hs.2.2.2];rfl
@[simp] theorem When.p1 {x:When}{v:V}:put (x.c.map V.d) 1 [v]=some [.d (.str x.head),v]:=rfl
@[simp] theorem Pol.p4 {x:Pol}{v:V}:put (x.c.map V.d) 4 [v]=some [.d (u64 x.id),.d (.str x.ns),.d (u64 x.service),.d (i64 x.deny),v]:=rfl
theorem bi8 (s:When)(hs:s.fits big)(h:Hp):Sm E TT ah 252 [ag s.c] h=some (ag s.c,h):=by
 rw [aN cz5 dr0];simp [aa,UB,F8 hs];rfl
def sl0 (n:Nat):List V:=List.replicate n (.d (.slice true []))
theorem bi3 {s:Sl Source}(hs:short s)(hf:∀ x∈s.l,x.fits big)(h:Hp):Sm E TT ah 247 [.d (s.d Source.c),.fn 248 []] h=some (.d (Sl.d Source.c ⟨s.l.isEmpty,s.l⟩),h):=by
 have:=Eh (E:=E) (T:=TT) (val:=ah) (cells:=Source.c) (z:=3) (by_:=72) (zero:=sl0 3) cz0 dq5 (λ_=>rfl) (by decide) (by decide) rfl hs (f:=248) (g:=id) (λe he h=>bi4 e (hf e he) h) h;simpa using this
theorem bi5 {s:Sl Target}(hs:short s)(hf:∀ x∈s.l,x.fits big)(h:Hp):Sm E TT ah 249 [.d (s.d Target.c),.fn 250 []] h=some (.d (Sl.d Target.c ⟨s.l.isEmpty,s.l⟩),h):=by
 have:=Eh (E:=E) (T:=TT) (val:=ah) (cells:=Target.c) (z:=4) (by_:=96) (zero:=sl0 4) cz2 dq7 (λ_=>rfl) (by decide) (by decide) rfl hs (f:=250) (g:=id) (λe he h=>bi6 e (hf e he) h) h;simpa using this
theorem bi7 {s:Sl When}(hs:short s)(hf:∀ x∈s.l,x.fits big)(h:Hp):Sm E TT ah 251 [.d (s.d When.c),.fn 252 []] h=some (.d (Sl.d When.c ⟨s.l.isEmpty,s.l⟩),h):=by
 have:=Eh (E:=E) (T:=TT) (val:=ah) (cells:=When.c) (z:=2) (by_:=40) (zero:=[(.d (.str ⟨#[]⟩)),(.d (.slice true []))]) cz4 dq9 (λ_=>rfl) (by decide) (by decide) rfl hs (f:=252) (g:=id) (λe he h=>bi8 e (hf e he) h) h;simpa using this
def Rule.own (r:Rule):Rule:=⟨⟨r.frm.l.isEmpty,r.frm.l⟩,⟨r.to.l.isEmpty,r.to.l⟩,⟨r.whn.l.isEmpty,r.whn.l⟩⟩
def Pol.own (p:Pol):Pol:={ p with rules:=⟨p.rules.l.isEmpty,p.rules.l.map Rule.own⟩ }
theorem bg7 (r:Rule)(hr:r.fits big)(h:Hp):Sm E TT ah 164 [ag r.c] h=some (ag r.own.c,h):=by
 rw [aN cw0 dn8];simp +decide [aa,Ug,ay,ae,bi3 hr.1.1 hr.1.2,bi5 hr.2.1.1 hr.2.1.2,bi7 hr.2.2.1 hr.2.2.2];rfl
theorem bg6 {s:Sl Rule}(hs:short s)(hf:∀ x∈s.l,x.fits big)(h:Hp):Sm E TT ah 163 [.d (s.d Rule.c),.fn 164 []] h=some (.d (Sl.d Rule.c ⟨s.l.isEmpty,s.l.map Rule.own⟩),h) :=
 Eh (E:=E) (T:=TT) (val:=ah) (cells:=Rule.c) (z:=3) (by_:=72) (zero:=sl0 3) cv9 dn7 (λ_=>rfl) (by decide) (by decide) rfl hs (f:=164) (g:=Rule.own) (λe he h=>bg7 e (hf e he) h) h
theorem Q3 (p:Pol)(hp:p.fits big)(h:Hp):Sm E TT ah 88 [ag p.c] h=some (ag p.own.c,h):=by
 rw [aN ct8 dl5];simp [aa,Ty,bg6 hp.1 hp.2];rfl
end
section
variable {E:Calls'}
theorem aA {i n:Nat}(h:i<n)(hn:n<2 ^ 62):wrap .i64 ((i:Int)+1)=((i+1:Nat):Int):=by rw [wrap64]<;>omega
theorem bc8 {a b:Sl Term}(ha:short a)(hl:a.l.length=b.l.length)(h:Hp):∀ (m i:Nat),i+m=a.l.length →
 Cd E TT ah (.loop [0,1,5] nk) [(0,.d (a.d Term.c)),(1,.d (b.d Term.c)),(5,.d (i64 i))] h=if all2 Term.eqB (a.l.drop i) (b.l.drop i)=true then some (.exit 0,[],h) else some (.ret,[(4,bl false)],h):=by
 have hlt:=ha.lt;intro m;have key:=ak (E:=E) (T:=TT) (val:=ah) [0,1,5] nk;generalize Cd E TT ah (.loop [0,1,5] nk)=W at key ⊢
 induction m with
 | zero =>
  intro i hi;rw [key,ba (by omega),ba (by omega)];simp [nk,all2,show ¬ ((i:Int)<a.l.length) from by omega]
 | succ m ih =>
  intro i hi;have h1:i<a.l.length:=by omega
  have h2:i<b.l.length:=by omega
  have hx:=λh=>aK (z:=2) h (ab h1) (cells:=Term.c) rfl;have hy:=λh=>aK (z:=2) h (ab h2) (cells:=Term.c) rfl;have hw:=aA h1 hlt;have:=ih (i+1) (by omega);rw [key,fO h1 h2];cases hq:Term.eqB a.l[i] b.l[i] with
  | true =>
   simp [nk,hx,hy,hq,hw,show ((i:Int)<a.l.length) from by omega];simpa using this
  | false=>simp [nk,hx,hy,hq,show ((i:Int)<a.l.length) from by omega]
theorem lX {a b:Sl Term}(ha:short a)(h:Hp):Sm E TT ah 340 [.d (a.d Term.c),.d (b.d Term.c)] h=some (bl (all2 Term.eqB a.l b.l),h):=by
 rw [aN t183 v183];by_cases hl:a.l.length=b.l.length
 . have hL:=bc8 (E:=E) ha hl ⟨[],0⟩ a.l.length 0 (by omega);simp at hL;simp [aa,NU,hl];rw [aj];simp [hL];cases hq:all2 Term.eqB a.l b.l<;>simp
 . have hl':¬ ((a.l.length:Int)=b.l.length):=by omega
   simp [aa,NU,hl',fZ hl]
theorem bc9 {a b:Sl Cidr}(ha:short a)(hl:a.l.length=b.l.length)(h:Hp):∀ (m i:Nat),i+m=a.l.length →
 Cd E TT ah (.loop [0,1,5] ny) [(0,.d (a.d Cidr.c)),(1,.d (b.d Cidr.c)),(5,.d (i64 i))] h=if all2 Cidr.eqB (a.l.drop i) (b.l.drop i)=true then some (.exit 0,[],h) else some (.ret,[(4,bl false)],h):=by
 have hlt:=ha.lt;intro m;have key:=ak (E:=E) (T:=TT) (val:=ah) [0,1,5] ny;generalize Cd E TT ah (.loop [0,1,5] ny)=W at key ⊢
 induction m with
 | zero =>
  intro i hi;rw [key,ba (by omega),ba (by omega)];simp [ny,all2,show ¬ ((i:Int)<a.l.length) from by omega]
 | succ m ih =>
  intro i hi;have h1:i<a.l.length:=by omega
  have h2:i<b.l.length:=by omega
  have hx:=λh=>aK (z:=2) h (ab h1) (cells:=Cidr.c) rfl;have hy:=λh=>aK (z:=2) h (ab h2) (cells:=Cidr.c) rfl;have hw:=aA h1 hlt;have:=ih (i+1) (by omega);rw [key,fO h1 h2];cases hq:Cidr.eqB a.l[i] b.l[i] with
  | true =>
   simp [ny,hx,hy,hq,hw,show ((i:Int)<a.l.length) from by omega];simpa using this
  | false=>simp [ny,hx,hy,hq,show ((i:Int)<a.l.length) from by omega]
theorem Xi {a b:Sl Cidr}(ha:short a)(h:Hp):Sm E TT ah 341 [.d (a.d Cidr.c),.d (b.d Cidr.c)] h=some (bl (all2 Cidr.eqB a.l b.l),h):=by
 rw [aN cu0 dl7];by_cases hl:a.l.length=b.l.length
 . have hL:=bc9 (E:=E) ha hl ⟨[],0⟩ a.l.length 0 (by omega);simp at hL;simp [aa,NV,hl];rw [aj];simp [hL];cases hq:all2 Cidr.eqB a.l b.l<;>simp
 . have hl':¬ ((a.l.length:Int)=b.l.length):=by omega
   simp [aa,NV,hl',fZ hl]
theorem WQ {a b:Rule}(ha:a.fits big)(hl:a.frm.l.length=b.frm.l.length):∀ (m i:Nat) (J:List Blk),i+m=a.frm.l.length →
 ∃ J',Cd E TT ah (.loop [2,3,5] qD) [(2,.ptr 0 0),(3,.ptr 1 0),(5,.d (i64 i))] ⟨.cells (a.c.map .d)::.cells (b.c.map .d)::J,0⟩ =
  if all2 Source.same (a.frm.l.drop i) (b.frm.l.drop i)=true then some (.exit 0,[(2,.ptr 0 0),(3,.ptr 1 0)],⟨.cells (a.c.map .d)::.cells (b.c.map .d)::J',0⟩)
  else some (.ret,[(4,bl false)],⟨.cells (a.c.map .d)::.cells (b.c.map .d)::J',0⟩):=by
 have hlt:=ha.1.1.lt;intro m;have key:=ak (E:=E) (T:=TT) (val:=ah) [2,3,5] qD;generalize Cd E TT ah (.loop [2,3,5] qD)=W at key ⊢
 induction m with
 | zero =>
  intro i J hi;refine ⟨J,?_⟩;rw [key,ba (by omega),ba (by omega)];simp [qD,all2,show ¬ ((i:Int)<a.frm.l.length) from by omega]
 | succ m ih =>
  intro i J hi;have h1:i<a.frm.l.length:=by omega
  have h2:i<b.frm.l.length:=by omega
  have hx:=λh=>aK (z:=3) h (ab h1) (cells:=Source.c) rfl;have hy:=λh=>aK (z:=3) h (ab h2) (cells:=Source.c) rfl;have hw:=aA h1 hlt;have hfx:=ha.1.2 _ (bh h1);rw [fO h1 h2];generalize a.frm.l[i]=x at *;generalize b.frm.l[i]=y at *;obtain ⟨J',hJ⟩:=ih (i+1) (J++[.cells (x.c.map .d),.cells (y.c.map .d)]) (by omega);cases hA:all2 Term.eqB x.names.l y.names.l<;>cases hB:all2 Term.eqB x.spaces.l y.spaces.l<;>cases hC:all2 Cidr.eqB x.nets.l y.nets.l
  case true.true.true =>
   refine ⟨J',?_⟩;rw [key];simp [qD,hx,hy,ay,bv,Tr.spares,List.range,List.range.loop,lX hfx.1,lX hfx.2.1,Xi hfx.2.2,hA,hB,hC,hw,Source.same,show ((i:Int)<a.frm.l.length) from by omega];simpa using hJ
  all_goals
   refine ⟨J++[.cells (x.c.map .d),.cells (y.c.map .d)],?_⟩;rw [key];simp [qD,hx,hy,ay,bv,Tr.spares,List.range,List.range.loop,lX hfx.1,lX hfx.2.1,Xi hfx.2.2,hA,hB,hC,Source.same,show ((i:Int)<a.frm.l.length) from by omega]
theorem WR {x y:Target}(hx:short x.ports)(hl:x.ports.l.length=y.ports.l.length){h:Hp}{p q:Nat}{t2 t3 t8:V}(hp:ai h.bs p=some (x.c.map .d))(hq:ai h.bs q=some (y.c.map .d)):∀ (m i:Nat),i+m=x.ports.l.length →
 Cd E TT ah (.loop [2,3,8,9,10,11] qE) [(2,t2),(3,t3),(8,t8),(9,.ptr p 0),(10,.ptr q 0),(11,.d (i64 i))] h =
  if all2 (λx y:Int=>x==y) (x.ports.l.drop i) (y.ports.l.drop i)=true then some (.exit 4,[(2,t2),(3,t3),(8,t8)],h) else some (.ret,[(4,bl false)],h):=by
 have hlt:=hx.lt;intro m;have key:=ak (E:=E) (T:=TT) (val:=ah) [2,3,8,9,10,11] qE;generalize Cd E TT ah (.loop [2,3,8,9,10,11] qE)=W at key ⊢
 induction m with
 | zero =>
  intro i hi;rw [key,ba (by omega),ba (by omega)];simp [qE,all2,hp,show ¬ ((i:Int)<x.ports.l.length) from by omega]
 | succ m ih =>
  intro i hi;have h1:i<x.ports.l.length:=by omega
  have h2:i<y.ports.l.length:=by omega
  have hx:=λh=>aK (z:=1) h (ab h1) (cells:=jU) rfl;have hy:=λh=>aK (z:=1) h (ab h2) (cells:=jU) rfl;have hw:=aA h1 hlt;have:=ih (i+1) (by omega);rw [key,fO h1 h2];generalize x.ports.l[i]=u at *;generalize y.ports.l[i]=w at *;by_cases hu:u=w
  . subst hu;simp [qE,hp,hq,hx,hy,hw,jU,show ((i:Int)<x.ports.l.length) from by omega];simpa using this
  . simp [qE,hp,hq,hx,hy,hu,jU,show ((i:Int)<x.ports.l.length) from by omega]
theorem WS {a b:Rule}(ha:a.fits big)(hl:a.to.l.length=b.to.l.length):∀ (m i:Nat) (J:List Blk),i+m=a.to.l.length →
 ∃ J',Cd E TT ah (.loop [2,3,8] kN) [(2,.ptr 0 0),(3,.ptr 1 0),(8,.d (i64 i))] ⟨.cells (a.c.map .d)::.cells (b.c.map .d)::J,0⟩ =
  if all2 Target.same (a.to.l.drop i) (b.to.l.drop i)=true then some (.exit 2,[(2,.ptr 0 0),(3,.ptr 1 0)],⟨.cells (a.c.map .d)::.cells (b.c.map .d)::J',0⟩)
  else some (.ret,[(4,bl false)],⟨.cells (a.c.map .d)::.cells (b.c.map .d)::J',0⟩):=by
 have hlt:=ha.2.1.1.lt;intro m;have key:=ak (E:=E) (T:=TT) (val:=ah) [2,3,8] kN;generalize Cd E TT ah (.loop [2,3,8] kN)=W at key ⊢
 induction m with
 | zero =>
  intro i J hi;refine ⟨J,?_⟩;rw [key,ba (by omega),ba (by omega)];simp [kN,all2,show ¬ ((i:Int)<a.to.l.length) from by omega]
 | succ m ih =>
  intro i J hi;have h1:i<a.to.l.length:=by omega
  have h2:i<b.to.l.length:=by omega
  have hx:=λh=>aK (z:=4) h (ab h1) (cells:=Target.c) rfl;have hy:=λh=>aK (z:=4) h (ab h2) (cells:=Target.c) rfl;have hw:=aA h1 hlt;have hfx:=ha.2.1.2 _ (bh h1);rw [fO h1 h2];generalize a.to.l[i]=x at *;generalize b.to.l[i]=y at *;obtain ⟨J',hJ⟩:=ih (i+1) (J++[.cells (x.c.map .d),.cells (y.c.map .d)]) (by omega);by_cases hA:all2 Term.eqB x.methods.l y.methods.l=true
  case neg =>
   refine ⟨J++[.cells (x.c.map .d),.cells (y.c.map .d)],?_⟩;simp only [Bool.not_eq_true] at hA;rw [key];simp [kN,hx,hy,ay,bv,Tr.spares,List.range,List.range.loop,lX hfx.2.1,hA,Target.same,show ((i:Int)<a.to.l.length) from by omega]
  by_cases hB:all2 Term.eqB x.paths.l y.paths.l=true
  case neg =>
   refine ⟨J++[.cells (x.c.map .d),.cells (y.c.map .d)],?_⟩;simp only [Bool.not_eq_true] at hB;rw [key];simp [kN,hx,hy,ay,bv,Tr.spares,List.range,List.range.loop,lX hfx.2.1,lX hfx.2.2.1,hA,hB,Target.same,show ((i:Int)<a.to.l.length) from by omega]
  by_cases hC:all2 Term.eqB x.hosts.l y.hosts.l=true
  case neg =>
   refine ⟨J++[.cells (x.c.map .d),.cells (y.c.map .d)],?_⟩;simp only [Bool.not_eq_true] at hC;rw [key];simp [kN,hx,hy,ay,bv,Tr.spares,List.range,List.range.loop,lX hfx.2.1,lX hfx.2.2.1,lX hfx.2.2.2,hA,hB,hC,Target.same,show ((i:Int)<a.to.l.length) from by omega]
  by_cases hD:x.ports.l.length=y.ports.l.length
  case neg =>
   refine ⟨J++[.cells (x.c.map .d),.cells (y.c.map .d)],?_⟩;have hD':¬ ((x.ports.l.length:Int)=y.ports.l.length):=by omega
   rw [key];simp [kN,hx,hy,ay,bv,Tr.spares,List.range,List.range.loop,lX hfx.2.1,lX hfx.2.2.1,lX hfx.2.2.2,hA,hB,hC,hD',fZ hD,Target.same,show ((i:Int)<a.to.l.length) from by omega]
  have hin:=WR (E:=E) (x:=x) (y:=y) hfx.1 hD (h:=⟨.cells (a.c.map .d)::.cells (b.c.map .d)::(J++[.cells (x.c.map .d),.cells (y.c.map .d)]),0⟩) (p:=J.length+1+1) (q:=J.length+1+1+1) (t2:=.ptr 0 0) (t3:=.ptr 1 0) (t8:=.d (i64 i)) (by simp) (by simp) x.ports.l.length 0 (by omega);simp at hin;by_cases hF:all2 (λx y:Int=>x==y) x.ports.l y.ports.l=true
  . refine ⟨J',?_⟩;rw [key];simp [kN,hx,hy,ay,bv,Tr.spares,List.range,List.range.loop,lX hfx.2.1,lX hfx.2.2.1,lX hfx.2.2.2,hA,hB,hC,hD,Target.same,show ((i:Int)<a.to.l.length) from by omega];rw [aj];simp [hin,hF,hw];simpa using hJ
  . refine ⟨J++[.cells (x.c.map .d),.cells (y.c.map .d)],?_⟩;rw [key];simp [kN,hx,hy,ay,bv,Tr.spares,List.range,List.range.loop,lX hfx.2.1,lX hfx.2.2.1,lX hfx.2.2.2,hA,hB,hC,hD,Target.same,show ((i:Int)<a.to.l.length) from by omega];rw [aj];simp [hin,hF]
theorem WT {a b:Rule}(ha:a.fits big)(hl:a.whn.l.length=b.whn.l.length)(J:List Blk):∀ (m i:Nat),i+m=a.whn.l.length →
 Cd E TT ah (.loop [2,3,12] oP) [(2,.ptr 0 0),(3,.ptr 1 0),(12,.d (i64 i))] ⟨.cells (a.c.map .d)::.cells (b.c.map .d)::J,0⟩ =
  if all2 When.same (a.whn.l.drop i) (b.whn.l.drop i)=true then some (.exit 6,[],⟨.cells (a.c.map .d)::.cells (b.c.map .d)::J,0⟩)
  else some (.ret,[(4,bl false)],⟨.cells (a.c.map .d)::.cells (b.c.map .d)::J,0⟩):=by
 have hlt:=ha.2.2.1.lt;intro m;have key:=ak (E:=E) (T:=TT) (val:=ah) [2,3,12] oP;generalize Cd E TT ah (.loop [2,3,12] oP)=W at key ⊢
 induction m with
 | zero =>
  intro i hi;rw [key,ba (by omega),ba (by omega)];simp [oP,all2,show ¬ ((i:Int)<a.whn.l.length) from by omega]
 | succ m ih =>
  intro i hi;have h1:i<a.whn.l.length:=by omega
  have h2:i<b.whn.l.length:=by omega
  have hx:=λh=>aK (z:=2) h (ab h1) (cells:=When.c) rfl;have hy:=λh=>aK (z:=2) h (ab h2) (cells:=When.c) rfl;have hw:=aA h1 hlt;have hfx:=ha.2.2.2 _ (bh h1);have:=ih (i+1) (by omega);rw [key,fO h1 h2];generalize a.whn.l[i]=x at *;generalize b.whn.l[i]=y at *;cases hA:eqS x.head y.head
  case false=>simp [oP,hx,hy,ay,bv,Tr.spares,bM,List.range,List.range.loop,hA,When.same,show ((i:Int)<a.whn.l.length) from by omega]
  cases hB:all2 Term.eqB x.terms.l y.terms.l
  case false=>simp [oP,hx,hy,ay,ae,bv,Tr.spares,List.range,List.range.loop,lX hfx,hA,hB,When.same,show ((i:Int)<a.whn.l.length) from by omega]
  simp [oP,hx,hy,ay,ae,bv,Tr.spares,List.range,List.range.loop,lX hfx,hA,hB,hw,When.same,show ((i:Int)<a.whn.l.length) from by omega];simpa using this
end
section
def aU:List Int->Bool
 | x::y::l=>decide (x<y)&&aU (y::l)
 | _=>true
theorem jI {l:List Int}{i:Nat}(h:i+1<l.length):aU (l.drop i)=(decide (l[i]<l[i+1])&&aU (l.drop (i+1))):=by
 rw [aw (show i<l.length by omega),aw h];simp only [aU]
theorem kQ {l:List Int}{i:Nat}(h:l.length<=i+1):aU (l.drop i)=true:=by
 have:(l.drop i).length<=1:=by simp only [List.length_drop]; omega
 match l.drop i,this with
 | [],_=>rfl
 | [_],_=>rfl
 | _::_::_,h=>simp at h
theorem mV {α:Type}{cells:α->List D}{z:Nat}(hz:∀ x,(cells x).length=z){s:Sl α}{i:Nat}(hi:i<s.l.length){kd:IntKind}{h:Hp}:iB none z (.d (s.d cells)) (.d (.int kd i)) h=some (.eptr (cells s.l[i]) 0,h):=by
 simp [iB,Sl.d,hi,hz]
section
variable {E:Calls'}{T:FuncId->Option QF}{val:FuncId->Bool}
theorem Lf {α:Type}{cells:α->List D}{z:Nat}(hz:∀ x,(cells x).length=z){s:Sl α}(hs:s.l.length<2 ^ 62){f:FuncId}{g:α->Int}(hf:∀ e∈s.l,∀ h,Sm E T val f [ag (cells e)] h=some (.d (u64 (g e)),h)):∀ (m i:Nat),i+m=s.l.length->1<=i →
 Cd E T val (.loop [0,1,7,8] (wT z)) [(0,.d (s.d cells)),(1,.fn f []),(7,.d (i64 s.l.length)),(8,.d (i64 i))] ⟨[],0⟩ =
  if aU ((s.l.map g).drop (i-1)) then some (.exit 0,[],⟨[],0⟩) else some (.ret,[(4,bl false)],⟨[],0⟩):=by
 intro m;have key:=ak (E:=E) (T:=T) (val:=val) [0,1,7,8] (wT z);generalize Cd E T val (.loop [0,1,7,8] (wT z))=W at key ⊢
 induction m with
 | zero =>
  intro i hi h1;rw [key,kQ (by simp; omega)];simp [wT,show ¬ ((i:Int)<s.l.length) from by omega]
 | succ m ih =>
  intro i hi h1;have hlt:i<s.l.length:=by omega
  have hd:=jI (l:=s.l.map g) (i:=i-1) (by simp; omega);have hs1:i-1+1=i:=by omega
  simp only [hs1,List.getElem_map] at hd;have hp1:=λh=>mV (cells:=cells) hz hlt (kd:=.i64) (h:=h);have hp0:=λh=>mV (cells:=cells) hz (show i-1<s.l.length by omega) (kd:=.i64) (h:=h);have c1:=hf _ (bh hlt);have c0:=hf _ (bh (show i-1<s.l.length by omega));have hw:=aA hlt hs;have hwm:wrap .i64 ((i:Int)-1)=((i-1:Nat):Int):=by rw [wrap64]<;>omega
  have hpos:0<i:=h1;have hih:=ih (i+1) (by omega) (by omega);simp only [show i+1-1=i by omega] at hih;rw [key,hd];generalize s.l[i]=y at *;generalize s.l[i-1]=x at *;have hsx:=bL (hz x);have hsy:=bL (hz y);by_cases hg:g x<g y
  . simp +decide [wT,hp1,hp0,hsx,hsy,hwm,hw,hpos,c0,c1,hlt,hg,ay,ae,show ¬ (g x>=g y) from by omega];simpa using hih
  . simp +decide [wT,hp1,hp0,hsx,hsy,hwm,hpos,c0,c1,hlt,hg,ay,ae,show g x>=g y from by omega]
theorem uO {α:Type}{cells:α->List D}{z:Nat}{id:FuncId}(ht:T id=some (risQ z))(hv:val id=true)(hz:∀ x,(cells x).length=z){s:Sl α}(hs:s.l.length<2 ^ 62){f:FuncId}{g:α->Int}(hf:∀ e∈s.l,∀ h,Sm E T val f [ag (cells e)] h=some (.d (u64 (g e)),h))(h:Hp) :
 Sm E T val id [.d (s.d cells),.fn f []] h=some (bl (aU (s.l.map g)),h):=by
 rw [aN ht hv];have hfr:frz h (.fn f [])=some (.fn f []):=rfl;have key:=ak (E:=E) (T:=T) (val:=val) [0,1,7,8] (wT z);have hl:=Lf (E:=E) (T:=T) (val:=val) hz hs hf;simp [aa,risQ,hfr];rw [aj];simp only [ji,kz];simp;generalize Cd E T val (.loop [0,1,7,8] (wT z))=W at key hl ⊢;by_cases h0:s.l=[]
 . rw [key];simp [wT,h0,aU,dn]
 . have hpos:0<s.l.length:=List.length_pos_iff.2 h0;have h1:=hl (s.l.length-1) 1 (by omega) (by omega);simp at h1;rw [key];have hw:=aA hpos hs;simp at hw;simp +decide [wT,ay,bM,hpos,hw,h1];cases aU (s.l.map g)<;>simp [dn]
theorem fG {con id:FuncId}(ht:T id=some (someQ con))(hv:val id=false){v:V}{f:FuncId}{caps:List V}{b:Bool}{h:Hp}(hnu:nu v=some v)(hok:okV v=true)(hc:Sm E T val con [v,.fn f caps] ⟨h.bs,h.bs.length⟩=some (bl b,⟨h.bs,h.bs.length⟩)) :
 Sm E T val id [v,.fn f caps] h=some (bl b,h):=by
 rw [ax ht hv];simp [someQ,aa,hnu,hok,hc,V.under]
end
end
section
variable {E:Calls'}
theorem S86 (a b:Rule)(ha:a.fits big)(h:Hp):Sm E TT ah 287 [ag a.c,ag b.c] h=some (bl (a.same b),h):=by
 rw [aN t86 v86];by_cases h1:a.frm.l.length=b.frm.l.length
 case neg =>
  have h1':¬ ((a.frm.l.length:Int)=b.frm.l.length):=by omega
  simp [aa,q86,h1',Rule.same,fZ h1]
 by_cases h2:a.to.l.length=b.to.l.length
 case neg =>
  have h1':¬ ((a.to.l.length:Int)=b.to.l.length):=by omega
  simp [aa,q86,h1,h1',Rule.same,fZ h2]
 by_cases h3:a.whn.l.length=b.whn.l.length
 case neg =>
  have h1':¬ ((a.whn.l.length:Int)=b.whn.l.length):=by omega
  simp [aa,q86,h1,h2,h1',Rule.same,fZ h3]
 obtain ⟨J1,k1⟩:=WQ (E:=E) ha h1 a.frm.l.length 0 [] (by omega);obtain ⟨J2,k2⟩:=WS (E:=E) ha h2 a.to.l.length 0 J1 (by omega);have k3:=WT (E:=E) ha h3 J2 a.whn.l.length 0 (by omega);simp at k1 k2 k3;simp [aa,q86,h1,h2,h3];rw [aj];simp [k1];cases hA:all2 Source.same a.frm.l b.frm.l
 case false=>simp [Rule.same,hA]
 simp;rw [aj];simp [k2];cases hB:all2 Target.same a.to.l b.to.l
 case false=>simp [Rule.same,hA,hB]
 simp;rw [aj];simp [k3];cases hC:all2 When.same a.whn.l b.whn.l
 case false=>simp [Rule.same,hA,hB,hC]
 simp [Rule.same,hA,hB,hC]
theorem L29 {a b:Pol}(ha:a.ok)(hl:a.rules.l.length=b.rules.l.length):∀ (m i:Nat),i+m=a.rules.l.length →
 Cd E TT ah (.loop [2,3,5] qy) [(2,.ptr 0 0),(3,.ptr 1 0),(5,.d (i64 i))] ⟨[.cells (a.c.map .d),.cells (b.c.map .d)],0⟩ =
  if all2 Rule.same (a.rules.l.drop i) (b.rules.l.drop i)=true then some (.exit 0,[],⟨[.cells (a.c.map .d),.cells (b.c.map .d)],0⟩)
  else some (.ret,[(4,bl false)],⟨[.cells (a.c.map .d),.cells (b.c.map .d)],0⟩):=by
 have hlt:=ha.1.lt;intro m;have key:=ak (E:=E) (T:=TT) (val:=ah) [2,3,5] qy;generalize Cd E TT ah (.loop [2,3,5] qy)=W at key ⊢
 induction m with
 | zero =>
  intro i hi;rw [key,ba (by omega),ba (by omega)];simp [qy,all2,show ¬ ((i:Int)<a.rules.l.length) from by omega]
 | succ m ih =>
  intro i hi;have h1:i<a.rules.l.length:=by omega
  have h2:i<b.rules.l.length:=by omega
  have hx:=λh=>aK (z:=3) h (ab h1) (cells:=Rule.c) rfl;have hy:=λh=>aK (z:=3) h (ab h2) (cells:=Rule.c) rfl;have hw:=aA h1 hlt;have hfx:=ha.2 _ (bh h1);have:=ih (i+1) (by omega);rw [key,fO h1 h2];generalize a.rules.l[i]=x at *;generalize b.rules.l[i]=y at *;cases hA:x.same y
  case false=>simp +decide [qy,hx,hy,ay,ae,S86 x y hfx,hA,show ((i:Int)<a.rules.l.length) from by omega]
  simp +decide [qy,hx,hy,ay,ae,S86 x y hfx,hA,hw,show ((i:Int)<a.rules.l.length) from by omega];simpa using this
theorem S29 (a b:Pol)(ha:a.ok)(h:Hp):Sm E TT ah 227 [ag a.c,ag b.c] h=some (bl (a.same b),h):=by
 rw [aN t29 v29];by_cases h1:a.id=b.id
 case neg=>simp [aa,q29,h1,Pol.same]
 cases h2:eqS a.ns b.ns
 case false=>simp [aa,q29,h1,h2,Pol.same]
 by_cases h3:a.service=b.service
 case neg=>simp [aa,q29,h1,h2,h3,Pol.same]
 by_cases h4:a.deny=b.deny
 case neg=>simp [aa,q29,h1,h2,h3,h4,Pol.same]
 by_cases h5:a.rules.l.length=b.rules.l.length
 case neg =>
  have h1':¬ ((a.rules.l.length:Int)=b.rules.l.length):=by omega
  simp [aa,q29,h1,h2,h3,h4,h1',Pol.same,fZ h5]
 have k:=L29 (E:=E) ha h5 a.rules.l.length 0 (by omega);simp at k;simp [aa,q29,h1,h2,h3,h4,h5];rw [aj];simp [k];cases hA:all2 Rule.same a.rules.l b.rules.l
 case false=>simp [Pol.same,hA]
 simp [Pol.same,hA,h1,h2,h3,h4]
theorem Ah:∀ (l:List Rule),all2 Rule.same (l.map Rule.own) l=true
 | []=>rfl
 | r::l=>by
  have h1:r.own.same r=true:=by
   have:=r.same_refl;simpa [Rule.same,Rule.own] using this
  simp [all2,h1,Ah l]
theorem own_same (p:Pol):p.own.same p=true:=by
 simp [Pol.same,Pol.own,Ah]
end
section
variable {E:Calls'}
end
section
variable {E:Calls'}
@[simp] theorem VT (a b:Nat):(a<b\/b<=a)↔True:=⟨λ_=>trivial,λ_=>cn a b⟩
@[simp] theorem em' {p:Prop}:(¬ p\/p)↔True:=⟨λ_=>trivial,λ_=>(Classical.em p).symm⟩
end
section
variable {E:Calls'}
theorem mq {n:Int}:∃ m,bQ .quo (.d (.int .i64 n)) (.d (.int .i64 64))=some (.int .i64 m):=⟨_,by simp [bQ,fH]; rfl⟩
theorem bd0 {s:Sl Term}(hs:short s)(h:Hp):∀ (m i:Nat) (n:Int),i+m=s.l.length →
 ∃ n',Cd E TT ah (.loop [0,3,4] nz) [(0,.d (s.d Term.c)),(3,.d (i64 n)),(4,.d (i64 i))] h=some (.exit 0,[(3,.d (i64 n'))],h):=by
 have hlt:=hs.lt;intro m;have key:=ak (E:=E) (T:=TT) (val:=ah) [0,3,4] nz;generalize Cd E TT ah (.loop [0,3,4] nz)=W at key ⊢
 induction m with
 | zero =>
  intro i n hi;refine ⟨n,?_⟩;rw [key];simp [nz,show ¬ ((i:Int)<s.l.length) from by omega]
 | succ m ih =>
  intro i n hi;have hlt:i<s.l.length:=by omega
  have hx:=λh=>aK (z:=2) h (ab hlt) (cells:=Term.c) rfl;have hw:=aA hlt (by omega);by_cases hn:n<=2000
  . generalize s.l[i]=x at *;obtain ⟨k,hq⟩:=mq (n:=x.text.size);obtain ⟨n',q1⟩:=ih (i+1) (wrap .i64 (n+k)) (by omega);refine ⟨n',?_⟩;rw [key];simp [nz,hx,hq,hw,hn,show ((i:Int)<s.l.length) from by omega];simpa using q1
  . refine ⟨n,?_⟩;rw [key];simp [nz,hn,show ((i:Int)<s.l.length) from by omega]
theorem FZ {s:Sl Term}(hs:short s):∃ n':Int,∀ h,Sm E TT ah 69 [.d (s.d Term.c)] h=some (.d (i64 n'),h):=by
 obtain ⟨n',q1⟩:=bd0 (E:=E) hs ⟨[],0⟩ s.l.length 0 s.l.length (by omega);refine ⟨n',λh=>?_⟩;rw [aN cu1 dl8];simp at q1;simp [aa,T9];rw [aj];simp [q1]
def Tr.mute (t:Tr):Bool:=!t.big&&t.wr.isEmpty&&t.lo==t.hi
theorem av {pr:List (List Nat)}{l:List Tr}(h:l.all Tr.mute=true):bv pr l=true:=by
 have hm:∀ t∈l,t.big=false/\t.wr=[]/\t.lo=t.hi:=by
  intro t ht;have:=ck.1 h t ht;simp only [Tr.mute,aq,Bool.not_eq_true',List.isEmpty_iff,beq_iff_eq] at this;exact ⟨this.1.1,this.1.2,this.2⟩
 simp only [bv,ck,List.mem_range,Bool.or_eq_true];intro i hi j hj;right;rw [ab hi,ab hj];obtain ⟨a1,a2,a3⟩:=hm _ (bh hi);obtain ⟨b1,b2,b3⟩:=hm _ (bh hj);simp only [Tr.spares,a1,b1,a2,a3,Bool.or_self,bm,if_false];split
 . simp
 . simp only [ck];intro b _;simp
theorem WU {r:Rule}(hr:r.fits big){h:Hp}{q:Nat}{t1 t4:V}(hq:ai h.bs q=some (r.c.map .d)):∀ (m i:Nat) (n:Int),i+m=r.frm.l.length →
 ∃ n',Cd E TT ah (.loop [1,3,4,5,6] qF) [(1,t1),(3,.d (i64 n)),(4,t4),(5,.ptr q 0),(6,.d (i64 i))] h=some (.exit 2,[(1,t1),(3,.d (i64 n')),(4,t4),(5,.ptr q 0)],h):=by
 have hlt:=hr.1.1.lt;intro m;have key:=ak (E:=E) (T:=TT) (val:=ah) [1,3,4,5,6] qF;generalize Cd E TT ah (.loop [1,3,4,5,6] qF)=W at key ⊢
 induction m with
 | zero =>
  intro i n hi;refine ⟨n,?_⟩;rw [key];simp [qF,hq,show ¬ ((i:Int)<r.frm.l.length) from by omega]
 | succ m ih =>
  intro i n hi;have h1:i<r.frm.l.length:=by omega
  have hx:=λh=>aK (z:=3) h (ab h1) (cells:=Source.c) rfl;have hw:=aA h1 hlt;have hfx:=hr.1.2 _ (bh h1);by_cases hn:n<=2000
  . generalize r.frm.l[i]=x at *;obtain ⟨k0,hk0⟩:=FZ (E:=E) (s:=x.names) hfx.1;obtain ⟨k1,hk1⟩:=FZ (E:=E) (s:=x.spaces) hfx.2.1;rw [key];simp [qF,hq,hx,ay,ae,av,Tr.mute,hk0,hk1,hw,hn,show ((i:Int)<r.frm.l.length) from by omega];rw [show ((i:Int)+1)=((i+1:Nat):Int) from by omega];exact ih (i+1) _ (by omega)
  . refine ⟨n,?_⟩;rw [key];simp [qF,hq,hn,show ((i:Int)<r.frm.l.length) from by omega]
theorem WV {r:Rule}(hr:r.fits big){h:Hp}{q:Nat}{t1 t4:V}(hq:ai h.bs q=some (r.c.map .d)):∀ (m i:Nat) (n:Int),i+m=r.to.l.length →
 ∃ n',Cd E TT ah (.loop [1,3,4,5,7] qG) [(1,t1),(3,.d (i64 n)),(4,t4),(5,.ptr q 0),(7,.d (i64 i))] h=some (.exit 4,[(1,t1),(3,.d (i64 n')),(4,t4),(5,.ptr q 0)],h):=by
 have hlt:=hr.2.1.1.lt;intro m;have key:=ak (E:=E) (T:=TT) (val:=ah) [1,3,4,5,7] qG;generalize Cd E TT ah (.loop [1,3,4,5,7] qG)=W at key ⊢
 induction m with
 | zero =>
  intro i n hi;refine ⟨n,?_⟩;rw [key];simp [qG,hq,show ¬ ((i:Int)<r.to.l.length) from by omega]
 | succ m ih =>
  intro i n hi;have h1:i<r.to.l.length:=by omega
  have hx:=λh=>aK (z:=4) h (ab h1) (cells:=Target.c) rfl;have hw:=aA h1 hlt;have hfx:=hr.2.1.2 _ (bh h1);by_cases hn:n<=2000
  . generalize r.to.l[i]=x at *;obtain ⟨k0,hk0⟩:=FZ (E:=E) (s:=x.methods) hfx.2.1;obtain ⟨k1,hk1⟩:=FZ (E:=E) (s:=x.paths) hfx.2.2.1;obtain ⟨k2,hk2⟩:=FZ (E:=E) (s:=x.hosts) hfx.2.2.2;rw [key];simp [qG,hq,hx,ay,ae,av,Tr.mute,hk0,hk1,hk2,hw,hn,show ((i:Int)<r.to.l.length) from by omega];rw [show ((i:Int)+1)=((i+1:Nat):Int) from by omega];exact ih (i+1) _ (by omega)
  . refine ⟨n,?_⟩;rw [key];simp [qG,hq,hn,show ((i:Int)<r.to.l.length) from by omega]
theorem WW {r:Rule}(hr:r.fits big){h:Hp}{q:Nat}{t1 t4:V}(hq:ai h.bs q=some (r.c.map .d)):∀ (m i:Nat) (n:Int),i+m=r.whn.l.length →
 ∃ n',Cd E TT ah (.loop [1,3,4,5,8] qH) [(1,t1),(3,.d (i64 n)),(4,t4),(5,.ptr q 0),(8,.d (i64 i))] h=some (.exit 6,[(1,t1),(3,.d (i64 n')),(4,t4)],h):=by
 have hlt:=hr.2.2.1.lt;intro m;have key:=ak (E:=E) (T:=TT) (val:=ah) [1,3,4,5,8] qH;generalize Cd E TT ah (.loop [1,3,4,5,8] qH)=W at key ⊢
 induction m with
 | zero =>
  intro i n hi;refine ⟨n,?_⟩;rw [key];simp [qH,hq,show ¬ ((i:Int)<r.whn.l.length) from by omega]
 | succ m ih =>
  intro i n hi;have h1:i<r.whn.l.length:=by omega
  have hx:=λh=>aK (z:=2) h (ab h1) (cells:=When.c) rfl;have hw:=aA h1 hlt;have hfx:=hr.2.2.2 _ (bh h1);by_cases hn:n<=2000
  . generalize r.whn.l[i]=x at *;obtain ⟨k0,hk0⟩:=FZ (E:=E) (s:=x.terms) hfx;obtain ⟨w,hw2⟩:=mq (n:=x.head.size);rw [key];simp [qH,hq,hx,ay,ae,av,Tr.mute,hk0,hw,hn,hw2,show ((i:Int)<r.whn.l.length) from by omega];rw [show ((i:Int)+1)=((i+1:Nat):Int) from by omega];exact ih (i+1) _ (by omega)
  . refine ⟨n,?_⟩;rw [key];simp [qH,hq,hn,show ((i:Int)<r.whn.l.length) from by omega]
end
section
def Gt (p:Nat)(r:List V):Option Int:=match r[p]? with
 | some (.d (.int .u64 n))=>some n
 | _=>none
def oL (p:Nat)(r:List V):Int:=(Gt p r).getD 0
theorem Gu {p:Nat}{r:List V}{n:Int}(h:Gt p r=some n):r[p]?=some (.d (.int .u64 n)):=by
 unfold Gt at h;split at h
 . rename_i m hm; cases h; exact hm
 . cases h
def chunk (z n:Nat)(cs:List V):List (List V):=(List.range n).map λi=>(cs.drop (i * z)).take z
def gZ (p:Nat)(rs:List (List V)):List (List V):=rs.mergeSort λx y=>decide (oL p x<=oL p y)
structure SF where
 z:Nat
 p:Nat
 g:FuncId
 id:FuncId
def fU (s:SF)(args:List V)(h:Hp):Option (V×Hp):=match args with
 | [.row b 0 n _ z,.fn g [.ptr c 0]]=>match h.get b,h.get c with
  | some cs,some [.fn id []] =>
   if z=s.z/\g=s.g/\id=s.id/\b≠c/\0<n/\n<=2 ^ 40/\n * z<=cs.length/\(∀ r∈chunk z n cs,(Gt s.p r).isSome=true)/\((chunk z n cs).map (oL s.p)).Nodup then
    some (.tup [],h.set b ((gZ s.p (chunk z n cs)).flatten++cs.drop (n * z)))
   else none
  | _,_=>none
 | _=>none
theorem gG {s:SF}{args:List V}{h:Hp}{r:V}{h':Hp}(hm:fU s args h=some (r,h')):LowOk h h':=by
 unfold fU at hm;split at hm
 . split at hm
   . split at hm
     . cases hm; exact LowOk.set _ _ _
     . cases hm
   . cases hm
 . cases hm
end
section
section
variable {E:Calls'}{T:FuncId->Option QF}{val:FuncId->Bool}
theorem rZ {e:List D}{z:Nat}(he:e.length=z):sub (e.map V.d) 0 z=some (e.map V.d):=bL (by simpa using he)
theorem XD {α:Type}{cells:α->List D}{z c idf:FuncId}{key:α->Int}(ht:T c=some (woCQ z))(hv:val c=false){e:α}(hz:(cells e).length=z)(hid:∀ h,Sm E T val idf [ag (cells e)] h=some (.d (u64 (key e)),h)){n:Int}{p r:Nat}{h:Hp}(hp:ai h.bs p=some [.fn idf []])(hr:ai h.bs r=some [.d (u64 n)]) :
 Sm E T val c [ag (cells e),.ptr p 0,.ptr r 0] h=some (bl (key e==n),h):=by
 rw [ax ht hv];have hsub:=rZ hz;simp [woCQ,aa,ay,ae,av,Tr.mute,az hp,az hr,hid,hsub,V.under]
def Left {α:Type}(cells:α->List D)(z:Nat)(s:Sl α)(K:List α)(b0:List Blk)(r:V)(bs':List Blk)(lo lo':Nat):Prop :=
 (s.nl=true/\K=[]/\r=.d (.slice true [])/\bs'=b0/\lo'=lo) ∨
 (s.nl=false/\s.l=[]/\K=[]/\r=.row b0.length 0 0 (some 0) z/\bs'=b0++[.cells []]/\lo'=min lo b0.length) ∨
 (s.nl=false/\s.l≠[]/\r=.row (b0.length+1) 0 K.length none z/\b0.length+1<bs'.length/\(∀ x,x<b0.length+1->bs'[x]?=(b0++[.cells []])[x]?) ∧
   ∃ rest,ai bs' (b0.length+1)=some (flat (K.map cells)++rest)/\rest.length=(s.l.length-K.length) * z)
theorem Wj {α:Type}{cells:α->List D}{z b cl clos del idx idf:Nat}{zero:List V}{key:α->Int}(tcl:T cl=some (cloneQ z b zero))(vcl:val cl=false)(tdel:T del=some (delQ z idx zero))(vdel:val del=false)(tidx:T idx=some (idxQ z))(vidx:val idx=false)
 (tc:T clos=some (woCQ z)) (vc:val clos=false) (hz:∀ x,(cells x).length=z) (hz0:0<z) (hzero:zero.length=z) (hb:b<=4096) {s:Sl α} (hs:short s) (hid:∀ e∈s.l,∀ h,Sm E T val idf [ag (cells e)] h=some (.d (u64 (key e)),h)) (n:Int) (bs:List Blk) (lo:Nat) :
 ∃ r bs' lo',Bd E T val (woQ cl clos del) [.d (s.d cells),.d (u64 n),.fn idf []] ⟨bs,lo⟩=some (.tup [r,bl (decide ((s.l.filter λe=>!(key e==n)).length<s.l.length))],⟨bs',lo'⟩) ∧
  Left cells z s (s.l.filter λe=>!(key e==n)) (bs++[.cells [.d (u64 n)],.cells [.fn idf []]]) r bs' lo lo':=by
 obtain ⟨nl,l⟩:=s;have hcl:=iO (E:=E) (T:=T) (val:=val) tcl vcl hz0 hb (nl:=nl) (es:=l.map cells) (by simp; intro a _; exact hz a) (by simpa using hs.1) ⟨bs++[.cells [.d (u64 n)],.cells [.fn idf []]],lo⟩;have hlen:l.length<2 ^ 62:=hs.lt;cases nl with
 | true =>
  have hl:=hs.2 rfl;simp at hl;subst hl;have h1:=fF (E:=E) (T:=T) (val:=val) cells (es:=[]) (z:=z) (idx:=idx) (zero:=zero) tidx vidx tdel vdel (v:=.d (.slice true [])) (f:=clos) (caps:=[.ptr (bs.length+1) 0,.ptr bs.length 0]) (q:=λ_=>false) (h:=⟨bs++[.cells [.d (u64 n)],.cells [.fn idf []]],lo⟩) ⟨by simp,.inl ⟨true,rfl⟩⟩ (by simp) (by simp) (by simp);simp [bH] at hcl;refine ⟨.d (.slice true []),bs++[.cells [.d (u64 n)],.cells [.fn idf []]],lo,?_,.inl ⟨rfl,rfl,rfl,rfl,rfl⟩⟩;simp [aa,woQ,Sl.d,hcl,h1]
 | false =>
  cases hll:l with
  | nil =>
   subst hll;have h1:=fF (E:=E) (T:=T) (val:=val) cells (es:=[]) (z:=z) (idx:=idx) (zero:=zero) tidx vidx tdel vdel (v:=.row (bs.length+2) 0 0 (some 0) z) (f:=clos) (caps:=[.ptr (bs.length+1) 0,.ptr bs.length 0]) (q:=λ_=>false) (h:=⟨bs++[.cells [.d (u64 n)],.cells [.fn idf []],.cells []],min lo (bs.length+2)⟩) ⟨by simp,.inr ⟨bs.length+2,0,some 0,[],rfl,by unfold ai; rw [bk (by omega)]; simp,by simp⟩⟩ (by simp) (by simp) (by simp);simp [bH] at hcl;refine ⟨.row (bs.length+2) 0 0 (some 0) z,bs++[.cells [.d (u64 n)],.cells [.fn idf []],.cells []],min lo (bs.length+2),?_,.inr (.inl ⟨rfl,rfl,rfl,by simp,by simp,by simp⟩)⟩;simp [aa,woQ,Sl.d,hcl,h1]
  | cons p l' =>
   have hne:l≠[]:=by rw [hll]; simp
   rw [← hll];have hc2:bH z false (l.map cells) (bs++[.cells [.d (u64 n)],.cells [.fn idf []]]) lo=(.row (bs.length+3) 0 l.length none z,⟨bs++[.cells [.d (u64 n)],.cells [.fn idf []],.cells [],.cells (flat (l.map cells))],lo⟩):=by
    rw [hll]; simp [bH]
   rw [hc2] at hcl;simp at hcl;have hbF:ai (bs++[.cells [.d (u64 n)],.cells [.fn idf []],.cells [],.cells (flat (l.map cells))]) (bs.length+3)=some (flat (l.map cells)):=by unfold ai; rw [bk (by omega)]; simp
   have hcall:∀ e∈l,∀ bs2 lo2,(∀ x,x≠bs.length+3->x<bs.length+4->bs2[x]?=(bs++[.cells [.d (u64 n)],.cells [.fn idf []],.cells [],.cells (flat (l.map cells))])[x]?)->Sm E T val clos (.agg ((cells e).map .d)::[.ptr (bs.length+1) 0,.ptr bs.length 0]) ⟨bs2,lo2⟩=some (.d (.bool (key e==n)),⟨bs2,lo2⟩):=by
    intro e he bs2 lo2 ho;refine XD tc vc (hz e) (hid e he) ?_ ?_
    . have:=ho (bs.length+1) (by omega) (by omega);simp only [ai];rw [this,bk (by omega)]; simp
    . have:=ho bs.length (by omega) (by omega);simp only [ai];rw [this,bk (by omega)]; simp
   by_cases hq:∃ e∈l,(key e==n)=true
   . obtain ⟨bs',lo',rest,k1,k2,k3,k4,k5,k6⟩:=qc (E:=E) (T:=T) (val:=val) hz hz0 hzero tidx vidx tdel vdel (es:=l) (b:=bs.length+3) (cap:=none) (f:=clos) (caps:=[.ptr (bs.length+1) 0,.ptr bs.length 0]) (q:=λe=>key e==n) (h:=⟨bs++[.cells [.d (u64 n)],.cells [.fn idf []],.cells [],.cells (flat (l.map cells))],min lo (bs.length+2)⟩) hbF hlen (λe he bs2 lo2 _ ho=>hcall e he bs2 lo2 (by simpa using ho)) hq;refine ⟨.row (bs.length+3) 0 (l.filter λe=>!(key e==n)).length none z,bs',lo',?_,.inr (.inr ⟨rfl,hne,by simp,by simp at k2 ⊢; omega,?_,rest,by simpa using k4,k6⟩)⟩
     . simp [aa,woQ,Sl.d,hcl,k1]
     . intro x hx;simp at hx;rw [k3 x (by omega) (by simp; omega)];have:∀ ys:List Blk,ys=bs++[.cells [.d (u64 n)],.cells [.fn idf []],.cells []]->(bs++[.cells [.d (u64 n)],.cells [.fn idf []],.cells [],.cells (flat (l.map cells))])[x]?=ys[x]?:=by
        rintro ys rfl;rw [show bs++[.cells [.d (u64 n)],.cells [.fn idf []],.cells [],.cells (flat (l.map cells))]=(bs++[.cells [.d (u64 n)],.cells [.fn idf []],.cells []])++[.cells (flat (l.map cells))] by simp,al (by simp; omega)]
       exact this _ (by simp)
   . have hall:∀ e∈l,(key e==n)=false:=by
      intro e he;cases hh:(key e==n) with
      | false=>rfl
      | true=>exact absurd ⟨e,he,hh⟩ hq
     have hK:l.filter (λe=>!(key e==n))=l:=List.filter_eq_self.2 λe he=>by simp [hall e he]
     have h1:=fF (E:=E) (T:=T) (val:=val) cells (es:=l) (z:=z) (idx:=idx) (zero:=zero) tidx vidx tdel vdel (v:=.row (bs.length+3) 0 l.length none z) (f:=clos) (caps:=[.ptr (bs.length+1) 0,.ptr bs.length 0]) (q:=λe=>key e==n) (h:=⟨bs++[.cells [.d (u64 n)],.cells [.fn idf []],.cells [],.cells (flat (l.map cells))],min lo (bs.length+2)⟩)
      ⟨by simp; intro a _; exact hz a,.inr ⟨bs.length+3,0,none,_,by simp,hbF,by
       rw [eT,if_pos (by rw [bu hz]; simp),List.drop_zero,bx,← bu hz,List.take_length]; rfl⟩⟩ hlen (λe he lo2=>hcall e he _ lo2 λ_ _ _=>rfl) hall
     rw [hK];refine ⟨.row (bs.length+3) 0 l.length none z,bs++[.cells [.d (u64 n)],.cells [.fn idf []],.cells [],.cells (flat (l.map cells))],min lo (bs.length+2),?_,.inr (.inr ⟨rfl,hne,by simp,by simp,?_,[],by
      have e:(bs++[Blk.cells [V.d (u64 n)],.cells [.fn idf []]]).length+1=bs.length+3:=by simp
      rw [e,hbF]; simp,by simp⟩)⟩
     . simp [aa,woQ,Sl.d,hcl,h1]
     . intro x hx;simp at hx;have:∀ ys:List Blk,ys=bs++[.cells [.d (u64 n)],.cells [.fn idf []],.cells []]->(bs++[.cells [.d (u64 n)],.cells [.fn idf []],.cells [],.cells (flat (l.map cells))])[x]?=ys[x]?:=by
        rintro ys rfl;rw [show bs++[.cells [.d (u64 n)],.cells [.fn idf []],.cells [],.cells (flat (l.map cells))]=(bs++[.cells [.d (u64 n)],.cells [.fn idf []],.cells []])++[.cells (flat (l.map cells))] by simp,al (by simp; omega)]
       exact this _ (by simp)
theorem yx {n b o m z:Nat}{cap:Option Nat}{l:List V}(hb:n<=b):¬ V.under n (.tup (.row b o m cap z::l))=true:=by
 simp [V.under,V.under.go];omega
theorem EH {h:Hp}{b o n z:Nat}{cap:Option Nat}{d:D}(hd:dataV h (7+1) (.row b o n cap z)=some d):iY h (.row b o n cap z)=some (.d d):=by
 simp only [AO,hd]
theorem qO {α:Type}{cells:α->List D}{z b cl clos del idx idf wo:Nat}{zero:List V}{key:α->Int}(tcl:T cl=some (cloneQ z b zero))(vcl:val cl=false)(tdel:T del=some (delQ z idx zero))(vdel:val del=false)(tidx:T idx=some (idxQ z))(vidx:val idx=false)
 (tc:T clos=some (woCQ z)) (vc:val clos=false) (two:T wo=some (woQ cl clos del)) (vwo:val wo=true) (hz:∀ x,(cells x).length=z) (hz0:0<z) (hzero:zero.length=z) (hb:b<=4096) {s:Sl α} (hs:short s) (hid:∀ e∈s.l,∀ h,Sm E T val idf [ag (cells e)] h=some (.d (u64 (key e)),h)) (n:Int) (h:Hp) :
 Sm E T val wo [.d (s.d cells),.d (u64 n),.fn idf []] h=some (.tup [.d (.slice s.nl ((s.l.filter λe=>!(key e==n)).map cells)),bl (decide ((s.l.filter λe=>!(key e==n)).length<s.l.length))],h):=by
 rw [aN two vwo];obtain ⟨r,bs',lo',k1,k2⟩:=Wj (E:=E) (T:=T) (val:=val) tcl vcl tdel vdel tidx vidx tc vc hz hz0 hzero hb hs hid n [] 0;have hfr:frz h (.fn idf [])=some (.fn idf []):=rfl;generalize hK:s.l.filter (λe=>!(key e==n))=K at *;have hw:∀ e∈K.map cells,e.length=z:=by simp; intro a _; exact hz a
 have hr:iY ⟨bs',lo'⟩ r=some (.d (.slice s.nl (K.map cells))):=by
  obtain ⟨h1,h2,h3,h4,h5⟩ | ⟨h1,h2,h3,h4,h5,h6⟩ | ⟨h1,h2,h3,h4,h5,rest,h6,h7⟩:=k2
  . subst h2 h3; rw [h1]; rfl
  . subst h3 h4 h5;have:=bz (h:=⟨[.cells [.d (u64 n)],.cells [.fn idf []]]++[.cells []],lo'⟩) (k:=7) (b:=2) (n:=0) (cap:=some 0) (es:=[]) (z:=z) (rest:=[]) (by simp) rfl rfl;rw [h1];exact EH this
  . subst h3;have:=bz (h:=⟨bs',lo'⟩) (k:=7) (n:=K.length) (cap:=none) (z:=z) hw (by rw [bx]) h6;rw [h1];exact EH this
 simp [hfr,k1,Nk,hr,dn]
theorem IY {α:Type}{cells:α->List D}{z b cl clos del idx idf wo:Nat}{zero:List V}{key:α->Int}(tcl:T cl=some (cloneQ z b zero))(vcl:val cl=false)(tdel:T del=some (delQ z idx zero))(vdel:val del=false)(tidx:T idx=some (idxQ z))(vidx:val idx=false)
 (tc:T clos=some (woCQ z)) (vc:val clos=false) (two:T wo=some (woQ cl clos del)) (vwo:val wo=false) (hz:∀ x,(cells x).length=z) (hz0:0<z) (hzero:zero.length=z) (hb:b<=4096) {s:Sl α} (hs:short s) (hid:∀ e∈s.l,∀ h,Sm E T val idf [ag (cells e)] h=some (.d (u64 (key e)),h)) (n:Int) (h:Hp) :
 ∃ r bs' lo' w,Sm E T val wo [.d (s.d cells),.d (u64 n),.fn idf []] h=some (.tup [r,bl w],⟨bs',lo'⟩)/\h.bs.length<=bs'.length/\(∀ x,x<h.bs.length->bs'[x]?=h.bs[x]?) ∧
  ((s.nl=true/\(s.l.filter λe=>!(key e==n))=[]/\r=.d (.slice true []))\/(∃ B,(s.l.filter λe=>!(key e==n))=[]/\h.bs.length<=B/\r=.row B 0 0 (some 0) z/\ai bs' B=some []) ∨
   (∃ B rest q,h.bs.length<=B/\r=.row B 0 (s.l.filter λe=>!(key e==n)).length none z/\ai bs' B=some (flat ((s.l.filter λe=>!(key e==n)).map cells)++rest)/\rest.length=q * z/\0<(s.l.filter λe=>!(key e==n)).length+q)):=by
 obtain ⟨r,bs',lo',k1,k2⟩:=Wj (E:=E) (T:=T) (val:=val) tcl vcl tdel vdel tidx vidx tc vc hz hz0 hzero hb hs hid n h.bs h.bs.length;generalize hK:s.l.filter (λe=>!(key e==n))=K at *;rw [ax two vwo,k1,iQ];obtain ⟨h1,h2,h3,h4,h5⟩ | ⟨h1,h2,h3,h4,h5,h6⟩ | ⟨h1,h2,h3,h4,h5,rest,h6,h7⟩:=k2
 . refine ⟨r,h.bs,h.low,decide (K.length<s.l.length),?_,bp _,λ_ _=>rfl,.inl ⟨h1,h2,h3⟩⟩;rw [if_pos ⟨by simp [h5],by subst h3; rfl⟩]
 . refine ⟨r,bs',min h.low lo',decide (K.length<s.l.length),?_,by rw [h5]; simp,λx hx=>?_,.inr (.inl ⟨_,h3,?_,h4,?_⟩)⟩
   . rw [if_neg (λhh=>by have hu:=hh.2; subst h4; exact yx (by simp) hu)]
   . rw [h5,List.append_assoc,al hx]
   . simp
   . rw [h5]; simp [ai]
 . refine ⟨r,bs',min h.low lo',decide (K.length<s.l.length),?_,by simp at h4; omega,λx hx=>?_,.inr (.inr ⟨_,rest,s.l.length-K.length,?_,h3,h6,h7,?_⟩)⟩
   . rw [if_neg (λhh=>by have hu:=hh.2; subst h3; exact yx (by simp; omega) hu)]
   . rw [h5 x (by simp; omega),List.append_assoc,al hx]
   . simp; omega
   . have:=List.length_pos_iff.2 h2;omega
end
end
section
section
variable {E:Calls'}{T:FuncId->Option QF}{val:FuncId->Bool}
theorem IX {id:FuncId}{z:Nat}(ht:T id=some (notQ z))(hv:val id=false){c:List D}(hc:c.length=z){f:FuncId}{caps:List V}{x:Nat}{p:Bool}{h:Hp}(hp:ai h.bs x=some [.fn f caps])
 (hf:∀ ys lo,Sm E T val f (ag c::caps) ⟨h.bs++ys,lo⟩=some (bl p,⟨h.bs++ys,lo⟩)):Sm E T val id [ag c,.ptr x 0] h=some (bl (!p),h):=by
 rw [ax ht hv];have hs:=rZ hc;simp [notQ,aa,az hp,hf,hs,V.under]
def KeptR {α:Type}(cells:α->List D)(z n:Nat)(nl:Bool)(l:List α)(bs:List Blk)(v:V):Prop :=
 (nl=true/\l=[]/\v=.d (.slice true []))\/(nl=false/\∃ B cap rest,n<=B/\v=.row B 0 l.length cap z/\ai bs B=some (flat (l.map cells)++rest))
theorem KeptR.rowIs {α:Type}{cells:α->List D}{z n:Nat}{nl:Bool}{l:List α}{bs:List Blk}{v:V}(hz:∀ x,(cells x).length=z)(h:KeptR cells z n nl l bs v):RowIs bs v z (l.map cells):=by
 refine ⟨by simp; intro a _; exact hz a,?_⟩;obtain ⟨_,rfl,rfl⟩ | ⟨_,B,cap,rest,_,rfl,h⟩:=h
 . exact .inl ⟨true,rfl⟩
 . refine .inr ⟨B,0,cap,_,by simp,h,?_⟩;rw [eT,if_pos (by rw [am,bu hz]; simp),List.drop_zero,bx,← bu hz,List.take_left]; rfl
theorem KeptR.dat {α:Type}{cells:α->List D}{z n:Nat}{nl:Bool}{l:List α}{bs:List Blk}{v:V}(hz:∀ x,(cells x).length=z)(h:KeptR cells z n nl l bs v)(lo k:Nat):dataV ⟨bs,lo⟩ (k+1) v=some (.slice nl (l.map cells)):=by
 obtain ⟨rfl,rfl,rfl⟩ | ⟨rfl,B,cap,rest,_,rfl,h⟩:=h
 . rfl
 . exact bz (by simp; intro a _; exact hz a) (by simp) h
theorem KeptR.like {α:Type}{cells:α->List D}{z n:Nat}{nl:Bool}{l:List α}{bs bs':List Blk}{v:V}(h:KeptR cells z n nl l bs v)(ho:∀ x cs,n<=x->ai bs x=some cs->ai bs' x=some cs):KeptR cells z n nl l bs' v:=by
 obtain ⟨h1,h2,h3⟩ | ⟨h1,B,cap,rest,h2,h3,h4⟩:=h
 . exact .inl ⟨h1,h2,h3⟩
 . exact .inr ⟨h1,B,cap,rest,h2,h3,ho B _ h2 h4⟩
theorem KeptR.nu {α:Type}{cells:α->List D}{z n:Nat}{nl:Bool}{l:List α}{bs:List Blk}{v:V}(h:KeptR cells z n nl l bs v):Go.Proofs.YtmakbdpnlfmclaaGreat.nu v=some v/\okV v=true:=by
 obtain ⟨_,_,rfl⟩ | ⟨_,B,cap,rest,_,rfl,_⟩:=h<;>exact ⟨rfl,rfl⟩
theorem yJ {α:Type}{cells:α->List D}{z b cl clos del idx id:Nat}{zero:List V}(tcl:T cl=some (cloneQ z b zero))(vcl:val cl=false)(tdel:T del=some (delQ z idx zero))(vdel:val del=false)(tidx:T idx=some (idxQ z))(vidx:val idx=false)
 (tc:T clos=some (notQ z)) (vc:val clos=false) (tid:T id=some (keepQ cl clos del)) (vid:val id=false) (hz:∀ x,(cells x).length=z) (hz0:0<z) (hzero:zero.length=z) (hb:b<=4096) {s:Sl α} (hs:short s) {f:FuncId} {caps:List V} {q:α->Bool} {h:Hp}
 (hq:∀ e∈s.l,∀ bs lo,h.bs.length<=bs.length->(∀ x,x<h.bs.length->bs[x]?=h.bs[x]?)->Sm E T val f (ag (cells e)::caps) ⟨bs,lo⟩=some (bl (q e),⟨bs,lo⟩)) :
 ∃ r bs' lo',Sm E T val id [.d (s.d cells),.fn f caps] h=some (r,⟨bs',lo'⟩)/\h.bs.length<=bs'.length/\(∀ x,x<h.bs.length->bs'[x]?=h.bs[x]?)/\KeptR cells z h.bs.length s.nl (s.l.filter q) bs' r:=by
 obtain ⟨bs,lo0⟩:=h;simp only at hq ⊢;obtain ⟨nl,l⟩:=s;simp only at hq ⊢;have hcl:=iO (E:=E) (T:=T) (val:=val) tcl vcl hz0 hb (nl:=nl) (es:=l.map cells) (by simp; intro a _; exact hz a) (by simpa using hs.1) ⟨bs++[.cells [.fn f caps]],bs.length⟩;have hlen:l.length<2 ^ 62:=hs.lt;have hout:∀ {r:V} {bs':List Blk} {lo':Nat},r.under bs.length=false->gm ⟨bs,lo0⟩ (some (r,⟨bs',lo'⟩))=some (r,⟨bs',min lo0 lo'⟩):=λhu=>by
  rw [iQ,if_neg (λhh=>by rw [hu] at hh; cases hh.2)]
 have hun:∀ {B o n z:Nat} {cap:Option Nat},bs.length<=B->V.under bs.length (.row B o n cap z)=false:=λh=>by simp [V.under]; omega
 rw [ax tid vid];cases nl with
 | true =>
  have hl:=hs.2 rfl;simp at hl;subst hl;have h1:=fF (E:=E) (T:=T) (val:=val) cells (es:=[]) (z:=z) (idx:=idx) (zero:=zero) tidx vidx tdel vdel (v:=.d (.slice true [])) (f:=clos) (caps:=[.ptr bs.length 0]) (q:=λ_=>false) (h:=⟨bs++[.cells [.fn f caps]],bs.length⟩) ⟨by simp,.inl ⟨true,rfl⟩⟩ (by simp) (by simp) (by simp);simp [bH] at hcl;refine ⟨.d (.slice true []),bs,lo0,?_,bp _,λ_ _=>rfl,.inl ⟨rfl,by simp,rfl⟩⟩;simp [aa,keepQ,Sl.d,hcl,h1,V.under,aY]
 | false =>
  cases hll:l with
  | nil =>
   subst hll;have h1:=λlo=>fF (E:=E) (T:=T) (val:=val) cells (es:=[]) (z:=z) (idx:=idx) (zero:=zero) tidx vidx tdel vdel (v:=.row (bs.length+1) 0 0 (some 0) z) (f:=clos) (caps:=[.ptr bs.length 0]) (q:=λ_=>false) (h:=⟨bs++[.cells [.fn f caps],.cells []],lo⟩) ⟨by simp,.inr ⟨bs.length+1,0,some 0,[],rfl,by unfold ai; rw [bk (by omega)]; simp,by simp [eT]⟩⟩ (by simp) (by simp) (by simp);simp [bH] at hcl;refine ⟨.row (bs.length+1) 0 0 (some 0) z,bs++[.cells [.fn f caps],.cells []],min lo0 bs.length,?_,by simp,λx hx=>by rw [al hx],.inr ⟨rfl,bs.length+1,some 0,[],by omega,rfl,by unfold ai; rw [bk (by omega)]; simp⟩⟩;refine Eq.trans ?_ (hout (lo':=bs.length) (hun (by omega)))
   congr 1
   simp [aa,keepQ,Sl.d,hcl,h1,aY]
  | cons p l' =>
   rw [← hll];have hc2:bH z false (l.map cells) (bs++[.cells [.fn f caps]]) bs.length=(.row (bs.length+2) 0 l.length none z,⟨bs++[.cells [.fn f caps],.cells [],.cells (flat (l.map cells))],bs.length⟩):=by
    rw [hll]; simp [bH]
   rw [hc2] at hcl;simp at hcl;have hbF:ai (bs++[.cells [.fn f caps],.cells [],.cells (flat (l.map cells))]) (bs.length+2)=some (flat (l.map cells)):=by unfold ai; rw [bk (by omega)]; simp
   have hold:∀ x,x<bs.length->(bs++[Blk.cells [.fn f caps],.cells [],.cells (flat (l.map cells))])[x]?=bs[x]?:=λx hx=>by rw [al hx]
   have hcall:∀ e∈l,∀ bs2 lo2,bs.length+3<=bs2.length->(∀ x,x≠bs.length+2->x<bs.length+3->bs2[x]?=(bs++[.cells [.fn f caps],.cells [],.cells (flat (l.map cells))])[x]?)->Sm E T val clos (.agg ((cells e).map .d)::[.ptr bs.length 0]) ⟨bs2,lo2⟩=some (.d (.bool (!q e)),⟨bs2,lo2⟩):=by
    intro e he bs2 lo2 hle ho;refine IX tc vc (hz e) (f:=f) (caps:=caps) (p:=q e) ?_ λys lo=>?_
    . have:=ho bs.length (by omega) (by omega);simp only [ai];rw [this,bk (by omega)]; simp
    . refine hq e he _ lo (by simp; omega) λx hx=>?_;simp only;rw [al (by omega),ho x (by omega) (by omega)];exact hold x hx
   have hnn:(l.filter λe=>!(!q e))=l.filter q:=by simp
   by_cases hqq:∃ e∈l,(!q e)=true
   . obtain ⟨bs',lo',rest,k1,k2,k3,k4,k5,k6⟩:=qc (E:=E) (T:=T) (val:=val) hz hz0 hzero tidx vidx tdel vdel (es:=l) (b:=bs.length+2) (cap:=none) (f:=clos) (caps:=[.ptr bs.length 0]) (q:=λe=>!q e) (h:=⟨bs++[.cells [.fn f caps],.cells [],.cells (flat (l.map cells))],bs.length⟩) hbF hlen (λe he bs2 lo2 a b=>hcall e he bs2 lo2 (by simpa using a) (λx h1 h2=>b x h1 (by simp; omega))) hqq;rw [hnn] at k1 k4;refine ⟨.row (bs.length+2) 0 (l.filter q).length none z,bs',min lo0 lo',?_,by simp at k2; omega,λx hx=>by rw [k3 x (by omega) (by simp; omega)]; exact hold x hx,.inr ⟨rfl,bs.length+2,none,rest,by omega,rfl,k4⟩⟩;refine Eq.trans ?_ (hout (lo':=lo') (hun (by omega)))
     congr 1
     simp [aa,keepQ,Sl.d,hcl,k1,aY]
   . have hall:∀ e∈l,(!q e)=false:=by
      intro e he;cases hh:(!q e) with
      | false=>rfl
      | true=>exact absurd ⟨e,he,hh⟩ hqq
     have hK:l.filter q=l:=List.filter_eq_self.2 λe he=>by have:=hall e he; simpa using this
     have h1:=fF (E:=E) (T:=T) (val:=val) cells (es:=l) (z:=z) (idx:=idx) (zero:=zero) tidx vidx tdel vdel (v:=.row (bs.length+2) 0 l.length none z) (f:=clos) (caps:=[.ptr bs.length 0]) (q:=λe=>!q e) (h:=⟨bs++[.cells [.fn f caps],.cells [],.cells (flat (l.map cells))],bs.length⟩)
      ⟨by simp; intro a _; exact hz a,.inr ⟨bs.length+2,0,none,_,by simp,hbF,by
       rw [eT,if_pos (by rw [bu hz]; simp),List.drop_zero,bx,← bu hz,List.take_length]; rfl⟩⟩ hlen (λe he lo2=>hcall e he _ lo2 (by simp) λ_ _ _=>rfl) hall
     rw [hK];refine ⟨.row (bs.length+2) 0 l.length none z,bs++[.cells [.fn f caps],.cells [],.cells (flat (l.map cells))],min lo0 bs.length,?_,by simp,hold,.inr ⟨rfl,bs.length+2,none,[],by omega,rfl,by rw [hbF]; simp⟩⟩;refine Eq.trans ?_ (hout (lo':=bs.length) (hun (by omega)))
     congr 1
     simp [aa,keepQ,Sl.d,hcl,h1,aY]
end
end
section
section
variable {E:Calls'}{T:FuncId->Option QF}{val:FuncId->Bool}
theorem qd {pr:List (List Nat)}{l:List Tr}(k:Nat)(hk:(List.range l.length).all (λj=>j==k||(pr.getD k []).contains j||(pr.getD j []).contains k)=true)(hm:(l.take k++l.drop (k+1)).all Tr.mute=true):bv pr l=true:=by
 rw [ck] at hk hm;have hmm:∀ j,j<l.length->j≠k->∃ t,l[j]?=some t/\t.mute=true:=by
  intro j hj hjk;refine ⟨l[j],by simp [hj],hm _ ?_⟩;rw [List.mem_append];obtain h | h:=Nat.lt_or_gt_of_ne hjk
  . left;rw [List.mem_take_iff_getElem];exact ⟨j,by omega,rfl⟩
  . right;rw [List.mem_drop_iff_getElem];exact ⟨j-(k+1),by omega,by congr 1; omega⟩
 unfold bv;simp only [ck,List.mem_range];intro i hi j hj;by_cases hij:i=j
 . simp [hij]
 by_cases hik:i=k
 . subst hik;have:=hk j (by simpa using hj);simp only [Bool.or_eq_true,beq_iff_eq] at this ⊢;obtain (h | h) | h:=this
   . exact absurd h.symm hij
   . exact .inl (.inl (.inr h))
   . exact .inl (.inr h)
 by_cases hjk:j=k
 . subst hjk;have:=hk i (by simpa using hi);simp only [Bool.or_eq_true,beq_iff_eq] at this ⊢;obtain (h | h) | h:=this
   . exact absurd h hij
   . exact .inl (.inr h)
   . exact .inl (.inl (.inr h))
 obtain ⟨s,hs,ms⟩:=hmm i hi hik;obtain ⟨t,ht,mt⟩:=hmm j hj hjk;simp only [Tr.mute,aq,Bool.not_eq_true',List.isEmpty_iff,beq_iff_eq] at ms mt;have:s.spares t=true:=by
  unfold Tr.spares;rw [ms.1.1,mt.1.1,ms.1.2,ms.2];cases t.call<;>simp
 simp [hs,ht,this]
theorem I7 {bs:List Blk}{z by_:Nat}{K:List (List D)}{v:V}{x:List D}(hw:∀ e∈K,e.length=z)(hx:x.length=z)(hz0:0<z)(hby:by_<=4096)(hl:K.length<big){r:Nat}{c:Option Nat}(hr:ai bs r=some (x.map .d)){m:Nat}
 (hv:(K=[]/\v=.d (.slice true []))\/(∃ B,K=[]/\m<=B/\v=.row B 0 0 (some 0) z/\ai bs B=some [])\/(∃ B rest q,m<=B/\v=.row B 0 K.length none z/\ai bs B=some (flat K++rest)/\rest.length=q * z/\0<K.length+q)) (hm:m<=bs.length) :
 ∃ (B:Nat) (cap:Option Nat) (bs':List Blk) (rest:List V) (f:Nat->Nat),(∀ lo,dZ ⟨bs,lo⟩ z by_ v (.row r 0 1 c z)=some (.row B 0 (K.length+1) cap z,⟨bs',f lo⟩))/\m<=B/\ai bs' B=some (flat (K++[x])++rest)/\∀ y,y<m->bs'[y]?=bs[y]?:=by
 have hrc:∀ lo,aF ⟨bs,lo⟩ (.row r 0 1 c z) z=some (1,x.map .d):=by
  intro lo;have:sub (x.map V.d) 0 z=some (x.map .d):=bL (by simpa using hx);simp only [aF,if_true,get_eq,hr,Nat.one_mul,this,Option.map_some]
 have hroom:∀ n,n<=big->roomy n by_=true:=λn hn=>by simp only [roomy,aq,br]; exact ⟨hn,hby⟩
 have hfx:flat (K++[x])=flat K++x.map .d:=by rw [kH,ky,q8,List.append_nil]
 obtain ⟨h1,rfl⟩ | ⟨B,h1,h2,rfl,h4⟩ | ⟨B,rest,q,h2,rfl,h4,h5,h6⟩:=hv
 . subst h1;refine ⟨bs.length,none,bs++[.cells (x.map .d)],[],λlo=>lo,λlo=>by simp only [dZ,hrc,aD,if_neg (show ¬ (1=0) by decide),if_neg (show ¬ z=0 by omega),hroom 1 (by decide),if_true]; rfl,hm,by simp [flat],λy hy=>?_⟩;rw [al (by omega)]
 . subst h1;have hsub:sub ([]:List V) 0 (0 * z)=some []:=by simp [sub]
   refine ⟨bs.length,none,bs++[.cells ([]++x.map .d)],[],λlo=>lo,λlo=>by simp only [dZ,hrc,aD,ne_eq,not_true_eq_false,false_or,if_neg (show ¬ (1=0) by decide),if_neg (show ¬ z=0 by omega),get_eq,h4,hsub,hroom (0+1) (by decide),Bool.not_true,bm,if_false,if_neg (show ¬ (0+1<=0) by decide)]; rfl,hm,by simp [flat],λy hy=>?_⟩;rw [al (by omega)]
 . have hf:=oG hw;have hsub:sub (flat K++rest) 0 (K.length * z)=some (flat K):=by
    rw [eT,if_pos (by rw [am,hf]; omega),List.drop_zero,← hf,List.take_left]
   have hbl:=aI h4;obtain hq | hq:=Nat.eq_zero_or_pos q
   . subst hq;have hr0:rest=[]:=List.eq_nil_of_length_eq_zero (by simpa using h5);subst hr0;have hpos:0<(flat K).length:=by rw [hf]; exact Nat.mul_pos (by omega) hz0
     simp only [List.append_nil] at h4 hsub;refine ⟨bs.length,none,bs.set B (.cells [])++[.cells (flat K++x.map .d)],[],λlo=>min lo B,λlo=>by simp only [dZ,hrc,aD,ne_eq,not_true_eq_false,false_or,if_neg (show ¬ (1=0) by decide),if_neg (show ¬ z=0 by omega),get_eq,h4,hsub,hroom (K.length+1) (by omega),Bool.not_true,bm,if_false,hpos,and_self,if_true,Hp.size,Hp.alloc,Hp.set],hm,?_,λy hy=>?_⟩
     . have:ai (bs.set B (.cells [])++[.cells (flat K++x.map .d)]) (bs.set B (.cells [])).length=some (flat K++x.map .d):=by rw [eG]; rfl
       rw [List.length_set] at this;rw [this,hfx,List.append_nil]
     . rw [al (by simp; omega),ac (by omega)]
   . have hqz:z<=q * z:=by have:=Nat.mul_le_mul_right z hq; rwa [Nat.one_mul] at this
     have hne:¬ (True/\(flat K).length=(flat K++rest).length/\0<(flat K++rest).length):=by
      rw [am]; omega
     have hfit:0+(K.length+1) * z<=(flat K++rest).length:=by
      rw [am,hf,Nat.add_mul]; omega
     have hput:put (flat K++rest) (0+K.length * z) (x.map V.d)=some (flat K++x.map .d++rest.drop z):=by
      unfold put;rw [if_pos (by rw [am,bx,hx,hf]; omega),Nat.zero_add,← hf,List.take_left,bx,hx,List.drop_append,ba (by omega),Nat.add_sub_cancel_left];simp
     refine ⟨B,none,bs.set B (.cells (flat K++x.map .d++rest.drop z)),rest.drop z,λlo=>min lo B,λlo=>by simp only [dZ,hrc,aD,ne_eq,not_true_eq_false,false_or,if_neg (show ¬ (1=0) by decide),if_neg (show ¬ z=0 by omega),get_eq,h4,hsub,hroom (K.length+1) (by omega),Bool.not_true,bm,if_false,if_neg hne,if_pos hfit,hput]; rfl,h2,?_,λy hy=>?_⟩
     . simp [ai,hbl,hfx]
     . rw [ac (by omega)]
theorem vE {z:Nat}:∀ {l:List (List D)} {rest:List V},(∀ e∈l,e.length=z)->chunk z l.length (flat l++rest)=l.map λe=>e.map V.d
 | [],rest,_=>rfl
 | e::l,rest,h=>by
  have he:=h e (by simp);have ih:=vE (l:=l) (rest:=rest) λx hx=>h x (List.mem_cons_of_mem _ hx);have hl:(e.map V.d).length=z:=by simp [he]
  simp only [chunk,ch,List.range_succ_eq_map,co,List.map_map,ky,List.append_assoc] at ih ⊢
  congr 1
  . rw [Nat.zero_mul,List.drop_zero,← hl,List.take_left]
  . rw [← ih];refine List.map_congr_left λi _=>?_;simp only [Function.comp,Nat.succ_eq_add_one,Nat.add_mul,Nat.one_mul];rw [List.drop_append,ba (by omega),hl,List.nil_append,Nat.add_sub_cancel]
theorem yu {α:Type}{cells:α->List D}{key:α->Int}{z p:Nat}{g idf:FuncId}(hz:∀ x,(cells x).length=z)(hkey:∀ x,(cells x)[p]?=some (.int .u64 (key x))){L:List α}(hnd:(L.map key).Nodup)(hne:L≠[])(hlen:L.length<=2 ^ 40){h:Hp}{b c:Nat}{cap:Option Nat}{rest:List V}
 (hb:ai h.bs b=some (flat (L.map cells)++rest)) (hc:ai h.bs c=some [.fn idf []]) (hbc:b≠c) :
 fU ⟨z,p,g,idf⟩ [.row b 0 L.length cap z,.fn g [.ptr c 0]] h=some (.tup [],h.set b (flat ((L.mergeSort λx y=>decide (key x<=key y)).map cells)++rest)):=by
 have hw:∀ e∈L.map cells,e.length=z:=by simp; intro a _; exact hz a
 have hch:=vE (rest:=rest) hw;rw [bx] at hch;have hkv:∀ x,Gt p ((cells x).map V.d)=some (key x):=λx=>by simp [Gt,hkey]
 have hki:∀ x,oL p ((cells x).map V.d)=key x:=λx=>by simp [oL,hkv]
 have hfl:=bu hz L;have h1:((L.map cells).map λe=>e.map V.d).map (oL p)=L.map key:=by
  rw [List.map_map,List.map_map];exact List.map_congr_left λx _=>hki x
 have h2:gZ p ((L.map cells).map λe=>e.map V.d)=((L.mergeSort λx y=>decide (key x<=key y)).map cells).map λe=>e.map V.d:=by
  rw [gZ,List.map_map,List.map_map]
  symm
  refine List.map_mergeSort λx _ y _=>?_;simp only [Function.comp,hki]
 have h3:∀ l:List (List D),(l.map λe=>e.map V.d).flatten=flat l:=λl=>by simp only [flat,List.map_flatten]
 simp only [fU,get_eq,hb,hc];rw [if_pos]
 . rw [hch,h2,h3,← hfl,List.drop_left]
 . refine ⟨trivial,trivial,trivial,hbc,List.length_pos_iff.2 hne,hlen,by rw [am,hfl]; omega,?_,?_⟩
   . rw [hch];intro r hr;obtain ⟨e,he,rfl⟩:=cb.1 hr;obtain ⟨x,_,rfl⟩:=cb.1 he;rw [hkv]; rfl
   . rw [hch,h1]; exact hnd
def kY {α:Type}(key:α->Int)(x:α)(l:List α):List α:=((l.filter λe=>!(key e==key x))++[x]).mergeSort λa b=>decide (key a<=key b)
end
end
