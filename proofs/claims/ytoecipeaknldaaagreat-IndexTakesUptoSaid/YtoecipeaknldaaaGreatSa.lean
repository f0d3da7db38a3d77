/- Layer 16's functions: Pod, At, WayOf, service. -/
import Derived.Test.YtoecipeaknldaaaGreatT8
set_option maxRecDepth 100000
set_option linter.unusedVariables false
set_option linter.unusedSimpArgs false
namespace Go.Proofs.YtoecipeaknldaaaGreat
open IntKind (wrap)
section
variable {E:Calls'}
theorem Ya (p:Pod)(b:Int)(x:Nat)(h:Hp)(hp:ai h.bs x=some [.d (u64 b)]):Sm E TT ak 71 [p.v,.ptr x 0] h=some (bl (p.uid==b),h):=by
 rw [aT ag3 aq2];simp [aa,Ns,aj hp,V.under]
theorem yL {s:Sl Pod}(hs:short s){x:Nat}{n:Int}{h:Hp}(hp:ai h.bs x=some [.d (u64 n)]):Sm E TT ak 63 [.d (s.d Pod.c),.fn 71 [.ptr x 0]] h=some (.d (i64 (gY s.l λp=>p.uid==n)),h) :=
 rY Pod.c (z:=7) Vo VH (RowIs.of (cells:=Pod.c) (λ_=>rfl) _) hs.lt λp _ lo=>Ya p n x _ hp
theorem S42 (c:Cfg)(hc:c.ok)(n:Int)(h:Hp):Sm E TT ak 31 [c.v,.d (u64 n)] h=some (.tup (match c.pods.l.find? (λp=>p.uid==n) with | some p=>[p.v,bl true] | none=>[pod0.v,bl false]),h):=by
 rw [aQ t42 v42];obtain ⟨h1,h2⟩ | ⟨k,p,h1,h2,h3⟩:=fe c.pods.l (λp=>p.uid==n)
 . simp [aa,q42,yL hc.1,h1,h2,pod0];first | done | rfl
 . simp [aa,q42,yL hc.1,h1,h2,av (z:=7) _ h3 (cells:=Pod.c) rfl];first | done | rfl
def ay6 (c:Cfg)(n:Int):Option Way:=match c.services.l.find? (λp=>p.id==n) with
 | none=>none
 | some s=>if s.way==0 then none else c.bound.l.find? λw=>w.id==s.way
theorem L46 (c:Cfg)(hc:short c.pods)(n:Int)(bs:List Blk)(lo:Nat)(hb:ai bs 0=some (c.c.map .d)):∀ (m i:Nat),i+m=c.pods.l.length →
 Cd E TT ak (.loop [1,2,5] oO) [(1,.d (u64 n)),(2,.ptr 0 0),(5,.d (i64 i))] ⟨bs,lo⟩ =
  match (c.pods.l.drop i).findIdx? (λp=>p.uid==n) with
  | some k=>some (.ret,[(4,.d (i64 (i+k:Nat)))],⟨bs,lo⟩)
  | none=>some (.exit 0,[],⟨bs,lo⟩):=by
 have hlt:=hc.lt;intro m;have key:=aF (E:=E) (T:=TT) (val:=ak) [1,2,5] oO;generalize Cd E TT ak (.loop [1,2,5] oO)=W at key ⊢
 induction m with
 | zero =>
  intro i hi;have h0:c.pods.l.drop i=[]:=aq (by omega);rw [key];simp [oO,hb,h0,Sl.d,show ¬ ((i:Int)<c.pods.l.length) from by omega]
 | succ m ih =>
  intro i hi;have hlt:i<c.pods.l.length:=by omega
  have hd:c.pods.l.drop i=c.pods.l[i]::c.pods.l.drop (i+1):=ap hlt;have hg:c.pods.l[i]?=some c.pods.l[i]:=ab hlt;generalize c.pods.l[i]=x at *;have hx:=λh=>av (z:=7) h hg (cells:=Pod.c) rfl;rw [key,hd];have hl:uO false (.d (Sl.d Pod.c c.pods)) ⟨bs,lo⟩=some (.d (i64 c.pods.l.length),⟨bs,lo⟩):=by simp [Sl.d]
  by_cases hq:x.uid=n
  . simp [oO,hb,hl,hx,hq,List.findIdx?_cons,show ((i:Int)<c.pods.l.length) from by omega]
  . have hq':(x.uid==n)=false:=by simpa using hq
    have hw:wrap .i64 ((i:Int)+1)=((i+1:Nat):Int):=by rw [wrap64]<;>omega
    have:=ih (i+1) (by omega);simp [oO,hb,hl,hx,hq',hq,List.findIdx?_cons,hw,show ((i:Int)<c.pods.l.length) from by omega];rw [show ((i:Int)+1)=((i+1:Nat):Int) from by omega,this];cases hfi:(c.pods.l.drop (i+1)).findIdx? (λp=>p.uid==n) with
    | none=>rfl
    | some k=>simp; omega
theorem S46 (c:Cfg)(hc:c.ok)(n:Int)(h:Hp):Sm E TT ak 33 [c.v,.d (u64 n)] h=some (.d (i64 (gY c.pods.l λp=>p.uid==n)),h):=by
 rw [aQ t46 v46];have hl:=L46 (E:=E) c hc.1 n [.cells (c.c.map .d)] 0 rfl c.pods.l.length 0 (by omega);simp at hl;simp [q46,aa];rw [au];simp [hl,gY];cases c.pods.l.findIdx? (λp=>p.uid==n)<;>simp
def cB (p:Pol)(ns:ByteArray)(service:Int):Bool:=(eqS p.ns ⟨#[]⟩||eqS p.ns ns)&&(p.service==0||p.service==service)
theorem Yb (p:Pol)(ns:ByteArray)(s:Int)(h:Hp):Sm E TT ak 126 [p.v,.d (.str ns),.d (u64 s)] h=some (bl (cB p ns s),h):=by
 rw [aQ ag5 aq4];cases h1:eqS p.ns ⟨#[]⟩<;>cases h2:eqS p.ns ns<;>cases h3:p.service==0<;>cases h4:p.service==s <;>
  simp [aa,Nu,cB,h1,h2,h3,h4]
theorem S53 (p:Pol)(x:Pod)(h:Hp):Sm E TT ak 127 [p.v,x.v] h=some (bl (cB p x.ns x.service),h):=by
 rw [aQ t53 v53];cases h1:eqS p.ns ⟨#[]⟩<;>cases h2:eqS p.ns x.ns<;>cases h3:p.service==0<;>cases h4:p.service==x.service <;>
  simp [aa,q53,cB,h1,h2,h3,h4]
theorem S52 (p:Pol)(x:Pod)(h:Hp):Sm E TT ak 74 [p.v,x.v] h=some (bl (cB p x.ns x.service),h):=by
 rw [aQ t52 v52];simp [aa,q52,Yb]
end
section
section
variable {E:Calls'}{T:FuncId->Option QF}{val:FuncId->Bool}
def D5 (z b:Nat)(zero:List V):QC:=(sr [op 11 (bt .lss 10 9)] (.seq (.cond (.t 11) .skip (.exit 0 [5])) (.seq (.block 1 (sr [op 12 (.idxA none z (.t 8) (.t 10)),op 13 (.load false z (.t 12)),op 7 (.new zero),⟨none,none,.store z (.t 7) (.t 13)⟩] (.reg none [mv 14 5,mv 15 1,op 16 (.load false z (.t 7)),op 17 (kt' 15 [.t 16]),op 18 (.buildS z 1 zero [(0,z,(.t 17))]),op 19 (.app z b (.t 14) (.t 18)),mv 5 19]))) (.reg none [op 20 (bc .add 10 1),mv 10 20]))))
def mapQ (z b:Nat)(zero:List V):QF:=⟨22,[.tmp 4],(sr [op 4 (.mov (.c zs0))] (sr [op 5 (.mov (.c zs0))] (.seq (sr [mv 8 0,op 9 (ln' 8),oc' 10 0] (.block 0 (.loop [1,5,8,9,10] (D5 z b zero)))) (sr [mv 21 5,mv 4 21] (.ret [4])))))⟩
theorem Gs {α:Type}{cells:α->List D}{z by_:Nat}(hz:∀ x,(cells x).length=z)(hz0:0<z)(hby:by_<=4096){zero:List V}(hzero:zero.length=z){s:Sl α}(hs:short s){f:FuncId}{g:α->α}{base:List Blk}
 (hf:∀ e∈s.l,∀ h,Sm E T val f [ag (cells e)] h=some (ag (cells (g e)),h)) :
 ∀ (m i:Nat) (acc:List (List D)) (bs:List Blk) (lo:Nat) (v:V),i+m=s.l.length->acc.length<=i->Acc base z acc bs v →
  ∃ bs' lo' v',Cd E T val (.loop [1,5,8,9,10] (D5 z by_ zero)) [(1,.fn f []),(5,v),(8,.d (s.d cells)),(9,.d (.int .i64 s.l.length)),(10,.d (.int .i64 i))] ⟨bs,lo⟩ =
   some (.exit 0,[(5,v')],⟨bs',lo'⟩)/\Acc base z (acc++((s.l.drop i).map λx=>cells (g x))) bs' v':=by
 intro m;have hlen:=hs.lt;have key:=aF (E:=E) (T:=T) (val:=val) [1,5,8,9,10] (D5 z by_ zero);generalize Cd E T val (.loop [1,5,8,9,10] (D5 z by_ zero))=W at key ⊢
 induction m with
 | zero =>
  intro i acc bs lo v hi hai ha;have h0:s.l.drop i=[]:=aq (by omega);refine ⟨bs,lo,v,?_,by simpa [h0] using ha⟩;rw [key];simp [D5,show ¬ ((i:Int)<s.l.length) from by omega]
 | succ m ih =>
  intro i acc bs lo v hi hai ha;have hlt:i<s.l.length:=by omega
  have hd:s.l.drop i=s.l[i]::s.l.drop (i+1):=ap hlt;have hg:s.l[i]?=some s.l[i]:=ab hlt;have hcall:=hf _ (bh hlt);generalize s.l[i]=x at *;have hx:=λh=>av (z:=z) h hg (cells:=cells) (hz x);have hput:∀ y:α,put zero 0 ((cells y).map V.d)=some ((cells y).map .d):=by intro y; simp [put,hz,hzero]
  have hsubx:sub (cells x) 0 z=some (cells x):=eB (hz x);have hw:wrap .i64 ((i:Int)+1)=((i+1:Nat):Int):=by rw [wrap64]<;>omega
  have hnu:=ha.nu;have ha1:=ha.lay [.cells ((cells x).map .d),.cells ((cells (g x)).map .d)];have hbig:acc.length<big:=by have:=hs.1; omega
  obtain ⟨v1,bs1,lo1,k1,k2⟩:=ha1.app hz0 hby (e:=cells (g x)) (hz _) hbig (min lo bs.length) (r:=bs.length+1) (cap:=some 1) (by simp);have hnu1:=k2.nu;obtain ⟨bs',lo',v',q1,q2⟩:=ih (i+1) (acc++[cells (g x)]) bs1 lo1 v1 (by omega) (by simp; omega) k2;refine ⟨bs',lo',v',?_,by simpa [hd] using q2⟩;rw [key];simp [D5,hx,hput,hsubx,hcall,hw,hnu,hz,hz0,aB,k1,hnu1,show ((i:Int)<s.l.length) from by omega];simpa using q1
theorem Ci {α:Type}{cells:α->List D}{z by_ id:Nat}{zero:List V}(ht:T id=some (mapQ z by_ zero))(hv:val id=true)(hz:∀ x,(cells x).length=z)(hz0:0<z)(hby:by_<=4096)(hzero:zero.length=z){s:Sl α}(hs:short s){f:FuncId}{g:α->α}
 (hf:∀ e∈s.l,∀ h,Sm E T val f [ag (cells e)] h=some (ag (cells (g e)),h)) (h:Hp) :
 Sm E T val id [.d (s.d cells),.fn f []] h=some (.d (Sl.d cells ⟨s.l.isEmpty,s.l.map g⟩),h):=by
 rw [aQ ht hv];obtain ⟨bs',lo',v',q1,q2⟩:=Gs (E:=E) (T:=T) (val:=val) hz hz0 hby hzero hs hf s.l.length 0 [] [] 0 _ (by omega) (by simp) (Acc.nil [] z);have hn:=q2.nu;have hfz:=(q2.frz lo').1;have hfr:frz h (.fn f [])=some (.fn f []):=rfl;have hl:uO false (.d (Sl.d cells s)) ⟨[],0⟩=some (.d (i64 s.l.length),⟨[],0⟩):=by simp [Sl.d]
 have hfm:(s.l.map λx=>cells (g x)).isEmpty=s.l.isEmpty:=by cases s.l<;>rfl
 simp at q1;simp [aa,mapQ,hfr,hl];rw [au];simp [q1,hn];simp only [List.nil_append,List.drop_zero] at hfz;rw [hfz];simp [hfm,Sl.d,eX]
end
end
section
variable {E:Calls'}
def CO:List V:=[(.d (.int .u64 0)),(.d (.str ⟨#[]⟩)),(.d (.str ⟨#[]⟩)),(.d (.int .i64 0)),(.d (.int .u32 0)),(.d (.int .i64 0)),(.d (.int .u64 0))]
end
section
theorem bO (a:ByteArray):a.toList=a.data.toList:=by
 simp [ByteArray.toList_eq]
theorem eqS_iff {a b:ByteArray}:eqS a b=true↔a=b:=by
 simp only [eqS,beq_iff_eq,bO];constructor
 . intro h;cases a; cases b;simp at h;rw [h]
 . rintro rfl; rfl
@[simp] theorem Rj (a:ByteArray):eqS a a=true:=eqS_iff.2 rfl
def Pod.eqB (x y:Pod):Bool:=x.uid==y.uid&&(eqS x.ns y.ns&&(eqS x.sa y.sa&&(x.host==y.host&&(x.addr==y.addr&&(x.port==y.port&&(x.service==y.service&&true))))))
def Svc.eqB (x y:Svc):Bool:=x.id==y.id&&(eqS x.ns y.ns&&(x.addr==y.addr&&(x.port==y.port&&(x.way==y.way&&true))))
def Way.eqB (x y:Way):Bool:=x.id==y.id&&(x.node==y.node&&true)
def Term.eqB (x y:Term):Bool:=x.kind==y.kind&&(eqS x.text y.text&&true)
def Cidr.eqB (x y:Cidr):Bool:=x.addr==y.addr&&(x.bits==y.bits&&true)
theorem Pod.eqB_iff {x y:Pod}:x.eqB y=true↔x=y:=by
 cases x; cases y; simp [Pod.eqB,eqS_iff]
theorem Svc.eqB_iff {x y:Svc}:x.eqB y=true↔x=y:=by
 cases x; cases y; simp [Svc.eqB,eqS_iff]
theorem Way.eqB_iff {x y:Way}:x.eqB y=true↔x=y:=by
 cases x; cases y; simp [Way.eqB]
theorem Term.eqB_iff {x y:Term}:x.eqB y=true↔x=y:=by
 cases x; cases y; simp [Term.eqB,eqS_iff]
theorem Cidr.eqB_iff {x y:Cidr}:x.eqB y=true↔x=y:=by
 cases x; cases y; simp [Cidr.eqB]
section
variable {h:Hp}{n:Bool}
@[simp] theorem Ws {x y:Pod}:eqv (.agg [(.i .u64),.s,.s,(.i .i64),(.i .u32),(.i .i64),(.i .u64)]) n (ag x.c) (ag y.c) h=some (.d (.bool (x.eqB y != n)),h):=by
 simp [eqv,fV,ag,Pod.c,bB,ma,Pod.eqB,eqS]
@[simp] theorem Wu {x y:Svc}:eqv (.agg [(.i .u64),.s,(.i .u32),(.i .i64),(.i .u64)]) n (ag x.c) (ag y.c) h=some (.d (.bool (x.eqB y != n)),h):=by
 simp [eqv,fV,ag,Svc.c,bB,ma,Svc.eqB,eqS]
@[simp] theorem Wv {x y:Way}:eqv (.agg [(.i .u64),(.i .i64)]) n (ag x.c) (ag y.c) h=some (.d (.bool (x.eqB y != n)),h):=by
 simp [eqv,fV,ag,Way.c,bB,ma,Way.eqB]
@[simp] theorem Rl {x y:Term}:eqv (.agg [(.i .i64),.s]) n (ag x.c) (ag y.c) h=some (.d (.bool (x.eqB y != n)),h):=by
 simp [eqv,fV,ag,Term.c,bB,ma,Term.eqB,eqS]
@[simp] theorem Rk {x y:Cidr}:eqv (.agg [(.i .u32),(.i .i64)]) n (ag x.c) (ag y.c) h=some (.d (.bool (x.eqB y != n)),h):=by
 simp [eqv,fV,ag,Cidr.c,bB,ma,Cidr.eqB]
end
def all2 {α β:Type}(f:α->β->Bool):List α->List β->Bool
 | [],[]=>true
 | x::l,y::m=>f x y&&all2 f l m
 | _,_=>false
theorem yN {α β:Type}{f:α->β->Bool}:∀ {l:List α} {m:List β},all2 f l m=true->l.length=m.length
 | [],[],_=>rfl
 | x::l,y::m,h=>by simp [all2] at h; simp [yN h.2]
 | [],y::m,h=>by simp [all2] at h
 | x::l,[],h=>by simp [all2] at h
theorem gZ {α β:Type}{f:α->β->Bool}{l:List α}{m:List β}(h:l.length≠m.length):all2 f l m=false:=by
 cases hx:all2 f l m with
 | false=>rfl
 | true=>exact absurd (yN hx) h
theorem dI {α:Type}{f:α->α->Bool}(hf:∀ x,f x x=true):∀ l:List α,all2 f l l=true
 | []=>rfl
 | x::l=>by simp [all2,hf,dI hf l]
theorem yO {α β γ:Type}{f:α->β->Bool}(g:γ->α):∀ (l:List γ) (m:List β),all2 f (l.map g) m=all2 (λx y=>f (g x) y) l m
 | [],[]=>rfl
 | x::l,y::m=>by simp [all2,yO g l m]
 | [],y::m=>rfl
 | x::l,[]=>rfl
theorem iO {α β:Type}{f:α->β->Bool}{l:List α}{m:List β}{i:Nat}(h1:i<l.length)(h2:i<m.length):all2 f (l.drop i) (m.drop i)=(f l[i] m[i]&&all2 f (l.drop (i+1)) (m.drop (i+1))):=by
 rw [ap h1,ap h2]; rfl
def Source.same (a b:Source):Bool:=all2 Term.eqB a.names.l b.names.l&&(all2 Term.eqB a.spaces.l b.spaces.l&&all2 Cidr.eqB a.nets.l b.nets.l)
def Target.same (a b:Target):Bool:=all2 Term.eqB a.methods.l b.methods.l&&(all2 Term.eqB a.paths.l b.paths.l&&(all2 Term.eqB a.hosts.l b.hosts.l&&all2 (λx y:Int=>x==y) a.ports.l b.ports.l))
def When.same (a b:When):Bool:=eqS a.head b.head&&all2 Term.eqB a.terms.l b.terms.l
def Rule.same (a b:Rule):Bool:=all2 Source.same a.frm.l b.frm.l&&(all2 Target.same a.to.l b.to.l&&all2 When.same a.whn.l b.whn.l)
def Pol.same (a b:Pol):Bool:=a.id==b.id&&(eqS a.ns b.ns&&(a.service==b.service&&(a.deny==b.deny&&all2 Rule.same a.rules.l b.rules.l)))
theorem pG (l:List Term):all2 Term.eqB l l=true:=dI (λ_=>Term.eqB_iff.2 rfl) l
theorem Source.same_refl (a:Source):a.same a=true:=by simp [Source.same,pG,dI (λ_=>Cidr.eqB_iff.2 rfl)]
theorem Target.same_refl (a:Target):a.same a=true:=by simp [Target.same,pG,dI]
theorem When.same_refl (a:When):a.same a=true:=by simp [When.same,pG]
theorem Rule.same_refl (a:Rule):a.same a=true:=by simp [Rule.same,dI Source.same_refl,dI Target.same_refl,dI When.same_refl]
theorem Pol.same_refl (a:Pol):a.same a=true:=by simp [Pol.same,dI Rule.same_refl]
end
section
variable {E:Calls'}
theorem Dm {s:Sl Term}(hs:short s)(h:Hp):Sm E TT ak 236 [.d (s.d Term.c)] h=some (.d (s.d Term.c),h) :=
 ug (z:=2) (b:=24) (zero:=[(.d (.int .i64 0)),(.d (.str ⟨#[]⟩))]) ai7 as7 (by decide) (by decide) (λ_=>rfl) hs h
theorem YA {s:Sl Cidr}(hs:short s)(h:Hp):Sm E TT ak 237 [.d (s.d Cidr.c)] h=some (.d (s.d Cidr.c),h) :=
 ug (z:=2) (b:=16) (zero:=[(.d (.int .u32 0)),(.d (.int .i64 0))]) ai8 as8 (by decide) (by decide) (λ_=>rfl) hs h
theorem YB {s:Sl Int}(hs:short s)(h:Hp):Sm E TT ak 238 [.d (s.d iB)] h=some (.d (s.d iB),h) :=
 ug (z:=1) (b:=8) (zero:=[(.d (.int .i64 0))]) ai9 as9 (by decide) (by decide) (λ_=>rfl) hs h
theorem Yr (s:Source)(hs:s.fits big)(h:Hp):Sm E TT ak 200 [ag s.c] h=some (ag s.c,h):=by
 rw [aQ ah9 ar8];simp +decide [aa,Ob,az,ae,Dm hs.1,Dm hs.2.1,YA hs.2.2];rfl
theorem Yu (s:Target)(hs:s.fits big)(h:Hp):Sm E TT ak 202 [ag s.c] h=some (ag s.c,h):=by
 rw [aQ ai1 as0];simp +decide [aa,Oc,az,ae,YB hs.1,Dm hs.2.1,Dm hs.2.2.1,Dm hs.2.2.2];rfl
@[simp] theorem When.p1 {x:When}{v:V}:put (x.c.map V.d) 1 [v]=some [.d (.str x.head),v]:=rfl
@[simp] theorem Pol.p4 {x:Pol}{v:V}:put (x.c.map V.d) 4 [v]=some [.d (u64 x.id),.d (.str x.ns),.d (u64 x.service),.d (i64 x.deny),v]:=rfl
theorem Yw (s:When)(hs:s.fits big)(h:Hp):Sm E TT ak 204 [ag s.c] h=some (ag s.c,h):=by
 rw [aQ ai3 as3];simp [aa,Od,Dm hs];rfl
def sl0 (n:Nat):List V:=List.replicate n (.d (.slice true []))
theorem Yq {s:Sl Source}(hs:short s)(hf:∀ x∈s.l,x.fits big)(h:Hp):Sm E TT ak 199 [.d (s.d Source.c),.fn 200 []] h=some (.d (Sl.d Source.c ⟨s.l.isEmpty,s.l⟩),h):=by
 have:=Ci (E:=E) (T:=TT) (val:=ak) (cells:=Source.c) (z:=3) (by_:=72) (zero:=sl0 3) ah8 ar7 (λ_=>rfl) (by decide) (by decide) rfl hs (f:=200) (g:=id) (λe he h=>Yr e (hf e he) h) h;simpa using this
theorem Yt {s:Sl Target}(hs:short s)(hf:∀ x∈s.l,x.fits big)(h:Hp):Sm E TT ak 201 [.d (s.d Target.c),.fn 202 []] h=some (.d (Sl.d Target.c ⟨s.l.isEmpty,s.l⟩),h):=by
 have:=Ci (E:=E) (T:=TT) (val:=ak) (cells:=Target.c) (z:=4) (by_:=96) (zero:=sl0 4) ai0 ar9 (λ_=>rfl) (by decide) (by decide) rfl hs (f:=202) (g:=id) (λe he h=>Yu e (hf e he) h) h;simpa using this
theorem Yv {s:Sl When}(hs:short s)(hf:∀ x∈s.l,x.fits big)(h:Hp):Sm E TT ak 203 [.d (s.d When.c),.fn 204 []] h=some (.d (Sl.d When.c ⟨s.l.isEmpty,s.l⟩),h):=by
 have:=Ci (E:=E) (T:=TT) (val:=ak) (cells:=When.c) (z:=2) (by_:=40) (zero:=[(.d (.str ⟨#[]⟩)),(.d (.slice true []))]) ai2 as2 (λ_=>rfl) (by decide) (by decide) rfl hs (f:=204) (g:=id) (λe he h=>Yw e (hf e he) h) h;simpa using this
def Rule.own (r:Rule):Rule:=⟨⟨r.frm.l.isEmpty,r.frm.l⟩,⟨r.to.l.isEmpty,r.to.l⟩,⟨r.whn.l.isEmpty,r.whn.l⟩⟩
def Pol.own (p:Pol):Pol:={ p with rules:=⟨p.rules.l.isEmpty,p.rules.l.map Rule.own⟩ }
theorem Yi (r:Rule)(hr:r.fits big)(h:Hp):Sm E TT ak 163 [ag r.c] h=some (ag r.own.c,h):=by
 rw [aQ ah2 ar1];simp +decide [aa,NP,az,ae,Yq hr.1.1 hr.1.2,Yt hr.2.1.1 hr.2.1.2,Yv hr.2.2.1 hr.2.2.2];rfl
theorem Yh {s:Sl Rule}(hs:short s)(hf:∀ x∈s.l,x.fits big)(h:Hp):Sm E TT ak 162 [.d (s.d Rule.c),.fn 163 []] h=some (.d (Sl.d Rule.c ⟨s.l.isEmpty,s.l.map Rule.own⟩),h) :=
 Ci (E:=E) (T:=TT) (val:=ak) (cells:=Rule.c) (z:=3) (by_:=72) (zero:=sl0 3) ah1 ar0 (λ_=>rfl) (by decide) (by decide) rfl hs (f:=163) (g:=Rule.own) (λe he h=>Yi e (hf e he) h) h
theorem Qi (p:Pol)(hp:p.fits big)(h:Hp):Sm E TT ak 113 [ag p.c] h=some (ag p.own.c,h):=by
 rw [aQ ag4 aq3];simp [aa,Nt,Yh hp.1 hp.2];rfl
end
section
variable {E:Calls'}
theorem ay {i n:Nat}(h:i<n)(hn:n<2 ^ 62):wrap .i64 ((i:Int)+1)=((i+1:Nat):Int):=by rw [wrap64]<;>omega
theorem XJ {a b:Sl Term}(ha:short a)(hl:a.l.length=b.l.length)(h:Hp):∀ (m i:Nat),i+m=a.l.length →
 Cd E TT ak (.loop [0,1,5] lN) [(0,.d (a.d Term.c)),(1,.d (b.d Term.c)),(5,.d (i64 i))] h=if all2 Term.eqB (a.l.drop i) (b.l.drop i)=true then some (.exit 0,[],h) else some (.ret,[(4,bl false)],h):=by
 have hlt:=ha.lt;intro m;have key:=aF (E:=E) (T:=TT) (val:=ak) [0,1,5] lN;generalize Cd E TT ak (.loop [0,1,5] lN)=W at key ⊢
 induction m with
 | zero =>
  intro i hi;rw [key,aq (by omega),aq (by omega)];simp [lN,all2,show ¬ ((i:Int)<a.l.length) from by omega]
 | succ m ih =>
  intro i hi;have h1:i<a.l.length:=by omega
  have h2:i<b.l.length:=by omega
  have hx:=λh=>av (z:=2) h (ab h1) (cells:=Term.c) rfl;have hy:=λh=>av (z:=2) h (ab h2) (cells:=Term.c) rfl;have hw:=ay h1 hlt;have:=ih (i+1) (by omega);rw [key,iO h1 h2];cases hq:Term.eqB a.l[i] b.l[i] with
  | true =>
   simp [lN,hx,hy,hq,hw,show ((i:Int)<a.l.length) from by omega];simpa using this
  | false=>simp [lN,hx,hy,hq,show ((i:Int)<a.l.length) from by omega]
theorem kM {a b:Sl Term}(ha:short a)(h:Hp):Sm E TT ak 76 [.d (a.d Term.c),.d (b.d Term.c)] h=some (bl (all2 Term.eqB a.l b.l),h):=by
 rw [aQ t183 v183];by_cases hl:a.l.length=b.l.length
 . have hL:=XJ (E:=E) ha hl ⟨[],0⟩ a.l.length 0 (by omega);simp at hL;simp [aa,JC,hl];rw [au];simp [hL];cases hq:all2 Term.eqB a.l b.l<;>simp
 . have hl':¬ ((a.l.length:Int)=b.l.length):=by omega
   simp [aa,JC,hl,hl',gZ hl]
theorem XK {a b:Sl Cidr}(ha:short a)(hl:a.l.length=b.l.length)(h:Hp):∀ (m i:Nat),i+m=a.l.length →
 Cd E TT ak (.loop [0,1,5] lS) [(0,.d (a.d Cidr.c)),(1,.d (b.d Cidr.c)),(5,.d (i64 i))] h=if all2 Cidr.eqB (a.l.drop i) (b.l.drop i)=true then some (.exit 0,[],h) else some (.ret,[(4,bl false)],h):=by
 have hlt:=ha.lt;intro m;have key:=aF (E:=E) (T:=TT) (val:=ak) [0,1,5] lS;generalize Cd E TT ak (.loop [0,1,5] lS)=W at key ⊢
 induction m with
 | zero =>
  intro i hi;rw [key,aq (by omega),aq (by omega)];simp [lS,all2,show ¬ ((i:Int)<a.l.length) from by omega]
 | succ m ih =>
  intro i hi;have h1:i<a.l.length:=by omega
  have h2:i<b.l.length:=by omega
  have hx:=λh=>av (z:=2) h (ab h1) (cells:=Cidr.c) rfl;have hy:=λh=>av (z:=2) h (ab h2) (cells:=Cidr.c) rfl;have hw:=ay h1 hlt;have:=ih (i+1) (by omega);rw [key,iO h1 h2];cases hq:Cidr.eqB a.l[i] b.l[i] with
  | true =>
   simp [lS,hx,hy,hq,hw,show ((i:Int)<a.l.length) from by omega];simpa using this
  | false=>simp [lS,hx,hy,hq,show ((i:Int)<a.l.length) from by omega]
theorem Qp {a b:Sl Cidr}(ha:short a)(h:Hp):Sm E TT ak 77 [.d (a.d Cidr.c),.d (b.d Cidr.c)] h=some (bl (all2 Cidr.eqB a.l b.l),h):=by
 rw [aQ ag9 aq8];by_cases hl:a.l.length=b.l.length
 . have hL:=XK (E:=E) ha hl ⟨[],0⟩ a.l.length 0 (by omega);simp at hL;simp [aa,JD,hl];rw [au];simp [hL];cases hq:all2 Cidr.eqB a.l b.l<;>simp
 . have hl':¬ ((a.l.length:Int)=b.l.length):=by omega
   simp [aa,JD,hl,hl',gZ hl]
theorem P8 {a b:Rule}(ha:a.fits big)(hl:a.frm.l.length=b.frm.l.length):∀ (m i:Nat) (J:List Blk),i+m=a.frm.l.length →
 ∃ J',Cd E TT ak (.loop [2,3,5] oV) [(2,.ptr 0 0),(3,.ptr 1 0),(5,.d (i64 i))] ⟨.cells (a.c.map .d)::.cells (b.c.map .d)::J,0⟩ =
  if all2 Source.same (a.frm.l.drop i) (b.frm.l.drop i)=true then some (.exit 0,[(2,.ptr 0 0),(3,.ptr 1 0)],⟨.cells (a.c.map .d)::.cells (b.c.map .d)::J',0⟩)
  else some (.ret,[(4,bl false)],⟨.cells (a.c.map .d)::.cells (b.c.map .d)::J',0⟩):=by
 have hlt:=ha.1.1.lt;intro m;have key:=aF (E:=E) (T:=TT) (val:=ak) [2,3,5] oV;generalize Cd E TT ak (.loop [2,3,5] oV)=W at key ⊢
 induction m with
 | zero =>
  intro i J hi;refine ⟨J,?_⟩;rw [key,aq (by omega),aq (by omega)];simp [oV,all2,show ¬ ((i:Int)<a.frm.l.length) from by omega]
 | succ m ih =>
  intro i J hi;have h1:i<a.frm.l.length:=by omega
  have h2:i<b.frm.l.length:=by omega
  have hx:=λh=>av (z:=3) h (ab h1) (cells:=Source.c) rfl;have hy:=λh=>av (z:=3) h (ab h2) (cells:=Source.c) rfl;have hw:=ay h1 hlt;have hfx:=ha.1.2 _ (bh h1);rw [iO h1 h2];generalize a.frm.l[i]=x at *;generalize b.frm.l[i]=y at *;obtain ⟨J',hJ⟩:=ih (i+1) (J++[.cells (x.c.map .d),.cells (y.c.map .d)]) (by omega);cases hA:all2 Term.eqB x.names.l y.names.l<;>cases hB:all2 Term.eqB x.spaces.l y.spaces.l<;>cases hC:all2 Cidr.eqB x.nets.l y.nets.l
  case true.true.true =>
   refine ⟨J',?_⟩;rw [key];simp [oV,hx,hy,az,aG,Tr.spares,List.range,List.range.loop,kM hfx.1,kM hfx.2.1,Qp hfx.2.2,hA,hB,hC,hw,Source.same,show ((i:Int)<a.frm.l.length) from by omega];simpa using hJ
  all_goals
   refine ⟨J++[.cells (x.c.map .d),.cells (y.c.map .d)],?_⟩;rw [key];simp [oV,hx,hy,az,aG,Tr.spares,List.range,List.range.loop,kM hfx.1,kM hfx.2.1,Qp hfx.2.2,hA,hB,hC,Source.same,show ((i:Int)<a.frm.l.length) from by omega]
theorem P9 {x y:Target}(hx:short x.ports)(hl:x.ports.l.length=y.ports.l.length){h:Hp}{p q:Nat}{t2 t3 t8:V}(hp:ai h.bs p=some (x.c.map .d))(hq:ai h.bs q=some (y.c.map .d)):∀ (m i:Nat),i+m=x.ports.l.length →
 Cd E TT ak (.loop [2,3,8,9,10,11] oW) [(2,t2),(3,t3),(8,t8),(9,.ptr p 0),(10,.ptr q 0),(11,.d (i64 i))] h =
  if all2 (λx y:Int=>x==y) (x.ports.l.drop i) (y.ports.l.drop i)=true then some (.exit 4,[(2,t2),(3,t3),(8,t8)],h) else some (.ret,[(4,bl false)],h):=by
 have hlt:=hx.lt;intro m;have key:=aF (E:=E) (T:=TT) (val:=ak) [2,3,8,9,10,11] oW;generalize Cd E TT ak (.loop [2,3,8,9,10,11] oW)=W at key ⊢
 induction m with
 | zero =>
  intro i hi;rw [key,aq (by omega),aq (by omega)];simp [oW,all2,hp,show ¬ ((i:Int)<x.ports.l.length) from by omega]
 | succ m ih =>
  intro i hi;have h1:i<x.ports.l.length:=by omega
  have h2:i<y.ports.l.length:=by omega
  have hx:=λh=>av (z:=1) h (ab h1) (cells:=iB) rfl;have hy:=λh=>av (z:=1) h (ab h2) (cells:=iB) rfl;have hw:=ay h1 hlt;have:=ih (i+1) (by omega);rw [key,iO h1 h2];generalize x.ports.l[i]=u at *;generalize y.ports.l[i]=w at *;by_cases hu:u=w
  . subst hu;simp [oW,hp,hq,hx,hy,hw,iB,show ((i:Int)<x.ports.l.length) from by omega];simpa using this
  . simp [oW,hp,hq,hx,hy,hu,iB,show ((i:Int)<x.ports.l.length) from by omega]
theorem Qa {a b:Rule}(ha:a.fits big)(hl:a.to.l.length=b.to.l.length):∀ (m i:Nat) (J:List Blk),i+m=a.to.l.length →
 ∃ J',Cd E TT ak (.loop [2,3,8] kv) [(2,.ptr 0 0),(3,.ptr 1 0),(8,.d (i64 i))] ⟨.cells (a.c.map .d)::.cells (b.c.map .d)::J,0⟩ =
  if all2 Target.same (a.to.l.drop i) (b.to.l.drop i)=true then some (.exit 2,[(2,.ptr 0 0),(3,.ptr 1 0)],⟨.cells (a.c.map .d)::.cells (b.c.map .d)::J',0⟩)
  else some (.ret,[(4,bl false)],⟨.cells (a.c.map .d)::.cells (b.c.map .d)::J',0⟩):=by
 have hlt:=ha.2.1.1.lt;intro m;have key:=aF (E:=E) (T:=TT) (val:=ak) [2,3,8] kv;generalize Cd E TT ak (.loop [2,3,8] kv)=W at key ⊢
 induction m with
 | zero =>
  intro i J hi;refine ⟨J,?_⟩;rw [key,aq (by omega),aq (by omega)];simp [kv,all2,show ¬ ((i:Int)<a.to.l.length) from by omega]
 | succ m ih =>
  intro i J hi;have h1:i<a.to.l.length:=by omega
  have h2:i<b.to.l.length:=by omega
  have hx:=λh=>av (z:=4) h (ab h1) (cells:=Target.c) rfl;have hy:=λh=>av (z:=4) h (ab h2) (cells:=Target.c) rfl;have hw:=ay h1 hlt;have hfx:=ha.2.1.2 _ (bh h1);rw [iO h1 h2];generalize a.to.l[i]=x at *;generalize b.to.l[i]=y at *;obtain ⟨J',hJ⟩:=ih (i+1) (J++[.cells (x.c.map .d),.cells (y.c.map .d)]) (by omega);by_cases hA:all2 Term.eqB x.methods.l y.methods.l=true
  case neg =>
   refine ⟨J++[.cells (x.c.map .d),.cells (y.c.map .d)],?_⟩;simp only [Bool.not_eq_true] at hA;rw [key];simp [kv,hx,hy,az,aG,Tr.spares,List.range,List.range.loop,kM hfx.2.1,hA,Target.same,show ((i:Int)<a.to.l.length) from by omega]
  by_cases hB:all2 Term.eqB x.paths.l y.paths.l=true
  case neg =>
   refine ⟨J++[.cells (x.c.map .d),.cells (y.c.map .d)],?_⟩;simp only [Bool.not_eq_true] at hB;rw [key];simp [kv,hx,hy,az,aG,Tr.spares,List.range,List.range.loop,kM hfx.2.1,kM hfx.2.2.1,hA,hB,Target.same,show ((i:Int)<a.to.l.length) from by omega]
  by_cases hC:all2 Term.eqB x.hosts.l y.hosts.l=true
  case neg =>
   refine ⟨J++[.cells (x.c.map .d),.cells (y.c.map .d)],?_⟩;simp only [Bool.not_eq_true] at hC;rw [key];simp [kv,hx,hy,az,aG,Tr.spares,List.range,List.range.loop,kM hfx.2.1,kM hfx.2.2.1,kM hfx.2.2.2,hA,hB,hC,Target.same,show ((i:Int)<a.to.l.length) from by omega]
  by_cases hD:x.ports.l.length=y.ports.l.length
  case neg =>
   refine ⟨J++[.cells (x.c.map .d),.cells (y.c.map .d)],?_⟩;have hD':¬ ((x.ports.l.length:Int)=y.ports.l.length):=by omega
   rw [key];simp [kv,hx,hy,az,aG,Tr.spares,List.range,List.range.loop,kM hfx.2.1,kM hfx.2.2.1,kM hfx.2.2.2,hA,hB,hC,hD',gZ hD,Target.same,show ((i:Int)<a.to.l.length) from by omega]
  have hin:=P9 (E:=E) (x:=x) (y:=y) hfx.1 hD (h:=⟨.cells (a.c.map .d)::.cells (b.c.map .d)::(J++[.cells (x.c.map .d),.cells (y.c.map .d)]),0⟩) (p:=J.length+1+1) (q:=J.length+1+1+1) (t2:=.ptr 0 0) (t3:=.ptr 1 0) (t8:=.d (i64 i)) (by simp) (by simp) x.ports.l.length 0 (by omega);simp at hin;by_cases hF:all2 (λx y:Int=>x==y) x.ports.l y.ports.l=true
  . refine ⟨J',?_⟩;rw [key];simp [kv,hx,hy,az,aG,Tr.spares,List.range,List.range.loop,kM hfx.2.1,kM hfx.2.2.1,kM hfx.2.2.2,hA,hB,hC,hD,Target.same,show ((i:Int)<a.to.l.length) from by omega];rw [au];simp [hin,hF,hw];simpa using hJ
  . refine ⟨J++[.cells (x.c.map .d),.cells (y.c.map .d)],?_⟩;rw [key];simp [kv,hx,hy,az,aG,Tr.spares,List.range,List.range.loop,kM hfx.2.1,kM hfx.2.2.1,kM hfx.2.2.2,hA,hB,hC,hD,Target.same,show ((i:Int)<a.to.l.length) from by omega];rw [au];simp [hin,hF]
theorem Qb {a b:Rule}(ha:a.fits big)(hl:a.whn.l.length=b.whn.l.length)(J:List Blk):∀ (m i:Nat),i+m=a.whn.l.length →
 Cd E TT ak (.loop [2,3,12] ng) [(2,.ptr 0 0),(3,.ptr 1 0),(12,.d (i64 i))] ⟨.cells (a.c.map .d)::.cells (b.c.map .d)::J,0⟩ =
  if all2 When.same (a.whn.l.drop i) (b.whn.l.drop i)=true then some (.exit 6,[],⟨.cells (a.c.map .d)::.cells (b.c.map .d)::J,0⟩)
  else some (.ret,[(4,bl false)],⟨.cells (a.c.map .d)::.cells (b.c.map .d)::J,0⟩):=by
 have hlt:=ha.2.2.1.lt;intro m;have key:=aF (E:=E) (T:=TT) (val:=ak) [2,3,12] ng;generalize Cd E TT ak (.loop [2,3,12] ng)=W at key ⊢
 induction m with
 | zero =>
  intro i hi;rw [key,aq (by omega),aq (by omega)];simp [ng,all2,show ¬ ((i:Int)<a.whn.l.length) from by omega]
 | succ m ih =>
  intro i hi;have h1:i<a.whn.l.length:=by omega
  have h2:i<b.whn.l.length:=by omega
  have hx:=λh=>av (z:=2) h (ab h1) (cells:=When.c) rfl;have hy:=λh=>av (z:=2) h (ab h2) (cells:=When.c) rfl;have hw:=ay h1 hlt;have hfx:=ha.2.2.2 _ (bh h1);have:=ih (i+1) (by omega);rw [key,iO h1 h2];generalize a.whn.l[i]=x at *;generalize b.whn.l[i]=y at *;cases hA:eqS x.head y.head
  case false=>simp [ng,hx,hy,az,ae,aG,Tr.spares,aL,List.range,List.range.loop,hA,When.same,show ((i:Int)<a.whn.l.length) from by omega]
  cases hB:all2 Term.eqB x.terms.l y.terms.l
  case false=>simp [ng,hx,hy,az,ae,aG,Tr.spares,aL,List.range,List.range.loop,kM hfx,hA,hB,When.same,show ((i:Int)<a.whn.l.length) from by omega]
  simp [ng,hx,hy,az,ae,aG,Tr.spares,aL,List.range,List.range.loop,kM hfx,hA,hB,hw,When.same,show ((i:Int)<a.whn.l.length) from by omega];simpa using this
end
section
def aX:List Int->Bool
 | x::y::l=>decide (x<y)&&aX (y::l)
 | _=>true
theorem nk {l:List Int}{i:Nat}(h:i+1<l.length):aX (l.drop i)=(decide (l[i]<l[i+1])&&aX (l.drop (i+1))):=by
 rw [ap (show i<l.length by omega),ap h];simp only [aX]
theorem pF {l:List Int}{i:Nat}(h:l.length<=i+1):aX (l.drop i)=true:=by
 have:(l.drop i).length<=1:=by simp only [List.length_drop]; omega
 match l.drop i,this with
 | [],_=>rfl
 | [_],_=>rfl
 | _::_::_,h=>simp at h
theorem sZ {α:Type}{cells:α->List D}{z:Nat}(hz:∀ x,(cells x).length=z){s:Sl α}{i:Nat}(hi:i<s.l.length){kd:IntKind}{h:Hp}:cZ none z (.d (s.d cells)) (.d (.int kd i)) h=some (.eptr (cells s.l[i]) 0,h):=by
 simp [cZ,Sl.d,hi,hz]
section
variable {E:Calls'}{T:FuncId->Option QF}{val:FuncId->Bool}
theorem qX {con id:FuncId}(ht:T id=some (someQ con))(hv:val id=false){v:V}{f:FuncId}{caps:List V}{b:Bool}{h:Hp}(hnu:nu v=some v)(hok:okV v=true)(hc:Sm E T val con [v,.fn f caps] ⟨h.bs,h.bs.length⟩=some (bl b,⟨h.bs,h.bs.length⟩)) :
 Sm E T val id [v,.fn f caps] h=some (bl b,h):=by
 rw [aT ht hv];simp [someQ,aa,hnu,hok,hc,V.under]
end
end
section
variable {E:Calls'}
theorem S86 (a b:Rule)(ha:a.fits big)(h:Hp):Sm E TT ak 35 [ag a.c,ag b.c] h=some (bl (a.same b),h):=by
 rw [aQ t86 v86];by_cases h1:a.frm.l.length=b.frm.l.length
 case neg =>
  have h1':¬ ((a.frm.l.length:Int)=b.frm.l.length):=by omega
  simp [aa,q86,h1',Rule.same,gZ h1]
 by_cases h2:a.to.l.length=b.to.l.length
 case neg =>
  have h1':¬ ((a.to.l.length:Int)=b.to.l.length):=by omega
  simp [aa,q86,h1,h1',Rule.same,gZ h2]
 by_cases h3:a.whn.l.length=b.whn.l.length
 case neg =>
  have h1':¬ ((a.whn.l.length:Int)=b.whn.l.length):=by omega
  simp [aa,q86,h1,h2,h1',Rule.same,gZ h3]
 obtain ⟨J1,k1⟩:=P8 (E:=E) ha h1 a.frm.l.length 0 [] (by omega);obtain ⟨J2,k2⟩:=Qa (E:=E) ha h2 a.to.l.length 0 J1 (by omega);have k3:=Qb (E:=E) ha h3 J2 a.whn.l.length 0 (by omega);simp at k1 k2 k3;simp [aa,q86,h1,h2,h3];rw [au];simp [k1];cases hA:all2 Source.same a.frm.l b.frm.l
 case false=>simp [Rule.same,hA]
 simp;rw [au];simp [k2];cases hB:all2 Target.same a.to.l b.to.l
 case false=>simp [Rule.same,hA,hB]
 simp;rw [au];simp [k3];cases hC:all2 When.same a.whn.l b.whn.l
 case false=>simp [Rule.same,hA,hB,hC]
 simp [Rule.same,hA,hB,hC]
theorem L29 {a b:Pol}(ha:a.ok)(hl:a.rules.l.length=b.rules.l.length):∀ (m i:Nat),i+m=a.rules.l.length →
 Cd E TT ak (.loop [2,3,5] oK) [(2,.ptr 0 0),(3,.ptr 1 0),(5,.d (i64 i))] ⟨[.cells (a.c.map .d),.cells (b.c.map .d)],0⟩ =
  if all2 Rule.same (a.rules.l.drop i) (b.rules.l.drop i)=true then some (.exit 0,[],⟨[.cells (a.c.map .d),.cells (b.c.map .d)],0⟩)
  else some (.ret,[(4,bl false)],⟨[.cells (a.c.map .d),.cells (b.c.map .d)],0⟩):=by
 have hlt:=ha.1.lt;intro m;have key:=aF (E:=E) (T:=TT) (val:=ak) [2,3,5] oK;generalize Cd E TT ak (.loop [2,3,5] oK)=W at key ⊢
 induction m with
 | zero =>
  intro i hi;rw [key,aq (by omega),aq (by omega)];simp [oK,all2,show ¬ ((i:Int)<a.rules.l.length) from by omega]
 | succ m ih =>
  intro i hi;have h1:i<a.rules.l.length:=by omega
  have h2:i<b.rules.l.length:=by omega
  have hx:=λh=>av (z:=3) h (ab h1) (cells:=Rule.c) rfl;have hy:=λh=>av (z:=3) h (ab h2) (cells:=Rule.c) rfl;have hw:=ay h1 hlt;have hfx:=ha.2 _ (bh h1);have:=ih (i+1) (by omega);rw [key,iO h1 h2];generalize a.rules.l[i]=x at *;generalize b.rules.l[i]=y at *;cases hA:x.same y
  case false=>simp +decide [oK,hx,hy,az,ae,S86 x y hfx,hA,show ((i:Int)<a.rules.l.length) from by omega]
  simp +decide [oK,hx,hy,az,ae,S86 x y hfx,hA,hw,show ((i:Int)<a.rules.l.length) from by omega];simpa using this
theorem S29 (a b:Pol)(ha:a.ok)(h:Hp):Sm E TT ak 16 [ag a.c,ag b.c] h=some (bl (a.same b),h):=by
 rw [aQ t29 v29];by_cases h1:a.id=b.id
 case neg=>simp [aa,q29,h1,Pol.same]
 cases h2:eqS a.ns b.ns
 case false=>simp [aa,q29,h1,h2,Pol.same]
 by_cases h3:a.service=b.service
 case neg=>simp [aa,q29,h1,h2,h3,Pol.same]
 by_cases h4:a.deny=b.deny
 case neg=>simp [aa,q29,h1,h2,h3,h4,Pol.same]
 by_cases h5:a.rules.l.length=b.rules.l.length
 case neg =>
  have h1':¬ ((a.rules.l.length:Int)=b.rules.l.length):=by omega
  simp [aa,q29,h1,h2,h3,h4,h1',Pol.same,gZ h5]
 have k:=L29 (E:=E) ha h5 a.rules.l.length 0 (by omega);simp at k;simp [aa,q29,h1,h2,h3,h4,h5];rw [au];simp [k];cases hA:all2 Rule.same a.rules.l b.rules.l
 case false=>simp [Pol.same,hA]
 simp [Pol.same,hA,h1,h2,h3,h4]
theorem yP:∀ (l:List Rule),all2 Rule.same (l.map Rule.own) l=true
 | []=>rfl
 | r::l=>by
  have h1:r.own.same r=true:=by
   have:=r.same_refl;simpa [Rule.same,Rule.own] using this
  simp [all2,h1,yP l]
theorem own_same (p:Pol):p.own.same p=true:=by
 simp [Pol.same,Pol.own,yP]
end
section
variable {E:Calls'}
end
section
variable {E:Calls'}
@[simp] theorem O8 (a b:Nat):(a<b\/b<=a)↔True:=⟨λ_=>trivial,λ_=>cm a b⟩
@[simp] theorem em' {p:Prop}:(¬ p\/p)↔True:=⟨λ_=>trivial,λ_=>(Classical.em p).symm⟩
theorem Acc.app0 {base:List Blk}{z:Nat}{acc:List (List D)}{bs:List Blk}{v:V}(h:Acc base z acc bs v)(hz0:0<z){by_:Nat}(hby:by_<=4096){e:List D}(he:e.length=z)(hl:acc.length<big){r:Nat}{cap:Option Nat}(hr:ai bs r=some (e.map .d)) :
 ∃ v' bs',fw ⟨bs,0⟩ z by_ v (.row r 0 1 cap z)=some (v',⟨bs',0⟩)/\Acc base z (acc++[e]) bs' v':=by
 obtain ⟨v1,bs1,lo1,k1,k2⟩:=h.app hz0 hby he hl 0 (cap:=cap) hr;have hl0:lo1=0:=by
  simp only [fw] at k1;split at k1
  . unfold aI at k1
    revert k1
    (repeat' split)<;>intro k1<;>simp_all [Hp.alloc,Hp.set]<;>omega
  . cases k1
 subst hl0;exact ⟨v1,bs1,k1,k2⟩
theorem zA {α β:Type}(f:α->β)(l:List α):(l.map f).isEmpty=l.isEmpty:=by cases l<;>rfl
def GM (c:Cfg)(x:Pod):List Pol:=c.policies.l.filter λp=>cB p x.ns x.service
theorem L51 (c:Cfg)(hc:c.ok)(x:Pod):∀ (m i:Nat) (acc:List Pol) (bs:List Blk) (v:V),i+m=c.policies.l.length->acc.length<=i->Acc [.cells (c.c.map .d),.cells (x.c.map .d)] 5 (acc.map Pol.c) bs v →
 ∃ bs' v',Cd E TT ak (.loop [2,3,5,6] oP) [(2,.ptr 0 0),(3,.ptr 1 0),(5,v),(6,.d (i64 i))] ⟨bs,0⟩=some (.exit 0,[(5,v')],⟨bs',0⟩) ∧
  Acc [.cells (c.c.map .d),.cells (x.c.map .d)] 5 ((acc++(c.policies.l.drop i).filter λp=>cB p x.ns x.service).map Pol.c) bs' v':=by
 have hlt:=hc.2.2.2.1.lt;intro m;have key:=aF (E:=E) (T:=TT) (val:=ak) [2,3,5,6] oP;generalize Cd E TT ak (.loop [2,3,5,6] oP)=W at key ⊢
 induction m with
 | zero =>
  intro i acc bs v hi ha hA;have hb:=hA.get (x:=0) rfl;refine ⟨bs,v,?_,by rw [aq (by omega)]; simpa using hA⟩;rw [key];simp [oP,hb,show ¬ ((i:Int)<c.policies.l.length) from by omega]
 | succ m ih =>
  intro i acc bs v hi ha hA;have hb:=hA.get (x:=0) rfl;have hb1:=hA.get (x:=1) rfl;have hnu:=hA.nu;have h1:i<c.policies.l.length:=by omega
  have hx:=λh=>av (z:=5) h (ab h1) (cells:=Pol.c) rfl;have hw:=ay h1 hlt;rw [ap h1];generalize c.policies.l[i]=p at *;cases hq:cB p x.ns x.service
  case true =>
   have hA2:=hA.lay [.cells (p.c.map .d)];obtain ⟨v1,bs1,k1,k2⟩:=hA2.app0 (by decide) (by_:=64) (by decide) (e:=p.c) rfl (by have:=hc.2.2.2.1.1; simp; omega) (r:=bs.length) (cap:=some 1) (by simp);have hnu1:=k2.nu;obtain ⟨bs',v',q1,q2⟩:=ih (i+1) (acc++[p]) bs1 v1 (by omega) (by simp; omega) (by simpa using k2);refine ⟨bs',v',?_,by simpa [hq] using q2⟩;rw [key];simp [oP,hb,hb1,hx,az,ae,aG,Tr.spares,List.range,List.range.loop,S53,hq,hw,hnu,aB,k1,hnu1,show ((i:Int)<c.policies.l.length) from by omega];simpa using q1
  case false =>
   obtain ⟨bs',v',q1,q2⟩:=ih (i+1) acc _ v (by omega) (by omega) hA;refine ⟨bs',v',?_,by simpa [hq] using q2⟩;rw [key];simp [oP,hb,hb1,hx,az,ae,aG,Tr.spares,List.range,List.range.loop,S53,hq,hw,show ((i:Int)<c.policies.l.length) from by omega];simpa using q1
theorem S51 (c:Cfg)(hc:c.ok)(x:Pod)(h:Hp):Sm E TT ak 75 [c.v,x.v] h=some (.d (.slice (GM c x).isEmpty ((GM c x).map Pol.c)),h):=by
 rw [aQ t51 v51];obtain ⟨bs',v',q1,q2⟩:=L51 (E:=E) c hc x c.policies.l.length 0 [] [.cells (c.c.map .d),.cells (x.c.map .d)] (.d (.slice true [])) (by omega) (by simp) (Acc.nil _ 5);have hnu:=q2.nu;have hfz:=(q2.frz 0).1;rw [zA] at hfz;simp only [List.nil_append,List.drop_zero] at hfz;simp at q1;simp [aa,q51];rw [au];simp [q1,hnu];rw [hfz];simp [GM]
end
section
variable {E:Calls'}
theorem kY {n:Int}:∃ m,dW .quo (.d (.int .i64 n)) (.d (.int .i64 64))=some (.int .i64 m):=⟨_,by simp [dW,fZ]; rfl⟩
theorem XL {s:Sl Term}(hs:short s)(h:Hp):∀ (m i:Nat) (n:Int),i+m=s.l.length →
 ∃ n',Cd E TT ak (.loop [0,3,4] lT) [(0,.d (s.d Term.c)),(3,.d (i64 n)),(4,.d (i64 i))] h=some (.exit 0,[(3,.d (i64 n'))],h):=by
 have hlt:=hs.lt;intro m;have key:=aF (E:=E) (T:=TT) (val:=ak) [0,3,4] lT;generalize Cd E TT ak (.loop [0,3,4] lT)=W at key ⊢
 induction m with
 | zero =>
  intro i n hi;refine ⟨n,?_⟩;rw [key];simp [lT,show ¬ ((i:Int)<s.l.length) from by omega]
 | succ m ih =>
  intro i n hi;have hlt:i<s.l.length:=by omega
  have hx:=λh=>av (z:=2) h (ab hlt) (cells:=Term.c) rfl;have hw:=ay hlt (by omega);by_cases hn:n<=2000
  . generalize s.l[i]=x at *;obtain ⟨k,hq⟩:=kY (n:=x.text.size);obtain ⟨n',q1⟩:=ih (i+1) (wrap .i64 (n+k)) (by omega);refine ⟨n',?_⟩;rw [key];simp [lT,hx,hq,hw,hn,show ((i:Int)<s.l.length) from by omega];simpa using q1
  . refine ⟨n,?_⟩;rw [key];simp [lT,hn,show ((i:Int)<s.l.length) from by omega]
theorem Dl {s:Sl Term}(hs:short s):∃ n':Int,∀ h,Sm E TT ak 128 [.d (s.d Term.c)] h=some (.d (i64 n'),h):=by
 obtain ⟨n',q1⟩:=XL (E:=E) hs ⟨[],0⟩ s.l.length 0 s.l.length (by omega);refine ⟨n',λh=>?_⟩;rw [aQ ah0 aq9];simp at q1;simp [aa,NN];rw [au];simp [q1]
def Tr.mute (t:Tr):Bool:=!t.big&&t.wr.isEmpty&&t.lo==t.hi
theorem bu {pr:List (List Nat)}{l:List Tr}(h:l.all Tr.mute=true):aG pr l=true:=by
 have hm:∀ t∈l,t.big=false/\t.wr=[]/\t.lo=t.hi:=by
  intro t ht;have:=cj.1 h t ht;simp only [Tr.mute,ao,Bool.not_eq_true',List.isEmpty_iff,beq_iff_eq] at this;exact ⟨this.1.1,this.1.2,this.2⟩
 simp only [aG,cj,List.mem_range,Bool.or_eq_true];intro i hi j hj;right;rw [ab hi,ab hj];obtain ⟨a1,a2,a3⟩:=hm _ (bh hi);obtain ⟨b1,b2,b3⟩:=hm _ (bh hj);simp only [Tr.spares,a1,b1,a2,a3,Bool.or_self,bm,if_false];split
 . simp
 . simp only [cj];intro b _;simp
theorem Qc {r:Rule}(hr:r.fits big){h:Hp}{q:Nat}{t1 t4:V}(hq:ai h.bs q=some (r.c.map .d)):∀ (m i:Nat) (n:Int),i+m=r.frm.l.length →
 ∃ n',Cd E TT ak (.loop [1,3,4,5,6] oZ) [(1,t1),(3,.d (i64 n)),(4,t4),(5,.ptr q 0),(6,.d (i64 i))] h=some (.exit 2,[(1,t1),(3,.d (i64 n')),(4,t4),(5,.ptr q 0)],h):=by
 have hlt:=hr.1.1.lt;intro m;have key:=aF (E:=E) (T:=TT) (val:=ak) [1,3,4,5,6] oZ;generalize Cd E TT ak (.loop [1,3,4,5,6] oZ)=W at key ⊢
 induction m with
 | zero =>
  intro i n hi;refine ⟨n,?_⟩;rw [key];simp [oZ,hq,show ¬ ((i:Int)<r.frm.l.length) from by omega]
 | succ m ih =>
  intro i n hi;have h1:i<r.frm.l.length:=by omega
  have hx:=λh=>av (z:=3) h (ab h1) (cells:=Source.c) rfl;have hw:=ay h1 hlt;have hfx:=hr.1.2 _ (bh h1);by_cases hn:n<=2000
  . generalize r.frm.l[i]=x at *;obtain ⟨k0,hk0⟩:=Dl (E:=E) (s:=x.names) hfx.1;obtain ⟨k1,hk1⟩:=Dl (E:=E) (s:=x.spaces) hfx.2.1;rw [key];simp [oZ,hq,hx,az,ae,bu,Tr.mute,hk0,hk1,hw,hn,show ((i:Int)<r.frm.l.length) from by omega];rw [show ((i:Int)+1)=((i+1:Nat):Int) from by omega];exact ih (i+1) _ (by omega)
  . refine ⟨n,?_⟩;rw [key];simp [oZ,hq,hn,show ((i:Int)<r.frm.l.length) from by omega]
theorem Qd {r:Rule}(hr:r.fits big){h:Hp}{q:Nat}{t1 t4:V}(hq:ai h.bs q=some (r.c.map .d)):∀ (m i:Nat) (n:Int),i+m=r.to.l.length →
 ∃ n',Cd E TT ak (.loop [1,3,4,5,7] pu) [(1,t1),(3,.d (i64 n)),(4,t4),(5,.ptr q 0),(7,.d (i64 i))] h=some (.exit 4,[(1,t1),(3,.d (i64 n')),(4,t4),(5,.ptr q 0)],h):=by
 have hlt:=hr.2.1.1.lt;intro m;have key:=aF (E:=E) (T:=TT) (val:=ak) [1,3,4,5,7] pu;generalize Cd E TT ak (.loop [1,3,4,5,7] pu)=W at key ⊢
 induction m with
 | zero =>
  intro i n hi;refine ⟨n,?_⟩;rw [key];simp [pu,hq,show ¬ ((i:Int)<r.to.l.length) from by omega]
 | succ m ih =>
  intro i n hi;have h1:i<r.to.l.length:=by omega
  have hx:=λh=>av (z:=4) h (ab h1) (cells:=Target.c) rfl;have hw:=ay h1 hlt;have hfx:=hr.2.1.2 _ (bh h1);by_cases hn:n<=2000
  . generalize r.to.l[i]=x at *;obtain ⟨k0,hk0⟩:=Dl (E:=E) (s:=x.methods) hfx.2.1;obtain ⟨k1,hk1⟩:=Dl (E:=E) (s:=x.paths) hfx.2.2.1;obtain ⟨k2,hk2⟩:=Dl (E:=E) (s:=x.hosts) hfx.2.2.2;rw [key];simp [pu,hq,hx,az,ae,bu,Tr.mute,hk0,hk1,hk2,hw,hn,show ((i:Int)<r.to.l.length) from by omega];rw [show ((i:Int)+1)=((i+1:Nat):Int) from by omega];exact ih (i+1) _ (by omega)
  . refine ⟨n,?_⟩;rw [key];simp [pu,hq,hn,show ((i:Int)<r.to.l.length) from by omega]
theorem Qe {r:Rule}(hr:r.fits big){h:Hp}{q:Nat}{t1 t4:V}(hq:ai h.bs q=some (r.c.map .d)):∀ (m i:Nat) (n:Int),i+m=r.whn.l.length →
 ∃ n',Cd E TT ak (.loop [1,3,4,5,8] pz) [(1,t1),(3,.d (i64 n)),(4,t4),(5,.ptr q 0),(8,.d (i64 i))] h=some (.exit 6,[(1,t1),(3,.d (i64 n')),(4,t4)],h):=by
 have hlt:=hr.2.2.1.lt;intro m;have key:=aF (E:=E) (T:=TT) (val:=ak) [1,3,4,5,8] pz;generalize Cd E TT ak (.loop [1,3,4,5,8] pz)=W at key ⊢
 induction m with
 | zero =>
  intro i n hi;refine ⟨n,?_⟩;rw [key];simp [pz,hq,show ¬ ((i:Int)<r.whn.l.length) from by omega]
 | succ m ih =>
  intro i n hi;have h1:i<r.whn.l.length:=by omega
  have hx:=λh=>av (z:=2) h (ab h1) (cells:=When.c) rfl;have hw:=ay h1 hlt;have hfx:=hr.2.2.2 _ (bh h1);by_cases hn:n<=2000
  . generalize r.whn.l[i]=x at *;obtain ⟨k0,hk0⟩:=Dl (E:=E) (s:=x.terms) hfx;obtain ⟨w,hw2⟩:=kY (n:=x.head.size);rw [key];simp [pz,hq,hx,az,ae,bu,Tr.mute,hk0,hw,hn,hw2,show ((i:Int)<r.whn.l.length) from by omega];rw [show ((i:Int)+1)=((i+1:Nat):Int) from by omega];exact ih (i+1) _ (by omega)
  . refine ⟨n,?_⟩;rw [key];simp [pz,hq,hn,show ((i:Int)<r.whn.l.length) from by omega]
end
section
def DV (p:Nat)(r:List V):Option Int:=match r[p]? with
 | some (.d (.int .u64 n))=>some n
 | _=>none
def mV (p:Nat)(r:List V):Int:=(DV p r).getD 0
theorem DW {p:Nat}{r:List V}{n:Int}(h:DV p r=some n):r[p]?=some (.d (.int .u64 n)):=by
 unfold DV at h;split at h
 . rename_i m hm; cases h; exact hm
 . cases h
def chunk (z n:Nat)(cs:List V):List (List V):=(List.range n).map λi=>(cs.drop (i * z)).take z
def gG (p:Nat)(rs:List (List V)):List (List V):=rs.mergeSort λx y=>decide (mV p x<=mV p y)
structure SF where
 z:Nat
 p:Nat
 g:FuncId
 id:FuncId
def ed (s:SF)(args:List V)(h:Hp):Option (V×Hp):=match args with
 | [.row b 0 n _ z,.fn g [.ptr c 0]]=>match h.get b,h.get c with
  | some cs,some [.fn id []] =>
   if z=s.z/\g=s.g/\id=s.id/\b≠c/\0<n/\n<=2 ^ 40/\n * z<=cs.length/\(∀ r∈chunk z n cs,(DV s.p r).isSome=true)/\((chunk z n cs).map (mV s.p)).Nodup then
    some (.tup [],h.set b ((gG s.p (chunk z n cs)).flatten++cs.drop (n * z)))
   else none
  | _,_=>none
 | _=>none
theorem mf {s:SF}{args:List V}{h:Hp}{r:V}{h':Hp}(hm:ed s args h=some (r,h')):LowOk h h':=by
 unfold ed at hm;split at hm
 . split at hm
   . split at hm
     . cases hm; exact LowOk.set _ _ _
     . cases hm
   . cases hm
 . cases hm
end
section
section
variable {E:Calls'}{T:FuncId->Option QF}{val:FuncId->Bool}
theorem Aw {e:List D}{z:Nat}(he:e.length=z):sub (e.map V.d) 0 z=some (e.map V.d):=eB (by simpa using he)
end
end
section
section
variable {E:Calls'}{T:FuncId->Option QF}{val:FuncId->Bool}
theorem Mh {id:FuncId}{z:Nat}(ht:T id=some (notQ z))(hv:val id=false){c:List D}(hc:c.length=z){f:FuncId}{caps:List V}{x:Nat}{p:Bool}{h:Hp}(hp:ai h.bs x=some [.fn f caps])
 (hf:∀ ys lo,Sm E T val f (ag c::caps) ⟨h.bs++ys,lo⟩=some (bl p,⟨h.bs++ys,lo⟩)):Sm E T val id [ag c,.ptr x 0] h=some (bl (!p),h):=by
 rw [aT ht hv];have hs:=Aw hc;simp [notQ,aa,aj hp,hf,hs,V.under]
end
end
section
section
variable {E:Calls'}{T:FuncId->Option QF}{val:FuncId->Bool}
theorem ut {z:Nat}:∀ {l:List (List D)} {rest:List V},(∀ e∈l,e.length=z)->chunk z l.length (flat l++rest)=l.map λe=>e.map V.d
 | [],rest,_=>rfl
 | e::l,rest,h=>by
  have he:=h e (by simp);have ih:=ut (l:=l) (rest:=rest) λx hx=>h x (List.mem_cons_of_mem _ hx);have hl:(e.map V.d).length=z:=by simp [he]
  simp only [chunk,cg,List.range_succ_eq_map,cn,List.map_map,flat_cons,List.append_assoc] at ih ⊢
  congr 1
  . rw [Nat.zero_mul,List.drop_zero,← hl,List.take_left]
  . rw [← ih];refine List.map_congr_left λi _=>?_;simp only [Function.comp,Nat.succ_eq_add_one,Nat.add_mul,Nat.one_mul];rw [List.drop_append,aq (by omega),hl,List.nil_append,Nat.add_sub_cancel]
theorem EF {α:Type}{cells:α->List D}{key:α->Int}{z p:Nat}{g idf:FuncId}(hz:∀ x,(cells x).length=z)(hkey:∀ x,(cells x)[p]?=some (.int .u64 (key x))){L:List α}(hnd:(L.map key).Nodup)(hne:L≠[])(hlen:L.length<=2 ^ 40){h:Hp}{b c:Nat}{cap:Option Nat}{rest:List V}
 (hb:ai h.bs b=some (flat (L.map cells)++rest)) (hc:ai h.bs c=some [.fn idf []]) (hbc:b≠c) :
 ed ⟨z,p,g,idf⟩ [.row b 0 L.length cap z,.fn g [.ptr c 0]] h=some (.tup [],h.set b (flat ((L.mergeSort λx y=>decide (key x<=key y)).map cells)++rest)):=by
 have hw:∀ e∈L.map cells,e.length=z:=by simp; intro a _; exact hz a
 have hch:=ut (rest:=rest) hw;rw [bx] at hch;have hkv:∀ x,DV p ((cells x).map V.d)=some (key x):=λx=>by simp [DV,hkey]
 have hki:∀ x,mV p ((cells x).map V.d)=key x:=λx=>by simp [mV,hkv]
 have hfl:=bQ hz L;have h1:((L.map cells).map λe=>e.map V.d).map (mV p)=L.map key:=by
  rw [List.map_map,List.map_map];exact List.map_congr_left λx _=>hki x
 have h2:gG p ((L.map cells).map λe=>e.map V.d)=((L.mergeSort λx y=>decide (key x<=key y)).map cells).map λe=>e.map V.d:=by
  rw [gG,List.map_map,List.map_map]
  symm
  refine List.map_mergeSort λx _ y _=>?_;simp only [Function.comp,hki]
 have h3:∀ l:List (List D),(l.map λe=>e.map V.d).flatten=flat l:=λl=>by simp only [flat,List.map_flatten]
 simp only [ed,get_eq,hb,hc];rw [if_pos]
 . rw [hch,h2,h3,← hfl,List.drop_left]
 . refine ⟨trivial,trivial,trivial,hbc,List.length_pos_iff.2 hne,hlen,by rw [am,hfl]; omega,?_,?_⟩
   . rw [hch];intro r hr;obtain ⟨e,he,rfl⟩:=b9.1 hr;obtain ⟨x,_,rfl⟩:=b9.1 he;rw [hkv]; rfl
   . rw [hch,h1]; exact hnd
def Jw {α:Type}(key:α->Int)(x:α)(l:List α):List α:=((l.filter λe=>!(key e==key x))++[x]).mergeSort λa b=>decide (key a<=key b)
end
end
section
variable {E:Calls'}
theorem Qf {p:Pol}(hp:p.ok):∀ (m i:Nat) (n:Int) (J:List Blk),i+m=p.rules.l.length →
 ∃ n' J',Cd E TT ak (.loop [1,3,4] pE) [(1,.ptr 0 0),(3,.d (i64 n)),(4,.d (i64 i))] ⟨.cells (p.c.map .d)::J,0⟩=some (.exit 0,[(3,.d (i64 n'))],⟨.cells (p.c.map .d)::J',0⟩):=by
 have hlt:=hp.1.lt;intro m;have key:=aF (E:=E) (T:=TT) (val:=ak) [1,3,4] pE;generalize Cd E TT ak (.loop [1,3,4] pE)=W at key ⊢
 induction m with
 | zero =>
  intro i n J hi;refine ⟨n,J,?_⟩;rw [key];simp [pE,show ¬ ((i:Int)<p.rules.l.length) from by omega]
 | succ m ih =>
  intro i n J hi;have h1:i<p.rules.l.length:=by omega
  have hx:=λh=>av (z:=3) h (ab h1) (cells:=Rule.c) rfl;have hw:=ay h1 hlt;have hfx:=hp.2 _ (bh h1);by_cases hn:n<=2000
  . generalize p.rules.l[i]=x at *;obtain ⟨n1,q1⟩:=Qc (E:=E) hfx (h:=⟨.cells (p.c.map .d)::(J++[.cells (x.c.map .d)]),0⟩) (q:=J.length+1) (t1:=.ptr 0 0) (t4:=.d (i64 i)) (by simp) x.frm.l.length 0 (wrap .i64 (n+wrap .i64 (wrap .i64 (wrap .i64 (1+(x.frm.l.length:Int))+(x.to.l.length:Int))+(x.whn.l.length:Int)))) (by omega);obtain ⟨n2,q2⟩:=Qd (E:=E) hfx (h:=⟨.cells (p.c.map .d)::(J++[.cells (x.c.map .d)]),0⟩) (q:=J.length+1) (t1:=.ptr 0 0) (t4:=.d (i64 i)) (by simp) x.to.l.length 0 n1 (by omega);obtain ⟨n3,q3⟩:=Qe (E:=E) hfx (h:=⟨.cells (p.c.map .d)::(J++[.cells (x.c.map .d)]),0⟩) (q:=J.length+1) (t1:=.ptr 0 0) (t4:=.d (i64 i)) (by simp) x.whn.l.length 0 n2 (by omega);simp at q1 q2 q3;rw [key];simp [pE,hx,hn,show ((i:Int)<p.rules.l.length) from by omega];rw [au];simp [q1];rw [au];simp [q2];rw [au];simp [q3,hw];rw [show ((i:Int)+1)=((i+1:Nat):Int) from by omega];exact ih (i+1) _ _ (by omega)
  . refine ⟨n,J,?_⟩;rw [key];simp [pE,hn,show ((i:Int)<p.rules.l.length) from by omega]
theorem S87 (p:Pol)(hp:p.ok):∃ n':Int,∀ h,Sm E TT ak 78 [ag p.c] h=some (.d (i64 n'),h):=by
 obtain ⟨k,hk⟩:=kY (n:=p.ns.size);obtain ⟨n',J',q1⟩:=Qf (E:=E) hp p.rules.l.length 0 (wrap .i64 (1+k)) [] (by omega);refine ⟨n',λh=>?_⟩;rw [aQ t87 v87];simp at q1;simp [aa,q87,hk];rw [au];simp [q1]
theorem PO (c:Cfg)(hc:c.ok):∀ (m i:Nat) (n:Int),i+m=c.pods.l.length →
 ∃ n',Cd E TT ak (.loop [1,3,4] oL) [(1,.ptr 0 0),(3,.d (i64 n)),(4,.d (i64 i))] ⟨[.cells (c.c.map .d)],0⟩=some (.exit 0,[(1,.ptr 0 0),(3,.d (i64 n'))],⟨[.cells (c.c.map .d)],0⟩):=by
 have hlt:=hc.1.lt;intro m;have key:=aF (E:=E) (T:=TT) (val:=ak) [1,3,4] oL;generalize Cd E TT ak (.loop [1,3,4] oL)=W at key ⊢
 induction m with
 | zero =>
  intro i n hi;refine ⟨n,?_⟩;rw [key];simp [oL,show ¬ ((i:Int)<c.pods.l.length) from by omega]
 | succ m ih =>
  intro i n hi;have h1:i<c.pods.l.length:=by omega
  have hx:=λh=>av (z:=7) h (ab h1) (cells:=Pod.c) rfl;have hw:=ay h1 hlt;by_cases hn:n<=2000
  . generalize c.pods.l[i]=x at *;obtain ⟨k,hk⟩:=kY (n:=wrap .i64 ((x.ns.size:Int)+(x.sa.size:Int)));rw [key];simp [oL,hx,hk,hw,hn,show ((i:Int)<c.pods.l.length) from by omega];rw [show ((i:Int)+1)=((i+1:Nat):Int) from by omega];exact ih (i+1) _ (by omega)
  . refine ⟨n,?_⟩;rw [key];simp [oL,hn,show ((i:Int)<c.pods.l.length) from by omega]
theorem PP (c:Cfg)(hc:c.ok):∀ (m i:Nat) (n:Int),i+m=c.services.l.length →
 ∃ n',Cd E TT ak (.loop [1,3,5] oM) [(1,.ptr 0 0),(3,.d (i64 n)),(5,.d (i64 i))] ⟨[.cells (c.c.map .d)],0⟩=some (.exit 2,[(1,.ptr 0 0),(3,.d (i64 n'))],⟨[.cells (c.c.map .d)],0⟩):=by
 have hlt:=hc.2.1.lt;intro m;have key:=aF (E:=E) (T:=TT) (val:=ak) [1,3,5] oM;generalize Cd E TT ak (.loop [1,3,5] oM)=W at key ⊢
 induction m with
 | zero =>
  intro i n hi;refine ⟨n,?_⟩;rw [key];simp [oM,show ¬ ((i:Int)<c.services.l.length) from by omega]
 | succ m ih =>
  intro i n hi;have h1:i<c.services.l.length:=by omega
  have hx:=λh=>av (z:=5) h (ab h1) (cells:=Svc.c) rfl;have hw:=ay h1 hlt;by_cases hn:n<=2000
  . generalize c.services.l[i]=x at *;obtain ⟨k,hk⟩:=kY (n:=x.ns.size);rw [key];simp [oM,hx,hk,hw,hn,show ((i:Int)<c.services.l.length) from by omega];rw [show ((i:Int)+1)=((i+1:Nat):Int) from by omega];exact ih (i+1) _ (by omega)
  . refine ⟨n,?_⟩;rw [key];simp [oM,hn,show ((i:Int)<c.services.l.length) from by omega]
theorem PQ (c:Cfg)(hc:c.ok):∀ (m i:Nat) (n:Int),i+m=c.policies.l.length →
 ∃ n',Cd E TT ak (.loop [1,3,6] oN) [(1,.ptr 0 0),(3,.d (i64 n)),(6,.d (i64 i))] ⟨[.cells (c.c.map .d)],0⟩=some (.exit 4,[(3,.d (i64 n'))],⟨[.cells (c.c.map .d)],0⟩):=by
 have hlt:=hc.2.2.2.1.lt;intro m;have key:=aF (E:=E) (T:=TT) (val:=ak) [1,3,6] oN;generalize Cd E TT ak (.loop [1,3,6] oN)=W at key ⊢
 induction m with
 | zero =>
  intro i n hi;refine ⟨n,?_⟩;rw [key];simp [oN,show ¬ ((i:Int)<c.policies.l.length) from by omega]
 | succ m ih =>
  intro i n hi;have h1:i<c.policies.l.length:=by omega
  have hx:=λh=>av (z:=5) h (ab h1) (cells:=Pol.c) rfl;have hw:=ay h1 hlt;have hfx:=hc.2.2.2.2 _ (bh h1);by_cases hn:n<=2000
  . generalize c.policies.l[i]=x at *;obtain ⟨k,hk⟩:=S87 (E:=E) x hfx;rw [key];simp [oN,hx,hk,hw,hn,show ((i:Int)<c.policies.l.length) from by omega];rw [show ((i:Int)+1)=((i+1:Nat):Int) from by omega];exact ih (i+1) _ (by omega)
  . refine ⟨n,?_⟩;rw [key];simp [oN,hn,show ((i:Int)<c.policies.l.length) from by omega]
theorem S31 (c:Cfg)(hc:c.ok):∃ b:Bool,∀ h,Sm E TT ak 36 [c.v] h=some (bl b,h):=by
 obtain ⟨n1,q1⟩:=PO (E:=E) c hc c.pods.l.length 0 (wrap .i64 (wrap .i64 ((c.pods.l.length:Int)+(c.services.l.length:Int))+(c.bound.l.length:Int))) (by omega);obtain ⟨n2,q2⟩:=PP (E:=E) c hc c.services.l.length 0 n1 (by omega);obtain ⟨n3,q3⟩:=PQ (E:=E) c hc c.policies.l.length 0 n2 (by omega);refine ⟨decide (2000<n3),λh=>?_⟩;rw [aQ t31 v31];simp at q1 q2 q3;simp [aa,q31];rw [au];simp [q1];rw [au];simp [q2];rw [au];simp [q3]
end
section
variable {E:Calls'}
def bz (n:Int):List D:=[u32 n]
structure Vw where
 epoch:Int
 covers:Sl Int
 pods:Sl Pod
 services:Sl Svc
 bound:Sl Way
 policies:Sl Pol
def Vw.c (x:Vw):List D:=[u64 x.epoch,x.covers.d bz,x.pods.d Pod.c,x.services.d Svc.c,x.bound.d Way.c,x.policies.d Pol.c]
abbrev Vw.v (x:Vw):V:=ag x.c
def Vw.cfg (x:Vw):Cfg:=⟨0,0,0,0,x.pods,x.services,x.bound,x.policies⟩
abbrev Vw.ok (x:Vw):Prop:=short x.covers/\x.cfg.ok
@[simp] theorem Vw.len {x:Vw}:x.c.length=6:=(rfl)
@[simp] theorem Vw.all {x:Vw}:sub x.c 0 6=some x.c:=(rfl)
@[simp] theorem Vw.s0_1 {x:Vw}:sub x.c 0 1=some [u64 x.epoch]:=(rfl)
@[simp] theorem Vw.s1_1 {x:Vw}:sub x.c 1 1=some [x.covers.d bz]:=(rfl)
@[simp] theorem Vw.s2_1 {x:Vw}:sub x.c 2 1=some [x.pods.d Pod.c]:=(rfl)
@[simp] theorem Vw.s3_1 {x:Vw}:sub x.c 3 1=some [x.services.d Svc.c]:=(rfl)
@[simp] theorem Vw.s4_1 {x:Vw}:sub x.c 4 1=some [x.bound.d Way.c]:=(rfl)
@[simp] theorem Vw.s5_1 {x:Vw}:sub x.c 5 1=some [x.policies.d Pol.c]:=(rfl)
structure Fnd where
 kind:Int
 pod:Pod
 service:Svc
 way:Way
def Fnd.c (x:Fnd):List D:=i64 x.kind::(x.pod.c++(x.service.c++x.way.c))
abbrev Fnd.v (x:Fnd):V:=ag x.c
def fnd0:Fnd:=⟨0,pod0,EO,way0⟩
@[simp] theorem Fnd.len {x:Fnd}:x.c.length=15:=(rfl)
@[simp] theorem Fnd.all {x:Fnd}:sub x.c 0 15=some x.c:=(rfl)
@[simp] theorem Fnd.s1_7 {x:Fnd}:sub x.c 1 7=some x.pod.c:=(rfl)
@[simp] theorem Fnd.s7_1 {x:Fnd}:sub x.c 7 1=some [u64 x.pod.service]:=(rfl)
@[simp] theorem Fnd.s8_5 {x:Fnd}:sub x.c 8 5=some x.service.c:=(rfl)
@[simp] theorem ba6:[(V.d (.int .i64 0)),(.d (.int .u64 0)),(.d (.str ⟨#[]⟩)),(.d (.str ⟨#[]⟩)),(.d (.int .i64 0)),(.d (.int .u32 0)),(.d (.int .i64 0)),(.d (.int .u64 0)),(.d (.int .u64 0)),(.d (.str ⟨#[]⟩)),(.d (.int .u32 0)),(.d (.int .i64 0)),(.d (.int .u64 0)),(.d (.int .u64 0)),(.d (.int .i64 0))]=fnd0.c.map .d:=(rfl)
@[simp] theorem Zl {x:Fnd}{k:Int}:put (x.c.map V.d) 0 [.d (i64 k)]=some ((Fnd.c { x with kind:=k }).map .d):=(rfl)
@[simp] theorem ba5 {x:Fnd}{k:Int}:V.d (.int .i64 k)::(x.c.map V.d).tail=(Fnd.c { x with kind:=k }).map .d:=(rfl)
@[simp] theorem ba4 {x:Fnd}:(x.c.map V.d).drop 15=[]:=(rfl)
@[simp] theorem Zm {x:Fnd}{p:Pod}:put (x.c.map V.d) 1 (p.c.map .d)=some ((Fnd.c { x with pod:=p }).map .d):=(rfl)
@[simp] theorem Zn {x:Fnd}{p:Svc}:put (x.c.map V.d) 8 (p.c.map .d)=some ((Fnd.c { x with service:=p }).map .d):=(rfl)
@[simp] theorem Ww {x:Fnd}{p:Way}:put (x.c.map V.d) 13 (p.c.map .d)=some ((Fnd.c { x with way:=p }).map .d):=(rfl)
@[simp] theorem Wx {x y:Fnd}:put (x.c.map V.d) 0 (y.c.map .d)=some (y.c.map .d):=(rfl)
def Fnd.eqB (x y:Fnd):Bool:=x.kind==y.kind&&(x.pod.uid==y.pod.uid&&(eqS x.pod.ns y.pod.ns&&(eqS x.pod.sa y.pod.sa&&(x.pod.host==y.pod.host&&(x.pod.addr==y.pod.addr&&(x.pod.port==y.pod.port&&(x.pod.service==y.pod.service&&(x.service.id==y.service.id&&(eqS x.service.ns y.service.ns&&(x.service.addr==y.service.addr&&(x.service.port==y.service.port&&(x.service.way==y.service.way&&(x.way.id==y.way.id&&(x.way.node==y.way.node&&true))))))))))))))
@[simp] theorem Wp {h:Hp}{n:Bool}{x y:Fnd}:eqv (.agg [(.i .i64),(.i .u64),.s,.s,(.i .i64),(.i .u32),(.i .i64),(.i .u64),(.i .u64),.s,(.i .u32),(.i .i64),(.i .u64),(.i .u64),(.i .i64)]) n (ag x.c) (ag y.c) h=some (.d (.bool (x.eqB y != n)),h):=by
 simp [eqv,fV,ag,Fnd.c,Pod.c,Svc.c,Way.c,bB,ma,Fnd.eqB,eqS]
@[simp] theorem Fnd.eqB_refl (x:Fnd):x.eqB x=true:=by simp [Fnd.eqB]
theorem Yd (p:Pod)(b:Int)(x:Nat)(h:Hp)(hp:ai h.bs x=some [.d (u32 b)]):Sm E TT ak 64 [p.v,.ptr x 0] h=some (bl (p.addr==b),h):=by
 rw [aT t157 v157];simp [aa,NB,aj hp,V.under]
theorem Yg (p:Svc)(b:Int)(x:Nat)(h:Hp)(hp:ai h.bs x=some [.d (u32 b)]):Sm E TT ak 68 [p.v,.ptr x 0] h=some (bl (p.addr==b),h):=by
 rw [aT t160 v160];simp [aa,ND,aj hp,V.under]
theorem Ye (p:Svc)(b:Fnd)(x:Nat)(h:Hp)(hp:ai h.bs x=some (b.c.map .d)):Sm E TT ak 66 [p.v,.ptr x 0] h=some (bl (p.id==b.pod.service),h):=by
 rw [aT ag7 aq6];simp [aa,NC,aj hp,V.under]
theorem Yk (p:Way)(s:Svc)(x:Nat)(h:Hp)(hp:ai h.bs x=some (s.c.map .d)):Sm E TT ak 123 [p.v,.ptr x 0] h=some (bl (p.id==s.way),h):=by
 rw [aT ah4 ar3];simp [aa,NV,aj hp,V.under,Way.c]
theorem Fa {s:Sl Pod}(hs:short s){x:Nat}{n:Int}{h:Hp}(hp:ai h.bs x=some [.d (u32 n)]):Sm E TT ak 63 [.d (s.d Pod.c),.fn 64 [.ptr x 0]] h=some (.d (i64 (gY s.l λp=>p.addr==n)),h) :=
 rY Pod.c (z:=7) Vo VH (RowIs.of (cells:=Pod.c) (λ_=>rfl) _) hs.lt λp _ lo=>Yd p n x _ hp
theorem Fe {s:Sl Svc}(hs:short s){x:Nat}{n:Int}{h:Hp}(hp:ai h.bs x=some [.d (u32 n)]):Sm E TT ak 65 [.d (s.d Svc.c),.fn 68 [.ptr x 0]] h=some (.d (i64 (gY s.l λp=>p.addr==n)),h) :=
 rY Svc.c (z:=5) Vp VI (RowIs.of (cells:=Svc.c) (λ_=>rfl) _) hs.lt λp _ lo=>Yg p n x _ hp
theorem Fb {s:Sl Svc}(hs:short s){x:Nat}{b:Fnd}{h:Hp}(hp:ai h.bs x=some (b.c.map .d)):Sm E TT ak 65 [.d (s.d Svc.c),.fn 66 [.ptr x 0]] h=some (.d (i64 (gY s.l λp=>p.id==b.pod.service)),h) :=
 rY Svc.c (z:=5) Vp VI (RowIs.of (cells:=Svc.c) (λ_=>rfl) _) hs.lt λp _ lo=>Ye p b x _ hp
theorem Ff {s:Sl Way}(hs:short s){x:Nat}{n:Svc}{h:Hp}(hp:ai h.bs x=some (n.c.map .d)):Sm E TT ak 122 [.d (s.d Way.c),.fn 123 [.ptr x 0]] h=some (.d (i64 (gY s.l λp=>p.id==n.way)),h) :=
 rY Way.c (z:=2) t109 v109 (RowIs.of (cells:=Way.c) (λ_=>rfl) _) hs.lt λp _ lo=>Yk p n x _ hp
def gM (v:Vw)(s:Svc):Way:=if s.way==0 then way0 else (v.bound.l.find? λw=>w.id==s.way).getD way0
theorem Yf (v:Vw)(hv:v.ok)(s:Svc)(h:Hp):Sm E TT ak 67 [v.v,s.v] h=some ((gM v s).v,h):=by
 rw [aQ t159 v159];have h109:=λh hp=>Ff (E:=E) (s:=v.bound) hv.2.2.2.1 (x:=1) (n:=s) (h:=h) hp;by_cases hw:s.way=0
 . generalize gY v.bound.l _=ix at h109;simp [aa,G6,h109,gM,hw,way0];rfl
 . obtain ⟨g1,g2⟩ | ⟨k,p,g1,g2,g3⟩:=fe v.bound.l (λw=>w.id==s.way)
   . simp [aa,G6,h109,gM,hw,g1,g2,way0];rfl
   . simp [aa,G6,h109,gM,hw,g1,g2,av (z:=2) _ g3 (cells:=Way.c) rfl]
end
section
variable {E:Calls'}
@[simp] theorem MO {α:Type}(l:List α):l.find? (λ_=>false)=none:=by simp [List.find?_eq_none]
theorem XI (v:Vw)(hv:v.ok)(s:Svc):∀ (m i:Nat),i+m=v.bound.l.length →
 Cd E TT ak (.loop [2,3,4,5] kI) [(2,.ptr 0 0),(3,.ptr 1 0),(4,.ptr 2 0),(5,.d (i64 i))] ⟨[.cells (v.c.map .d),.cells (s.c.map .d),.cells (way0.c.map .d)],0⟩ =
  match (v.bound.l.drop i).find? (λw=>!(s.way==0)&&w.id==s.way) with
  | some w=>some (.ret,[(4,.ptr 2 0)],⟨[.cells (v.c.map .d),.cells (s.c.map .d),.cells (w.c.map .d)],0⟩)
  | none=>some (.exit 0,[(4,.ptr 2 0)],⟨[.cells (v.c.map .d),.cells (s.c.map .d),.cells (way0.c.map .d)],0⟩):=by
 have hlt:v.bound.l.length<2 ^ 62:=fit.lt hv.2.2.2.1;intro m;have key:=aF (E:=E) (T:=TT) (val:=ak) [2,3,4,5] kI;generalize Cd E TT ak (.loop [2,3,4,5] kI)=W at key ⊢
 induction m with
 | zero =>
  intro i hi;rw [key,aq (by omega)];simp [kI,show ¬ ((i:Int)<v.bound.l.length) from by omega]
 | succ m ih =>
  intro i hi;have h1:i<v.bound.l.length:=by omega
  have hx:=λh=>av (z:=2) h (ab h1) (cells:=Way.c) rfl;have hw:=ay h1 hlt;have:=ih (i+1) (by omega);rw [key,ap h1];generalize v.bound.l[i]=x at *;by_cases hz:s.way=0
  . simp [hz] at this;simp [kI,hx,hz,hw,aA,show ((i:Int)<v.bound.l.length) from by omega];simpa using this
  . by_cases hq:x.id=s.way
    . simp [kI,hx,hq,hz,aA,List.find?_cons,show ((i:Int)<v.bound.l.length) from by omega];first | done | rfl
    . simp [hz] at this;simp [kI,hx,hq,hz,hw,aA,List.find?_cons,show ((i:Int)<v.bound.l.length) from by omega];simpa using this
theorem Qk (v:Vw)(hv:v.ok)(s:Svc)(h:Hp):Sm E TT ak 69 [v.v,s.v] h=some ((gM v s).v,h):=by
 rw [aQ ag8 aq7];have k1:=XI (E:=E) v hv s v.bound.l.length 0 (by omega);simp at k1;simp [aa,NE];rw [au];simp only [show ([V.d (D.int IntKind.u64 0),V.d (D.int IntKind.i64 0)]:List V)=way0.c.map .d from rfl];simp [k1];by_cases hz:s.way=0
 . simp [hz,gM];first | done | rfl
 . simp [hz,gM];cases h1:v.bound.l.find? (λw=>w.id==s.way) with
   | some p=>simp
   | none=>simp; try rfl
theorem XM {s:Sl Int}(hs:short s)(n:Int)(h:Hp):∀ (m i:Nat),i+m=s.l.length →
 Cd E TT ak (.loop [0,1,7,8] lU) [(0,.d (s.d bz)),(1,.d (u32 n)),(7,.d (i64 s.l.length)),(8,.d (i64 i))] h =
  match (s.l.drop i).findIdx? (λx=>x==n) with
  | some k=>some (.ret,[(4,.d (i64 (i+k:Nat)))],h)
  | none=>some (.exit 0,[],h):=by
 have hlt:=hs.lt;intro m;have key:=aF (E:=E) (T:=TT) (val:=ak) [0,1,7,8] lU;generalize Cd E TT ak (.loop [0,1,7,8] lU)=W at key ⊢
 induction m with
 | zero =>
  intro i hi;have h0:s.l.drop i=[]:=aq (by omega);rw [key];simp [lU,h0,show ¬ ((i:Int)<s.l.length) from by omega]
 | succ m ih =>
  intro i hi;have h1:i<s.l.length:=by omega
  have hx:=λh=>av (z:=1) h (ab h1) (cells:=bz) rfl;have hw:=ay h1 hlt;have:=ih (i+1) (by omega);rw [key,ap h1];generalize s.l[i]=x at *;by_cases hq:x=n
  . simp [lU,hx,hq,bz,List.findIdx?_cons,show ((i:Int)<s.l.length) from by omega]
  . have hq':(x==n)=false:=by simpa using hq
    have hq2:¬ n=x:=λh=>hq h.symm;simp [lU,hx,hq',hq,hq2,bz,hw,List.findIdx?_cons,show ((i:Int)<s.l.length) from by omega];rw [show ((i:Int)+1)=((i+1:Nat):Int) from by omega,this];cases hfi:(s.l.drop (i+1)).findIdx? (λp=>p==n) with
    | none=>rfl
    | some k=>simp; omega
theorem Qq {s:Sl Int}(hs:short s)(n:Int)(h:Hp):Sm E TT ak 81 [.d (s.d bz),.d (u32 n)] h=some (.d (i64 (gY s.l λx=>x==n)),h):=by
 rw [aQ t232 v232];have k1:=λh=>XM (E:=E) hs n h s.l.length 0 (by omega);simp at k1;simp [aa,JH];rw [au];simp [k1,gY];cases s.l.findIdx? (λx=>x==n) with
 | none=>simp
 | some k=>simp
def bE (l:List Int)(n:Int):Bool:=(l.find? λx=>x==n).isSome
theorem L9 {s:Sl Int}(hs:short s)(n:Int)(h:Hp):Sm E TT ak 39 [.d (s.d bz),.d (u32 n)] h=some (bl (bE s.l n),h):=by
 rw [aQ t117 v117];obtain ⟨g1,g2⟩ | ⟨k,p,g1,g2,g3⟩:=fe s.l (λx=>x==n)
 . simp [aa,G5,Qq hs,g2,bE,g1]
 . simp [aa,G5,Qq hs,g2,bE,g1]
theorem XH {s:Sl Int}(hs:short s)(n:Int)(h:Hp):∀ (m i:Nat),i+m=s.l.length →
 Cd E TT ak (.loop [0,1,5] lM) [(0,.d (s.d bz)),(1,.d (u32 n)),(5,.d (i64 i))] h =
  match (s.l.drop i).find? (λx=>x==n) with
  | some k=>some (.ret,[(4,bl true)],h)
  | none=>some (.exit 0,[],h):=by
 have hlt:=hs.lt;intro m;have key:=aF (E:=E) (T:=TT) (val:=ak) [0,1,5] lM;generalize Cd E TT ak (.loop [0,1,5] lM)=W at key ⊢
 induction m with
 | zero =>
  intro i hi;have h0:s.l.drop i=[]:=aq (by omega);rw [key];simp [lM,h0,show ¬ ((i:Int)<s.l.length) from by omega]
 | succ m ih =>
  intro i hi;have h1:i<s.l.length:=by omega
  have hx:=λh=>av (z:=1) h (ab h1) (cells:=bz) rfl;have hw:=ay h1 hlt;have:=ih (i+1) (by omega);rw [key,ap h1];generalize s.l[i]=x at *;by_cases hq:x=n
  . simp [lM,hx,hq,bz,List.find?_cons,show ((i:Int)<s.l.length) from by omega]
  . simp [lM,hx,hq,bz,hw,List.find?_cons,show ((i:Int)<s.l.length) from by omega];simpa using this
theorem Yc {s:Sl Int}(hs:short s)(n:Int)(h:Hp):Sm E TT ak 70 [.d (s.d bz),.d (u32 n)] h=some (bl (bE s.l n),h):=by
 rw [aQ ag6 aq5];have k1:=λh=>XH (E:=E) hs n h s.l.length 0 (by omega);simp at k1;simp [aa,Nv];rw [au];simp [k1,bE];cases s.l.find? (λx=>x==n) with
 | none=>simp
 | some k=>simp
def og (v:Vw)(p:Pod):Fnd:=match v.services.l.find? (λs=>!(p.service==0)&&s.id==p.service) with
 | some s=>⟨2,p,s,gM v s⟩
 | none=>⟨2,p,EO,way0⟩
def mD (v:Vw)(n:Int):Fnd:=match v.pods.l.find? (λp=>p.addr==n) with
 | some p=>og v p
 | none=>if bE v.covers.l n then match v.services.l.find? (λs=>s.addr==n) with
  | some s=>⟨3,pod0,s,gM v s⟩
  | none=>⟨1,pod0,EO,way0⟩
  else fnd0
theorem S73 (v:Vw)(hv:v.ok)(n:Int)(h:Hp):Sm E TT ak 29 [v.v,.d (u32 n)] h=some ((mD v n).v,h):=by
 rw [aQ t73 v73];have h1:=λh hp=>Fa (E:=E) (s:=v.pods) hv.2.1 (x:=1) (n:=n) (h:=h) hp;have h2:=λb h hp=>Fb (E:=E) (s:=v.services) hv.2.2.1 (x:=3) (b:=b) (h:=h) hp;have h3:=λh hp=>Fe (E:=E) (s:=v.services) hv.2.2.1 (x:=1) (n:=n) (h:=h) hp;have h4:=λh=>L9 (E:=E) (s:=v.covers) hv.1 n h;have h5:=λs h=>Yf (E:=E) v hv s h;obtain ⟨g1,g2⟩ | ⟨k,p,g1,g2,g3⟩:=fe v.pods.l (λp=>p.addr==n)
 . by_cases hc:bE v.covers.l n=true
   . obtain ⟨e1,e2⟩ | ⟨k,s,e1,e2,e3⟩:=fe v.services.l (λp=>p.addr==n)
     . simp [aa,q73,h1,h3,h4,g1,g2,hc,e1,e2,mD,aB,fnd0];first | done | rfl
     . have hi:=λh=>av (z:=5) h e3 (cells:=Svc.c) rfl;simp +decide [aa,q73,h1,h3,h4,h5,g1,g2,hc,e1,e2,mD,hi,az,ae,aB];first | done | rfl
   . have hc':bE v.covers.l n=false:=by simpa using hc
     simp [aa,q73,h1,h4,g1,g2,hc',mD,aB];first | done | rfl
 . have hi:=λh=>av (z:=7) h g3 (cells:=Pod.c) rfl;have h2:=λh hp=>h2 ⟨2,p,EO,way0⟩ h hp;by_cases hz:p.service=0
   . generalize gY v.services.l _=ix at h2;simp [aa,q73,h1,h2,g1,g2,hi,hz,mD,og,fnd0,aB];first | done | rfl
   . obtain ⟨e1,e2⟩ | ⟨k,s,e1,e2,e3⟩:=fe v.services.l (λs=>s.id==p.service)
     . simp [aa,q73,h1,h2,g1,g2,hi,hz,e1,e2,mD,og,fnd0,aB];first | done | rfl
     . have hj:=λh=>av (z:=5) h e3 (cells:=Svc.c) rfl;simp [aa,q73,h1,h2,h5,g1,g2,hi,hj,hz,e1,e2,mD,og,fnd0,aB];first | done | rfl
end
