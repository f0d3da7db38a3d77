/- config.with at its four types, read in an instance of its own: what it calls goes in one's own memory, the sort is from outside. -/
import Derived.Test.YtoecipeaknldaaaGreatVc
import Derived.KernelRfl
import Derived.Sort.Defs
import Derived.Sort.LotC
import Derived.Sort.LotA
import Derived.Sort.LotD2
import Derived.Sort.LotD3
import Derived.Sort.LotB
import Derived.Sort.LotD1
set_option maxRecDepth 100000
set_option linter.unusedVariables false
set_option linter.unusedSimpArgs false
namespace Go.Proofs.YtoecipeaknldaaaGreat
open IntKind (wrap)
section
def OQ:List V:=[(.d (.int .u64 0)),(.d (.str ⟨#[]⟩)),(.d (.int .u32 0)),(.d (.int .i64 0)),(.d (.int .u64 0))]
def O0:List V:=[(.d (.int .u64 0)),(.d (.int .i64 0))]
def Em:List V:=[(.d (.int .u64 0)),(.d (.str ⟨#[]⟩)),(.d (.int .u64 0)),(.d (.int .i64 0)),(.d (.slice true []))]
def Vi:SF:=⟨7,0,990362,990191⟩
def Vk:SF:=⟨5,0,990291,990193⟩
def Vl:SF:=⟨2,0,990294,990200⟩
def Vj:SF:=⟨5,0,990296,990205⟩
def EW:Calls':=λf args h=>match Nat.beq f 97,Nat.beq f 104,Nat.beq f 110,Nat.beq f 117 with
 | true,_,_,_=>ed Vi args h
 | _,true,_,_=>ed Vk args h
 | _,_,true,_=>ed Vl args h
 | _,_,_,true=>ed Vj args h
 | _,_,_,_=>none
def an1:List (Nat×QF):=[]
def TW:FuncId->Option QF:=iN an1
def ax3 (f:FuncId):Bool:=[].any λn=>Nat.beq n f
end
section
structure Edt where
 kind:Int
 id:Int
 pod:Pod
 svc:Svc
 way:Way
 pol:Pol
def Edt.c (e:Edt):List D:=[i64 e.kind,u64 e.id]++e.pod.c++e.svc.c++e.way.c++e.pol.c
@[simp] theorem Edt.len {x:Edt}:x.c.length=21:=(rfl)
@[simp] theorem Edt.all {x:Edt}:sub x.c 0 21=some x.c:=(rfl)
@[simp] theorem Edt.s0_1 {x:Edt}:sub x.c 0 1=some [i64 x.kind]:=(rfl)
@[simp] theorem Edt.s1_1 {x:Edt}:sub x.c 1 1=some [u64 x.id]:=(rfl)
@[simp] theorem Edt.s2_7 {x:Edt}:sub x.c 2 7=some x.pod.c:=(rfl)
@[simp] theorem Edt.s9_5 {x:Edt}:sub x.c 9 5=some x.svc.c:=(rfl)
@[simp] theorem Edt.s14_2 {x:Edt}:sub x.c 14 2=some x.way.c:=(rfl)
@[simp] theorem Edt.s16_5 {x:Edt}:sub x.c 16 5=some x.pol.c:=(rfl)
@[simp] theorem Edt.s5_1 {x:Edt}:sub x.c 5 1=some [i64 x.pod.host]:=(rfl)
@[simp] theorem Edt.s6_1 {x:Edt}:sub x.c 6 1=some [u32 x.pod.addr]:=(rfl)
theorem Cfg.p0 {x:Cfg}{n:Int}:put (x.c.map V.d) 0 [.d (u64 n)]=some (({ x with epoch:=n }:Cfg).c.map V.d):=(rfl)
theorem Cfg.p1 {x:Cfg}{n:Int}:put (x.c.map V.d) 1 [.d (u64 n)]=some (({ x with next:=n }:Cfg).c.map V.d):=(rfl)
theorem Cfg.p4 {x:Cfg}{s:Sl Pod}:put (x.c.map V.d) 4 [.d (s.d Pod.c)]=some (({ x with pods:=s }:Cfg).c.map V.d):=(rfl)
theorem Cfg.p5 {x:Cfg}{s:Sl Svc}:put (x.c.map V.d) 5 [.d (s.d Svc.c)]=some (({ x with services:=s }:Cfg).c.map V.d):=(rfl)
theorem Cfg.p6 {x:Cfg}{s:Sl Way}:put (x.c.map V.d) 6 [.d (s.d Way.c)]=some (({ x with bound:=s }:Cfg).c.map V.d):=(rfl)
theorem Cfg.p7 {x:Cfg}{s:Sl Pol}:put (x.c.map V.d) 7 [.d (s.d Pol.c)]=some (({ x with policies:=s }:Cfg).c.map V.d):=(rfl)
theorem Pod.p0 {x:Pod}{n:Int}:put (x.c.map V.d) 0 [.d (u64 n)]=some (({ x with uid:=n }:Pod).c.map V.d):=(rfl)
theorem Pod.p3 {x:Pod}{n:Int}:put (x.c.map V.d) 3 [.d (i64 n)]=some (({ x with host:=n }:Pod).c.map V.d):=(rfl)
theorem Pod.p4 {x:Pod}{n:Int}:put (x.c.map V.d) 4 [.d (u32 n)]=some (({ x with addr:=n }:Pod).c.map V.d):=(rfl)
section
variable {E:Calls'}
def outT {α:Type}(key:α->Int)(n:Int)(s:Sl α):Sl α:=⟨s.nl,s.l.filter λe=>!(key e==n)⟩
def Cx {α:Type}(key:α->Int)(n:Int)(s:Sl α):Bool:=decide ((s.l.filter λe=>!(key e==n)).length<s.l.length)
end
end
section
def QE (E:Calls'):Prop:=∀ f,f=990289\/f=990192\/f=990199\/f=990204->∀ args h,E f args h=Sm EW TW ax3 f args h
section
variable {E:Calls'}(hE:QE E)
include hE
def Mj (c:Cfg)(p:Pod):Cfg:={ c with next:=wrap .u64 (c.next+1),pods:=⟨false,Jw Pod.uid { p with uid:=c.next } c.pods.l⟩ }
end
end
section
def KR (c:Cfg)(e:Edt):Cfg×Int :=
 if e.kind=1 then (Mj c e.pod,0)
 else if e.kind=2 then ({ c with pods:=outT Pod.uid e.id c.pods },if Cx Pod.uid e.id c.pods then 0 else 4)
 else if e.kind=3 then match c.pods.l.find? (λp=>p.uid==e.id) with
  | some p=>(Mj { c with pods:=outT Pod.uid e.id c.pods } { p with host:=e.pod.host,addr:=e.pod.addr },0)
  | none=>(c,4)
 else if e.kind=4 then ({ c with services:=⟨false,Jw Svc.id e.svc c.services.l⟩ },0)
 else if e.kind=5 then ({ c with services:=outT Svc.id e.id c.services },if Cx Svc.id e.id c.services then (if (c.pods.l.any λp=>p.service==e.id)||(c.policies.l.any λp=>p.service==e.id) then 5 else 0) else 4)
 else if e.kind=6 then ({ c with bound:=⟨false,Jw Way.id e.way c.bound.l⟩ },0)
 else if e.kind=7 then ({ c with bound:=outT Way.id e.id c.bound },if Cx Way.id e.id c.bound then (if (c.services.l.any λp=>p.way==e.id) then 5 else 0) else 4)
 else if e.kind=8 then ({ c with policies:=⟨false,Jw Pol.id e.pol.own c.policies.l⟩ },0)
 else if e.kind=9 then ({ c with policies:=outT Pol.id e.id c.policies },if Cx Pol.id e.id c.policies then 0 else 4)
 else (c,1)
end
section
def Cfg.own (c:Cfg):Cfg:={ c with policies:=⟨c.policies.nl,c.policies.l.map Pol.own⟩ }
end
section
theorem rA {α:Type}{B:Nat}{l:List α}(h:l.length<=B):fit B ⟨l.isEmpty,l⟩:=⟨h,λhh=>by simpa using hh⟩
theorem Rule.own_wf {B:Nat}{r:Rule}(h:r.wf B):r.own.wf B:=⟨⟨rA h.1.1.1,h.1.2⟩,⟨rA h.2.1.1.1,h.2.1.2⟩,⟨rA h.2.2.1.1,h.2.2.2⟩⟩
theorem Pol.own_wf {B:Nat}{p:Pol}(h:p.wf B):p.own.wf B:=by
 refine ⟨h.1,h.2.1,h.2.2.1,h.2.2.2.1,⟨?_,λhh=>by simpa [Pol.own] using hh⟩,λx hx=>?_⟩
 . simp only [Pol.own,bx]; exact h.2.2.2.2.1.1
 . obtain ⟨r,hr,rfl⟩:=b9.1 hx;exact Rule.own_wf (h.2.2.2.2.2 r hr)
theorem Cfg.own_wf {B:Nat}{c:Cfg}(h:c.wf B):c.own.wf B:=by
 obtain ⟨h1,h2,h3,h4,h5,h6,h7,h8⟩:=h;refine ⟨h1,h2,h3,h4,h5,h6,h7,⟨?_,λhh=>?_⟩,λx hx=>?_⟩
 . simp only [Cfg.own,bx]; exact h8.1.1
 . simp only [Cfg.own] at hh ⊢; rw [h8.1.2 hh]; rfl
 . obtain ⟨p,hp,rfl⟩:=b9.1 hx;exact Pol.own_wf (h8.2 p hp)
def Edt.wf (B:Nat)(e:Edt):Prop:=Inr .i64 e.kind/\Inr .u64 e.id/\e.pod.wf B/\e.svc.wf B/\e.way.wf B/\e.pol.wf B
end
section
section
variable {E:Calls'}(h385:∀ t:Target,t.wf big->∀ h,E 222 [ag t.c] h=some (bl (bq t),h))
theorem jF {h:Hp}{k b o n z:Nat}{cap:Option Nat}{d:D}(hd:dataV h (k+1) (.row b o n cap z)=some d):∃ l,d=.slice false l:=by
 simp only [dataV] at hd;split at hd
 . split at hd
   . split at hd
     . cases hd; exact ⟨_,rfl⟩
     . cases hd
   . cases hd
 . cases hd
theorem uE {h:Hp}{r:V}{b:Bool}(hr:frz h r=some (bl b)):r=bl b:=by
 cases r with
 | d x=>simpa using hr
 | row b' o n cap z =>
  exfalso;simp only [frz,bZ] at hr;cases hd:dataV h 8 (.row b' o n cap z) with
  | none=>rw [hd] at hr; cases hr
  | some d =>
   rw [hd] at hr;obtain ⟨l,rfl⟩:=jF hd;cases hr
 | ptr b' o=>simp [frz,bZ,dataV] at hr
 | eptr cs o=>simp [frz,bZ,dataV] at hr
 | undef=>simp [frz,bZ] at hr
 | fn f cs=>cases cs<;>simp [frz,bZ] at hr
 | mfn f cs=>simp [frz,bZ,dataV] at hr
 | agg cs =>
  simp only [frz,bZ] at hr;split at hr<;>cases hr
 | tup vs =>
  simp only [frz] at hr;split at hr<;>cases hr
theorem Df {T:FuncId->Option QF}{val:FuncId->Bool}{f:FuncId}{q:QF}(ht:T f=some q)(hv:val f=true){l:List D}{b:Bool}(h0:∀ h,Sm E T val f [ag l] h=some (bl b,h)){a:V}{h:Hp}(ha:frz h a=some (ag l)):Sm E T val f [a] h=some (bl b,h):=by
 have h1:=h0 h;rw [aQ ht hv] at h1 ⊢;simp only [List.mapM_cons,List.mapM_nil,oq,ha,Option.pure_def,Option.bind_eq_bind,Option.bind_some,nD,vU] at h1 ⊢;cases hB:Bd E T val q [ag l] ⟨[],0⟩ with
 | none=>rw [hB] at h1; cases h1
 | some p =>
  obtain ⟨r,h'⟩:=p;rw [hB] at h1;simp only [yH] at h1 ⊢;cases hr:frz h' r with
  | none=>rw [hr] at h1; cases h1
  | some r' =>
   rw [hr] at h1;have e1:r'=bl b:=by
    simp at h1; exact h1
   subst e1;have:=uE hr;subst this;simp [ownR,xJ,mq]
end
end
section
end
section
def Cfg.same (a b:Cfg):Bool:=a.epoch==b.epoch&&a.next==b.next&&a.hosts==b.hosts&&a.ways==b.ways&&(all2 Pod.eqB a.pods.l b.pods.l&&(all2 Svc.eqB a.services.l b.services.l&&(all2 Way.eqB a.bound.l b.bound.l&&all2 Pol.same a.policies.l b.policies.l)))
end
section
theorem Ad {α:Type}{key:α->Int}:∀ {l m:List α},l.Pairwise (λa b=>key a<key b)->m.Pairwise (λa b=>key a<key b)->(∀ x,x∈l↔x∈m)->l=m
 | [],[],_,_,_=>rfl
 | [],b::m,_,_,h=>by have:=(h b).2 (by simp); simp at this
 | a::l,[],_,_,h=>by have:=(h a).1 (by simp); simp at this
 | a::l,b::m,h1,h2,h=>by
  obtain ⟨p1,p2⟩:=List.pairwise_cons.1 h1;obtain ⟨q1,q2⟩:=List.pairwise_cons.1 h2;have hab:a=b:=by
   obtain e | e:=List.mem_cons.1 ((h a).1 (by simp))
   . exact e
   . obtain e2 | e2:=List.mem_cons.1 ((h b).2 (by simp))
     . exact e2.symm
     . have:=q1 a e; have:=p1 b e2; omega
  subst hab;have:=Ad p2 q2 λx=>⟨λhx=>by
   obtain e | e:=List.mem_cons.1 ((h x).1 (List.mem_cons_of_mem _ hx))
   . subst e; have:=p1 x hx; omega
   . exact e,λhx=>by
   obtain e | e:=List.mem_cons.1 ((h x).2 (List.mem_cons_of_mem _ hx))
   . subst e; have:=q1 x hx; omega
   . exact e⟩
  rw [this]
theorem Pol.own_same (p:Pol):Pol.same p.own p=true:=by
 have:all2 Rule.same (p.rules.l.map Rule.own) p.rules.l=true:=by
  rw [yO]; exact dI Rule.same_refl _
 simp [Pol.same,Pol.own,this]
theorem Cfg.same_refl (a:Cfg):a.same a=true:=by
 simp [Cfg.same,dI (λ_=>Pod.eqB_iff.2 rfl),dI (λ_=>Svc.eqB_iff.2 rfl),dI (λ_=>Way.eqB_iff.2 rfl),dI Pol.same_refl]
end
section
end
section
structure Scp where
 node:Int
 addrs:Sl Int
theorem hasT_iff {l:List Int}{n:Int}:bE l n=true↔n∈l:=by
 simp [bE,List.find?_isSome]
end
section
def nG (l:List Int)(most:Int):Bool:=(aX l&&decide ((l.length:Int)<=most))&&!bE l 0
def bS (p:Pod):Bool:=decide ((p.ns.size:Int)>64)||(decide ((p.sa.size:Int)>64)||(decide (p.host<0)||(decide (p.host>9)||(decide (p.port<0)||decide (p.port>65535)))))
def dP (p:Svc):Bool:=decide ((p.ns.size:Int)>64)||(decide (p.port<0)||decide (p.port>65535))
def eD (p:Way):Bool:=decide (p.node<0)||decide (p.node>9)
def lu {α:Type}(key:α->Int)(l:List α)(most:Int):Bool:=aX (l.map key)&&decide ((l.length:Int)<=most)
def Jq (v:Vw):Bool:=v.pods.l.any bS||(v.services.l.any dP||v.bound.l.any eD)
def qU (v:Vw):Bool:=!Jq v&&(lu Pod.uid v.pods.l 16&&(lu Svc.id v.services.l 6&&(lu Way.id v.bound.l 4&&lu Pol.id v.policies.l 12)))
def bg (v:Vw):Bool:=decide (v.epoch<=4611686018427387903)&&(nG v.covers.l 38&&(qU v&&!v.policies.l.any λp=>!dw p))
end
section
def Scp.c (x:Scp):List D:=[i64 x.node,x.addrs.d bz]
@[simp] theorem Scp.len {x:Scp}:x.c.length=2:=(rfl)
@[simp] theorem Scp.all {x:Scp}:sub x.c 0 2=some x.c:=(rfl)
@[simp] theorem Scp.s0_1 {x:Scp}:sub x.c 0 1=some [i64 x.node]:=(rfl)
@[simp] theorem Scp.s1_1 {x:Scp}:sub x.c 1 1=some [x.addrs.d bz]:=(rfl)
theorem bX {bs ys:List Blk}:ai (bs++ys) (bs.length+1)=ai ys 1:=by
 unfold ai; rw [bk (by omega)]; simp
end
section
theorem RowIs.lay {bs:List Blk}{v:V}{z:Nat}{es:List (List D)}(h:RowIs bs v z es)(ys:List Blk):RowIs (bs++ys) v z es:=by
 refine ⟨h.1,?_⟩;obtain h1 | ⟨b,o,cap,cs,h1,h2,h3⟩:=h.2
 . exact .inl h1
 . exact .inr ⟨b,o,cap,cs,h1,aj h2,h3⟩
section
variable {E:Calls'}(h45:∀ c:Cfg,c.ok->∀ n h,E 990045 [c.v,.d (u64 n)] h=some (.tup (match ay6 c n with | some w=>[w.v,bl true] | none=>[way0.v,bl false]),h))
 (h117:∀ s:Sl Int,short s->∀ n h,E 39 [.d (s.d bz),.d (u32 n)] h=some (bl (bE s.l n),h))
 (h52:∀ (p:Pol) (x:Pod) h,E 74 [p.v,x.v] h=some (bl (cB p x.ns x.service),h))
variable {c:Cfg}{s:Scp}
include h45 in
include h117 in
include h45 h117 in
def ah (e:Int)(v1 v2 v3 v4 v5:V):List V:=[.d (u64 e),v1,v2,v3,v4,v5]
end
end
section
abbrev Scp.v (x:Scp):V:=ag x.c
section
variable {E:Calls'}
theorem Gh {s:Sl Int}{i:Nat}(hi:i<s.l.length){kd:IntKind}{h:Hp}:cZ none 1 (.d (s.d bz)) (.d (.int kd i)) h=some (.eptr (bz s.l[i]) 0,h) :=
 sZ (cells:=bz) (λ_=>rfl) hi
variable (h117:∀ s:Sl Int,short s->∀ n h,E 39 [.d (s.d bz),.d (u32 n)] h=some (bl (bE s.l n),h))
include h117
end
end
section
open Go.Sort (swp)
end
section
open Go.Sort (swp ltInt insInner insOuter insertionSort)
end
section
open Go.Sort (swp ltInt siftDown heapBuild heapPop heapSort)
@[simp] theorem We {k:IntKind}{a b:Int}:dW .mul (.d (.int k a)) (.d (.int k b))=some (.int k (k.wrap (a * b))):=by simp [dW,fZ]
end
section
open Go.Sort (swp ltInt siftDown heapBuild heapPop heapSort reverseLoop reverseRange)
end
section
open Go.Sort (swp ltInt order2 median medianAdjacent choosePivot Hint)
end
section
open Go.Sort (swp ltInt order2 median medianAdjacent choosePivot Hint)
end
section
open Go.Sort (swp ltInt scanUp scanDown partLoop partEqLoop partition partitionEqual)
end
section
open Go.Sort (swp ltInt scanUp scanDown partLoop partEqLoop partition partitionEqual scanUp_spec scanDown_spec partLoop_eq partEqLoop_eq)
end
section
open Go.Sort (swp ltInt scanSorted shiftDown shiftUp partialIns partialInsertionSort)
end
section
open Go.Sort (swp ltInt PermIn permIn_trans permIn_refl swp_permIn)
end
section
open Go.Sort (swp ltInt PermIn permIn_trans permIn_refl)
end
section
open Go.Sort (swp ltInt PermIn SortedIn Below SWO permIn_trans permIn_refl partition partitionEqual partialInsertionSort choosePivot reverseRange round_eq round_part partition_holds partitionEqual_holds Hint)
end
section
open Go.Sort (swp ltInt PermIn SortedIn Below SWO permIn_trans permIn_refl partialInsertionSort choosePivot reverseRange partialInsertionSort_holds choosePivot_holds reverseRange_holds insertionSort_holds heapSort_holds insertionSort heapSort Hint)
end
section
open Go.Sort (ltInt PermIn SortedIn sorted_unique_holds)
end
section
abbrev aK:V:=.d (.slice true [])
end
section
theorem uH {bs bs':List Blk}{x:Nat}{cs:List V}(h:ai bs x=some cs)(ho:bs'[x]?=bs[x]?):ai bs' x=some cs:=by
 unfold ai at h ⊢; rw [ho]; exact h
end
section
end
section
def vw0:Vw:=⟨0,⟨true,[]⟩,⟨true,[]⟩,⟨true,[]⟩,⟨true,[]⟩,⟨true,[]⟩⟩
end
section
end
section
def aR (n:Int):List D:=[u64 n]
section
variable {E:Calls'}{T:FuncId->Option QF}{val:FuncId->Bool}
def KeptP {α:Type}(cells:α->List D)(z n:Nat)(nl:Bool)(l:List α)(bs:List Blk)(v:V):Prop :=
 (nl=true/\l=[]/\v=.d (.slice true []))\/(nl=false/\∃ B cap rest,n<=B/\v=.row B 0 l.length cap z/\ai bs B=some (flat (l.map cells)++rest)/\((cap=some 0/\l=[])\/(cap=none/\0<(flat (l.map cells)++rest).length)))
theorem KeptP.nu {α:Type}{cells:α->List D}{z n:Nat}{nl:Bool}{l:List α}{bs:List Blk}{v:V}(h:KeptP cells z n nl l bs v):Go.Proofs.YtoecipeaknldaaaGreat.nu v=some v/\okV v=true:=by
 obtain ⟨_,_,rfl⟩ | ⟨_,B,cap,rest,_,rfl,_⟩:=h<;>exact ⟨rfl,rfl⟩
theorem Ch {α:Type}{cells:α->List D}{z b cl clos del idx id:Nat}{zero:List V}(tcl:T cl=some (cloneQ z b zero))(vcl:val cl=false)(tdel:T del=some (delQ z idx zero))(vdel:val del=false)(tidx:T idx=some (idxQ z))(vidx:val idx=false)
 (tc:T clos=some (notQ z)) (vc:val clos=false) (tid:T id=some (keepQ cl clos del)) (vid:val id=false) (hz:∀ x,(cells x).length=z) (hz0:0<z) (hzero:zero.length=z) (hb:b<=4096) {s:Sl α} (hs:short s) {f:FuncId} {caps:List V} {q:α->Bool} {h:Hp}
 (hq:∀ e∈s.l,∀ bs lo,h.bs.length<=bs.length->(∀ x,x<h.bs.length->bs[x]?=h.bs[x]?)->Sm E T val f (ag (cells e)::caps) ⟨bs,lo⟩=some (bl (q e),⟨bs,lo⟩)) :
 ∃ r bs' lo',Sm E T val id [.d (s.d cells),.fn f caps] h=some (r,⟨bs',lo'⟩)/\(h.bs.length<=bs'.length/\∀ c,c<=h.bs.length->c<=h.low->c<=lo')/\(∀ x,x<h.bs.length->bs'[x]?=h.bs[x]?)/\KeptP cells z h.bs.length s.nl (s.l.filter q) bs' r:=by
 obtain ⟨bs,lo0⟩:=h;simp only at hq ⊢;obtain ⟨nl,l⟩:=s;simp only at hq ⊢;have hcl:=jT (E:=E) (T:=T) (val:=val) tcl vcl hz0 hb (nl:=nl) (es:=l.map cells) (by simp; intro a _; exact hz a) (by simpa using hs.1) ⟨bs++[.cells [.fn f caps]],bs.length⟩;have hlen:l.length<2 ^ 62:=hs.lt;have hout:∀ {r:V} {bs':List Blk} {lo':Nat},r.under bs.length=false->dY ⟨bs,lo0⟩ (some (r,⟨bs',lo'⟩))=some (r,⟨bs',min lo0 lo'⟩):=λhu=>by
  rw [eu,if_neg (λhh=>by rw [hu] at hh; cases hh.2)]
 have hun:∀ {B o n z:Nat} {cap:Option Nat},bs.length<=B->V.under bs.length (.row B o n cap z)=false:=λh=>by simp [V.under]; omega
 rw [aT tid vid];cases nl with
 | true =>
  have hl:=hs.2 rfl;simp at hl;subst hl;have h1:=oh (E:=E) (T:=T) (val:=val) cells (es:=[]) (z:=z) (idx:=idx) (zero:=zero) tidx vidx tdel vdel (v:=.d (.slice true [])) (f:=clos) (caps:=[.ptr bs.length 0]) (q:=λ_=>false) (h:=⟨bs++[.cells [.fn f caps]],bs.length⟩) ⟨by simp,.inl ⟨true,rfl⟩⟩ (by simp) (by simp) (by simp);simp [cloneR] at hcl;refine ⟨.d (.slice true []),bs,lo0,?_,⟨bp _,λ_ _ h=>h⟩,λ_ _=>rfl,.inl ⟨rfl,by simp,rfl⟩⟩;simp [aa,keepQ,Sl.d,hcl,h1,V.under,bH]
 | false =>
  cases hll:l with
  | nil =>
   subst hll;have h1:=λlo=>oh (E:=E) (T:=T) (val:=val) cells (es:=[]) (z:=z) (idx:=idx) (zero:=zero) tidx vidx tdel vdel (v:=.row (bs.length+1) 0 0 (some 0) z) (f:=clos) (caps:=[.ptr bs.length 0]) (q:=λ_=>false) (h:=⟨bs++[.cells [.fn f caps],.cells []],lo⟩) ⟨by simp,.inr ⟨bs.length+1,0,some 0,[],rfl,by unfold ai; rw [bk (by omega)]; simp,by simp [eT]⟩⟩ (by simp) (by simp) (by simp);simp [cloneR] at hcl;refine ⟨.row (bs.length+1) 0 0 (some 0) z,bs++[.cells [.fn f caps],.cells []],min lo0 bs.length,?_,⟨by simp,λc h1 h2=>by show _<=min lo0 bs.length; omega⟩,λx hx=>by rw [al hx],.inr ⟨rfl,bs.length+1,some 0,[],by omega,rfl,by unfold ai; rw [bk (by omega)]; simp,.inl ⟨rfl,rfl⟩⟩⟩;refine Eq.trans ?_ (hout (lo':=bs.length) (hun (by omega)))
   congr 1
   simp [aa,keepQ,Sl.d,hcl,h1,bH]
  | cons p l' =>
   have hne:l≠[]:=by rw [hll]; simp
   have hLz:0<l.length * z:=Nat.mul_pos (List.length_pos_iff.2 hne) hz0;rw [← hll];have hc2:cloneR z false (l.map cells) (bs++[.cells [.fn f caps]]) bs.length=(.row (bs.length+2) 0 l.length none z,⟨bs++[.cells [.fn f caps],.cells [],.cells (flat (l.map cells))],bs.length⟩):=by
    rw [hll]; simp [cloneR]
   rw [hc2] at hcl;simp at hcl;have hbF:ai (bs++[.cells [.fn f caps],.cells [],.cells (flat (l.map cells))]) (bs.length+2)=some (flat (l.map cells)):=by unfold ai; rw [bk (by omega)]; simp
   have hold:∀ x,x<bs.length->(bs++[Blk.cells [.fn f caps],.cells [],.cells (flat (l.map cells))])[x]?=bs[x]?:=λx hx=>by rw [al hx]
   have hcall:∀ e∈l,∀ bs2 lo2,bs.length+3<=bs2.length->(∀ x,x≠bs.length+2->x<bs.length+3->bs2[x]?=(bs++[.cells [.fn f caps],.cells [],.cells (flat (l.map cells))])[x]?)->Sm E T val clos (.agg ((cells e).map .d)::[.ptr bs.length 0]) ⟨bs2,lo2⟩=some (.d (.bool (!q e)),⟨bs2,lo2⟩):=by
    intro e he bs2 lo2 hle ho;refine Mh tc vc (hz e) (f:=f) (caps:=caps) (p:=q e) ?_ λys lo=>?_
    . have:=ho bs.length (by omega) (by omega);simp only [ai];rw [this,bk (by omega)]; simp
    . refine hq e he _ lo (by simp; omega) λx hx=>?_;simp only;rw [al (by omega),ho x (by omega) (by omega)];exact hold x hx
   have hnn:(l.filter λe=>!(!q e))=l.filter q:=by simp
   by_cases hqq:∃ e∈l,(!q e)=true
   . obtain ⟨bs',lo',rest,k1,k2,k3,k4,k5,k6⟩:=AU (E:=E) (T:=T) (val:=val) hz hz0 hzero tidx vidx tdel vdel (es:=l) (b:=bs.length+2) (cap:=none) (f:=clos) (caps:=[.ptr bs.length 0]) (q:=λe=>!q e) (h:=⟨bs++[.cells [.fn f caps],.cells [],.cells (flat (l.map cells))],bs.length⟩) hbF hlen (λe he bs2 lo2 a b=>hcall e he bs2 lo2 (by simpa using a) (λx h1 h2=>b x h1 (by simp; omega))) hqq;rw [hnn] at k1 k4;refine ⟨.row (bs.length+2) 0 (l.filter q).length none z,bs',min lo0 lo',?_,⟨by simp at k2; omega,λc h1 h2=>by have:=k5.2 c (by omega) h1; show _<=min lo0 lo'; omega⟩,λx hx=>by rw [k3 x (by omega) (by simp; omega)]; exact hold x hx,.inr ⟨rfl,bs.length+2,none,rest,by omega,rfl,k4,.inr ⟨rfl,by rw [am,bQ hz,k6,hnn,← Nat.add_mul,Nat.add_sub_cancel' (List.length_filter_le _ _)]; exact hLz⟩⟩⟩;refine Eq.trans ?_ (hout (lo':=lo') (hun (by omega)))
     congr 1
     simp [aa,keepQ,Sl.d,hcl,k1,bH]
   . have hall:∀ e∈l,(!q e)=false:=by
      intro e he;cases hh:(!q e) with
      | false=>rfl
      | true=>exact absurd ⟨e,he,hh⟩ hqq
     have hK:l.filter q=l:=List.filter_eq_self.2 λe he=>by have:=hall e he; simpa using this
     have h1:=oh (E:=E) (T:=T) (val:=val) cells (es:=l) (z:=z) (idx:=idx) (zero:=zero) tidx vidx tdel vdel (v:=.row (bs.length+2) 0 l.length none z) (f:=clos) (caps:=[.ptr bs.length 0]) (q:=λe=>!q e) (h:=⟨bs++[.cells [.fn f caps],.cells [],.cells (flat (l.map cells))],bs.length⟩)
      ⟨by simp; intro a _; exact hz a,.inr ⟨bs.length+2,0,none,_,by simp,hbF,by
       rw [eT,if_pos (by rw [bQ hz]; simp),List.drop_zero,bx,← bQ hz,List.take_length]; rfl⟩⟩ hlen (λe he lo2=>hcall e he _ lo2 (by simp) λ_ _ _=>rfl) hall
     rw [hK];refine ⟨.row (bs.length+2) 0 l.length none z,bs++[.cells [.fn f caps],.cells [],.cells (flat (l.map cells))],min lo0 bs.length,?_,⟨by simp,λc h1 h2=>by show _<=min lo0 bs.length; omega⟩,hold,.inr ⟨rfl,bs.length+2,none,[],by omega,rfl,by rw [hbF]; simp,.inr ⟨rfl,by rw [List.append_nil,bQ hz]; exact hLz⟩⟩⟩;refine Eq.trans ?_ (hout (lo':=bs.length) (hun (by omega)))
     congr 1
     simp [aa,keepQ,Sl.d,hcl,h1,bH]
theorem Fs {α:Type}{cells:α->List D}{z b:Nat}(hz:∀ x,(cells x).length=z)(hz0:0<z)(hb:b<=4096){n:Nat}{nl:Bool}{K:List α}{bs:List Blk}{v:V}(hk:KeptP cells z n nl K bs v)(fr:Sl α)(hfr:fit big fr)(hlen:K.length+fr.l.length<=big)(hn:n<=bs.length) :
 ∃ (v':V) (bs':List Blk) (f:Nat->Nat),(∀ lo,fw ⟨bs,lo⟩ z b v (.d (fr.d cells))=some (v',⟨bs',f lo⟩))/\(∀ y,y<n->bs'[y]?=bs[y]?) ∧
  ((nl=true/\K++fr.l=[]/\v'=.d (.slice true []))\/((nl&&fr.l.isEmpty)=false/\∃ B cap rest,n<=B/\v'=.row B 0 (K++fr.l).length cap z/\ai bs' B=some (flat ((K++fr.l).map cells)++rest))):=by
 have hall:((fr.l.map cells).all λe=>e.length==z)=true:=cj.2 λx hx=>by
  obtain ⟨y,_,rfl⟩:=b9.1 hx;simp [hz y]
 have hrc:∀ lo,aO ⟨bs,lo⟩ (.d (fr.d cells)) z=some (fr.l.length,flat (fr.l.map cells)):=λlo=>by
  simp only [Sl.d,aO,hall,if_true,flat,bx]
 have hroom:∀ n,n<=big->roomy n b=true:=λn hn=>by simp only [roomy,ao,br]; exact ⟨hn,hb⟩
 have hzz:¬ z=0:=by omega
 have hfl:=bQ hz fr.l;obtain h0 | h0:=Nat.eq_zero_or_pos fr.l.length
 . have hf0:fr.l=[]:=List.eq_nil_of_length_eq_zero h0;obtain ⟨h1,h2,rfl⟩ | ⟨h1,B,cap,rest,h2,rfl,h3,h4⟩:=hk
   . refine ⟨.d (.slice true []),bs,λlo=>lo,λlo=>by simp only [fw,hrc,h0,aI,if_true],λ_ _=>rfl,.inl ⟨h1,by rw [h2,hf0]; rfl,rfl⟩⟩
   . refine ⟨.row B 0 K.length cap z,bs,λlo=>lo,λlo=>by simp only [fw,hrc,h0,aI,ne_eq,not_true_eq_false,false_or,if_neg hzz,if_true],λ_ _=>rfl,.inr ⟨by simp [h1],B,cap,rest,h2,by rw [hf0,List.append_nil],by rw [hf0,List.append_nil]; exact h3⟩⟩
 . have hm0:¬ fr.l.length=0:=by omega
   have hne:fr.l≠[]:=List.length_pos_iff.1 h0;have hie:fr.l.isEmpty=false:=by cases hc:fr.l with | nil=>exact absurd hc hne | cons _ _=>rfl
   have hcat:flat ((K++fr.l).map cells)=flat (K.map cells)++flat (fr.l.map cells):=by rw [List.map_append,kZ]
   have hcat2:flat (K.map cells++fr.l.map cells)=flat (K.map cells)++flat (fr.l.map cells):=kZ _ _;have hKl:=bQ hz K;obtain ⟨h1,h2,rfl⟩ | ⟨h1,B,cap,rest,h2,rfl,h3,h4⟩:=hk
   . subst h2;refine ⟨.row bs.length 0 fr.l.length none z,bs++[.cells (flat (fr.l.map cells))],λlo=>lo,λlo=>by simp only [fw,hrc,aI,if_neg hm0,if_neg hzz,hroom fr.l.length (by simpa using hlen),if_true]; rfl,λy hy=>by rw [al (by omega)],.inr ⟨by simp [hie],bs.length,none,[],hn,rfl,by simp [cO]⟩⟩
   . have hBl:=aJ h3;have hs:sub (flat (K.map cells)++rest) 0 (K.length * z)=some (flat (K.map cells)):=by
      rw [eT,if_pos (by rw [am,hKl]; omega),List.drop_zero,← hKl,List.take_left]
     obtain ⟨rfl,rfl⟩ | ⟨rfl,h5⟩:=h4
     . simp only [List.map_nil,pV,List.nil_append,ch,Nat.zero_mul] at h3 hs hlen;refine ⟨.row bs.length 0 (0+fr.l.length) none z,bs++[.cells ([]++flat (fr.l.map cells))],λlo=>lo,λlo=>by simp only [fw,hrc,aI,ne_eq,not_true_eq_false,false_or,if_neg hm0,if_neg hzz,get_eq,h3,ch,Nat.zero_mul,hs,hroom (0+fr.l.length) (by omega),Bool.not_true,bm,if_false,if_neg (show ¬ (0+fr.l.length<=0) by omega)]; rfl,λy hy=>by rw [al (by omega)],.inr ⟨by simp [hie],bs.length,none,[],hn,by simp,by simp [cO]⟩⟩
     . by_cases hfit:0+(K.length+fr.l.length) * z<=(flat (K.map cells)++rest).length
       . have hno:¬ (True/\(flat (K.map cells)).length=(flat (K.map cells)++rest).length/\0<(flat (K.map cells)++rest).length):=by
          have:0<fr.l.length * z:=Nat.mul_pos h0 hz0;rw [Nat.add_mul] at hfit;rw [hKl];omega
         have hput:put (flat (K.map cells)++rest) (0+K.length * z) (flat (fr.l.map cells))=some (flat (K.map cells)++flat (fr.l.map cells)++rest.drop (fr.l.length * z)):=by
          rw [Nat.add_mul] at hfit;unfold put;rw [if_pos (by rw [hfl]; omega),Nat.zero_add,← hKl,List.take_left,List.drop_append,aq (by omega),Nat.add_sub_cancel_left,hfl];simp
         refine ⟨.row B 0 (K.length+fr.l.length) none z,bs.set B (.cells (flat (K.map cells)++flat (fr.l.map cells)++rest.drop (fr.l.length * z))),λlo=>min lo B,λlo=>by simp only [fw,hrc,aI,ne_eq,not_true_eq_false,false_or,if_neg hm0,if_neg hzz,get_eq,h3,hs,hroom (K.length+fr.l.length) (by omega),Bool.not_true,bm,if_false,if_neg hno,if_pos hfit,hput]; rfl,λy hy=>by rw [ac (by omega)],.inr ⟨by simp [hie],B,none,rest.drop (fr.l.length * z),h2,by simp,by simp [ai,hBl,hcat2]⟩⟩
       . refine ⟨.row bs.length 0 (K.length+fr.l.length) none z,bs.set B (.cells [])++[.cells (flat (K.map cells)++flat (fr.l.map cells))],λlo=>min lo B,λlo=>?_,λy hy=>by rw [al (by simp; omega),ac (by omega)],.inr ⟨by simp [hie],bs.length,none,[],hn,by simp,?_⟩⟩
         . by_cases hfull:(flat (K.map cells)).length=(flat (K.map cells)++rest).length
           . simp only [fw,hrc,aI,ne_eq,not_true_eq_false,false_or,if_neg hm0,if_neg hzz,get_eq,h3,hs,hroom (K.length+fr.l.length) (by omega),Bool.not_true,bm,if_false,if_pos (show True/\(flat (K.map cells)).length=(flat (K.map cells)++rest).length/\0<(flat (K.map cells)++rest).length from ⟨trivial,hfull,h5⟩),Hp.size,Hp.alloc,Hp.set,List.length_set]
           . simp only [fw,hrc,aI,ne_eq,not_true_eq_false,false_or,if_neg hm0,if_neg hzz,get_eq,h3,hs,hroom (K.length+fr.l.length) (by omega),Bool.not_true,bm,if_false,if_neg (show ¬ (True/\(flat (K.map cells)).length=(flat (K.map cells)++rest).length/\0<(flat (K.map cells)++rest).length) from λhh=>hfull hh.2.1),if_neg hfit,if_pos (show True/\0<(flat (K.map cells)++rest).length from ⟨trivial,h5⟩),Hp.size,Hp.alloc,Hp.set,List.length_set]
         . have:=cO (bs:=bs.set B (.cells [])) (ys:=[.cells (flat (K.map cells)++flat (fr.l.map cells))]);rw [List.length_set] at this;rw [this,hcat,List.append_nil]; rfl
def fI {α:Type}(key:α->Int)(fresh:List α)(gone:List Int)(e:α):Bool:=!bE gone (key e)&&!fresh.any λy=>key e==key y
def bL {α:Type}(key:α->Int)(l fresh:List α)(gone:List Int):List α:=((l.filter (fI key fresh gone))++fresh).mergeSort λa b=>decide (key a<=key b)
theorem Qw {α:Type}{cells:α->List D}{z c idf:FuncId}{key:α->Int}(ht:T c=some (vpeQ z))(hv:val c=false){x y:α}(hx:(cells x).length=z)(hy:(cells y).length=z)(hid:∀ e,e=x\/e=y->∀ h,Sm E T val idf [ag (cells e)] h=some (.d (u64 (key e)),h)){p r:Nat}{h:Hp}(hp:ai h.bs p=some [.fn idf []])(hr:ai h.bs r=some ((cells x).map .d)) :
 Sm E T val c [ag (cells y),.ptr p 0,.ptr r 0] h=some (bl (key x==key y),h):=by
 rw [aT ht hv];have hsx:=Aw hx;have hsy:=Aw hy;have h1:=hid x (.inl rfl);have h2:=hid y (.inr rfl);simp [vpeQ,aa,az,ae,aL,bu,Tr.mute,aj hp,aj hr,h1,h2,hsx,hsy,V.under]
theorem Qv {α:Type}{cells:α->List D}{z c c11 con sm any idx idf:FuncId}{key:α->Int}(ht:T c=some (vpcQ z con c11 sm))(hv:val c=false)(ht1:T c11=some (vpeQ z))(hv1:val c11=false)(ts:T sm=some (someQ any))(vs:val sm=false)(ta:T any=some (anyQ idx))(va:val any=false)(ti:T idx=some (idxQ z))(vi:val idx=false)
 (hz:∀ x,(cells x).length=z) {fresh:Sl α} (hs:short fresh) {gone:Sl Int} (hcon:∀ n h,Sm E T val con [.d (gone.d aR),.d (u64 n)] h=some (bl (bE gone.l n),h)) {x:α} (hid:∀ e,e=x\/e∈fresh.l->∀ h,Sm E T val idf [ag (cells e)] h=some (.d (u64 (key e)),h))
 {p r f:Nat} {h:Hp} (hr:ai h.bs r=some [.d (gone.d aR)]) (hp:ai h.bs p=some [.fn idf []]) (hf:ai h.bs f=some [.d (fresh.d cells)]) :
 Sm E T val c [ag (cells x),.ptr r 0,.ptr p 0,.ptr f 0] h=some (bl (fI key fresh.l gone.l x),h):=by
 have hsx:=Aw (hz x);have h1:=hid x (.inl rfl);have hcl:∀ y∈fresh.l,∀ lo,Sm E T val c11 (.agg ((cells y).map .d)::[.ptr p 0,.ptr h.bs.length 0]) ⟨h.bs++[.cells ((cells x).map .d)],lo⟩=some (.d (.bool (key x==key y)),⟨h.bs++[.cells ((cells x).map .d)],lo⟩):=λy hy lo =>
  Qw ht1 hv1 (hz x) (hz y) (λe he=>hid e (by obtain rfl | rfl:=he; exact .inl rfl; exact .inr hy)) (aj hp) (by rw [cO]; rfl)
 have hsm:∀ lo,Sm E T val sm [.d (fresh.d cells),.fn c11 [.ptr p 0,.ptr h.bs.length 0]] ⟨h.bs++[.cells ((cells x).map .d)],lo⟩=some (bl (fresh.l.any λy=>key x==key y),⟨h.bs++[.cells ((cells x).map .d)],lo⟩):=λlo =>
  qX ts vs rfl rfl (rX cells ti vi ta va (h:=⟨h.bs++[.cells ((cells x).map .d)],(h.bs++[Blk.cells ((cells x).map .d)]).length⟩) (RowIs.of hz _) hs.lt λe he lo=>hcl e he lo)
 rw [aT ht hv];unfold fI;cases hg:bE gone.l (key x)<;>simp [vpcQ,aa,az,ae,aL,bu,Tr.mute,aA,aj hp,aj hr,aj hf,h1,hsx,hcon,hg,hsm,V.under]
theorem Me {α:Type}{cells:α->List D}{z c con idf:FuncId}{key:α->Int}(ht:T c=some (apacQ z con))(hv:val c=false){x:α}(hx:(cells x).length=z){gone:Sl Int}(hcon:∀ n h,Sm E T val con [.d (gone.d aR),.d (u64 n)] h=some (bl (bE gone.l n),h))(hid:∀ h,Sm E T val idf [ag (cells x)] h=some (.d (u64 (key x)),h)){p r:Nat}{h:Hp}(hr:ai h.bs r=some [.d (gone.d aR)])(hp:ai h.bs p=some [.fn idf []]) :
 Sm E T val c [ag (cells x),.ptr r 0,.ptr p 0] h=some (bl (bE gone.l (key x)),h):=by
 have hsx:=Aw hx;rw [aT ht hv];simp [apacQ,aa,az,ae,aL,bu,Tr.mute,aj hp,aj hr,hid,hsx,hcon,V.under]
def jE {α:Type}(key:α->Int)(gone:List Int)(most:Int)(l:List α):Bool:=(aX gone&&decide ((gone.length:Int)<=most))&&!l.any λx=>bE gone (key x)
theorem wV {α:Type}{cells:α->List D}{z c con clo ris slf sm any idx idf:FuncId}{key:α->Int}(ht:T c=some (aparQ ris slf clo sm))(hv:val c=true)(tc:T clo=some (apacQ z con))(vc:val clo=false)(ts:T sm=some (someQ any))(vs:val sm=false)(ta:T any=some (anyQ idx))(va:val any=false)(ti:T idx=some (idxQ z))(vi:val idx=false)
 (hz:∀ x,(cells x).length=z) {gone:Sl Int} {most:Int} (hris:∀ h,Sm E T val ris [.d (gone.d aR),.d (i64 most),.fn slf []] h=some (bl (aX gone.l&&decide ((gone.l.length:Int)<=most)),h)) (hcon:∀ n h,Sm E T val con [.d (gone.d aR),.d (u64 n)] h=some (bl (bE gone.l n),h))
 {l:Sl α} (hl:short l) (hid:∀ e∈l.l,∀ h,Sm E T val idf [ag (cells e)] h=some (.d (u64 (key e)),h)) (h:Hp) :
 Sm E T val c [.d (gone.d aR),.d (i64 most),.d (l.d cells),.fn idf []] h=some (bl (jE key gone.l most l.l),h):=by
 have hfr:frz h (.fn idf [])=some (.fn idf []):=rfl;have hpf:eX (.fn idf [])=true:=rfl;have hsm:∀ lo,Sm E T val sm [.d (l.d cells),.fn clo [.ptr 0 0,.ptr 1 0]] ⟨[.cells [.d (gone.d aR)],.cells [.fn idf []]],lo⟩=some (bl (l.l.any λx=>bE gone.l (key x)),⟨[.cells [.d (gone.d aR)],.cells [.fn idf []]],lo⟩):=λlo =>
  qX ts vs rfl rfl (rX cells ti vi ta va (h:=⟨[.cells [.d (gone.d aR)],.cells [.fn idf []]],2⟩) (RowIs.of hz _) hl.lt λe he lo=>Me tc vc (hz e) hcon (hid e he) (by simp) (by simp))
 rw [aQ ht hv];unfold jE;cases hr:(aX gone.l&&decide ((gone.l.length:Int)<=most))<;>simp [aparQ,aa,hfr,hris,hr,hsm,aA,hpf]
theorem Ey {α:Type}{cells:α->List D}{z:Nat}(hz:∀ x,(cells x).length=z){s:Sl α}(hs:s.l.length<2 ^ 62){most:Int}{f:FuncId}{g:α->Int}(hf:∀ e∈s.l,∀ h,Sm E T val f [ag (cells e)] h=some (.d (u64 (g e)),h)):∀ (m i:Nat),i+m=s.l.length->1<=i →
 Cd E T val (.loop [0,1,2,9,10] (vg z)) [(0,.d (s.d cells)),(1,.d (i64 most)),(2,.fn f []),(9,.d (i64 s.l.length)),(10,.d (i64 i))] ⟨[],0⟩ =
  if aX ((s.l.map g).drop (i-1)) then some (.exit 0,[(0,.d (s.d cells)),(1,.d (i64 most))],⟨[],0⟩) else some (.ret,[(6,bl false)],⟨[],0⟩):=by
 intro m;have key:=aF (E:=E) (T:=T) (val:=val) [0,1,2,9,10] (vg z);generalize Cd E T val (.loop [0,1,2,9,10] (vg z))=W at key ⊢
 induction m with
 | zero =>
  intro i hi h1;rw [key,pF (by simp; omega)];simp [vg,show ¬ ((i:Int)<s.l.length) from by omega]
 | succ m ih =>
  intro i hi h1;have hlt:i<s.l.length:=by omega
  have hd:=nk (l:=s.l.map g) (i:=i-1) (by simp; omega);have hs1:i-1+1=i:=by omega
  simp only [hs1,List.getElem_map] at hd;have hp1:=λh=>sZ (cells:=cells) hz hlt (kd:=.i64) (h:=h);have hp0:=λh=>sZ (cells:=cells) hz (show i-1<s.l.length by omega) (kd:=.i64) (h:=h);have c1:=hf _ (bh hlt);have c0:=hf _ (bh (show i-1<s.l.length by omega));have hw:=ay hlt hs;have hwm:wrap .i64 ((i:Int)-1)=((i-1:Nat):Int):=by rw [wrap64]<;>omega
  have hpos:0<i:=h1;have hih:=ih (i+1) (by omega) (by omega);simp only [show i+1-1=i by omega] at hih;rw [key,hd];generalize s.l[i]=y at *;generalize s.l[i-1]=x at *;have hsx:=eB (hz x);have hsy:=eB (hz y);by_cases hg:g x<g y
  . simp +decide [vg,hp1,hp0,hsx,hsy,hwm,hw,hpos,c0,c1,hlt,hg,az,ae,aL,show ¬ (g x>=g y) from by omega];simpa using hih
  . simp +decide [vg,hp1,hp0,hsx,hsy,hwm,hw,hpos,c0,c1,hlt,hg,az,ae,aL,show g x>=g y from by omega]
theorem wW {α:Type}{cells:α->List D}{z:Nat}{id:FuncId}(ht:T id=some (rsgQ z))(hv:val id=true)(hz:∀ x,(cells x).length=z){s:Sl α}(hs:s.l.length<2 ^ 62){most:Int}{f:FuncId}{g:α->Int}(hf:∀ e∈s.l,∀ h,Sm E T val f [ag (cells e)] h=some (.d (u64 (g e)),h))(h:Hp) :
 Sm E T val id [.d (s.d cells),.d (i64 most),.fn f []] h=some (bl (lu g s.l most),h):=by
 rw [aQ ht hv];unfold lu;have hfr:frz h (.fn f [])=some (.fn f []):=rfl;have key:=aF (E:=E) (T:=T) (val:=val) [0,1,2,9,10] (vg z);have hl:=Ey (E:=E) (T:=T) (val:=val) hz hs (most:=most) hf;simp [aa,rsgQ,hfr];rw [au];simp only [ou,rC];simp;generalize Cd E T val (.loop [0,1,2,9,10] (vg z))=W at key hl ⊢;by_cases h0:s.l=[]
 . rw [key];simp [vg,h0,aX,eX]
 . have hpos:0<s.l.length:=List.length_pos_iff.2 h0;have h1:=hl (s.l.length-1) 1 (by omega) (by omega);simp at h1;rw [key];have hw:=ay hpos hs;simp at hw;simp +decide [vg,az,aL,hpos,hw,h1];cases aX (s.l.map g)<;>simp [eX]
end
end
section
section
variable {E:Calls'}{T:FuncId->Option QF}{val:FuncId->Bool}
def fK {α:Type}(q:Nat->α->Bool):Nat->List α->Bool
 | _,[]=>true
 | i,x::l=>q i x&&fK q (i+1) l
theorem uh {α:Type}(q:α->Bool):∀ (l:List α) (i:Nat),fK (λ_ x=>q x) i l=l.all q
 | [],_=>rfl
 | x::l,i=>by simp [fK,uh q l]
theorem lg {keep:List Nat}{body:QC}{α:Type}(l:List α)(q:Nat->α->Bool)(env:Nat->EA)(h:Hp)(R X:Ex×EA×Hp)
 (hr:∀ i x,l[i]?=some x->i<l.length->∀ W:EA->Hp->fu,dJ keep W (Cd E T val body (bN keep (env i)) h)=cond (q i x) (W (env (i+1)) h) (some R))
 (he:∀ W:EA->Hp->fu,dJ keep W (Cd E T val body (bN keep (env l.length)) h)=some X) :
 Cd E T val (.loop keep body) (env 0) h=some (cond (fK q 0 l) X R):=by
 have:∀ (m i:Nat),i+m=l.length->Cd E T val (.loop keep body) (env i) h=some (cond (fK q i (l.drop i)) X R):=by
  intro m;have key:=aF (E:=E) (T:=T) (val:=val) keep body;generalize Cd E T val (.loop keep body)=W at key ⊢
  induction m with
  | zero =>
   intro i hi;rw [key,show i=l.length by omega,he W,List.drop_length];rfl
  | succ m ih =>
   intro i hi;have hlt:i<l.length:=by omega
   rw [key,hr i _ (ab hlt) hlt W,ih (i+1) (by omega),ap hlt,fK];cases q i l[i]<;>simp
 simpa using this l.length 0 (by omega)
theorem bR {keep:List Nat}{body:QC}{α:Type}(l:List α)(q:α->Bool)(env:Nat->EA)(h:Hp)(R X:Ex×EA×Hp)
 (hr:∀ i x,l[i]?=some x->i<l.length->∀ W:EA->Hp->fu,dJ keep W (Cd E T val body (bN keep (env i)) h)=cond (q x) (W (env (i+1)) h) (some R))
 (he:∀ W:EA->Hp->fu,dJ keep W (Cd E T val body (bN keep (env l.length)) h)=some X) :
 Cd E T val (.loop keep body) (env 0) h=some (cond (l.all q) X R):=by
 rw [lg l (λ_=>q) env h R X hr he,uh]
end
def an2:List (Nat×QF):=[(61,q35),(62,q38),(121,q89),(120,oJ),(166,BB),(167,Ep),(213,Er),(214,BC),(215,Hd),(216,Oo),(242,Hf),(243,xU),(263,Ow)]
def TX:FuncId->Option QF:=iN an2
def bW (f:FuncId):Bool:=[61,62,121,120,166,167,213,214,215,216,242,243,263].any λn=>Nat.beq n f
variable {E:Calls'}
def nz (b:UInt8):Bool:=!((!((b.toNat:Int)==45))&&(decide ((b.toNat:Int)<48)||decide ((b.toNat:Int)>57))&&(decide ((b.toNat:Int)<97)||decide ((b.toNat:Int)>122)))
theorem XP (s:ByteArray)(hs:s.size<2 ^ 62):Cd E TX bW (.loop [0,3] qJ) [(0,.d (.str s)),(3,.d (i64 ((0:Nat):Int)))] ⟨[],0⟩=some (cond (s.toList.all nz) (.exit 0,[],⟨[],0⟩) (.ret,[(2,bl false)],⟨[],0⟩)):=by
 have hsl:=gJ s;refine bR s.toList nz (λi=>[(0,.d (.str s)),(3,.d (i64 i))]) _ _ _ (λi b hb hi W=>?_) (λW=>?_)
 . have hx:=λh=>iA (h:=h) hb;have hw:=ay (show i<s.size by omega) hs;have h0:((i:Int)<s.size):=by omega
   by_cases c1:(b.toNat:Int)=45
   . simp [qJ,hx,h0,hw,nz,c1]
   . by_cases c2:(b.toNat:Int)<48<;>by_cases c3:(b.toNat:Int)>57<;>by_cases c4:(b.toNat:Int)<97<;>by_cases c5:(b.toNat:Int)>122<;>first
      | (exfalso; omega)
      | simp [qJ,hx,h0,hw,nz,c1,c2,c3,c4,c5]
 . simp [qJ,hsl]
theorem wC (n:Nat):∀ (l:List UInt8) (i:Nat),i+l.length=n->jZ n i l=(!(l.all nz)||(i==0&&l.head?==some 45)||l.getLast?==some 45)
 | [],i,_=>by simp [jZ]
 | b::l,i,h=>by
  have hb:b.toNat<256:=b.toNat_lt;have h45:(b==45)=((b.toNat:Int)==45):=by
   rw [Bool.eq_iff_iff];simp only [beq_iff_eq];constructor
   . rintro rfl; rfl
   . intro h; exact UInt8.toNat_inj.1 (show b.toNat=45 by omega)
  rw [jZ,wC n l (i+1) (by simp at h ⊢; omega)];simp only [cg] at h;cases l with
  | nil =>
   have e1:((i:Int)+1==n)=true:=by simp at h ⊢; omega
   simp only [vN,e1,nz,List.all_cons,List.all_nil,List.head?_cons,List.head?_nil,List.getLast?_singleton,List.getLast?_nil,Option.some_beq_some,h45];by_cases c1:(b.toNat:Int)=45
   . simp [c1]
   . by_cases c2:(b.toNat:Int)<48<;>by_cases c3:(b.toNat:Int)>57<;>by_cases c4:(b.toNat:Int)<97<;>by_cases c5:(b.toNat:Int)>122<;>first
      | (exfalso; omega)
      | (simp [c1,c2,c3,c4,c5]; try omega)
  | cons b' l' =>
   have e1:((i:Int)+1==n)=false:=by simp at h ⊢; omega
   have e2:(i+1==0)=false:=by simp
   have e3:((i:Int)==0)=(i==0):=by
    rw [Bool.eq_iff_iff]; simp
   rw [List.getLast?_cons_cons];simp only [vN,e1,e2,e3,nz,List.all_cons,List.head?_cons,Option.some_beq_some,h45];generalize (l'.all nz)=A;generalize ((b'::l').getLast?==some 45)=B;generalize (i==0)=I;by_cases c1:(b.toNat:Int)=45
   . cases I<;>simp [c1]
   . by_cases c2:(b.toNat:Int)<48<;>by_cases c3:(b.toNat:Int)>57<;>by_cases c4:(b.toNat:Int)<97<;>by_cases c5:(b.toNat:Int)>122<;>first
      | (exfalso; omega)
      | (simp [c1,c2,c3,c4,c5]; try omega)
theorem ay8:TX 166=some BB:=by kernel_rfl
theorem ax7:bW 166=true:=by kernel_rfl
theorem zF (s:ByteArray):iC s=(decide ((s.size:Int)>=1)&&decide ((s.size:Int)<=20)&&!(s.toList.head?==some 45)&&!(s.toList.getLast?==some 45)&&s.toList.all nz):=by
 rw [iC,wC s.size s.toList 0 (by simp [gJ])];generalize s.toList.all nz=A;generalize (s.toList.head?==some 45)=B;generalize (s.toList.getLast?==some 45)=C;generalize decide ((s.size:Int)>=1)=F;generalize decide ((s.size:Int)<=20)=G;cases A<;>cases B<;>cases C<;>cases F<;>cases G<;>rfl
theorem KP (b:UInt8):(some b==some 45)=((b.toNat:Int)==45):=by
 rw [Option.some_beq_some,Bool.eq_iff_iff];simp only [beq_iff_eq];constructor
 . rintro rfl; rfl
 . intro h; exact UInt8.toNat_inj.1 (show b.toNat=45 by omega)
theorem Yp (s:ByteArray)(hs:s.size<=big)(h:Hp):Sm E TX bW 166 [.d (.str s)] h=some (bl (iC s),h):=by
 rw [aQ ay8 ax7,zF];have hs2:s.size<2 ^ 62:=ce hs (by decide);have k1:=XP (E:=E) s hs2;have hsl:=gJ s;by_cases c1:(s.size:Int)<1
 . simp [aa,BB,c1,show ¬ ((s.size:Int)>=1) from by omega]
 by_cases c2:(s.size:Int)>20
 . simp [aa,BB,c1,c2,show ¬ ((s.size:Int)<=20) from by omega]
 have h0:s.toList≠[]:=by intro h; rw [h] at hsl; simp at hsl; omega
 obtain ⟨b0,hb0⟩:∃ b,s.toList.head?=some b:=by
  cases hc:s.toList with
  | nil=>exact absurd hc h0
  | cons b l=>exact ⟨b,rfl⟩
 obtain ⟨b1,hb1⟩:∃ b,s.toList.getLast?=some b:=⟨_,List.getLast?_eq_some_getLast h0⟩;have hx0:∀ h,sK (.d (.str s)) (.d (i64 0)) h=some (.d (.int .u8 b0.toNat),h):=λh=>iA (k:=0) (by rw [← List.head?_eq_getElem?]; exact hb0);have hx1:∀ h,sK (.d (.str s)) (.d (i64 ((s.size:Int)-1))) h=some (.d (.int .u8 b1.toNat),h):=λh=>by
  have:=iA (k:=s.size-1) (h:=h) (by rw [← hsl,← List.getLast?_eq_getElem?]; exact hb1)
  rwa [show ((s.size-1:Nat):Int)=(s.size:Int)-1 by omega] at this
 have hw:wrap .i64 ((s.size:Int)-1)=(s.size:Int)-1:=by rw [wrap64]<;>omega
 rw [hb0,hb1,KP,KP];by_cases c3:(b0.toNat:Int)=45
 . simp [aa,BB,c1,c2,c3,hx0,hw]
 by_cases c4:(b1.toNat:Int)=45
 . simp [aa,BB,c1,c2,c3,c4,hx0,hx1,hw]
 simp at k1;simp [aa,BB,c1,c2,c3,c4,hx0,hx1,hw];rw [au];simp [k1];cases s.toList.all nz<;>simp [show ((s.size:Int)>=1) from by omega,show ((s.size:Int)<=20) from by omega]
theorem vB:∀ l:List UInt8,jK l=!(l.all λb=>!nV b)
 | []=>rfl
 | b::l=>by
  rw [jK,vB l,List.all_cons];cases nV b<;>simp
theorem XZ (t:Term)(ht:t.text.size<2 ^ 62):Cd E TX bW (.loop [1,3] lY) [(1,.ptr 0 0),(3,.d (i64 ((0:Nat):Int)))] ⟨[.cells (t.c.map .d)],0⟩=some (cond (t.text.toList.all λb=>!nV b) (.exit 0,[],⟨[.cells (t.c.map .d)],0⟩) (.ret,[(2,bl false)],⟨[.cells (t.c.map .d)],0⟩)):=by
 have hsl:=gJ t.text;refine bR t.text.toList (λb=>!nV b) (λi=>[(1,.ptr 0 0),(3,.d (i64 i))]) _ _ _ (λi b hb hi W=>?_) (λW=>?_)
 . have hx:=λh=>iA (h:=h) hb;have hw:=ay (show i<t.text.size by omega) ht;have h0:((i:Int)<t.text.size):=by omega
   by_cases c1:(b.toNat:Int)<33
   . simp [lY,hx,h0,hw,nV,c1]
   by_cases c2:(b.toNat:Int)>126
   . simp [lY,hx,h0,hw,nV,c1,c2]
   by_cases c3:(b.toNat:Int)=42
   . simp [lY,hx,h0,hw,nV,c1,c2,c3]
   by_cases c4:(b.toNat:Int)=44<;>simp [lY,hx,h0,hw,nV,c1,c2,c3,c4]
 . simp [lY,hsl]
theorem az5:TX 243=some xU:=by kernel_rfl
theorem ay4:bW 243=true:=by kernel_rfl
theorem MJ (s:ByteArray):eqS s ⟨#[]⟩=((s.size:Int)==0):=by
 have hsl:=gJ s;have h0:(⟨#[]⟩:ByteArray).toList=[]:=by rw [bO]
 rw [eqS,h0,Bool.eq_iff_iff];simp only [beq_iff_eq];constructor
 . intro h; rw [h] at hsl; simp at hsl; omega
 . intro h; exact List.length_eq_zero_iff.1 (by omega)
theorem YL (t:Term)(ht:t.text.size<=big)(h:Hp):Sm E TX bW 243 [ag t.c] h=some (bl (fQ t),h):=by
 rw [aQ az5 ay4,fQ,vB,MJ];have k1:=XZ (E:=E) t (ce ht (by decide));have hsl:=gJ t.text;simp at k1;obtain ⟨n,hn⟩:∃ n,(t.text.size:Int)=n:=⟨_,rfl⟩;rw [hn];by_cases c0:t.kind=4
 . by_cases c1:n=0
   . have:t.text.toList=[]:=List.length_eq_zero_iff.1 (by omega);simp [aa,xU,hn,c0,c1,this]
   . simp [aa,xU,hn,c0,c1]
 by_cases c1:t.kind<1
 . simp [aa,xU,hn,c0,c1,show ¬ (1<=t.kind) from by omega]
 by_cases c2:t.kind>3
 . simp [aa,xU,hn,c0,c1,c2,show ¬ (t.kind<=3) from by omega]
 by_cases c3:n=0
 . simp [aa,xU,hn,c0,c1,c2,c3]
 by_cases c4:n>64
 . simp [aa,xU,hn,c0,c1,c2,c3,c4,show ¬ (n<=64) from by omega]
 simp [aa,xU,hn,c0,c1,c2,c3,c4];rw [au];simp [k1];cases (t.text.toList.all λb=>!nV b)<;>simp [show (1<=t.kind) from by omega,show t.kind<=3 from by omega,show (n>=1) from by omega,show (n<=64) from by omega]
theorem XW (s:Sl Term)(hs:short s)(ht:∀ t∈s.l,t.text.size<=big):Cd E TX bW (.loop [0,3] tO) [(0,.d (s.d Term.c)),(3,.d (i64 ((0:Nat):Int)))] ⟨[],0⟩=some (cond (s.l.all fQ) (.exit 0,[(0,.d (s.d Term.c))],⟨[],0⟩) (.ret,[(2,bl false)],⟨[],0⟩)):=by
 refine bR s.l fQ (λi=>[(0,.d (s.d Term.c)),(3,.d (i64 i))]) _ _ _ (λi t hb hi W=>?_) (λW=>?_)
 . have hx:=λh=>av (z:=2) h hb (cells:=Term.c) rfl;have hw:=ay hi hs.lt;have h0:((i:Int)<s.l.length):=by omega
   have hc:=λh=>YL (E:=E) t (ht t (cb hb)) h;cases hm:fQ t<;>simp [tO,hx,h0,hw,hc,hm]
 . simp [tO]
theorem az3:TX 216=some Oo:=by kernel_rfl
theorem ay2:bW 216=true:=by kernel_rfl
theorem Dp (s:Sl Term)(hs:short s)(ht:∀ t∈s.l,t.text.size<=big)(h:Hp):Sm E TX bW 216 [.d (s.d Term.c)] h=some (bl (aZ s),h):=by
 rw [aQ az3 ay2,aZ];have k1:=XW (E:=E) s hs ht;simp at k1;simp [aa,Oo];rw [au];simp [k1];cases s.l.all fQ<;>simp
end
section
variable {E:Calls'}
def vI (a n:Nat):Bool:=a / 2 ^ (31-n) % 2==1
theorem wP (a:Nat)(h:a<4294967296):wrap .u32 (a:Int)=a:=by simp [wrap,IntKind.bits,IntKind.signed]; omega
theorem af6 (a:Nat)(h:a<4294967296):dW .quo (.d (.int .u32 (a:Int))) (.d (.int .u32 2))=some (.int .u32 ((a / 2:Nat):Int)):=by
 have:(a:Int).tdiv 2=((a / 2:Nat):Int):=by
  rw [Int.tdiv_eq_ediv_of_nonneg (by omega)]; omega
 simp only [dW,fZ,if_true];rw [if_neg (by decide),this,wP _ (by omega)]
theorem af8 (a:Nat):dW .rem (.d (.int .u32 (a:Int))) (.d (.int .u32 2))=some (.int .u32 ((a % 2:Nat):Int)):=by
 have:(a:Int).tmod 2=((a % 2:Nat):Int):=by
  rw [Int.tmod_eq_emod_of_nonneg (by omega)]; omega
 simp only [dW,fZ,if_true];rw [if_neg (by decide),this]
theorem X0:∀ (m a:Nat),m<=31->a<4294967296->Cd E TX bW (.loop [0,5] nT) [(0,.d (u32 (a:Int))),(5,.d (i64 ((31-m:Nat):Int)))] ⟨[],0⟩=some (.exit 0,[(0,.d (u32 ((a / 2 ^ m:Nat):Int)))],⟨[],0⟩):=by
 intro m;have key:=aF (E:=E) (T:=TX) (val:=bW) [0,5] nT;generalize Cd E TX bW (.loop [0,5] nT)=W at key ⊢
 induction m with
 | zero =>
  intro a _ _;rw [key];simp [nT]
 | succ m ih =>
  intro a hm ha;have hlt:((31-(m+1):Nat):Int)<31:=by omega
  have hw:wrap .i64 (((31-(m+1):Nat):Int)+1)=((31-m:Nat):Int):=by rw [wrap64]<;>omega
  have hq:=af6 a ha;have k:=ih (a / 2) (by omega) (by omega);rw [Nat.div_div_eq_div_mul,show 2 * 2 ^ m=2 ^ (m+1) by rw [Nat.pow_succ]; omega] at k;rw [key,← k];generalize ((31-(m+1):Nat):Int)=j at *;generalize ((a / 2:Nat):Int)=a2 at *;simp [nT,hlt,hq,hw]
theorem az6:TX 263=some Ow:=by kernel_rfl
theorem ay5:bW 263=true:=by kernel_rfl
theorem YQ (a n:Nat)(ha:a<4294967296)(hn:n<=31)(h:Hp):Sm E TX bW 263 [.d (u32 (a:Int)),.d (i64 (n:Int))] h=some (bl (vI a n),h):=by
 have k:=X0 (E:=E) (31-n) a (by omega) ha;rw [show 31-(31-n)=n by omega] at k;have hr:=af8 (a / 2 ^ (31-n));rw [aQ az6 ay5];have he:((((a / 2 ^ (31-n) % 2:Nat):Int)==1))=vI a n:=by
  unfold vI;rw [Bool.eq_iff_iff];simp only [beq_iff_eq];omega
 generalize ((a / 2 ^ (31-n) % 2:Nat):Int)=y at *;generalize ((a / 2 ^ (31-n):Nat):Int)=z at *;simp [aa,Ow];rw [au];simp [k,hr,he]
theorem wD:∀ n,n<33->∀ i,i<32->(BitVec.ofInt 32 (qg (n:Nat))).getLsbD i=decide (32-n<=i):=by decide +kernel
theorem Dv (a:Nat)(ha:a<4294967296)(n:Nat)(hn:n<=32):(pQ .u32 (a:Int) (qg (n:Nat))==0)=(List.range (32-n)).all λj=>!vI a (n+j):=by
 rw [pQ,wP _ (BitVec.isLt _),Bool.eq_iff_iff];simp only [beq_iff_eq,cj,List.mem_range,Bool.not_eq_true'];have hb:∀ i,i<32->(BitVec.ofInt 32 (a:Int)).getLsbD i=a.testBit i:=λi hi=>by
  rw [BitVec.ofInt_natCast,BitVec.getLsbD_ofNat]; simp [hi]
 have hbit:∀ j,n+j<=31->vI a (n+j)=a.testBit (31-(n+j)):=λj hj=>by
  rw [vI,Nat.testBit_eq_decide_div_mod_eq,Bool.eq_iff_iff]; simp
 constructor
 . intro h j hj;have h0:(BitVec.ofInt 32 (a:Int) &&& ~~~ BitVec.ofInt 32 (qg (n:Nat)))=0#32:=BitVec.eq_of_toNat_eq (by
    have h':(BitVec.ofInt 32 (a:Int) &&& ~~~ BitVec.ofInt 32 (qg (n:Nat))).toNat=0:=by exact_mod_cast h
    rw [h']; rfl)
   have h1:=congrArg (λx=>BitVec.getLsbD x (31-(n+j))) h0;simp only [BitVec.getLsbD_and,BitVec.getLsbD_not,BitVec.getLsbD_zero,wD n (by omega) _ (show 31-(n+j)<32 by omega),hb _ (show 31-(n+j)<32 by omega)] at h1;rw [hbit j (by omega)];have e1:decide (31-(n+j)<32)=true:=by simp; omega
   have e2:decide (32-n<=31-(n+j))=false:=by simp; omega
   rw [e1,e2] at h1;simpa using h1
 . intro h;have:(BitVec.ofInt 32 (a:Int) &&& ~~~ BitVec.ofInt 32 (qg (n:Nat)))=0#32:=by
    apply BitVec.eq_of_getLsbD_eq;intro i hi;simp only [BitVec.getLsbD_and,BitVec.getLsbD_not,BitVec.getLsbD_zero,wD n (by omega) _ hi,hb _ hi];by_cases hin:32-n<=i
    . simp [hin]
    . have h2:=h (31-n-i) (by omega);rw [hbit _ (by omega),show 31-(n+(31-n-i))=i by omega] at h2;simp [h2]
   show ((BitVec.ofInt 32 (a:Int) &&& ~~~ BitVec.ofInt 32 (qg (n:Nat))).toNat:Int)=0;rw [this]; rfl
theorem XY (a n:Nat)(ha:a<4294967296)(hn:n<=32):Cd E TX bW (.loop [1,3] tQ) [(1,.ptr 0 0),(3,.d (i64 ((n+0:Nat):Int)))] ⟨[.cells [.d (u32 (a:Int)),.d (i64 (n:Int))]],0⟩=some (cond ((List.range (32-n)).all λj=>!vI a (n+j)) (.exit 0,[],⟨[.cells [.d (u32 (a:Int)),.d (i64 (n:Int))]],0⟩) (.ret,[(2,bl false)],⟨[.cells [.d (u32 (a:Int)),.d (i64 (n:Int))]],0⟩)):=by
 refine bR (List.range (32-n)) (λj=>!vI a (n+j)) (λi=>[(1,.ptr 0 0),(3,.d (i64 ((n+i:Nat):Int)))]) _ _ _ (λi x hx hi W=>?_) (λW=>?_)
 . have hi':i<32-n:=by simpa using hi
   have hx':x=i:=by rw [List.getElem?_range hi'] at hx; exact (co hx).symm
   subst hx';have hw:wrap .i64 (((n+x:Nat):Int)+1)=((n+(x+1):Nat):Int):=by rw [wrap64]<;>omega
   have h0:((n+x:Nat):Int)<32:=by omega
   have hc:=λh=>YQ (E:=E) a (n+x) ha (by omega) h;generalize ((n+x:Nat):Int)=j at *;cases hm:vI a (n+x)<;>simp [tQ,h0,hw,hc,hm]
 . have:¬ ((n+(List.range (32-n)).length:Nat):Int)<32:=by simp; omega
   generalize ((n+(List.range (32-n)).length:Nat):Int)=j at *;simp [tQ,this]
theorem az4:TX 242=some Hf:=by kernel_rfl
theorem ay3:bW 242=true:=by kernel_rfl
theorem Je {n:Int}(h:Inr .u32 n):0<=n/\n<4294967296:=by
 simp [Inr,Lit.wf,IntKind.min,IntKind.max,IntKind.bits,IntKind.signed] at h;omega
theorem YK (c:Cidr)(hc:Inr .u32 c.addr)(h:Hp):Sm E TX bW 242 [ag c.c] h=some (bl (ig c),h):=by
 obtain ⟨a0,a1⟩:=Je hc;obtain ⟨addr,bits⟩:=c;dsimp only at a0 a1;obtain ⟨a,rfl⟩:=Int.eq_ofNat_of_zero_le a0;rw [aQ az4 ay3,ig];dsimp only;by_cases c1:bits<0
 . simp [aa,Hf,c1,Cidr.c,show ¬ (bits>=0) from by omega]
 by_cases c2:bits>32
 . simp [aa,Hf,c1,c2,Cidr.c,show ¬ (bits<=32) from by omega]
 obtain ⟨n,rfl⟩:=Int.eq_ofNat_of_zero_le (show 0<=bits by omega);have k:=XY (E:=E) a n (by omega) (by omega);rw [Dv a (by omega) n (by omega)];rw [Nat.add_zero] at k;simp [aa,Hf,c1,c2,Cidr.c,show ((n:Int)<=32) from by omega];rw [au];generalize ((List.range (32-n)).all λj=>!vI a (n+j))=A at *;simp [k];cases A<;>simp
def moreL:List UInt8:=[33,35,36,37,38,39,42,43,45,46,94,95,96,124,126]
def hdB (b:UInt8):Bool:=(decide ((b.toNat:Int)>=97)&&decide ((b.toNat:Int)<=122))||(decide ((b.toNat:Int)>=48)&&decide ((b.toNat:Int)<=57))
def hdA (b:UInt8):Bool:=hdB b||moreL.any λc=>(b.toNat:Int)==c.toNat
theorem Jo {k:Nat}{c:UInt8}(hk:moreL[k]?=some c)(h:Hp):sK (.d (.str ⟨#[33,35,36,37,38,39,42,43,45,46,94,95,96,124,126]⟩)) (.d (.int .i64 k)) h=some (.d (.int .u8 c.toNat),h) :=
 iA (by rw [← hk,bO]; rfl)
theorem XV (s:ByteArray)(j:Nat)(b:UInt8)(hb:s.toList[j]?=some b):∀ (m i:Nat) (g:Bool),i+m=15 →
 Cd E TX bW (.loop [0,3,4,5] nS) [(0,.d (.str s)),(3,.d (i64 j)),(4,bl g),(5,.d (i64 i))] ⟨[],0⟩=some (.exit 2,[(0,.d (.str s)),(3,.d (i64 j)),(4,bl (g||(moreL.drop i).any λc=>(b.toNat:Int)==c.toNat))],⟨[],0⟩):=by
 intro m;have key:=aF (E:=E) (T:=TX) (val:=bW) [0,3,4,5] nS;generalize Cd E TX bW (.loop [0,3,4,5] nS)=W at key ⊢;have hx:=λh=>iA (h:=h) hb
 induction m with
 | zero =>
  intro i g hi;have:i=15:=by omega
  subst this;rw [key];simp [nS,moreL]
 | succ m ih =>
  intro i g hi;have hlt:i<moreL.length:=by simp [moreL]; omega
  have h0:((i:Int)<15):=by omega
  have hw:wrap .i64 ((i:Int)+1)=((i+1:Nat):Int):=by rw [wrap64]<;>omega
  have hc:=Jo (ab hlt);rw [key,ap hlt,List.any_cons];generalize moreL[i]=c at *;have k1:=ih (i+1) (g||((b.toNat:Int)==c.toNat)) (by omega);rw [Bool.or_assoc] at k1;rw [← k1];cases g<;>simp [nS,h0,hw,hx,hc]
theorem X7 (s:ByteArray)(hs:s.size<2 ^ 62):Cd E TX bW (.loop [0,3] tN) [(0,.d (.str s)),(3,.d (i64 ((0:Nat):Int)))] ⟨[],0⟩=some (cond (s.toList.all hdA) (.exit 0,[],⟨[],0⟩) (.ret,[(2,bl false)],⟨[],0⟩)):=by
 have hsl:=gJ s;refine bR s.toList hdA (λi=>[(0,.d (.str s)),(3,.d (i64 i))]) _ _ _ (λi b hb hi W=>?_) (λW=>?_)
 . have hx:=λh=>iA (h:=h) hb;have hw:=ay (show i<s.size by omega) hs;have h0:((i:Int)<s.size):=by omega
   have k:=XV (E:=E) s i b hb 15 0 (hdB b) (by omega);simp only [List.drop_zero] at k;have hk:(hdB b||moreL.any λc=>(b.toNat:Int)==c.toNat)=hdA b:=rfl;rw [hk] at k;generalize hdA b=G at *;unfold hdB at k;simp only [Int.natCast_zero] at k;by_cases c1:(b.toNat:Int)>=97<;>by_cases c2:(b.toNat:Int)<=122<;>by_cases c3:(b.toNat:Int)>=48<;>by_cases c4:(b.toNat:Int)<=57<;>first
    | (exfalso; omega)
    | (simp [c1,c2,c3,c4] at k
       simp [tN,hx,h0,hw,c1,c2,c3,c4];rw [au];simp [k];cases G<;>simp [hw])
 . simp [tN,hsl]
theorem Jc:∀ n,n<256->(Ca (UInt8.ofNat n)==0)=!hdA (UInt8.ofNat n):=by decide +kernel
theorem KJ (b:UInt8):(Ca b==0)=!hdA b:=by
 have:=Jc b.toNat b.toNat_lt;simpa using this
theorem sM:∀ l:List UInt8,jO l=!(l.all hdA)
 | []=>rfl
 | b::l=>by
  rw [jO,sM l,KJ,List.all_cons];cases hdA b<;>simp
theorem az2:TX 215=some Hd:=by kernel_rfl
theorem ay1:bW 215=true:=by kernel_rfl
theorem YG (s:ByteArray)(hs:s.size<=big)(h:Hp):Sm E TX bW 215 [.d (.str s)] h=some (bl (jN s),h):=by
 rw [aQ az2 ay1,jN,sM];have k1:=X7 (E:=E) s (ce hs (by decide));simp at k1;by_cases c1:(s.size:Int)<1
 . simp [aa,Hd,c1,show ¬ ((s.size:Int)>=1) from by omega]
 by_cases c2:(s.size:Int)>64
 . simp [aa,Hd,c1,c2,show ¬ ((s.size:Int)<=64) from by omega]
 simp [aa,Hd,c1,c2];rw [au];simp [k1];cases s.toList.all hdA<;>simp [show ((s.size:Int)>=1) from by omega,show ((s.size:Int)<=64) from by omega]
end
