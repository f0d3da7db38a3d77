/- config.without, config.with: at any width. -/
import Derived.Test.YtmcchclfpneglaaGreatCp
set_option maxRecDepth 100000
set_option linter.unusedVariables false
set_option linter.unusedSimpArgs false
namespace Go.Proofs.YtmcchclfpneglaaGreat
open IntKind (wrap)
section
section
variable {E:Calls'}{T:FuncId->Option QF}{val:FuncId->Bool}
theorem yF {n b o m z:Nat}{cap:Option Nat}{l:List V}(hb:n<=b):¬ V.under n (.tup (.row b o m cap z::l))=true:=by
 simp [V.under,V.under.go];omega
end
end
section
section
variable {E:Calls'}{T:FuncId->Option QF}{val:FuncId->Bool}
theorem CJ {pr:List (List Nat)}{l:List Tr}(k:Nat)(hk:(List.range l.length).all (fun j=>j==k||(pr.getD k []).contains j||(pr.getD j []).contains k)=true)(hm:(l.take k++l.drop (k+1)).all Tr.mute=true):aT pr l=true:=by
 rw [ch] at hk hm;have hmm:∀ j,j<l.length->j≠k->∃ t,l[j]?=some t/\t.mute=true:=by
  intro j hj hjk;refine ⟨l[j],by simp [hj],hm _ ?_⟩;rw [List.mem_append];rcases Nat.lt_or_gt_of_ne hjk with h | h
  · left;rw [List.mem_take_iff_getElem];exact ⟨j,by omega,rfl⟩
  · right;rw [List.mem_drop_iff_getElem];exact ⟨j-(k+1),by omega,by congr 1; omega⟩
 unfold aT;simp only [ch,List.mem_range];intro i hi j hj;by_cases hij:i=j
 · simp [hij]
 by_cases hik:i=k
 · subst hik;have:=hk j (by simpa using hj);simp only [Bool.or_eq_true,beq_iff_eq] at this ⊢;rcases this with (h | h) | h
   · exact absurd h.symm hij
   · exact .inl (.inl (.inr h))
   · exact .inl (.inr h)
 by_cases hjk:j=k
 · subst hjk;have:=hk i (by simpa using hi);simp only [Bool.or_eq_true,beq_iff_eq] at this ⊢;rcases this with (h | h) | h
   · exact absurd h hij
   · exact .inl (.inr h)
   · exact .inl (.inl (.inr h))
 obtain ⟨s,hs,ms⟩:=hmm i hi hik;obtain ⟨t,ht,mt⟩:=hmm j hj hjk;simp only [Tr.mute,aq,Bool.not_eq_true',List.isEmpty_iff,beq_iff_eq] at ms mt;have:s.spares t=true:=by
  unfold Tr.spares;rw [ms.1.1,mt.1.1,ms.1.2,ms.2];cases t.call<;>simp
 simp [hs,ht,this]
def dE {α:Type}(key:α->Int)(x:α)(l:List α):List α:=((l.filter fun e=>!(key e==key x))++[x]).mergeSort fun a b=>decide (key a<=key b)
end
end
section
section
variable {E:Calls'}{T:FuncId->Option QF}{val:FuncId->Bool}
theorem Fw {ev:X->V}{zero xs:List V}{z:Nat}{x:X}(h0:zero.length=z)(hx:xs.length=z)(he:ev x=.agg xs):aH ev zero [(0,z,x)]=some xs:=by
 simp [aH,he,V.cells,hx,put,h0]
end
end
section
def ML:List V:=[(.d (.int .u64 0)),(.d (.str ⟨#[]⟩)),(.d (.int .u32 0)),(.d (.int .i64 0)),(.d (.int .u64 0))]
def M0:List V:=[(.d (.int .u64 0)),(.d (.int .i64 0))]
def K6:List V:=[(.d (.int .u64 0)),(.d (.str ⟨#[]⟩)),(.d (.int .u64 0)),(.d (.int .i64 0)),(.d (.slice true []))]
def yz:SF:=⟨7,0,148,50⟩
def yB:SF:=⟨5,0,101,53⟩
def yC:SF:=⟨2,0,108,60⟩
def yA:SF:=⟨5,0,113,65⟩
def EW:Calls':=fun f args h=>match Nat.beq f 147,Nat.beq f 100,Nat.beq f 107,Nat.beq f 112 with
 | true,_,_,_=>fB yz args h
 | _,true,_,_=>fB yB args h
 | _,_,true,_=>fB yC args h
 | _,_,_,true=>fB yA args h
 | _,_,_,_=>none
def am7:List (Nat×QF):=[(97,Pz),(52,Pb),(59,Pg),(64,Ut),(49,O9),(58,Pf),(63,Ph),(66,Uu),(98,PD),(106,Uw),(111,PE),(115,Ux),(42,Gj),(44,Gl),(45,Gm),(46,Gn),(41,O5),(105,Px),(110,Py),(114,Uv),(34,Ja),(36,Jb),(39,Jd),(152,Jf),(50,BI),(53,BJ),(60,BK),(65,Dl)]
def TW:FuncId->Option QF:=kz am7
def bc5 (f:FuncId):Bool:=[97,52,59,64].any fun n=>Nat.beq n f
end
section
structure Edt where
 kind:Int
 id:Int
 pod:Pod
 svc:Svc
 way:Way
 pol:Pol
def Edt.c (e:Edt):List D:=[i64 e.kind,u64 e.id]++e.pod.c++e.svc.c++e.way.c++e.pol.c
@[simp] theorem Edt.len {x:Edt}:x.c.length=21:=(rfl)
@[simp] theorem Edt.all {x:Edt}:sub x.c 0 21=some x.c:=(rfl)
@[simp] theorem Edt.s0_1 {x:Edt}:sub x.c 0 1=some [i64 x.kind]:=(rfl)
@[simp] theorem Edt.s1_1 {x:Edt}:sub x.c 1 1=some [u64 x.id]:=(rfl)
@[simp] theorem Edt.s2_7 {x:Edt}:sub x.c 2 7=some x.pod.c:=(rfl)
@[simp] theorem Edt.s9_5 {x:Edt}:sub x.c 9 5=some x.svc.c:=(rfl)
@[simp] theorem Edt.s14_2 {x:Edt}:sub x.c 14 2=some x.way.c:=(rfl)
@[simp] theorem Edt.s16_5 {x:Edt}:sub x.c 16 5=some x.pol.c:=(rfl)
@[simp] theorem Edt.s5_1 {x:Edt}:sub x.c 5 1=some [i64 x.pod.host]:=(rfl)
@[simp] theorem Edt.s6_1 {x:Edt}:sub x.c 6 1=some [u32 x.pod.addr]:=(rfl)
theorem Cfg.p0 {x:Cfg}{n:Int}:put (x.c.map V.d) 0 [.d (u64 n)]=some (({ x with epoch:=n }:Cfg).c.map V.d):=(rfl)
theorem Cfg.p1 {x:Cfg}{n:Int}:put (x.c.map V.d) 1 [.d (u64 n)]=some (({ x with next:=n }:Cfg).c.map V.d):=(rfl)
theorem Cfg.p4 {x:Cfg}{s:Sl Pod}:put (x.c.map V.d) 4 [.d (s.d Pod.c)]=some (({ x with pods:=s }:Cfg).c.map V.d):=(rfl)
theorem Cfg.p5 {x:Cfg}{s:Sl Svc}:put (x.c.map V.d) 5 [.d (s.d Svc.c)]=some (({ x with services:=s }:Cfg).c.map V.d):=(rfl)
theorem Cfg.p6 {x:Cfg}{s:Sl Way}:put (x.c.map V.d) 6 [.d (s.d Way.c)]=some (({ x with bound:=s }:Cfg).c.map V.d):=(rfl)
theorem Pod.p0 {x:Pod}{n:Int}:put (x.c.map V.d) 0 [.d (u64 n)]=some (({ x with uid:=n }:Pod).c.map V.d):=(rfl)
theorem Pod.p3 {x:Pod}{n:Int}:put (x.c.map V.d) 3 [.d (i64 n)]=some (({ x with host:=n }:Pod).c.map V.d):=(rfl)
theorem Pod.p4 {x:Pod}{n:Int}:put (x.c.map V.d) 4 [.d (u32 n)]=some (({ x with addr:=n }:Pod).c.map V.d):=(rfl)
section
variable {E:Calls'}
def outT {α:Type}(key:α->Int)(n:Int)(s:Sl α):Sl α:=⟨s.nl,s.l.filter fun e=>!(key e==n)⟩
def jG {α:Type}(key:α->Int)(n:Int)(s:Sl α):Bool:=decide ((s.l.filter fun e=>!(key e==n)).length<s.l.length)
end
end
section
def M8 (E:Calls'):Prop:=∀ f,f=97\/f=52\/f=59\/f=64->∀ args h,E f args h=Sm EW TW bc5 f args h
section
variable {E:Calls'}(hE:M8 E)
include hE
def Ae (c:Cfg)(p:Pod):Cfg:={ c with next:=wrap .u64 (c.next+1),pods:=⟨false,dE Pod.uid { p with uid:=c.next } c.pods.l⟩ }
def Open (c:Cfg):Prop:=c.pods.l.length<big/\(c.pods.l.map Pod.uid).Nodup/\c.services.l.length<big/\(c.services.l.map Svc.id).Nodup/\c.bound.l.length<big/\(c.bound.l.map Way.id).Nodup/\c.policies.l.length<big/\(c.policies.l.map Pol.id).Nodup
end
end
section
def bK (c:Cfg)(e:Edt):Cfg×Int :=
 if e.kind=1 then (Ae c e.pod,0)
 else if e.kind=2 then ({ c with pods:=outT Pod.uid e.id c.pods },if jG Pod.uid e.id c.pods then 0 else 4)
 else if e.kind=3 then match c.pods.l.find? (fun p=>p.uid==e.id) with
  | some p=>(Ae { c with pods:=outT Pod.uid e.id c.pods } { p with host:=e.pod.host,addr:=e.pod.addr },0)
  | none=>(c,4)
 else if e.kind=4 then ({ c with services:=⟨false,dE Svc.id e.svc c.services.l⟩ },0)
 else if e.kind=5 then ({ c with services:=outT Svc.id e.id c.services },if jG Svc.id e.id c.services then (if (c.pods.l.any fun p=>p.service==e.id)||(c.policies.l.any fun p=>p.service==e.id) then 5 else 0) else 4)
 else if e.kind=6 then ({ c with bound:=⟨false,dE Way.id e.way c.bound.l⟩ },0)
 else if e.kind=7 then ({ c with bound:=outT Way.id e.id c.bound },if jG Way.id e.id c.bound then (if (c.services.l.any fun p=>p.way==e.id) then 5 else 0) else 4)
 else if e.kind=8 then ({ c with policies:=⟨false,dE Pol.id e.pol.own c.policies.l⟩ },0)
 else if e.kind=9 then ({ c with policies:=outT Pol.id e.id c.policies },if jG Pol.id e.id c.policies then 0 else 4)
 else (c,1)
end
section
noncomputable def EO:Calls':=fun f args h=>Sm (fun _ _ _=>none) TT aj f args h
def am2:List (Nat×QF):=[(21,q90),(42,Gj),(44,Gl),(45,Gm),(46,Gn)]
def TO:FuncId->Option QF:=kz am2
def bc4 (f:FuncId):Bool:=[21,42,44,45].any fun n=>Nat.beq n f
def Cfg.own (c:Cfg):Cfg:={ c with policies:=⟨c.policies.nl,c.policies.l.map Pol.own⟩ }
end
section
theorem sQ {α:Type}{B:Nat}{l:List α}(h:l.length<=B):fit B ⟨l.isEmpty,l⟩:=⟨h,fun hh=>by simpa using hh⟩
theorem Rule.own_wf {B:Nat}{r:Rule}(h:r.wf B):r.own.wf B:=⟨⟨sQ h.1.1.1,h.1.2⟩,⟨sQ h.2.1.1.1,h.2.1.2⟩,⟨sQ h.2.2.1.1,h.2.2.2⟩⟩
theorem Pol.own_wf {B:Nat}{p:Pol}(h:p.wf B):p.own.wf B:=by
 refine ⟨h.1,h.2.1,h.2.2.1,h.2.2.2.1,⟨?_,fun hh=>by simpa [Pol.own] using hh⟩,fun x hx=>?_⟩
 · simp only [Pol.own,bx]; exact h.2.2.2.2.1.1
 · obtain ⟨r,hr,rfl⟩:=b9.1 hx;exact Rule.own_wf (h.2.2.2.2.2 r hr)
theorem Cfg.own_wf {B:Nat}{c:Cfg}(h:c.wf B):c.own.wf B:=by
 obtain ⟨h1,h2,h3,h4,h5,h6,h7,h8⟩:=h;refine ⟨h1,h2,h3,h4,h5,h6,h7,⟨?_,fun hh=>?_⟩,fun x hx=>?_⟩
 · simp only [Cfg.own,bx]; exact h8.1.1
 · simp only [Cfg.own] at hh ⊢; rw [h8.1.2 hh]; rfl
 · obtain ⟨p,hp,rfl⟩:=b9.1 hx;exact Pol.own_wf (h8.2 p hp)
theorem BH {α:Type}{key:α->Int}{x y:α}{l:List α}(h:y∈dE key x l):y=x\/y∈l/\key y≠key x:=by
 have:=(List.mergeSort_perm _ _).mem_iff.1 h;simp only [List.mem_append,List.mem_filter,List.mem_singleton] at this;rcases this with ⟨a,b⟩ | h
 · exact .inr ⟨a,by simpa using b⟩
 · exact .inl h
theorem I6 {α:Type}{key:α->Int}{x:α}{l:List α}:(dE key x l).length<=l.length+1:=by
 unfold dE;rw [List.length_mergeSort,ap];have:=List.length_filter_le (fun e=>!(key e==key x)) l;simp only [List.length_singleton]; omega
theorem zy {α:Type}{B:Nat}{f:Nat->α->Prop}{key:α->Int}{x:α}{s:Sl α}(h:s.wf B f)(hx:f B x)(hl:s.l.length+1<=B):(⟨false,dE key x s.l⟩:Sl α).wf B f :=
 ⟨⟨ce I6 hl,fun h=>by cases h⟩,fun y hy=>by rcases BH hy with rfl | h'; exact hx; exact h.2 y h'.1⟩
theorem zm {α:Type}{B:Nat}{f:Nat->α->Prop}{key:α->Int}{n:Int}{s:Sl α}(h:s.wf B f):(outT key n s).wf B f :=
 ⟨⟨ce (List.length_filter_le _ _) h.1.1,fun hn=>by have:=h.1.2 hn; simp [outT,this]⟩,fun y hy=>h.2 y (List.mem_filter.1 hy).1⟩
def Edt.wf (B:Nat)(e:Edt):Prop:=Inr .i64 e.kind/\Inr .u64 e.id/\e.pod.wf B/\e.svc.wf B/\e.way.wf B/\e.pol.wf B
theorem lX (n:Int):Inr .u64 (wrap .u64 n):=by
 have h1:=Int.emod_nonneg n (show (2:Int) ^ 64≠0 by decide);have h2:=Int.emod_lt_of_pos n (show (0:Int)<2 ^ 64 by decide);simp only [Inr,wrap,IntKind.bits,IntKind.signed,Bool.false_and,bm,if_false];simp [Lit.wf,IntKind.min,IntKind.max,IntKind.bits,IntKind.signed] at *;omega
theorem Eh {B:Nat}{c:Cfg}{p:Pod}(h:c.wf B)(hp:p.wf B)(hl:c.pods.l.length+1<=B):(Ae c p).wf B :=
 ⟨h.1,lX _,h.2.2.1,h.2.2.2.1,zy h.2.2.2.2.1 ⟨h.2.1,hp.2⟩ hl,h.2.2.2.2.2⟩
theorem oQ {c:Cfg}(h:bT c=true):c.pods.l.length<=16/\c.services.l.length<=6/\c.bound.l.length<=4/\c.policies.l.length<=12:=by
 simp only [bT,aq,br] at h;omega
theorem AQ {B:Nat}{c:Cfg}{e:Edt}(h:c.wf B)(he:e.wf B)(hB:17<=B)(hs:bT c=true):(bK c e).1.wf B:=by
 obtain ⟨l1,l2,l3,l4⟩:=oQ hs;obtain ⟨e1,e2,e3,e4,e5,e6⟩:=he;have ho:∀ n,({ c with pods:=outT Pod.uid n c.pods }:Cfg).wf B:=fun n=>⟨h.1,h.2.1,h.2.2.1,h.2.2.2.1,zm h.2.2.2.2.1,h.2.2.2.2.2⟩;unfold bK;split
 · exact Eh h e3 (by omega)
 split
 · exact ho _
 split
 · split
   · rename_i p hp;have hpw:=h.2.2.2.2.1.2 p (List.mem_of_find?_eq_some hp);refine Eh (ho _) ⟨hpw.1,hpw.2.1,hpw.2.2.1,e3.2.2.2.1,e3.2.2.2.2.1,hpw.2.2.2.2.2⟩ ?_;have:=List.length_filter_le (fun x=>!(Pod.uid x==e.id)) c.pods.l;simp only [outT]; omega
   · exact h
 split
 · exact ⟨h.1,h.2.1,h.2.2.1,h.2.2.2.1,h.2.2.2.2.1,zy h.2.2.2.2.2.1 e4 (by omega),h.2.2.2.2.2.2⟩
 split
 · exact ⟨h.1,h.2.1,h.2.2.1,h.2.2.2.1,h.2.2.2.2.1,zm h.2.2.2.2.2.1,h.2.2.2.2.2.2⟩
 split
 · exact ⟨h.1,h.2.1,h.2.2.1,h.2.2.2.1,h.2.2.2.2.1,h.2.2.2.2.2.1,zy h.2.2.2.2.2.2.1 e5 (by omega),h.2.2.2.2.2.2.2⟩
 split
 · exact ⟨h.1,h.2.1,h.2.2.1,h.2.2.2.1,h.2.2.2.2.1,h.2.2.2.2.2.1,zm h.2.2.2.2.2.2.1,h.2.2.2.2.2.2.2⟩
 split
 · exact ⟨h.1,h.2.1,h.2.2.1,h.2.2.2.1,h.2.2.2.2.1,h.2.2.2.2.2.1,h.2.2.2.2.2.2.1,zy h.2.2.2.2.2.2.2 (Pol.own_wf e6) (by omega)⟩
 split
 · exact ⟨h.1,h.2.1,h.2.2.1,h.2.2.2.1,h.2.2.2.2.1,h.2.2.2.2.2.1,h.2.2.2.2.2.2.1,zm h.2.2.2.2.2.2.2⟩
 · exact h
def cfg0:Cfg:=⟨0,0,0,0,⟨true,[]⟩,⟨true,[]⟩,⟨true,[]⟩,⟨true,[]⟩⟩
def mM (c d:Cfg):Bool:=decide (c.epoch>=4611686018427387903)||decide (d.next>4611686018427387904)||!bT d
def dK (d:Cfg):Cfg:={ d with epoch:=wrap .u64 (d.epoch+1) }
def iZ (c:Cfg)(e:Edt):Cfg×Int :=
 if df c=false then (cfg0,1)
 else if (bK c.own e).2≠0 then (cfg0,(bK c.own e).2)
 else if mM c (bK c.own e).1=true then (cfg0,3)
 else if gP (dK (bK c.own e).1)=false then (cfg0,1)
 else if (bz (dK (bK c.own e).1)).length>8192 then (cfg0,6)
 else (dK (bK c.own e).1,0)
section
variable {E:Calls'}(hE:M8 E)(h385:∀ t:Target,t.wf big->∀ h,E 201 [ag t.c] h=some (bl (aR t),h))(h90:∀ args h,E 21 args h=Sm EO TO bc4 21 args h)
include hE h385 h90
omit hE h385 h90 in
theorem GX {c:Cfg}(h:df c=true):Open c.own:=by
 have hf:=h;simp only [df,aq] at hf;have hm:=hf.1.2;obtain ⟨l1,l2,l3,l4⟩:=oQ hf.1.1;simp only [gP,aq,fG,bL,dJ,bB] at hm;refine ⟨cd l1 (by decide),kT hm.1.1.1.1.2.2,cd l2 (by decide),kT hm.1.1.1.2.2,cd l3 (by decide),kT hm.1.2.2,?_,?_⟩
 · simp only [Cfg.own,bx]; exact cd l4 (by decide)
 · have:c.own.policies.l.map Pol.id=c.policies.l.map Pol.id:=by simp [Cfg.own,Pol.own]
   rw [this]; exact kT hm.2.2
end
end
section
def Be (e:Edt):Cfg:=⟨0,0,0,0,⟨false,[e.pod]⟩,⟨false,[e.svc]⟩,⟨true,[]⟩,⟨false,[e.pol]⟩⟩
section
variable {E:Calls'}(h385:∀ t:Target,t.wf big->∀ h,E 201 [ag t.c] h=some (bl (aR t),h))
theorem ic {h:Hp}{k b o n z:Nat}{cap:Option Nat}{d:D}(hd:dataV h (k+1) (.row b o n cap z)=some d):∃ l,d=.slice false l:=by
 simp only [dataV] at hd;split at hd
 · split at hd
   · split at hd
     · cases hd; exact ⟨_,rfl⟩
     · cases hd
   · cases hd
 · cases hd
theorem AY {h:Hp}{r:V}{b:Bool}(hr:frz h r=some (bl b)):r=bl b:=by
 cases r with
 | d x=>simpa using hr
 | row b' o n cap z =>
  exfalso;simp only [frz,bQ] at hr;cases hd:dataV h 8 (.row b' o n cap z) with
  | none=>rw [hd] at hr; cases hr
  | some d =>
   rw [hd] at hr;obtain ⟨l,rfl⟩:=ic hd;cases hr
 | ptr b' o=>simp [frz,bQ,dataV] at hr
 | eptr cs o=>simp [frz,bQ,dataV] at hr
 | undef=>simp [frz,bQ] at hr
 | fn f cs=>cases cs<;>simp [frz,bQ] at hr
 | mfn f cs=>simp [frz,bQ,dataV] at hr
 | agg cs =>
  simp only [frz,bQ] at hr;split at hr<;>cases hr
 | tup vs =>
  simp only [frz] at hr;split at hr<;>cases hr
theorem zZ {T:FuncId->Option QF}{val:FuncId->Bool}{f:FuncId}{q:QF}(ht:T f=some q)(hv:val f=true){l:List D}{b:Bool}(h0:∀ h,Sm E T val f [ag l] h=some (bl b,h)){a:V}{h:Hp}(ha:frz h a=some (ag l)):Sm E T val f [a] h=some (bl b,h):=by
 have h1:=h0 h;rw [aV ht hv] at h1 ⊢;simp only [List.mapM_cons,List.mapM_nil,lg,ha,Option.pure_def,Option.bind_eq_bind,Option.bind_some,lq,zX] at h1 ⊢;cases hB:Bd E T val q [ag l] ⟨[],0⟩ with
 | none=>rw [hB] at h1; cases h1
 | some p =>
  obtain ⟨r,h'⟩:=p;rw [hB] at h1;simp only [Co] at h1 ⊢;cases hr:frz h' r with
  | none=>rw [hr] at h1; cases h1
  | some r' =>
   rw [hr] at h1;have e1:r'=bl b:=by
    simp at h1; exact h1
   subst e1;have:=AY hr;subst this;simp [ownR,xH,ll]
theorem S32 (e:Edt)(he:e.wf big):∃ b:Bool,∀ h,Sm E TT aj 5 [ag e.c] h=some (bl b,h):=by
 have hf:(Be e).ok:=⟨⟨(by decide:1<=big),fun h=>by cases h⟩,⟨(by decide:1<=big),fun h=>by cases h⟩,⟨(by decide:0<=big),fun _=>rfl⟩,⟨(by decide:1<=big),fun h=>by cases h⟩,by simp [Be]; exact he.2.2.2.2.2.fits⟩;obtain ⟨b,hb⟩:=S31 (E:=E) (Be e) hf;refine ⟨b,fun h=>?_⟩;rw [aV t32 v32];have hp:=dX (h:=⟨[.cells (e.c.map .d),.cells (e.pod.c.map .d),.cells (e.svc.c.map .d),.cells (e.pol.c.map .d)],0⟩) (k:=7) (b:=1) (n:=1) (cap:=some 1) (es:=[e.pod.c]) (z:=7) (rest:=[]) (by simp) rfl (by simp [flat]);have hs:=dX (h:=⟨[.cells (e.c.map .d),.cells (e.pod.c.map .d),.cells (e.svc.c.map .d),.cells (e.pol.c.map .d)],0⟩) (k:=7) (b:=2) (n:=1) (cap:=some 1) (es:=[e.svc.c]) (z:=5) (rest:=[]) (by simp) rfl (by simp [flat]);have hq:=dX (h:=⟨[.cells (e.c.map .d),.cells (e.pod.c.map .d),.cells (e.svc.c.map .d),.cells (e.pol.c.map .d)],0⟩) (k:=7) (b:=3) (n:=1) (cap:=some 1) (es:=[e.pol.c]) (z:=5) (rest:=[]) (by simp) rfl (by simp [flat]);have hfz:frz ⟨[.cells (e.c.map .d),.cells (e.pod.c.map .d),.cells (e.svc.c.map .d),.cells (e.pol.c.map .d)],0⟩ (.agg [.d (.int .u64 0),.d (.int .u64 0),.d (.int .i64 0),.d (.int .i64 0),.row 1 0 1 (some 1) 7,.row 2 0 1 (some 1) 5,.d (.slice true []),.row 3 0 1 (some 1) 5])=some (ag (Be e).c):=by
  simp only [nA,bW,List.mapM_cons,List.mapM_nil,hp,hs,hq];rfl
 have n31:=zZ (E:=E) t31 v31 (l:=(Be e).c) hb hfz;simp +decide [ae,q32,aH,n31]
end
end
section
end
section
def Cfg.same (a b:Cfg):Bool:=a.epoch==b.epoch&&a.next==b.next&&a.hosts==b.hosts&&a.ways==b.ways&&(all2 Pod.eqB a.pods.l b.pods.l&&(all2 Svc.eqB a.services.l b.services.l&&(all2 Way.eqB a.bound.l b.bound.l&&all2 Pol.same a.policies.l b.policies.l)))
end
section
theorem wV {α:Type}{key:α->Int}:∀ {l m:List α},l.Pairwise (fun a b=>key a<key b)->m.Pairwise (fun a b=>key a<key b)->(∀ x,x∈l↔x∈m)->l=m
 | [],[],_,_,_=>rfl
 | [],b::m,_,_,h=>by have:=(h b).2 (by simp); simp at this
 | a::l,[],_,_,h=>by have:=(h a).1 (by simp); simp at this
 | a::l,b::m,h1,h2,h=>by
  obtain ⟨p1,p2⟩:=List.pairwise_cons.1 h1;obtain ⟨q1,q2⟩:=List.pairwise_cons.1 h2;have hab:a=b:=by
   rcases List.mem_cons.1 ((h a).1 (by simp)) with e | e
   · exact e
   · rcases List.mem_cons.1 ((h b).2 (by simp)) with e2 | e2
     · exact e2.symm
     · have:=q1 a e; have:=p1 b e2; omega
  subst hab;have:=wV p2 q2 fun x=>⟨fun hx=>by
   rcases List.mem_cons.1 ((h x).1 (List.mem_cons_of_mem _ hx)) with e | e
   · subst e; have:=p1 x hx; omega
   · exact e,fun hx=>by
   rcases List.mem_cons.1 ((h x).2 (List.mem_cons_of_mem _ hx)) with e | e
   · subst e; have:=q1 x hx; omega
   · exact e⟩
  rw [this]
theorem oP {α:Type}{key:α->Int}{l:List α}(h:dQ (l.map key)=true):l.Pairwise (fun a b=>key a<key b):=by
 have:=nP h
 rwa [List.pairwise_map] at this
theorem BG {α:Type}{key:α->Int}{x y:α}{l:List α}:y∈dE key x l↔y=x\/y∈l/\key y≠key x:=by
 unfold dE;rw [(List.mergeSort_perm _ _).mem_iff];simp only [List.mem_append,List.mem_filter,List.mem_singleton,Bool.not_eq_true',beq_eq_false_iff_ne];exact Or.comm
theorem yn {α:Type}{key:α->Int}{x:α}{l:List α}(h:l.Pairwise (fun a b=>key a<key b)):(dE key x l).Pairwise (fun a b=>key a<key b):=by
 have h1:((l.filter fun e=>!(key e==key x))++[x]).Pairwise (fun a b=>key a≠key b):=by
  rw [List.pairwise_append];refine ⟨(h.filter _).imp (by intro a b hh; omega),by simp,fun a ha b hb=>?_⟩;simp only [List.mem_singleton] at hb;subst hb;simpa using (List.mem_filter.1 ha).2
 have hp:=List.mergeSort_perm ((l.filter fun e=>!(key e==key x))++[x]) (fun a b=>decide (key a<=key b));have h2:(dE key x l).Pairwise (fun a b=>key a≠key b):=(hp.pairwise_iff (fun {a b} h=>Ne.symm h)).2 h1;have h3:(dE key x l).Pairwise (fun a b=>decide (key a<=key b)=true):=List.pairwise_mergeSort (le:=fun a b=>decide (key a<=key b)) (by intro a b c h1 h2; simp at *; omega) (by intro a b; simp; omega) _;exact List.Pairwise.imp₂ (fun a b h1 h2=>by simp at h2; omega) h2 h3
def Lg (n:Int)(x:Int):Prop:=0<=n/\x<2 ^ n.toNat/\(1<=x->2 ^ n.toNat<=2 * x)
theorem KM:((List.range 256).all fun i=>decide ((i:Int)<2 ^ (lenT i).toNat)&&(decide (i=0)||decide ((2:Int) ^ (lenT i).toNat<=2 * i)))=true:=by decide +kernel
theorem Ee {x:Int}(h0:0<=x)(h1:x<256):Lg (lenT (wrap .u8 x).toNat) x:=by
 have hw:wrap .u8 x=x:=by simp [wrap,IntKind.bits,IntKind.signed]; omega
 rw [hw];have:=ch.1 KM x.toNat (List.mem_range.2 (by omega));simp only [aq,Bool.or_eq_true,br] at this;have hx:((x.toNat:Nat):Int)=x:=by omega
 rw [hx] at this;exact ⟨(y8 _).1,this.1,fun h=>by rcases this.2 with h2 | h2<;>omega⟩
theorem vE {n x K:Int}(k:Nat)(hK:K=2 ^ k)(hK0:0<K)(hx:K<=x)(h:Lg n (x.fdiv K)):Lg ((k:Int)+n) x:=by
 obtain ⟨h0,h1,h2⟩:=h;have e:((k:Int)+n).toNat=k+n.toNat:=by omega
 rw [Int.fdiv_eq_ediv_of_nonneg _ (by omega)] at h1 h2;have hp:(2:Int) ^ (k+n.toNat)=K * 2 ^ n.toNat:=by rw [Int.pow_add,← hK]
 have hd:=Int.mul_ediv_add_emod x K;have hm:=Int.emod_nonneg x (show K≠0 by omega);have hl:=Int.emod_lt_of_pos x hK0;have hq:1<=x / K:=by
  have:=(Int.le_ediv_iff_mul_le hK0 (a:=1) (b:=x)).2 (by omega);exact this
 refine ⟨by omega,?_,fun _=>?_⟩
 · rw [e,hp];have:=(Int.ediv_lt_iff_lt_mul hK0).1 h1;rw [Int.mul_comm]; exact this
 · rw [e,hp];have h3:=Int.mul_le_mul_of_nonneg_left (h2 hq) (Int.le_of_lt hK0);have h4:K * (2 * (x / K))=2 * (K * (x / K)):=by rw [Int.mul_left_comm]
   omega
theorem Iz {x:Int}(h0:0<=x)(h1:x<2 ^ 64):Lg (fC x) x:=by
 have hb:∀ y,0<=y->y<65536->Lg ((if y>=256 then 8 else 0)+lenT (wrap .u8 (sV y)).toNat) y:=by
  intro y a b;by_cases c:y>=256
  · rw [if_pos c,sV,if_pos c];have hd:y.fdiv 256=y / 256:=Int.fdiv_eq_ediv_of_nonneg _ (by omega);exact vE (K:=256) 8 (by decide) (by omega) c (Ee (by rw [hd]; omega) (by rw [hd]; omega))
  · rw [if_neg c,sV,if_neg c,Int.zero_add];exact Ee a (by omega)
 have ha:∀ y,0<=y->y<4294967296->Lg ((if y>=65536 then 16 else 0)+((if mO y>=256 then 8 else 0)+lenT (wrap .u8 (sV (mO y))).toNat)) y:=by
  intro y a b;by_cases c:y>=65536
  · have hB:mO y=y.fdiv 65536:=by rw [mO,if_pos c]
    rw [if_pos c,hB];have hd:y.fdiv 65536=y / 65536:=Int.fdiv_eq_ediv_of_nonneg _ (by omega);exact vE (K:=65536) 16 (by decide) (by omega) c (hb _ (by rw [hd]; omega) (by rw [hd]; omega))
  · have hB:mO y=y:=by rw [mO,if_neg c]
    rw [if_neg c,hB,Int.zero_add];exact hb _ a (by omega)
 have hz:fC x=(if x>=4294967296 then 32 else 0)+((if lY x>=65536 then 16 else 0)+((if mO (lY x)>=256 then 8 else 0)+lenT (wrap .u8 (sV (mO (lY x)))).toNat)):=by
  unfold fC; omega
 rw [hz];by_cases c:x>=4294967296
 · have hA:lY x=x.fdiv 4294967296:=by rw [lY,if_pos c]
   rw [if_pos c,hA];have hd:x.fdiv 4294967296=x / 4294967296:=Int.fdiv_eq_ediv_of_nonneg _ (by omega);exact vE (K:=4294967296) 32 (by decide) (by omega) c (ha _ (by rw [hd]; omega) (by rw [hd]; omega))
 · have hA:lY x=x:=by rw [lY,if_neg c]
   rw [if_neg c,hA,Int.zero_add];exact ha _ h0 (by omega)
theorem KD (x:Int):nD x=if (fC x+6) / 7>1 then (fC x+6) / 7 else 1:=by
 have:=qU x;have h2:(fC x+6).tdiv 7=(fC x+6) / 7:=Int.tdiv_eq_ediv_of_nonneg (by omega);unfold nD; rw [h2]
theorem sD {a b:Cfg}(h1:a.hosts=b.hosts)(h2:a.ways=b.ways):∀ (l pre:List Way),iw a pre l=iw b pre l
 | [],_=>rfl
 | x::l,pre=>by
  have ih:=sD h1 h2 l (pre++[x]);simp only [iw,ih,iC,h1,h2]
theorem xy {a b:Cfg}(h1:a.hosts=b.hosts)(h2:a.ways=b.ways)(h3:a.bound.l=b.bound.l):dJ a=dJ b:=by
 simp only [dJ,sD h1 h2,h3]
theorem Pol.own_same (p:Pol):Pol.same p.own p=true:=by
 have:all2 Rule.same (p.rules.l.map Rule.own) p.rules.l=true:=by
  rw [Ag]; exact dV Rule.same_refl _
 simp [Pol.same,Pol.own,this]
theorem Cfg.same_refl (a:Cfg):a.same a=true:=by
 simp [Cfg.same,dV (fun _=>Pod.eqB_iff.2 rfl),dV (fun _=>Svc.eqB_iff.2 rfl),dV (fun _=>Way.eqB_iff.2 rfl),dV Pol.same_refl]
end
section
abbrev Pr (α:Type):=List Int->Option (α×List Int)
def Pr.ret {α:Type}(x:α):Pr α:=fun b=>some (x,b)
def Pr.seq {α β:Type}(p:Pr α)(q:Pr β):Pr (α×β):=fun b=>match p b with
 | some (x,l)=>match q l with
  | some (y,m)=>some ((x,y),m)
  | none=>none
 | none=>none
def Pr.map {α β:Type}(f:α->β)(p:Pr α):Pr β:=fun b=>match p b with
 | some (x,l)=>some (f x,l)
 | none=>none
def Pr.keep {α:Type}(p:Pr α)(ok:α->Bool):Pr α:=fun b=>match p b with
 | some (x,l)=>if ok x=true then some (x,l) else none
 | none=>none
theorem wrap_u8 (x:Int):wrap .u8 x=x % 256:=by simp [wrap,IntKind.bits,IntKind.signed]
theorem OU:((List.range 256).all fun a=>decide (orI .u8 (a:Int) 128=(a:Int) % 128+128))=true:=by decide +kernel
theorem OT (x:Int):orI .u8 (wrap .u8 x) 128=x % 128+128:=by
 rw [wrap_u8];have h:=ch.1 OU (x % 256).toNat (List.mem_range.2 (by omega));simp only [br] at h;have e:(((x % 256).toNat:Nat):Int)=x % 256:=by omega
 rw [e] at h;rw [h]; omega
end
section
theorem fI {α β:Type}{f:α->α->Bool}{g:α->β}(h:∀ x y,f x y=true↔g x=g y):∀ {l m:List α},all2 f l m=true↔l.map g=m.map g
 | [],[]=>by simp [all2]
 | [],y::m=>by simp [all2]
 | x::l,[]=>by simp [all2]
 | x::l,y::m=>by
  have ih:=fI (f:=f) (g:=g) h (l:=l) (m:=m);simp only [all2,aq,cm,List.cons.injEq];rw [h x y,ih]
def Sl.nf {α:Type}(f:α->α)(s:Sl α):Sl α:=⟨false,s.l.map f⟩
theorem Sl.nf_iff {α:Type}{f:α->α}{s t:Sl α}:s.nf f=t.nf f↔s.l.map f=t.l.map f:=by
 simp [Sl.nf]
def Source.nf (s:Source):Source:=⟨s.names.nf id,s.spaces.nf id,s.nets.nf id⟩
def Target.nf (s:Target):Target:=⟨s.ports.nf id,s.methods.nf id,s.paths.nf id,s.hosts.nf id⟩
def When.nf (s:When):When:=⟨s.head,s.terms.nf id⟩
def Rule.nf (s:Rule):Rule:=⟨s.frm.nf Source.nf,s.to.nf Target.nf,s.whn.nf When.nf⟩
def Pol.nf (s:Pol):Pol:={ s with rules:=s.rules.nf Rule.nf }
theorem uh {l m:List Term}:all2 Term.eqB l m=true↔l.map id=m.map id:=fI (f:=Term.eqB) (g:=id) fun _ _=>Term.eqB_iff
theorem Fu {l m:List Cidr}:all2 Cidr.eqB l m=true↔l.map id=m.map id:=fI (f:=Cidr.eqB) (g:=id) fun _ _=>Cidr.eqB_iff
theorem Ip {l m:List Int}:all2 (fun x y:Int=>x==y) l m=true↔l.map id=m.map id:=fI (f:=fun x y:Int=>x==y) (g:=id) fun _ _=>by simp
theorem Source.same_iff {a b:Source}:a.same b=true↔a.nf=b.nf:=by
 simp only [Source.same,aq,uh,Fu,Source.nf,Source.mk.injEq,Sl.nf_iff]
theorem Target.same_iff {a b:Target}:a.same b=true↔a.nf=b.nf:=by
 simp only [Target.same,aq,uh,Ip,Target.nf,Target.mk.injEq,Sl.nf_iff];constructor
 · rintro ⟨h1,h2,h3,h4⟩; exact ⟨h4,h1,h2,h3⟩
 · rintro ⟨h4,h1,h2,h3⟩; exact ⟨h1,h2,h3,h4⟩
theorem When.same_iff {a b:When}:a.same b=true↔a.nf=b.nf:=by
 simp only [When.same,aq,uh,eqS_iff,When.nf,When.mk.injEq,Sl.nf_iff]
theorem Rule.same_iff {a b:Rule}:a.same b=true↔a.nf=b.nf:=by
 simp only [Rule.same,aq,fI (fun x y=>Source.same_iff (a:=x) (b:=y)),fI (fun x y=>Target.same_iff (a:=x) (b:=y)),fI (fun x y=>When.same_iff (a:=x) (b:=y)),Rule.nf,Rule.mk.injEq,Sl.nf_iff]
theorem Pol.same_iff {a b:Pol}:a.same b=true↔a.nf=b.nf:=by
 simp only [Pol.same,aq,beq_iff_eq,eqS_iff,fI (fun x y=>Rule.same_iff (a:=x) (b:=y)),Pol.nf,Pol.mk.injEq,Sl.nf_iff]
theorem yN {α:Type}{p:α->Bool}{f:α->α}(h:∀ x,p (f x)=p x)(s:Sl α):(s.nf f).l.all p=s.l.all p:=by
 simp only [Sl.nf,List.all_map]
 congr 1
 funext x;exact h x
theorem nT (s:Sl Term):aU (s.nf id)=aU s:=by simp [aU,Sl.nf]
theorem zV (s:Source):bX s.nf=bX s:=by
 simp only [bX,Source.nf,nT];simp [jV,Sl.nf]
theorem zW (s:Target):aR s.nf=aR s:=by
 simp only [aR,Target.nf,nT];simp [Sl.nf]
theorem Ea (s:When):gN s.nf=gN s:=by
 simp only [gN,When.nf,nT];simp [Sl.nf]
theorem Dw (s:Rule):eu s.nf=eu s:=by
 simp only [eu,Rule.nf,yN zV,yN zW,yN Ea];simp [Sl.nf]
theorem Gg (p:Pol):ed p.nf=ed p:=by
 simp only [ed,Pol.nf,yN Dw];simp only [Sl.nf,bx];rfl
end
section
theorem wrap_u64 (x:Int):wrap .u64 x=x % 18446744073709551616:=by simp [wrap,IntKind.bits,IntKind.signed]
theorem qK {α β:Type}{f g:α->List β}{l:List α}(h:∀ x∈l,f x=g x):l.flatMap f=l.flatMap g:=by
 induction l with
 | nil=>rfl
 | cons x l ih=>simp only [List.flatMap_cons,h x (by simp),ih fun y hy=>h y (by simp [hy])]
theorem rX {α:Type}{e:α->List Int}{f:α->α}(h:∀ x,e (f x)=e x)(l:List α):seqB e (l.map f)=seqB e l:=by
 simp only [seqB,bx,List.flatMap_map]
 congr 1
 exact qK fun x _=>h x
abbrev Vx (n:Int):Prop:=0<=n/\n<2 ^ 64
theorem DI (s:Source):fU s.nf=fU s:=by simp [fU,Source.nf,Sl.nf,iR]
theorem DZ (s:Target):fV s.nf=fV s:=by simp [fV,Target.nf,Sl.nf,iR]
theorem JY (s:When):kV s.nf=kV s:=by simp [kV,When.nf,Sl.nf,iR]
theorem Jw (s:Rule):kJ s.nf=kJ s:=by
 simp only [kJ,Rule.nf,Sl.nf,rX DI,rX DZ,rX JY]
theorem K4 (s:Pol):lm s.nf=lm s:=by
 simp only [lm,Pol.nf,Sl.nf,rX Jw]
theorem IZ (s:Pol):fT s.nf=fT s:=by rw [fT,K4]; rfl
theorem Inr.u64 {n:Int}(h:Inr .u64 n):Vx n:=by
 simp [Inr,Lit.wf,IntKind.min,IntKind.max,IntKind.bits,IntKind.signed] at h;exact ⟨h.1,by omega⟩
theorem Inr.u32 {n:Int}(h:Inr .u32 n):0<=n/\n<=4294967295:=by
 simp [Inr,Lit.wf,IntKind.min,IntKind.max,IntKind.bits,IntKind.signed] at h;exact ⟨h.1,by omega⟩
end
section
def Cfg.nf (c:Cfg):Cfg:=⟨c.epoch,c.next,c.hosts,c.ways,c.pods.nf id,c.services.nf id,c.bound.nf id,c.policies.nf Pol.nf⟩
theorem Cfg.same_iff {a b:Cfg}:a.same b=true↔a.nf=b.nf:=by
 simp only [Cfg.same,aq,beq_iff_eq,fI (g:=id) (fun x y=>Pod.eqB_iff (x:=x) (y:=y)),fI (g:=id) (fun x y=>Svc.eqB_iff (x:=x) (y:=y)),fI (g:=id) (fun x y=>Way.eqB_iff (x:=x) (y:=y)),fI (fun x y=>Pol.same_iff (a:=x) (b:=y)),Cfg.nf,Cfg.mk.injEq,Sl.nf_iff,and_assoc]
theorem xS (c:Cfg):bz c.nf=bz c:=by
 have h:(c.policies.l.map Pol.nf).flatMap fT=c.policies.l.flatMap fT:=by
  rw [List.flatMap_map]; exact qK fun p _=>IZ p
 simp only [bz,Cfg.nf,Sl.nf,List.map_id,bx,h]
theorem kP {c d:Cfg}(h:c.nf=d.nf):bz c=bz d:=by rw [← xS c,← xS d,h]
end
section
def Hng (w:Bool)(K:Nat->Prop)(bs:List Blk)(v:V)(d:D)(k:Nat):Prop:=∀ bs' lo,(∀ x,K x->bs'[x]?=bs[x]?)->∀ j,k<=j->dataV ⟨bs',lo⟩ j v=some d/\(w=true->ll ⟨bs',lo⟩ j v=true)
variable {w:Bool}
theorem Hng.d {K:Nat->Prop}{bs:List Blk}{d:D}{k:Nat}(h:∀ nl c cs,d≠.slice nl (c::cs)):Hng w K bs (.d d) d k:=fun bs' lo _ j _=>by
 refine ⟨by cases j<;>rfl,fun _=>?_⟩;cases d with
 | slice nl es =>
  cases es with
  | nil=>cases j<;>rfl
  | cons c cs=>exact absurd rfl (h nl c cs)
 | _=>cases j<;>rfl
theorem Hng.on {K K':Nat->Prop}{bs bs':List Blk}{v:V}{d:D}{k:Nat}(h:Hng w K bs v d k)(hb:∀ x,K x->bs'[x]?=bs[x]?)(hK:∀ x,K x->K' x):Hng w K' bs' v d k :=
 fun bs2 lo h2 j hj=>h bs2 lo (fun x hx=>(h2 x (hK x hx)).trans (hb x hx)) j hj
def Hngs (w:Bool)(K:Nat->Prop)(bs:List Blk)(k:Nat):List V->List D->Prop
 | [],[]=>True
 | v::vs,d::ds=>Hng w K bs v d k/\Hngs w K bs k vs ds
 | _,_=>False
theorem Hngs.on {K K':Nat->Prop}{bs bs':List Blk}{k:Nat}(hb:∀ x,K x->bs'[x]?=bs[x]?)(hK:∀ x,K x->K' x):∀ {vs:List V} {ds:List D},Hngs w K bs k vs ds->Hngs w K' bs' k vs ds
 | [],[],_=>trivial
 | _::_,_::_,h=>⟨h.1.on hb hK,Hngs.on hb hK h.2⟩
 | [],_::_,h=>h.elim
 | _::_,[],h=>h.elim
theorem Hngs.app {K:Nat->Prop}{bs:List Blk}{k:Nat}:∀ {vs ws:List V} {ds es:List D},Hngs w K bs k vs ds->Hngs w K bs k ws es->Hngs w K bs k (vs++ws) (ds++es)
 | [],_,[],_,_,h=>h
 | _::_,_,_::_,_,h,h'=>⟨h.1,Hngs.app h.2 h'⟩
 | [],_,_::_,_,h,_=>h.elim
 | _::_,_,[],_,h,_=>h.elim
theorem Hngs.len {K:Nat->Prop}{bs:List Blk}{k:Nat}:∀ {vs:List V} {ds:List D},Hngs w K bs k vs ds->vs.length=ds.length
 | [],[],_=>rfl
 | _::_,_::_,h=>by simp [Hngs.len h.2]
 | [],_::_,h=>h.elim
 | _::_,[],h=>h.elim
theorem Hngs.mapM {K:Nat->Prop}{bs:List Blk}{k:Nat}{bs':List Blk}{lo:Nat}(hb:∀ x,K x->bs'[x]?=bs[x]?){j:Nat}(hj:k<=j):∀ {vs:List V} {ds:List D},Hngs w K bs k vs ds->vs.mapM (dataV ⟨bs',lo⟩ j)=some ds/\(w=true->vs.all (ll ⟨bs',lo⟩ j)=true)
 | [],[],_=>⟨rfl,fun _=>rfl⟩
 | v::vs,d::ds,h=>by
  obtain ⟨a1,a2⟩:=h.1 bs' lo hb j hj;obtain ⟨b1,b2⟩:=Hngs.mapM (lo:=lo) hb hj h.2;refine ⟨?_,fun hw=>by simp [a2 hw,b2 hw]⟩;rw [List.mapM_cons,a1,b1];rfl
 | [],_::_,h=>h.elim
 | _::_,[],h=>h.elim
theorem lT {z:Nat}:∀ (es:List (List D)),(∀ e∈es,e.length=z)->dataV.chunks z es.flatten es.length=es
 | [],_=>rfl
 | e::es,h=>by
  have he:e.length=z:=h e (by simp);simp only [List.flatten_cons,cf,dataV.chunks];rw [List.take_left' he,List.drop_left' he,lT es fun x hx=>h x (by simp [hx])]
theorem Hng.row {K:Nat->Prop}{bs:List Blk}{k b n z:Nat}{cap:Option Nat}{cs:List V}{es:List (List D)}(hKb:K b)(hb:af bs b=some cs)(hcs:Hngs w K bs k cs es.flatten)(hz:∀ e∈es,e.length=z)(hn:n=es.length) :
 Hng w K bs (.row b 0 n cap z) (.slice false es) (k+1):=by
 intro bs' lo h j hj;cases j with
 | zero=>omega
 | succ j =>
  have hg:Hp.get ⟨bs',lo⟩ b=some cs:=by
   unfold af at hb;simp only [Hp.get,h b hKb];split at hb
   · rename_i hb2; rw [hb2]; simpa using hb
   · cases hb
  obtain ⟨m1,m2⟩:=Hngs.mapM (lo:=lo) h (show k<=j by omega) hcs;have hlen:cs.length=n * z:=by
   rw [hcs.len,hn,List.length_flatten];have:es.map List.length=List.replicate es.length z:=by
    rw [List.eq_replicate_iff];exact ⟨by simp,fun x hx=>by obtain ⟨e,he,rfl⟩:=b9.1 hx; exact hz e he⟩
   rw [this]; simp
  have hs:sub cs 0 (n * z)=some cs:=by
   unfold sub;rw [if_pos (by omega)];simp [← hlen]
  refine ⟨?_,?_⟩
  · simp only [dataV,hg,hs,m1];rw [hn,lT es hz]
  · intro hw;simp only [ll,hg];exact m2 hw
theorem Hng.data {K:Nat->Prop}{bs:List Blk}{d:D}{k:Nat}:Hng false K bs (.d d) d k:=fun bs' lo _ j _=>⟨by cases j<;>rfl,fun h=>by cases h⟩
theorem Hng.weak {K:Nat->Prop}{bs:List Blk}{v:V}{d:D}{k:Nat}(h:Hng true K bs v d k):Hng false K bs v d k:=fun bs' lo hb j hj=>⟨(h bs' lo hb j hj).1,fun h=>by cases h⟩
theorem Hngs.data {K:Nat->Prop}{bs:List Blk}{k:Nat}:∀ {ds:List D},Hngs false K bs k (ds.map .d) ds
 | []=>trivial
 | _::_=>⟨Hng.data,Hngs.data⟩
end
