/- config.Apply: an edit as1 data; what stands around its parts. -/
import Derived.Test.YtjeflmaikicdnaaGreatWb
import Derived.KernelRfl
set_option maxRecDepth 100000
set_option linter.unusedVariables false
set_option linter.unusedSimpArgs false
namespace Go.Proofs.YtjeflmaikicdnaaGreat
open IntKind (wrap)
section
structure Edt where
 kind:Int
 id:Int
 pod:Pod
 svc:Svc
 way:Way
 pol:Pol
def Edt.c (e:Edt):List D:=[i64 e.kind,u64 e.id]++e.pod.c++e.svc.c++e.way.c++e.pol.c
@[simp] theorem Edt.len {x:Edt}:x.c.length=21:=(rfl)
@[simp] theorem Edt.all {x:Edt}:sub x.c 0 21=some x.c:=(rfl)
@[simp] theorem Edt.s0_1 {x:Edt}:sub x.c 0 1=some [i64 x.kind]:=(rfl)
@[simp] theorem Edt.s1_1 {x:Edt}:sub x.c 1 1=some [u64 x.id]:=(rfl)
@[simp] theorem Edt.s2_7 {x:Edt}:sub x.c 2 7=some x.pod.c:=(rfl)
@[simp] theorem Edt.s9_5 {x:Edt}:sub x.c 9 5=some x.svc.c:=(rfl)
@[simp] theorem Edt.s14_2 {x:Edt}:sub x.c 14 2=some x.way.c:=(rfl)
@[simp] theorem Edt.s16_5 {x:Edt}:sub x.c 16 5=some x.pol.c:=(rfl)
@[simp] theorem Edt.s5_1 {x:Edt}:sub x.c 5 1=some [i64 x.pod.host]:=(rfl)
@[simp] theorem Edt.s6_1 {x:Edt}:sub x.c 6 1=some [u32 x.pod.addr]:=(rfl)
theorem Cfg.p0 {x:Cfg}{n:Int}:put (x.c.map V.d) 0 [.d (u64 n)]=some (({ x with epoch:=n }:Cfg).c.map V.d):=(rfl)
theorem Cfg.p1 {x:Cfg}{n:Int}:put (x.c.map V.d) 1 [.d (u64 n)]=some (({ x with next:=n }:Cfg).c.map V.d):=(rfl)
theorem Cfg.p4 {x:Cfg}{s:Sl Pod}:put (x.c.map V.d) 4 [.d (s.d Pod.c)]=some (({ x with pods:=s }:Cfg).c.map V.d):=(rfl)
theorem Cfg.p5 {x:Cfg}{s:Sl Svc}:put (x.c.map V.d) 5 [.d (s.d Svc.c)]=some (({ x with services:=s }:Cfg).c.map V.d):=(rfl)
theorem Cfg.p6 {x:Cfg}{s:Sl Way}:put (x.c.map V.d) 6 [.d (s.d Way.c)]=some (({ x with bound:=s }:Cfg).c.map V.d):=(rfl)
theorem Cfg.p7 {x:Cfg}{s:Sl Pol}:put (x.c.map V.d) 7 [.d (s.d Pol.c)]=some (({ x with policies:=s }:Cfg).c.map V.d):=(rfl)
theorem Pod.p0 {x:Pod}{n:Int}:put (x.c.map V.d) 0 [.d (u64 n)]=some (({ x with uid:=n }:Pod).c.map V.d):=(rfl)
theorem Pod.p3 {x:Pod}{n:Int}:put (x.c.map V.d) 3 [.d (i64 n)]=some (({ x with host:=n }:Pod).c.map V.d):=(rfl)
theorem Pod.p4 {x:Pod}{n:Int}:put (x.c.map V.d) 4 [.d (u32 n)]=some (({ x with addr:=n }:Pod).c.map V.d):=(rfl)
section
variable {E:Calls'}
def outT {α:Type}(key:α->Int)(n:Int)(s:Sl α):Sl α:=⟨s.nl,s.l.filter λe=>!(key e==n)⟩
def jO {α:Type}(key:α->Int)(n:Int)(s:Sl α):Bool:=decide ((s.l.filter λe=>!(key e==n)).length<s.l.length)
theorem bf2 (s:Sl Pod)(hs:short s)(n:Int)(h:Hp):Sm E TT ah 56 [.d (s.d Pod.c),.d (u64 n),.fn 57 []] h=some (.tup [.d ((outT Pod.uid n s).d Pod.c),bl (jO Pod.uid n s)],h) :=
 ru (cells:=Pod.c) (key:=Pod.uid) (zero:=og) cs7 dj8 t105 v105 VD VL cv9 dn4 ct7 dl2 (λ_=>rfl) (by decide) rfl (by decide) hs (λe _ h=>Xj e h) n h
theorem bf8 (s:Sl Svc)(hs:short s)(n:Int)(h:Hp):Sm E TT ah 65 [.d (s.d Svc.c),.d (u64 n),.fn 60 []] h=some (.tup [.d ((outT Svc.id n s).d Svc.c),bl (jO Svc.id n s)],h) :=
 ru (cells:=Svc.c) (key:=Svc.id) (zero:=VB) (b:=48) ct3 dk8 cv4 dm9 VE P6 cw1 dn5 t198 v198 (λ_=>rfl) (by decide) rfl (by decide) hs (λe _ h=>Xk e h) n h
theorem bg2 (s:Sl Way)(hs:short s)(n:Int)(h:Hp):Sm E TT ah 70 [.d (s.d Way.c),.d (u64 n),.fn 67 []] h=some (.tup [.d ((outT Way.id n s).d Way.c),bl (jO Way.id n s)],h) :=
 ru (cells:=Way.c) (key:=Way.id) (zero:=VU) (b:=16) ct4 dk9 cv6 dn1 t109 v109 cw2 dn6 t203 v203 (λ_=>rfl) (by decide) rfl (by decide) hs (λe _ h=>Xl e h) n h
theorem bg4 (s:Sl Pol)(hs:short s)(n:Int)(h:Hp):Sm E TT ah 73 [.d (s.d Pol.c),.d (u64 n),.fn 72 []] h=some (.tup [.d ((outT Pol.id n s).d Pol.c),bl (jO Pol.id n s)],h) :=
 ru (cells:=Pol.c) (key:=Pol.id) (zero:=KW) (b:=64) ct5 dl0 cv7 dn2 aj5 VM cw3 dn7 t206 v206 (λ_=>rfl) (by decide) rfl (by decide) hs (λe _ h=>Xm e h) n h
theorem bf5 (p:Pod)(e:Edt)(x:Nat)(h:Hp)(hp:au h.bs x=some (e.c.map .d)):Sm E TT ah 62 [ag p.c,.ptr x 0] h=some (bl (p.service==e.id),h):=by
 rw [av ct9 dl4];simp [aa,Ua,ak hp,V.under]
theorem bf7 (p:Pol)(e:Edt)(x:Nat)(h:Hp)(hp:au h.bs x=some (e.c.map .d)):Sm E TT ah 64 [ag p.c,.ptr x 0] h=some (bl (p.service==e.id),h):=by
 rw [av cu0 dl5];simp [aa,Uc,ak hp,V.under]
theorem bg1 (p:Svc)(e:Edt)(x:Nat)(h:Hp)(hp:au h.bs x=some (e.c.map .d)):Sm E TT ah 69 [ag p.c,.ptr x 0] h=some (bl (p.way==e.id),h):=by
 rw [av cu2 dl7];simp [aa,Ue,ak hp,V.under]
theorem dg3:TT 150=some (anyQ 145):=cv5
theorem u194:TT 61=some (someQ 150):=t194
theorem bf4 (s:Sl Pod)(hs:short s)(e:Edt)(x:Nat)(h:Hp)(hp:au h.bs x=some (e.c.map .d)):Sm E TT ah 61 [.d (s.d Pod.c),.fn 62 [.ptr x 0]] h=some (bl (s.l.any λp=>p.service==e.id),h) :=
 fK u194 v194 rfl rfl (gP Pod.c (z:=7) VD VL dg3 dn0 (RowIs.of (cells:=Pod.c) (λ_=>rfl) _) hs.lt λp _ lo=>bf5 p e x _ hp)
theorem bf6 (s:Sl Pol)(hs:short s)(e:Edt)(x:Nat)(h:Hp)(hp:au h.bs x=some (e.c.map .d)):Sm E TT ah 63 [.d (s.d Pol.c),.fn 64 [.ptr x 0]] h=some (bl (s.l.any λp=>p.service==e.id),h) :=
 fK u196 v196 rfl rfl (gP Pol.c (z:=5) ak7 VM ak5 al0 (RowIs.of (cells:=Pol.c) (λ_=>rfl) _) hs.lt λp _ lo=>bf7 p e x _ hp)
theorem bg0 (s:Sl Svc)(hs:short s)(e:Edt)(x:Nat)(h:Hp)(hp:au h.bs x=some (e.c.map .d)):Sm E TT ah 68 [.d (s.d Svc.c),.fn 69 [.ptr x 0]] h=some (bl (s.l.any λp=>p.way==e.id),h) :=
 fK u201 v201 rfl rfl (gP Svc.c (z:=5) aj8 P6 ak2 ak9 (RowIs.of (cells:=Svc.c) (λ_=>rfl) _) hs.lt λp _ lo=>bg1 p e x _ hp)
end
end
section
theorem n289:TT 142=none:=by kernel_rfl
theorem n192:TT 59=none:=by kernel_rfl
theorem n199:TT 66=none:=by kernel_rfl
theorem n204:TT 71=none:=by kernel_rfl
def EP (E:Calls'):Prop:=∀ f,f=142\/f=59\/f=66\/f=71->∀ args h,E f args h=Sm EW TW sO f args h
section
variable {E:Calls'}(hE:EP E)
include hE
theorem bh6 (s:Sl Pod)(hs:short s)(hl:s.l.length<big)(hnd:(s.l.map Pod.uid).Nodup)(x:Pod)(h:Hp):Sm E TT ah 142 [.d (s.d Pod.c),ag x.c,.fn 57 []] h=some (.d ((⟨false,kU Pod.uid x s.l⟩:Sl Pod).d Pod.c),h):=by
 rw [aG n289,hE _ (.inl rfl)]; exact bq0 s hs hl hnd x h
theorem bf3 (s:Sl Svc)(hs:short s)(hl:s.l.length<big)(hnd:(s.l.map Svc.id).Nodup)(x:Svc)(h:Hp):Sm E TT ah 59 [.d (s.d Svc.c),ag x.c,.fn 60 []] h=some (.d ((⟨false,kU Svc.id x s.l⟩:Sl Svc).d Svc.c),h):=by
 rw [aG n192,hE _ (.inr (.inl rfl))]; exact bp4 s hs hl hnd x h
theorem bf9 (s:Sl Way)(hs:short s)(hl:s.l.length<big)(hnd:(s.l.map Way.id).Nodup)(x:Way)(h:Hp):Sm E TT ah 66 [.d (s.d Way.c),ag x.c,.fn 67 []] h=some (.d ((⟨false,kU Way.id x s.l⟩:Sl Way).d Way.c),h):=by
 rw [aG n199,hE _ (.inr (.inr (.inl rfl)))]; exact bp6 s hs hl hnd x h
theorem bg3 (s:Sl Pol)(hs:short s)(hl:s.l.length<big)(hnd:(s.l.map Pol.id).Nodup)(x:Pol)(h:Hp):Sm E TT ah 71 [.d (s.d Pol.c),ag x.c,.fn 72 []] h=some (.d ((⟨false,kU Pol.id x s.l⟩:Sl Pol).d Pol.c),h):=by
 rw [aG n204,hE _ (.inr (.inr (.inr rfl)))]; exact bp8 s hs hl hnd x h
def CW (c:Cfg)(p:Pod):Cfg:={ c with next:=wrap .u64 (c.next+1),pods:=⟨false,kU Pod.uid { p with uid:=c.next } c.pods.l⟩ }
def Open (c:Cfg):Prop:=c.pods.l.length<big/\(c.pods.l.map Pod.uid).Nodup/\c.services.l.length<big/\(c.services.l.map Svc.id).Nodup/\c.bound.l.length<big/\(c.bound.l.map Way.id).Nodup/\c.policies.l.length<big/\(c.policies.l.map Pol.id).Nodup
theorem Xi (c:Cfg)(hc:c.ok)(ho:Open c)(p:Pod)(b:Nat)(h:Hp)(hb:au h.bs b=some (c.c.map .d)) :
 Sm E TT ah 55 [.ptr b 0,ag p.c] h=some (.tup [],⟨h.bs.set b (.cells ((CW c p).c.map .d))++[.cells (({ p with uid:=c.next }:Pod).c.map .d)],min h.low b⟩):=by
 rw [av ct6 dl1];have hbl:=aK hb;have n1:=λh=>bh6 hE c.pods hc.1 ho.1 ho.2.1 { p with uid:=c.next } h;have e1:V.d (u64 c.next)::(List.map V.d p.c).tail=({ p with uid:=c.next }:Pod).c.map V.d:=rfl;have f1:∀ (cs:List V) (x:Blk),au ((h.bs++[x]).set b (.cells cs)) b=some cs:=λcs x=>by simp [au,hbl,Nat.lt_succ_of_lt hbl]
 have f2:∀ (cs x:List V),au ((h.bs++[Blk.cells x]).set b (.cells cs)) h.bs.length=some x:=λcs x=>by
  simp only [au]; rw [ac (by omega)]; simp
 have f4:∀ (x c':Blk),(h.bs++[x]).set b c'=h.bs.set b c'++[x]:=λx c'=>List.set_append_left _ _ hbl;simp [aa,Oe,ak hb,e1,Cfg.p1,Cfg.p4,f1,f2,aA,ae,n1];rw [if_pos (qz 9 (by rfl) (by simp [Tr.mute]))];simp [f4];rw [if_neg (by omega),show min h.low (min h.bs.length b)=min h.low b by omega];rfl
end
end
section
def bU (c:Cfg)(e:Edt):Cfg×Int :=
 if e.kind=1 then (CW c e.pod,0)
 else if e.kind=2 then ({ c with pods:=outT Pod.uid e.id c.pods },if jO Pod.uid e.id c.pods then 0 else 4)
 else if e.kind=3 then match c.pods.l.find? (λp=>p.uid==e.id) with
  | some p=>(CW { c with pods:=outT Pod.uid e.id c.pods } { p with host:=e.pod.host,addr:=e.pod.addr },0)
  | none=>(c,4)
 else if e.kind=4 then ({ c with services:=⟨false,kU Svc.id e.svc c.services.l⟩ },0)
 else if e.kind=5 then ({ c with services:=outT Svc.id e.id c.services },if jO Svc.id e.id c.services then (if (c.pods.l.any λp=>p.service==e.id)||(c.policies.l.any λp=>p.service==e.id) then 5 else 0) else 4)
 else if e.kind=6 then ({ c with bound:=⟨false,kU Way.id e.way c.bound.l⟩ },0)
 else if e.kind=7 then ({ c with bound:=outT Way.id e.id c.bound },if jO Way.id e.id c.bound then (if (c.services.l.any λp=>p.way==e.id) then 5 else 0) else 4)
 else if e.kind=8 then ({ c with policies:=⟨false,kU Pol.id e.pol.own c.policies.l⟩ },0)
 else if e.kind=9 then ({ c with policies:=outT Pol.id e.id c.policies },if jO Pol.id e.id c.policies then 0 else 4)
 else (c,1)
section
variable {E:Calls'}(hE:EP E)
include hE
theorem S91 (c:Cfg)(hc:c.ok)(ho:Open c)(e:Edt)(he:e.pol.fits big)(x0 x1 x2:List V)(lo:Nat) :
 ∃ ys lo',Sm E TT ah 27 [.ptr 3 0,ag e.c] ⟨[.cells x0,.cells x1,.cells x2,.cells (c.c.map .d)],lo⟩=some (.d (i64 (bU c e).2),⟨.cells x0::.cells x1::.cells x2::.cells ((bU c e).1.c.map .d)::ys,lo'⟩):=by
 have a189:=λbs lo h2=>Xi hE c hc ho e.pod 3 ⟨bs,lo⟩ h2;have a190:=λh=>bf2 (E:=E) c.pods hc.1 e.id h;have a42:=λh=>S42 (E:=E) c hc e.id h;have a192:=λh=>bf3 hE c.services hc.2.1 ho.2.2.1 ho.2.2.2.1 e.svc h;have a199:=λh=>bf9 hE c.bound hc.2.2.1 ho.2.2.2.2.1 ho.2.2.2.2.2.1 e.way h;have a204:=λh=>bg3 hE c.policies hc.2.2.2.1 ho.2.2.2.2.2.2.1 ho.2.2.2.2.2.2.2 e.pol.own h;have a113:=λh=>Q7 (E:=E) e.pol he h;have a198:=λh=>bf8 (E:=E) c.services hc.2.1 e.id h;have a203:=λh=>bg2 (E:=E) c.bound hc.2.2.1 e.id h;have a206:=λh=>bg4 (E:=E) c.policies hc.2.2.2.1 e.id h;have a194:=λh hp=>bf4 (E:=E) c.pods hc.1 e 4 h hp;have a196:=λh hp=>bf6 (E:=E) c.policies hc.2.2.2.1 e 4 h hp;have a201:=λh hp=>bg0 (E:=E) c.services hc.2.1 e 4 h hp;rw [av t91 v91];by_cases k1:e.kind=1
 . have:bU c e=(CW c e.pod,0):=by simp [bU,k1]
   rw [this];simp +decide [aa,q91,k1,a189,V.under]
 by_cases k2:e.kind=2
 . have:bU c e=({ c with pods:=outT Pod.uid e.id c.pods },if jO Pod.uid e.id c.pods then 0 else 4):=by simp [bU,k2]
   rw [this];cases hq:jO Pod.uid e.id c.pods<;>simp +decide [aa,q91,k2,a190,hq,Cfg.p4,aA,ae,V.under]
 by_cases k3:e.kind=3
 . cases hf:c.pods.l.find? (λp=>p.uid==e.id) with
   | none =>
    have:bU c e=(c,4):=by simp [bU,k3,hf]
    rw [this];simp +decide [aa,q91,k3,a42,hf,aA,ae,V.under,pod0]
   | some p =>
    have:bU c e=(CW { c with pods:=outT Pod.uid e.id c.pods } { p with host:=e.pod.host,addr:=e.pod.addr },0):=by simp [bU,k3,hf]
    rw [this];have hc':({ c with pods:=outT Pod.uid e.id c.pods }:Cfg).ok:=⟨⟨ch (List.length_filter_le _ _) hc.1.1,λhn=>by have:=hc.1.2 hn; simp [outT,this]⟩,hc.2⟩;have ho':Open { c with pods:=outT Pod.uid e.id c.pods }:=⟨cg (List.length_filter_le _ _) ho.1,List.Pairwise.sublist (List.Sublist.map _ List.filter_sublist) ho.2.1,ho.2.2⟩;have b189:=λbs lo h2=>Xi hE _ hc' ho' { p with host:=e.pod.host,addr:=e.pod.addr } 3 ⟨bs,lo⟩ h2;have e4:put (({ p with host:=e.pod.host }:Pod).c.map V.d) 4 [.d (u32 e.pod.addr)]=some (({ p with host:=e.pod.host,addr:=e.pod.addr }:Pod).c.map V.d):=rfl;simp +decide [aa,q91,k3,a42,hf,a190,b189,Pod.p3,e4,Cfg.p4,aA,ae,V.under]
 by_cases k4:e.kind=4
 . have:bU c e=({ c with services:=⟨false,kU Svc.id e.svc c.services.l⟩ },0):=by simp [bU,k4]
   rw [this];simp +decide [aa,q91,k4,a192,Cfg.p5,aA,ae,V.under]
 by_cases k5:e.kind=5
 . have:bU c e=({ c with services:=outT Svc.id e.id c.services },if jO Svc.id e.id c.services then (if (c.pods.l.any λp=>p.service==e.id)||(c.policies.l.any λp=>p.service==e.id) then 5 else 0) else 4):=by simp [bU,k5]
   rw [this];generalize (c.pods.l.any λp=>p.service==e.id)=A1 at *;generalize (c.policies.l.any λp=>p.service==e.id)=A2 at *;cases hq:jO Svc.id e.id c.services<;>cases A1<;>cases A2<;>simp +decide [aa,q91,k5,a198,a194,a196,hq,Cfg.p5,aA,ae,V.under,ai]
 by_cases k6:e.kind=6
 . have:bU c e=({ c with bound:=⟨false,kU Way.id e.way c.bound.l⟩ },0):=by simp [bU,k6]
   rw [this];simp +decide [aa,q91,k6,a199,Cfg.p6,aA,ae,V.under]
 by_cases k7:e.kind=7
 . have:bU c e=({ c with bound:=outT Way.id e.id c.bound },if jO Way.id e.id c.bound then (if (c.services.l.any λp=>p.way==e.id) then 5 else 0) else 4):=by simp [bU,k7]
   rw [this];generalize (c.services.l.any λp=>p.way==e.id)=A1 at *;cases hq:jO Way.id e.id c.bound<;>cases A1<;>simp +decide [aa,q91,k7,a203,a201,hq,Cfg.p6,aA,ae,V.under]
 by_cases k8:e.kind=8
 . have:bU c e=({ c with policies:=⟨false,kU Pol.id e.pol.own c.policies.l⟩ },0):=by simp [bU,k8]
   rw [this];simp +decide [aa,q91,k8,a204,a113,Cfg.p7,aA,ae,V.under]
 by_cases k9:e.kind=9
 . have:bU c e=({ c with policies:=outT Pol.id e.id c.policies },if jO Pol.id e.id c.policies then 0 else 4):=by simp [bU,k9]
   rw [this];cases hq:jO Pol.id e.id c.policies<;>simp +decide [aa,q91,k9,a206,hq,Cfg.p7,aA,ae,V.under]
 have:bU c e=(c,1):=by simp [bU,k1,k2,k3,k4,k5,k6,k7,k8,k9]
 rw [this];simp +decide [aa,q91,k1,k2,k3,k4,k5,k6,k7,k8,k9,V.under]
end
end
section
noncomputable def EO:Calls':=λf args h=>Sm (λ_ _ _=>none) TT ah f args h
def df5:List (Nat×QF):=[(26,q90),(50,BX),(51,BZ),(52,Ca),(53,Cb)]
def TO:FuncId->Option QF:=iW df5
def uA (f:FuncId):Bool:=[26,50,51,52].any λn=>Nat.beq n f
theorem ck8:TO 54=none:=by kernel_rfl
theorem be6 (p:Pol)(hp:p.fits big)(h:Hp):Sm EO TO uA 54 [ag p.c] h=some (ag p.own.c,h):=by
 rw [aG ck8]; exact Q7 p hp h
theorem L90 {l:List Pol}(hl:l.length<2 ^ 62)(hf:∀ p∈l,p.ok){bs0:List Blk}{b:Nat}(hb0:b<bs0.length)(hb1:b≠0){Co:List V}(hco:bs0[0]?=some (.cells Co))(hco7:sub Co 7 1=some [.row b 0 l.length none 5]):∀ (m i:Nat) (kept:List Pol) (bs:List Blk) (lo:Nat),i+m=l.length->kept.length=i->Thin Pol.c 5 l bs0 b kept bs →
 ∃ bs' lo',Cd EO TO uA (.loop [1,2,22,23,24] nT) [(1,.ptr 0 0),(2,.ptr 1 0),(22,.row b 0 l.length none 5),(23,.d (i64 l.length)),(24,.d (i64 i))] ⟨bs,lo⟩=some (.exit 0,[(1,.ptr 0 0),(2,.ptr 1 0)],⟨bs',lo'⟩) ∧
  Thin Pol.c 5 l bs0 b (kept++(l.drop i).map Pol.own) bs':=by
 intro m;have key:=ax (E:=EO) (T:=TO) (val:=uA) [1,2,22,23,24] nT;generalize Cd EO TO uA (.loop [1,2,22,23,24] nT)=W at key ⊢
 induction m with
 | zero =>
  intro i kept bs lo hi hk ht;have h0:l.drop i=[]:=bb (by omega);refine ⟨bs,lo,?_,by simpa [h0] using ht⟩;rw [key];simp [nT,show ¬ ((i:Int)<l.length) from by omega]
 | succ m ih =>
  intro i kept bs lo hi hk ht;have hlt:i<l.length:=by omega
  have hd:l.drop i=l[i]::l.drop (i+1):=ba hlt;have hcz:∀ x:Pol,(Pol.c x).length=5:=λ_=>rfl;have hread:=ht.read hcz (j:=i) (by omega) hlt;have hrow:=ht.row;have hfx:=hf _ (bj hlt);generalize l[i]=x at *;have hix:∀ bs lo,iL none 5 (.row b 0 l.length none 5) (.d (.int .i64 i)) ⟨bs,lo⟩=some (.ptr b (i * 5),⟨bs,lo⟩):=by
   intro bs lo; simp only [iL]; rw [if_pos ⟨by omega,by omega,trivial⟩]; simp
  have hw:=aI hlt hl;have hcall:=λh=>be6 x hfx h;have hput:put KW 0 (x.c.map V.d)=some (x.c.map .d):=rfl;have ht1:=ht.lay (.cells (x.c.map .d));obtain ⟨cs,hcs,ht2⟩:=ht1.keep hcz (e:=x.own) (by omega);rw [hk] at hcs;have hrow1:=ht1.row;rw [hk] at hrow hread hrow1;have hc0:au (bs++[Blk.cells (x.c.map V.d)]) 0=some Co:=by
   simp only [au];rw [ht1.old 0 (Ne.symm hb1) (by omega),hco]
  have hset:∀ lo,Hp.set ⟨bs++[Blk.cells (x.c.map V.d)],lo⟩ b cs=⟨(bs++[Blk.cells (x.c.map V.d)]).set b (Blk.cells cs),min lo b⟩:=λ_=>rfl;obtain ⟨bs',lo',k1,k2⟩:=ih (i+1) (kept++[x.own]) _ (min (min lo bs.length) b) (by omega) (by simp; omega) ht2;refine ⟨bs',lo',?_,by simpa [hd] using k2⟩;generalize hB:(bs++[Blk.cells (x.c.map .d)]).set b (Blk.cells cs)=B at *;rw [key];have hpz:KW=[(.d (.int .u64 0)),(.d (.str ⟨#[]⟩)),(.d (.int .u64 0)),(.d (.int .i64 0)),(.d (.slice true []))]:=rfl;rw [hpz] at hput;simp [nT,hix,ldv,hrow,hread,hput,hcall,hrow1,hcs,hset,hc0,hco7,aA,ae,show ((i:Int)<l.length) from by omega];rw [if_pos (qz 6 (by rfl) (by simp [Tr.mute]))];simp [hw];simpa using k1
def Cfg.own (c:Cfg):Cfg:={ c with policies:=⟨c.policies.nl,c.policies.l.map Pol.own⟩ }
def Cq (c:Cfg)(v:V):List V:=[.d (u64 c.epoch),.d (u64 c.next),.d (i64 c.hosts),.d (i64 c.ways),.d (c.pods.d Pod.c),.d (c.services.d Svc.c),.d (c.bound.d Way.c),v]
theorem O90 (c:Cfg)(hc:c.ok)(h:Hp):Sm EO TO uA 26 [c.v] h=some (c.own.v,h):=by
 have c1:=λh=>ek (E:=EO) (T:=TO) (val:=uA) (cells:=Pod.c) (id:=50) (z:=7) (b:=72) (zero:=og) (by kernel_rfl) (by kernel_rfl) (by decide) (by decide) (λ_=>rfl) hc.1 h;have c2:=λh=>ek (E:=EO) (T:=TO) (val:=uA) (cells:=Svc.c) (id:=51) (z:=5) (b:=48) (zero:=VB) (by kernel_rfl) (by kernel_rfl) (by decide) (by decide) (λ_=>rfl) hc.2.1 h;have c3:=λh=>ek (E:=EO) (T:=TO) (val:=uA) (cells:=Way.c) (id:=52) (z:=2) (b:=16) (zero:=VU) (by kernel_rfl) (by kernel_rfl) (by decide) (by decide) (λ_=>rfl) hc.2.2.1 h;have c4:=λh=>iM (E:=EO) (T:=TO) (val:=uA) (id:=53) (z:=5) (b:=64) (zero:=KW) (by kernel_rfl) (by kernel_rfl) (by decide) (by decide) (nl:=c.policies.nl) (es:=c.policies.l.map Pol.c) (by simp) (by simpa using hc.2.2.2.1.1) h;have hp4:put (c.c.map V.d) 4 [.d (c.pods.d Pod.c)]=some (c.c.map V.d):=rfl;have hp5:put (c.c.map V.d) 5 [.d (c.services.d Svc.c)]=some (c.c.map V.d):=rfl;have hp6:put (c.c.map V.d) 6 [.d (c.bound.d Way.c)]=some (c.c.map V.d):=rfl;have hp7:∀ v,put (c.c.map V.d) 7 [v]=some (Cq c v):=λ_=>rfl;have hs7:∀ v,sub (Cq c v) 7 1=some [v]:=λ_=>rfl;have hs8:∀ v,sub (Cq c v) 0 8=some (Cq c v):=λ_=>rfl;have hcl:∀ v,(Cq c v).length=8:=λ_=>rfl;have hpz:∀ v (z:List V),z.length=8->put z 0 (Cq c v)=some (Cq c v):=λv z hz=>by simp [put,hz,hcl]
 have hcv:∀ h v l,dataV h 8 v=some (.slice c.policies.nl l)->l=(c.policies.l.map Pol.own).map Pol.c->iP h (Cq c v)=some c.own.c:=λh v l hv hl=>by
  subst hl;simp only [Cq,AR];simp only [iP,List.mapM_cons,List.mapM_nil,hv];rfl
 rw [aN (q:=q90) (by kernel_rfl) (by kernel_rfl)];have key:=ax (E:=EO) (T:=TO) (val:=uA) [1,2,22,23,24] nT;cases hnl:c.policies.nl with
 | true =>
  have hl:=hc.2.2.2.1.2 hnl;have hd:c.policies.d Pol.c=.slice true []:=by simp [Sl.d,hnl,hl]
  rw [hnl,hl] at c4;simp [bL] at c4;have hv:=hcv ⟨[.cells (Cq c (.d (.slice true []))),.cells (Cq c (.d (.slice true [])))],0⟩ (.d (.slice true [])) [] (by rw [hnl]; rfl) (by rw [hl]; rfl);simp +decide [aa,q90,hd,c1,c2,c3,c4,hp4,hp5,hp6,hp7,hs7,aA,ae];rw [aj];simp;rw [key];simp [nT,hs8,hpz,hcl,hv]
 | false =>
  rw [hnl] at c4;cases hll:c.policies.l with
  | nil =>
   rw [hll] at c4;simp [bL] at c4;have hd:c.policies.d Pol.c=.slice false []:=by simp [Sl.d,hnl,hll]
   have hr:=bB (h:=⟨[.cells (Cq c (.row 2 0 0 (some 0) 5)),.cells (Cq c (.row 2 0 0 (some 0) 5)),.cells []],0⟩) (k:=7) (b:=2) (n:=0) (cap:=some 0) (es:=[]) (z:=5) (rest:=[]) (by simp) rfl rfl;have hv:=hcv ⟨[.cells (Cq c (.row 2 0 0 (some 0) 5)),.cells (Cq c (.row 2 0 0 (some 0) 5)),.cells []],0⟩ (.row 2 0 0 (some 0) 5) [] (by rw [hnl]; exact hr) (by rw [hll]; rfl);simp +decide [aa,q90,hd,c1,c2,c3,c4,hp4,hp5,hp6,hp7,hs7,aA,ae];rw [aj];simp;rw [key];simp [nT,hs8,hpz,hcl,hv]
  | cons p l' =>
   have hd:c.policies.d Pol.c=.slice false (c.policies.l.map Pol.c):=by simp [Sl.d,hnl]
   have hc2:∀ bs lo,bL 5 false (c.policies.l.map Pol.c) bs lo=(.row (bs.length+1) 0 c.policies.l.length none 5,⟨bs++[.cells [],.cells (flat (c.policies.l.map Pol.c))],lo⟩):=λbs lo=>by
    rw [hll]; simp [bL]
   simp only [hc2] at c4;have hf:∀ p∈c.policies.l,p.ok:=hc.2.2.2.2;have hlen:c.policies.l.length<2 ^ 62:=hc.2.2.2.1.lt;clear hll hc2;generalize hPL:c.policies.l=l at *;have hT:∀ R:Blk,Thin Pol.c 5 l [.cells (Cq c (.row 3 0 l.length none 5)),R,.cells [],.cells (flat (l.map Pol.c))] 3 [] [.cells (Cq c (.row 3 0 l.length none 5)),R,.cells [],.cells (flat (l.map Pol.c))]:=λR=>⟨br _,λ_ _ _=>rfl,by simp⟩;obtain ⟨bs',lo',k1,k2⟩:=L90 hlen hf (b:=3) (by simp) (by decide) (Co:=Cq c (.row 3 0 l.length none 5)) rfl rfl l.length 0 [] _ 0 (by omega) rfl (hT (.cells [(.d (.int .u64 0)),(.d (.int .u64 0)),(.d (.int .i64 0)),(.d (.int .i64 0)),(.d (.slice true [])),(.d (.slice true [])),(.d (.slice true [])),(.d (.slice true []))]));simp only [List.nil_append,List.drop_zero] at k2;have g0:au bs' 0=some (Cq c (.row 3 0 l.length none 5)):=by simp only [au]; rw [k2.old 0 (by decide) (by simp)]; rfl
   have g1:au bs' 1=some [(.d (.int .u64 0)),(.d (.int .u64 0)),(.d (.int .i64 0)),(.d (.int .i64 0)),(.d (.slice true [])),(.d (.slice true [])),(.d (.slice true [])),(.d (.slice true []))]:=by simp only [au]; rw [k2.old 1 (by decide) (by simp)]; rfl
   have hl1:1<bs'.length:=aK g1;have g3:=k2.row;have gs0:∀ cs,au (bs'.set 1 (.cells cs)) 1=some cs:=λcs=>by simp [au,hl1]
   have hr:=λcs lo=>bB (h:=⟨bs'.set 1 (.cells cs),lo⟩) (k:=7) (b:=3) (n:=l.length) (cap:=none) (es:=(l.map Pol.own).map Pol.c) (z:=5) (rest:=[]) (by simp) (by simp) (by
    simp only [au];rw [ac (by decide)];simp only [au] at g3;rw [g3];simp;have hfl:=bz (cells:=Pol.c) (z:=5) (λ_=>rfl) l;rw [hfl]; exact br _)
   have hv:=λcs lo=>hcv ⟨bs'.set 1 (.cells cs),lo⟩ (.row 3 0 l.length none 5) _ (by rw [hnl]; exact hr cs lo) rfl;simp +decide [aa,q90,hd,c1,c2,c3,c4,hp4,hp5,hp6,hp7,hs7,aA,ae];rw [aj];simp at k1;simp [k1,g0,g1,gs0,hs8,hpz,hcl,hv]
end
section
theorem tT {α:Type}{B:Nat}{l:List α}(h:l.length<=B):fit B ⟨l.isEmpty,l⟩:=⟨h,λhh=>by simpa using hh⟩
theorem Rule.own_wf {B:Nat}{r:Rule}(h:r.wf B):r.own.wf B:=⟨⟨tT h.1.1.1,h.1.2⟩,⟨tT h.2.1.1.1,h.2.1.2⟩,⟨tT h.2.2.1.1,h.2.2.2⟩⟩
theorem Pol.own_wf {B:Nat}{p:Pol}(h:p.wf B):p.own.wf B:=by
 refine ⟨h.1,h.2.1,h.2.2.1,h.2.2.2.1,⟨?_,λhh=>by simpa [Pol.own] using hh⟩,λx hx=>?_⟩
 . simp only [Pol.own,cb]; exact h.2.2.2.2.1.1
 . obtain ⟨r,hr,rfl⟩:=cd.1 hx;exact Rule.own_wf (h.2.2.2.2.2 r hr)
theorem Cfg.own_wf {B:Nat}{c:Cfg}(h:c.wf B):c.own.wf B:=by
 obtain ⟨h1,h2,h3,h4,h5,h6,h7,h8⟩:=h;refine ⟨h1,h2,h3,h4,h5,h6,h7,⟨?_,λhh=>?_⟩,λx hx=>?_⟩
 . simp only [Cfg.own,cb]; exact h8.1.1
 . simp only [Cfg.own] at hh ⊢; rw [h8.1.2 hh]; rfl
 . obtain ⟨p,hp,rfl⟩:=cd.1 hx;exact Pol.own_wf (h8.2 p hp)
theorem BS {α:Type}{key:α->Int}{x y:α}{l:List α}(h:y∈kU key x l):y=x\/y∈l/\key y≠key x:=by
 have:=(List.mergeSort_perm _ _).mem_iff.1 h;simp only [List.mem_append,List.mem_filter,List.mem_singleton] at this;obtain ⟨a,b⟩ | h:=this
 . exact .inr ⟨a,by simpa using b⟩
 . exact .inl h
theorem K3 {α:Type}{key:α->Int}{x:α}{l:List α}:(kU key x l).length<=l.length+1:=by
 unfold kU;rw [List.length_mergeSort,aq];have:=List.length_filter_le (λe=>!(key e==key x)) l;simp only [List.length_singleton]; omega
theorem zT {α:Type}{B:Nat}{f:Nat->α->Prop}{key:α->Int}{x:α}{s:Sl α}(h:s.wf B f)(hx:f B x)(hl:s.l.length+1<=B):(⟨false,kU key x s.l⟩:Sl α).wf B f :=
 ⟨⟨ch K3 hl,λh=>by cases h⟩,λy hy=>by obtain rfl | h':=BS hy; exact hx; exact h.2 y h'.1⟩
theorem zR {α:Type}{B:Nat}{f:Nat->α->Prop}{key:α->Int}{n:Int}{s:Sl α}(h:s.wf B f):(outT key n s).wf B f :=
 ⟨⟨ch (List.length_filter_le _ _) h.1.1,λhn=>by have:=h.1.2 hn; simp [outT,this]⟩,λy hy=>h.2 y (List.mem_filter.1 hy).1⟩
def Edt.wf (B:Nat)(e:Edt):Prop:=Inr .i64 e.kind/\Inr .u64 e.id/\e.pod.wf B/\e.svc.wf B/\e.way.wf B/\e.pol.wf B
theorem vz (n:Int):Inr .u64 (wrap .u64 n):=by
 simp only [Inr,wrap,IntKind.bits,IntKind.signed,Bool.false_and,bo,if_false];simp [Lit.wf,IntKind.min,IntKind.max,IntKind.bits,IntKind.signed] at *;omega
theorem ES {B:Nat}{c:Cfg}{p:Pod}(h:c.wf B)(hp:p.wf B)(hl:c.pods.l.length+1<=B):(CW c p).wf B :=
 ⟨h.1,vz _,h.2.2.1,h.2.2.2.1,zT h.2.2.2.2.1 ⟨h.2.1,hp.2⟩ hl,h.2.2.2.2.2⟩
theorem uu {c:Cfg}(h:fu c=true):c.pods.l.length<=16/\c.services.l.length<=6/\c.bound.l.length<=4/\c.policies.l.length<=12:=by
 simp only [fu,aw,bw] at h;omega
theorem ww {B:Nat}{c:Cfg}{e:Edt}(h:c.wf B)(he:e.wf B)(hB:17<=B)(hs:fu c=true):(bU c e).1.wf B:=by
 obtain ⟨l1,l2,l3,l4⟩:=uu hs;obtain ⟨e1,e2,e3,e4,e5,e6⟩:=he;have ho:∀ n,({ c with pods:=outT Pod.uid n c.pods }:Cfg).wf B:=λn=>⟨h.1,h.2.1,h.2.2.1,h.2.2.2.1,zR h.2.2.2.2.1,h.2.2.2.2.2⟩;unfold bU;split
 . exact ES h e3 (by omega)
 split
 . exact ho _
 split
 . split
   . rename_i p hp;have hpw:=h.2.2.2.2.1.2 p (List.mem_of_find?_eq_some hp);refine ES (ho _) ⟨hpw.1,hpw.2.1,hpw.2.2.1,e3.2.2.2.1,e3.2.2.2.2.1,hpw.2.2.2.2.2⟩ ?_;have:=List.length_filter_le (λx=>!(Pod.uid x==e.id)) c.pods.l;simp only [outT]; omega
   . exact h
 split
 . exact ⟨h.1,h.2.1,h.2.2.1,h.2.2.2.1,h.2.2.2.2.1,zT h.2.2.2.2.2.1 e4 (by omega),h.2.2.2.2.2.2⟩
 split
 . exact ⟨h.1,h.2.1,h.2.2.1,h.2.2.2.1,h.2.2.2.2.1,zR h.2.2.2.2.2.1,h.2.2.2.2.2.2⟩
 split
 . exact ⟨h.1,h.2.1,h.2.2.1,h.2.2.2.1,h.2.2.2.2.1,h.2.2.2.2.2.1,zT h.2.2.2.2.2.2.1 e5 (by omega),h.2.2.2.2.2.2.2⟩
 split
 . exact ⟨h.1,h.2.1,h.2.2.1,h.2.2.2.1,h.2.2.2.2.1,h.2.2.2.2.2.1,zR h.2.2.2.2.2.2.1,h.2.2.2.2.2.2.2⟩
 split
 . exact ⟨h.1,h.2.1,h.2.2.1,h.2.2.2.1,h.2.2.2.2.1,h.2.2.2.2.2.1,h.2.2.2.2.2.2.1,zT h.2.2.2.2.2.2.2 (Pol.own_wf e6) (by omega)⟩
 split
 . exact ⟨h.1,h.2.1,h.2.2.1,h.2.2.2.1,h.2.2.2.2.1,h.2.2.2.2.2.1,h.2.2.2.2.2.2.1,zR h.2.2.2.2.2.2.2⟩
 . exact h
def cfg0:Cfg:=⟨0,0,0,0,⟨true,[]⟩,⟨true,[]⟩,⟨true,[]⟩,⟨true,[]⟩⟩
def oV (c d:Cfg):Bool:=decide (c.epoch>=4611686018427387903)||decide (d.next>4611686018427387904)||!fu d
def iH (d:Cfg):Cfg:={ d with epoch:=wrap .u64 (d.epoch+1) }
def bE (c:Cfg)(e:Edt):Cfg×Int :=
 if bK c=false then (cfg0,1)
 else if (bU c.own e).2≠0 then (cfg0,(bU c.own e).2)
 else if oV c (bU c.own e).1=true then (cfg0,3)
 else if rU (iH (bU c.own e).1)=false then (cfg0,1)
 else if (fe (iH (bU c.own e).1)).length>8192 then (cfg0,6)
 else (iH (bU c.own e).1,0)
section
variable {E:Calls'}(hE:EP E)(h385:∀ t:Target,t.wf big->∀ h,E 280 [ag t.c] h=some (bl (aZ t),h))(h90:∀ args h,E 26 args h=Sm EO TO uA 26 args h)
include hE h385 h90
omit hE h385 in
theorem S90 (c:Cfg)(hc:c.ok)(h:Hp):Sm E TT ah 26 [c.v] h=some (c.own.v,h):=by
 rw [aG (by kernel_rfl),h90]; exact O90 c hc h
omit hE h385 h90 in
theorem I7 {c:Cfg}(h:bK c=true):Open c.own:=by
 have hf:=h;simp only [bK,aw] at hf;have hm:=hf.1.2;obtain ⟨l1,l2,l3,l4⟩:=uu hf.1.1;simp only [rU,aw,jT,fI,mf,eP] at hm;refine ⟨cg l1 (by decide),jJ hm.1.1.1.1.2.2,cg l2 (by decide),jJ hm.1.1.1.2.2,cg l3 (by decide),jJ hm.1.2.2,?_,?_⟩
 . simp only [Cfg.own,cb]; exact cg l4 (by decide)
 . have:c.own.policies.l.map Pol.id=c.policies.l.map Pol.id:=by simp [Cfg.own,Pol.own]
   rw [this]; exact jJ hm.2.2
theorem S36 (c:Cfg)(hc:c.wf 1048576)(hcb:c.wf big)(e:Edt)(he:e.wf 1048576)(heb:e.wf big)(h:Hp):Sm E TT ah 9 [c.v,ag e.c] h=some (.tup [ag (bE c e).1.c,.d (i64 (bE c e).2)],h):=by
 have n41:=λh=>S41 h385 c hc hcb h;rw [aN t36 v36];cases hm:bK c with
 | false =>
  simp only [hm] at n41;have:bE c e=(cfg0,1):=by simp [bE,hm]
  rw [this];simp +decide [aa,q36,n41,cfg0];rfl
 | true =>
  simp only [hm] at n41;have hsm:fu c.own=true:=by
   simp only [bK,aw] at hm;have hso:fu c.own=fu c:=by unfold fu; simp only [Cfg.own,cb]; rfl
   rw [hso]; exact hm.1.1
  have hok:=hc.ok (by decide);have n90:=λh=>S90 h90 c hok h;have ho:=I7 hm;obtain ⟨ys,lo',n91⟩:=S91 hE c.own (Cfg.own_wf hcb |>.ok (br _)) ho e (heb.2.2.2.2.2.fits) (c.c.map .d) (e.c.map .d) [(.d (.int .u64 0)),(.d (.int .u64 0)),(.d (.int .i64 0)),(.d (.int .i64 0)),(.d (.slice true [])),(.d (.slice true [])),(.d (.slice true [])),(.d (.slice true []))] 0;have w1:=ww (Cfg.own_wf hc) he (by decide) hsm;have w2:=ww (Cfg.own_wf hcb) heb (by decide) hsm;have hA:bE c e=(if (bU c.own e).2≠0 then (cfg0,(bU c.own e).2)
   else if oV c (bU c.own e).1=true then (cfg0,3)
   else if rU (iH (bU c.own e).1)=false then (cfg0,1)
   else if (fe (iH (bU c.own e).1)).length>8192 then (cfg0,6)
   else (iH (bU c.own e).1,0)):=by simp [bE,hm]
  rw [hA];clear hA;generalize hd:(bU c.own e).1=d at *;generalize hf:(bU c.own e).2=f at *;have n92:=λh=>S92 (E:=E) d h;have wn1:(iH d).wf 1048576:=⟨vz _,w1.2⟩;have wn2:(iH d).wf big:=⟨vz _,w2.2⟩;have n93:=λh=>S93 h385 (iH d) wn1 wn2 h;have hnx:put (d.c.map V.d) 0 [.d (.int .u64 (wrap .u64 (d.epoch+1)))]=some ((iH d).c.map V.d):=rfl;have hz:ag [(.int .u64 0),(.int .u64 0),(.int .i64 0),(.int .i64 0),(.slice true []),(.slice true []),(.slice true []),(.slice true [])]=ag cfg0.c:=rfl;by_cases k1:f=0
  case neg =>
   by_cases a1:c.epoch>=4611686018427387903
   . simp +decide [aa,q36,n41,n90,n91,k1,hnx,a1,ai,hz]
   . by_cases a2:d.next>4611686018427387904
     . simp +decide [aa,q36,n41,n90,n91,k1,hnx,a1,a2,ai,hz]
     . simp +decide [aa,q36,n41,n90,n91,n92,k1,hnx,a1,a2,ai,hz]
  subst k1;by_cases a1:c.epoch>=4611686018427387903
  . have hfu:oV c d=true:=by simp [oV,a1]
    simp +decide [aa,q36,n41,n90,n91,hfu,hnx,a1,ai,hz]
  by_cases a2:d.next>4611686018427387904
  . have hfu:oV c d=true:=by simp [oV,a1,a2]
    simp +decide [aa,q36,n41,n90,n91,hfu,hnx,a1,a2,ai,hz]
  cases a3:fu d with
  | false =>
   simp only [a3] at n92;have hfu:oV c d=true:=by simp [oV,a1,a2,a3]
   simp +decide [aa,q36,n41,n90,n91,n92,hfu,hnx,a1,a2,ai,hz]
  | true =>
   simp only [a3] at n92;have hfu:oV c d=false:=by simp [oV,a1,a2,a3]
   cases a4:rU (iH d) with
   | false =>
    simp only [a4] at n93;simp +decide [aa,q36,n41,n90,n91,n92,n93,hfu,hnx,a1,a2,ai,hz]
   | true =>
    simp only [a4] at n93;have a3':fu (iH d)=true:=a3;have hle:=yg a3' a4;have hp:eP (iH d)=true:=by
     simp only [rU,aw] at a4;exact a4.2
    have n94:=λh=>S94 h385 (iH d) wn2 (ib hp) (ch hle (by decide)) h;have hl:∀ h,mo false (.d (bytesD (fe (iH d)))) h=some (.d (i64 (fe (iH d)).length),h):=λh=>by
     simp [bytesD]
    generalize hL:bytesD (fe (iH d))=L at *;generalize (fe (iH d)).length=k at *;by_cases a5:k>8192
    . have a5':((k:Int)>8192):=by omega
      simp +decide [aa,q36,n41,n90,n91,n92,n93,n94,hl,hfu,hnx,a1,a2,a5,a5',ai,hz]
    . have a5':¬ ((k:Int)>8192):=by omega
      simp +decide [aa,q36,n41,n90,n91,n92,n93,n94,hl,hfu,hnx,a1,a2,a5,a5',ai]
end
end
section
def Bw (e:Edt):Cfg:=⟨0,0,0,0,⟨false,[e.pod]⟩,⟨false,[e.svc]⟩,⟨true,[]⟩,⟨false,[e.pol]⟩⟩
section
variable {E:Calls'}(h385:∀ t:Target,t.wf big->∀ h,E 280 [ag t.c] h=some (bl (aZ t),h))
theorem uR {h:Hp}{k b o n z:Nat}{cap:Option Nat}{d:D}(hd:dataV h (k+1) (.row b o n cap z)=some d):∃ l,d=.slice false l:=by
 simp only [dataV] at hd;split at hd
 . split at hd
   . split at hd
     . cases hd; exact ⟨_,rfl⟩
     . cases hd
   . cases hd
 . cases hd
theorem Be {h:Hp}{r:V}{b:Bool}(hr:frz h r=some (bl b)):r=bl b:=by
 cases r with
 | d x=>simpa using hr
 | row b' o n cap z =>
  exfalso;simp only [frz,iV] at hr;cases hd:dataV h 8 (.row b' o n cap z) with
  | none=>rw [hd] at hr; cases hr
  | some d =>
   rw [hd] at hr;obtain ⟨l,rfl⟩:=uR hd;cases hr
 | ptr b' o=>simp [frz,iV,dataV] at hr
 | eptr cs o=>simp [frz,iV,dataV] at hr
 | undef=>simp [frz,iV] at hr
 | fn f cs=>cases cs<;>simp [frz,iV] at hr
 | mfn f cs=>simp [frz,iV,dataV] at hr
 | agg cs =>
  simp only [frz,iV] at hr;split at hr<;>cases hr
 | tup vs =>
  simp only [frz] at hr;split at hr<;>cases hr
theorem P7 {T:FuncId->Option QF}{val:FuncId->Bool}{f:FuncId}{q:QF}(ht:T f=some q)(hv:val f=true){l:List D}{b:Bool}(h0:∀ h,Sm E T val f [ag l] h=some (bl b,h)){a:V}{h:Hp}(ha:frz h a=some (ag l)):Sm E T val f [a] h=some (bl b,h):=by
 have h1:=h0 h;rw [aN ht hv] at h1 ⊢;simp only [List.mapM_cons,List.mapM_nil,Dr,ha,Option.pure_def,Option.bind_eq_bind,Option.bind_some,xI,Ep] at h1 ⊢;cases hB:Bd E T val q [ag l] ⟨[],0⟩ with
 | none=>rw [hB] at h1; cases h1
 | some p =>
  obtain ⟨r,h'⟩:=p;rw [hB] at h1;simp only [IX] at h1 ⊢;cases hr:frz h' r with
  | none=>rw [hr] at h1; cases h1
  | some r' =>
   rw [hr] at h1;have e1:r'=bl b:=by
    simp at h1; exact h1
   subst e1;have:=Be hr;subst this;simp [qh,xc,rZ]
theorem S32 (e:Edt)(he:e.wf big):∃ b:Bool,∀ h,Sm E TT ah 8 [ag e.c] h=some (bl b,h):=by
 have hf:(Bw e).ok:=⟨⟨(by decide:1<=big),λh=>by cases h⟩,⟨(by decide:1<=big),λh=>by cases h⟩,⟨(by decide:0<=big),λ_=>rfl⟩,⟨(by decide:1<=big),λh=>by cases h⟩,by simp [Bw]; exact he.2.2.2.2.2.fits⟩;obtain ⟨b,hb⟩:=S31 (E:=E) (Bw e) hf;refine ⟨b,λh=>?_⟩;rw [aN t32 v32];have hp:=bB (h:=⟨[.cells (e.c.map .d),.cells (e.pod.c.map .d),.cells (e.svc.c.map .d),.cells (e.pol.c.map .d)],0⟩) (k:=7) (b:=1) (n:=1) (cap:=some 1) (es:=[e.pod.c]) (z:=7) (rest:=[]) (by simp) rfl (by simp [flat]);have hs:=bB (h:=⟨[.cells (e.c.map .d),.cells (e.pod.c.map .d),.cells (e.svc.c.map .d),.cells (e.pol.c.map .d)],0⟩) (k:=7) (b:=2) (n:=1) (cap:=some 1) (es:=[e.svc.c]) (z:=5) (rest:=[]) (by simp) rfl (by simp [flat]);have hq:=bB (h:=⟨[.cells (e.c.map .d),.cells (e.pod.c.map .d),.cells (e.svc.c.map .d),.cells (e.pol.c.map .d)],0⟩) (k:=7) (b:=3) (n:=1) (cap:=some 1) (es:=[e.pol.c]) (z:=5) (rest:=[]) (by simp) rfl (by simp [flat]);have hfz:frz ⟨[.cells (e.c.map .d),.cells (e.pod.c.map .d),.cells (e.svc.c.map .d),.cells (e.pol.c.map .d)],0⟩ (.agg [.d (.int .u64 0),.d (.int .u64 0),.d (.int .i64 0),.d (.int .i64 0),.row 1 0 1 (some 1) 7,.row 2 0 1 (some 1) 5,.d (.slice true []),.row 3 0 1 (some 1) 5])=some (ag (Bw e).c):=by
  simp only [J6,iP,List.mapM_cons,List.mapM_nil,hp,hs,hq];rfl
 have n31:=P7 (E:=E) t31 v31 (l:=(Bw e).c) hb hfz;simp +decide [aa,q32,az,n31]
end
end
section
def Steps (c d:Cfg):Prop:=(∀ q∈d.pods.l,q∈c.pods.l\/(q.uid=c.next/\d.next=wrap .u64 (c.next+1)))/\(d.next=c.next\/d.next=wrap .u64 (c.next+1))/\d.epoch=c.epoch
theorem Dl (c:Cfg)(e:Edt):Steps c (bU c e).1:=by
 have hadd:∀ (s:Sl Pod) (p:Pod),(∀ q∈s.l,q∈c.pods.l)->Steps c (CW { c with pods:=s } p):=λs p hs =>
  ⟨λq hq=>by
   obtain rfl | h:=BS hq
   . exact .inr ⟨rfl,rfl⟩
   . exact .inl (hs q h.1),.inr rfl,rfl⟩
 have hsame:∀ d:Cfg,d.pods=c.pods->d.next=c.next->d.epoch=c.epoch->Steps c d:=λd h1 h2 h3=>⟨λq hq=>.inl (h1 ▸ hq),.inl h2,h3⟩;have hout:Steps c { c with pods:=outT Pod.uid e.id c.pods }:=⟨λq hq=>.inl (List.mem_filter.1 hq).1,.inl rfl,rfl⟩;unfold bU;split
 . exact hadd c.pods _ λq hq=>hq
 split
 . exact hout
 split
 . split
   . exact hadd _ _ λq hq=>(List.mem_filter.1 hq).1
   . exact hsame _ rfl rfl rfl
 iterate 6
  split
  . exact hsame _ rfl rfl rfl
 exact hsame _ rfl rfl rfl
theorem vQ {c:Cfg}{e:Edt}(h:(bE c e).2=0):bK c=true/\bK (bE c e).1=true/\(bE c e).1=iH (bU c.own e).1/\c.epoch<4611686018427387903:=by
 unfold bE at h ⊢;split at h
 . cases h
 rename_i h1;split at h
 . rename_i h2; exact absurd h h2
 rename_i h2;split at h
 . cases h
 rename_i h3;split at h
 . cases h
 rename_i h4;split at h
 . cases h
 rename_i h5;rw [if_neg h1,if_neg h2,if_neg h3,if_neg h4,if_neg h5];simp only [oV,Bool.or_eq_true,not_or,bw,Bool.not_eq_true',Bool.not_eq_false] at h3;refine ⟨by simpa using h1,?_,rfl,by omega⟩;have hs:fu (iH (bU c.own e).1)=true:=h3.2;simp only [bK,hs,Bool.true_and,aw,bw];exact ⟨by simpa using h4,by omega⟩
theorem Kv {c:Cfg}(h:bK c=true):10<=c.next/\c.next<=4611686018427387904/\(∀ p∈c.pods.l,p.uid<c.next)/\(c.pods.l.map Pod.uid).Nodup:=by
 simp only [bK,rU,kF,jT,aw,bw,Bool.not_eq_true',List.any_eq_false] at h;obtain ⟨⟨_,⟨⟨⟨⟨⟨hn,hp⟩,_⟩,_⟩,_⟩,_⟩⟩,_⟩:=h;refine ⟨by omega,by omega,λp hp'=>?_,jJ hp.2⟩;have:=hp.1 p hp';simp only [dZ,dN,Bool.or_eq_true,not_or,bw] at this;omega
def Bf (c d:Cfg)(gone:List Int):List Int:=gone++(c.pods.l.filter λp=>(d.pods.l.find? λq=>q.uid==p.uid).isNone).map Pod.uid
def Kept (c:Cfg)(gone:List Int):Prop:=∀ g∈gone,g<c.next/\g ∉ c.pods.l.map Pod.uid
theorem I4 {n:Int}(h1:0<=n)(h2:n<=4611686018427387904):wrap .u64 (n+1)=n+1:=by
 simp [wrap,IntKind.bits,IntKind.signed]; omega
theorem PZ {l:List Pod}(h:(l.map Pod.uid).Nodup){p q:Pod}(hp:p∈l)(hq:q∈l)(he:p.uid=q.uid):p=q:=by
 have h1:=wI h hp;have h2:=wI h hq;rw [he] at h1;rw [h1] at h2;exact cr h2
theorem stays {c:Cfg}{e:Edt}{gone:List Int}(hk:Kept c gone)(hok:(bE c e).2=0) :
 (∀ p∈c.pods.l,∀ q,(bE c e).1.pods.l.find? (λx=>x.uid==p.uid)=some q->q=p) ∧
 (∀ q∈(bE c e).1.pods.l,c.pods.l.find? (λx=>x.uid==q.uid)=none->q.uid=c.next/\(bE c e).1.next=wrap .u64 (c.next+1)) ∧
 (∀ q∈(bE c e).1.pods.l,q.uid ∉ Bf c (bE c e).1 gone)/\Kept (bE c e).1 (Bf c (bE c e).1 gone) ∧
 bK (bE c e).1=true/\c.next<=(bE c e).1.next/\(bE c e).1.next<=wrap .u64 (c.next+1)/\(bE c e).1.epoch=wrap .u64 (c.epoch+1):=by
 obtain ⟨h1,h2,h3,h4⟩:=vQ hok;have hst:=Dl c.own e;obtain ⟨a1,a2,a3,a4⟩:=Kv h1;have hw:=I4 (n:=c.next) (by omega) a2;have hst':(∀ q∈(bE c e).1.pods.l,q∈c.pods.l\/(q.uid=c.next/\(bE c e).1.next=wrap .u64 (c.next+1)))/\((bE c e).1.next=c.next\/(bE c e).1.next=wrap .u64 (c.next+1))/\(bE c e).1.epoch=wrap .u64 (c.epoch+1):=by
  rw [h3];exact ⟨hst.1,hst.2.1,by show wrap .u64 ((bU c.own e).1.epoch+1)=_; rw [hst.2.2]; rfl⟩
 generalize (bE c e).1=d at *;obtain ⟨b1,b2,b3⟩:=hst';have hnx:c.next<=d.next/\d.next<=c.next+1:=by obtain h | h:=b2<;>omega
 have hgone:∀ q∈d.pods.l,q.uid ∉ Bf c d gone:=by
  intro q hq hg;simp only [Bf,List.mem_append,cd,List.mem_filter] at hg;obtain hg | ⟨p,⟨hp,hf⟩,he⟩:=hg
  . obtain ⟨g1,g2⟩:=hk _ hg;obtain hc | ⟨hc,_⟩:=b1 q hq
    . exact g2 (cd.2 ⟨q,hc,rfl⟩)
    . omega
  . rw [Option.isNone_iff_eq_none,List.find?_eq_none] at hf;exact hf q hq (by simp [he])
 refine ⟨λp hp q hq=>?_,λq hq hn=>?_,hgone,λg hg=>⟨?_,λhh=>?_⟩,h2,hnx.1,by omega,b3⟩
 . have hm:=List.mem_of_find?_eq_some hq;have he:=List.find?_some hq;simp only [beq_iff_eq] at he;obtain hc | ⟨hc,_⟩:=b1 q hm
   . exact PZ a4 hc hp he
   . have:=a3 p hp; omega
 . obtain hc | hc:=b1 q hq
   . rw [List.find?_eq_none] at hn;exact absurd (by simp) (hn q hc)
   . exact hc
 . simp only [Bf,List.mem_append,cd,List.mem_filter] at hg;obtain hg | ⟨p,⟨hp,hf⟩,rfl⟩:=hg
   . have:=(hk _ hg).1; omega
   . have:=a3 p hp; omega
 . obtain ⟨q,hq,rfl⟩:=cd.1 hh;exact hgone q hq hg
end
section
section
variable {E:Calls'}{T:FuncId->Option QF}{val:FuncId->Bool}
theorem JZ {α:Type}{cells:α->List D}{z:Nat}(hz:∀ x,(cells x).length=z)(hz0:0<z){k:EQ}{p:α->α->Bool}{s t:Sl α}(hl:s.l.length=t.l.length)(hs:s.l.length<2 ^ 62)
 (he:∀ x y h,eqv k true (ag (cells x)) (ag (cells y)) h=some (.d (.bool (p x y != true)),h)) (h:Hp):∀ (m i:Nat),i+m=s.l.length →
   Cd E T val (.loop [0,1,12,13] (Dp z k)) [(0,.d (s.d cells)),(1,.d (t.d cells)),(12,.d (i64 s.l.length)),(13,.d (i64 i))] h =
    if all2 p (s.l.drop i) (t.l.drop i) then some (.exit 0,[],h) else some (.ret,[(4,bl false)],h):=by
 intro m;have key:=ax (E:=E) (T:=T) (val:=val) [0,1,12,13] (Dp z k);generalize Cd E T val (.loop [0,1,12,13] (Dp z k))=W at key ⊢
 induction m with
 | zero =>
  intro i hi;rw [key,bb (by omega),bb (by omega)];simp [Dp,all2,show ¬ ((i:Int)<s.l.length) from by omega]
 | succ m ih =>
  intro i hi;have h1:i<s.l.length:=by omega
  have h2:i<t.l.length:=by omega
  have hx:=λh=>bv (z:=z) h (ab h1) (hz _);have hy:=λh=>bv (z:=z) h (ab h2) (hz _);have hw:=aI h1 hs;have:=ih (i+1) (by omega);rw [key,tC h1 h2];generalize s.l[i]=x at *;generalize t.l[i]=y at *;have sx:=bQ (hz x);have sy:=bQ (hz y);cases hq:p x y with
  | false=>simp [Dp,hx,hy,sx,sy,he,hq,show ((i:Int)<s.l.length) from by omega]
  | true =>
   simp [Dp,hx,hy,sx,sy,he,hq,hw,show ((i:Int)<s.l.length) from by omega];simpa using this
theorem Aw {α:Type}{cells:α->List D}{z:Nat}{id:FuncId}(hz:∀ x,(cells x).length=z)(hz0:0<z){k:EQ}{p:α->α->Bool}(ht:T id=some (eqlQ z k))(hv:val id=true){s t:Sl α}(hs:s.l.length<2 ^ 62)
 (he:∀ x y h,eqv k true (ag (cells x)) (ag (cells y)) h=some (.d (.bool (p x y != true)),h)) (h:Hp):Sm E T val id [.d (s.d cells),.d (t.d cells)] h=some (bl (all2 p s.l t.l),h):=by
 rw [aN ht hv];by_cases hl:s.l.length=t.l.length
 . have k1:=λh=>JZ (E:=E) (T:=T) (val:=val) hz hz0 hl hs he h s.l.length 0 (by omega);simp [hl] at k1;simp [aa,eqlQ,hl];rw [aj];simp [k1];cases all2 p s.l t.l<;>simp
 . have hl':¬ ((s.l.length:Int)=t.l.length):=by omega
   rw [zf hl];simp [aa,eqlQ,hl']
theorem GH {α:Type}{cell:α->D}{k:EQ}{p:α->α->Bool}{s t:Sl α}(hl:s.l.length=t.l.length)(hs:s.l.length<2 ^ 62)
 (he:∀ x y h,eqv k true (.d (cell x)) (.d (cell y)) h=some (.d (.bool (p x y != true)),h)) (h:Hp):∀ (m i:Nat),i+m=s.l.length →
   Cd E T val (.loop [0,1,12,13] (wC k)) [(0,.d (s.d λx=>[cell x])),(1,.d (t.d λx=>[cell x])),(12,.d (i64 s.l.length)),(13,.d (i64 i))] h =
    if all2 p (s.l.drop i) (t.l.drop i) then some (.exit 0,[],h) else some (.ret,[(4,bl false)],h):=by
 intro m;have key:=ax (E:=E) (T:=T) (val:=val) [0,1,12,13] (wC k);generalize Cd E T val (.loop [0,1,12,13] (wC k))=W at key ⊢
 induction m with
 | zero =>
  intro i hi;rw [key,bb (by omega),bb (by omega)];simp [wC,all2,show ¬ ((i:Int)<s.l.length) from by omega]
 | succ m ih =>
  intro i hi;have h1:i<s.l.length:=by omega
  have h2:i<t.l.length:=by omega
  have hx:=λh=>bv (z:=1) h (ab h1) (cells:=λx=>[cell x]) rfl;have hy:=λh=>bv (z:=1) h (ab h2) (cells:=λx=>[cell x]) rfl;have hw:=aI h1 hs;have:=ih (i+1) (by omega);rw [key,tC h1 h2];generalize s.l[i]=x at *;generalize t.l[i]=y at *;cases hq:p x y with
  | false=>simp [wC,hx,hy,he,hq,show ((i:Int)<s.l.length) from by omega]
  | true =>
   simp [wC,hx,hy,he,hq,hw,show ((i:Int)<s.l.length) from by omega];simpa using this
theorem Jf {α:Type}{cell:α->D}{id:FuncId}{k:EQ}{p:α->α->Bool}(ht:T id=some (eql1Q k))(hv:val id=true){s t:Sl α}(hs:s.l.length<2 ^ 62)
 (he:∀ x y h,eqv k true (.d (cell x)) (.d (cell y)) h=some (.d (.bool (p x y != true)),h)) (h:Hp):Sm E T val id [.d (s.d λx=>[cell x]),.d (t.d λx=>[cell x])] h=some (bl (all2 p s.l t.l),h):=by
 rw [aN ht hv];by_cases hl:s.l.length=t.l.length
 . have k1:=λh=>GH (E:=E) (T:=T) (val:=val) hl hs he h s.l.length 0 (by omega);simp [hl] at k1;simp [aa,eql1Q,hl];rw [aj];simp [k1];cases all2 p s.l t.l<;>simp
 . have hl':¬ ((s.l.length:Int)=t.l.length):=by omega
   rw [zf hl];simp [aa,eql1Q,hl']
theorem JW {α:Type}{cells:α->List D}{z:Nat}{zero:List V}(hz:∀ x,(cells x).length=z)(hz0:0<z)(hzero:zero.length=z){f:FuncId}{p:α->α->Bool}{s t:Sl α}(hl:s.l.length=t.l.length)(hs:s.l.length<2 ^ 62)
 (hf:∀ x∈s.l,∀ y∈t.l,∀ h,Sm E T val f [ag (cells x),ag (cells y)] h=some (bl (p x y),h)):∀ (m i:Nat) (bs:List Blk) (lo:Nat),i+m=s.l.length->lo=0 →
   ∃ bs',Cd E T val (.loop [1,2,15,16,17] (Dn z zero)) [(1,.d (t.d cells)),(2,.fn f []),(15,.d (s.d cells)),(16,.d (i64 s.l.length)),(17,.d (i64 i))] ⟨bs,lo⟩ =
    if all2 p (s.l.drop i) (t.l.drop i) then some (.exit 0,[],⟨bs',0⟩) else some (.ret,[(6,bl false)],⟨bs',0⟩):=by
 intro m;have key:=ax (E:=E) (T:=T) (val:=val) [1,2,15,16,17] (Dn z zero);generalize Cd E T val (.loop [1,2,15,16,17] (Dn z zero))=W at key ⊢
 induction m with
 | zero =>
  rintro i bs lo hi rfl;refine ⟨bs,?_⟩;rw [key,bb (by omega),bb (by omega)];simp [Dn,all2,show ¬ ((i:Int)<s.l.length) from by omega]
 | succ m ih =>
  rintro i bs lo hi rfl;have h1:i<s.l.length:=by omega
  have h2:i<t.l.length:=by omega
  have hx:=λh=>bv (z:=z) h (ab h1) (hz _);have hy:=λh=>bv (z:=z) h (ab h2) (hz _);have hw:=aI h1 hs;have hc:=hf _ (bj h1) _ (bj h2);rw [key,tC h1 h2];generalize s.l[i]=x at *;generalize t.l[i]=y at *;have sx:=bQ (hz x);have sy:=bQ (hz y);have px:put zero 0 ((cells x).map V.d)=some ((cells x).map .d):=by simp [put,hz,hzero]
  have py:put zero 0 ((cells y).map V.d)=some ((cells y).map .d):=by simp [put,hz,hzero]
  cases hq:p x y with
  | false =>
   refine ⟨bs++[.cells ((cells x).map .d),.cells ((cells y).map .d)],?_⟩;simp [Dn,hx,hy,sx,sy,px,py,hc,hq,hz0,hz,show ((i:Int)<s.l.length) from by omega]
  | true =>
   obtain ⟨bs',q⟩:=ih (i+1) (bs++[.cells ((cells x).map .d),.cells ((cells y).map .d)]) 0 (by omega) rfl;refine ⟨bs',?_⟩;simp [Dn,hx,hy,sx,sy,px,py,hc,hq,hw,hz0,hz,show ((i:Int)<s.l.length) from by omega];simpa using q
theorem Av {α:Type}{cells:α->List D}{z:Nat}{zero:List V}{id:FuncId}(hz:∀ x,(cells x).length=z)(hz0:0<z)(hzero:zero.length=z){f:FuncId}{p:α->α->Bool}(ht:T id=some (eqfQ z zero))(hv:val id=true){s t:Sl α}(hs:s.l.length<2 ^ 62)
 (hf:∀ x∈s.l,∀ y∈t.l,∀ h,Sm E T val f [ag (cells x),ag (cells y)] h=some (bl (p x y),h)) (h:Hp):Sm E T val id [.d (s.d cells),.d (t.d cells),.fn f []] h=some (bl (all2 p s.l t.l),h):=by
 rw [aN ht hv];have hfr:frz h (.fn f [])=some (.fn f []):=rfl;by_cases hl:s.l.length=t.l.length
 . obtain ⟨bs',k1⟩:=JW (E:=E) (T:=T) (val:=val) hz hz0 hzero hl hs hf s.l.length 0 [] 0 (by omega) rfl;simp [hl] at k1;simp [aa,eqfQ,hl,hfr];rw [aj];simp [k1];cases all2 p s.l t.l<;>simp [dK,qh,xc,rZ]
 . have hl':¬ ((s.l.length:Int)=t.l.length):=by omega
   rw [zf hl];simp [aa,eqfQ,hl',hfr,dK,qh,xc,rZ]
end
def Cfg.same (a b:Cfg):Bool:=a.epoch==b.epoch&&a.next==b.next&&a.hosts==b.hosts&&a.ways==b.ways&&(all2 Pod.eqB a.pods.l b.pods.l&&(all2 Svc.eqB a.services.l b.services.l&&(all2 Way.eqB a.bound.l b.bound.l&&all2 Pol.same a.policies.l b.policies.l)))
end
section
def Lg (n:Int)(x:Int):Prop:=0<=n/\x<2 ^ n.toNat/\(1<=x->2 ^ n.toNat<=2 * x)
theorem NG:((List.range 256).all λi=>decide ((i:Int)<2 ^ (lenT i).toNat)&&(decide (i=0)||decide ((2:Int) ^ (lenT i).toNat<=2 * i)))=true:=by decide +kernel
theorem ED {x:Int}(h0:0<=x)(h1:x<256):Lg (lenT (wrap .u8 x).toNat) x:=by
 have hw:wrap .u8 x=x:=by simp [wrap,IntKind.bits,IntKind.signed]; omega
 rw [hw];have:=cm.1 NG x.toNat (List.mem_range.2 (by omega));simp only [aw,Bool.or_eq_true,bw] at this;have hx:((x.toNat:Nat):Int)=x:=by omega
 rw [hx] at this;exact ⟨(zI _).1,this.1,λh=>by obtain h2 | h2:=this.2<;>omega⟩
theorem vN {n x K:Int}(k:Nat)(hK:K=2 ^ k)(hK0:0<K)(hx:K<=x)(h:Lg n (x.fdiv K)):Lg ((k:Int)+n) x:=by
 obtain ⟨h0,h1,h2⟩:=h;have e:((k:Int)+n).toNat=k+n.toNat:=by omega
 rw [Int.fdiv_eq_ediv_of_nonneg _ (by omega)] at h1 h2;have hp:(2:Int) ^ (k+n.toNat)=K * 2 ^ n.toNat:=by rw [Int.pow_add,← hK]
 have hd:=Int.mul_ediv_add_emod x K;have hm:=Int.emod_nonneg x (show K≠0 by omega);have hl:=Int.emod_lt_of_pos x hK0;have hq:1<=x / K:=by
  have:=(Int.le_ediv_iff_mul_le hK0 (a:=1) (b:=x)).2 (by omega);exact this
 refine ⟨by omega,?_,λ_=>?_⟩
 . rw [e,hp];have:=(Int.ediv_lt_iff_lt_mul hK0).1 h1;rw [Int.mul_comm]; exact this
 . rw [e,hp];have h3:=Int.mul_le_mul_of_nonneg_left (h2 hq) (Int.le_of_lt hK0);have h4:K * (2 * (x / K))=2 * (K * (x / K)):=by rw [Int.mul_left_comm]
   omega
theorem Bt {x:Int}(h0:0<=x)(h1:x<2 ^ 64):Lg (bX x) x:=by
 have hb:∀ y,0<=y->y<65536->Lg ((if y>=256 then 8 else 0)+lenT (wrap .u8 (tV y)).toNat) y:=by
  intro y a b;by_cases c:y>=256
  . rw [if_pos c,tV,if_pos c];have hd:y.fdiv 256=y / 256:=Int.fdiv_eq_ediv_of_nonneg _ (by omega);exact vN (K:=256) 8 (by decide) (by omega) c (ED (by rw [hd]; omega) (by rw [hd]; omega))
  . rw [if_neg c,tV,if_neg c,Int.zero_add];exact ED a (by omega)
 have ha:∀ y,0<=y->y<4294967296->Lg ((if y>=65536 then 16 else 0)+((if oq y>=256 then 8 else 0)+lenT (wrap .u8 (tV (oq y))).toNat)) y:=by
  intro y a b;by_cases c:y>=65536
  . have hB:oq y=y.fdiv 65536:=by rw [oq,if_pos c]
    rw [if_pos c,hB];have hd:y.fdiv 65536=y / 65536:=Int.fdiv_eq_ediv_of_nonneg _ (by omega);exact vN (K:=65536) 16 (by decide) (by omega) c (hb _ (by rw [hd]; omega) (by rw [hd]; omega))
  . have hB:oq y=y:=by rw [oq,if_neg c]
    rw [if_neg c,hB,Int.zero_add];exact hb _ a (by omega)
 have hz:bX x=(if x>=4294967296 then 32 else 0)+((if ng x>=65536 then 16 else 0)+((if oq (ng x)>=256 then 8 else 0)+lenT (wrap .u8 (tV (oq (ng x)))).toNat)):=by
  unfold bX; omega
 rw [hz];by_cases c:x>=4294967296
 . have hA:ng x=x.fdiv 4294967296:=by rw [ng,if_pos c]
   rw [if_pos c,hA];have hd:x.fdiv 4294967296=x / 4294967296:=Int.fdiv_eq_ediv_of_nonneg _ (by omega);exact vN (K:=4294967296) 32 (by decide) (by omega) c (ha _ (by rw [hd]; omega) (by rw [hd]; omega))
 . have hA:ng x=x:=by rw [ng,if_neg c]
   rw [if_neg c,hA,Int.zero_add];exact ha _ h0 (by omega)
theorem xm (p:Pol):bY p.own=bY p:=by
 have:(p.rules.l.map Rule.own).all iq=p.rules.l.all iq:=by rw [List.all_map]; rfl
 simp only [bY,Pol.own,cb,this];rfl
theorem Pol.own_same (p:Pol):Pol.same p.own p=true:=by
 have:all2 Rule.same (p.rules.l.map Rule.own) p.rules.l=true:=by
  rw [Az]; exact eQ Rule.same_refl _
 simp [Pol.same,Pol.own,this]
theorem Cfg.same_refl (a:Cfg):a.same a=true:=by
 simp [Cfg.same,eQ (λ_=>Pod.eqB_iff.2 rfl),eQ (λ_=>Svc.eqB_iff.2 rfl),eQ (λ_=>Way.eqB_iff.2 rfl),eQ Pol.same_refl]
end
section
end
section
structure Scp where
 node:Int
 addrs:Sl Int
def kT (c:Cfg)(node:Int)(x:Svc):Bool:=match xK c x.id with
 | some w=>w.node==node
 | none=>false
def yB (c:Cfg)(p:Pod)(so:Svc->Bool):Bool:=c.services.l.any λx=>x.id==p.service&&so x
def DI (c:Cfg)(node:Int)(p:Pod):Bool:=p.host==node||yB c p (kT c node)
def xe (c:Cfg)(s:Scp)(p:Pod):Bool:=DI c s.node p||(fU s.addrs.l p.addr||yB c p λx=>fU s.addrs.l x.addr)
def ny (c:Cfg)(s:Scp):List Pod:=c.pods.l.filter (xe c s)
def CG (c:Cfg)(s:Scp)(x:Svc):Bool:=fU s.addrs.l x.addr||(kT c s.node x||(ny c s).any λp=>p.service==x.id)
def nz (c:Cfg)(s:Scp):List Svc:=c.services.l.filter (CG c s)
def Gp (c:Cfg)(s:Scp)(w:Way):Bool:=w.node==s.node||(nz c s).any λx=>x.way==w.id
def wV (c:Cfg)(s:Scp):List Way:=c.bound.l.filter (Gp c s)
def xg (c:Cfg)(node:Int)(p:Pol):Bool:=c.pods.l.any λx=>DI c node x&&mY p x.ns x.service
def zP (c:Cfg)(node:Int):List Pol:=(c.policies.l.map Pol.own).filter (xg c node)
def ofT (c:Cfg)(s:Scp)(cov:Sl Int):Vw:=⟨c.epoch,cov,⟨c.pods.nl,ny c s⟩,⟨c.services.nl,nz c s⟩,⟨c.bound.nl,wV c s⟩,⟨c.policies.nl,zP c s.node⟩⟩
def Cov (c:Cfg)(s:Scp)(cov:Sl Int):Prop:=∀ a,a∈cov.l↔a∈s.addrs.l\/∃ x∈c.services.l,kT c s.node x=true/\x.addr=a
theorem hasT_iff {l:List Int}{n:Int}:fU l n=true↔n∈l:=by
 simp [fU,List.find?_isSome]
end
section
def cmpL:List Int->List Int
 | []=>[]
 | [x]=>[x]
 | x::y::l=>if x=y then cmpL (y::l) else x::cmpL (y::l)
theorem cmpL_mem {x:Int}:∀ {l:List Int},x∈cmpL l↔x∈l
 | []=>by simp [cmpL]
 | [y]=>by simp [cmpL]
 | y::z::l=>by
  have ih:=cmpL_mem (x:=x) (l:=z::l);rw [cmpL];split
  . rename_i h; subst h;rw [ih]; simp
  . rw [List.mem_cons,ih,List.mem_cons (b:=y)]
theorem yn:∀ {l:List Int},l.Pairwise (·<=·)->(cmpL l).Pairwise (·<·)
 | [],_=>.nil
 | [y],_=>by simp [cmpL]
 | y::z::l,h=>by
  obtain ⟨h1,h2⟩:=List.pairwise_cons.1 h;have ih:=yn h2;rw [cmpL];split
  . exact ih
  . rename_i hne;refine List.pairwise_cons.2 ⟨λw hw=>?_,ih⟩;have h3:=h1 z (by simp);obtain rfl | h4:=List.mem_cons.1 (cmpL_mem.1 hw)
    . omega
    . have:=(List.pairwise_cons.1 h2).1 w h4; omega
theorem vY:∀ l:List Int,(cmpL l).length<=l.length
 | []=>by simp [cmpL]
 | [y]=>by simp [cmpL]
 | y::z::l=>by
  have ih:=vY (z::l);rw [cmpL];split<;>simp only [cj] at ih ⊢<;>omega
theorem IC {x:Int}{l:List Int}:x∈bI l↔x∈l:=(List.mergeSort_perm _ _).mem_iff
theorem LZ (l:List Int):(bI l).Pairwise (·<=·):=by
 have:=List.pairwise_mergeSort (le:=λa b:Int=>decide (a<=b)) (by intro a b c h1 h2; simp at *; omega) (by intro a b; simp; omega) l;exact this.imp (by intro a b h; simpa using h)
def eU (c:Cfg)(s:Scp):List Int:=cmpL (bI (s.addrs.l++(c.services.l.filter (kT c s.node)).map Svc.addr))
theorem GG {c:Cfg}{s:Scp}{nl:Bool}:Cov c s ⟨nl,eU c s⟩:=by
 intro a;show a∈eU c s↔_;rw [eU,cmpL_mem,IC,List.mem_append,cd];constructor
 . rintro (h | ⟨x,h1,h2⟩)
   . exact .inl h
   . exact .inr ⟨x,(List.mem_filter.1 h1).1,(List.mem_filter.1 h1).2,h2⟩
 . rintro (h | ⟨x,h1,h2,h3⟩)
   . exact .inl h
   . exact .inr ⟨x,List.mem_filter.2 ⟨h1,h2⟩,h3⟩
def gI (l:List Int)(most:Int):Bool:=(aU l&&decide ((l.length:Int)<=most))&&!fU l 0
def bW (s:Scp):Bool:=decide (s.node>=2)&&(decide (s.node<=9)&&gI s.addrs.l 32)
theorem kH:∀ {l:List Int},l.Pairwise (·<·)->aU l=true
 | [],_=>rfl
 | [x],_=>rfl
 | x::y::l,h=>by
  obtain ⟨h1,h2⟩:=List.pairwise_cons.1 h;simp only [aU,aw,bw];exact ⟨h1 y (by simp),kH h2⟩
theorem jV {α:Type}{key:α->Int}{p:α->Bool}{l:List α}(h:aU (l.map key)=true):aU ((l.filter p).map key)=true :=
 kH (List.Pairwise.sublist (List.Sublist.map _ List.filter_sublist) (jI h))
def j6 (p:Pod):Bool:=decide ((p.ns.size:Int)>64)||(decide ((p.sa.size:Int)>64)||(decide (p.host<0)||(decide (p.host>9)||(decide (p.port<0)||decide (p.port>65535)))))
def kg (p:Svc):Bool:=decide ((p.ns.size:Int)>64)||(decide (p.port<0)||decide (p.port>65535))
def jC (p:Way):Bool:=decide (p.node<0)||decide (p.node>9)
def gN {α:Type}(key:α->Int)(l:List α)(most:Int):Bool:=aU (l.map key)&&decide ((l.length:Int)<=most)
def Ha (v:Vw):Bool:=v.pods.l.any j6||(v.services.l.any kg||v.bound.l.any jC)
def nY (v:Vw):Bool:=!Ha v&&(gN Pod.uid v.pods.l 16&&(gN Svc.id v.services.l 6&&(gN Way.id v.bound.l 4&&gN Pol.id v.policies.l 12)))
def aY (v:Vw):Bool:=decide (v.epoch<=4611686018427387903)&&(gI v.covers.l 38&&(nY v&&!v.policies.l.any λp=>!bY p))
theorem SN {c:Cfg}{s:Scp}{nl:Bool}(h:bK c=true)(hs:bW s=true):aY (ofT c s ⟨nl,eU c s⟩)=true:=by
 have hc:=h;simp only [bK,aw] at h;obtain ⟨⟨hsm,hm⟩,_⟩:=h;obtain ⟨l1,l2,l3,l4⟩:=uu hsm;simp only [rU,aw] at hm;obtain ⟨⟨⟨⟨⟨hn,hp⟩,hv⟩,ha⟩,hb⟩,hpo⟩:=hm;simp only [kF,aw,bw] at hn;have hp1:=hp; have hv1:=hv;simp only [jT,aw,Bool.not_eq_true',List.any_eq_false] at hp;simp only [fI,aw,Bool.not_eq_true',List.any_eq_false] at hv;simp only [mf,aw,Bool.not_eq_true'] at hb;simp only [bW,gI,aw,bw,Bool.not_eq_true'] at hs;have hmh:wrap .i64 (c.hosts+1)=c.hosts+1:=wrap64 (by omega) (by omega);have hmw:wrap .i64 (c.hosts+1+c.ways)=c.hosts+1+c.ways:=wrap64 (by omega) (by omega);have hmw2:wrap .i64 (c.hosts+2)=c.hosts+2:=wrap64 (by omega) (by omega);have hways:∀ {l pre:List Way},ko c pre l=false->∀ w∈l,jC w=false:=by
  intro l
  induction l with
  | nil=>intro pre _ w hw; simp at hw
  | cons x l ih =>
   intro pre hb w hw;simp only [ko,Bool.or_eq_false_iff] at hb;obtain rfl | hw:=List.mem_cons.1 hw
   . have:=hb.1;simp only [Ew,Bool.or_eq_false_iff,decide_eq_false_iff_not,hmh,hmw,hmw2] at this;simp only [jC,Bool.or_eq_false_iff,decide_eq_false_iff_not];omega
   . exact ih hb.2 w hw
 have hcl:(eU c s).length<=38:=by
  have h1:=vY (bI (s.addrs.l++(c.services.l.filter (kT c s.node)).map Svc.addr));have h2:(bI (s.addrs.l++(c.services.l.filter (kT c s.node)).map Svc.addr)).length=s.addrs.l.length+(c.services.l.filter (kT c s.node)).length:=by
   rw [bI,List.length_mergeSort,aq,cb]
  have h3:=List.length_filter_le (kT c s.node) c.services.l;have:(eU c s).length=(cmpL (bI (s.addrs.l++(c.services.l.filter (kT c s.node)).map Svc.addr))).length:=rfl;omega
 have hc0:fU (eU c s) 0=false:=by
  cases hh:fU (eU c s) 0 with
  | false=>rfl
  | true =>
   obtain h0 | ⟨x,h1,_,h2⟩:=(GG (nl:=nl) 0).1 (hasT_iff.1 hh)
   . rw [hasT_iff.2 h0] at hs; simp at hs
   . simp only [rz,Bool.not_eq_true'] at ha;have:=(List.nodup_cons.1 (yu ha).1).1;exact absurd (List.mem_append.2 (.inr (cd.2 ⟨x,h1,h2⟩))) this
 have e1:=yn (LZ (s.addrs.l++(c.services.l.filter (kT c s.node)).map Svc.addr));have q1:(ny c s).any j6=false:=by
  rw [List.any_eq_false];intro p hp';have hpm:=(List.mem_filter.1 hp').1;have k1:=hp.1 p hpm;have k2:=qI hp1 p hpm;simp only [dZ,eD,Bool.or_eq_true,not_or,bw,Bool.not_eq_true',Bool.not_eq_false,ic,aw,hmh] at k1;simp only [j6,Bool.or_eq_true,not_or,bw];omega
 have q2:(nz c s).any kg=false:=by
  rw [List.any_eq_false];intro p hp';have hpm:=(List.mem_filter.1 hp').1;have k1:=hv.1 p hpm;have k2:=pG hv1 p hpm;simp only [qX,Bool.or_eq_true,not_or,Bool.not_eq_true',Bool.not_eq_false,ic,aw,bw] at k1;simp only [kg,Bool.or_eq_true,not_or,bw];omega
 have q3:(wV c s).any jC=false:=by
  rw [List.any_eq_false];intro p hp';simp [hways hb.1 p (List.mem_filter.1 hp').1]
 have q4:((zP c s.node).any λp=>!bY p)=false:=by
  rw [List.any_eq_false];intro p hp';obtain ⟨q,hq,rfl⟩:=cd.1 (List.mem_filter.1 hp').1;simp [xm,ib hpo q hq]
 simp only [eP,aw] at hpo;have r4:aU ((c.policies.l.map Pol.own).map Pol.id)=true:=by
  rw [List.map_map]; exact hpo.2
 have g1:=List.length_filter_le (xe c s) c.pods.l;have g2:=List.length_filter_le (CG c s) c.services.l;have g3:=List.length_filter_le (Gp c s) c.bound.l;have g4:=List.length_filter_le (xg c s.node) (c.policies.l.map Pol.own);rw [cb] at g4;have f1:aU ((ny c s).map Pod.uid)=true:=jV hp.2;have f2:aU ((nz c s).map Svc.id)=true:=jV hv.2;have f3:aU ((wV c s).map Way.id)=true:=jV hb.2;have f4:aU ((zP c s.node).map Pol.id)=true:=jV r4;have e2:aU (eU c s)=true:=kH e1;simp only [aY,ofT,nY,Ha,gN,gI,e2,hc0,q1,q2,q3,q4,f1,f2,f3,f4,Bool.not_false,Bool.or_self,Bool.true_and,Bool.and_true,aw];simp only [ny,nz,wV,zP] at *;refine ⟨decide_eq_true ?_,decide_eq_true ?_,decide_eq_true ?_,decide_eq_true ?_,decide_eq_true ?_,decide_eq_true ?_⟩<;>omega
end
section
def dg0:List (Nat×QF):=[(35,q64),(30,q67),(145,HV),(205,HY),(143,HZ),(50,BX),(194,H5),(87,NU),(88,NV),(90,Lb),(92,TA),(93,TC),(94,TE),(95,NW),(31,Lc),(98,TG),(99,NY),(100,TH),(101,TJ),(102,NZ),(103,TK),(104,N7),(105,TM),(106,N8),(107,N9),(108,TN),(109,TQ),(110,TR),(75,DN),(51,BZ),(52,Ca),(53,Cb),(156,Le),(198,Uh),(152,Ia),(199,Ui),(150,Lf),(157,Ib),(200,Uj),(161,Ic),(201,YY),(164,DX),(165,Ie),(227,Ih)]
def TV:FuncId->Option QF:=iW dg0
def aX (f:FuncId):Bool:=[35,30,75,164].any λn=>Nat.beq n f
theorem ap2:TV 35=some (q64):=by kernel_rfl
theorem at1:aX 35=true:=by kernel_rfl
theorem dw6:TV 30=some (q67):=by kernel_rfl
theorem dw8:aX 30=true:=by kernel_rfl
theorem Mk:TV 145=some (idxQ 7):=by kernel_rfl
theorem Mm:aX 145=false:=by kernel_rfl
theorem Ml:TV 205=some (idxQ 5):=by kernel_rfl
theorem Mo:aX 205=false:=by kernel_rfl
theorem al3:TV 143=some (delQ 7 145 [(.d (.int .u64 0)),(.d (.str ⟨#[]⟩)),(.d (.str ⟨#[]⟩)),(.d (.int .i64 0)),(.d (.int .u32 0)),(.d (.int .i64 0)),(.d (.int .u64 0))]):=by kernel_rfl
theorem ap3:aX 143=false:=by kernel_rfl
theorem al4:TV 50=some (cloneQ 7 72 [(.d (.int .u64 0)),(.d (.str ⟨#[]⟩)),(.d (.str ⟨#[]⟩)),(.d (.int .i64 0)),(.d (.int .u32 0)),(.d (.int .i64 0)),(.d (.int .u64 0))]):=by kernel_rfl
theorem ap4:aX 50=false:=by kernel_rfl
theorem al5:TV 194=some (idxQ 2):=by kernel_rfl
theorem ap5:aX 194=false:=by kernel_rfl
theorem al6:TV 87=some (NU):=by kernel_rfl
theorem ap6:aX 87=false:=by kernel_rfl
theorem al7:TV 88=some (NV):=by kernel_rfl
theorem ap7:aX 88=false:=by kernel_rfl
theorem al8:TV 90=some (Lb):=by kernel_rfl
theorem ap8:aX 90=false:=by kernel_rfl
theorem al9:TV 92=some (TA):=by kernel_rfl
theorem ap9:aX 92=false:=by kernel_rfl
theorem QH:TV 93=some (someQ 156):=by kernel_rfl
theorem QL:aX 93=false:=by kernel_rfl
theorem am0:TV 94=some (TE):=by kernel_rfl
theorem aq0:aX 94=false:=by kernel_rfl
theorem am1:TV 95=some (NW):=by kernel_rfl
theorem aq1:aX 95=false:=by kernel_rfl
theorem am2:TV 31=some (cloneQ 1 4 [(.d (.int .u32 0))]):=by kernel_rfl
theorem aq2:aX 31=false:=by kernel_rfl
theorem am5:TV 98=some (keepQ 50 198 143):=by kernel_rfl
theorem aq3:aX 98=false:=by kernel_rfl
theorem am6:TV 99=some (NY):=by kernel_rfl
theorem aq4:aX 99=false:=by kernel_rfl
theorem am7:TV 100=some (TH):=by kernel_rfl
theorem aq5:aX 100=false:=by kernel_rfl
theorem am8:TV 101=some (keepQ 51 199 152):=by kernel_rfl
theorem aq6:aX 101=false:=by kernel_rfl
theorem am9:TV 102=some (NZ):=by kernel_rfl
theorem aq7:aX 102=false:=by kernel_rfl
theorem QI:TV 103=some (someQ 150):=by kernel_rfl
theorem QM:aX 103=false:=by kernel_rfl
theorem an0:TV 104=some (N7):=by kernel_rfl
theorem aq8:aX 104=false:=by kernel_rfl
theorem an1:TV 105=some (keepQ 52 200 157):=by kernel_rfl
theorem aq9:aX 105=false:=by kernel_rfl
theorem an2:TV 106=some (N8):=by kernel_rfl
theorem ar0:aX 106=false:=by kernel_rfl
theorem an3:TV 107=some (N9):=by kernel_rfl
theorem ar1:aX 107=false:=by kernel_rfl
theorem an4:TV 108=some (keepQ 53 201 161):=by kernel_rfl
theorem ar2:aX 108=false:=by kernel_rfl
theorem an5:TV 109=some (TQ):=by kernel_rfl
theorem ar3:aX 109=false:=by kernel_rfl
theorem an6:TV 110=some (TR):=by kernel_rfl
theorem ar4:aX 110=false:=by kernel_rfl
theorem an7:TV 75=some (DN):=by kernel_rfl
theorem ar5:aX 75=true:=by kernel_rfl
theorem an8:TV 51=some (cloneQ 5 48 [(.d (.int .u64 0)),(.d (.str ⟨#[]⟩)),(.d (.int .u32 0)),(.d (.int .i64 0)),(.d (.int .u64 0))]):=by kernel_rfl
theorem ar6:aX 51=false:=by kernel_rfl
theorem an9:TV 52=some (cloneQ 2 16 [(.d (.int .u64 0)),(.d (.int .i64 0))]):=by kernel_rfl
theorem ar7:aX 52=false:=by kernel_rfl
theorem ao0:TV 53=some (cloneQ 5 64 [(.d (.int .u64 0)),(.d (.str ⟨#[]⟩)),(.d (.int .u64 0)),(.d (.int .i64 0)),(.d (.slice true []))]):=by kernel_rfl
theorem ar8:aX 53=false:=by kernel_rfl
theorem QJ:TV 156=some (anyQ 205):=by kernel_rfl
theorem QN:aX 156=false:=by kernel_rfl
theorem ao1:TV 198=some (notQ 7):=by kernel_rfl
theorem ar9:aX 198=false:=by kernel_rfl
theorem ao2:TV 152=some (delQ 5 205 [(.d (.int .u64 0)),(.d (.str ⟨#[]⟩)),(.d (.int .u32 0)),(.d (.int .i64 0)),(.d (.int .u64 0))]):=by kernel_rfl
theorem as0:aX 152=false:=by kernel_rfl
theorem ao3:TV 199=some (notQ 5):=by kernel_rfl
theorem as3:aX 199=false:=by kernel_rfl
theorem QK:TV 150=some (anyQ 145):=by kernel_rfl
theorem QO:aX 150=false:=by kernel_rfl
theorem ao4:TV 157=some (delQ 2 194 [(.d (.int .u64 0)),(.d (.int .i64 0))]):=by kernel_rfl
theorem as4:aX 157=false:=by kernel_rfl
theorem ao5:TV 200=some (notQ 2):=by kernel_rfl
theorem as5:aX 200=false:=by kernel_rfl
theorem ao6:TV 161=some (delQ 5 227 [(.d (.int .u64 0)),(.d (.str ⟨#[]⟩)),(.d (.int .u64 0)),(.d (.int .i64 0)),(.d (.slice true []))]):=by kernel_rfl
theorem as6:aX 161=false:=by kernel_rfl
theorem ao7:TV 201=some (notQ 5):=by kernel_rfl
theorem as7:aX 201=false:=by kernel_rfl
theorem ao8:TV 164=some (DX):=by kernel_rfl
theorem as8:aX 164=true:=by kernel_rfl
theorem ao9:TV 165=some (Ie):=by kernel_rfl
theorem as9:aX 165=false:=by kernel_rfl
theorem ap0:TV 227=some (idxQ 5):=by kernel_rfl
theorem at0:aX 227=false:=by kernel_rfl
theorem ap1:TV 6=none:=by kernel_rfl
theorem dw4:TV 91=none:=by kernel_rfl
theorem dw5:TV 111=none:=by kernel_rfl
theorem dw7:TV 26=none:=by kernel_rfl
theorem QG:TV 89=none:=by kernel_rfl
theorem am3:TV 96=none:=by kernel_rfl
theorem am4:TV 97=none:=by kernel_rfl
def Scp.c (x:Scp):List D:=[i64 x.node,x.addrs.d bn]
@[simp] theorem Scp.len {x:Scp}:x.c.length=2:=(rfl)
@[simp] theorem Scp.all {x:Scp}:sub x.c 0 2=some x.c:=(rfl)
@[simp] theorem Scp.s0_1 {x:Scp}:sub x.c 0 1=some [i64 x.node]:=(rfl)
@[simp] theorem Scp.s1_1 {x:Scp}:sub x.c 1 1=some [x.addrs.d bn]:=(rfl)
theorem Kc {bs ys:List Blk}:au (bs++ys) (bs.length+1)=au ys 1:=by
 unfold au; rw [bm (by omega)]; simp
structure OfE (c:Cfg) (s:Scp) (bs:List Blk):Prop where
 b0:au bs 0=some (c.c.map .d)
 b1:au bs 1=some (s.c.map .d)
 b3:au bs 3=some [.fn 87 [.ptr 1 0]]
 b4:au bs 4=some [.fn 88 [.ptr 1 0]]
 b5:au bs 5=some [.fn 90 [.ptr 0 0,.ptr 3 0]]
 b6:au bs 6=some [.fn 92 [.ptr 0 0]]
 b7:au bs 7=some [.fn 95 [.ptr 1 0,.ptr 6 0,.ptr 5 0]]
theorem OfE.lay {c:Cfg}{s:Scp}{bs:List Blk}(h:OfE c s bs)(ys:List Blk):OfE c s (bs++ys) :=
 ⟨ak h.b0,ak h.b1,ak h.b3,ak h.b4,ak h.b5,ak h.b6,ak h.b7⟩
theorem OfE.like {c:Cfg}{s:Scp}{bs bs':List Blk}(h:OfE c s bs)(ho:∀ x,x<8->bs'[x]?=bs[x]?):OfE c s bs':=by
 have g:∀ x cs,x<8->au bs x=some cs->au bs' x=some cs:=λx cs hx hg=>by
  unfold au at hg ⊢; rw [ho x hx]; exact hg
 exact ⟨g _ _ (by decide) h.b0,g _ _ (by decide) h.b1,g _ _ (by decide) h.b3,g _ _ (by decide) h.b4,g _ _ (by decide) h.b5,g _ _ (by decide) h.b6,g _ _ (by decide) h.b7⟩
section
variable {E:Calls'}(h45:∀ c:Cfg,c.ok->∀ n h,E 91 [c.v,.d (u64 n)] h=some (.tup (match xK c n with | some w=>[w.v,bl true] | none=>[way0.v,bl false]),h))
 (h117:∀ s:Sl Int,short s->∀ n h,E 89 [.d (s.d bn),.d (u32 n)] h=some (bl (fU s.l n),h))
 (h52:∀ (p:Pol) (x:Pod) h,E 111 [p.v,x.v] h=some (bl (mY p x.ns x.service),h))
variable {c:Cfg}{s:Scp}
theorem XD {h:Hp}(hE:OfE c s h.bs)(w:Way):Sm E TV aX 87 [ag w.c,.ptr 1 0] h=some (bl (w.node==s.node),h):=by
 rw [av al6 ap6];simp [aa,NU,ak hE.b1,V.under,Way.c]
include h117 in
theorem Rp {h:Hp}(hE:OfE c s h.bs)(hs:short s.addrs)(a:Int):Sm E TV aX 88 [.d (u32 a),.ptr 1 0] h=some (bl (fU s.addrs.l a),h):=by
 have m:∀ h,Sm E TV aX 89 [.d (s.addrs.d bn),.d (u32 a)] h=some (bl (fU s.addrs.l a),h):=λh=>by rw [aG QG]; exact h117 _ hs a h
 rw [av al7 ap7];simp [aa,NV,hE.b1,m,V.under]
include h45 in
theorem Rq {h:Hp}(hE:OfE c s h.bs)(hc:c.ok)(x:Svc):Sm E TV aX 90 [ag x.c,.ptr 0 0,.ptr 3 0] h=some (bl (kT c s.node x),h):=by
 have m:=h45 c hc x.id;have mm:∀ h,Sm E TV aX 91 [c.v,.d (u64 x.id)] h=E 91 [c.v,.d (u64 x.id)] h:=λh=>by rw [aG dw4]
 have k:=λw ys lo=>XD (E:=E) (h:=⟨h.bs++ys,lo⟩) (hE.lay ys) w;rw [av al8 ap8];unfold kT;cases hx:xK c x.id with
 | none =>
  rw [hx] at m;simp +decide [aa,Lb,ak hE.b0,mm,m,ai,V.under]
 | some w =>
  rw [hx] at m;simp +decide [aa,Lb,ak hE.b0,ak hE.b3,mm,m,k,ai,V.under]
theorem bn9 {h:Hp}{x:Svc}{p:Pod}{P Q:Nat}{f:FuncId}{caps:List V}{so:Svc->Bool}(hP:au h.bs P=some (p.c.map .d))(hQ:au h.bs Q=some [.fn f caps])
 (hso:∀ ys lo,Sm E TV aX f (ag x.c::caps) ⟨h.bs++ys,lo⟩=some (bl (so x),⟨h.bs++ys,lo⟩)):Sm E TV aX 94 [ag x.c,.ptr P 0,.ptr Q 0] h=some (bl (x.id==p.service&&so x),h):=by
 rw [av am0 aq0];cases e:(x.id==p.service)<;>simp +decide [aa,TE,ak hP,ak hQ,hso,e,ai,V.under]
theorem XE {h:Hp}(hE:OfE c s h.bs)(hc:c.ok){p:Pod}{f:FuncId}{caps:List V}{so:Svc->Bool}
 (hso:∀ x∈c.services.l,∀ ys lo,Sm E TV aX f (ag x.c::caps) ⟨h.bs++ys,lo⟩=some (bl (so x),⟨h.bs++ys,lo⟩)):Sm E TV aX 92 [ag p.c,.fn f caps,.ptr 0 0] h=some (bl (yB c p so),h):=by
 rw [av al9 ap9];have hany:∀ lo,Sm E TV aX 93 [.d (c.services.d Svc.c),.fn 94 [.ptr h.bs.length 0,.ptr (h.bs.length+1) 0]] ⟨h.bs++[.cells (p.c.map .d),.cells [.fn f caps]],lo⟩=some (bl (yB c p so),⟨h.bs++[.cells (p.c.map .d),.cells [.fn f caps]],lo⟩):=λlo =>
  fK (E:=E) (T:=TV) (val:=aX) QH QL rfl rfl (gP (E:=E) Svc.c (z:=5) Ml Mo QJ QN (RowIs.of (cells:=Svc.c) (λ_=>rfl) _) hc.2.1.lt λe he lo2=>bn9 (p:=p) (f:=f) (caps:=caps) (so:=so) (by simp) (by simp [Kc]) (λys lo3=>by
   have:=hso e he ([.cells (p.c.map .d),.cells [.fn f caps]]++ys) lo3;simpa using this))
 simp +decide [aa,TA,ak hE.b0,hany,V.under]
end
end
