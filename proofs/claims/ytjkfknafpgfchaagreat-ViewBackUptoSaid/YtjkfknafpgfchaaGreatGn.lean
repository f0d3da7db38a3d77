/- What Go's library does on rows: IndexFunc, ContainsFunc, Clone, DeleteFunc; any program, any width. -/
import Derived.Test.YtjkfknafpgfchaaGreatQt
import Derived.Test.YtjkfknafpgfchaaGreatSy
set_option maxRecDepth 100000
set_option linter.unusedVariables false
set_option linter.unusedSimpArgs false
namespace Go.Proofs.YtjkfknafpgfchaaGreat
section
def RowIs (bs:List Blk) (v:V) (z:Nat) (es:List (List D)):Prop :=
 (∀ e ∈ es,e.length = z) /\ ((∃ nl,v = .d (.slice nl es)) \/ ∃ b o cap cs,v = .row b o es.length cap z /\ ah bs b = some cs /\ sub cs o (es.length * z) = some (es.flatten.map .d))
theorem kX {α:Type} {z:Nat}:∀ {es:List (List α)} {i:Nat},(∀ e ∈ es,e.length = z) -> (hi:i < es.length) -> (es.flatten.drop (i * z)).take z = es[i]
 | e :: es,0,h,_=>by
  have:=h e (by simp);simp [List.take_append_of_le_length,this]
 | e :: es,i + 1,h,hi=>by
  have he:=h e (by simp);have ih:=kX (i:=i) (fun e he=>h e (List.mem_cons_of_mem _ he)) (by simpa using hi);simp only [List.flatten_cons,List.getElem_cons_succ];rw [show (i + 1) * z = e.length + i * z by rw [he,Nat.add_mul]; omega,← List.drop_drop,List.drop_left,ih]
theorem qB {α:Type} {z:Nat}:∀ {es:List (List α)},(∀ e ∈ es,e.length = z) -> es.flatten.length = es.length * z
 | [],_=>by simp
 | e :: es,h=>by
  have he:=h e (by simp);have ih:=qB (es:=es) (fun e he=>h e (List.mem_cons_of_mem _ he));simp only [List.flatten_cons,List.length_append,he,ih,List.length_cons,Nat.add_mul]; omega
theorem RowIs.len {bs:List Blk} {v:V} {z:Nat} {es:List (List D)} (h:RowIs bs v z es) (hp:Hp):qL false v hp = some (.d (.int .i64 es.length),hp):=by
 rcases h.2 with ⟨nl,rfl⟩ | ⟨b,o,cap,cs,rfl,_⟩ <;> simp
theorem RowIs.ok {bs:List Blk} {v:V} {z:Nat} {es:List (List D)} (h:RowIs bs v z es):nu v = some v:=by
 rcases h.2 with ⟨nl,rfl⟩ | ⟨b,o,cap,cs,rfl,_⟩ <;> simp
theorem RowIs.elem {bs:List Blk} {v:V} {z:Nat} {es:List (List D)} (h:RowIs bs v z es) {i:Nat} (hi:i < es.length) {l:Nat} :
 ∃ p,fP none z v (.d (.int .i64 i)) ⟨bs,l⟩ = some (p,⟨bs,l⟩) /\ loadAt ⟨bs,l⟩ p z = some (es[i].map .d):=by
 have hzi:=h.1 _ (List.getElem_mem hi);rcases h.2 with ⟨nl,rfl⟩ | ⟨b,o,cap,cs,rfl,h1,h2⟩
 · refine ⟨.eptr es[i] 0,?_,?_⟩
   · simp only [fP];rw [if_pos (by omega)];simp only [Int.toNat_natCast,List.getElem?_eq_getElem hi,hzi,if_true]
   · simp only [loadAt,bB hzi,Option.map_some]
 · refine ⟨.ptr b (o + i * z),?_,?_⟩
   · simp only [fP];rw [if_pos ⟨by omega,by omega,trivial⟩];simp
   · simp only [mY,get_eq,h1];rw [gP] at h2 ⊢;split at h2
     · rename_i hle;simp only [Option.some.injEq] at h2;have hiz:(i + 1) * z <= es.length * z:=Nat.mul_le_mul_right z hi;rw [Nat.add_mul,Nat.one_mul] at hiz;rw [if_pos (by omega)]
       congr 1
       have hf:=kX (α:=V) (es:=es.map (·.map .d)) (i:=i) (z:=z) (by simpa using h.1) (by simpa using hi);rw [show (es.map (·.map V.d)).flatten = es.flatten.map .d by rw [List.map_flatten],← h2] at hf;simp only [List.getElem_map] at hf;rw [← hf,List.drop_take,List.drop_drop,List.take_take,Nat.min_eq_left (by omega)]
     · cases h2
def mE {α:Type} (l:List α) (q:α -> Bool):Int:=match l.findIdx? q with
 | some k=>k
 | none=>-1
section
variable {E:Calls'} {T:FuncId -> Option QF} {val:FuncId -> Bool}
theorem RowIs.at {α:Type} {cells:α -> List D} {bs:List Blk} {v:V} {z:Nat} {es:List α} (h:RowIs bs v z (es.map cells)) {i:Nat} (hi:i < es.length) {l:Nat} :
 ∃ p,fP none z v (.d (.int .i64 i)) ⟨bs,l⟩ = some (p,⟨bs,l⟩) /\ loadAt ⟨bs,l⟩ p z = some ((cells es[i]).map .d):=by
 have:=h.elem (i:=i) (by simpa using hi) (l:=l);simpa using this
theorem RowIs.lenT {α:Type} {cells:α -> List D} {bs:List Blk} {v:V} {z:Nat} {es:List α} (h:RowIs bs v z (es.map cells)) (hp:Hp):qL false v hp = some (.d (.int .i64 es.length),hp):=by
 simpa using h.len hp
theorem Gq {α:Type} {cells:α -> List D} {z:Nat} {bs:List Blk} {lo:Nat} {v:V} {es:List α} (hr:RowIs bs v z (es.map cells)) {f:FuncId} {caps:List V} {q:α -> Bool} (hlen:es.length < 2 ^ 62)
 (hf:∀ e ∈ es,Sm E T val f (.agg ((cells e).map .d) :: caps) ⟨bs,lo⟩ = some (.d (.bool (q e)),⟨bs,lo⟩)):∀ (m i:Nat),i + m = es.length →
   Cd E T val (.loop [0,1,7,8] (zN z)) [(0,v),(1,.fn f caps),(7,.d (.int .i64 es.length)),(8,.d (.int .i64 i))] ⟨bs,lo⟩ =
    match (es.drop i).findIdx? q with
    | some k=>some (.ret,[(4,.d (.int .i64 (i + k:Nat)))],⟨bs,lo⟩)
    | none=>some (.exit 0,[],⟨bs,lo⟩):=by
 intro m;have key:=ax (E:=E) (T:=T) (val:=val) [0,1,7,8] (zN z);generalize Cd E T val (.loop [0,1,7,8] (zN z)) = W at key ⊢
 induction m with
 | zero =>
  intro i hi;have h0:es.drop i = []:=List.drop_eq_nil_of_le (by omega);rw [key];simp [zN,h0,show ¬ ((i:Int) < es.length) from by omega]
 | succ m ih =>
  intro i hi;have hlt:i < es.length:=by omega
  have hd:es.drop i = es[i] :: es.drop (i + 1):=List.drop_eq_getElem_cons hlt;obtain ⟨p,hp1,hp2⟩:=hr.at hlt (l:=lo);have hv:=hr.ok;have hcall:=hf _ (List.getElem_mem hlt);generalize es[i] = x at *;rw [key,hd];cases hq:q x with
  | true=>simp [zN,hv,hp1,ldv,hp2,hcall,hq,List.findIdx?_cons,show ((i:Int) < es.length) from by omega,show okV (V.agg ((cells x).map .d)) = true from rfl]
  | false =>
   have hw:IntKind.wrap .i64 ((i:Int) + 1) = ((i + 1:Nat):Int):=by rw [wrap64] <;> omega
   have:=ih (i + 1) (by omega);simp [zN,hv,hp1,ldv,hp2,hcall,hq,List.findIdx?_cons,hw,show ((i:Int) < es.length) from by omega,show okV (V.agg ((cells x).map .d)) = true from rfl];rw [show ((i:Int) + 1) = ((i + 1:Nat):Int) from by omega,this];cases hfi:(es.drop (i + 1)).findIdx? q with
   | none=>rfl
   | some k=>simp; omega
theorem E8 {α:Type} (cells:α -> List D) {z:Nat} {id:FuncId} (ht:T id = some (idxQ z)) (hvl:val id = false) {v:V} {es:List α} {f:FuncId} {caps:List V} {q:α -> Bool} {h:Hp} (hr:RowIs h.bs v z (es.map cells)) (hlen:es.length < 2 ^ 62)
 (hf:∀ e ∈ es,∀ lo,Sm E T val f (.agg ((cells e).map .d) :: caps) ⟨h.bs,lo⟩ = some (.d (.bool (q e)),⟨h.bs,lo⟩)):Sm E T val id [v,.fn f caps] h = some (.d (.int .i64 (mE es q)),h):=by
 rw [aB ht hvl];have hl:=Gq hr hlen (fun e he=>hf e he h.bs.length) es.length 0 (by omega);have hv:=hr.ok;have hn:=hr.lenT;simp [idxQ,af,hv,hn,mE];rw [aH];simp at hl;simp [hl];cases es.findIdx? q with
 | none=>simp [V.under]
 | some k=>simp [V.under]
def conQ (idx:Nat):QF:=⟨9,[.tmp 4],(sr [op 4 (.mov (.c zb))] .skip)⟩
end
end
section
structure Sl (α:Type) where
 nl:Bool
 l:List α
abbrev u64 (n:Int):D:=.int .u64 n
abbrev u32 (n:Int):D:=.int .u32 n
abbrev i64 (n:Int):D:=.int .i64 n
abbrev bl (b:Bool):V:=.d (.bool b)
def Sl.d {α:Type} (f:α -> List D) (s:Sl α):D:=.slice s.nl (s.l.map f)
structure Pod where
 uid:Int
 ns:ByteArray
 sa:ByteArray
 host:Int
 addr:Int
 port:Int
 service:Int
def Pod.c (p:Pod):List D:=[u64 p.uid,.str p.ns,.str p.sa,i64 p.host,u32 p.addr,i64 p.port,u64 p.service]
structure Svc where
 id:Int
 ns:ByteArray
 addr:Int
 port:Int
 way:Int
def Svc.c (s:Svc):List D:=[u64 s.id,.str s.ns,u32 s.addr,i64 s.port,u64 s.way]
structure Way where
 id:Int
 node:Int
def Way.c (w:Way):List D:=[u64 w.id,i64 w.node]
structure Term where
 kind:Int
 text:ByteArray
def Term.c (t:Term):List D:=[i64 t.kind,.str t.text]
structure Cidr where
 addr:Int
 bits:Int
def Cidr.c (t:Cidr):List D:=[u32 t.addr,i64 t.bits]
structure Source where
 names:Sl Term
 spaces:Sl Term
 nets:Sl Cidr
def Source.c (s:Source):List D:=[s.names.d Term.c,s.spaces.d Term.c,s.nets.d Cidr.c]
def jJ (n:Int):List D:=[i64 n]
structure Target where
 ports:Sl Int
 methods:Sl Term
 paths:Sl Term
 hosts:Sl Term
def Target.c (t:Target):List D:=[t.ports.d jJ,t.methods.d Term.c,t.paths.d Term.c,t.hosts.d Term.c]
structure When where
 head:ByteArray
 terms:Sl Term
def When.c (w:When):List D:=[.str w.head,w.terms.d Term.c]
structure Rule where
 frm:Sl Source
 to:Sl Target
 whn:Sl When
def Rule.c (r:Rule):List D:=[r.frm.d Source.c,r.to.d Target.c,r.whn.d When.c]
structure Pol where
 id:Int
 ns:ByteArray
 service:Int
 deny:Int
 rules:Sl Rule
def Pol.c (p:Pol):List D:=[u64 p.id,.str p.ns,u64 p.service,i64 p.deny,p.rules.d Rule.c]
structure Cfg where
 epoch:Int
 next:Int
 hosts:Int
 ways:Int
 pods:Sl Pod
 services:Sl Svc
 bound:Sl Way
 policies:Sl Pol
def Cfg.c (c:Cfg):List D:=[u64 c.epoch,u64 c.next,i64 c.hosts,i64 c.ways,c.pods.d Pod.c,c.services.d Svc.c,c.bound.d Way.c,c.policies.d Pol.c]
def ag (l:List D):V:=.agg (l.map .d)
abbrev Pod.v (p:Pod):V:=ag p.c
abbrev Svc.v (p:Svc):V:=ag p.c
abbrev Way.v (p:Way):V:=ag p.c
abbrev Pol.v (p:Pol):V:=ag p.c
abbrev Rule.v (p:Rule):V:=ag p.c
abbrev Cfg.v (p:Cfg):V:=ag p.c
def cz2:Pod:=⟨0,⟨#[]⟩,⟨#[]⟩,0,0,0,0⟩
def db4:Svc:=⟨0,⟨#[]⟩,0,0,0⟩
def way0:Way:=⟨0,0⟩
def fit {α:Type} (B:Nat) (s:Sl α):Prop:=s.l.length <= B /\ (s.nl = true -> s.l = [])
def Source.fits (B:Nat) (s:Source):Prop:=fit B s.names /\ fit B s.spaces /\ fit B s.nets
def Target.fits (B:Nat) (s:Target):Prop:=fit B s.ports /\ fit B s.methods /\ fit B s.paths /\ fit B s.hosts
def When.fits (B:Nat) (w:When):Prop:=fit B w.terms
def Rule.fits (B:Nat) (r:Rule):Prop:=(fit B r.frm /\ ∀ s ∈ r.frm.l,s.fits B) /\ (fit B r.to /\ ∀ s ∈ r.to.l,s.fits B) /\ fit B r.whn /\ ∀ s ∈ r.whn.l,s.fits B
def Pol.fits (B:Nat) (p:Pol):Prop:=fit B p.rules /\ ∀ r ∈ p.rules.l,r.fits B
def Cfg.fits (B:Nat) (c:Cfg):Prop:=fit B c.pods /\ fit B c.services /\ fit B c.bound /\ fit B c.policies /\ ∀ p ∈ c.policies.l,p.fits B
abbrev big:Nat:=2 ^ 30
abbrev short {α:Type} (s:Sl α):Prop:=fit big s
abbrev Cfg.ok (c:Cfg):Prop:=c.fits big
abbrev Pol.ok (c:Pol):Prop:=c.fits big
theorem fit.lt {α:Type} {s:Sl α} (h:short s):s.l.length < 2 ^ 62:=Nat.lt_of_le_of_lt h.1 (by decide)
theorem RowIs.of {α:Type} {cells:α -> List D} {s:Sl α} {z:Nat} (hz:∀ x,(cells x).length = z) (bs:List Blk):RowIs bs (.d (s.d cells)) z (s.l.map cells) :=
 ⟨by simp; intro a _; exact hz a,.inl ⟨s.nl,rfl⟩⟩
@[simp] theorem cy5 {l:List D}:okV (ag l) = true:=(rfl)
@[simp] theorem dy6 {l:List D}:nu (ag l) = some (ag l):=(rfl)
@[simp] theorem XO {l:List D}:(ag l).cells = some (l.map .d):=(rfl)
@[simp] theorem Gh {h:Hp} {l:List D}:frz h (ag l) = some (ag l):=BP h l
@[simp] theorem Q9 {h:Hp} {d:D}:frz h (.d d) = some (.d d):=BQ h d
@[simp] theorem bo6 {h:Hp} {l:List D}:dD h (ag l) = some (ag l):=BP h l
@[simp] theorem bo7 {h:Hp} {d:D}:dD h (.d d) = some (.d d):=BQ h d
@[simp] theorem br9 {l:List D}:cO (ag l) = true:=H9 l
@[simp] theorem bt0 {d:D}:cO (.d d) = true:=(rfl)
@[simp] theorem bn6 {h:Hp} {l:List D}:uY h (ag l) = some (.ptr h.bs.length 0,h.alloc (l.map .d)):=(rfl)
theorem jN {α:Type} (l:List α) (q:α -> Bool):(l.find? q = none /\ mE l q = -1) \/ ∃ k e,l.find? q = some e /\ mE l q = (k:Nat) /\ l[k]? = some e:=by
 unfold mE;cases h:l.findIdx? q with
 | none =>
  left;rw [List.findIdx?_eq_none_iff] at h;exact ⟨List.find?_eq_none.2 fun x hx=>by simp [h x hx],rfl⟩
 | some k =>
  right;have h2:=List.findIdx?_eq_some_iff_getElem.1 h;obtain ⟨hk,h3,h4⟩:=h2;refine ⟨k,l[k],?_,rfl,List.getElem?_eq_getElem hk⟩;rw [List.find?_eq_some_iff_getElem];exact ⟨h3,k,hk,rfl,fun j hj=>by simpa using h4 j hj⟩
theorem bi {α:Type} {s:Sl α} {cells:α -> List D} {k z:Nat} {e:α} (h:Hp) (hk:s.l[k]? = some e) (hz:(cells e).length = z):fP none z (.d (s.d cells)) (.d (.int .i64 k)) h = some (.eptr (cells e) 0,h):=by
 simp only [fP,Sl.d];rw [if_pos (by omega)];simp [hk,hz]
@[simp] theorem bp9 {α:Type} {s:Sl α} {cells:α -> List D} {h:Hp}:qL false (.d (s.d cells)) h = some (.d (i64 s.l.length),h):=by simp [Sl.d]
@[simp] theorem NU {α β:Type} {f:α -> β} {l:List α} {o n:Nat}:sub (l.map f) o n = (sub l o n).map (·.map f):=by
 simp only [sub,List.length_map]; split <;> simp [List.map_take,List.map_drop]
@[simp] theorem bl5 {α:Type} {x:α} {l:List α} {o n:Nat}:sub (x :: l) (o + 1) n = sub l o n:=by
 simp only [sub,List.length_cons,List.drop_succ_cons];by_cases h:o + n <= l.length
 · rw [if_pos h,if_pos (by omega)]
 · rw [if_neg h,if_neg (by omega)]
@[simp] theorem JH {α:Type} {x:α} {l:List α} {n:Nat}:sub (x :: l) 0 (n + 1) = (sub l 0 n).map (x :: ·):=by
 simp only [sub,List.length_cons,List.drop_zero,List.take_succ_cons];by_cases h:0 + n <= l.length
 · rw [if_pos h,if_pos (by omega)]; rfl
 · rw [if_neg h,if_neg (by omega)]; rfl
@[simp] theorem JI {α:Type} {l:List α}:sub l 0 0 = some []:=by simp [sub]
@[simp] theorem Ie {α:Type} {x:α} {l xs:List α} {o:Nat}:put (x :: l) (o + 1) xs = (put l o xs).map (x :: ·):=by
 simp only [put,List.length_cons];by_cases h:o + xs.length <= l.length
 · rw [if_pos h,if_pos (by omega)];simp only [Option.map_some,List.take_succ_cons,List.cons_append];rw [show o + 1 + xs.length = (o + xs.length) + 1 by omega,List.drop_succ_cons]
 · rw [if_neg h,if_neg (by omega)]; rfl
@[simp] theorem yn {α:Type} {l xs:List α}:put l 0 xs = if xs.length <= l.length then some (xs ++ l.drop xs.length) else none:=by
 simp [put]
@[simp] theorem Pod.len {x:Pod}:x.c.length = 7:=(rfl)
@[simp] theorem Pod.all {x:Pod}:sub x.c 0 7 = some x.c:=(rfl)
@[simp] theorem Pod.s0_1 {x:Pod}:sub x.c 0 1 = some [u64 x.uid]:=(rfl)
@[simp] theorem Pod.s1_1 {x:Pod}:sub x.c 1 1 = some [.str x.ns]:=(rfl)
@[simp] theorem Pod.s2_1 {x:Pod}:sub x.c 2 1 = some [.str x.sa]:=(rfl)
@[simp] theorem Pod.s3_1 {x:Pod}:sub x.c 3 1 = some [i64 x.host]:=(rfl)
@[simp] theorem Pod.s4_1 {x:Pod}:sub x.c 4 1 = some [u32 x.addr]:=(rfl)
@[simp] theorem Pod.s5_1 {x:Pod}:sub x.c 5 1 = some [i64 x.port]:=(rfl)
@[simp] theorem Pod.s6_1 {x:Pod}:sub x.c 6 1 = some [u64 x.service]:=(rfl)
@[simp] theorem Pod.s1_2 {x:Pod}:sub x.c 1 2 = some [.str x.ns,.str x.sa]:=(rfl)
@[simp] theorem Svc.len {x:Svc}:x.c.length = 5:=(rfl)
@[simp] theorem Svc.all {x:Svc}:sub x.c 0 5 = some x.c:=(rfl)
@[simp] theorem Svc.s0_1 {x:Svc}:sub x.c 0 1 = some [u64 x.id]:=(rfl)
@[simp] theorem Svc.s1_1 {x:Svc}:sub x.c 1 1 = some [.str x.ns]:=(rfl)
@[simp] theorem Svc.s2_1 {x:Svc}:sub x.c 2 1 = some [u32 x.addr]:=(rfl)
@[simp] theorem Svc.s3_1 {x:Svc}:sub x.c 3 1 = some [i64 x.port]:=(rfl)
@[simp] theorem Svc.s4_1 {x:Svc}:sub x.c 4 1 = some [u64 x.way]:=(rfl)
@[simp] theorem Way.len {x:Way}:x.c.length = 2:=(rfl)
@[simp] theorem Way.all {x:Way}:sub x.c 0 2 = some x.c:=(rfl)
@[simp] theorem Way.s0_1 {x:Way}:sub x.c 0 1 = some [u64 x.id]:=(rfl)
@[simp] theorem Way.s1_1 {x:Way}:sub x.c 1 1 = some [i64 x.node]:=(rfl)
@[simp] theorem Term.len {x:Term}:x.c.length = 2:=(rfl)
@[simp] theorem Term.all {x:Term}:sub x.c 0 2 = some x.c:=(rfl)
@[simp] theorem Term.s0_1 {x:Term}:sub x.c 0 1 = some [i64 x.kind]:=(rfl)
@[simp] theorem Term.s1_1 {x:Term}:sub x.c 1 1 = some [.str x.text]:=(rfl)
@[simp] theorem Cidr.len {x:Cidr}:x.c.length = 2:=(rfl)
@[simp] theorem Cidr.all {x:Cidr}:sub x.c 0 2 = some x.c:=(rfl)
@[simp] theorem Cidr.s0_1 {x:Cidr}:sub x.c 0 1 = some [u32 x.addr]:=(rfl)
@[simp] theorem Cidr.s1_1 {x:Cidr}:sub x.c 1 1 = some [i64 x.bits]:=(rfl)
@[simp] theorem Source.len {x:Source}:x.c.length = 3:=(rfl)
@[simp] theorem Source.all {x:Source}:sub x.c 0 3 = some x.c:=(rfl)
@[simp] theorem Source.s0_1 {x:Source}:sub x.c 0 1 = some [x.names.d Term.c]:=(rfl)
@[simp] theorem Source.s1_1 {x:Source}:sub x.c 1 1 = some [x.spaces.d Term.c]:=(rfl)
@[simp] theorem Source.s2_1 {x:Source}:sub x.c 2 1 = some [x.nets.d Cidr.c]:=(rfl)
@[simp] theorem Target.len {x:Target}:x.c.length = 4:=(rfl)
@[simp] theorem Target.all {x:Target}:sub x.c 0 4 = some x.c:=(rfl)
@[simp] theorem Target.s0_1 {x:Target}:sub x.c 0 1 = some [x.ports.d jJ]:=(rfl)
@[simp] theorem Target.s1_1 {x:Target}:sub x.c 1 1 = some [x.methods.d Term.c]:=(rfl)
@[simp] theorem Target.s2_1 {x:Target}:sub x.c 2 1 = some [x.paths.d Term.c]:=(rfl)
@[simp] theorem Target.s3_1 {x:Target}:sub x.c 3 1 = some [x.hosts.d Term.c]:=(rfl)
@[simp] theorem When.len {x:When}:x.c.length = 2:=(rfl)
@[simp] theorem When.all {x:When}:sub x.c 0 2 = some x.c:=(rfl)
@[simp] theorem When.s0_1 {x:When}:sub x.c 0 1 = some [.str x.head]:=(rfl)
@[simp] theorem When.s1_1 {x:When}:sub x.c 1 1 = some [x.terms.d Term.c]:=(rfl)
@[simp] theorem Rule.len {x:Rule}:x.c.length = 3:=(rfl)
@[simp] theorem Rule.all {x:Rule}:sub x.c 0 3 = some x.c:=(rfl)
@[simp] theorem Rule.s0_1 {x:Rule}:sub x.c 0 1 = some [x.frm.d Source.c]:=(rfl)
@[simp] theorem Rule.s1_1 {x:Rule}:sub x.c 1 1 = some [x.to.d Target.c]:=(rfl)
@[simp] theorem Rule.s2_1 {x:Rule}:sub x.c 2 1 = some [x.whn.d When.c]:=(rfl)
@[simp] theorem Pol.len {x:Pol}:x.c.length = 5:=(rfl)
@[simp] theorem Pol.all {x:Pol}:sub x.c 0 5 = some x.c:=(rfl)
@[simp] theorem Pol.s0_1 {x:Pol}:sub x.c 0 1 = some [u64 x.id]:=(rfl)
@[simp] theorem Pol.s1_1 {x:Pol}:sub x.c 1 1 = some [.str x.ns]:=(rfl)
@[simp] theorem Pol.s2_1 {x:Pol}:sub x.c 2 1 = some [u64 x.service]:=(rfl)
@[simp] theorem Pol.s3_1 {x:Pol}:sub x.c 3 1 = some [i64 x.deny]:=(rfl)
@[simp] theorem Pol.s4_1 {x:Pol}:sub x.c 4 1 = some [x.rules.d Rule.c]:=(rfl)
@[simp] theorem Cfg.len {x:Cfg}:x.c.length = 8:=(rfl)
@[simp] theorem Cfg.all {x:Cfg}:sub x.c 0 8 = some x.c:=(rfl)
@[simp] theorem Cfg.s0_1 {x:Cfg}:sub x.c 0 1 = some [u64 x.epoch]:=(rfl)
@[simp] theorem Cfg.s1_1 {x:Cfg}:sub x.c 1 1 = some [u64 x.next]:=(rfl)
@[simp] theorem Cfg.s2_1 {x:Cfg}:sub x.c 2 1 = some [i64 x.hosts]:=(rfl)
@[simp] theorem Cfg.s3_1 {x:Cfg}:sub x.c 3 1 = some [i64 x.ways]:=(rfl)
@[simp] theorem Cfg.s4_1 {x:Cfg}:sub x.c 4 1 = some [x.pods.d Pod.c]:=(rfl)
@[simp] theorem Cfg.s5_1 {x:Cfg}:sub x.c 5 1 = some [x.services.d Svc.c]:=(rfl)
@[simp] theorem Cfg.s6_1 {x:Cfg}:sub x.c 6 1 = some [x.bound.d Way.c]:=(rfl)
@[simp] theorem Cfg.s7_1 {x:Cfg}:sub x.c 7 1 = some [x.policies.d Pol.c]:=(rfl)
@[simp] theorem Fa (l:List D):V.agg (l.map .d) = ag l:=(rfl)
@[simp] theorem Qe {h:Hp} {b o:Nat} {xs:List V}:storeAt h (.ptr b o) xs = match h.get b with
 | some cs=>match put cs o xs with
  | some cs'=>some (h.set b cs')
  | none=>none
 | none=>none:=(rfl)
@[simp] theorem NT {h:Hp} {a x:V} {n:Nat}:stv h a x n = match x.cells with
 | some xs=>if xs.length = n /\ 0 < n then (storeAt h a xs).map (.undef,·) else none
 | none=>none:=(rfl)
@[simp] theorem bn8 {d:D}:(V.d d).cells = some [.d d]:=(rfl)
@[simp] theorem V8 {cs:List V}:(V.agg cs).cells = some cs:=(rfl)
@[simp] theorem V9 {b o:Nat}:(V.ptr b o).cells = some [.ptr b o]:=(rfl)
@[simp] theorem Wd {b o l z:Nat} {c:Option Nat}:(V.row b o l c z).cells = some [.row b o l c z]:=(rfl)
@[simp low] theorem NN {bs:List Blk} {l b:Nat} {cs:List V}:Hp.set ⟨bs,l⟩ b cs = ⟨bs.set b (.cells cs),min l b⟩:=(rfl)
@[simp] theorem cn2 {a b:Int} (h:¬ a = b):(a == b) = false:=by simpa using h
@[simp] theorem bq0 (k:Nat):((k:Int) < 0) ↔ False:=⟨fun h=>by omega,False.elim⟩
@[simp] theorem cv9 (k:Nat):((k:Int) >= 0) ↔ True:=⟨fun _=>trivial,fun _=>Int.natCast_nonneg k⟩
@[simp] theorem cw0 (k:Nat):(0 <= (k:Int)) ↔ True:=⟨fun _=>trivial,fun _=>Int.natCast_nonneg k⟩
@[simp] theorem Q6 {ev:X -> V} {cs:List V}:aA ev cs [] = some cs:=(rfl)
@[simp] theorem X4 {h:Hp} {cs:List V}:dD h (.agg cs) = match fC h cs with
 | some l=>some (ag l)
 | none=>none:=(rfl)
@[simp] theorem X5 {h:Hp} {cs:List V}:frz h (.agg cs) = match fC h cs with
 | some l=>some (ag l)
 | none=>none:=(rfl)
@[simp] theorem QQ {h:Hp}:fC h [] = some []:=(rfl)
@[simp] theorem Og {h:Hp} {x:D} {cs:List V}:fC h (.d x :: cs) = (fC h cs).map (x :: ·):=by
 simp only [fC,List.mapM_cons,nW];cases cs.mapM (dataV h 8) <;> rfl
@[simp] theorem Kw {h:Hp} {b o n z:Nat} {cap:Option Nat}:frz h (.row b o n cap z) = match dataV h 8 (.row b o n cap z) with
 | some d=>some (.d d)
 | none=>none:=(rfl)
@[simp] theorem Gg {h:Hp} {b o n z:Nat} {cap:Option Nat}:dD h (.row b o n cap z) = match dataV h 8 (.row b o n cap z) with
 | some d=>some (.d d)
 | none=>none:=(rfl)
@[simp] theorem bo8 {h:Hp} {vs:List V}:frz h (.tup vs) = match vs.mapM (dD h) with
 | some l=>some (.tup l)
 | none=>none:=(rfl)
def runT (t:Tr) (o:Option (List Tr × EA × Hp)):Option (List Tr × EA × Hp):=match o with
 | some (l,e,h)=>some (t :: l,e,h)
 | none=>none
def Eo (C:Calls') (os:List RO) (e:EA) (d:Option Nat) (o:Option (V × Hp × Tr)):Option (List Tr × EA × Hp):=match o with
 | some (v,h',t)=>runT t (d9 C os (bI e d v) h')
 | none=>none
def sH (C:Calls') (v:V) (w:Bool) (d:Option Nat) (r:R) (os:List RO) (e:EA) (h:Hp):Option (List Tr × EA × Hp):=match v with
 | .d (.bool t)=>if t = w then Eo C os e d (bN C r (X.ea e) h) else runT (aV h) (d9 C os (bI e d (.tup [])) h)
 | .tup []=>runT (aV h) (d9 C os (bI e d (.tup [])) h)
 | _=>none
section
variable {C:Calls'} {ev:X -> V} {h:Hp}
@[simp] theorem be1 {e:EA}:d9 C [] e h = some ([],e,h):=(rfl)
@[simp] theorem En {d:Option Nat} {r:R} {os:List RO} {e:EA}:d9 C (⟨none,d,r⟩ :: os) e h = Eo C os e d (bN C r (X.ea e) h):=(rfl)
@[simp] theorem NL {j:Nat} {w:Bool} {d:Option Nat} {r:R} {os:List RO} {e:EA}:d9 C (⟨some (j,w),d,r⟩ :: os) e h = sH C (e.get j) w d r os e h:=(rfl)
@[simp] theorem VO {os:List RO} {e:EA} {d:Option Nat} {v:V} {h':Hp} {t:Tr}:Eo C os e d (some (v,h',t)) = runT t (d9 C os (bI e d v) h'):=(rfl)
@[simp] theorem VP {t:Tr} {l:List Tr} {e:EA}:runT t (some (l,e,h)) = some (t :: l,e,h):=(rfl)
section
variable {d:Option Nat} {r:R} {os:List RO} {e:EA}
@[simp] theorem Yc:sH C (.d (.bool true)) true d r os e h = Eo C os e d (bN C r (X.ea e) h):=(rfl)
@[simp] theorem Yb:sH C (.d (.bool true)) false d r os e h = runT (aV h) (d9 C os (bI e d (.tup [])) h):=(rfl)
@[simp] theorem Ya:sH C (.d (.bool false)) true d r os e h = runT (aV h) (d9 C os (bI e d (.tup [])) h):=(rfl)
@[simp] theorem X9:sH C (.d (.bool false)) false d r os e h = Eo C os e d (bN C r (X.ea e) h):=(rfl)
@[simp] theorem bo9 {w:Bool}:sH C (.tup []) w d r os e h = runT (aV h) (d9 C os (bI e d (.tup [])) h):=(rfl)
end
def trE (o:Option (V × Hp)) (h:Hp) (nd wr:List Nat):Option (V × Hp × Tr):=match o with
 | some (v,h')=>some (v,h',⟨false,false,nd,wr,h.bs.length,h'.bs.length,0⟩)
 | none=>none
@[simp] theorem dz0 {v:V} {h':Hp} {nd wr:List Nat}:trE (some (v,h')) h nd wr = some (v,h',⟨false,false,nd,wr,h.bs.length,h'.bs.length,0⟩):=(rfl)
@[simp] theorem ak6 {x:X}:bN C (.mov x) ev h = trE (opE C (.mov x) ev h) h [] []:=(rfl)
@[simp] theorem Ws {a b c:X}:bN C (.pick a b c) ev h = trE (opE C (.pick a b c) ev h) h [] []:=(rfl)
@[simp] theorem ak7 {a:List V}:bN C (.new a) ev h = trE (opE C (.new a) ev h) h [] []:=(rfl)
@[simp] theorem ak1 {a:X}:bN C (.box a) ev h = trE (opE C (.box a) ev h) h [] []:=(rfl)
@[simp] theorem TK {a:List V} {b:List (Nat × Nat × X)}:bN C (.build a b) ev h = trE (opE C (.build a b) ev h) h [] []:=(rfl)
@[simp] theorem OZ {z n:Nat} {a:List V} {b:List (Nat × Nat × X)}:bN C (.buildS z n a b) ev h = trE (opE C (.buildS z n a b) ev h) h [] []:=(rfl)
@[simp] theorem Wn {s:Bool} {n:Nat} {a:X}:bN C (.load s n a) ev h = trE (opE C (.load s n a) ev h) h (ev a).blk []:=(rfl)
@[simp] theorem TN {n:Nat} {a b:X}:bN C (.store n a b) ev h = trE (opE C (.store n a b) ev h) h (ev a).blk (ev a).blk:=(rfl)
@[simp] theorem ak0 {o:BinOp} {a b:X}:bN C (.bin o a b) ev h = trE (opE C (.bin o a b) ev h) h [] []:=(rfl)
@[simp] theorem bq7 {k:EQ} {n:Bool} {a b:X}:bN C (.eq k n a b) ev h = trE (opE C (.eq k n a b) ev h) h [] []:=(rfl)
@[simp] theorem bq8 {o:UnOp} {a:X}:bN C (.un o a) ev h = trE (opE C (.un o a) ev h) h [] []:=(rfl)
@[simp] theorem TM {k:IntKind} {a:X}:bN C (.convI k a) ev h = trE (opE C (.convI k a) ev h) h [] []:=(rfl)
@[simp] theorem O0 {a:X}:bN C (.convBS a) ev h = trE (opE C (.convBS a) ev h) h (ev a).blk []:=(rfl)
@[simp] theorem O1 {a:X}:bN C (.convSB a) ev h = trE (opE C (.convSB a) ev h) h [] []:=(rfl)
@[simp] theorem O3 {a:X}:bN C (.convSS a) ev h = trE (opE C (.convSS a) ev h) h [] []:=(rfl)
@[simp] theorem Wj {n:Nat} {a:X}:bN C (.fldA a n) ev h = trE (opE C (.fldA a n) ev h) h [] []:=(rfl)
@[simp] theorem ak3 {s:Bool} {o n:Nat} {a:X}:bN C (.fld s a o n) ev h = trE (opE C (.fld s a o n) ev h) h [] []:=(rfl)
@[simp] theorem Wl {m:Option Nat} {n:Nat} {a b:X}:bN C (.idxA m n a b) ev h = trE (opE C (.idxA m n a b) ev h) h [] []:=(rfl)
@[simp] theorem ak4 {s:Bool} {m n:Nat} {a b:X}:bN C (.idx s m n a b) ev h = trE (opE C (.idx s m n a b) ev h) h [] []:=(rfl)
@[simp] theorem Wm {a b:X}:bN C (.idxS a b) ev h = trE (opE C (.idxS a b) ev h) h [] []:=(rfl)
@[simp] theorem ak8 {k:SK} {z:Nat} {a:X} {b c d:Option X}:bN C (.slc k z a b c d) ev h = trE (opE C (.slc k z a b c d) ev h) h (ev a).blk []:=(rfl)
@[simp] theorem Wp {f:FuncId} {l:List X}:bN C (.mkmv f l) ev h = trE (opE C (.mkmv f l) ev h) h [] []:=(rfl)
@[simp] theorem Wo {f:FuncId} {l:List X}:bN C (.mkfn f l) ev h = trE (opE C (.mkfn f l) ev h) h [] []:=(rfl)
@[simp] theorem Wq {z b:Nat} {l:List V} {x y:X}:bN C (.mksl z b l x y) ev h = trE (opE C (.mksl z b l x y) ev h) h [] []:=(rfl)
@[simp] theorem ak2 {n:Nat} {a:X}:bN C (.ext a n) ev h = trE (opE C (.ext a n) ev h) h [] []:=(rfl)
@[simp] theorem aj9 {z b:Nat} {x y:X}:bN C (.app z b x y) ev h = trE (opE C (.app z b x y) ev h) h ((ev x).blk ++ (ev y).blk) (ev x).blk:=(rfl)
@[simp] theorem ak5 {s:Bool} {a:X}:bN C (.len s a) ev h = trE (opE C (.len s a) ev h) h [] []:=(rfl)
@[simp] theorem Wi {z:Nat} {x y:X}:bN C (.copy z x y) ev h = trE (opE C (.copy z x y) ev h) h ((ev x).blk ++ (ev y).blk) (ev x).blk:=(rfl)
@[simp] theorem O4 {a:X}:bN C (.nilchk a) ev h = trE (opE C (.nilchk a) ev h) h [] []:=(rfl)
theorem aD {f:X} {args:List X}:bN C (.call f args) ev h = if args.all (fun x=>okV (ev x)) = true then match ed C (ev f) (args.map ev) ⟨h.bs,h.bs.length⟩ with
 | some (v,h')=>if h.bs.length <= h'.low then
  (if h'.bs.length = h.bs.length then some (v,h,⟨true,false,[],[],h.bs.length,h.bs.length,0⟩)
  else some (v,⟨h'.bs,h.low⟩,⟨true,false,[],[],h.bs.length,h'.bs.length,0⟩))
  else some (v,⟨h'.bs,min h.low h'.low⟩,⟨true,true,[],[],h.bs.length,h'.bs.length,⟨h'.low,lg h.bs h'.bs⟩⟩)
 | none=>none
 else none:=(rfl)
end
@[simp] theorem dx7 {d:D}:(V.d d).blk = []:=(rfl)
@[simp] theorem bn4 {b o:Nat}:(V.ptr b o).blk = [b]:=(rfl)
@[simp] theorem bn5 {b o l z:Nat} {c:Option Nat}:(V.row b o l c z).blk = [b]:=(rfl)
@[simp] theorem XJ {cs:List D} {o:Nat}:(V.eptr cs o).blk = []:=(rfl)
@[simp] theorem bn3 {cs:List V}:(V.agg cs).blk = []:=(rfl)
end
end Go.Proofs.YtjkfknafpgfchaaGreat
