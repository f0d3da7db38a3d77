/- Views as data; the closures and finders of layer 17. -/
import Derived.Test.YtmnfjejphmmddaaGreatSa
set_option maxRecDepth 100000
set_option linter.unusedVariables false
set_option linter.unusedSimpArgs false
namespace Go.Proofs.YtmnfjejphmmddaaGreat
variable {E:Calls'}
def u32C (n:Int):List D:=[u32 n]
structure Vw where
 epoch:Int
 covers:Sl Int
 pods:Sl Pod
 services:Sl Svc
 bound:Sl Way
 policies:Sl Pol
def Vw.c (x:Vw):List D:=[u64 x.epoch,x.covers.d u32C,x.pods.d Pod.c,x.services.d Svc.c,x.bound.d Way.c,x.policies.d Pol.c]
abbrev Vw.v (x:Vw):V:=ag x.c
def Vw.cfg (x:Vw):Cfg:=⟨0,0,0,0,x.pods,x.services,x.bound,x.policies⟩
abbrev Vw.ok (x:Vw):Prop:=short x.covers /\ x.cfg.ok
@[simp] theorem Vw.len {x:Vw}:x.c.length = 6:=(rfl)
@[simp] theorem Vw.all {x:Vw}:sub x.c 0 6 = some x.c:=(rfl)
@[simp] theorem Vw.s0_1 {x:Vw}:sub x.c 0 1 = some [u64 x.epoch]:=(rfl)
@[simp] theorem Vw.s1_1 {x:Vw}:sub x.c 1 1 = some [x.covers.d u32C]:=(rfl)
@[simp] theorem Vw.s2_1 {x:Vw}:sub x.c 2 1 = some [x.pods.d Pod.c]:=(rfl)
@[simp] theorem Vw.s3_1 {x:Vw}:sub x.c 3 1 = some [x.services.d Svc.c]:=(rfl)
@[simp] theorem Vw.s4_1 {x:Vw}:sub x.c 4 1 = some [x.bound.d Way.c]:=(rfl)
@[simp] theorem Vw.s5_1 {x:Vw}:sub x.c 5 1 = some [x.policies.d Pol.c]:=(rfl)
structure Fnd where
 kind:Int
 pod:Pod
 service:Svc
 way:Way
def Fnd.c (x:Fnd):List D:=i64 x.kind :: (x.pod.c ++ (x.service.c ++ x.way.c))
abbrev Fnd.v (x:Fnd):V:=ag x.c
def fnd0:Fnd:=⟨0,pod0,svc0,way0⟩
@[simp] theorem Fnd.len {x:Fnd}:x.c.length = 15:=(rfl)
@[simp] theorem Fnd.all {x:Fnd}:sub x.c 0 15 = some x.c:=(rfl)
@[simp] theorem Fnd.s1_7 {x:Fnd}:sub x.c 1 7 = some x.pod.c:=(rfl)
@[simp] theorem Fnd.s7_1 {x:Fnd}:sub x.c 7 1 = some [u64 x.pod.service]:=(rfl)
@[simp] theorem Fnd.s8_5 {x:Fnd}:sub x.c 8 5 = some x.service.c:=(rfl)
@[simp] theorem fnd_z:[(V.d (.int .i64 0)),(.d (.int .u64 0)),(.d (.str ⟨#[]⟩)),(.d (.str ⟨#[]⟩)),(.d (.int .i64 0)),(.d (.int .u32 0)),(.d (.int .i64 0)),(.d (.int .u64 0)),(.d (.int .u64 0)),(.d (.str ⟨#[]⟩)),(.d (.int .u32 0)),(.d (.int .i64 0)),(.d (.int .u64 0)),(.d (.int .u64 0)),(.d (.int .i64 0))] = fnd0.c.map .d:=(rfl)
@[simp] theorem fnd_p0 {x:Fnd} {k:Int}:put (x.c.map V.d) 0 [.d (i64 k)] = some ((Fnd.c { x with kind:=k }).map .d):=(rfl)
@[simp] theorem fnd_t {x:Fnd} {k:Int}:V.d (.int .i64 k) :: (x.c.map V.d).tail = (Fnd.c { x with kind:=k }).map .d:=(rfl)
@[simp] theorem fnd_d {x:Fnd}:(x.c.map V.d).drop 15 = []:=(rfl)
@[simp] theorem fnd_p1 {x:Fnd} {p:Pod}:put (x.c.map V.d) 1 (p.c.map .d) = some ((Fnd.c { x with pod:=p }).map .d):=(rfl)
@[simp] theorem fnd_p8 {x:Fnd} {p:Svc}:put (x.c.map V.d) 8 (p.c.map .d) = some ((Fnd.c { x with service:=p }).map .d):=(rfl)
@[simp] theorem fnd_p13 {x:Fnd} {p:Way}:put (x.c.map V.d) 13 (p.c.map .d) = some ((Fnd.c { x with way:=p }).map .d):=(rfl)
@[simp] theorem fnd_p15 {x y:Fnd}:put (x.c.map V.d) 0 (y.c.map .d) = some (y.c.map .d):=(rfl)
def Fnd.eqB (x y:Fnd):Bool:=x.kind == y.kind && (x.pod.uid == y.pod.uid && (eqS x.pod.ns y.pod.ns && (eqS x.pod.sa y.pod.sa && (x.pod.host == y.pod.host && (x.pod.addr == y.pod.addr && (x.pod.port == y.pod.port && (x.pod.service == y.pod.service && (x.service.id == y.service.id && (eqS x.service.ns y.service.ns && (x.service.addr == y.service.addr && (x.service.port == y.service.port && (x.service.way == y.service.way && (x.way.id == y.way.id && (x.way.node == y.way.node && true))))))))))))))
@[simp] theorem eqv_fnd {h:Hp} {n:Bool} {x y:Fnd}:eqv (.agg [(.i .i64),(.i .u64),.s,.s,(.i .i64),(.i .u32),(.i .i64),(.i .u64),(.i .u64),.s,(.i .u32),(.i .i64),(.i .u64),(.i .u64),(.i .i64)]) n (ag x.c) (ag y.c) h = some (.d (.bool (x.eqB y != n)),h):=by
 simp [eqv,valEq,ag,Fnd.c,Pod.c,Svc.c,Way.c,cellsEq,scEq,Fnd.eqB,eqS]
@[simp] theorem Fnd.eqB_refl (x:Fnd):x.eqB x = true:=by simp [Fnd.eqB]
theorem S157 (p:Pod) (b:Int) (x:Nat) (h:Hp) (hp:getB h.bs x = some [.d (u32 b)]):Sm E TT valT 157 [p.v,.ptr x 0] h = some (bl (p.addr == b),h):=by
 rw [Sm_ref t157 v157]
 simp [Bd_mk,q157,getB_of hp,V.under]
theorem S160 (p:Svc) (b:Int) (x:Nat) (h:Hp) (hp:getB h.bs x = some [.d (u32 b)]):Sm E TT valT 160 [p.v,.ptr x 0] h = some (bl (p.addr == b),h):=by
 rw [Sm_ref t160 v160]
 simp [Bd_mk,q160,getB_of hp,V.under]
theorem S158 (p:Svc) (b:Fnd) (x:Nat) (h:Hp) (hp:getB h.bs x = some (b.c.map .d)):Sm E TT valT 158 [p.v,.ptr x 0] h = some (bl (p.id == b.pod.service),h):=by
 rw [Sm_ref t158 v158]
 simp [Bd_mk,q158,getB_of hp,V.under]
theorem S252 (p:Way) (s:Svc) (x:Nat) (h:Hp) (hp:getB h.bs x = some (s.c.map .d)):Sm E TT valT 252 [p.v,.ptr x 0] h = some (bl (p.id == s.way),h):=by
 rw [Sm_ref t252 v252]
 simp [Bd_mk,q252,getB_of hp,V.under,Way.c]
theorem S100_157 {s:Sl Pod} (hs:short s) {x:Nat} {n:Int} {h:Hp} (hp:getB h.bs x = some [.d (u32 n)]):Sm E TT valT 100 [.d (s.d Pod.c),.fn 157 [.ptr x 0]] h = some (.d (i64 (idxI s.l fun p=>p.addr == n)),h) :=
 S_idx Pod.c (z:=7) t100 v100 (RowIs.of (cells:=Pod.c) (fun _=>rfl) _) hs.lt fun p _ lo=>S157 p n x _ hp
theorem S103_160 {s:Sl Svc} (hs:short s) {x:Nat} {n:Int} {h:Hp} (hp:getB h.bs x = some [.d (u32 n)]):Sm E TT valT 103 [.d (s.d Svc.c),.fn 160 [.ptr x 0]] h = some (.d (i64 (idxI s.l fun p=>p.addr == n)),h) :=
 S_idx Svc.c (z:=5) t103 v103 (RowIs.of (cells:=Svc.c) (fun _=>rfl) _) hs.lt fun p _ lo=>S160 p n x _ hp
theorem S103_158 {s:Sl Svc} (hs:short s) {x:Nat} {b:Fnd} {h:Hp} (hp:getB h.bs x = some (b.c.map .d)):Sm E TT valT 103 [.d (s.d Svc.c),.fn 158 [.ptr x 0]] h = some (.d (i64 (idxI s.l fun p=>p.id == b.pod.service)),h) :=
 S_idx Svc.c (z:=5) t103 v103 (RowIs.of (cells:=Svc.c) (fun _=>rfl) _) hs.lt fun p _ lo=>S158 p b x _ hp
theorem S109_252 {s:Sl Way} (hs:short s) {x:Nat} {n:Svc} {h:Hp} (hp:getB h.bs x = some (n.c.map .d)):Sm E TT valT 109 [.d (s.d Way.c),.fn 252 [.ptr x 0]] h = some (.d (i64 (idxI s.l fun p=>p.id == n.way)),h) :=
 S_idx Way.c (z:=2) t109 v109 (RowIs.of (cells:=Way.c) (fun _=>rfl) _) hs.lt fun p _ lo=>S252 p n x _ hp
def boundT (v:Vw) (s:Svc):Way:=if s.way == 0 then way0 else (v.bound.l.find? fun w=>w.id == s.way).getD way0
theorem S159 (v:Vw) (hv:v.ok) (s:Svc) (h:Hp):Sm E TT valT 159 [v.v,s.v] h = some ((boundT v s).v,h):=by
 rw [Sm_v t159 v159]
 have h109:=fun h hp=>S109_252 (E:=E) (s:=v.bound) hv.2.2.2.1 (x:=1) (n:=s) (h:=h) hp
 by_cases hw:s.way = 0
 · generalize idxI v.bound.l _ = ix at h109
   simp [Bd_mk,q159,h109,boundT,hw,way0]
   rfl
 · rcases idx_cases v.bound.l (fun w=>w.id == s.way) with ⟨g1,g2⟩ | ⟨k,p,g1,g2,g3⟩
   · simp [Bd_mk,q159,h109,boundT,hw,g1,g2,way0]
     rfl
   · simp [Bd_mk,q159,h109,boundT,hw,g1,g2,idxv_sl (z:=2) _ g3 (cells:=Way.c) rfl]
end Go.Proofs.YtmnfjejphmmddaaGreat
namespace Go.Proofs.YtmnfjejphmmddaaGreat
variable {E:Calls'}
@[simp] theorem find_false {α:Type} (l:List α):l.find? (fun _=>false) = none:=by simp [List.find?_eq_none]
theorem L232 {s:Sl Int} (hs:short s) (n:Int) (h:Hp):∀ (m i:Nat),i + m = s.l.length →
 Cd E TT valT (.loop [0,1,7,8] q232_b0) [(0,.d (s.d u32C)),(1,.d (u32 n)),(7,.d (i64 s.l.length)),(8,.d (i64 i))] h =
  match (s.l.drop i).findIdx? (fun x=>x == n) with
  | some k=>some (.ret,[(4,.d (i64 (i + k:Nat)))],h)
  | none=>some (.exit 0,[],h):=by
 have hlt:=hs.lt
 intro m
 have key:=Cd_round (E:=E) (T:=TT) (val:=valT) [0,1,7,8] q232_b0
 generalize Cd E TT valT (.loop [0,1,7,8] q232_b0) = W at key ⊢
 induction m with
 | zero =>
  intro i hi
  have h0:s.l.drop i = []:=List.drop_eq_nil_of_le (by omega)
  rw [key]
  simp [q232_b0,h0,show ¬ ((i:Int) < s.l.length) from by omega]
 | succ m ih =>
  intro i hi
  have h1:i < s.l.length:=by omega
  have hx:=fun h=>idxv_sl (z:=1) h (List.getElem?_eq_getElem h1) (cells:=u32C) rfl
  have hw:=int_next h1 hlt
  have:=ih (i + 1) (by omega)
  rw [key,List.drop_eq_getElem_cons h1]
  generalize s.l[i] = x at *
  by_cases hq:x = n
  · simp [q232_b0,hx,hq,u32C,List.findIdx?_cons,show ((i:Int) < s.l.length) from by omega]
  · have hq':(x == n) = false:=by simpa using hq
    have hq2:¬ n = x:=fun h=>hq h.symm
    simp [q232_b0,hx,hq',hq,hq2,u32C,hw,List.findIdx?_cons,show ((i:Int) < s.l.length) from by omega]
    rw [show ((i:Int) + 1) = ((i + 1:Nat):Int) from by omega,this]
    cases hfi:(s.l.drop (i + 1)).findIdx? (fun p=>p == n) with
    | none=>rfl
    | some k=>simp; omega
theorem S232 {s:Sl Int} (hs:short s) (n:Int) (h:Hp):Sm E TT valT 232 [.d (s.d u32C),.d (u32 n)] h = some (.d (i64 (idxI s.l fun x=>x == n)),h):=by
 rw [Sm_v t232 v232]
 have k1:=fun h=>L232 (E:=E) hs n h s.l.length 0 (by omega)
 simp at k1
 simp [Bd_mk,q232]
 rw [Cd_keep]
 simp [k1,idxI]
 cases s.l.findIdx? (fun x=>x == n) with
 | none=>simp
 | some k=>simp
def hasT (l:List Int) (n:Int):Bool:=(l.find? fun x=>x == n).isSome
theorem S117 {s:Sl Int} (hs:short s) (n:Int) (h:Hp):Sm E TT valT 117 [.d (s.d u32C),.d (u32 n)] h = some (bl (hasT s.l n),h):=by
 rw [Sm_v t117 v117]
 rcases idx_cases s.l (fun x=>x == n) with ⟨g1,g2⟩ | ⟨k,p,g1,g2,g3⟩
 · simp [Bd_mk,q117,S232 hs,g2,hasT,g1]
 · simp [Bd_mk,q117,S232 hs,g2,hasT,g1]
def vpodT (v:Vw) (p:Pod):Fnd:=match v.services.l.find? (fun s=>!(p.service == 0) && s.id == p.service) with
 | some s=>⟨2,p,s,boundT v s⟩
 | none=>⟨2,p,svc0,way0⟩
def vatT (v:Vw) (n:Int):Fnd:=match v.pods.l.find? (fun p=>p.addr == n) with
 | some p=>vpodT v p
 | none=>if hasT v.covers.l n then match v.services.l.find? (fun s=>s.addr == n) with
  | some s=>⟨3,pod0,s,boundT v s⟩
  | none=>⟨1,pod0,svc0,way0⟩
  else fnd0
theorem S73 (v:Vw) (hv:v.ok) (n:Int) (h:Hp):Sm E TT valT 73 [v.v,.d (u32 n)] h = some ((vatT v n).v,h):=by
 rw [Sm_v t73 v73]
 have h1:=fun h hp=>S100_157 (E:=E) (s:=v.pods) hv.2.1 (x:=1) (n:=n) (h:=h) hp
 have h2:=fun b h hp=>S103_158 (E:=E) (s:=v.services) hv.2.2.1 (x:=3) (b:=b) (h:=h) hp
 have h3:=fun h hp=>S103_160 (E:=E) (s:=v.services) hv.2.2.1 (x:=1) (n:=n) (h:=h) hp
 have h4:=fun h=>S117 (E:=E) (s:=v.covers) hv.1 n h
 have h5:=fun s h=>S159 (E:=E) v hv s h
 rcases idx_cases v.pods.l (fun p=>p.addr == n) with ⟨g1,g2⟩ | ⟨k,p,g1,g2,g3⟩
 · by_cases hc:hasT v.covers.l n = true
   · rcases idx_cases v.services.l (fun p=>p.addr == n) with ⟨e1,e2⟩ | ⟨k,s,e1,e2,e3⟩
     · simp [Bd_mk,q73,h1,h3,h4,g1,g2,hc,e1,e2,vatT,fillsE,fnd0]
       first | done | rfl
     · have hi:=fun h=>idxv_sl (z:=5) h e3 (cells:=Svc.c) rfl
       simp (decide:=true) [Bd_mk,q73,h1,h3,h4,h5,g1,g2,hc,e1,e2,vatT,hi,openA,opDE_call,fillsE]
       first | done | rfl
   · have hc':hasT v.covers.l n = false:=by simpa using hc
     simp [Bd_mk,q73,h1,h4,g1,g2,hc',vatT,fillsE]
     first | done | rfl
 · have hi:=fun h=>idxv_sl (z:=7) h g3 (cells:=Pod.c) rfl
   have h2:=fun h hp=>h2 ⟨2,p,svc0,way0⟩ h hp
   by_cases hz:p.service = 0
   · generalize idxI v.services.l _ = ix at h2
     simp [Bd_mk,q73,h1,h2,g1,g2,hi,hz,vatT,vpodT,fnd0,fillsE]
     first | done | rfl
   · rcases idx_cases v.services.l (fun s=>s.id == p.service) with ⟨e1,e2⟩ | ⟨k,s,e1,e2,e3⟩
     · simp [Bd_mk,q73,h1,h2,g1,g2,hi,hz,e1,e2,vatT,vpodT,fnd0,fillsE]
       first | done | rfl
     · have hj:=fun h=>idxv_sl (z:=5) h e3 (cells:=Svc.c) rfl
       simp [Bd_mk,q73,h1,h2,h5,g1,g2,hi,hj,hz,e1,e2,vatT,vpodT,fnd0,fillsE]
       first | done | rfl
end Go.Proofs.YtmnfjejphmmddaaGreat
namespace Go.Proofs.YtmnfjejphmmddaaGreat
variable {E:Calls'}
end Go.Proofs.YtmnfjejphmmddaaGreat
namespace Go.Proofs.YtmnfjejphmmddaaGreat
section
variable {E:Calls'} {T:FuncId -> Option QF} {val:FuncId -> Bool}
theorem B_cloneRow {z b:Nat} {zero:List V} (hz0:0 < z) (hb:b <= 4096) {es:List (List D)} (hz:∀ e ∈ es,e.length = z) (hlen:es.length <= big) {bs:List Blk} (lo:Nat) {r:Nat} {cap:Option Nat} {rest:List V} (hr:getB bs r = some (flat es ++ rest)) :
 Bd E T val (cloneQ z b zero) [.row r 0 es.length cap z] ⟨bs,lo⟩ = some (cloneR z false es bs lo):=by
 have hzz:z ≠ 0:=by omega
 have hl:=flat_len hz
 have hs:sub (flat es ++ rest) 0 (es.length * z) = some (flat es):=by
  rw [sub_eq,if_pos (by rw [List.length_append,hl]; omega),List.drop_zero,← hl,List.take_left]
 have hg:=getB_of (ys:=[.cells []]) hr
 have hrc:rowCells ⟨bs ++ [.cells []],lo⟩ (.row r 0 es.length cap z) z = some (es.length,flat es):=by
  simp only [rowCells,get_eq,hg,hs]; simp
 cases es with
 | nil=>simp at hrc; simp [cloneQ,Bd_mk,appv,hrc,appendAt,hzz,cloneR]
 | cons e es =>
  generalize hF:flat (e :: es) = F at hrc
  have hr:roomy (es.length + 1) b = true:=by
   simp only [roomy,Bool.and_eq_true,decide_eq_true_eq]
   exact ⟨hlen,hb⟩
  simp at hrc
  simp [cloneQ,Bd_mk,appv,hrc,appendAt,hzz,hr,cloneR,hF]
theorem S_cloneRow {z b:Nat} {zero:List V} {id:FuncId} (ht:T id = some (cloneQ z b zero)) (hv:val id = false) (hz0:0 < z) (hb:b <= 4096) {es:List (List D)} (hz:∀ e ∈ es,e.length = z) (hlen:es.length <= big) (h:Hp) {r:Nat} {cap:Option Nat} {rest:List V} (hr:getB h.bs r = some (flat es ++ rest)) :
 Sm E T val id [.row r 0 es.length cap z] h = some ((cloneR z false es h.bs h.low).1,⟨(cloneR z false es h.bs h.low).2.bs,min h.low h.bs.length⟩):=by
 have hrl:=getB_len hr
 rw [Sm_ref ht hv,B_cloneRow hz0 hb hz hlen _ hr]
 cases es <;> simp [byRef,cloneR,V.under] <;> (try intro hh) <;> omega
end
section
variable {E:Calls'}
def pol0V:List V:=[(.d (.int .u64 0)),(.d (.str ⟨#[]⟩)),(.d (.int .u64 0)),(.d (.int .i64 0)),(.d (.slice true []))]
theorem u188:TT 188 = some (cloneQ 5 64 pol0V):=t188
theorem u248:TT 248 = some (delQ 5 339 pol0V):=t248
theorem u339:TT 339 = some (idxQ 5):=t339
theorem L155 {l:List Pol} (hl:l.length < 2 ^ 62) (hf:∀ p ∈ l,p.ok) {bs0:List Blk} {b:Nat} (hb0:b < bs0.length) {cap:Option Nat}:∀ (m i:Nat) (kept:List Pol) (bs:List Blk) (lo:Nat),i + m = l.length -> kept.length = i -> Thin Pol.c 5 l bs0 b kept bs →
 ∃ bs' lo',Cd E TT valT (.loop [0,7,8,9] q155_b0) [(0,.row b 0 l.length cap 5),(7,.row b 0 l.length cap 5),(8,.d (i64 l.length)),(9,.d (i64 i))] ⟨bs,lo⟩ = some (.exit 0,[(0,.row b 0 l.length cap 5)],⟨bs',lo'⟩) ∧
  Thin Pol.c 5 l bs0 b (kept ++ (l.drop i).map Pol.own) bs':=by
 intro m
 have key:=Cd_round (E:=E) (T:=TT) (val:=valT) [0,7,8,9] q155_b0
 generalize Cd E TT valT (.loop [0,7,8,9] q155_b0) = W at key ⊢
 induction m with
 | zero =>
  intro i kept bs lo hi hk ht
  have h0:l.drop i = []:=List.drop_eq_nil_of_le (by omega)
  refine ⟨bs,lo,?_,by simpa [h0] using ht⟩
  rw [key]
  simp [q155_b0,show ¬ ((i:Int) < l.length) from by omega]
 | succ m ih =>
  intro i kept bs lo hi hk ht
  have hlt:i < l.length:=by omega
  have hd:l.drop i = l[i] :: l.drop (i + 1):=List.drop_eq_getElem_cons hlt
  have hcz:∀ x:Pol,(Pol.c x).length = 5:=fun _=>rfl
  have hread:=ht.read hcz (j:=i) (by omega) hlt
  have hrow:=ht.row
  have hfx:=hf _ (List.getElem_mem hlt)
  generalize l[i] = x at *
  have hix:∀ bs lo,idxv none 5 (.row b 0 l.length cap 5) (.d (.int .i64 i)) ⟨bs,lo⟩ = some (.ptr b (i * 5),⟨bs,lo⟩):=by
   intro bs lo; simp only [idxv]; rw [if_pos ⟨by omega,by omega,trivial⟩]; simp
  have hw:=int_next hlt hl
  have hcall:=fun h=>S113 (E:=E) x hfx h
  have hput:put pol0V 0 (x.c.map V.d) = some (x.c.map .d):=rfl
  have ht1:=ht.lay (.cells (x.c.map .d))
  obtain ⟨cs,hcs,ht2⟩:=ht1.keep hcz (e:=x.own) (by omega)
  rw [hk] at hcs
  have hrow1:=ht1.row
  rw [hk] at hrow hread hrow1
  have hset:∀ lo,Hp.set ⟨bs ++ [Blk.cells (x.c.map V.d)],lo⟩ b cs = ⟨(bs ++ [Blk.cells (x.c.map V.d)]).set b (Blk.cells cs),min lo b⟩:=fun _=>rfl
  obtain ⟨bs',lo',k1,k2⟩:=ih (i + 1) (kept ++ [x.own]) _ (min (min lo bs.length) b) (by omega) (by simp; omega) ht2
  refine ⟨bs',lo',?_,by simpa [hd] using k2⟩
  generalize hB:(bs ++ [Blk.cells (x.c.map .d)]).set b (Blk.cells cs) = B at *
  rw [key]
  simp [q155_b0,hix,ldv,hrow,hread,hput,hcall,hw,hrow1,hcs,hset,show ((i:Int) < l.length) from by omega]
  simpa using k1
end
end Go.Proofs.YtmnfjejphmmddaaGreat
namespace Go.Proofs.YtmnfjejphmmddaaGreat
variable {E:Calls'}
theorem thin_start {l:List Pol} {bs0:List Blk} {b:Nat} (hb:getB bs0 b = some (flat (l.map Pol.c))):Thin Pol.c 5 l bs0 b [] bs0 :=
 ⟨Nat.le_refl _,fun _ _ _=>rfl,by rw [hb]; simp⟩
theorem thin_end {l m:List Pol} {bs0 bs:List Blk} {b:Nat} (h:Thin Pol.c 5 l bs0 b m bs) (hm:m.length = l.length):getB bs b = some (flat (m.map Pol.c)):=by
 have h1:=flatT_len (cells:=Pol.c) (z:=5) (fun _=>rfl) l
 rw [h.row,hm,List.drop_eq_nil_of_le (by rw [h1]; omega),List.append_nil]
theorem S155_nil (h:Hp):Sm E TT valT 155 [.d (.slice true [])] h = some (.d (.slice true []),h):=by
 rw [Sm_ref t155 v155]
 have key:=Cd_round (E:=E) (T:=TT) (val:=valT) [0,7,8,9] q155_b0
 have hc:=fun h=>S_cloneR (E:=E) (T:=TT) (val:=valT) u188 v188 (by decide) (by decide) (nl:=true) (es:=[]) (by simp) (by simp) h
 simp only [cloneR] at hc
 simp [Bd_mk,q155,hc]
 rw [Cd_keep]
 rw [key]
 simp [q155_b0,V.under]
theorem S155_row {l:List Pol} (hl:l.length <= big) (hf:∀ p ∈ l,p.ok) (h:Hp) {r:Nat} {cap:Option Nat} {rest:List V} (hr:getB h.bs r = some (flat (l.map Pol.c) ++ rest)) :
 ∃ bs' lo' b cap',Sm E TT valT 155 [.row r 0 l.length cap 5] h = some (.row b 0 l.length cap' 5,⟨bs',lo'⟩) /\ getB bs' b = some (flat ((l.map Pol.own).map Pol.c)):=by
 have hlt:l.length < 2 ^ 62:=Nat.lt_of_le_of_lt hl (by decide)
 have hrl:=getB_len hr
 have hc:=S_cloneRow (E:=E) (T:=TT) (val:=valT) u188 v188 (z:=5) (by decide) (by decide) (es:=l.map Pol.c) (by simp) (by simpa using hl) ⟨h.bs,h.bs.length⟩ (cap:=cap) hr
 rw [List.length_map] at hc
 rw [Sm_ref t155 v155]
 cases l with
 | nil =>
  simp only [List.map_nil,cloneR] at hc
  have key:=Cd_round (E:=E) (T:=TT) (val:=valT) [0,7,8,9] q155_b0
  refine ⟨h.bs ++ [.cells []],min h.low h.bs.length,h.bs.length,some 0,?_,by simp [getB]⟩
  simp at hc
  simp [Bd_mk,q155,hc]
  rw [Cd_keep]
  rw [key]
  simp [q155_b0,V.under]
 | cons p l =>
  simp only [List.map_cons,cloneR] at hc
  rw [← List.map_cons] at hc
  generalize hes:p :: l = es at *
  obtain ⟨bs',lo',k1,k2⟩:=L155 (E:=E) (l:=es) hlt hf (bs0:=h.bs ++ [.cells [],.cells (flat (es.map Pol.c))]) (b:=h.bs.length + 1) (by simp) (cap:=none) es.length 0 [] (h.bs ++ [.cells [],.cells (flat (es.map Pol.c))]) (min h.bs.length h.bs.length) (by omega) rfl (thin_start (by simp [getB]))
  refine ⟨bs',min h.low lo',h.bs.length + 1,none,?_,thin_end (by simpa using k2) (by simp)⟩
  have hel:l.length + 1 = es.length:=by rw [← hes]; rfl
  simp [hel] at hc k1
  simp [Bd_mk,q155,hc]
  rw [Cd_keep]
  simp [k1,V.under]
  intro _ hh
  omega
theorem S156 (p:Pol) (x:Pod) (b:Nat) (h:Hp) (hp:getB h.bs b = some (x.c.map .d)):Sm E TT valT 156 [p.v,.ptr b 0] h = some (bl (holdsT p x.ns x.service),h):=by
 rw [Sm_ref t156 v156]
 simp [Bd_mk,q156,getB_of hp,S52,V.under]
theorem S249 (p:Pol) (x:Pod) (b c:Nat) (h:Hp) (hc:getB h.bs c = some [.fn 156 [.ptr b 0]]) (hp:getB h.bs b = some (x.c.map .d)):Sm E TT valT 249 [p.v,.ptr c 0] h = some (bl (!holdsT p x.ns x.service),h):=by
 rw [Sm_ref t249 v249]
 have h1:=fun lo=>S156 (E:=E) p x b ⟨h.bs ++ [.cells (p.c.map .d)],lo⟩ (getB_of hp)
 simp [Bd_mk,q249,notQ,getB_of hc,h1,V.under]
end Go.Proofs.YtmnfjejphmmddaaGreat
namespace Go.Proofs.YtmnfjejphmmddaaGreat
variable {E:Calls'}
theorem S148 (s:Sl Pol) (hs:short s) (x:Pod) (c0:List V) :
 (s.nl = true /\ ∃ h',Sm E TT valT 148 [.d (s.d Pol.c),.fn 156 [.ptr 1 0]] ⟨[.cells c0,.cells (x.c.map .d)],0⟩ = some (.d (.slice true []),h')) ∨
 (s.nl = false /\ ∃ bs' lo' b cap rest,Sm E TT valT 148 [.d (s.d Pol.c),.fn 156 [.ptr 1 0]] ⟨[.cells c0,.cells (x.c.map .d)],0⟩ = some (.row b 0 (s.l.filter fun p=>holdsT p x.ns x.service).length cap 5,⟨bs',lo'⟩) ∧
   getB bs' b = some (flat ((s.l.filter fun p=>holdsT p x.ns x.service).map Pol.c) ++ rest)):=by
 have hlen:s.l.length < 2 ^ 62:=hs.lt
 have hcl:=S_cloneR (E:=E) (T:=TT) (val:=valT) (z:=5) (b:=64) (zero:=pol0V) u188 v188 (by decide) (by decide) (nl:=s.nl) (es:=s.l.map Pol.c) (by simp) (by simpa using hs.1) ⟨[.cells c0,.cells (x.c.map .d),.cells [.fn 156 [.ptr 1 0]]],2⟩
 rw [Sm_ref t148 v148]
 cases hnl:s.nl with
 | true =>
  have hl:=hs.2 hnl
  have hd:s.d Pol.c = .slice true []:=by simp [Sl.d,hnl,hl]
  have h1:=S_del_none (E:=E) (T:=TT) (val:=valT) Pol.c (es:=[]) (z:=5) (idx:=339) (zero:=pol0V) u339 v339 u248 v248 (v:=.d (.slice true [])) (f:=249) (caps:=[.ptr 2 0]) (q:=fun _=>false) (h:=⟨[.cells c0,.cells (x.c.map .d),.cells [.fn 156 [.ptr 1 0]]],2⟩) ⟨by simp,.inl ⟨true,rfl⟩⟩ (by simp) (by simp) (by simp)
  rw [hnl,hl] at hcl
  simp [cloneR] at hcl
  refine .inl ⟨rfl,?_⟩
  simp [Bd_mk,q148,keepQ,hd,hcl,h1,V.under]
 | false =>
  refine .inr ⟨rfl,?_⟩
  rw [hnl] at hcl
  cases hl:s.l with
  | nil =>
   rw [hl] at hcl
   simp [cloneR] at hcl
   have hd:s.d Pol.c = .slice false []:=by simp [Sl.d,hnl,hl]
   have h1:=fun lo=>S_del_none (E:=E) (T:=TT) (val:=valT) Pol.c (es:=[]) (z:=5) (idx:=339) (zero:=pol0V) u339 v339 u248 v248 (v:=.row 3 0 0 (some 0) 5) (f:=249) (caps:=[.ptr 2 0]) (q:=fun _=>false) (h:=⟨[.cells c0,.cells (x.c.map .d),.cells [.fn 156 [.ptr 1 0]],.cells []],lo⟩) ⟨by simp,.inr ⟨3,0,some 0,[],rfl,rfl,by simp⟩⟩ (by simp) (by simp) (by simp)
   refine ⟨[.cells c0,.cells (x.c.map .d),.cells [.fn 156 [.ptr 1 0]],.cells []],0,3,some 0,[],?_,rfl⟩
   simp [Bd_mk,q148,keepQ,hd,hcl,h1,V.under]
  | cons p l =>
   rw [hl] at hcl
   simp only [List.map_cons,cloneR] at hcl
   rw [← List.map_cons] at hcl
   generalize hes:p :: l = es at *
   have hel:l.length + 1 = es.length:=by rw [← hes]; rfl
   simp [hel] at hcl
   have hd:s.d Pol.c = .slice false (es.map Pol.c):=by simp [Sl.d,hnl,hl]
   have hF:=flat_len (z:=5) (es:=es.map Pol.c) (by simp)
   generalize hFF:flat (es.map Pol.c) = F at *
   have hcall:∀ e ∈ es,∀ bs lo,(∀ x,x ≠ 4 -> x < 5 -> bs[x]? = ([.cells c0,.cells (‹Pod›.c.map .d),.cells [.fn 156 [.ptr 1 0]],.cells [],.cells F]:List Blk)[x]?) -> Sm E TT valT 249 (.agg ((Pol.c e).map .d) :: [.ptr 2 0]) ⟨bs,lo⟩ = some (.d (.bool (!holdsT e ‹Pod›.ns ‹Pod›.service)),⟨bs,lo⟩):=by
    intro e _ bs lo ho
    have h1:=ho 1 (by decide) (by decide)
    have h2:=ho 2 (by decide) (by decide)
    exact S249 e x 1 2 ⟨bs,lo⟩ (by simp [getB,h2]) (by simp [getB,h1])
   have hnn:(es.filter fun e=>!(!holdsT e x.ns x.service)) = es.filter fun p=>holdsT p x.ns x.service:=by simp
   by_cases hq:∃ e ∈ es,(!holdsT e x.ns x.service) = true
   · obtain ⟨bs',lo',rest,k1,k2,k3,k4,k5⟩:=S_del_some (E:=E) (T:=TT) (val:=valT) (z:=5) (idx:=339) (zero:=pol0V) (cells:=Pol.c) (fun _=>rfl) (by decide) rfl u339 v339 u248 v248 (es:=es) (b:=4) (cap:=none) (f:=249) (caps:=[.ptr 2 0]) (q:=fun e=>!holdsT e x.ns x.service) (h:=⟨[.cells c0,.cells (x.c.map .d),.cells [.fn 156 [.ptr 1 0]],.cells [],.cells F],2⟩) (by simp [hFF]) (by rw [← hl]; exact hlen) (fun e he bs lo _ ho=>hcall e he bs lo ho) hq
     rw [hnn] at k1 k4
     refine ⟨bs',min 0 lo',4,none,rest,?_,k4⟩
     simp [Bd_mk,q148,keepQ,hd,hcl,k1,V.under]
   · have hall:∀ e ∈ es,(!holdsT e x.ns x.service) = false:=by
      intro e he
      cases hx:(!holdsT e x.ns x.service) with
      | false=>rfl
      | true=>exact absurd ⟨e,he,hx⟩ hq
     have h1:=S_del_none (E:=E) (T:=TT) (val:=valT) Pol.c (es:=es) (z:=5) (idx:=339) (zero:=pol0V) u339 v339 u248 v248 (v:=.row 4 0 es.length none 5) (f:=249) (caps:=[.ptr 2 0]) (q:=fun e=>!holdsT e x.ns x.service) (h:=⟨[.cells c0,.cells (x.c.map .d),.cells [.fn 156 [.ptr 1 0]],.cells [],.cells F],2⟩) ⟨by simp,.inr ⟨4,0,none,F,by simp,rfl,by rw [← hFF]; rw [← hFF] at hF; exact sub_all hF⟩⟩ (by rw [← hl]; exact hlen) (fun e he lo=>hcall e he _ lo (fun _ _ _=>rfl)) hall
     have hfl:es.filter (fun p=>holdsT p x.ns x.service) = es:=List.filter_eq_self.2 fun e he=>by have:=hall e he; simpa using this
     refine ⟨[.cells c0,.cells (x.c.map .d),.cells [.fn 156 [.ptr 1 0]],.cells [],.cells F],0,4,none,[],?_,by rw [hfl,hFF]; simp [getB]⟩
     simp [Bd_mk,q148,keepQ,hd,hcl,h1,hfl,V.under]
end Go.Proofs.YtmnfjejphmmddaaGreat
namespace Go.Proofs.YtmnfjejphmmddaaGreat
variable {E:Calls'}
def mineT (v:Vw) (x:Pod):List Pol:=v.policies.l.filter fun p=>holdsT p x.ns x.service
theorem S71 (v:Vw) (hv:v.ok) (x:Pod) (h:Hp):Sm E TT valT 71 [v.v,x.v] h = some (.d (Sl.d Pol.c ⟨v.policies.nl,(mineT v x).map Pol.own⟩),h):=by
 rw [Sm_v t71 v71]
 have hp:short v.policies:=hv.2.2.2.2.1
 rcases S148 (E:=E) v.policies hp x (v.c.map .d) with ⟨hn,h',k1⟩ | ⟨hn,bs',lo',b,cap,rest,k1,k2⟩
 · have hl:=hp.2 hn
   have hr:Sl.d Pol.c ⟨v.policies.nl,(mineT v x).map Pol.own⟩ = .slice true []:=by simp [Sl.d,mineT,hn,hl]
   rw [hr]
   simp [Bd_mk,q71,k1,S155_nil]
 · have hl:(v.policies.l.filter fun p=>holdsT p x.ns x.service).length <= v.policies.l.length:=List.length_filter_le _ _
   obtain ⟨bs2,lo2,b2,cap2,q1,q2⟩:=S155_row (E:=E) (l:=v.policies.l.filter fun p=>holdsT p x.ns x.service) (Nat.le_trans hl hp.1) (fun p hp=>hv.2.2.2.2.2 p ((List.mem_filter.1 hp).1)) ⟨bs',lo'⟩ (cap:=cap) k2
   have h2:=dataV_row (h:=⟨bs2,lo2⟩) (k:=7) (b:=b2) (n:=(v.policies.l.filter fun p=>holdsT p x.ns x.service).length) (cap:=cap2) (es:=((v.policies.l.filter fun p=>holdsT p x.ns x.service).map Pol.own).map Pol.c) (z:=5) (rest:=[]) (by intro e he; obtain ⟨y,_,rfl⟩:=List.mem_map.1 he; rfl) (by simp) (by rw [List.append_nil]; exact q2)
   have hr:Sl.d Pol.c ⟨v.policies.nl,(mineT v x).map Pol.own⟩ = .slice false (((v.policies.l.filter fun p=>holdsT p x.ns x.service).map Pol.own).map Pol.c):=by simp only [Sl.d,mineT,hn]
   rw [hr]
   simp [Bd_mk,q71,k1,q1,h2]
end Go.Proofs.YtmnfjejphmmddaaGreat
