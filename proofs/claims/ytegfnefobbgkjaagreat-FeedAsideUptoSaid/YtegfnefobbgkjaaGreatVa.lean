/- Views as data; the closures and finders of layer 17. -/
import Derived.Test.YtegfnefobbgkjaaGreatSa
set_option maxRecDepth 100000
set_option linter.unusedVariables false
set_option linter.unusedSimpArgs false
namespace Go.Proofs.YtegfnefobbgkjaaGreat
variable {E:Calls'}
def u32C (n:Int):List D:=[u32 n]
structure Vw where
 epoch:Int
 covers:Sl Int
 pods:Sl Pod
 services:Sl Svc
 bound:Sl Way
 policies:Sl Pol
def Vw.c (x:Vw):List D:=[u64 x.epoch,x.covers.d u32C,x.pods.d Pod.c,x.services.d Svc.c,x.bound.d Way.c,x.policies.d Pol.c]
abbrev Vw.v (x:Vw):V:=ag x.c
def Vw.cfg (x:Vw):Cfg:=⟨0,0,0,0,x.pods,x.services,x.bound,x.policies⟩
abbrev Vw.ok (x:Vw):Prop:=short x.covers /\ x.cfg.ok
@[simp] theorem Vw.len {x:Vw}:x.c.length = 6:=(rfl)
@[simp] theorem Vw.all {x:Vw}:sub x.c 0 6 = some x.c:=(rfl)
@[simp] theorem Vw.s0_1 {x:Vw}:sub x.c 0 1 = some [u64 x.epoch]:=(rfl)
@[simp] theorem Vw.s1_1 {x:Vw}:sub x.c 1 1 = some [x.covers.d u32C]:=(rfl)
@[simp] theorem Vw.s2_1 {x:Vw}:sub x.c 2 1 = some [x.pods.d Pod.c]:=(rfl)
@[simp] theorem Vw.s3_1 {x:Vw}:sub x.c 3 1 = some [x.services.d Svc.c]:=(rfl)
@[simp] theorem Vw.s4_1 {x:Vw}:sub x.c 4 1 = some [x.bound.d Way.c]:=(rfl)
@[simp] theorem Vw.s5_1 {x:Vw}:sub x.c 5 1 = some [x.policies.d Pol.c]:=(rfl)
structure Fnd where
 kind:Int
 pod:Pod
 service:Svc
 way:Way
def Fnd.c (x:Fnd):List D:=i64 x.kind :: (x.pod.c ++ (x.service.c ++ x.way.c))
abbrev Fnd.v (x:Fnd):V:=ag x.c
def fnd0:Fnd:=⟨0,pod0,svc0,way0⟩
@[simp] theorem Fnd.len {x:Fnd}:x.c.length = 15:=(rfl)
@[simp] theorem Fnd.all {x:Fnd}:sub x.c 0 15 = some x.c:=(rfl)
@[simp] theorem Fnd.s1_7 {x:Fnd}:sub x.c 1 7 = some x.pod.c:=(rfl)
@[simp] theorem Fnd.s7_1 {x:Fnd}:sub x.c 7 1 = some [u64 x.pod.service]:=(rfl)
@[simp] theorem Fnd.s8_5 {x:Fnd}:sub x.c 8 5 = some x.service.c:=(rfl)
@[simp] theorem fnd_z:[(V.d (.int .i64 0)),(.d (.int .u64 0)),(.d (.str ⟨#[]⟩)),(.d (.str ⟨#[]⟩)),(.d (.int .i64 0)),(.d (.int .u32 0)),(.d (.int .i64 0)),(.d (.int .u64 0)),(.d (.int .u64 0)),(.d (.str ⟨#[]⟩)),(.d (.int .u32 0)),(.d (.int .i64 0)),(.d (.int .u64 0)),(.d (.int .u64 0)),(.d (.int .i64 0))] = fnd0.c.map .d:=(rfl)
@[simp] theorem fnd_p0 {x:Fnd} {k:Int}:put (x.c.map V.d) 0 [.d (i64 k)] = some ((Fnd.c { x with kind:=k }).map .d):=(rfl)
@[simp] theorem fnd_t {x:Fnd} {k:Int}:V.d (.int .i64 k) :: (x.c.map V.d).tail = (Fnd.c { x with kind:=k }).map .d:=(rfl)
@[simp] theorem fnd_d {x:Fnd}:(x.c.map V.d).drop 15 = []:=(rfl)
@[simp] theorem fnd_p1 {x:Fnd} {p:Pod}:put (x.c.map V.d) 1 (p.c.map .d) = some ((Fnd.c { x with pod:=p }).map .d):=(rfl)
@[simp] theorem fnd_p8 {x:Fnd} {p:Svc}:put (x.c.map V.d) 8 (p.c.map .d) = some ((Fnd.c { x with service:=p }).map .d):=(rfl)
@[simp] theorem fnd_p13 {x:Fnd} {p:Way}:put (x.c.map V.d) 13 (p.c.map .d) = some ((Fnd.c { x with way:=p }).map .d):=(rfl)
@[simp] theorem fnd_p15 {x y:Fnd}:put (x.c.map V.d) 0 (y.c.map .d) = some (y.c.map .d):=(rfl)
def Fnd.eqB (x y:Fnd):Bool:=x.kind == y.kind && (x.pod.uid == y.pod.uid && (eqS x.pod.ns y.pod.ns && (eqS x.pod.sa y.pod.sa && (x.pod.host == y.pod.host && (x.pod.addr == y.pod.addr && (x.pod.port == y.pod.port && (x.pod.service == y.pod.service && (x.service.id == y.service.id && (eqS x.service.ns y.service.ns && (x.service.addr == y.service.addr && (x.service.port == y.service.port && (x.service.way == y.service.way && (x.way.id == y.way.id && (x.way.node == y.way.node && true))))))))))))))
end Go.Proofs.YtegfnefobbgkjaaGreat
namespace Go.Proofs.YtegfnefobbgkjaaGreat
variable {E:Calls'}
theorem L232 {s:Sl Int} (hs:short s) (n:Int) (h:Hp):∀ (m i:Nat),i + m = s.l.length →
 Cd E TT valT (.loop [0,1,7,8] q232_b0) [(0,.d (s.d u32C)),(1,.d (u32 n)),(7,.d (i64 s.l.length)),(8,.d (i64 i))] h =
  match (s.l.drop i).findIdx? (fun x=>x == n) with
  | some k=>some (.ret,[(4,.d (i64 (i + k:Nat)))],h)
  | none=>some (.exit 0,[],h):=by
 have hlt:=hs.lt
 intro m
 have key:=Cd_round (E:=E) (T:=TT) (val:=valT) [0,1,7,8] q232_b0
 generalize Cd E TT valT (.loop [0,1,7,8] q232_b0) = W at key ⊢
 induction m with
 | zero =>
  intro i hi
  have h0:s.l.drop i = []:=List.drop_eq_nil_of_le (by omega)
  rw [key]
  simp [q232_b0,h0,show ¬ ((i:Int) < s.l.length) from by omega]
 | succ m ih =>
  intro i hi
  have h1:i < s.l.length:=by omega
  have hx:=fun h=>idxv_sl (z:=1) h (List.getElem?_eq_getElem h1) (cells:=u32C) rfl
  have hw:=int_next h1 hlt
  have:=ih (i + 1) (by omega)
  rw [key,List.drop_eq_getElem_cons h1]
  generalize s.l[i] = x at *
  by_cases hq:x = n
  · simp [q232_b0,hx,hq,u32C,List.findIdx?_cons,show ((i:Int) < s.l.length) from by omega]
  · have hq':(x == n) = false:=by simpa using hq
    have hq2:¬ n = x:=fun h=>hq h.symm
    simp [q232_b0,hx,hq',hq,hq2,u32C,hw,List.findIdx?_cons,show ((i:Int) < s.l.length) from by omega]
    rw [show ((i:Int) + 1) = ((i + 1:Nat):Int) from by omega,this]
    cases hfi:(s.l.drop (i + 1)).findIdx? (fun p=>p == n) with
    | none=>rfl
    | some k=>simp; omega
theorem S232 {s:Sl Int} (hs:short s) (n:Int) (h:Hp):Sm E TT valT 125 [.d (s.d u32C),.d (u32 n)] h = some (.d (i64 (idxI s.l fun x=>x == n)),h):=by
 rw [Sm_v t232 v232]
 have k1:=fun h=>L232 (E:=E) hs n h s.l.length 0 (by omega)
 simp at k1
 simp [Bd_mk,q232]
 rw [Cd_keep]
 simp [k1,idxI]
 cases s.l.findIdx? (fun x=>x == n) with
 | none=>simp
 | some k=>simp
def hasT (l:List Int) (n:Int):Bool:=(l.find? fun x=>x == n).isSome
theorem S117 {s:Sl Int} (hs:short s) (n:Int) (h:Hp):Sm E TT valT 54 [.d (s.d u32C),.d (u32 n)] h = some (bl (hasT s.l n),h):=by
 rw [Sm_v t117 v117]
 rcases idx_cases s.l (fun x=>x == n) with ⟨g1,g2⟩ | ⟨k,p,g1,g2,g3⟩
 · simp [Bd_mk,q117,S232 hs,g2,hasT,g1]
 · simp [Bd_mk,q117,S232 hs,g2,hasT,g1]
end Go.Proofs.YtegfnefobbgkjaaGreat
namespace Go.Proofs.YtegfnefobbgkjaaGreat
variable {E:Calls'}
end Go.Proofs.YtegfnefobbgkjaaGreat
namespace Go.Proofs.YtegfnefobbgkjaaGreat
section
variable {E:Calls'}
def pol0V:List V:=[(.d (.int .u64 0)),(.d (.str ⟨#[]⟩)),(.d (.int .u64 0)),(.d (.int .i64 0)),(.d (.slice true []))]
theorem u339:TT 219 = some (idxQ 5):=t339
end
end Go.Proofs.YtegfnefobbgkjaaGreat
namespace Go.Proofs.YtegfnefobbgkjaaGreat
variable {E:Calls'}
theorem thin_start {l:List Pol} {bs0:List Blk} {b:Nat} (hb:getB bs0 b = some (flat (l.map Pol.c))):Thin Pol.c 5 l bs0 b [] bs0 :=
 ⟨Nat.le_refl _,fun _ _ _=>rfl,by rw [hb]; simp⟩
theorem thin_end {l m:List Pol} {bs0 bs:List Blk} {b:Nat} (h:Thin Pol.c 5 l bs0 b m bs) (hm:m.length = l.length):getB bs b = some (flat (m.map Pol.c)):=by
 have h1:=flatT_len (cells:=Pol.c) (z:=5) (fun _=>rfl) l
 rw [h.row,hm,List.drop_eq_nil_of_le (by rw [h1]; omega),List.append_nil]
end Go.Proofs.YtegfnefobbgkjaaGreat
namespace Go.Proofs.YtegfnefobbgkjaaGreat
variable {E:Calls'}
end Go.Proofs.YtegfnefobbgkjaaGreat
namespace Go.Proofs.YtegfnefobbgkjaaGreat
variable {E:Calls'}
theorem S70 (v:Vw) (hv:v.ok):∃ b:Bool,∀ h,Sm E TT valT 12 [v.v] h = some (bl b,h):=by
 obtain ⟨b,hb⟩:=S31 (E:=E) v.cfg hv.2
 have h31:∀ h,Sm E TT valT 5 [.agg [.d (.int .u64 0),.d (.int .u64 0),.d (.int .i64 0),.d (.int .i64 0),.d (v.pods.d Pod.c),.d (v.services.d Svc.c),.d (v.bound.d Way.c),.d (v.policies.d Pol.c)]] h = some (bl b,h):=hb
 by_cases hc:(v.covers.l.length:Int) > 1000
 · refine ⟨true,fun h=>?_⟩
   rw [Sm_v t70 v70]
   simp [Bd_mk,q70,fillsE,put,h31,hc,opsA_if]
 · refine ⟨b,fun h=>?_⟩
   rw [Sm_v t70 v70]
   simp [Bd_mk,q70,fillsE,put,h31,hc,opsA_if]
end Go.Proofs.YtegfnefobbgkjaaGreat
