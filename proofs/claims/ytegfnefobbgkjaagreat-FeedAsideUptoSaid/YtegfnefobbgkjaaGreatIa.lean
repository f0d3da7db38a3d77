/- view.put, view.apart, view.rising at uint64, at any width. -/
import Derived.Test.YtegfnefobbgkjaaGreatQt
import Derived.Test.YtegfnefobbgkjaaGreatOa
import Derived.Test.YtegfnefobbgkjaaGreatWo
import Derived.Test.YtegfnefobbgkjaaGreatOd
import Derived.Test.YtegfnefobbgkjaaGreatWa
import Derived.Test.YtegfnefobbgkjaaGreatF64
import Derived.Test.YtegfnefobbgkjaaGreatF7
import Derived.Test.YtegfnefobbgkjaaGreatF6
import Derived.KernelRfl
set_option maxRecDepth 100000
set_option linter.unusedVariables false
set_option linter.unusedSimpArgs false
namespace Go.Proofs.YtegfnefobbgkjaaGreat
def u64C (n:Int):List D:=[u64 n]
section
variable {E:Calls'} {T:FuncId -> Option QF} {val:FuncId -> Bool}
def KeptP {α:Type} (cells:α -> List D) (z n:Nat) (nl:Bool) (l:List α) (bs:List Blk) (v:V):Prop :=
 (nl = true /\ l = [] /\ v = .d (.slice true [])) \/ (nl = false /\ ∃ B cap rest,n <= B /\ v = .row B 0 l.length cap z /\ getB bs B = some (flat (l.map cells) ++ rest) /\ ((cap = some 0 /\ l = []) \/ (cap = none /\ 0 < (flat (l.map cells) ++ rest).length)))
theorem KeptP.nu {α:Type} {cells:α -> List D} {z n:Nat} {nl:Bool} {l:List α} {bs:List Blk} {v:V} (h:KeptP cells z n nl l bs v):Go.Proofs.YtegfnefobbgkjaaGreat.nu v = some v /\ okV v = true:=by
 rcases h with ⟨_,_,rfl⟩ | ⟨_,B,cap,rest,_,rfl,_⟩ <;> exact ⟨rfl,rfl⟩
theorem S_keepP {α:Type} {cells:α -> List D} {z b cl clos del idx id:Nat} {zero:List V} (tcl:T cl = some (cloneQ z b zero)) (vcl:val cl = false) (tdel:T del = some (delQ z idx zero)) (vdel:val del = false) (tidx:T idx = some (idxQ z)) (vidx:val idx = false)
 (tc:T clos = some (notQ z)) (vc:val clos = false) (tid:T id = some (keepQ cl clos del)) (vid:val id = false) (hz:∀ x,(cells x).length = z) (hz0:0 < z) (hzero:zero.length = z) (hb:b <= 4096) {s:Sl α} (hs:short s) {f:FuncId} {caps:List V} {q:α -> Bool} {h:Hp}
 (hq:∀ e ∈ s.l,∀ bs lo,h.bs.length <= bs.length -> (∀ x,x < h.bs.length -> bs[x]? = h.bs[x]?) -> Sm E T val f (ag (cells e) :: caps) ⟨bs,lo⟩ = some (bl (q e),⟨bs,lo⟩)) :
 ∃ r bs' lo',Sm E T val id [.d (s.d cells),.fn f caps] h = some (r,⟨bs',lo'⟩) /\ h.bs.length <= bs'.length /\ (∀ x,x < h.bs.length -> bs'[x]? = h.bs[x]?) /\ KeptP cells z h.bs.length s.nl (s.l.filter q) bs' r:=by
 obtain ⟨bs,lo0⟩:=h
 simp only at hq ⊢
 obtain ⟨nl,l⟩:=s
 simp only at hq ⊢
 have hcl:=S_cloneR (E:=E) (T:=T) (val:=val) tcl vcl hz0 hb (nl:=nl) (es:=l.map cells) (by simp; intro a _; exact hz a) (by simpa using hs.1) ⟨bs ++ [.cells [.fn f caps]],bs.length⟩
 have hlen:l.length < 2 ^ 62:=hs.lt
 have hout:∀ {r:V} {bs':List Blk} {lo':Nat},r.under bs.length = false -> byRef ⟨bs,lo0⟩ (some (r,⟨bs',lo'⟩)) = some (r,⟨bs',min lo0 lo'⟩):=fun hu=>by
  rw [byRef_s,if_neg (fun hh=>by rw [hu] at hh; cases hh.2)]
 have hun:∀ {B o n z:Nat} {cap:Option Nat},bs.length <= B -> V.under bs.length (.row B o n cap z) = false:=fun h=>by simp [V.under]; omega
 rw [Sm_ref tid vid]
 cases nl with
 | true =>
  have hl:=hs.2 rfl
  simp at hl
  subst hl
  have h1:=S_del_none (E:=E) (T:=T) (val:=val) cells (es:=[]) (z:=z) (idx:=idx) (zero:=zero) tidx vidx tdel vdel (v:=.d (.slice true [])) (f:=clos) (caps:=[.ptr bs.length 0]) (q:=fun _=>false) (h:=⟨bs ++ [.cells [.fn f caps]],bs.length⟩) ⟨by simp,.inl ⟨true,rfl⟩⟩ (by simp) (by simp) (by simp)
  simp [cloneR] at hcl
  refine ⟨.d (.slice true []),bs,lo0,?_,Nat.le_refl _,fun _ _=>rfl,.inl ⟨rfl,by simp,rfl⟩⟩
  simp [Bd_mk,keepQ,Sl.d,hcl,h1,V.under,tupOf]
 | false =>
  cases hll:l with
  | nil =>
   subst hll
   have h1:=fun lo=>S_del_none (E:=E) (T:=T) (val:=val) cells (es:=[]) (z:=z) (idx:=idx) (zero:=zero) tidx vidx tdel vdel (v:=.row (bs.length + 1) 0 0 (some 0) z) (f:=clos) (caps:=[.ptr bs.length 0]) (q:=fun _=>false) (h:=⟨bs ++ [.cells [.fn f caps],.cells []],lo⟩) ⟨by simp,.inr ⟨bs.length + 1,0,some 0,[],rfl,by unfold getB; rw [List.getElem?_append_right (by omega)]; simp,by simp [sub_eq]⟩⟩ (by simp) (by simp) (by simp)
   simp [cloneR] at hcl
   refine ⟨.row (bs.length + 1) 0 0 (some 0) z,bs ++ [.cells [.fn f caps],.cells []],min lo0 bs.length,?_,by simp,fun x hx=>by rw [List.getElem?_append_left hx],.inr ⟨rfl,bs.length + 1,some 0,[],by omega,rfl,by unfold getB; rw [List.getElem?_append_right (by omega)]; simp,.inl ⟨rfl,rfl⟩⟩⟩
   refine Eq.trans ?_ (hout (lo':=bs.length) (hun (by omega)))
   congr 1
   simp [Bd_mk,keepQ,Sl.d,hcl,h1,tupOf]
  | cons p l' =>
   have hne:l ≠ []:=by rw [hll]; simp
   have hLz:0 < l.length * z:=Nat.mul_pos (List.length_pos_iff.2 hne) hz0
   rw [← hll]
   have hc2:cloneR z false (l.map cells) (bs ++ [.cells [.fn f caps]]) bs.length = (.row (bs.length + 2) 0 l.length none z,⟨bs ++ [.cells [.fn f caps],.cells [],.cells (flat (l.map cells))],bs.length⟩):=by
    rw [hll]; simp [cloneR]
   rw [hc2] at hcl
   simp at hcl
   have hbF:getB (bs ++ [.cells [.fn f caps],.cells [],.cells (flat (l.map cells))]) (bs.length + 2) = some (flat (l.map cells)):=by unfold getB; rw [List.getElem?_append_right (by omega)]; simp
   have hold:∀ x,x < bs.length -> (bs ++ [Blk.cells [.fn f caps],.cells [],.cells (flat (l.map cells))])[x]? = bs[x]?:=fun x hx=>by rw [List.getElem?_append_left hx]
   have hcall:∀ e ∈ l,∀ bs2 lo2,bs.length + 3 <= bs2.length -> (∀ x,x ≠ bs.length + 2 -> x < bs.length + 3 -> bs2[x]? = (bs ++ [.cells [.fn f caps],.cells [],.cells (flat (l.map cells))])[x]?) -> Sm E T val clos (.agg ((cells e).map .d) :: [.ptr bs.length 0]) ⟨bs2,lo2⟩ = some (.d (.bool (!q e)),⟨bs2,lo2⟩):=by
    intro e he bs2 lo2 hle ho
    refine S_notC tc vc (hz e) (f:=f) (caps:=caps) (p:=q e) ?_ fun ys lo=>?_
    · have:=ho bs.length (by omega) (by omega)
      simp only [getB]
      rw [this,List.getElem?_append_right (by omega)]; simp
    · refine hq e he _ lo (by simp; omega) fun x hx=>?_
      simp only
      rw [List.getElem?_append_left (by omega),ho x (by omega) (by omega)]
      exact hold x hx
   have hnn:(l.filter fun e=>!(!q e)) = l.filter q:=by simp
   by_cases hqq:∃ e ∈ l,(!q e) = true
   · obtain ⟨bs',lo',rest,k1,k2,k3,k4,k5,k6⟩:=S_del_some (E:=E) (T:=T) (val:=val) hz hz0 hzero tidx vidx tdel vdel (es:=l) (b:=bs.length + 2) (cap:=none) (f:=clos) (caps:=[.ptr bs.length 0]) (q:=fun e=>!q e) (h:=⟨bs ++ [.cells [.fn f caps],.cells [],.cells (flat (l.map cells))],bs.length⟩) hbF hlen (fun e he bs2 lo2 a b=>hcall e he bs2 lo2 (by simpa using a) (fun x h1 h2=>b x h1 (by simp; omega))) hqq
     rw [hnn] at k1 k4
     refine ⟨.row (bs.length + 2) 0 (l.filter q).length none z,bs',min lo0 lo',?_,by simp at k2; omega,fun x hx=>by rw [k3 x (by omega) (by simp; omega)]; exact hold x hx,.inr ⟨rfl,bs.length + 2,none,rest,by omega,rfl,k4,.inr ⟨rfl,by rw [List.length_append,flatT_len hz,k6,hnn,← Nat.add_mul,Nat.add_sub_cancel' (List.length_filter_le _ _)]; exact hLz⟩⟩⟩
     refine Eq.trans ?_ (hout (lo':=lo') (hun (by omega)))
     congr 1
     simp [Bd_mk,keepQ,Sl.d,hcl,k1,tupOf]
   · have hall:∀ e ∈ l,(!q e) = false:=by
      intro e he
      cases hh:(!q e) with
      | false=>rfl
      | true=>exact absurd ⟨e,he,hh⟩ hqq
     have hK:l.filter q = l:=List.filter_eq_self.2 fun e he=>by have:=hall e he; simpa using this
     have h1:=S_del_none (E:=E) (T:=T) (val:=val) cells (es:=l) (z:=z) (idx:=idx) (zero:=zero) tidx vidx tdel vdel (v:=.row (bs.length + 2) 0 l.length none z) (f:=clos) (caps:=[.ptr bs.length 0]) (q:=fun e=>!q e) (h:=⟨bs ++ [.cells [.fn f caps],.cells [],.cells (flat (l.map cells))],bs.length⟩)
      ⟨by simp; intro a _; exact hz a,.inr ⟨bs.length + 2,0,none,_,by simp,hbF,by
       rw [sub_eq,if_pos (by rw [flatT_len hz]; simp),List.drop_zero,List.length_map,← flatT_len hz,List.take_length]; rfl⟩⟩ hlen (fun e he lo2=>hcall e he _ lo2 (by simp) fun _ _ _=>rfl) hall
     rw [hK]
     refine ⟨.row (bs.length + 2) 0 l.length none z,bs ++ [.cells [.fn f caps],.cells [],.cells (flat (l.map cells))],min lo0 bs.length,?_,by simp,hold,.inr ⟨rfl,bs.length + 2,none,[],by omega,rfl,by rw [hbF]; simp,.inr ⟨rfl,by rw [List.append_nil,flatT_len hz]; exact hLz⟩⟩⟩
     refine Eq.trans ?_ (hout (lo':=bs.length) (hun (by omega)))
     congr 1
     simp [Bd_mk,keepQ,Sl.d,hcl,h1,tupOf]
theorem S_vpe {α:Type} {cells:α -> List D} {z c idf:FuncId} {key:α -> Int} (ht:T c = some (vpeQ z)) (hv:val c = false) {x y:α} (hx:(cells x).length = z) (hy:(cells y).length = z) (hid:∀ e,e = x \/ e = y -> ∀ h,Sm E T val idf [ag (cells e)] h = some (.d (u64 (key e)),h)) {p r:Nat} {h:Hp} (hp:getB h.bs p = some [.fn idf []]) (hr:getB h.bs r = some ((cells x).map .d)) :
 Sm E T val c [ag (cells y),.ptr p 0,.ptr r 0] h = some (bl (key x == key y),h):=by
 rw [Sm_ref ht hv]
 have hsx:=sub_c hx
 have hsy:=sub_c hy
 have h1:=hid x (.inl rfl)
 have h2:=hid y (.inr rfl)
 simp [vpeQ,Bd_mk,openA,opDE_call,noTr,apartT_mute,Tr.mute,getB_of hp,getB_of hr,h1,h2,hsx,hsy,V.under]
theorem rsg_loopB {α:Type} {cells:α -> List D} {z:Nat} (hz:∀ x,(cells x).length = z) {s:Sl α} (hs:s.l.length < 2 ^ 62) {most:Int} {f:FuncId} {g:α -> Int} (hf:∀ e ∈ s.l,∀ h,Sm E T val f [ag (cells e)] h = some (.d (u64 (g e)),h)):∀ (m i:Nat),i + m = s.l.length -> 1 <= i →
 Cd E T val (.loop [0,1,2,9,10] (rsgB z)) [(0,.d (s.d cells)),(1,.d (i64 most)),(2,.fn f []),(9,.d (i64 s.l.length)),(10,.d (i64 i))] ⟨[],0⟩ =
  if risesL ((s.l.map g).drop (i - 1)) then some (.exit 0,[(0,.d (s.d cells)),(1,.d (i64 most))],⟨[],0⟩) else some (.ret,[(6,bl false)],⟨[],0⟩):=by
 intro m
 have key:=Cd_round (E:=E) (T:=T) (val:=val) [0,1,2,9,10] (rsgB z)
 generalize Cd E T val (.loop [0,1,2,9,10] (rsgB z)) = W at key ⊢
 induction m with
 | zero =>
  intro i hi h1
  rw [key,risesL_end (by simp; omega)]
  simp [rsgB,show ¬ ((i:Int) < s.l.length) from by omega]
 | succ m ih =>
  intro i hi h1
  have hlt:i < s.l.length:=by omega
  have hd:=risesL_drop (l:=s.l.map g) (i:=i - 1) (by simp; omega)
  have hs1:i - 1 + 1 = i:=by omega
  simp only [hs1,List.getElem_map] at hd
  have hp1:=fun h=>ix_data (cells:=cells) hz hlt (kd:=.i64) (h:=h)
  have hp0:=fun h=>ix_data (cells:=cells) hz (show i - 1 < s.l.length by omega) (kd:=.i64) (h:=h)
  have c1:=hf _ (List.getElem_mem hlt)
  have c0:=hf _ (List.getElem_mem (show i - 1 < s.l.length by omega))
  have hw:=int_next hlt hs
  have hwm:IntKind.wrap .i64 ((i:Int) - 1) = ((i - 1:Nat):Int):=by rw [wrap64] <;> omega
  have hpos:0 < i:=h1
  have hih:=ih (i + 1) (by omega) (by omega)
  simp only [show i + 1 - 1 = i by omega] at hih
  rw [key,hd]
  generalize s.l[i] = y at *
  generalize s.l[i - 1] = x at *
  have hsx:=sub_all (hz x)
  have hsy:=sub_all (hz y)
  by_cases hg:g x < g y
  · simp (decide:=true) [rsgB,hp1,hp0,hsx,hsy,hwm,hw,hpos,c0,c1,hlt,hg,openA,opDE_call,noTr,show ¬ (g x >= g y) from by omega]
    simpa using hih
  · simp (decide:=true) [rsgB,hp1,hp0,hsx,hsy,hwm,hw,hpos,c0,c1,hlt,hg,openA,opDE_call,noTr,show g x >= g y from by omega]
theorem S_rsgB {α:Type} {cells:α -> List D} {z:Nat} {id:FuncId} (ht:T id = some (rsgQ z)) (hv:val id = true) (hz:∀ x,(cells x).length = z) {s:Sl α} (hs:s.l.length < 2 ^ 62) {most:Int} {f:FuncId} {g:α -> Int} (hf:∀ e ∈ s.l,∀ h,Sm E T val f [ag (cells e)] h = some (.d (u64 (g e)),h)) (h:Hp) :
 Sm E T val id [.d (s.d cells),.d (i64 most),.fn f []] h = some (bl (risK g s.l most),h):=by
 rw [Sm_v ht hv]
 unfold risK
 have hfr:frz h (.fn f []) = some (.fn f []):=rfl
 have key:=Cd_round (E:=E) (T:=T) (val:=val) [0,1,2,9,10] (rsgB z)
 have hl:=rsg_loopB (E:=E) (T:=T) (val:=val) hz hs (most:=most) hf
 simp [Bd_mk,rsgQ,hfr]
 rw [Cd_keep]
 simp only [keepA_cons,keepA_nil]
 simp
 generalize Cd E T val (.loop [0,1,2,9,10] (rsgB z)) = W at key hl ⊢
 by_cases h0:s.l = []
 · rw [key]
   simp [rsgB,h0,risesL,pureV]
 · have hpos:0 < s.l.length:=List.length_pos_iff.2 h0
   have h1:=hl (s.l.length - 1) 1 (by omega) (by omega)
   simp at h1
   rw [key]
   have hw:=int_next hpos hs
   simp at hw
   simp (decide:=true) [rsgB,openA,noTr,hpos,hw,h1]
   cases risesL (s.l.map g) <;> simp [pureV]
end
end Go.Proofs.YtegfnefobbgkjaaGreat
namespace Go.Proofs.YtegfnefobbgkjaaGreat
structure Dlt where
 epoch:Int
 covers:Sl Int
 pods:Sl Pod
 services:Sl Svc
 bound:Sl Way
 policies:Sl Pol
 gonePods:Sl Int
 goneServices:Sl Int
 goneBound:Sl Int
 gonePolicies:Sl Int
def Dlt.c (x:Dlt):List D:=[u64 x.epoch,x.covers.d u32C,x.pods.d Pod.c,x.services.d Svc.c,x.bound.d Way.c,x.policies.d Pol.c,x.gonePods.d u64C,x.goneServices.d u64C,x.goneBound.d u64C,x.gonePolicies.d u64C]
abbrev Dlt.v (x:Dlt):V:=ag x.c
def Dlt.vw (x:Dlt):Vw:=⟨x.epoch,x.covers,x.pods,x.services,x.bound,x.policies⟩
abbrev Dlt.ok (x:Dlt):Prop:=x.vw.ok /\ short x.gonePods /\ short x.goneServices /\ short x.goneBound /\ short x.gonePolicies
structure Psh where
 life:Int
 inc:Int
 seq:Int
 upon:Int
 delta:Dlt
def Psh.c (x:Psh):List D:=u64 x.life :: u64 x.inc :: u64 x.seq :: u64 x.upon :: x.delta.c
structure Idx where
 node:Int
 inc:Int
 asked:Int
 addrs:Sl Int
 since:Int
 life:Int
 seq:Int
 view:Vw
 high:Int
def Idx.c (x:Idx):List D:=i64 x.node :: u64 x.inc :: u64 x.asked :: x.addrs.d u32C :: u64 x.since :: u64 x.life :: u64 x.seq :: (x.view.c ++ [u64 x.high])
abbrev Idx.v (x:Idx):V:=ag x.c
structure Ack where
 life:Int
 inc:Int
 seq:Int
 ok:Int
def Ack.c (x:Ack):List D:=[u64 x.life,u64 x.inc,u64 x.seq,i64 x.ok]
structure Sbs where
 inc:Int
 seq:Int
 addrs:Sl Int
def Sbs.c (x:Sbs):List D:=[u64 x.inc,u64 x.seq,x.addrs.d u32C]
@[simp] theorem Ack.len {x:Ack}:x.c.length = 4:=(rfl)
@[simp] theorem Ack.all {x:Ack}:sub x.c 0 4 = some x.c:=(rfl)
@[simp] theorem Sbs.len {x:Sbs}:x.c.length = 3:=(rfl)
@[simp] theorem Sbs.all {x:Sbs}:sub x.c 0 3 = some x.c:=(rfl)
@[simp] theorem Dlt.len {x:Dlt}:x.c.length = 10:=(rfl)
@[simp] theorem Psh.len {x:Psh}:x.c.length = 14:=(rfl)
@[simp] theorem Idx.len {x:Idx}:x.c.length = 14:=(rfl)
@[simp] theorem Dlt.s0_10 {x:Dlt}:sub x.c 0 10 = some x.c:=(rfl)
@[simp] theorem Dlt.s0_1 {x:Dlt}:sub x.c 0 1 = some [u64 x.epoch]:=(rfl)
@[simp] theorem Dlt.s1_1 {x:Dlt}:sub x.c 1 1 = some [x.covers.d u32C]:=(rfl)
@[simp] theorem Dlt.s2_1 {x:Dlt}:sub x.c 2 1 = some [x.pods.d Pod.c]:=(rfl)
@[simp] theorem Dlt.s3_1 {x:Dlt}:sub x.c 3 1 = some [x.services.d Svc.c]:=(rfl)
@[simp] theorem Dlt.s4_1 {x:Dlt}:sub x.c 4 1 = some [x.bound.d Way.c]:=(rfl)
@[simp] theorem Dlt.s5_1 {x:Dlt}:sub x.c 5 1 = some [x.policies.d Pol.c]:=(rfl)
@[simp] theorem Dlt.s6_1 {x:Dlt}:sub x.c 6 1 = some [x.gonePods.d u64C]:=(rfl)
@[simp] theorem Dlt.s7_1 {x:Dlt}:sub x.c 7 1 = some [x.goneServices.d u64C]:=(rfl)
@[simp] theorem Dlt.s8_1 {x:Dlt}:sub x.c 8 1 = some [x.goneBound.d u64C]:=(rfl)
@[simp] theorem Dlt.s9_1 {x:Dlt}:sub x.c 9 1 = some [x.gonePolicies.d u64C]:=(rfl)
@[simp] theorem Psh.s0_14 {x:Psh}:sub x.c 0 14 = some x.c:=(rfl)
@[simp] theorem Psh.s0_1 {x:Psh}:sub x.c 0 1 = some [u64 x.life]:=(rfl)
@[simp] theorem Psh.s1_1 {x:Psh}:sub x.c 1 1 = some [u64 x.inc]:=(rfl)
@[simp] theorem Psh.s2_1 {x:Psh}:sub x.c 2 1 = some [u64 x.seq]:=(rfl)
@[simp] theorem Psh.s3_1 {x:Psh}:sub x.c 3 1 = some [u64 x.upon]:=(rfl)
@[simp] theorem Psh.s4_10 {x:Psh}:sub x.c 4 10 = some x.delta.c:=(rfl)
@[simp] theorem Psh.s4_1 {x:Psh}:sub x.c 4 1 = some [u64 x.delta.epoch]:=(rfl)
@[simp] theorem Idx.s0_14 {x:Idx}:sub x.c 0 14 = some x.c:=(rfl)
@[simp] theorem Idx.s0_1 {x:Idx}:sub x.c 0 1 = some [i64 x.node]:=(rfl)
@[simp] theorem Idx.s1_1 {x:Idx}:sub x.c 1 1 = some [u64 x.inc]:=(rfl)
@[simp] theorem Idx.s2_1 {x:Idx}:sub x.c 2 1 = some [u64 x.asked]:=(rfl)
@[simp] theorem Idx.s3_1 {x:Idx}:sub x.c 3 1 = some [x.addrs.d u32C]:=(rfl)
@[simp] theorem Idx.s4_1 {x:Idx}:sub x.c 4 1 = some [u64 x.since]:=(rfl)
@[simp] theorem Idx.s5_1 {x:Idx}:sub x.c 5 1 = some [u64 x.life]:=(rfl)
@[simp] theorem Idx.s6_1 {x:Idx}:sub x.c 6 1 = some [u64 x.seq]:=(rfl)
@[simp] theorem Idx.s7_6 {x:Idx}:sub x.c 7 6 = some x.view.c:=(rfl)
@[simp] theorem Idx.s7_1 {x:Idx}:sub x.c 7 1 = some [u64 x.view.epoch]:=(rfl)
@[simp] theorem Idx.s13_1 {x:Idx}:sub x.c 13 1 = some [u64 x.high]:=(rfl)
def svcIZ:List V:=[(.d (.int .u64 0)),(.d (.str ⟨#[]⟩)),(.d (.int .u32 0)),(.d (.int .i64 0)),(.d (.int .u64 0))]
def wayIZ:List V:=[(.d (.int .u64 0)),(.d (.int .i64 0))]
def tabB:List (Nat × QF):=[(41,q155),(24,q163),(18,q135),(38,q106),(39,q186),(40,q187),(82,q188)]
def TB:FuncId -> Option QF:=lookT tabB
def valB (f:FuncId):Bool:=[41,24,18,38,39,40].any fun n=>Nat.beq n f
theorem b155:TB 41 = some (q155):=by kernel_rfl
theorem d155:valB 41 = true:=by kernel_rfl
theorem b163:TB 24 = some (q163):=by kernel_rfl
theorem d163:valB 24 = true:=by kernel_rfl
theorem b135:TB 18 = some (cloneQ 1 4 [(.d (.int .u32 0))]):=by kernel_rfl
theorem d135:valB 18 = true:=by kernel_rfl
theorem b106:TB 38 = some (cloneQ 7 72 pod0V):=by kernel_rfl
theorem d106:valB 38 = true:=by kernel_rfl
theorem b186:TB 39 = some (cloneQ 5 48 svcIZ):=by kernel_rfl
theorem d186:valB 39 = true:=by kernel_rfl
theorem b187:TB 40 = some (cloneQ 2 16 wayIZ):=by kernel_rfl
theorem d187:valB 40 = true:=by kernel_rfl
theorem b188:TB 82 = some (cloneQ 5 64 pol0V):=by kernel_rfl
theorem d188:valB 82 = false:=by kernel_rfl
theorem b113:TB 83 = none:=by kernel_rfl
def tabI:List (Nat × QF):=[(51,q79),(23,q82),(22,q81),(33,q173),(34,q174),(35,q175),(36,q176),(31,q75),(77,q162),(58,q132),(68,q143),(144,q255),(150,q261),(129,q239),(136,q245),(220,q340),(193,q292),(188,q100),(206,q103),(127,q109),(219,q339),(142,q253),(143,q254),(145,q256),(151,q262),(146,q257),(147,q258),(148,q259),(149,q260),(85,q166),(88,q168),(91,q170),(94,q172),(63,q138),(66,q141),(70,q145),(73,q148),(132,q105),(134,q243),(137,q246),(139,q248),(38,q106),(39,q186),(40,q187),(82,q188),(133,q242),(135,q244),(138,q247),(140,q249),(18,q135),(32,q154),(78,q250),(79,q251),(37,q177),(80,q286),(81,q287),(153,q355),(154,q356),(155,q357),(156,q358),(157,q359),(158,q360),(223,q420),(224,q421),(225,q422)]
def TI:FuncId -> Option QF:=lookT tabI
def valI (f:FuncId):Bool:=[51,23,22,33,34,35,36,31,77,142,143,145,151,146,147,148,149,85,88,91,94,18,32,78,79,37,80,81,153,154,155,156,157,158,223,224,225].any fun n=>Nat.beq n f
theorem i82:TI 23 = some (q82):=by kernel_rfl
theorem j82:valI 23 = true:=by kernel_rfl
theorem i81:TI 22 = some (eql1Q (.sc (.i .u32))):=by kernel_rfl
theorem j81:valI 22 = true:=by kernel_rfl
theorem i173:TI 33 = some (eqlQ 7 (.agg [(.i .u64),.s,.s,(.i .i64),(.i .u32),(.i .i64),(.i .u64)])):=by kernel_rfl
theorem j173:valI 33 = true:=by kernel_rfl
theorem i174:TI 34 = some (eqlQ 5 (.agg [(.i .u64),.s,(.i .u32),(.i .i64),(.i .u64)])):=by kernel_rfl
theorem j174:valI 34 = true:=by kernel_rfl
theorem i175:TI 35 = some (eqlQ 2 (.agg [(.i .u64),(.i .i64)])):=by kernel_rfl
theorem j175:valI 35 = true:=by kernel_rfl
theorem i176:TI 36 = some (eqfQ 5 [(.d (.int .u64 0)),(.d (.str ⟨#[]⟩)),(.d (.int .u64 0)),(.d (.int .i64 0)),(.d (.slice true []))]):=by kernel_rfl
theorem j176:valI 36 = true:=by kernel_rfl
theorem i75:TI 31 = some (q75):=by kernel_rfl
theorem j75:valI 31 = true:=by kernel_rfl
theorem i162:TI 77 = some (q162):=by kernel_rfl
theorem j162:valI 77 = true:=by kernel_rfl
theorem i132:TI 58 = some (someQ 129):=by kernel_rfl
theorem j132:valI 58 = false:=by kernel_rfl
theorem i143:TI 68 = some (someQ 136):=by kernel_rfl
theorem j143:valI 68 = false:=by kernel_rfl
theorem i255:TI 144 = some (someQ 220):=by kernel_rfl
theorem j255:valI 144 = false:=by kernel_rfl
theorem i261:TI 150 = some (someQ 193):=by kernel_rfl
theorem j261:valI 150 = false:=by kernel_rfl
theorem i239:TI 129 = some (anyQ 206):=by kernel_rfl
theorem j239:valI 129 = false:=by kernel_rfl
theorem i245:TI 136 = some (anyQ 188):=by kernel_rfl
theorem j245:valI 136 = false:=by kernel_rfl
theorem i340:TI 220 = some (anyQ 127):=by kernel_rfl
theorem j340:valI 220 = false:=by kernel_rfl
theorem i292:TI 193 = some (anyQ 219):=by kernel_rfl
theorem j292:valI 193 = false:=by kernel_rfl
theorem i100:TI 188 = some (idxQ 7):=by kernel_rfl
theorem j100:valI 188 = false:=by kernel_rfl
theorem i103:TI 206 = some (idxQ 5):=by kernel_rfl
theorem j103:valI 206 = false:=by kernel_rfl
theorem i109:TI 127 = some (idxQ 2):=by kernel_rfl
theorem j109:valI 127 = false:=by kernel_rfl
theorem i339:TI 219 = some (idxQ 5):=by kernel_rfl
theorem j339:valI 219 = false:=by kernel_rfl
theorem i253:TI 142 = some (q253):=by kernel_rfl
theorem j253:valI 142 = true:=by kernel_rfl
theorem i254:TI 143 = some (q254):=by kernel_rfl
theorem j254:valI 143 = true:=by kernel_rfl
theorem i256:TI 145 = some (q256):=by kernel_rfl
theorem j256:valI 145 = true:=by kernel_rfl
theorem i262:TI 151 = some (q262):=by kernel_rfl
theorem j262:valI 151 = true:=by kernel_rfl
theorem i257:TI 146 = some (rsgQ 7):=by kernel_rfl
theorem j257:valI 146 = true:=by kernel_rfl
theorem i258:TI 147 = some (rsgQ 5):=by kernel_rfl
theorem j258:valI 147 = true:=by kernel_rfl
theorem i259:TI 148 = some (rsgQ 2):=by kernel_rfl
theorem j259:valI 148 = true:=by kernel_rfl
theorem i260:TI 149 = some (rsgQ 5):=by kernel_rfl
theorem j260:valI 149 = true:=by kernel_rfl
theorem i166:TI 85 = some (q166):=by kernel_rfl
theorem j166:valI 85 = true:=by kernel_rfl
theorem i168:TI 88 = some (q168):=by kernel_rfl
theorem j168:valI 88 = true:=by kernel_rfl
theorem i170:TI 91 = some (q170):=by kernel_rfl
theorem j170:valI 91 = true:=by kernel_rfl
theorem i172:TI 94 = some (q172):=by kernel_rfl
theorem j172:valI 94 = true:=by kernel_rfl
theorem i154:TI 32 = some (q154):=by kernel_rfl
theorem j154:valI 32 = true:=by kernel_rfl
theorem i250:TI 78 = some (q250):=by kernel_rfl
theorem j250:valI 78 = true:=by kernel_rfl
theorem i251:TI 79 = some (q251):=by kernel_rfl
theorem j251:valI 79 = true:=by kernel_rfl
theorem i177:TI 37 = some (q177):=by kernel_rfl
theorem j177:valI 37 = true:=by kernel_rfl
theorem i286:TI 80 = some (eqfQ 3 [(.d (.slice true [])),(.d (.slice true [])),(.d (.slice true []))]):=by kernel_rfl
theorem j286:valI 80 = true:=by kernel_rfl
theorem i287:TI 81 = some (q287):=by kernel_rfl
theorem j287:valI 81 = true:=by kernel_rfl
theorem i355:TI 153 = some (eqfQ 3 [(.d (.slice true [])),(.d (.slice true [])),(.d (.slice true []))]):=by kernel_rfl
theorem j355:valI 153 = true:=by kernel_rfl
theorem i356:TI 154 = some (q356):=by kernel_rfl
theorem j356:valI 154 = true:=by kernel_rfl
theorem i357:TI 155 = some (eqfQ 4 [(.d (.slice true [])),(.d (.slice true [])),(.d (.slice true [])),(.d (.slice true []))]):=by kernel_rfl
theorem j357:valI 155 = true:=by kernel_rfl
theorem i358:TI 156 = some (q358):=by kernel_rfl
theorem j358:valI 156 = true:=by kernel_rfl
theorem i359:TI 157 = some (eqfQ 2 [(.d (.str ⟨#[]⟩)),(.d (.slice true []))]):=by kernel_rfl
theorem j359:valI 157 = true:=by kernel_rfl
theorem i360:TI 158 = some (q360):=by kernel_rfl
theorem j360:valI 158 = true:=by kernel_rfl
theorem i420:TI 223 = some (eqlQ 2 (.agg [(.i .i64),.s])):=by kernel_rfl
theorem j420:valI 223 = true:=by kernel_rfl
theorem i421:TI 224 = some (eqlQ 2 (.agg [(.i .u32),(.i .i64)])):=by kernel_rfl
theorem j421:valI 224 = true:=by kernel_rfl
theorem i422:TI 225 = some (eql1Q (.sc (.i .i64))):=by kernel_rfl
theorem j422:valI 225 = true:=by kernel_rfl
theorem i155:TI 41 = none:=by kernel_rfl
theorem i163:TI 24 = none:=by kernel_rfl
theorem i117:TI 54 = none:=by kernel_rfl
theorem i263:TI 152 = none:=by kernel_rfl
end Go.Proofs.YtegfnefobbgkjaaGreat
namespace Go.Proofs.YtegfnefobbgkjaaGreat
section
variable {E:Calls'} {T:FuncId -> Option QF} {val:FuncId -> Bool}
theorem own_loop {l:List Pol} (hl:l.length < 2 ^ 62) (hf:∀ p ∈ l,∀ h,Sm E T val 83 [ag p.c] h = some (ag p.own.c,h)) {bs0:List Blk} {b:Nat} (hb0:b < bs0.length) {cap:Option Nat}:∀ (m i:Nat) (kept:List Pol) (bs:List Blk) (lo:Nat),i + m = l.length -> kept.length = i -> Thin Pol.c 5 l bs0 b kept bs →
 ∃ bs' lo',Cd E T val (.loop [0,7,8,9] q155_b0) [(0,.row b 0 l.length cap 5),(7,.row b 0 l.length cap 5),(8,.d (i64 l.length)),(9,.d (i64 i))] ⟨bs,lo⟩ = some (.exit 0,[(0,.row b 0 l.length cap 5)],⟨bs',lo'⟩) ∧
  Thin Pol.c 5 l bs0 b (kept ++ (l.drop i).map Pol.own) bs':=by
 intro m
 have key:=Cd_round (E:=E) (T:=T) (val:=val) [0,7,8,9] q155_b0
 generalize Cd E T val (.loop [0,7,8,9] q155_b0) = W at key ⊢
 induction m with
 | zero =>
  intro i kept bs lo hi hk ht
  have h0:l.drop i = []:=List.drop_eq_nil_of_le (by omega)
  refine ⟨bs,lo,?_,by simpa [h0] using ht⟩
  rw [key]
  simp [q155_b0,show ¬ ((i:Int) < l.length) from by omega]
 | succ m ih =>
  intro i kept bs lo hi hk ht
  have hlt:i < l.length:=by omega
  have hd:l.drop i = l[i] :: l.drop (i + 1):=List.drop_eq_getElem_cons hlt
  have hcz:∀ x:Pol,(Pol.c x).length = 5:=fun _=>rfl
  have hread:=ht.read hcz (j:=i) (by omega) hlt
  have hrow:=ht.row
  have hcall:=hf _ (List.getElem_mem hlt)
  generalize l[i] = x at *
  have hix:∀ bs lo,idxv none 5 (.row b 0 l.length cap 5) (.d (.int .i64 i)) ⟨bs,lo⟩ = some (.ptr b (i * 5),⟨bs,lo⟩):=by
   intro bs lo; simp only [idxv]; rw [if_pos ⟨by omega,by omega,trivial⟩]; simp
  have hw:=int_next hlt hl
  have hput:put pol0V 0 (x.c.map V.d) = some (x.c.map .d):=rfl
  have ht1:=ht.lay (.cells (x.c.map .d))
  obtain ⟨cs,hcs,ht2⟩:=ht1.keep hcz (e:=x.own) (by omega)
  rw [hk] at hcs
  have hrow1:=ht1.row
  rw [hk] at hrow hread hrow1
  have hset:∀ lo,Hp.set ⟨bs ++ [Blk.cells (x.c.map V.d)],lo⟩ b cs = ⟨(bs ++ [Blk.cells (x.c.map V.d)]).set b (Blk.cells cs),min lo b⟩:=fun _=>rfl
  obtain ⟨bs',lo',k1,k2⟩:=ih (i + 1) (kept ++ [x.own]) _ (min (min lo bs.length) b) (by omega) (by simp; omega) ht2
  refine ⟨bs',lo',?_,by simpa [hd] using k2⟩
  generalize hB:(bs ++ [Blk.cells (x.c.map .d)]).set b (Blk.cells cs) = B at *
  rw [key]
  simp [q155_b0,hix,ldv,hrow,hread,hput,hcall,hw,hrow1,hcs,hset,show ((i:Int) < l.length) from by omega]
  simpa using k1
end
section
variable {E:Calls'} (h113:∀ p:Pol,p.ok -> ∀ h,E 83 [ag p.c] h = some (ag p.own.c,h))
include h113
theorem B155 {s:Sl Pol} (hs:short s) (hf:∀ p ∈ s.l,p.ok) (h:Hp):Sm E TB valB 41 [.d (s.d Pol.c)] h = some (.d (Sl.d Pol.c ⟨s.nl,s.l.map Pol.own⟩),h):=by
 have m:∀ p ∈ s.l,∀ h,Sm E TB valB 83 [ag p.c] h = some (ag p.own.c,h):=fun p hp h=>by rw [Sm_ext b113]; exact h113 p (hf p hp) h
 obtain ⟨nl,l⟩:=s
 simp only at m hf
 have hlt:l.length < 2 ^ 62:=hs.lt
 rw [Sm_v b155 d155]
 have key:=Cd_round (E:=E) (T:=TB) (val:=valB) [0,7,8,9] q155_b0
 have hc:=S_cloneR (E:=E) (T:=TB) (val:=valB) b188 d188 (z:=5) (by decide) (by decide) (nl:=nl) (es:=l.map Pol.c) (by simp) (by simpa using hs.1) ⟨[],0⟩
 cases nl with
 | true =>
  have hl:=hs.2 rfl
  simp at hl
  subst hl
  simp [cloneR] at hc
  simp [Bd_mk,q155,Sl.d,hc]
  rw [Cd_keep]
  rw [key]
  simp [q155_b0]
 | false =>
  cases l with
  | nil =>
   simp [cloneR] at hc
   simp [Bd_mk,q155,Sl.d,hc]
   rw [Cd_keep]
   rw [key]
   have hdv:=dataV_row (h:=⟨[.cells []],0⟩) (k:=7) (b:=0) (n:=0) (cap:=some 0) (es:=[]) (z:=5) (rest:=[]) (by simp) rfl rfl
   simp [q155_b0,hdv]
  | cons p l =>
   simp only [List.map_cons,cloneR] at hc
   rw [← List.map_cons] at hc
   generalize hes:p :: l = es at *
   obtain ⟨bs',lo',k1,k2⟩:=own_loop (E:=E) (T:=TB) (val:=valB) (l:=es) hlt m (bs0:=[.cells [],.cells (flat (es.map Pol.c))]) (b:=1) (by simp) (cap:=none) es.length 0 [] [.cells [],.cells (flat (es.map Pol.c))] 0 (by omega) rfl (thin_start (by simp [getB]))
   have hel:l.length + 1 = es.length:=by rw [← hes]; rfl
   have hg:=thin_end (by simpa using k2) (by simp)
   have hdv:=dataV_row (h:=⟨bs',lo'⟩) (k:=7) (b:=1) (n:=es.length) (cap:=none) (es:=(es.map Pol.own).map Pol.c) (z:=5) (rest:=[]) (by simp) (by simp) (by simpa using hg)
   simp [hel] at hc k1
   simp at hdv
   simp [Bd_mk,q155,Sl.d,hc]
   rw [Cd_keep]
   simp [k1,hdv]
def Vw.own (v:Vw):Vw:={ v with policies:=⟨v.policies.nl,v.policies.l.map Pol.own⟩ }
theorem B163 (v:Vw) (hv:v.ok) (h:Hp):Sm E TB valB 24 [v.v] h = some (v.own.v,h):=by
 have n1:=fun h=>S_cloneV (E:=E) (T:=TB) (val:=valB) (cells:=u32C) b135 d135 (by decide) (by decide) (fun _=>rfl) hv.1 h
 have n2:=fun h=>S_cloneV (E:=E) (T:=TB) (val:=valB) (cells:=Pod.c) b106 d106 (by decide) (by decide) (fun _=>rfl) hv.2.1 h
 have n3:=fun h=>S_cloneV (E:=E) (T:=TB) (val:=valB) (cells:=Svc.c) b186 d186 (by decide) (by decide) (fun _=>rfl) hv.2.2.1 h
 have n4:=fun h=>S_cloneV (E:=E) (T:=TB) (val:=valB) (cells:=Way.c) b187 d187 (by decide) (by decide) (fun _=>rfl) hv.2.2.2.1 h
 have n5:=fun h=>B155 (E:=E) h113 hv.2.2.2.2.1 hv.2.2.2.2.2 h
 have e1:v.cfg.pods = v.pods:=rfl
 have e2:v.cfg.services = v.services:=rfl
 have e3:v.cfg.bound = v.bound:=rfl
 have e4:v.cfg.policies = v.policies:=rfl
 rw [e1] at n2
 rw [e2] at n3
 rw [e3] at n4
 rw [e4] at n5
 have p1:put (v.c.map V.d) 1 [.d (v.covers.d u32C)] = some (v.c.map .d):=rfl
 have p2:put (v.c.map V.d) 2 [.d (v.pods.d Pod.c)] = some (v.c.map .d):=rfl
 have p3:put (v.c.map V.d) 3 [.d (v.services.d Svc.c)] = some (v.c.map .d):=rfl
 have p4:put (v.c.map V.d) 4 [.d (v.bound.d Way.c)] = some (v.c.map .d):=rfl
 have p5:put (v.c.map V.d) 5 [.d (Sl.d Pol.c ⟨v.policies.nl,v.policies.l.map Pol.own⟩)] = some (v.own.c.map .d):=rfl
 have p6:∀ x:Vw,put [V.d (.int .u64 0),.d (.slice true []),.d (.slice true []),.d (.slice true []),.d (.slice true []),.d (.slice true [])] 0 (x.c.map V.d) = some (x.c.map V.d):=fun _=>rfl
 rw [Sm_v b163 d163]
 simp (decide:=true) [Bd_mk,q163,n1,n2,n3,n4,n5,p1,p2,p3,p4,p5,p6,openA,opDE_call,noTr]
end
section
variable {E:Calls'}
theorem I166 (p:Pod) (h:Hp):Sm E TI valI 85 [ag p.c] h = some (.d (u64 p.uid),h):=by rw [Sm_v i166 j166]; simp [Bd_mk,q166]
theorem I168 (p:Svc) (h:Hp):Sm E TI valI 88 [ag p.c] h = some (.d (u64 p.id),h):=by rw [Sm_v i168 j168]; simp [Bd_mk,q168]
theorem I170 (p:Way) (h:Hp):Sm E TI valI 91 [ag p.c] h = some (.d (u64 p.id),h):=by rw [Sm_v i170 j170]; simp [Bd_mk,q170]
theorem I172 (p:Pol) (h:Hp):Sm E TI valI 94 [ag p.c] h = some (.d (u64 p.id),h):=by rw [Sm_v i172 j172]; simp [Bd_mk,q172]
theorem I253 (p:Pod) (h:Hp):Sm E TI valI 142 [ag p.c] h = some (bl (vpodBad p),h):=by
 rw [Sm_v i253 j253]
 unfold vpodBad
 by_cases a1:(p.ns.size:Int) > 64
 case pos=>simp (decide:=true) [Bd_mk,q253,a1]
 by_cases a2:(p.sa.size:Int) > 64
 case pos=>simp (decide:=true) [Bd_mk,q253,a1,a2]
 by_cases a3:p.host < 0
 case pos=>simp (decide:=true) [Bd_mk,q253,a1,a2,a3]
 by_cases a4:p.host > 9
 case pos=>simp (decide:=true) [Bd_mk,q253,a1,a2,a3,a4]
 by_cases a5:p.port < 0
 case pos=>simp (decide:=true) [Bd_mk,q253,a1,a2,a3,a4,a5]
 simp (decide:=true) [Bd_mk,q253,a1,a2,a3,a4,a5]
theorem I254 (p:Svc) (h:Hp):Sm E TI valI 143 [ag p.c] h = some (bl (vsvcBad p),h):=by
 rw [Sm_v i254 j254]
 unfold vsvcBad
 by_cases a1:(p.ns.size:Int) > 64
 case pos=>simp (decide:=true) [Bd_mk,q254,a1]
 by_cases a2:p.port < 0
 case pos=>simp (decide:=true) [Bd_mk,q254,a1,a2]
 simp (decide:=true) [Bd_mk,q254,a1,a2]
theorem I256 (p:Way) (h:Hp):Sm E TI valI 145 [ag p.c] h = some (bl (vwayBad p),h):=by
 rw [Sm_v i256 j256]
 unfold vwayBad
 by_cases a1:p.node < 0
 case pos=>simp (decide:=true) [Bd_mk,q256,a1]
 simp (decide:=true) [Bd_mk,q256,a1]
theorem I420 (s t:Sl Term) (hs:short s) (h:Hp):Sm E TI valI 223 [.d (s.d Term.c),.d (t.d Term.c)] h = some (bl (all2 Term.eqB s.l t.l),h) :=
 S_eql (z:=2) (fun _=>rfl) (by decide) i420 j420 hs.lt (fun x y h=>eqv_term) h
theorem I421 (s t:Sl Cidr) (hs:short s) (h:Hp):Sm E TI valI 224 [.d (s.d Cidr.c),.d (t.d Cidr.c)] h = some (bl (all2 Cidr.eqB s.l t.l),h) :=
 S_eql (z:=2) (fun _=>rfl) (by decide) i421 j421 hs.lt (fun x y h=>eqv_cidr) h
theorem I422 (s t:Sl Int) (hs:short s) (h:Hp):Sm E TI valI 225 [.d (s.d intC),.d (t.d intC)] h = some (bl (all2 (fun x y:Int=>x == y) s.l t.l),h) :=
 S_eql1 (cell:=fun n=>i64 n) i422 j422 hs.lt (fun x y h=>eqv_i) h
theorem I356 (a b:Source) (ha:a.fits big) (h:Hp):Sm E TI valI 154 [ag a.c,ag b.c] h = some (bl (a.same b),h):=by
 have n1:=fun h=>I420 (E:=E) a.names b.names ha.1 h
 have n2:=fun h=>I420 (E:=E) a.spaces b.spaces ha.2.1 h
 have n3:=fun h=>I421 (E:=E) a.nets b.nets ha.2.2 h
 rw [Sm_v i356 j356]
 unfold Source.same
 generalize all2 Term.eqB a.names.l b.names.l = A1 at *
 generalize all2 Term.eqB a.spaces.l b.spaces.l = A2 at *
 generalize all2 Cidr.eqB a.nets.l b.nets.l = A3 at *
 cases A1 <;> cases A2 <;> simp (decide:=true) [Bd_mk,q356,n1,n2,n3,openA,opDE_call,noTr,opsA_if]
theorem I358 (a b:Target) (ha:a.fits big) (h:Hp):Sm E TI valI 156 [ag a.c,ag b.c] h = some (bl (a.same b),h):=by
 have n0:=fun h=>I422 (E:=E) a.ports b.ports ha.1 h
 have n1:=fun h=>I420 (E:=E) a.methods b.methods ha.2.1 h
 have n2:=fun h=>I420 (E:=E) a.paths b.paths ha.2.2.1 h
 have n3:=fun h=>I420 (E:=E) a.hosts b.hosts ha.2.2.2 h
 rw [Sm_v i358 j358]
 unfold Target.same
 generalize all2 (fun x y:Int=>x == y) a.ports.l b.ports.l = A0 at *
 generalize all2 Term.eqB a.methods.l b.methods.l = A1 at *
 generalize all2 Term.eqB a.paths.l b.paths.l = A2 at *
 generalize all2 Term.eqB a.hosts.l b.hosts.l = A3 at *
 cases A0 <;> cases A1 <;> cases A2 <;> simp (decide:=true) [Bd_mk,q358,n0,n1,n2,n3,openA,opDE_call,noTr,opsA_if]
theorem I360 (a b:When) (ha:a.fits big) (h:Hp):Sm E TI valI 158 [ag a.c,ag b.c] h = some (bl (a.same b),h):=by
 have n1:=fun h=>I420 (E:=E) a.terms b.terms ha h
 rw [Sm_v i360 j360]
 unfold When.same
 generalize all2 Term.eqB a.terms.l b.terms.l = A1 at *
 cases e1:eqS a.head b.head <;> simp (decide:=true) [Bd_mk,q360,n1,e1,openA,opDE_call,noTr,opsA_if]
theorem I287 (a b:Rule) (ha:a.fits big) (h:Hp):Sm E TI valI 81 [ag a.c,ag b.c] h = some (bl (a.same b),h):=by
 have n1:=fun h=>S_eqf (E:=E) (T:=TI) (val:=valI) (cells:=Source.c) (z:=3) (fun _=>rfl) (by decide) rfl (f:=154) (p:=Source.same) i355 j355 (s:=a.frm) (t:=b.frm) ha.1.1.lt (fun x hx y _ h=>I356 x y (ha.1.2 x hx) h) h
 have n2:=fun h=>S_eqf (E:=E) (T:=TI) (val:=valI) (cells:=Target.c) (z:=4) (fun _=>rfl) (by decide) rfl (f:=156) (p:=Target.same) i357 j357 (s:=a.to) (t:=b.to) ha.2.1.1.lt (fun x hx y _ h=>I358 x y (ha.2.1.2 x hx) h) h
 have n3:=fun h=>S_eqf (E:=E) (T:=TI) (val:=valI) (cells:=When.c) (z:=2) (fun _=>rfl) (by decide) rfl (f:=158) (p:=When.same) i359 j359 (s:=a.whn) (t:=b.whn) ha.2.2.1.lt (fun x hx y _ h=>I360 x y (ha.2.2.2 x hx) h) h
 rw [Sm_v i287 j287]
 unfold Rule.same
 generalize all2 Source.same a.frm.l b.frm.l = A1 at *
 generalize all2 Target.same a.to.l b.to.l = A2 at *
 generalize all2 When.same a.whn.l b.whn.l = A3 at *
 cases A1 <;> cases A2 <;> simp (decide:=true) [Bd_mk,q287,n1,n2,n3,openA,opDE_call,noTr,opsA_if]
theorem I177 (a b:Pol) (ha:a.fits big) (h:Hp):Sm E TI valI 37 [ag a.c,ag b.c] h = some (bl (a.same b),h):=by
 have n1:=fun h=>S_eqf (E:=E) (T:=TI) (val:=valI) (cells:=Rule.c) (z:=3) (fun _=>rfl) (by decide) rfl (f:=81) (p:=Rule.same) i286 j286 (s:=a.rules) (t:=b.rules) ha.1.lt (fun x hx y _ h=>I287 x y (ha.2 x hx) h) h
 rw [Sm_v i177 j177]
 unfold Pol.same
 generalize all2 Rule.same a.rules.l b.rules.l = A1 at *
 cases e1:(a.id == b.id)
 case false=>simp (decide:=true) [Bd_mk,q177,n1,e1,openA,opDE_call,noTr,opsA_if]
 cases e2:eqS a.ns b.ns
 case false=>simp (decide:=true) [Bd_mk,q177,n1,e1,e2,openA,opDE_call,noTr,opsA_if]
 cases e3:(a.service == b.service)
 case false=>simp (decide:=true) [Bd_mk,q177,n1,e1,e2,e3,openA,opDE_call,noTr,opsA_if]
 cases e4:(a.deny == b.deny) <;> simp (decide:=true) [Bd_mk,q177,n1,e1,e2,e3,e4,openA,opDE_call,noTr,opsA_if]
theorem I251 (a:Int) (h:Hp):Sm E TI valI 79 [.d (u32 a)] h = some (.d (u32 a),h):=by
 rw [Sm_v i251 j251]
 simp [Bd_mk,q251]
theorem LI250 {s:Sl Int} (hs:s.l.length < 2 ^ 62) (most:Int):∀ (m i:Nat),i + m = s.l.length -> 1 <= i →
 Cd E TI valI (.loop [0,1,2,9,10] q250_b0) [(0,.d (s.d u32C)),(1,.d (i64 most)),(2,.fn 79 []),(9,.d (i64 s.l.length)),(10,.d (i64 i))] ⟨[],0⟩ =
  if risesL (s.l.drop (i - 1)) then some (.exit 0,[(0,.d (s.d u32C)),(1,.d (i64 most))],⟨[],0⟩) else some (.ret,[(6,bl false)],⟨[],0⟩):=by
 intro m
 have key:=Cd_round (E:=E) (T:=TI) (val:=valI) [0,1,2,9,10] q250_b0
 generalize Cd E TI valI (.loop [0,1,2,9,10] q250_b0) = W at key ⊢
 induction m with
 | zero =>
  intro i hi h1
  rw [key,risesL_end (by omega)]
  simp [q250_b0,show ¬ ((i:Int) < s.l.length) from by omega]
 | succ m ih =>
  intro i hi h1
  have hlt:i < s.l.length:=by omega
  have hd:=risesL_drop (l:=s.l) (i:=i - 1) (by omega)
  have hs1:i - 1 + 1 = i:=by omega
  simp only [hs1] at hd
  have hp1:=fun h=>ix_u32 hlt (kd:=.i64) (h:=h)
  have hp0:=fun h=>ix_u32 (show i - 1 < s.l.length by omega) (kd:=.i64) (h:=h)
  have c1:=I251 (E:=E)
  have hw:=int_next hlt hs
  have hwm:IntKind.wrap .i64 ((i:Int) - 1) = ((i - 1:Nat):Int):=by rw [wrap64] <;> omega
  have hpos:0 < i:=h1
  have hih:=ih (i + 1) (by omega) (by omega)
  simp only [show i + 1 - 1 = i by omega] at hih
  rw [key,hd]
  generalize s.l[i] = y at *
  generalize s.l[i - 1] = x at *
  by_cases hg:x < y
  · simp (decide:=true) [q250_b0,hp1,hp0,u32C,hwm,hw,hpos,c1,hlt,hg,openA,opDE_call,noTr,show ¬ (x >= y) from by omega]
    simpa using hih
  · simp (decide:=true) [q250_b0,hp1,hp0,u32C,hwm,hw,hpos,c1,hlt,hg,openA,opDE_call,noTr,show x >= y from by omega]
theorem I250 {s:Sl Int} (hs:s.l.length < 2 ^ 62) (most:Int) (h:Hp):Sm E TI valI 78 [.d (s.d u32C),.d (i64 most),.fn 79 []] h = some (bl (risesL s.l && decide ((s.l.length:Int) <= most)),h):=by
 rw [Sm_v i250 j250]
 have hfr:frz h (.fn 79 []) = some (.fn 79 []):=rfl
 have key:=Cd_round (E:=E) (T:=TI) (val:=valI) [0,1,2,9,10] q250_b0
 have hl:=LI250 (E:=E) hs most
 simp [Bd_mk,q250,hfr]
 rw [Cd_keep]
 simp only [keepA_cons,keepA_nil]
 simp
 generalize Cd E TI valI (.loop [0,1,2,9,10] q250_b0) = W at key hl ⊢
 by_cases h0:s.l = []
 · rw [key]
   simp [q250_b0,h0,risesL,pureV]
 · have hpos:0 < s.l.length:=List.length_pos_iff.2 h0
   have h1:=hl (s.l.length - 1) 1 (by omega) (by omega)
   simp at h1
   rw [key]
   have hw:=int_next hpos hs
   simp at hw
   simp (decide:=true) [q250_b0,openA,noTr,hpos,hw,h1]
   cases risesL s.l <;> simp [pureV]
variable (h117:∀ s:Sl Int,short s -> ∀ n h,E 54 [.d (s.d u32C),.d (u32 n)] h = some (bl (hasT s.l n),h))
include h117 in
theorem I154 {s:Sl Int} (hs:short s) (most:Int) (h:Hp):Sm E TI valI 32 [.d (s.d u32C),.d (i64 most)] h = some (bl (coversT s.l most),h):=by
 have m:∀ h,Sm E TI valI 54 [.d (s.d u32C),.d (u32 0)] h = some (bl (hasT s.l 0),h):=fun h=>by rw [Sm_ext i117]; exact h117 _ hs 0 h
 rw [Sm_v i154 j154]
 cases e:(risesL s.l && decide ((s.l.length:Int) <= most)) <;> simp (decide:=true) [Bd_mk,q154,I250 hs.lt most,m,e,coversT,openA,opDE_call,noTr,opsA_if]
variable (h263:∀ p:Pol,p.wf big -> ∀ h,E 152 [ag p.c] h = some (bl (polMay p),h))
include h263 in
theorem I262 (p:Pol) (hw:p.wf big) (h:Hp):Sm E TI valI 151 [ag p.c] h = some (bl (!polMay p),h):=by
 have m:∀ h,Sm E TI valI 152 [ag p.c] h = some (bl (polMay p),h):=fun h=>by rw [Sm_ext i263]; exact h263 p hw h
 rw [Sm_v i262 j262]
 simp (decide:=true) [Bd_mk,q262,m]
include h117 h263 in
theorem I162 (v:Vw) (hv:v.ok) (hw:∀ p ∈ v.policies.l,p.wf big) (h:Hp):Sm E TI valI 77 [.d (u64 v.epoch),.d (v.covers.d u32C),.d (v.pods.d Pod.c),.d (v.services.d Svc.c),.d (v.bound.d Way.c),.d (v.policies.d Pol.c)] h = some (bl (vwMay v),h):=by
 have k1:∀ h,Sm E TI valI 32 [.d (v.covers.d u32C),.d (i64 38)] h = some (bl (coversT v.covers.l 38),h):=fun h=>I154 h117 hv.1 38 h
 have a1:∀ h,Sm E TI valI 68 [.d (v.pods.d Pod.c),.fn 142 []] h = some (bl (v.pods.l.any vpodBad),h):=fun h =>
  S_some i143 j143 rfl rfl (S_any Pod.c (z:=7) i100 j100 i245 j245 (RowIs.of (cells:=Pod.c) (fun _=>rfl) _) hv.2.1.lt fun e he lo=>I253 e _)
 have a2:∀ h,Sm E TI valI 58 [.d (v.services.d Svc.c),.fn 143 []] h = some (bl (v.services.l.any vsvcBad),h):=fun h =>
  S_some i132 j132 rfl rfl (S_any Svc.c (z:=5) i103 j103 i239 j239 (RowIs.of (cells:=Svc.c) (fun _=>rfl) _) hv.2.2.1.lt fun e he lo=>I254 e _)
 have a3:∀ h,Sm E TI valI 144 [.d (v.bound.d Way.c),.fn 145 []] h = some (bl (v.bound.l.any vwayBad),h):=fun h =>
  S_some i255 j255 rfl rfl (S_any Way.c (z:=2) i109 j109 i340 j340 (RowIs.of (cells:=Way.c) (fun _=>rfl) _) hv.2.2.2.1.lt fun e he lo=>I256 e _)
 have a4:∀ h,Sm E TI valI 150 [.d (v.policies.d Pol.c),.fn 151 []] h = some (bl (v.policies.l.any fun p=>!polMay p),h):=fun h =>
  S_some i261 j261 rfl rfl (S_any Pol.c (z:=5) i339 j339 i292 j292 (RowIs.of (cells:=Pol.c) (fun _=>rfl) _) hv.2.2.2.2.1.lt fun e he lo=>I262 h263 e (hw e he) _)
 have b1:=fun h=>S_rsgB (E:=E) i257 j257 (s:=v.pods) (cells:=Pod.c) (most:=16) (fun _=>rfl) hv.2.1.lt (fun e _ h=>I166 e h) h
 have b2:=fun h=>S_rsgB (E:=E) i258 j258 (s:=v.services) (cells:=Svc.c) (most:=6) (fun _=>rfl) hv.2.2.1.lt (fun e _ h=>I168 e h) h
 have b3:=fun h=>S_rsgB (E:=E) i259 j259 (s:=v.bound) (cells:=Way.c) (most:=4) (fun _=>rfl) hv.2.2.2.1.lt (fun e _ h=>I170 e h) h
 have b4:=fun h=>S_rsgB (E:=E) i260 j260 (s:=v.policies) (cells:=Pol.c) (most:=12) (fun _=>rfl) hv.2.2.2.2.1.lt (fun e _ h=>I172 e h) h
 unfold vwMay thingsT oddT
 generalize coversT v.covers.l 38 = C at *
 generalize v.pods.l.any vpodBad = A1 at *
 generalize v.services.l.any vsvcBad = A2 at *
 generalize v.bound.l.any vwayBad = A3 at *
 generalize (v.policies.l.any fun p=>!polMay p) = A4 at *
 generalize risK Pod.uid v.pods.l 16 = B1 at *
 generalize risK Svc.id v.services.l 6 = B2 at *
 generalize risK Way.id v.bound.l 4 = B3 at *
 generalize risK Pol.id v.policies.l 12 = B4 at *
 rw [Sm_v i162 j162]
 have hodd:∃ o,(A1 || (A2 || A3)) = o:=⟨_,rfl⟩
 obtain ⟨o,ho⟩:=hodd
 by_cases m1:v.epoch <= 4611686018427387903
 · cases A1 <;> cases A2 <;> cases A3 <;> simp at ho <;> subst ho <;> first
    | (cases C <;> simp (decide:=true) [Bd_mk,q162,a1,a2,a3,a4,k1,m1]; done)
    | (cases B1
       case false=>cases C <;> simp (decide:=true) [Bd_mk,q162,a1,a2,a3,a4,b1,k1,m1]
       cases B2
       case false=>cases C <;> simp (decide:=true) [Bd_mk,q162,a1,a2,a3,a4,b1,b2,k1,m1]
       cases B3
       case false=>cases C <;> simp (decide:=true) [Bd_mk,q162,a1,a2,a3,a4,b1,b2,b3,k1,m1]
       cases B4 <;> cases C <;> simp (decide:=true) [Bd_mk,q162,a1,a2,a3,a4,b1,b2,b3,b4,k1,m1])
 · cases A1 <;> cases A2 <;> cases A3 <;> first
    | (simp (decide:=true) [Bd_mk,q162,a1,a2,a3,a4,m1]; done)
    | (cases B1
       case false=>simp (decide:=true) [Bd_mk,q162,a1,a2,a3,a4,b1,m1]
       cases B2
       case false=>simp (decide:=true) [Bd_mk,q162,a1,a2,a3,a4,b1,b2,m1]
       cases B3
       case false=>simp (decide:=true) [Bd_mk,q162,a1,a2,a3,a4,b1,b2,b3,m1]
       simp (decide:=true) [Bd_mk,q162,a1,a2,a3,a4,b1,b2,b3,b4,m1])
include h117 h263 in
theorem I75 (v:Vw) (hv:v.ok) (hw:∀ p ∈ v.policies.l,p.wf big) (h:Hp):Sm E TI valI 31 [v.v] h = some (bl (vwMay v),h):=by
 have k2:=fun h=>I162 h117 h263 v hv hw h
 rw [Sm_v i75 j75]
 simp (decide:=true) [Bd_mk,q75,k2]
include h117 h263 in
def Vw.same (a b:Vw):Bool:=a.epoch == b.epoch && (all2 (fun x y:Int=>x == y) a.covers.l b.covers.l && (all2 Pod.eqB a.pods.l b.pods.l && (all2 Svc.eqB a.services.l b.services.l && (all2 Way.eqB a.bound.l b.bound.l && all2 Pol.same a.policies.l b.policies.l))))
theorem I81 (s t:Sl Int) (hs:s.l.length < 2 ^ 62) (h:Hp):Sm E TI valI 22 [.d (s.d u32C),.d (t.d u32C)] h = some (bl (all2 (fun x y:Int=>x == y) s.l t.l),h) :=
 S_eql1 (cell:=fun n=>u32 n) i81 j81 hs (fun x y h=>eqv_i) h
theorem I82 (a b:Vw) (ha:a.ok) (h:Hp):Sm E TI valI 23 [a.v,b.v] h = some (bl (a.same b),h):=by
 have n0:=fun h=>I81 (E:=E) a.covers b.covers ha.1.lt h
 have n1:=fun h=>S_eql (E:=E) (T:=TI) (val:=valI) (cells:=Pod.c) (z:=7) (fun _=>rfl) (by decide) (p:=Pod.eqB) i173 j173 (s:=a.pods) (t:=b.pods) ha.2.1.lt (fun x y h=>eqv_pod) h
 have n2:=fun h=>S_eql (E:=E) (T:=TI) (val:=valI) (cells:=Svc.c) (z:=5) (fun _=>rfl) (by decide) (p:=Svc.eqB) i174 j174 (s:=a.services) (t:=b.services) ha.2.2.1.lt (fun x y h=>eqv_svc) h
 have n3:=fun h=>S_eql (E:=E) (T:=TI) (val:=valI) (cells:=Way.c) (z:=2) (fun _=>rfl) (by decide) (p:=Way.eqB) i175 j175 (s:=a.bound) (t:=b.bound) ha.2.2.2.1.lt (fun x y h=>eqv_way) h
 have n4:=fun h=>S_eqf (E:=E) (T:=TI) (val:=valI) (cells:=Pol.c) (z:=5) (fun _=>rfl) (by decide) rfl (f:=37) (p:=Pol.same) i176 j176 (s:=a.policies) (t:=b.policies) ha.2.2.2.2.1.lt (fun x hx y _ h=>I177 x y (ha.2.2.2.2.2 x hx) h) h
 rw [Sm_v i82 j82]
 unfold Vw.same
 generalize all2 (fun x y:Int=>x == y) a.covers.l b.covers.l = A0 at *
 generalize all2 Pod.eqB a.pods.l b.pods.l = A1 at *
 generalize all2 Svc.eqB a.services.l b.services.l = A2 at *
 generalize all2 Way.eqB a.bound.l b.bound.l = A3 at *
 generalize all2 Pol.same a.policies.l b.policies.l = A4 at *
 cases e1:(a.epoch == b.epoch)
 case false=>simp (decide:=true) [Bd_mk,q82,e1]
 cases A0
 case false=>simp (decide:=true) [Bd_mk,q82,e1,n0]
 cases A1
 case false=>simp (decide:=true) [Bd_mk,q82,e1,n0,n1]
 cases A2
 case false=>simp (decide:=true) [Bd_mk,q82,e1,n0,n1,n2]
 cases A3
 case false=>simp (decide:=true) [Bd_mk,q82,e1,n0,n1,n2,n3]
 simp (decide:=true) [Bd_mk,q82,e1,n0,n1,n2,n3,n4]
end
end Go.Proofs.YtegfnefobbgkjaaGreat
namespace Go.Proofs.YtegfnefobbgkjaaGreat
theorem risK_nodup {α:Type} {key:α -> Int} {l:List α} {n:Int} (h:risK key l n = true):(l.map key).Nodup /\ (l.length:Int) <= n:=by
 simp only [risK,Bool.and_eq_true,decide_eq_true_eq] at h
 exact ⟨(risesL_pair h.1).imp fun h=>by omega,h.2⟩
theorem may_ris {v:Vw} (h:vwMay v = true):risK Pod.uid v.pods.l 16 = true /\ risK Svc.id v.services.l 6 = true /\ risK Way.id v.bound.l 4 = true /\ risK Pol.id v.policies.l 12 = true:=by
 simp only [vwMay,thingsT,Bool.and_eq_true] at h
 exact h.2.2.1.2
end Go.Proofs.YtegfnefobbgkjaaGreat
namespace Go.Proofs.YtegfnefobbgkjaaGreat
def Idx.own (x:Idx):Idx:={ x with view:=x.view.own }
def Wk (x:Idx) (n:Int):List V:=x.c.map .d ++ [.d (u64 n)]
section
variable {x:Idx} {n:Int}
@[simp] theorem Wk.len:(Wk x n).length = 15:=(rfl)
@[simp] theorem Wk.s0_14:sub (Wk x n) 0 14 = some (x.c.map .d):=(rfl)
@[simp] theorem Wk.s1_1:sub (Wk x n) 1 1 = some [.d (u64 x.inc)]:=(rfl)
@[simp] theorem Wk.s2_1:sub (Wk x n) 2 1 = some [.d (u64 x.asked)]:=(rfl)
@[simp] theorem Wk.s3_1:sub (Wk x n) 3 1 = some [.d (x.addrs.d u32C)]:=(rfl)
@[simp] theorem Wk.s5_1:sub (Wk x n) 5 1 = some [.d (u64 x.life)]:=(rfl)
@[simp] theorem Wk.s6_1:sub (Wk x n) 6 1 = some [.d (u64 x.seq)]:=(rfl)
@[simp] theorem Wk.s7_6:sub (Wk x n) 7 6 = some (x.view.c.map .d):=(rfl)
@[simp] theorem Wk.s13_1:sub (Wk x n) 13 1 = some [.d (u64 x.high)]:=(rfl)
@[simp] theorem Wk.s14_1:sub (Wk x n) 14 1 = some [.d (u64 n)]:=(rfl)
@[simp] theorem Wk.p2 {m:Int}:put (Wk x n) 2 [.d (u64 m)] = some (Wk { x with asked:=m } n):=(rfl)
@[simp] theorem Wk.p4 {m:Int}:put (Wk x n) 4 [.d (u64 m)] = some (Wk { x with since:=m } n):=(rfl)
@[simp] theorem Wk.p5 {m:Int}:put (Wk x n) 5 [.d (u64 m)] = some (Wk { x with life:=m } n):=(rfl)
@[simp] theorem Wk.p6 {m:Int}:put (Wk x n) 6 [.d (u64 m)] = some (Wk { x with seq:=m } n):=(rfl)
@[simp] theorem Wk.p7 {v:Vw}:put (Wk x n) 7 (v.c.map .d) = some (Wk { x with view:=v } n):=(rfl)
@[simp] theorem Wk.p13 {m:Int}:put (Wk x n) 13 [.d (u64 m)] = some (Wk { x with high:=m } n):=(rfl)
@[simp] theorem Idx.p3:put (x.c.map V.d) 3 [.d (x.addrs.d u32C)] = some (x.c.map .d):=(rfl)
@[simp] theorem Idx.p7 {v:Vw}:put (x.c.map V.d) 7 (v.c.map .d) = some ((Idx.c { x with view:=v }).map .d):=(rfl)
end
section
variable {E:Calls'}
theorem vw0_ok:vw0.ok:=⟨⟨Nat.zero_le _,fun _=>rfl⟩,⟨Nat.zero_le _,fun _=>rfl⟩,⟨Nat.zero_le _,fun _=>rfl⟩,⟨Nat.zero_le _,fun _=>rfl⟩,⟨Nat.zero_le _,fun _=>rfl⟩,fun p hp=>by cases hp⟩
def Idx.same (a b:Idx):Bool:=(a.node == b.node && (a.inc == b.inc && (a.asked == b.asked && (a.since == b.since && (a.life == b.life && (a.seq == b.seq && a.high == b.high)))))) && (all2 (fun x y:Int=>x == y) a.addrs.l b.addrs.l && a.view.same b.view)
end
end Go.Proofs.YtegfnefobbgkjaaGreat
namespace Go.Proofs.YtegfnefobbgkjaaGreat
section
variable {x:Idx}
@[simp] theorem Idx.own_node:x.own.node = x.node:=(rfl)
@[simp] theorem Idx.own_inc:x.own.inc = x.inc:=(rfl)
@[simp] theorem Idx.own_life:x.own.life = x.life:=(rfl)
@[simp] theorem Idx.own_seq:x.own.seq = x.seq:=(rfl)
@[simp] theorem Idx.own_high:x.own.high = x.high:=(rfl)
@[simp] theorem Idx.own_view:x.own.view = x.view.own:=(rfl)
end
structure Whole (x:Idx):Prop where
 addrs:short x.addrs
 view:x.view.ok
 wf:∀ p ∈ x.view.policies.l,p.wf big
theorem Vw.own_ok {v:Vw} (hv:v.ok) (hw:∀ p ∈ v.policies.l,p.wf big):v.own.ok /\ ∀ p ∈ v.own.policies.l,p.wf big:=by
 have hw':∀ p ∈ v.own.policies.l,p.wf big:=fun p hp=>by
  obtain ⟨q,hq,rfl⟩:=List.mem_map.1 hp
  exact Pol.own_wf (hw q hq)
 refine ⟨⟨hv.1,hv.2.1,hv.2.2.1,hv.2.2.2.1,⟨?_,fun h=>?_⟩,fun p hp=>(hw' p hp).fits⟩,hw'⟩
 · show (v.policies.l.map Pol.own).length <= big
   rw [List.length_map]; exact hv.2.2.2.2.1.1
 · show v.policies.l.map Pol.own = []
   have e:v.policies.l = []:=hv.2.2.2.2.1.2 h
   rw [e]; rfl
theorem Whole.own {x:Idx} (h:Whole x):Whole x.own:=⟨h.addrs,(Vw.own_ok h.view h.wf).1,(Vw.own_ok h.view h.wf).2⟩
end Go.Proofs.YtegfnefobbgkjaaGreat
