/- Feeds as data. -/
import Derived.Test.YtegfnefobbgkjaaGreatIa
import Derived.Test.YtegfnefobbgkjaaGreatR18
import Derived.Test.YtegfnefobbgkjaaGreatRa
import Derived.Test.YtegfnefobbgkjaaGreatOd
import Derived.Test.YtegfnefobbgkjaaGreatWo
import Derived.Test.YtegfnefobbgkjaaGreatWf
import Derived.KernelRfl
set_option maxRecDepth 100000
set_option linter.unusedVariables false
set_option linter.unusedSimpArgs false
set_option linter.unnecessarySimpa false
set_option linter.unusedSimpArgs false
namespace Go.Proofs.YtegfnefobbgkjaaGreat
structure Fd where
 node:Int
 life:Int
 inc:Int
 asked:Int
 addrs:Sl Int
 seq:Int
 out:Int
 sent:Vw
 upon:Int
 base:Vw
 since:Int
 epochs:Int
def Fd.c (x:Fd):List D:=i64 x.node :: u64 x.life :: u64 x.inc :: u64 x.asked :: x.addrs.d u32C :: u64 x.seq :: i64 x.out :: (x.sent.c ++ (u64 x.upon :: (x.base.c ++ [u64 x.since,u64 x.epochs])))
abbrev Fd.v (x:Fd):V:=ag x.c
def Fw (x:Fd) (n:Int):List V:=x.c.map .d ++ [.d (u64 n)]
section
variable {x:Fd} {n:Int}
@[simp] theorem Fd.len:x.c.length = 22:=(rfl)
@[simp] theorem Fd.s0_22:sub x.c 0 22 = some x.c:=(rfl)
@[simp] theorem Fd.s0_1:sub x.c 0 1 = some [i64 x.node]:=(rfl)
@[simp] theorem Fd.s1_1:sub x.c 1 1 = some [u64 x.life]:=(rfl)
@[simp] theorem Fd.s2_1:sub x.c 2 1 = some [u64 x.inc]:=(rfl)
@[simp] theorem Fd.s3_1:sub x.c 3 1 = some [u64 x.asked]:=(rfl)
@[simp] theorem Fd.s4_1:sub x.c 4 1 = some [x.addrs.d u32C]:=(rfl)
@[simp] theorem Fd.s5_1:sub x.c 5 1 = some [u64 x.seq]:=(rfl)
@[simp] theorem Fd.s6_1:sub x.c 6 1 = some [i64 x.out]:=(rfl)
@[simp] theorem Fd.s7_6:sub x.c 7 6 = some x.sent.c:=(rfl)
@[simp] theorem Fd.s7_1:sub x.c 7 1 = some [u64 x.sent.epoch]:=(rfl)
@[simp] theorem Fd.s13_1:sub x.c 13 1 = some [u64 x.upon]:=(rfl)
@[simp] theorem Fd.s14_6:sub x.c 14 6 = some x.base.c:=(rfl)
@[simp] theorem Fd.s20_1:sub x.c 20 1 = some [u64 x.since]:=(rfl)
@[simp] theorem Fd.s21_1:sub x.c 21 1 = some [u64 x.epochs]:=(rfl)
@[simp] theorem Fd.p4:put (x.c.map V.d) 4 [.d (x.addrs.d u32C)] = some (x.c.map .d):=(rfl)
@[simp] theorem Fd.p7 {v:Vw}:put (x.c.map V.d) 7 (v.c.map .d) = some ((Fd.c { x with sent:=v }).map .d):=(rfl)
@[simp] theorem Fd.p14 {v:Vw}:put (x.c.map V.d) 14 (v.c.map .d) = some ((Fd.c { x with base:=v }).map .d):=(rfl)
@[simp] theorem Fw.len:(Fw x n).length = 23:=(rfl)
@[simp] theorem Fw.s0_22:sub (Fw x n) 0 22 = some (x.c.map .d):=(rfl)
@[simp] theorem Fw.s0_1:sub (Fw x n) 0 1 = some [.d (i64 x.node)]:=(rfl)
@[simp] theorem Fw.s1_1:sub (Fw x n) 1 1 = some [.d (u64 x.life)]:=(rfl)
@[simp] theorem Fw.s2_1:sub (Fw x n) 2 1 = some [.d (u64 x.inc)]:=(rfl)
@[simp] theorem Fw.s3_1:sub (Fw x n) 3 1 = some [.d (u64 x.asked)]:=(rfl)
@[simp] theorem Fw.s4_1:sub (Fw x n) 4 1 = some [.d (x.addrs.d u32C)]:=(rfl)
@[simp] theorem Fw.s5_1:sub (Fw x n) 5 1 = some [.d (u64 x.seq)]:=(rfl)
@[simp] theorem Fw.s6_1:sub (Fw x n) 6 1 = some [.d (i64 x.out)]:=(rfl)
@[simp] theorem Fw.s7_6:sub (Fw x n) 7 6 = some (x.sent.c.map .d):=(rfl)
@[simp] theorem Fw.s7_1:sub (Fw x n) 7 1 = some [.d (u64 x.sent.epoch)]:=(rfl)
@[simp] theorem Fw.s13_1:sub (Fw x n) 13 1 = some [.d (u64 x.upon)]:=(rfl)
@[simp] theorem Fw.s14_6:sub (Fw x n) 14 6 = some (x.base.c.map .d):=(rfl)
@[simp] theorem Fw.s20_1:sub (Fw x n) 20 1 = some [.d (u64 x.since)]:=(rfl)
@[simp] theorem Fw.s21_1:sub (Fw x n) 21 1 = some [.d (u64 x.epochs)]:=(rfl)
@[simp] theorem Fw.s22_1:sub (Fw x n) 22 1 = some [.d (u64 n)]:=(rfl)
@[simp] theorem Fw.p2 {m:Int}:put (Fw x n) 2 [.d (u64 m)] = some (Fw { x with inc:=m } n):=(rfl)
@[simp] theorem Fw.p3 {m:Int}:put (Fw x n) 3 [.d (u64 m)] = some (Fw { x with asked:=m } n):=(rfl)
@[simp] theorem Fw.p4 {s:Sl Int}:put (Fw x n) 4 [.d (s.d u32C)] = some (Fw { x with addrs:=s } n):=(rfl)
@[simp] theorem Fw.p5 {m:Int}:put (Fw x n) 5 [.d (u64 m)] = some (Fw { x with seq:=m } n):=(rfl)
@[simp] theorem Fw.p6 {m:Int}:put (Fw x n) 6 [.d (i64 m)] = some (Fw { x with out:=m } n):=(rfl)
@[simp] theorem Fw.p7 {v:Vw}:put (Fw x n) 7 (v.c.map .d) = some (Fw { x with sent:=v } n):=(rfl)
@[simp] theorem Fw.p13 {m:Int}:put (Fw x n) 13 [.d (u64 m)] = some (Fw { x with upon:=m } n):=(rfl)
@[simp] theorem Fw.p14 {v:Vw}:put (Fw x n) 14 (v.c.map .d) = some (Fw { x with base:=v } n):=(rfl)
@[simp] theorem Fw.p20 {m:Int}:put (Fw x n) 20 [.d (u64 m)] = some (Fw { x with since:=m } n):=(rfl)
@[simp] theorem Fw.p21 {m:Int}:put (Fw x n) 21 [.d (u64 m)] = some (Fw { x with epochs:=m } n):=(rfl)
end
def Fd.own (x:Fd):Fd:={ x with sent:=x.sent.own,base:=x.base.own }
structure FdOk (x:Fd):Prop where
 addrs:short x.addrs
 sent:x.sent.ok
 sentw:∀ p ∈ x.sent.policies.l,p.wf big
 base:x.base.ok
 basew:∀ p ∈ x.base.policies.l,p.wf big
def Fd.same (a b:Fd):Bool:=(a.node == b.node && (a.life == b.life && (a.inc == b.inc && (a.asked == b.asked && (a.seq == b.seq && (a.out == b.out && (a.upon == b.upon && (a.since == b.since && a.epochs == b.epochs)))))))) &&
 (all2 (fun x y:Int=>x == y) a.addrs.l b.addrs.l && (a.sent.same b.sent && a.base.same b.base))
end Go.Proofs.YtegfnefobbgkjaaGreat
namespace Go.Proofs.YtegfnefobbgkjaaGreat
def tabF:List (Nat × QF):=[(4,r71),(7,r73),(8,r74),(9,r75),(10,r76),(11,r77),(15,r79),(17,r214),(19,r215),(20,r216),(25,r217),(18,q135)]
def TF:FuncId -> Option QF:=lookT tabF
def valF (f:FuncId):Bool:=[4,7,8,9,10,11,15,18,20].any fun n=>Nat.beq n f
theorem ft71:TF 4 = some r71:=by kernel_rfl
theorem fv71:valF 4 = true:=by kernel_rfl
theorem ft73:TF 7 = some r73:=by kernel_rfl
theorem fv73:valF 7 = true:=by kernel_rfl
theorem ft74:TF 8 = some r74:=by kernel_rfl
theorem fv74:valF 8 = true:=by kernel_rfl
theorem ft75:TF 9 = some r75:=by kernel_rfl
theorem fv75:valF 9 = true:=by kernel_rfl
theorem ft76:TF 10 = some r76:=by kernel_rfl
theorem fv76:valF 10 = true:=by kernel_rfl
theorem ft77:TF 11 = some r77:=by kernel_rfl
theorem fv77:valF 11 = true:=by kernel_rfl
theorem ft214:TF 17 = some r214:=by kernel_rfl
theorem fv214:valF 17 = false:=by kernel_rfl
theorem ft215:TF 19 = some r215:=by kernel_rfl
theorem fv215:valF 19 = false:=by kernel_rfl
theorem ft216:TF 20 = some r216:=by kernel_rfl
theorem fv216:valF 20 = true:=by kernel_rfl
theorem ft217:TF 25 = some r217:=by kernel_rfl
theorem fv217:valF 25 = false:=by kernel_rfl
theorem ft154:TF 18 = some (cloneQ 1 4 [(.d (.int .u32 0))]):=by kernel_rfl
theorem fv154:valF 18 = true:=by kernel_rfl
theorem ft51:TF 30 = none:=by kernel_rfl
theorem ft54:TF 21 = none:=by kernel_rfl
theorem ft57:TF 12 = none:=by kernel_rfl
theorem ft58:TF 42 = none:=by kernel_rfl
theorem ft60:TF 23 = none:=by kernel_rfl
theorem ft62:TF 31 = none:=by kernel_rfl
theorem ft66:TF 24 = none:=by kernel_rfl
theorem ft133:TF 22 = none:=by kernel_rfl
def OfR (c:Cfg) (s:Scp) (v:Vw) (e:Int):Prop:=(e = 0 /\ cfgMay c = true /\ scopeMay s = true /\ ∃ nl,(nl = true -> coverT c s = []) /\ v = ofT c s ⟨nl,coverT c s⟩) \/ (e = 1 /\ v = vw0 /\ (cfgMay c && scopeMay s) = false)
structure FeedH (E:Calls'):Prop where
 h51n:∀ c:Cfg,c.wf 1048576 -> c.wf big -> ∀ s:Scp,short s.addrs -> (cfgMay c && scopeMay s) = false -> ∀ h,E 30 [c.v,s.v] h = some (.tup [vw0.v,.d (i64 1)],h)
 h51:∀ c:Cfg,c.wf 1048576 -> c.wf big -> c.ok -> c.own.ok -> ∀ s:Scp,short s.addrs -> cfgMay c = true -> scopeMay s = true -> s.addrs.l.length + c.services.l.length <= big -> ∃ nl,(nl = true -> coverT c s = []) /\ ∀ h,E 30 [c.v,s.v] h = some (.tup [(ofT c s ⟨nl,coverT c s⟩).v,.d (i64 0)],h)
 h54:∀ s:Scp,short s.addrs -> ∀ h,E 21 [s.v] h = some (bl (scopeMay s),h)
 h58n:∀ a b:Vw,a.ok -> (∀ p ∈ a.policies.l,p.wf big) -> b.ok -> (∀ p ∈ b.policies.l,p.wf big) -> (vwMay a && vwMay b) = false -> ∀ h,E 42 [a.v,b.v] h = some (.tup [ag dlt0.c,.d (i64 1)],h)
 h58:∀ a b:Vw,a.ok -> (∀ p ∈ a.policies.l,p.wf big) -> b.ok -> (∀ p ∈ b.policies.l,p.wf big) -> vwMay a = true -> vwMay b = true -> ∀ h,E 42 [a.v,b.v] h = some (.tup [ag (diffN a b).c,.d (i64 0)],h)
 h57:∀ v:Vw,v.ok -> ∃ b:Bool,∀ h,E 12 [v.v] h = some (bl b,h)
 h60:∀ a b:Vw,a.ok -> ∀ h,E 23 [a.v,b.v] h = some (bl (a.same b),h)
 h62:∀ v:Vw,v.ok -> (∀ p ∈ v.policies.l,p.wf big) -> ∀ h,E 31 [v.v] h = some (bl (vwMay v),h)
 h66:∀ v:Vw,v.ok -> ∀ h,E 24 [v.v] h = some (v.own.v,h)
 h133:∀ s t:Sl Int,s.l.length < 2 ^ 62 -> ∀ h,E 22 [.d (s.d u32C),.d (t.d u32C)] h = some (bl (all2 (fun x y:Int=>x == y) s.l t.l),h)
structure CfgOk (c:Cfg):Prop where
 w1:c.wf 1048576
theorem CfgOk.w2 {c:Cfg} (h:CfgOk c):c.wf big:=Cfg.wf.le (by decide) h.w1
theorem CfgOk.ok {c:Cfg} (h:CfgOk c):c.ok:=h.w2.ok (Nat.le_refl _)
theorem CfgOk.own {c:Cfg} (h:CfgOk c):c.own.ok:=(Cfg.own_wf h.w2).ok (Nat.le_refl _)
theorem scope_len {s:Scp} (h:scopeMay s = true):s.addrs.l.length <= 32:=by
 simp only [scopeMay,coversT,Bool.and_eq_true,decide_eq_true_eq] at h
 omega
theorem svcs_len {c:Cfg} (h:cfgMay c = true):c.services.l.length <= 6:=by
 simp only [cfgMay,smallT,Bool.and_eq_true,decide_eq_true_eq] at h
 omega
theorem OfR.of {c:Cfg} {s:Scp} {v:Vw} {e:Int} (h:OfR c s v e) (hc:CfgOk c):v.ok /\ (∀ p ∈ v.policies.l,p.wf big) /\ (e = 0 -> vwMay v = true):=by
 rcases h with ⟨rfl,h1,h2,nl,hn,rfl⟩ | ⟨rfl,rfl,_⟩
 · have a:=scope_len h2
   have b:=svcs_len h1
   have hb:38 <= big:=by decide
   refine ⟨ofT_ok hc.ok hc.own hn (by omega),fun p hp=>?_,fun _=>may_of h1 h2⟩
   have hw:=(Cfg.own_wf hc.w2).2.2.2.2.2.2.2.2
   exact hw p (List.mem_filter.1 hp).1
 · exact ⟨vw0_ok,(fun p hp=>by cases hp),fun h=>by cases h⟩
def stopT (w:Fd) (v:Vw) (e:Int):Bool:=!(e == 0) || (w.inc == 0 || (!(w.out == 0) || ((!(w.upon == 0) && w.base.same v) || (!vwMay w.base || decide (w.seq >= 4611686018427387903)))))
def fdNext (w:Fd) (v:Vw) (now:Int):Fd:={ w with seq:=IntKind.wrap .u64 (w.seq + 1),sent:=v,out:=1,since:=now }
def pushOf (w:Fd) (d:Dlt):Psh:=⟨w.life,w.inc,w.seq,w.upon,d⟩
def pushD (l:List Psh):D:=Sl.d Psh.c ⟨l.isEmpty,l⟩
def GoOn (c:Cfg) (now:Int) (w w':Fd) (l:List Psh):Prop:=∃ v e,OfR c ⟨w.node,w.addrs⟩ v e /\ ((stopT w v e = true /\ w' = w /\ l = []) \/ (stopT w v e = false /\ w' = fdNext w v now /\ l = [pushOf w' (diffN w.base v)]))
def fdZ:List V:=[.d (i64 0),.d (.int .u64 0),.d (.int .u64 0),.d (.int .u64 0),.d (.slice true []),.d (.int .u64 0),.d (i64 0),.d (.int .u64 0),.d (.slice true []),.d (.slice true []),.d (.slice true []),.d (.slice true []),.d (.slice true []),.d (.int .u64 0),.d (.int .u64 0),.d (.slice true []),.d (.slice true []),.d (.slice true []),.d (.slice true []),.d (.slice true []),.d (.int .u64 0),.d (.int .u64 0)]
theorem z22 (x:Fd):put [V.d (i64 0),.d (.int .u64 0),.d (.int .u64 0),.d (.int .u64 0),.d (.slice true []),.d (.int .u64 0),.d (i64 0),.d (.int .u64 0),.d (.slice true []),.d (.slice true []),.d (.slice true []),.d (.slice true []),.d (.slice true []),.d (.int .u64 0),.d (.int .u64 0),.d (.slice true []),.d (.slice true []),.d (.slice true []),.d (.slice true []),.d (.slice true []),.d (.int .u64 0),.d (.int .u64 0)] 0 (x.c.map V.d) = some (x.c.map .d):=rfl
theorem z6v (x:Vw):put [V.d (.int .u64 0),.d (.slice true []),.d (.slice true []),.d (.slice true []),.d (.slice true []),.d (.slice true [])] 0 (x.c.map V.d) = some (x.c.map V.d):=rfl
theorem z10d (x:Dlt):put [V.d (.int .u64 0),.d (.slice true []),.d (.slice true []),.d (.slice true []),.d (.slice true []),.d (.slice true []),.d (.slice true []),.d (.slice true []),.d (.slice true []),.d (.slice true [])] 0 (x.c.map V.d) = some (x.c.map V.d):=rfl
theorem under_agD (n:Nat) (l:List D):V.under n (ag l) = true:=by
 simp only [ag,V.under]
 induction l with
 | nil=>rfl
 | cons x l ih=>simpa [V.under.go,V.under] using ih
theorem fills_fw {ev:X -> V} {z:List V} {a b:X} {x:Fd} {n:Int} (hz:z.length = 23) (ha:ev a = ag x.c) (hb:ev b = .d (u64 n)):fillsE ev z [(0,22,a),(22,1,b)] = some (Fw x n):=by
 have h1:(x.c.map V.d).length = 22:=rfl
 have p1:put z 0 (x.c.map V.d) = some (x.c.map V.d ++ z.drop 22):=by
  unfold put
  rw [if_pos (by rw [h1,hz]; omega),h1]
  simp
 have p2:put (x.c.map V.d ++ z.drop 22) 22 [V.d (u64 n)] = some (Fw x n):=by
  have e2:(x.c.map V.d ++ z.drop 22).drop (22 + [V.d (u64 n)].length) = []:=List.drop_eq_nil_of_le (by rw [List.length_append,h1,List.length_drop,hz]; simp)
  unfold put
  rw [if_pos (by rw [List.length_append,h1,List.length_drop,hz]; simp),List.take_left' h1,e2,List.append_nil]
  rfl
 simp only [fillsE,ha,hb,cells_ag,cells_d,h1,if_true,p1,p2,List.length_cons,List.length_nil]
theorem fills_ps {ev:X -> V} {z:List V} {a b c d x:X} {p:Psh} (hz:z.length = 14) (ha:ev a = .d (u64 p.life)) (hb:ev b = .d (u64 p.inc)) (hc:ev c = .d (u64 p.seq)) (hd:ev d = .d (u64 p.upon)) (hx:ev x = ag p.delta.c) :
 fillsE ev z [(0,1,a),(1,1,b),(2,1,c),(3,1,d),(4,10,x)] = some (p.c.map .d):=by
 have hl:(p.delta.c.map V.d).length = 10:=rfl
 obtain ⟨z0,z1,z2,z3,z4,z5,z6,z7,z8,z9,z10,z11,z12,z13,rfl⟩:∃ z0 z1 z2 z3 z4 z5 z6 z7 z8 z9 z10 z11 z12 z13,z = [z0,z1,z2,z3,z4,z5,z6,z7,z8,z9,z10,z11,z12,z13]:=by
  match z,hz with
  | [z0,z1,z2,z3,z4,z5,z6,z7,z8,z9,z10,z11,z12,z13],_=>exact ⟨_,_,_,_,_,_,_,_,_,_,_,_,_,_,rfl⟩
 simp only [fillsE,ha,hb,hc,hd,hx,cells_ag,cells_d,hl,if_true,List.length_cons,List.length_nil]
 rfl
theorem Fd.own_ok {x:Fd} (h:FdOk x):FdOk x.own:=⟨h.addrs,(Vw.own_ok h.sent h.sentw).1,(Vw.own_ok h.sent h.sentw).2,(Vw.own_ok h.base h.basew).1,(Vw.own_ok h.base h.basew).2⟩
section
variable {E:Calls'} (H:FeedH E)
include H in
theorem W214_2 (x:Fd) (hx:FdOk x) (now:Int) (a0 a1:Blk) (lo:Nat):Sm E TF valF 17 [x.v,.d (u64 now)] ⟨[a0,a1],lo⟩ = some (.ptr 3 0,⟨[a0,a1,.cells (x.own.c.map .d),.cells (Fw x.own now)],min lo 2⟩):=by
 have n1:=fun h=>S_cloneV (E:=E) (T:=TF) (val:=valF) (cells:=u32C) ft154 fv154 (by decide) (by decide) (fun _=>rfl) hx.addrs h
 have n2:∀ h,Sm E TF valF 24 [x.sent.v] h = some (x.sent.own.v,h):=fun h=>by rw [Sm_ext ft66]; exact H.h66 x.sent hx.sent h
 have n3:∀ h,Sm E TF valF 24 [x.base.v] h = some (x.base.own.v,h):=fun h=>by rw [Sm_ext ft66]; exact H.h66 x.base hx.base h
 have e1:({ x with sent:=x.sent.own,base:=x.base.own }:Fd) = x.own:=rfl
 have hf:∀ {ev:X -> V} {p q:X},ev p = ag x.own.c -> ev q = .d (u64 now) -> fillsE ev [.d (i64 0),.d (.int .u64 0),.d (.int .u64 0),.d (.int .u64 0),.d (.slice true []),.d (.int .u64 0),.d (i64 0),.d (.int .u64 0),.d (.slice true []),.d (.slice true []),.d (.slice true []),.d (.slice true []),.d (.slice true []),.d (.int .u64 0),.d (.int .u64 0),.d (.slice true []),.d (.slice true []),.d (.slice true []),.d (.slice true []),.d (.slice true []),.d (.int .u64 0),.d (.int .u64 0),.d (.int .u64 0)] [(0,22,p),(22,1,q)] = some (Fw x.own now):=fun hp hq=>fills_fw rfl hp hq
 rw [Sm_ref ft214 fv214]
 simp (decide:=true) [Bd_mk,r214,n1,n2,n3,e1,hf,openA,opDE_call,noTr,V.under]
include H in
theorem W214_4 (x:Fd) (hx:FdOk x) (now:Int) (a0 a1 a2 a3:Blk) (lo:Nat):Sm E TF valF 17 [x.v,.d (u64 now)] ⟨[a0,a1,a2,a3],lo⟩ = some (.ptr 5 0,⟨[a0,a1,a2,a3,.cells (x.own.c.map .d),.cells (Fw x.own now)],min lo 4⟩):=by
 have n1:=fun h=>S_cloneV (E:=E) (T:=TF) (val:=valF) (cells:=u32C) ft154 fv154 (by decide) (by decide) (fun _=>rfl) hx.addrs h
 have n2:∀ h,Sm E TF valF 24 [x.sent.v] h = some (x.sent.own.v,h):=fun h=>by rw [Sm_ext ft66]; exact H.h66 x.sent hx.sent h
 have n3:∀ h,Sm E TF valF 24 [x.base.v] h = some (x.base.own.v,h):=fun h=>by rw [Sm_ext ft66]; exact H.h66 x.base hx.base h
 have e1:({ x with sent:=x.sent.own,base:=x.base.own }:Fd) = x.own:=rfl
 have hf:∀ {ev:X -> V} {p q:X},ev p = ag x.own.c -> ev q = .d (u64 now) -> fillsE ev [.d (i64 0),.d (.int .u64 0),.d (.int .u64 0),.d (.int .u64 0),.d (.slice true []),.d (.int .u64 0),.d (i64 0),.d (.int .u64 0),.d (.slice true []),.d (.slice true []),.d (.slice true []),.d (.slice true []),.d (.slice true []),.d (.int .u64 0),.d (.int .u64 0),.d (.slice true []),.d (.slice true []),.d (.slice true []),.d (.slice true []),.d (.slice true []),.d (.int .u64 0),.d (.int .u64 0),.d (.int .u64 0)] [(0,22,p),(22,1,q)] = some (Fw x.own now):=fun hp hq=>fills_fw rfl hp hq
 rw [Sm_ref ft214 fv214]
 simp (decide:=true) [Bd_mk,r214,n1,n2,n3,e1,hf,openA,opDE_call,noTr,V.under]
include H in
theorem P217_4 (w:Fd) (hw:FdOk w) (now:Int) (m1:vwMay w.base = true) (m2:vwMay w.sent = true) (a0 a1 a2:Blk) (lo:Nat):Sm E TF valF 25 [.ptr 3 0] ⟨[a0,a1,a2,.cells (Fw w now)],lo⟩ =
 some (.row 5 0 1 (some 1) 14,⟨[a0,a1,a2,.cells (Fw w now),.cells ((diffN w.base w.sent).c.map .d),.cells ((pushOf w (diffN w.base w.sent)).c.map .d)],min lo 4⟩):=by
 have n1:∀ h,Sm E TF valF 42 [w.base.v,w.sent.v] h = some (.tup [ag (diffN w.base w.sent).c,.d (i64 0)],h):=fun h=>by rw [Sm_ext ft58]; exact H.h58 _ _ hw.base hw.basew hw.sent hw.sentw m1 m2 h
 have z10:=z10d
 have hs:∀ x:Dlt,sub (x.c.map V.d) 0 10 = some (x.c.map V.d):=fun _=>rfl
 have hf:∀ {ev:X -> V} {a b c d x:X},ev a = .d (u64 w.life) -> ev b = .d (u64 w.inc) -> ev c = .d (u64 w.seq) -> ev d = .d (u64 w.upon) -> ev x = ag (diffN w.base w.sent).c -> fillsE ev [.d (.int .u64 0),.d (.int .u64 0),.d (.int .u64 0),.d (.int .u64 0),.d (.int .u64 0),.d (.slice true []),.d (.slice true []),.d (.slice true []),.d (.slice true []),.d (.slice true []),.d (.slice true []),.d (.slice true []),.d (.slice true []),.d (.slice true [])] [(0,1,a),(1,1,b),(2,1,c),(3,1,d),(4,10,x)] = some ((pushOf w (diffN w.base w.sent)).c.map .d):=fun h1 h2 h3 h4 h5=>fills_ps (p:=pushOf w (diffN w.base w.sent)) rfl h1 h2 h3 h4 h5
 have hl:((pushOf w (diffN w.base w.sent)).c.map V.d).length = 14:=rfl
 have hg:∀ {ev:X -> V} {a:X},ev a = ag (pushOf w (diffN w.base w.sent)).c -> fillsE ev [.d (.int .u64 0),.d (.int .u64 0),.d (.int .u64 0),.d (.int .u64 0),.d (.int .u64 0),.d (.slice true []),.d (.slice true []),.d (.slice true []),.d (.slice true []),.d (.slice true []),.d (.slice true []),.d (.slice true []),.d (.slice true []),.d (.slice true [])] [(0,14,a)] = some ((pushOf w (diffN w.base w.sent)).c.map .d):=fun h1=>by simp only [fillsE,h1,cells_ag,hl,if_true]; rfl
 rw [Sm_ref ft217 fv217]
 generalize diffN w.base w.sent = d at *
 simp (decide:=true) [Bd_mk,r217,n1,z10,hs,hf,hg,openA,opDE_call,noTr,V.under]
include H in
theorem P217_9 (w:Fd) (hw:FdOk w) (now:Int) (m1:vwMay w.base = true) (m2:vwMay w.sent = true) (a0 a1 a2 a3 a4 a6 a7 a8:Blk) (lo:Nat):Sm E TF valF 25 [.ptr 5 0] ⟨[a0,a1,a2,a3,a4,.cells (Fw w now),a6,a7,a8],lo⟩ =
 some (.row 10 0 1 (some 1) 14,⟨[a0,a1,a2,a3,a4,.cells (Fw w now),a6,a7,a8,.cells ((diffN w.base w.sent).c.map .d),.cells ((pushOf w (diffN w.base w.sent)).c.map .d)],min lo 9⟩):=by
 have n1:∀ h,Sm E TF valF 42 [w.base.v,w.sent.v] h = some (.tup [ag (diffN w.base w.sent).c,.d (i64 0)],h):=fun h=>by rw [Sm_ext ft58]; exact H.h58 _ _ hw.base hw.basew hw.sent hw.sentw m1 m2 h
 have z10:=z10d
 have hs:∀ x:Dlt,sub (x.c.map V.d) 0 10 = some (x.c.map V.d):=fun _=>rfl
 have hf:∀ {ev:X -> V} {a b c d x:X},ev a = .d (u64 w.life) -> ev b = .d (u64 w.inc) -> ev c = .d (u64 w.seq) -> ev d = .d (u64 w.upon) -> ev x = ag (diffN w.base w.sent).c -> fillsE ev [.d (.int .u64 0),.d (.int .u64 0),.d (.int .u64 0),.d (.int .u64 0),.d (.int .u64 0),.d (.slice true []),.d (.slice true []),.d (.slice true []),.d (.slice true []),.d (.slice true []),.d (.slice true []),.d (.slice true []),.d (.slice true []),.d (.slice true [])] [(0,1,a),(1,1,b),(2,1,c),(3,1,d),(4,10,x)] = some ((pushOf w (diffN w.base w.sent)).c.map .d):=fun h1 h2 h3 h4 h5=>fills_ps (p:=pushOf w (diffN w.base w.sent)) rfl h1 h2 h3 h4 h5
 have hl:((pushOf w (diffN w.base w.sent)).c.map V.d).length = 14:=rfl
 have hg:∀ {ev:X -> V} {a:X},ev a = ag (pushOf w (diffN w.base w.sent)).c -> fillsE ev [.d (.int .u64 0),.d (.int .u64 0),.d (.int .u64 0),.d (.int .u64 0),.d (.int .u64 0),.d (.slice true []),.d (.slice true []),.d (.slice true []),.d (.slice true []),.d (.slice true []),.d (.slice true []),.d (.slice true []),.d (.slice true []),.d (.slice true [])] [(0,14,a)] = some ((pushOf w (diffN w.base w.sent)).c.map .d):=fun h1=>by simp only [fillsE,h1,cells_ag,hl,if_true]; rfl
 rw [Sm_ref ft217 fv217]
 generalize diffN w.base w.sent = d at *
 simp (decide:=true) [Bd_mk,r217,n1,z10,hs,hf,hg,openA,opDE_call,noTr,V.under]
include H in
theorem P217n (w:Fd) (hw:FdOk w) (now:Int) (m:(vwMay w.base && vwMay w.sent) = false) (a0 a1 a2:Blk) (lo:Nat):Sm E TF valF 25 [.ptr 3 0] ⟨[a0,a1,a2,.cells (Fw w now)],lo⟩ = some (.d (.slice true []),⟨[a0,a1,a2,.cells (Fw w now)],lo⟩):=by
 have n1:∀ h,Sm E TF valF 42 [w.base.v,w.sent.v] h = some (.tup [ag dlt0.c,.d (i64 1)],h):=fun h=>by rw [Sm_ext ft58]; exact H.h58n _ _ hw.base hw.basew hw.sent hw.sentw m h
 have z10:=z10d
 rw [Sm_ref ft217 fv217]
 simp (decide:=true) [Bd_mk,r217,n1,z10,openA,opDE_call,noTr,V.under]
include H in
theorem H51 (c:Cfg) (hc:CfgOk c) (s:Scp) (hs:short s.addrs):∃ v e,OfR c s v e /\ ∀ h,Sm E TF valF 30 [c.v,s.v] h = some (.tup [v.v,.d (i64 e)],h):=by
 cases hm:cfgMay c && scopeMay s with
 | false=>exact ⟨vw0,1,.inr ⟨rfl,rfl,hm⟩,fun h=>by rw [Sm_ext ft51]; exact H.h51n c hc.w1 hc.w2 s hs hm h⟩
 | true =>
  simp only [Bool.and_eq_true] at hm
  have a:=scope_len hm.2
  have b:=svcs_len hm.1
  have hb:38 <= big:=by decide
  obtain ⟨nl,k1,k2⟩:=H.h51 c hc.w1 hc.w2 hc.ok hc.own s hs hm.1 hm.2 (by omega)
  exact ⟨_,0,.inl ⟨rfl,hm.1,hm.2,nl,k1,rfl⟩,fun h=>by rw [Sm_ext ft51]; exact k2 h⟩
include H in
theorem G215 (w:Fd) (hw:FdOk w) (c:Cfg) (hc:CfgOk c) (now:Int):∃ w' l,GoOn c now w w' l /\ FdOk w' ∧
 ((l = [] /\ w' = w /\ ∀ a0 a1 a2 a3 a4 lo,Sm E TF valF 19 [.ptr 5 0,c.v] ⟨[a0,a1,a2,a3,a4,.cells (Fw w now)],lo⟩ = some (.tup [w.v,.d (.slice true [])],⟨[a0,a1,a2,a3,a4,.cells (Fw w now)],lo⟩)) ∨
 (∃ p,l = [p] /\ ∀ a0 a1 a2 a3 a4 lo,∃ b6 b7 b8 b9,Sm E TF valF 19 [.ptr 5 0,c.v] ⟨[a0,a1,a2,a3,a4,.cells (Fw w now)],lo⟩ = some (.tup [w'.v,.row 10 0 1 (some 1) 14],⟨[a0,a1,a2,a3,a4,.cells (Fw w' now),b6,b7,b8,b9,.cells (p.c.map .d)],min lo 5⟩))):=by
 obtain ⟨v,e,hO,n1⟩:=H51 H c hc ⟨w.node,w.addrs⟩ hw.addrs
 obtain ⟨hv,hvw,hvm⟩:=hO.of hc
 have n1':∀ h,Sm E TF valF 30 [c.v,.agg [.d (i64 w.node),.d (w.addrs.d u32C)]] h = some (.tup [v.v,.d (i64 e)],h):=n1
 have n2:∀ h,Sm E TF valF 23 [w.base.v,v.v] h = some (bl (w.base.same v),h):=fun h=>by rw [Sm_ext ft60]; exact H.h60 _ _ hw.base h
 have n3:∀ h,Sm E TF valF 31 [w.base.v] h = some (bl (vwMay w.base),h):=fun h=>by rw [Sm_ext ft62]; exact H.h62 _ hw.base hw.basew h
 have y22:=z22
 have y6:=z6v
 by_cases h1:e = 0
 case neg =>
  refine ⟨w,[],⟨v,e,hO,.inl ⟨by simp [stopT,h1],rfl,rfl⟩⟩,hw,.inl ⟨rfl,rfl,fun a0 a1 a2 a3 a4 lo=>?_⟩⟩
  rw [Sm_ref ft215 fv215]
  simp (decide:=true) [Bd_mk,r215,n1',y22,y6,h1,fillsE,openA,opDE_call,noTr,V.under,V.under.go,under_agD]
 by_cases h2:w.inc = 0
 case pos =>
  refine ⟨w,[],⟨v,e,hO,.inl ⟨by simp [stopT,h1,h2],rfl,rfl⟩⟩,hw,.inl ⟨rfl,rfl,fun a0 a1 a2 a3 a4 lo=>?_⟩⟩
  rw [Sm_ref ft215 fv215]
  simp (decide:=true) [Bd_mk,r215,n1',y22,y6,h1,h2,fillsE,openA,opDE_call,noTr,V.under,V.under.go,under_agD]
 by_cases h3:w.out = 0
 case neg =>
  refine ⟨w,[],⟨v,e,hO,.inl ⟨by simp [stopT,h1,h2,h3],rfl,rfl⟩⟩,hw,.inl ⟨rfl,rfl,fun a0 a1 a2 a3 a4 lo=>?_⟩⟩
  rw [Sm_ref ft215 fv215]
  simp (decide:=true) [Bd_mk,r215,n1',y22,y6,h1,h2,h3,fillsE,openA,opDE_call,noTr,V.under,V.under.go,under_agD]
 have go:∀ hst:stopT w v e = false,(∀ a0 a1 a2 a3 a4 lo,∃ b6 b7 b8 b9,Sm E TF valF 19 [.ptr 5 0,c.v] ⟨[a0,a1,a2,a3,a4,.cells (Fw w now)],lo⟩ = some (.tup [(fdNext w v now).v,.row 10 0 1 (some 1) 14],⟨[a0,a1,a2,a3,a4,.cells (Fw (fdNext w v now) now),b6,b7,b8,b9,.cells ((pushOf (fdNext w v now) (diffN w.base v)).c.map .d)],min lo 5⟩)) →
  ∃ w' l,GoOn c now w w' l /\ FdOk w' ∧
  ((l = [] /\ w' = w /\ ∀ a0 a1 a2 a3 a4 lo,Sm E TF valF 19 [.ptr 5 0,c.v] ⟨[a0,a1,a2,a3,a4,.cells (Fw w now)],lo⟩ = some (.tup [w.v,.d (.slice true [])],⟨[a0,a1,a2,a3,a4,.cells (Fw w now)],lo⟩)) ∨
  (∃ p,l = [p] /\ ∀ a0 a1 a2 a3 a4 lo,∃ b6 b7 b8 b9,Sm E TF valF 19 [.ptr 5 0,c.v] ⟨[a0,a1,a2,a3,a4,.cells (Fw w now)],lo⟩ = some (.tup [w'.v,.row 10 0 1 (some 1) 14],⟨[a0,a1,a2,a3,a4,.cells (Fw w' now),b6,b7,b8,b9,.cells (p.c.map .d)],min lo 5⟩))):=fun hst k =>
  ⟨fdNext w v now,[pushOf (fdNext w v now) (diffN w.base v)],⟨v,e,hO,.inr ⟨hst,rfl,rfl⟩⟩,⟨hw.addrs,hv,hvw,hw.base,hw.basew⟩,.inr ⟨_,rfl,k⟩⟩
 have hnx:({ w with seq:=IntKind.wrap .u64 (w.seq + 1),sent:=v,out:=1,since:=now }:Fd) = fdNext w v now:=rfl
 have push:∀ (m1:vwMay w.base = true) (a0 a1 a2 a3 a4 a6 a7 a8:Blk) (lo:Nat),Sm E TF valF 25 [.ptr 5 0] ⟨[a0,a1,a2,a3,a4,.cells (Fw (fdNext w v now) now),a6,a7,a8],lo⟩ = _:=fun m1 a0 a1 a2 a3 a4 a6 a7 a8 lo =>
  P217_9 H (fdNext w v now) ⟨hw.addrs,hv,hvw,hw.base,hw.basew⟩ now m1 (hvm h1) a0 a1 a2 a3 a4 a6 a7 a8 lo
 have hpb:(fdNext w v now).base = w.base:=rfl
 have hps:(fdNext w v now).sent = v:=rfl
 simp only [hpb,hps] at push
 by_cases h4:w.upon = 0
 · cases h5:vwMay w.base with
   | false =>
    rw [h5] at n3
    refine ⟨w,[],⟨v,e,hO,.inl ⟨by simp [stopT,h1,h2,h3,h4,h5],rfl,rfl⟩⟩,hw,.inl ⟨rfl,rfl,fun a0 a1 a2 a3 a4 lo=>?_⟩⟩
    rw [Sm_ref ft215 fv215]
    simp (decide:=true) [Bd_mk,r215,n1',n3,y22,y6,h1,h2,h3,h4,fillsE,openA,opDE_call,noTr,V.under,V.under.go,under_agD]
   | true =>
    rw [h5] at n3
    by_cases h6:w.seq >= 4611686018427387903
    case pos =>
     refine ⟨w,[],⟨v,e,hO,.inl ⟨by simp [stopT,h1,h2,h3,h4,h5,h6],rfl,rfl⟩⟩,hw,.inl ⟨rfl,rfl,fun a0 a1 a2 a3 a4 lo=>?_⟩⟩
     rw [Sm_ref ft215 fv215]
     simp (decide:=true) [Bd_mk,r215,n1',n3,y22,y6,h1,h2,h3,h4,h6,fillsE,openA,opDE_call,noTr,V.under,V.under.go,under_agD]
    have hnx0:({ w with seq:=IntKind.wrap .u64 (w.seq + 1),sent:=v,out:=1,since:=now,upon:=0 }:Fd) = fdNext w v now:=by unfold fdNext; rw [← h4]
    refine go (by simp [stopT,h1,h2,h3,h4,h5,h6]) fun a0 a1 a2 a3 a4 lo=>⟨.cells (c.c.map .d),.cells ((fdNext w v now).c.map .d),.cells (v.c.map .d),.cells ((diffN w.base v).c.map .d),?_⟩
    rw [Sm_ref ft215 fv215]
    simp (decide:=true) [Bd_mk,r215,n1',n3,y22,y6,h1,h2,h3,h4,h6,hnx0,push h5,fillsE,openA,opDE_call,noTr,V.under,V.under.go,under_agD]
    try rfl
 · cases h7:w.base.same v with
   | true =>
    rw [h7] at n2
    refine ⟨w,[],⟨v,e,hO,.inl ⟨by simp [stopT,h1,h2,h3,h4,h7],rfl,rfl⟩⟩,hw,.inl ⟨rfl,rfl,fun a0 a1 a2 a3 a4 lo=>?_⟩⟩
    rw [Sm_ref ft215 fv215]
    simp (decide:=true) [Bd_mk,r215,n1',n2,y22,y6,h1,h2,h3,h4,fillsE,openA,opDE_call,noTr,V.under,V.under.go,under_agD]
   | false =>
    rw [h7] at n2
    cases h5:vwMay w.base with
    | false =>
     rw [h5] at n3
     refine ⟨w,[],⟨v,e,hO,.inl ⟨by simp [stopT,h1,h2,h3,h4,h5,h7],rfl,rfl⟩⟩,hw,.inl ⟨rfl,rfl,fun a0 a1 a2 a3 a4 lo=>?_⟩⟩
     rw [Sm_ref ft215 fv215]
     simp (decide:=true) [Bd_mk,r215,n1',n2,n3,y22,y6,h1,h2,h3,h4,fillsE,openA,opDE_call,noTr,V.under,V.under.go,under_agD]
    | true =>
     rw [h5] at n3
     by_cases h6:w.seq >= 4611686018427387903
     case pos =>
      refine ⟨w,[],⟨v,e,hO,.inl ⟨by simp [stopT,h1,h2,h3,h4,h5,h6,h7],rfl,rfl⟩⟩,hw,.inl ⟨rfl,rfl,fun a0 a1 a2 a3 a4 lo=>?_⟩⟩
      rw [Sm_ref ft215 fv215]
      simp (decide:=true) [Bd_mk,r215,n1',n2,n3,y22,y6,h1,h2,h3,h4,h6,fillsE,openA,opDE_call,noTr,V.under,V.under.go,under_agD]
     refine go (by simp [stopT,h1,h2,h3,h4,h5,h6,h7]) fun a0 a1 a2 a3 a4 lo=>⟨.cells (c.c.map .d),.cells ((fdNext w v now).c.map .d),.cells (v.c.map .d),.cells ((diffN w.base v).c.map .d),?_⟩
     rw [Sm_ref ft215 fv215]
     simp (decide:=true) [Bd_mk,r215,n1',n2,n3,y22,y6,h1,h2,h3,h4,h6,hnx,push h5,fillsE,openA,opDE_call,noTr,V.under,V.under.go,under_agD]
     try rfl
end
end Go.Proofs.YtegfnefobbgkjaaGreat
namespace Go.Proofs.YtegfnefobbgkjaaGreat
theorem Pol.same_own' (p:Pol):Pol.same p p.own = true:=by
 have h:all2 Rule.same p.rules.l (p.rules.l.map Rule.own) = true:=by
  generalize p.rules.l = l
  induction l with
  | nil=>rfl
  | cons r l ih =>
   simp only [List.map_cons,all2,ih,Bool.and_true]
   exact Rule.same_refl r
 simp [Pol.same,Pol.own,h]
theorem wrap_u64' (x:Int):IntKind.wrap .u64 x = x % 18446744073709551616:=by simp [IntKind.wrap,IntKind.bits,IntKind.signed]
theorem Fd.same_own (x:Fd):x.same x.own = true:=by
 have h:∀ l:List Pol,all2 Pol.same l (l.map Pol.own) = true:=fun l=>by
  induction l with
  | nil=>rfl
  | cons p l ih=>simp only [List.map_cons,all2,Pol.same_own',ih,Bool.and_self]
 have hv:∀ v:Vw,v.same v.own = true:=fun v=>by
  simp [Vw.same,Vw.own,h,all2_refl (fun x=>Pod.eqB_iff.2 rfl),all2_refl (fun x=>Svc.eqB_iff.2 rfl),all2_refl (fun x=>Way.eqB_iff.2 rfl),all2_refl (f:=fun x y:Int=>x == y) (fun x=>by simp)]
 simp [Fd.same,Fd.own,hv,all2_refl (f:=fun x y:Int=>x == y) (fun x=>by simp)]
@[simp] theorem Sbs.s0_1 {x:Sbs}:sub x.c 0 1 = some [u64 x.inc]:=(rfl)
@[simp] theorem Sbs.s1_1 {x:Sbs}:sub x.c 1 1 = some [u64 x.seq]:=(rfl)
@[simp] theorem Sbs.s2_1 {x:Sbs}:sub x.c 2 1 = some [x.addrs.d u32C]:=(rfl)
@[simp] theorem Ack.s0_1 {x:Ack}:sub x.c 0 1 = some [u64 x.life]:=(rfl)
@[simp] theorem Ack.s1_1 {x:Ack}:sub x.c 1 1 = some [u64 x.inc]:=(rfl)
@[simp] theorem Ack.s2_1 {x:Ack}:sub x.c 2 1 = some [u64 x.seq]:=(rfl)
@[simp] theorem Ack.s3_1 {x:Ack}:sub x.c 3 1 = some [i64 x.ok]:=(rfl)
@[simp] theorem Fd.own_node {x:Fd}:x.own.node = x.node:=(rfl)
@[simp] theorem Fd.own_life {x:Fd}:x.own.life = x.life:=(rfl)
@[simp] theorem Fd.own_inc {x:Fd}:x.own.inc = x.inc:=(rfl)
@[simp] theorem Fd.own_asked {x:Fd}:x.own.asked = x.asked:=(rfl)
@[simp] theorem Fd.own_seq {x:Fd}:x.own.seq = x.seq:=(rfl)
@[simp] theorem Fd.own_out {x:Fd}:x.own.out = x.out:=(rfl)
@[simp] theorem Fd.own_since {x:Fd}:x.own.since = x.since:=(rfl)
@[simp] theorem Fd.own_upon {x:Fd}:x.own.upon = x.upon:=(rfl)
@[simp] theorem Fd.own_epochs {x:Fd}:x.own.epochs = x.epochs:=(rfl)
@[simp] theorem Fd.own_addrs {x:Fd}:x.own.addrs = x.addrs:=(rfl)
def subMay (s:Sbs):Bool:=cntMay s.inc && (cntMay s.seq && scopeMay ⟨2,s.addrs⟩)
def fdAnew (f:Fd) (s:Sbs):Fd:={ f.own with inc:=s.inc,seq:=0,upon:=0,out:=0,epochs:=0,sent:=vw0,base:=vw0 }
def fdAsked (f:Fd) (s:Sbs):Fd:={ f with asked:=s.seq,addrs:=s.addrs }
def Subs (c:Cfg) (now:Int) (f:Fd) (s:Sbs) (f':Fd) (l:List Psh):Prop :=
 ((subMay s = false \/ (¬ s.inc > f.inc /\ ¬ (s.inc = f.inc /\ s.seq > f.asked))) /\ f' = f.own /\ l = []) ∨
 (subMay s = true /\ s.inc > f.inc /\ GoOn c now (fdAsked (fdAnew f s) s) f' l) ∨
 (subMay s = true /\ s.inc = f.inc /\ s.seq > f.asked /\ GoOn c now (fdAsked f.own s) f' l)
def fdGood (f:Fd):Fd:={ f.own with out:=0,upon:=f.seq,base:=f.own.sent.own,epochs:=if f.own.sent.epoch > f.own.epochs then f.own.sent.epoch else f.own.epochs }
def fdBad (f:Fd):Fd:={ f.own with out:=0,upon:=0,base:=vw0 }
def Ackd (c:Cfg) (now:Int) (f:Fd) (a:Ack) (f':Fd) (l:List Psh):Prop :=
 ((¬ (a.life = f.life /\ a.inc = f.inc /\ a.seq = f.seq /\ f.out = 1) \/ (a.ok ≠ 1 /\ a.ok ≠ 0)) /\ f' = f.own /\ l = []) ∨
 (a.life = f.life /\ a.inc = f.inc /\ a.seq = f.seq /\ f.out = 1 /\ a.ok = 1 /\ GoOn c now (fdGood f) f' l) ∨
 (a.life = f.life /\ a.inc = f.inc /\ a.seq = f.seq /\ f.out = 1 /\ a.ok = 0 /\ GoOn c now (fdBad f) f' l)
def pushT (w:Fd):List Psh:=if (vwMay w.base && vwMay w.sent) = true then [pushOf w (diffN w.base w.sent)] else []
def idleT (f:Fd) (now:Int):Bool:=!(f.out == 1) || (decide (now < f.since) || decide (IntKind.wrap .u64 (now - f.since) < 3))
def fdTick (f:Fd) (now:Int):Fd:={ f.own with since:=now }
def Tckd (now:Int) (f f':Fd) (l:List Psh):Prop:=(idleT f now = true /\ f' = f.own /\ l = []) \/ (idleT f now = false /\ f' = fdTick f now /\ l = pushT f')
section
variable {E:Calls'} (H:FeedH E)
theorem F216 (n:Int) (h:Hp):Sm E TF valF 20 [.d (u64 n)] h = some (bl (cntMay n),h):=by
 rw [Sm_v ft216 fv216]
 by_cases c1:n >= 1
 · by_cases c2:n <= 4611686018427387903
   · simp (decide:=true) [Bd_mk,r216,c1,c2,cntMay]
   · simp (decide:=true) [Bd_mk,r216,c1,c2,cntMay]
 · simp (decide:=true) [Bd_mk,r216,c1,cntMay]
include H in
theorem F74 (s:Sbs) (hs:short s.addrs) (h:Hp):Sm E TF valF 8 [ag s.c] h = some (bl (subMay s),h):=by
 have n1:=fun h=>F216 (E:=E) s.inc h
 have n2:=fun h=>F216 (E:=E) s.seq h
 have n3:∀ h,Sm E TF valF 21 [.agg [.d (i64 2),.d (s.addrs.d u32C)]] h = some (bl (scopeMay ⟨2,s.addrs⟩),h):=fun h=>by rw [Sm_ext ft54]; exact H.h54 ⟨2,s.addrs⟩ hs h
 unfold subMay
 rw [Sm_v ft74 fv74]
 generalize cntMay s.inc = A at *
 generalize cntMay s.seq = B at *
 generalize scopeMay ⟨2,s.addrs⟩ = C at *
 cases A
 · simp (decide:=true) [Bd_mk,r74,n1,fillsE,openA,opDE_call,noTr,opsA_if]
 · cases B
   · simp (decide:=true) [Bd_mk,r74,n1,n2,fillsE,openA,opDE_call,noTr,opsA_if]
   · simp (decide:=true) [Bd_mk,r74,n1,n2,n3,fillsE,openA,opDE_call,noTr,opsA_if]
theorem d10 (a0 a1 a2 a3 a4 a5 a6 a7 a8 a9:Blk) (p:Psh) (lo:Nat):dataV ⟨[a0,a1,a2,a3,a4,a5,a6,a7,a8,a9,.cells (p.c.map .d)],lo⟩ 8 (.row 10 0 1 (some 1) 14) = some (pushD [p]) :=
 dataV_row (h:=⟨[a0,a1,a2,a3,a4,a5,a6,a7,a8,a9,.cells (p.c.map .d)],lo⟩) (k:=7) (b:=10) (n:=1) (cap:=some 1) (z:=14) (es:=[p.c]) (rest:=[]) (by simp [flat]) rfl rfl
include H in
set_option maxHeartbeats 2000000 in
theorem F73 (f:Fd) (hf:FdOk f) (c:Cfg) (hc:CfgOk c) (now:Int) (s:Sbs) (hs:short s.addrs):∃ f' l,Subs c now f s f' l /\ FdOk f' /\ ∀ h,Sm E TF valF 7 [f.v,c.v,.d (u64 now),ag s.c] h = some (.tup [f'.v,.d (pushD l)],h):=by
 have n1:=fun a0 a1 a2 a3 lo=>W214_4 H f hf now a0 a1 a2 a3 lo
 have n2:=fun h=>F74 H s hs h
 have n3:=fun h=>S_cloneV (E:=E) (T:=TF) (val:=valF) (cells:=u32C) ft154 fv154 (by decide) (by decide) (fun _=>rfl) hs h
 have y22:=z22
 have nil0:V.d (pushD []) = .d (.slice true []):=rfl
 have hfo:=Fd.own_ok hf
 have skip:∀ hskip:(subMay s = false \/ (¬ s.inc > f.inc /\ ¬ (s.inc = f.inc /\ s.seq > f.asked))),(∀ h,Sm E TF valF 7 [f.v,c.v,.d (u64 now),ag s.c] h = some (.tup [f.own.v,.d (.slice true [])],h)) →
  ∃ f' l,Subs c now f s f' l /\ FdOk f' /\ ∀ h,Sm E TF valF 7 [f.v,c.v,.d (u64 now),ag s.c] h = some (.tup [f'.v,.d (pushD l)],h):=fun hskip k=>⟨f.own,[],.inl ⟨hskip,rfl,rfl⟩,hfo,k⟩
 cases hm:subMay s with
 | false =>
  rw [hm] at n2
  refine skip (.inl hm) fun h=>?_
  rw [Sm_v ft73 fv73]
  simp (decide:=true) [Bd_mk,r73,n1,n2,y22,V.under]
 | true =>
  rw [hm] at n2
  by_cases c1:s.inc > f.inc
  · obtain ⟨f',l,hg,hf',hr⟩:=G215 H (fdAsked (fdAnew f s) s) ⟨hs,vw0_ok,(fun p hp=>by cases hp),vw0_ok,fun p hp=>by cases hp⟩ c hc now
    refine ⟨f',l,.inr (.inl ⟨hm,c1,hg⟩),hf',fun h=>?_⟩
    have e1:({ f with inc:=s.inc,seq:=0,upon:=0,out:=0,epochs:=0,sent:=vw0,base:=vw0,asked:=s.seq,addrs:=s.addrs }:Fd) = fdAsked (fdAnew f s) s:=rfl
    have q7:∀ x:Fd,put (Fw x now) 7 [V.d (.int .u64 0),.d (.slice true []),.d (.slice true []),.d (.slice true []),.d (.slice true []),.d (.slice true [])] = some (Fw { x with sent:=vw0 } now):=fun _=>rfl
    have q14:∀ x:Fd,put (Fw x now) 14 [V.d (.int .u64 0),.d (.slice true []),.d (.slice true []),.d (.slice true []),.d (.slice true []),.d (.slice true [])] = some (Fw { x with base:=vw0 } now):=fun _=>rfl
    rcases hr with ⟨rfl,rfl,hr⟩ | ⟨p,rfl,hr⟩
    · rw [Sm_v ft73 fv73]
      simp (decide:=true) [Bd_mk,r73,n1,n2,n3,y22,q7,q14,c1,e1,hr,fillsE,openA,opDE_call,noTr,V.under]
      rfl
    · obtain ⟨b6,b7,b8,b9,hr⟩:=hr (.cells (f.c.map .d)) (.cells (c.c.map .d)) (.cells (s.c.map .d)) (.cells fdZ) (.cells (f.own.c.map .d)) 0
      simp only [fdZ] at hr
      rw [Sm_v ft73 fv73]
      simp (decide:=true) [Bd_mk,r73,n1,n2,n3,y22,q7,q14,c1,e1,hr,fillsE,openA,opDE_call,noTr,V.under,d10]
  · by_cases c2:s.inc = f.inc
    · by_cases c3:s.seq > f.asked
      · obtain ⟨f',l,hg,hf',hr⟩:=G215 H (fdAsked f.own s) ⟨hs,hfo.sent,hfo.sentw,hfo.base,hfo.basew⟩ c hc now
        refine ⟨f',l,.inr (.inr ⟨hm,c2,c3,hg⟩),hf',fun h=>?_⟩
        have e1:({ f with asked:=s.seq,addrs:=s.addrs,sent:=f.own.sent,base:=f.own.base }:Fd) = fdAsked f.own s:=rfl
        rcases hr with ⟨rfl,rfl,hr⟩ | ⟨p,rfl,hr⟩
        · rw [Sm_v ft73 fv73]
          simp (decide:=true) [Bd_mk,r73,n1,n2,n3,y22,c1,c2,c3,e1,hr,openA,opDE_call,noTr,V.under]
          rfl
        · obtain ⟨b6,b7,b8,b9,hr⟩:=hr (.cells (f.c.map .d)) (.cells (c.c.map .d)) (.cells (s.c.map .d)) (.cells fdZ) (.cells (f.own.c.map .d)) 0
          simp only [fdZ] at hr
          rw [Sm_v ft73 fv73]
          simp (decide:=true) [Bd_mk,r73,n1,n2,n3,y22,c1,c2,c3,e1,hr,openA,opDE_call,noTr,V.under,d10]
      · refine skip (.inr ⟨c1,fun hh=>c3 hh.2⟩) fun h=>?_
        rw [Sm_v ft73 fv73]
        simp (decide:=true) [Bd_mk,r73,n1,n2,y22,c1,c2,c3,V.under,opsA_if]
    · refine skip (.inr ⟨c1,fun hh=>c2 hh.1⟩) fun h=>?_
      rw [Sm_v ft73 fv73]
      simp (decide:=true) [Bd_mk,r73,n1,n2,y22,c1,c2,V.under,opsA_if]
include H in
set_option maxHeartbeats 2000000 in
theorem F76 (f:Fd) (hf:FdOk f) (c:Cfg) (hc:CfgOk c) (now:Int) (a:Ack):∃ f' l,Ackd c now f a f' l /\ FdOk f' /\ ∀ h,Sm E TF valF 10 [f.v,c.v,.d (u64 now),ag a.c] h = some (.tup [f'.v,.d (pushD l)],h):=by
 have n1:=fun a0 a1 a2 a3 lo=>W214_4 H f hf now a0 a1 a2 a3 lo
 have n3:∀ h,Sm E TF valF 24 [f.own.sent.v] h = some (f.own.sent.own.v,h):=fun h=>by rw [Sm_ext ft66]; exact H.h66 _ (Fd.own_ok hf).sent h
 have y22:=z22
 have hfo:=Fd.own_ok hf
 have skip:∀ hskip:(¬ (a.life = f.life /\ a.inc = f.inc /\ a.seq = f.seq /\ f.out = 1) \/ (a.ok ≠ 1 /\ a.ok ≠ 0)),(∀ h,Sm E TF valF 10 [f.v,c.v,.d (u64 now),ag a.c] h = some (.tup [f.own.v,.d (.slice true [])],h)) →
  ∃ f' l,Ackd c now f a f' l /\ FdOk f' /\ ∀ h,Sm E TF valF 10 [f.v,c.v,.d (u64 now),ag a.c] h = some (.tup [f'.v,.d (pushD l)],h):=fun hskip k=>⟨f.own,[],.inl ⟨hskip,rfl,rfl⟩,hfo,k⟩
 by_cases c1:a.life = f.life
 case neg =>
  refine skip (.inl fun hh=>c1 hh.1) fun h=>?_
  rw [Sm_v ft76 fv76]
  simp (decide:=true) [Bd_mk,r76,n1,y22,c1,V.under,opsA_if]
 by_cases c2:a.inc = f.inc
 case neg =>
  refine skip (.inl fun hh=>c2 hh.2.1) fun h=>?_
  rw [Sm_v ft76 fv76]
  simp (decide:=true) [Bd_mk,r76,n1,y22,c1,c2,V.under,opsA_if]
 by_cases c3:a.seq = f.seq
 case neg =>
  refine skip (.inl fun hh=>c3 hh.2.2.1) fun h=>?_
  rw [Sm_v ft76 fv76]
  simp (decide:=true) [Bd_mk,r76,n1,y22,c1,c2,c3,V.under,opsA_if]
 by_cases c4:f.out = 1
 case neg =>
  refine skip (.inl fun hh=>c4 hh.2.2.2) fun h=>?_
  rw [Sm_v ft76 fv76]
  simp (decide:=true) [Bd_mk,r76,n1,y22,c1,c2,c3,c4,V.under,opsA_if]
 by_cases c5:a.ok = 1
 · have hso:=Vw.own_ok hfo.sent hfo.sentw
   obtain ⟨f',l,hg,hf',hr⟩:=G215 H (fdGood f) ⟨hfo.addrs,hfo.sent,hfo.sentw,hso.1,hso.2⟩ c hc now
   refine ⟨f',l,.inr (.inl ⟨c1,c2,c3,c4,c5,hg⟩),hf',fun h=>?_⟩
   have e1:({ f with out:=0,upon:=f.seq,sent:=f.own.sent,base:=f.own.sent.own,epochs:=if f.epochs < f.own.sent.epoch then f.own.sent.epoch else f.epochs }:Fd) = fdGood f:=rfl
   have hmx:∀ (ev:X -> V) (h:Hp) (x y:Int),ev (.t 81) = .d (u64 x) -> ev (.t 87) = .d (u64 y) -> opDE (Sm E TF valF) (.minmax true [.t 81,.t 87]) ev h = some (.d (u64 (if x < y then y else x)),h,⟨false,false,[],[],h.bs.length,h.bs.length,0⟩):=fun ev h x y hx hy=>by
    have hk:okV (.d (u64 x)) = true /\ okV (.d (u64 y)) = true:=⟨rfl,rfl⟩
    simp only [opDE,opE,List.all_cons,List.all_nil,hx,hy,hk.1,hk.2,Bool.and_self,if_true,List.map_cons,List.map_nil,minmaxM]
    by_cases hxy:y > x
    · have hxy':x < y:=hxy
      simp [hxy',minmaxM,needE,writeE]
    · have hxy':¬ x < y:=hxy
      simp [hxy',minmaxM,needE,writeE]
   rcases hr with ⟨rfl,rfl,hr⟩ | ⟨p,rfl,hr⟩
   · rw [Sm_v ft76 fv76]
     simp (decide:=true) [Bd_mk,r76,n1,n3,y22,c1,c2,c3,c4,c5,e1,hmx,hr,openA,opDE_call,noTr,V.under,opsA_if]
     rfl
   · obtain ⟨b6,b7,b8,b9,hr⟩:=hr (.cells (f.c.map .d)) (.cells (c.c.map .d)) (.cells (a.c.map .d)) (.cells fdZ) (.cells (f.own.c.map .d)) 0
     simp only [fdZ] at hr
     rw [Sm_v ft76 fv76]
     simp (decide:=true) [Bd_mk,r76,n1,n3,y22,c1,c2,c3,c4,c5,e1,hmx,hr,openA,opDE_call,noTr,V.under,d10,opsA_if]
 · by_cases c6:a.ok = 0
   · obtain ⟨f',l,hg,hf',hr⟩:=G215 H (fdBad f) ⟨hfo.addrs,hfo.sent,hfo.sentw,vw0_ok,fun p hp=>by cases hp⟩ c hc now
     refine ⟨f',l,.inr (.inr ⟨c1,c2,c3,c4,c6,hg⟩),hf',fun h=>?_⟩
     have e1:({ f with out:=0,upon:=0,sent:=f.own.sent,base:=vw0 }:Fd) = fdBad f:=rfl
     have q14:∀ x:Fd,put (Fw x now) 14 [V.d (.int .u64 0),.d (.slice true []),.d (.slice true []),.d (.slice true []),.d (.slice true []),.d (.slice true [])] = some (Fw { x with base:=vw0 } now):=fun _=>rfl
     rcases hr with ⟨rfl,rfl,hr⟩ | ⟨p,rfl,hr⟩
     · rw [Sm_v ft76 fv76]
       simp (decide:=true) [Bd_mk,r76,n1,y22,q14,c1,c2,c3,c4,c5,c6,e1,hr,fillsE,openA,opDE_call,noTr,V.under,opsA_if]
       rfl
     · obtain ⟨b6,b7,b8,b9,hr⟩:=hr (.cells (f.c.map .d)) (.cells (c.c.map .d)) (.cells (a.c.map .d)) (.cells fdZ) (.cells (f.own.c.map .d)) 0
       simp only [fdZ] at hr
       rw [Sm_v ft76 fv76]
       simp (decide:=true) [Bd_mk,r76,n1,y22,q14,c1,c2,c3,c4,c5,c6,e1,hr,fillsE,openA,opDE_call,noTr,V.under,d10,opsA_if]
   · refine skip (.inr ⟨c5,c6⟩) fun h=>?_
     rw [Sm_v ft76 fv76]
     simp (decide:=true) [Bd_mk,r76,n1,y22,c1,c2,c3,c4,c5,c6,V.under,opsA_if]
theorem d5 (a0 a1 a2 a3 a4:Blk) (p:Psh) (lo:Nat):dataV ⟨[a0,a1,a2,a3,a4,.cells (p.c.map .d)],lo⟩ 8 (.row 5 0 1 (some 1) 14) = some (pushD [p]) :=
 dataV_row (h:=⟨[a0,a1,a2,a3,a4,.cells (p.c.map .d)],lo⟩) (k:=7) (b:=5) (n:=1) (cap:=some 1) (z:=14) (es:=[p.c]) (rest:=[]) (by simp [flat]) rfl rfl
include H in
set_option maxHeartbeats 2000000 in
theorem F77 (f:Fd) (hf:FdOk f) (now:Int):∃ f' l,Tckd now f f' l /\ FdOk f' /\ ∀ h,Sm E TF valF 11 [f.v,.d (u64 now)] h = some (.tup [f'.v,.d (pushD l)],h):=by
 have n1:=fun a0 a1 lo=>W214_2 H f hf now a0 a1 lo
 have y22:=z22
 have hfo:=Fd.own_ok hf
 have skip:∀ hi:idleT f now = true,(∀ h,Sm E TF valF 11 [f.v,.d (u64 now)] h = some (.tup [f.own.v,.d (.slice true [])],h)) -> ∃ f' l,Tckd now f f' l /\ FdOk f' /\ ∀ h,Sm E TF valF 11 [f.v,.d (u64 now)] h = some (.tup [f'.v,.d (pushD l)],h) :=
  fun hi k=>⟨f.own,[],.inl ⟨hi,rfl,rfl⟩,hfo,k⟩
 by_cases c1:f.out = 1
 case neg =>
  refine skip (by simp [idleT,c1]) fun h=>?_
  rw [Sm_v ft77 fv77]
  simp (decide:=true) [Bd_mk,r77,n1,y22,c1,V.under,opsA_if]
 by_cases c2:now < f.since
 case pos =>
  refine skip (by simp [idleT,c1,c2]) fun h=>?_
  rw [Sm_v ft77 fv77]
  simp (decide:=true) [Bd_mk,r77,n1,y22,c1,c2,V.under,opsA_if]
 by_cases c3:IntKind.wrap .u64 (now - f.since) < 3
 case pos =>
  refine skip (by simp [idleT,c1,c2,c3]) fun h=>?_
  rw [Sm_v ft77 fv77]
  simp (decide:=true) [Bd_mk,r77,n1,y22,c1,c2,c3,V.under,opsA_if]
 have e1:({ f with since:=now,sent:=f.own.sent,base:=f.own.base,out:=1 }:Fd) = fdTick f now:=by unfold fdTick; rw [← c1]; rfl
 have hok:FdOk (fdTick f now):=⟨hfo.addrs,hfo.sent,hfo.sentw,hfo.base,hfo.basew⟩
 refine ⟨fdTick f now,pushT (fdTick f now),.inr ⟨by simp [idleT,c1,c2,c3],rfl,rfl⟩,hok,fun h=>?_⟩
 cases hm:(vwMay (fdTick f now).base && vwMay (fdTick f now).sent) with
 | false =>
  have n2:=fun (a0 a1 a2:Blk) lo=>P217n H (fdTick f now) hok now hm a0 a1 a2 lo
  have:pushT (fdTick f now) = []:=by rw [pushT,hm]; rfl
  rw [this,Sm_v ft77 fv77]
  simp (decide:=true) [Bd_mk,r77,n1,n2,e1,y22,c1,c2,c3,V.under,opsA_if]
  rfl
 | true =>
  have hm':=hm
  simp only [Bool.and_eq_true] at hm'
  have n2:=fun (a0 a1 a2:Blk) lo=>P217_4 H (fdTick f now) hok now hm'.1 hm'.2 a0 a1 a2 lo
  have:pushT (fdTick f now) = [pushOf (fdTick f now) (diffN (fdTick f now).base (fdTick f now).sent)]:=by rw [pushT,hm]; rfl
  rw [this,Sm_v ft77 fv77]
  simp (decide:=true) [Bd_mk,r77,n1,n2,e1,y22,c1,c2,c3,V.under,opsA_if,d5]
include H in
theorem F75 (a b:Fd) (ha:FdOk a) (h:Hp):Sm E TF valF 9 [a.v,b.v] h = some (bl (a.same b),h):=by
 have n1:∀ h,Sm E TF valF 22 [.d (a.addrs.d u32C),.d (b.addrs.d u32C)] h = _:=fun h=>(Sm_ext ft133).trans (H.h133 a.addrs b.addrs ha.addrs.lt h)
 have n2:∀ h,Sm E TF valF 23 [a.sent.v,b.sent.v] h = _:=fun h=>(Sm_ext ft60).trans (H.h60 a.sent b.sent ha.sent h)
 have n3:∀ h,Sm E TF valF 23 [a.base.v,b.base.v] h = _:=fun h=>(Sm_ext ft60).trans (H.h60 a.base b.base ha.base h)
 rw [Sm_v ft75 fv75]
 unfold Fd.same
 generalize all2 (fun x y:Int=>x == y) a.addrs.l b.addrs.l = A1 at *
 generalize a.sent.same b.sent = A2 at *
 generalize a.base.same b.base = A3 at *
 cases e1:(a.node == b.node)
 case false=>simp (decide:=true) [Bd_mk,r75,e1]
 cases e2:(a.life == b.life)
 case false=>simp (decide:=true) [Bd_mk,r75,e1,e2]
 cases e3:(a.inc == b.inc)
 case false=>simp (decide:=true) [Bd_mk,r75,e1,e2,e3]
 cases e4:(a.asked == b.asked)
 case false=>simp (decide:=true) [Bd_mk,r75,e1,e2,e3,e4]
 cases e5:(a.seq == b.seq)
 case false=>simp (decide:=true) [Bd_mk,r75,e1,e2,e3,e4,e5]
 cases e6:(a.out == b.out)
 case false=>simp (decide:=true) [Bd_mk,r75,e1,e2,e3,e4,e5,e6]
 cases e7:(a.upon == b.upon)
 case false=>simp (decide:=true) [Bd_mk,r75,e1,e2,e3,e4,e5,e6,e7]
 cases e8:(a.since == b.since)
 case false=>simp (decide:=true) [Bd_mk,r75,e1,e2,e3,e4,e5,e6,e7,e8]
 cases e9:(a.epochs == b.epochs)
 case false=>simp (decide:=true) [Bd_mk,r75,e1,e2,e3,e4,e5,e6,e7,e8,e9]
 cases A1
 case false=>simp (decide:=true) [Bd_mk,r75,e1,e2,e3,e4,e5,e6,e7,e8,e9,n1]
 cases A2
 case false=>simp (decide:=true) [Bd_mk,r75,e1,e2,e3,e4,e5,e6,e7,e8,e9,n1,n2]
 cases A3 <;> simp (decide:=true) [Bd_mk,r75,e1,e2,e3,e4,e5,e6,e7,e8,e9,n1,n2,n3]
end
theorem GoOn.inc {c:Cfg} {now:Int} {w w':Fd} {l:List Psh} (h:GoOn c now w w' l):w'.inc = w.inc /\ w'.asked = w.asked /\ w'.life = w.life:=by
 obtain ⟨v,e,_,⟨_,rfl,_⟩ | ⟨_,rfl,_⟩⟩:=h <;> exact ⟨rfl,rfl,rfl⟩
theorem GoOn.seq {c:Cfg} {now:Int} {w w':Fd} {l:List Psh} (h:GoOn c now w w' l) (ho:w.out = 0):w'.out = 0 \/ w'.seq ≠ w.seq:=by
 obtain ⟨v,e,_,⟨_,rfl,_⟩ | ⟨_,rfl,_⟩⟩:=h
 · exact .inl ho
 · right
   show IntKind.wrap .u64 (w.seq + 1) ≠ w.seq
   rw [wrap_u64']; omega
theorem Subs.again {c:Cfg} {now:Int} {f f' f'':Fd} {s:Sbs} {l l':List Psh} (h:Subs c now f s f' l) (k:Subs c now f' s f'' l') (hm:subMay s = true):f'' = f'.own /\ l' = []:=by
 have key:¬ s.inc > f'.inc /\ ¬ (s.inc = f'.inc /\ s.seq > f'.asked):=by
  rcases h with ⟨h1 | h1,rfl,_⟩ | ⟨_,h1,hg⟩ | ⟨_,h1,h2,hg⟩
  · rw [hm] at h1; cases h1
  · exact h1
  · obtain ⟨a1,a2,_⟩:=hg.inc
    have b1:(fdAsked (fdAnew f s) s).inc = s.inc:=rfl
    have b2:(fdAsked (fdAnew f s) s).asked = s.seq:=rfl
    omega
  · obtain ⟨a1,a2,_⟩:=hg.inc
    have b1:(fdAsked f.own s).inc = f.inc:=rfl
    have b2:(fdAsked f.own s).asked = s.seq:=rfl
    omega
 rcases k with ⟨_,rfl,rfl⟩ | ⟨_,h1,_⟩ | ⟨_,h1,h2,_⟩
 · exact ⟨rfl,rfl⟩
 · exact absurd h1 key.1
 · exact absurd ⟨h1,h2⟩ key.2
theorem Ackd.again {c:Cfg} {now:Int} {f f' f'':Fd} {a:Ack} {l l':List Psh} (h:Ackd c now f a f' l) (k:Ackd c now f' a f'' l'):f'' = f'.own /\ l' = []:=by
 have key:¬ (a.life = f'.life /\ a.inc = f'.inc /\ a.seq = f'.seq /\ f'.out = 1) \/ (a.ok ≠ 1 /\ a.ok ≠ 0):=by
  rcases h with ⟨h1,rfl,_⟩ | ⟨h1,h2,h3,h4,h5,hg⟩ | ⟨h1,h2,h3,h4,h5,hg⟩
  · exact h1
  · left
    rcases hg.seq rfl with q | q
    · rintro ⟨_,_,_,h9⟩; omega
    · rintro ⟨_,_,h9,_⟩
      have:(fdGood f).seq = f.seq:=rfl
      exact q (by rw [this,← h9,h3])
  · left
    rcases hg.seq rfl with q | q
    · rintro ⟨_,_,_,h9⟩; omega
    · rintro ⟨_,_,h9,_⟩
      have:(fdBad f).seq = f.seq:=rfl
      exact q (by rw [this,← h9,h3])
 rcases k with ⟨_,rfl,rfl⟩ | ⟨h1,h2,h3,h4,h5,_⟩ | ⟨h1,h2,h3,h4,h5,_⟩
 · exact ⟨rfl,rfl⟩
 · rcases key with q | q
   · exact absurd ⟨h1,h2,h3,h4⟩ q
   · exact absurd h5 q.1
 · rcases key with q | q
   · exact absurd ⟨h1,h2,h3,h4⟩ q
   · exact absurd h5 q.2
theorem Tckd.again {now:Int} {f f' f'':Fd} {l l':List Psh} (h:Tckd now f f' l) (k:Tckd now f' f'' l'):f'' = f'.own /\ l' = []:=by
 have key:idleT f' now = true:=by
  rcases h with ⟨h1,rfl,_⟩ | ⟨h1,rfl,_⟩
  · exact h1
  · have e:IntKind.wrap .u64 (now - now) = 0:=by rw [Int.sub_self]; decide
    have e0:IntKind.wrap .u64 0 = 0:=by decide
    simp [idleT,fdTick,e0]
 rcases k with ⟨_,rfl,rfl⟩ | ⟨h1,_⟩
 · exact ⟨rfl,rfl⟩
 · rw [key] at h1; cases h1
end Go.Proofs.YtegfnefobbgkjaaGreat
namespace Go.Proofs.YtegfnefobbgkjaaGreat
structure AsideH (E:Calls'):Prop where
 h71:∀ f:Fd,FdOk f -> ∃ b:Bool,∀ h,E 4 [f.v] h = some (bl b,h)
 h31:∀ c:Cfg,c.ok -> ∃ b:Bool,∀ h,E 5 [c.v] h = some (bl b,h)
 h72:∀ h,E 6 [] h = some (bl true,h)
 h73:∀ f:Fd,FdOk f -> ∀ c:Cfg,CfgOk c -> ∀ now (s:Sbs),short s.addrs -> ∃ f' l,Subs c now f s f' l /\ FdOk f' /\ ∀ h,E 7 [f.v,c.v,.d (u64 now),ag s.c] h = some (.tup [f'.v,.d (pushD l)],h)
 h74:∀ s:Sbs,short s.addrs -> ∀ h,E 8 [ag s.c] h = some (bl (subMay s),h)
 h75:∀ a b:Fd,FdOk a -> ∀ h,E 9 [a.v,b.v] h = some (bl (a.same b),h)
 h76:∀ f:Fd,FdOk f -> ∀ c:Cfg,CfgOk c -> ∀ now (a:Ack),∃ f' l,Ackd c now f a f' l /\ FdOk f' /\ ∀ h,E 10 [f.v,c.v,.d (u64 now),ag a.c] h = some (.tup [f'.v,.d (pushD l)],h)
 h77:∀ f:Fd,FdOk f -> ∀ now,∃ f' l,Tckd now f f' l /\ FdOk f' /\ ∀ h,E 11 [f.v,.d (u64 now)] h = some (.tup [f'.v,.d (pushD l)],h)
def TL9:FuncId -> Option QF:=lookT [(3,r9)]
def valL9 (f:FuncId):Bool:=[3].any fun n=>Nat.beq n f
theorem lt9:TL9 3 = some r9:=by kernel_rfl
theorem lv9:valL9 3 = true:=by kernel_rfl
theorem l9_71:TL9 4 = none:=by kernel_rfl
theorem l9_31:TL9 5 = none:=by kernel_rfl
theorem l9_72:TL9 6 = none:=by kernel_rfl
theorem l9_73:TL9 7 = none:=by kernel_rfl
theorem l9_74:TL9 8 = none:=by kernel_rfl
theorem l9_75:TL9 9 = none:=by kernel_rfl
theorem l9_76:TL9 10 = none:=by kernel_rfl
theorem l9_77:TL9 11 = none:=by kernel_rfl
theorem R9 {E:Calls'} (H:AsideH E) (f:Fd) (hf:FdOk f) (c:Cfg) (hc:CfgOk c) (now:Int) (s:Sbs) (hs:short s.addrs) (a:Ack) (h:Hp) :
 Sm E TL9 valL9 3 [f.v,c.v,.d (u64 now),ag s.c,ag a.c] h = some (bl true,h):=by
 obtain ⟨b1,k1⟩:=H.h71 f hf
 obtain ⟨b2,k2⟩:=H.h31 c hc.ok
 obtain ⟨x,l0,px,hx,k3⟩:=H.h73 f hf c hc now s hs
 obtain ⟨y,l,py,hy,k4⟩:=H.h73 x hx c hc now s hs
 obtain ⟨u,m0,pu,hu,k5⟩:=H.h76 f hf c hc now a
 obtain ⟨v,m,pv,hv,k6⟩:=H.h76 u hu c hc now a
 obtain ⟨w,n0,pw,hw,k7⟩:=H.h77 f hf now
 obtain ⟨z,n,pz,hz,k8⟩:=H.h77 w hw now
 obtain ⟨rfl,rfl⟩:=pu.again pv
 obtain ⟨rfl,rfl⟩:=pw.again pz
 have f1:∀ h,Sm E TL9 valL9 4 [f.v] h = some (bl b1,h):=fun h=>(Sm_ext l9_71).trans (k1 h)
 have f2:∀ h,Sm E TL9 valL9 5 [c.v] h = some (bl b2,h):=fun h=>(Sm_ext l9_31).trans (k2 h)
 have f3:∀ h,Sm E TL9 valL9 7 [f.v,c.v,.d (u64 now),ag s.c] h = _:=fun h=>(Sm_ext l9_73).trans (k3 h)
 have f4:∀ h,Sm E TL9 valL9 7 [x.v,c.v,.d (u64 now),ag s.c] h = _:=fun h=>(Sm_ext l9_73).trans (k4 h)
 have f5:∀ h,Sm E TL9 valL9 10 [f.v,c.v,.d (u64 now),ag a.c] h = _:=fun h=>(Sm_ext l9_76).trans (k5 h)
 have f6:∀ h,Sm E TL9 valL9 10 [u.v,c.v,.d (u64 now),ag a.c] h = _:=fun h=>(Sm_ext l9_76).trans (k6 h)
 have f7:∀ h,Sm E TL9 valL9 11 [f.v,.d (u64 now)] h = _:=fun h=>(Sm_ext l9_77).trans (k7 h)
 have f8:∀ h,Sm E TL9 valL9 11 [w.v,.d (u64 now)] h = _:=fun h=>(Sm_ext l9_77).trans (k8 h)
 have f9:∀ h,Sm E TL9 valL9 6 [] h = some (bl true,h):=fun h=>(Sm_ext l9_72).trans (H.h72 h)
 have g1:∀ h,Sm E TL9 valL9 8 [ag s.c] h = some (bl (subMay s),h):=fun h=>(Sm_ext l9_74).trans (H.h74 s hs h)
 have g2:∀ h,Sm E TL9 valL9 9 [u.v,u.own.v] h = some (bl true,h):=fun h=>by rw [Sm_ext l9_75,H.h75 u u.own hu,Fd.same_own]
 have g3:∀ h,Sm E TL9 valL9 9 [w.v,w.own.v] h = some (bl true,h):=fun h=>by rw [Sm_ext l9_75,H.h75 w w.own hw,Fd.same_own]
 have e0:pushD [] = .slice true []:=rfl
 have y22:=z22
 rw [e0] at f6 f8
 rw [Sm_v lt9 lv9]
 cases b1
 case true=>simp (decide:=true) [Bd_mk,r9,f1,f9,opsA_if]
 cases b2
 case true=>simp (decide:=true) [Bd_mk,r9,f1,f2,f9,opsA_if]
 by_cases hl:(s.addrs.l.length:Int) > 1000
 case pos=>simp (decide:=true) [Bd_mk,r9,f1,f2,f9,hl,opsA_if]
 cases hm:subMay s with
 | false =>
  rw [hm] at g1
  simp (decide:=true) [Bd_mk,r9,f1,f2,f3,f4,f5,f6,f7,f8,f9,g1,g2,g3,y22,hl,opsA_if]
 | true =>
  rw [hm] at g1
  obtain ⟨rfl,rfl⟩:=px.again py hm
  rw [e0] at f4
  have g4:∀ h,Sm E TL9 valL9 9 [x.v,x.own.v] h = some (bl true,h):=fun h=>by rw [Sm_ext l9_75,H.h75 x x.own hx,Fd.same_own]
  simp (decide:=true) [Bd_mk,r9,f1,f2,f3,f4,f5,f6,f7,f8,f9,g1,g2,g3,g4,y22,hl,opsA_if]
end Go.Proofs.YtegfnefobbgkjaaGreat
