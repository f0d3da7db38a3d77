/- Layer 16's functions: Pod, At, WayOf, service. -/
import Derived.Test.YthkeklemhcfbcaaGreatT8
import Derived.Test.YthkeklemhcfbcaaGreatGm
set_option maxRecDepth 100000
set_option linter.unusedVariables false
set_option linter.unusedSimpArgs false
namespace Go.Proofs.YthkeklemhcfbcaaGreat
variable {E:Calls'}
theorem S229 (p:Svc) (b:Int) (x:Nat) (h:Hp) (hp:getB h.bs x = some [.d (u64 b)]):Sm E TT valT 98 [p.v,.ptr x 0] h = some (bl (p.id == b),h):=by
 rw [Sm_ref t229 v229]
 simp [Bd_mk,q229,getB_of hp,V.under]
theorem S103_229 {s:Sl Svc} (hs:short s) {x:Nat} {n:Int} {h:Hp} (hp:getB h.bs x = some [.d (u64 n)]):Sm E TT valT 45 [.d (s.d Svc.c),.fn 98 [.ptr x 0]] h = some (.d (i64 (idxI s.l fun p=>p.id == n)),h) :=
 S_idx Svc.c (z:=5) t103 v103 (RowIs.of (cells:=Svc.c) (fun _=>rfl) _) hs.lt fun p _ lo=>S229 p n x _ hp
theorem S108 (c:Cfg) (hc:c.ok) (n:Int) (h:Hp):Sm E TT valT 47 [c.v,.d (u64 n)] h = some (.tup (match c.services.l.find? (fun p=>p.id == n) with | some p=>[p.v,bl true] | none=>[svc0.v,bl false]),h):=by
 rw [Sm_v t108 v108]
 rcases idx_cases c.services.l (fun p=>p.id == n) with ⟨h1,h2⟩ | ⟨k,p,h1,h2,h3⟩
 · simp [Bd_mk,q108,S103_229 hc.2.1,h1,h2,svc0]
   first | done | rfl
 · simp [Bd_mk,q108,S103_229 hc.2.1,h1,h2,idxv_sl (z:=5) _ h3 (cells:=Svc.c) rfl]
   first | done | rfl
end Go.Proofs.YthkeklemhcfbcaaGreat
namespace Go.Proofs.YthkeklemhcfbcaaGreat
variable {E:Calls'}
end Go.Proofs.YthkeklemhcfbcaaGreat
namespace Go.Proofs.YthkeklemhcfbcaaGreat
variable {E:Calls'}
@[simp] theorem When.p1 {x:When} {v:V}:put (x.c.map V.d) 1 [v] = some [.d (.str x.head),v]:=rfl
@[simp] theorem Pol.p4 {x:Pol} {v:V}:put (x.c.map V.d) 4 [v] = some [.d (u64 x.id),.d (.str x.ns),.d (u64 x.service),.d (i64 x.deny),v]:=rfl
def sl0 (n:Nat):List V:=List.replicate n (.d (.slice true []))
def Rule.own (r:Rule):Rule:=⟨⟨r.frm.l.isEmpty,r.frm.l⟩,⟨r.to.l.isEmpty,r.to.l⟩,⟨r.whn.l.isEmpty,r.whn.l⟩⟩
def Pol.own (p:Pol):Pol:={ p with rules:=⟨p.rules.l.isEmpty,p.rules.l.map Rule.own⟩ }
end Go.Proofs.YthkeklemhcfbcaaGreat
namespace Go.Proofs.YthkeklemhcfbcaaGreat
variable {E:Calls'}
theorem int_next {i n:Nat} (h:i < n) (hn:n < 2 ^ 62):IntKind.wrap .i64 ((i:Int) + 1) = ((i + 1:Nat):Int):=by rw [wrap64] <;> omega
end Go.Proofs.YthkeklemhcfbcaaGreat
namespace Go.Proofs.YthkeklemhcfbcaaGreat
variable {E:Calls'}
end Go.Proofs.YthkeklemhcfbcaaGreat
namespace Go.Proofs.YthkeklemhcfbcaaGreat
variable {E:Calls'}
end Go.Proofs.YthkeklemhcfbcaaGreat
namespace Go.Proofs.YthkeklemhcfbcaaGreat
variable {E:Calls'}
@[simp] theorem lt_or_le' (a b:Nat):(a < b \/ b <= a) ↔ True:=⟨fun _=>trivial,fun _=>Nat.lt_or_ge a b⟩
@[simp] theorem em' {p:Prop}:(¬ p \/ p) ↔ True:=⟨fun _=>trivial,fun _=>(Classical.em p).symm⟩
end Go.Proofs.YthkeklemhcfbcaaGreat
namespace Go.Proofs.YthkeklemhcfbcaaGreat
variable {E:Calls'}
theorem bin_quo64 {n:Int}:∃ m,binD .quo (.d (.int .i64 n)) (.d (.int .i64 64)) = some (.int .i64 m):=⟨_,by simp [binD,binInt]; rfl⟩
theorem L185 {s:Sl Term} (hs:short s) (h:Hp):∀ (m i:Nat) (n:Int),i + m = s.l.length →
 ∃ n',Cd E TT valT (.loop [0,3,4] q185_b0) [(0,.d (s.d Term.c)),(3,.d (i64 n)),(4,.d (i64 i))] h = some (.exit 0,[(3,.d (i64 n'))],h):=by
 have hlt:=hs.lt
 intro m
 have key:=Cd_round (E:=E) (T:=TT) (val:=valT) [0,3,4] q185_b0
 generalize Cd E TT valT (.loop [0,3,4] q185_b0) = W at key ⊢
 induction m with
 | zero =>
  intro i n hi
  refine ⟨n,?_⟩
  rw [key]
  simp [q185_b0,show ¬ ((i:Int) < s.l.length) from by omega]
 | succ m ih =>
  intro i n hi
  have hlt:i < s.l.length:=by omega
  have hx:=fun h=>idxv_sl (z:=2) h (List.getElem?_eq_getElem hlt) (cells:=Term.c) rfl
  have hw:=int_next hlt (by omega)
  by_cases hn:n <= 2000
  · generalize s.l[i] = x at *
    obtain ⟨k,hq⟩:=bin_quo64 (n:=x.text.size)
    obtain ⟨n',q1⟩:=ih (i + 1) (IntKind.wrap .i64 (n + k)) (by omega)
    refine ⟨n',?_⟩
    rw [key]
    simp [q185_b0,hx,hq,hw,hn,show ((i:Int) < s.l.length) from by omega]
    simpa using q1
  · refine ⟨n,?_⟩
    rw [key]
    simp [q185_b0,hn,show ((i:Int) < s.l.length) from by omega]
theorem S185 {s:Sl Term} (hs:short s):∃ n':Int,∀ h,Sm E TT valT 39 [.d (s.d Term.c)] h = some (.d (i64 n'),h):=by
 obtain ⟨n',q1⟩:=L185 (E:=E) hs ⟨[],0⟩ s.l.length 0 s.l.length (by omega)
 refine ⟨n',fun h=>?_⟩
 rw [Sm_v t185 v185]
 simp at q1
 simp [Bd_mk,q185]
 rw [Cd_keep]
 simp [q1]
def Tr.mute (t:Tr):Bool:=!t.big && t.wr.isEmpty && t.lo == t.hi
theorem apartT_mute {pr:List (List Nat)} {l:List Tr} (h:l.all Tr.mute = true):apartT pr l = true:=by
 have hm:∀ t ∈ l,t.big = false /\ t.wr = [] /\ t.lo = t.hi:=by
  intro t ht
  have:=List.all_eq_true.1 h t ht
  simp only [Tr.mute,Bool.and_eq_true,Bool.not_eq_true',List.isEmpty_iff,beq_iff_eq] at this
  exact ⟨this.1.1,this.1.2,this.2⟩
 simp only [apartT,List.all_eq_true,List.mem_range,Bool.or_eq_true]
 intro i hi j hj
 right
 rw [List.getElem?_eq_getElem hi,List.getElem?_eq_getElem hj]
 obtain ⟨a1,a2,a3⟩:=hm _ (List.getElem_mem hi)
 obtain ⟨b1,b2,b3⟩:=hm _ (List.getElem_mem hj)
 simp only [Tr.spares,a1,b1,a2,a3,Bool.or_self,Bool.false_eq_true,if_false]
 split
 · simp
 · simp only [List.all_eq_true]
   intro b _
   simp
theorem L87_0 {r:Rule} (hr:r.fits big) {h:Hp} {q:Nat} {t1 t4:V} (hq:getB h.bs q = some (r.c.map .d)):∀ (m i:Nat) (n:Int),i + m = r.frm.l.length →
 ∃ n',Cd E TT valT (.loop [1,3,4,5,6] q87_b0) [(1,t1),(3,.d (i64 n)),(4,t4),(5,.ptr q 0),(6,.d (i64 i))] h = some (.exit 2,[(1,t1),(3,.d (i64 n')),(4,t4),(5,.ptr q 0)],h):=by
 have hlt:=hr.1.1.lt
 intro m
 have key:=Cd_round (E:=E) (T:=TT) (val:=valT) [1,3,4,5,6] q87_b0
 generalize Cd E TT valT (.loop [1,3,4,5,6] q87_b0) = W at key ⊢
 induction m with
 | zero =>
  intro i n hi
  refine ⟨n,?_⟩
  rw [key]
  simp [q87_b0,hq,show ¬ ((i:Int) < r.frm.l.length) from by omega]
 | succ m ih =>
  intro i n hi
  have h1:i < r.frm.l.length:=by omega
  have hx:=fun h=>idxv_sl (z:=3) h (List.getElem?_eq_getElem h1) (cells:=Source.c) rfl
  have hw:=int_next h1 hlt
  have hfx:=hr.1.2 _ (List.getElem_mem h1)
  by_cases hn:n <= 2000
  · generalize r.frm.l[i] = x at *
    obtain ⟨k0,hk0⟩:=S185 (E:=E) (s:=x.names) hfx.1
    obtain ⟨k1,hk1⟩:=S185 (E:=E) (s:=x.spaces) hfx.2.1
    rw [key]
    simp [q87_b0,hq,hx,openA,opDE_call,apartT_mute,Tr.mute,hk0,hk1,hw,hn,show ((i:Int) < r.frm.l.length) from by omega]
    rw [show ((i:Int) + 1) = ((i + 1:Nat):Int) from by omega]
    exact ih (i + 1) _ (by omega)
  · refine ⟨n,?_⟩
    rw [key]
    simp [q87_b0,hq,hn,show ((i:Int) < r.frm.l.length) from by omega]
theorem L87_1 {r:Rule} (hr:r.fits big) {h:Hp} {q:Nat} {t1 t4:V} (hq:getB h.bs q = some (r.c.map .d)):∀ (m i:Nat) (n:Int),i + m = r.to.l.length →
 ∃ n',Cd E TT valT (.loop [1,3,4,5,7] q87_b1) [(1,t1),(3,.d (i64 n)),(4,t4),(5,.ptr q 0),(7,.d (i64 i))] h = some (.exit 4,[(1,t1),(3,.d (i64 n')),(4,t4),(5,.ptr q 0)],h):=by
 have hlt:=hr.2.1.1.lt
 intro m
 have key:=Cd_round (E:=E) (T:=TT) (val:=valT) [1,3,4,5,7] q87_b1
 generalize Cd E TT valT (.loop [1,3,4,5,7] q87_b1) = W at key ⊢
 induction m with
 | zero =>
  intro i n hi
  refine ⟨n,?_⟩
  rw [key]
  simp [q87_b1,hq,show ¬ ((i:Int) < r.to.l.length) from by omega]
 | succ m ih =>
  intro i n hi
  have h1:i < r.to.l.length:=by omega
  have hx:=fun h=>idxv_sl (z:=4) h (List.getElem?_eq_getElem h1) (cells:=Target.c) rfl
  have hw:=int_next h1 hlt
  have hfx:=hr.2.1.2 _ (List.getElem_mem h1)
  by_cases hn:n <= 2000
  · generalize r.to.l[i] = x at *
    obtain ⟨k0,hk0⟩:=S185 (E:=E) (s:=x.methods) hfx.2.1
    obtain ⟨k1,hk1⟩:=S185 (E:=E) (s:=x.paths) hfx.2.2.1
    obtain ⟨k2,hk2⟩:=S185 (E:=E) (s:=x.hosts) hfx.2.2.2
    rw [key]
    simp [q87_b1,hq,hx,openA,opDE_call,apartT_mute,Tr.mute,hk0,hk1,hk2,hw,hn,show ((i:Int) < r.to.l.length) from by omega]
    rw [show ((i:Int) + 1) = ((i + 1:Nat):Int) from by omega]
    exact ih (i + 1) _ (by omega)
  · refine ⟨n,?_⟩
    rw [key]
    simp [q87_b1,hq,hn,show ((i:Int) < r.to.l.length) from by omega]
theorem L87_2 {r:Rule} (hr:r.fits big) {h:Hp} {q:Nat} {t1 t4:V} (hq:getB h.bs q = some (r.c.map .d)):∀ (m i:Nat) (n:Int),i + m = r.whn.l.length →
 ∃ n',Cd E TT valT (.loop [1,3,4,5,8] q87_b2) [(1,t1),(3,.d (i64 n)),(4,t4),(5,.ptr q 0),(8,.d (i64 i))] h = some (.exit 6,[(1,t1),(3,.d (i64 n')),(4,t4)],h):=by
 have hlt:=hr.2.2.1.lt
 intro m
 have key:=Cd_round (E:=E) (T:=TT) (val:=valT) [1,3,4,5,8] q87_b2
 generalize Cd E TT valT (.loop [1,3,4,5,8] q87_b2) = W at key ⊢
 induction m with
 | zero =>
  intro i n hi
  refine ⟨n,?_⟩
  rw [key]
  simp [q87_b2,hq,show ¬ ((i:Int) < r.whn.l.length) from by omega]
 | succ m ih =>
  intro i n hi
  have h1:i < r.whn.l.length:=by omega
  have hx:=fun h=>idxv_sl (z:=2) h (List.getElem?_eq_getElem h1) (cells:=When.c) rfl
  have hw:=int_next h1 hlt
  have hfx:=hr.2.2.2 _ (List.getElem_mem h1)
  by_cases hn:n <= 2000
  · generalize r.whn.l[i] = x at *
    obtain ⟨k0,hk0⟩:=S185 (E:=E) (s:=x.terms) hfx
    obtain ⟨w,hw2⟩:=bin_quo64 (n:=x.head.size)
    rw [key]
    simp [q87_b2,hq,hx,openA,opDE_call,apartT_mute,Tr.mute,hk0,hw,hn,hw2,show ((i:Int) < r.whn.l.length) from by omega]
    rw [show ((i:Int) + 1) = ((i + 1:Nat):Int) from by omega]
    exact ih (i + 1) _ (by omega)
  · refine ⟨n,?_⟩
    rw [key]
    simp [q87_b2,hq,hn,show ((i:Int) < r.whn.l.length) from by omega]
end Go.Proofs.YthkeklemhcfbcaaGreat
namespace Go.Proofs.YthkeklemhcfbcaaGreat
variable {E:Calls'}
theorem L87_3 {p:Pol} (hp:p.ok):∀ (m i:Nat) (n:Int) (J:List Blk),i + m = p.rules.l.length →
 ∃ n' J',Cd E TT valT (.loop [1,3,4] q87_b3) [(1,.ptr 0 0),(3,.d (i64 n)),(4,.d (i64 i))] ⟨.cells (p.c.map .d) :: J,0⟩ = some (.exit 0,[(3,.d (i64 n'))],⟨.cells (p.c.map .d) :: J',0⟩):=by
 have hlt:=hp.1.lt
 intro m
 have key:=Cd_round (E:=E) (T:=TT) (val:=valT) [1,3,4] q87_b3
 generalize Cd E TT valT (.loop [1,3,4] q87_b3) = W at key ⊢
 induction m with
 | zero =>
  intro i n J hi
  refine ⟨n,J,?_⟩
  rw [key]
  simp [q87_b3,show ¬ ((i:Int) < p.rules.l.length) from by omega]
 | succ m ih =>
  intro i n J hi
  have h1:i < p.rules.l.length:=by omega
  have hx:=fun h=>idxv_sl (z:=3) h (List.getElem?_eq_getElem h1) (cells:=Rule.c) rfl
  have hw:=int_next h1 hlt
  have hfx:=hp.2 _ (List.getElem_mem h1)
  by_cases hn:n <= 2000
  · generalize p.rules.l[i] = x at *
    obtain ⟨n1,q1⟩:=L87_0 (E:=E) hfx (h:=⟨.cells (p.c.map .d) :: (J ++ [.cells (x.c.map .d)]),0⟩) (q:=J.length + 1) (t1:=.ptr 0 0) (t4:=.d (i64 i)) (by simp) x.frm.l.length 0 (IntKind.wrap .i64 (n + IntKind.wrap .i64 (IntKind.wrap .i64 (IntKind.wrap .i64 (1 + (x.frm.l.length:Int)) + (x.to.l.length:Int)) + (x.whn.l.length:Int)))) (by omega)
    obtain ⟨n2,q2⟩:=L87_1 (E:=E) hfx (h:=⟨.cells (p.c.map .d) :: (J ++ [.cells (x.c.map .d)]),0⟩) (q:=J.length + 1) (t1:=.ptr 0 0) (t4:=.d (i64 i)) (by simp) x.to.l.length 0 n1 (by omega)
    obtain ⟨n3,q3⟩:=L87_2 (E:=E) hfx (h:=⟨.cells (p.c.map .d) :: (J ++ [.cells (x.c.map .d)]),0⟩) (q:=J.length + 1) (t1:=.ptr 0 0) (t4:=.d (i64 i)) (by simp) x.whn.l.length 0 n2 (by omega)
    simp at q1 q2 q3
    rw [key]
    simp [q87_b3,hx,hn,show ((i:Int) < p.rules.l.length) from by omega]
    rw [Cd_keep]
    simp [q1]
    rw [Cd_keep]
    simp [q2]
    rw [Cd_keep]
    simp [q3,hw]
    rw [show ((i:Int) + 1) = ((i + 1:Nat):Int) from by omega]
    exact ih (i + 1) _ _ (by omega)
  · refine ⟨n,J,?_⟩
    rw [key]
    simp [q87_b3,hn,show ((i:Int) < p.rules.l.length) from by omega]
theorem S87 (p:Pol) (hp:p.ok):∃ n':Int,∀ h,Sm E TT valT 10 [ag p.c] h = some (.d (i64 n'),h):=by
 obtain ⟨k,hk⟩:=bin_quo64 (n:=p.ns.size)
 obtain ⟨n',J',q1⟩:=L87_3 (E:=E) hp p.rules.l.length 0 (IntKind.wrap .i64 (1 + k)) [] (by omega)
 refine ⟨n',fun h=>?_⟩
 rw [Sm_v t87 v87]
 simp at q1
 simp [Bd_mk,q87,hk]
 rw [Cd_keep]
 simp [q1]
theorem L31_0 (c:Cfg) (hc:c.ok):∀ (m i:Nat) (n:Int),i + m = c.pods.l.length →
 ∃ n',Cd E TT valT (.loop [1,3,4] q31_b0) [(1,.ptr 0 0),(3,.d (i64 n)),(4,.d (i64 i))] ⟨[.cells (c.c.map .d)],0⟩ = some (.exit 0,[(1,.ptr 0 0),(3,.d (i64 n'))],⟨[.cells (c.c.map .d)],0⟩):=by
 have hlt:=hc.1.lt
 intro m
 have key:=Cd_round (E:=E) (T:=TT) (val:=valT) [1,3,4] q31_b0
 generalize Cd E TT valT (.loop [1,3,4] q31_b0) = W at key ⊢
 induction m with
 | zero =>
  intro i n hi
  refine ⟨n,?_⟩
  rw [key]
  simp [q31_b0,show ¬ ((i:Int) < c.pods.l.length) from by omega]
 | succ m ih =>
  intro i n hi
  have h1:i < c.pods.l.length:=by omega
  have hx:=fun h=>idxv_sl (z:=7) h (List.getElem?_eq_getElem h1) (cells:=Pod.c) rfl
  have hw:=int_next h1 hlt
  by_cases hn:n <= 2000
  · generalize c.pods.l[i] = x at *
    obtain ⟨k,hk⟩:=bin_quo64 (n:=IntKind.wrap .i64 ((x.ns.size:Int) + (x.sa.size:Int)))
    rw [key]
    simp [q31_b0,hx,hk,hw,hn,show ((i:Int) < c.pods.l.length) from by omega]
    rw [show ((i:Int) + 1) = ((i + 1:Nat):Int) from by omega]
    exact ih (i + 1) _ (by omega)
  · refine ⟨n,?_⟩
    rw [key]
    simp [q31_b0,hn,show ((i:Int) < c.pods.l.length) from by omega]
theorem L31_1 (c:Cfg) (hc:c.ok):∀ (m i:Nat) (n:Int),i + m = c.services.l.length →
 ∃ n',Cd E TT valT (.loop [1,3,5] q31_b1) [(1,.ptr 0 0),(3,.d (i64 n)),(5,.d (i64 i))] ⟨[.cells (c.c.map .d)],0⟩ = some (.exit 2,[(1,.ptr 0 0),(3,.d (i64 n'))],⟨[.cells (c.c.map .d)],0⟩):=by
 have hlt:=hc.2.1.lt
 intro m
 have key:=Cd_round (E:=E) (T:=TT) (val:=valT) [1,3,5] q31_b1
 generalize Cd E TT valT (.loop [1,3,5] q31_b1) = W at key ⊢
 induction m with
 | zero =>
  intro i n hi
  refine ⟨n,?_⟩
  rw [key]
  simp [q31_b1,show ¬ ((i:Int) < c.services.l.length) from by omega]
 | succ m ih =>
  intro i n hi
  have h1:i < c.services.l.length:=by omega
  have hx:=fun h=>idxv_sl (z:=5) h (List.getElem?_eq_getElem h1) (cells:=Svc.c) rfl
  have hw:=int_next h1 hlt
  by_cases hn:n <= 2000
  · generalize c.services.l[i] = x at *
    obtain ⟨k,hk⟩:=bin_quo64 (n:=x.ns.size)
    rw [key]
    simp [q31_b1,hx,hk,hw,hn,show ((i:Int) < c.services.l.length) from by omega]
    rw [show ((i:Int) + 1) = ((i + 1:Nat):Int) from by omega]
    exact ih (i + 1) _ (by omega)
  · refine ⟨n,?_⟩
    rw [key]
    simp [q31_b1,hn,show ((i:Int) < c.services.l.length) from by omega]
theorem L31_2 (c:Cfg) (hc:c.ok):∀ (m i:Nat) (n:Int),i + m = c.policies.l.length →
 ∃ n',Cd E TT valT (.loop [1,3,6] q31_b2) [(1,.ptr 0 0),(3,.d (i64 n)),(6,.d (i64 i))] ⟨[.cells (c.c.map .d)],0⟩ = some (.exit 4,[(3,.d (i64 n'))],⟨[.cells (c.c.map .d)],0⟩):=by
 have hlt:=hc.2.2.2.1.lt
 intro m
 have key:=Cd_round (E:=E) (T:=TT) (val:=valT) [1,3,6] q31_b2
 generalize Cd E TT valT (.loop [1,3,6] q31_b2) = W at key ⊢
 induction m with
 | zero =>
  intro i n hi
  refine ⟨n,?_⟩
  rw [key]
  simp [q31_b2,show ¬ ((i:Int) < c.policies.l.length) from by omega]
 | succ m ih =>
  intro i n hi
  have h1:i < c.policies.l.length:=by omega
  have hx:=fun h=>idxv_sl (z:=5) h (List.getElem?_eq_getElem h1) (cells:=Pol.c) rfl
  have hw:=int_next h1 hlt
  have hfx:=hc.2.2.2.2 _ (List.getElem_mem h1)
  by_cases hn:n <= 2000
  · generalize c.policies.l[i] = x at *
    obtain ⟨k,hk⟩:=S87 (E:=E) x hfx
    rw [key]
    simp [q31_b2,hx,hk,hw,hn,show ((i:Int) < c.policies.l.length) from by omega]
    rw [show ((i:Int) + 1) = ((i + 1:Nat):Int) from by omega]
    exact ih (i + 1) _ (by omega)
  · refine ⟨n,?_⟩
    rw [key]
    simp [q31_b2,hn,show ((i:Int) < c.policies.l.length) from by omega]
theorem S31 (c:Cfg) (hc:c.ok):∃ b:Bool,∀ h,Sm E TT valT 4 [c.v] h = some (bl b,h):=by
 obtain ⟨n1,q1⟩:=L31_0 (E:=E) c hc c.pods.l.length 0 (IntKind.wrap .i64 (IntKind.wrap .i64 ((c.pods.l.length:Int) + (c.services.l.length:Int)) + (c.bound.l.length:Int))) (by omega)
 obtain ⟨n2,q2⟩:=L31_1 (E:=E) c hc c.services.l.length 0 n1 (by omega)
 obtain ⟨n3,q3⟩:=L31_2 (E:=E) c hc c.policies.l.length 0 n2 (by omega)
 refine ⟨decide (2000 < n3),fun h=>?_⟩
 rw [Sm_v t31 v31]
 simp at q1 q2 q3
 simp [Bd_mk,q31]
 rw [Cd_keep]
 simp [q1]
 rw [Cd_keep]
 simp [q2]
 rw [Cd_keep]
 simp [q3]
end Go.Proofs.YthkeklemhcfbcaaGreat
