/- config.without, config.with: at any width. -/
import Derived.Test.YthkeklemhcfbcaaGreatCp
import Derived.Test.YthkeklemhcfbcaaGreatSa
import Derived.Test.YthkeklemhcfbcaaGreatWa
import Derived.Test.YthkeklemhcfbcaaGreatQt
import Derived.Test.YthkeklemhcfbcaaGreatGn
import Derived.Test.YthkeklemhcfbcaaGreatGm
set_option maxRecDepth 100000
set_option linter.unusedVariables false
set_option linter.unusedSimpArgs false
namespace Go.Proofs.YthkeklemhcfbcaaGreat
end Go.Proofs.YthkeklemhcfbcaaGreat
namespace Go.Proofs.YthkeklemhcfbcaaGreat
end Go.Proofs.YthkeklemhcfbcaaGreat
namespace Go.Proofs.YthkeklemhcfbcaaGreat
end Go.Proofs.YthkeklemhcfbcaaGreat
namespace Go.Proofs.YthkeklemhcfbcaaGreat
end Go.Proofs.YthkeklemhcfbcaaGreat
namespace Go.Proofs.YthkeklemhcfbcaaGreat
structure Edt where
 kind:Int
 id:Int
 pod:Pod
 svc:Svc
 way:Way
 pol:Pol
def Edt.c (e:Edt):List D:=[i64 e.kind,u64 e.id] ++ e.pod.c ++ e.svc.c ++ e.way.c ++ e.pol.c
@[simp] theorem Edt.len {x:Edt}:x.c.length = 21:=(rfl)
@[simp] theorem Edt.all {x:Edt}:sub x.c 0 21 = some x.c:=(rfl)
@[simp] theorem Edt.s0_1 {x:Edt}:sub x.c 0 1 = some [i64 x.kind]:=(rfl)
@[simp] theorem Edt.s1_1 {x:Edt}:sub x.c 1 1 = some [u64 x.id]:=(rfl)
@[simp] theorem Edt.s2_7 {x:Edt}:sub x.c 2 7 = some x.pod.c:=(rfl)
@[simp] theorem Edt.s9_5 {x:Edt}:sub x.c 9 5 = some x.svc.c:=(rfl)
@[simp] theorem Edt.s14_2 {x:Edt}:sub x.c 14 2 = some x.way.c:=(rfl)
@[simp] theorem Edt.s16_5 {x:Edt}:sub x.c 16 5 = some x.pol.c:=(rfl)
@[simp] theorem Edt.s5_1 {x:Edt}:sub x.c 5 1 = some [i64 x.pod.host]:=(rfl)
@[simp] theorem Edt.s6_1 {x:Edt}:sub x.c 6 1 = some [u32 x.pod.addr]:=(rfl)
theorem Cfg.p0 {x:Cfg} {n:Int}:put (x.c.map V.d) 0 [.d (u64 n)] = some (({ x with epoch:=n }:Cfg).c.map V.d):=(rfl)
theorem Cfg.p1 {x:Cfg} {n:Int}:put (x.c.map V.d) 1 [.d (u64 n)] = some (({ x with next:=n }:Cfg).c.map V.d):=(rfl)
theorem Cfg.p4 {x:Cfg} {s:Sl Pod}:put (x.c.map V.d) 4 [.d (s.d Pod.c)] = some (({ x with pods:=s }:Cfg).c.map V.d):=(rfl)
theorem Pod.p0 {x:Pod} {n:Int}:put (x.c.map V.d) 0 [.d (u64 n)] = some (({ x with uid:=n }:Pod).c.map V.d):=(rfl)
theorem Pod.p3 {x:Pod} {n:Int}:put (x.c.map V.d) 3 [.d (i64 n)] = some (({ x with host:=n }:Pod).c.map V.d):=(rfl)
theorem Pod.p4 {x:Pod} {n:Int}:put (x.c.map V.d) 4 [.d (u32 n)] = some (({ x with addr:=n }:Pod).c.map V.d):=(rfl)
end Go.Proofs.YthkeklemhcfbcaaGreat
namespace Go.Proofs.YthkeklemhcfbcaaGreat
end Go.Proofs.YthkeklemhcfbcaaGreat
namespace Go.Proofs.YthkeklemhcfbcaaGreat
end Go.Proofs.YthkeklemhcfbcaaGreat
namespace Go.Proofs.YthkeklemhcfbcaaGreat
def Cfg.own (c:Cfg):Cfg:={ c with policies:=⟨c.policies.nl,c.policies.l.map Pol.own⟩ }
end Go.Proofs.YthkeklemhcfbcaaGreat
namespace Go.Proofs.YthkeklemhcfbcaaGreat
def Edt.wf (B:Nat) (e:Edt):Prop:=Inr .i64 e.kind /\ Inr .u64 e.id /\ e.pod.wf B /\ e.svc.wf B /\ e.way.wf B /\ e.pol.wf B
end Go.Proofs.YthkeklemhcfbcaaGreat
namespace Go.Proofs.YthkeklemhcfbcaaGreat
section
variable {E:Calls'} (h385:∀ t:Target,t.wf big -> ∀ h,E 163 [ag t.c] h = some (bl (targetMay t),h))
theorem dataV_row_slice {h:Hp} {k b o n z:Nat} {cap:Option Nat} {d:D} (hd:dataV h (k + 1) (.row b o n cap z) = some d):∃ l,d = .slice false l:=by
 simp only [dataV] at hd
 split at hd
 · split at hd
   · split at hd
     · cases hd; exact ⟨_,rfl⟩
     · cases hd
   · cases hd
 · cases hd
theorem frz_bool {h:Hp} {r:V} {b:Bool} (hr:frz h r = some (bl b)):r = bl b:=by
 cases r with
 | d x=>simpa using hr
 | row b' o n cap z =>
  exfalso
  simp only [frz,frz1] at hr
  cases hd:dataV h 8 (.row b' o n cap z) with
  | none=>rw [hd] at hr; cases hr
  | some d =>
   rw [hd] at hr
   obtain ⟨l,rfl⟩:=dataV_row_slice hd
   cases hr
 | ptr b' o=>simp [frz,frz1,dataV] at hr
 | eptr cs o=>simp [frz,frz1,dataV] at hr
 | undef=>simp [frz,frz1] at hr
 | fn f cs=>cases cs <;> simp [frz,frz1] at hr
 | mfn f cs=>simp [frz,frz1,dataV] at hr
 | agg cs =>
  simp only [frz,frz1] at hr
  split at hr <;> cases hr
 | tup vs =>
  simp only [frz] at hr
  split at hr <;> cases hr
theorem val_frz {T:FuncId -> Option QF} {val:FuncId -> Bool} {f:FuncId} {q:QF} (ht:T f = some q) (hv:val f = true) {l:List D} {b:Bool} (h0:∀ h,Sm E T val f [ag l] h = some (bl b,h)) {a:V} {h:Hp} (ha:frz h a = some (ag l)):Sm E T val f [a] h = some (bl b,h):=by
 have h1:=h0 h
 rw [Sm_v ht hv] at h1 ⊢
 simp only [List.mapM_cons,List.mapM_nil,frz_ag,ha,Option.pure_def,Option.bind_eq_bind,Option.bind_some,valC_s,valE] at h1 ⊢
 cases hB:Bd E T val q [ag l] ⟨[],0⟩ with
 | none=>rw [hB] at h1; cases h1
 | some p =>
  obtain ⟨r,h'⟩:=p
  rw [hB] at h1
  simp only [valR] at h1 ⊢
  cases hr:frz h' r with
  | none=>rw [hr] at h1; cases h1
  | some r' =>
   rw [hr] at h1
   have e1:r' = bl b:=by
    simp at h1; exact h1
   subst e1
   have:=frz_bool hr
   subst this
   simp [ownR,own1,ownV]
end
end Go.Proofs.YthkeklemhcfbcaaGreat
namespace Go.Proofs.YthkeklemhcfbcaaGreat
end Go.Proofs.YthkeklemhcfbcaaGreat
namespace Go.Proofs.YthkeklemhcfbcaaGreat
section
variable {E:Calls'} {T:FuncId -> Option QF} {val:FuncId -> Bool}
theorem eql_loop {α:Type} {cells:α -> List D} {z:Nat} (hz:∀ x,(cells x).length = z) (hz0:0 < z) {k:EQ} {p:α -> α -> Bool} {s t:Sl α} (hl:s.l.length = t.l.length) (hs:s.l.length < 2 ^ 62)
 (he:∀ x y h,eqv k true (ag (cells x)) (ag (cells y)) h = some (.d (.bool (p x y != true)),h)) (h:Hp):∀ (m i:Nat),i + m = s.l.length →
   Cd E T val (.loop [0,1,12,13] (eqlB z k)) [(0,.d (s.d cells)),(1,.d (t.d cells)),(12,.d (i64 s.l.length)),(13,.d (i64 i))] h =
    if all2 p (s.l.drop i) (t.l.drop i) then some (.exit 0,[],h) else some (.ret,[(4,bl false)],h):=by
 intro m
 have key:=Cd_round (E:=E) (T:=T) (val:=val) [0,1,12,13] (eqlB z k)
 generalize Cd E T val (.loop [0,1,12,13] (eqlB z k)) = W at key ⊢
 induction m with
 | zero =>
  intro i hi
  rw [key,List.drop_eq_nil_of_le (by omega),List.drop_eq_nil_of_le (by omega)]
  simp [eqlB,all2,show ¬ ((i:Int) < s.l.length) from by omega]
 | succ m ih =>
  intro i hi
  have h1:i < s.l.length:=by omega
  have h2:i < t.l.length:=by omega
  have hx:=fun h=>idxv_sl (z:=z) h (List.getElem?_eq_getElem h1) (hz _)
  have hy:=fun h=>idxv_sl (z:=z) h (List.getElem?_eq_getElem h2) (hz _)
  have hw:=int_next h1 hs
  have:=ih (i + 1) (by omega)
  rw [key,all2_drop h1 h2]
  generalize s.l[i] = x at *
  generalize t.l[i] = y at *
  have sx:=sub_all (hz x)
  have sy:=sub_all (hz y)
  cases hq:p x y with
  | false=>simp [eqlB,hx,hy,sx,sy,he,hq,hz0,show ((i:Int) < s.l.length) from by omega]
  | true =>
   simp [eqlB,hx,hy,sx,sy,he,hq,hw,hz0,show ((i:Int) < s.l.length) from by omega]
   simpa using this
theorem S_eql {α:Type} {cells:α -> List D} {z:Nat} {id:FuncId} (hz:∀ x,(cells x).length = z) (hz0:0 < z) {k:EQ} {p:α -> α -> Bool} (ht:T id = some (eqlQ z k)) (hv:val id = true) {s t:Sl α} (hs:s.l.length < 2 ^ 62)
 (he:∀ x y h,eqv k true (ag (cells x)) (ag (cells y)) h = some (.d (.bool (p x y != true)),h)) (h:Hp):Sm E T val id [.d (s.d cells),.d (t.d cells)] h = some (bl (all2 p s.l t.l),h):=by
 rw [Sm_v ht hv]
 by_cases hl:s.l.length = t.l.length
 · have k1:=fun h=>eql_loop (E:=E) (T:=T) (val:=val) hz hz0 hl hs he h s.l.length 0 (by omega)
   simp [hl] at k1
   simp [Bd_mk,eqlQ,hl]
   rw [Cd_keep]
   simp [k1]
   cases all2 p s.l t.l <;> simp
 · have hl':¬ ((s.l.length:Int) = t.l.length):=by omega
   rw [all2_ne hl]
   simp [Bd_mk,eqlQ,hl']
theorem eql1_loop {α:Type} {cell:α -> D} {k:EQ} {p:α -> α -> Bool} {s t:Sl α} (hl:s.l.length = t.l.length) (hs:s.l.length < 2 ^ 62)
 (he:∀ x y h,eqv k true (.d (cell x)) (.d (cell y)) h = some (.d (.bool (p x y != true)),h)) (h:Hp):∀ (m i:Nat),i + m = s.l.length →
   Cd E T val (.loop [0,1,12,13] (eql1B k)) [(0,.d (s.d fun x=>[cell x])),(1,.d (t.d fun x=>[cell x])),(12,.d (i64 s.l.length)),(13,.d (i64 i))] h =
    if all2 p (s.l.drop i) (t.l.drop i) then some (.exit 0,[],h) else some (.ret,[(4,bl false)],h):=by
 intro m
 have key:=Cd_round (E:=E) (T:=T) (val:=val) [0,1,12,13] (eql1B k)
 generalize Cd E T val (.loop [0,1,12,13] (eql1B k)) = W at key ⊢
 induction m with
 | zero =>
  intro i hi
  rw [key,List.drop_eq_nil_of_le (by omega),List.drop_eq_nil_of_le (by omega)]
  simp [eql1B,all2,show ¬ ((i:Int) < s.l.length) from by omega]
 | succ m ih =>
  intro i hi
  have h1:i < s.l.length:=by omega
  have h2:i < t.l.length:=by omega
  have hx:=fun h=>idxv_sl (z:=1) h (List.getElem?_eq_getElem h1) (cells:=fun x=>[cell x]) rfl
  have hy:=fun h=>idxv_sl (z:=1) h (List.getElem?_eq_getElem h2) (cells:=fun x=>[cell x]) rfl
  have hw:=int_next h1 hs
  have:=ih (i + 1) (by omega)
  rw [key,all2_drop h1 h2]
  generalize s.l[i] = x at *
  generalize t.l[i] = y at *
  cases hq:p x y with
  | false=>simp [eql1B,hx,hy,he,hq,show ((i:Int) < s.l.length) from by omega]
  | true =>
   simp [eql1B,hx,hy,he,hq,hw,show ((i:Int) < s.l.length) from by omega]
   simpa using this
theorem S_eql1 {α:Type} {cell:α -> D} {id:FuncId} {k:EQ} {p:α -> α -> Bool} (ht:T id = some (eql1Q k)) (hv:val id = true) {s t:Sl α} (hs:s.l.length < 2 ^ 62)
 (he:∀ x y h,eqv k true (.d (cell x)) (.d (cell y)) h = some (.d (.bool (p x y != true)),h)) (h:Hp):Sm E T val id [.d (s.d fun x=>[cell x]),.d (t.d fun x=>[cell x])] h = some (bl (all2 p s.l t.l),h):=by
 rw [Sm_v ht hv]
 by_cases hl:s.l.length = t.l.length
 · have k1:=fun h=>eql1_loop (E:=E) (T:=T) (val:=val) hl hs he h s.l.length 0 (by omega)
   simp [hl] at k1
   simp [Bd_mk,eql1Q,hl]
   rw [Cd_keep]
   simp [k1]
   cases all2 p s.l t.l <;> simp
 · have hl':¬ ((s.l.length:Int) = t.l.length):=by omega
   rw [all2_ne hl]
   simp [Bd_mk,eql1Q,hl']
theorem eqf_loop {α:Type} {cells:α -> List D} {z:Nat} {zero:List V} (hz:∀ x,(cells x).length = z) (hz0:0 < z) (hzero:zero.length = z) {f:FuncId} {p:α -> α -> Bool} {s t:Sl α} (hl:s.l.length = t.l.length) (hs:s.l.length < 2 ^ 62)
 (hf:∀ x ∈ s.l,∀ y ∈ t.l,∀ h,Sm E T val f [ag (cells x),ag (cells y)] h = some (bl (p x y),h)):∀ (m i:Nat) (bs:List Blk) (lo:Nat),i + m = s.l.length -> lo = 0 →
   ∃ bs',Cd E T val (.loop [1,2,15,16,17] (eqfB z zero)) [(1,.d (t.d cells)),(2,.fn f []),(15,.d (s.d cells)),(16,.d (i64 s.l.length)),(17,.d (i64 i))] ⟨bs,lo⟩ =
    if all2 p (s.l.drop i) (t.l.drop i) then some (.exit 0,[],⟨bs',0⟩) else some (.ret,[(6,bl false)],⟨bs',0⟩):=by
 intro m
 have key:=Cd_round (E:=E) (T:=T) (val:=val) [1,2,15,16,17] (eqfB z zero)
 generalize Cd E T val (.loop [1,2,15,16,17] (eqfB z zero)) = W at key ⊢
 induction m with
 | zero =>
  rintro i bs lo hi rfl
  refine ⟨bs,?_⟩
  rw [key,List.drop_eq_nil_of_le (by omega),List.drop_eq_nil_of_le (by omega)]
  simp [eqfB,all2,show ¬ ((i:Int) < s.l.length) from by omega]
 | succ m ih =>
  rintro i bs lo hi rfl
  have h1:i < s.l.length:=by omega
  have h2:i < t.l.length:=by omega
  have hx:=fun h=>idxv_sl (z:=z) h (List.getElem?_eq_getElem h1) (hz _)
  have hy:=fun h=>idxv_sl (z:=z) h (List.getElem?_eq_getElem h2) (hz _)
  have hw:=int_next h1 hs
  have hc:=hf _ (List.getElem_mem h1) _ (List.getElem_mem h2)
  rw [key,all2_drop h1 h2]
  generalize s.l[i] = x at *
  generalize t.l[i] = y at *
  have sx:=sub_all (hz x)
  have sy:=sub_all (hz y)
  have px:put zero 0 ((cells x).map V.d) = some ((cells x).map .d):=by simp [put,hz,hzero]
  have py:put zero 0 ((cells y).map V.d) = some ((cells y).map .d):=by simp [put,hz,hzero]
  cases hq:p x y with
  | false =>
   refine ⟨bs ++ [.cells ((cells x).map .d),.cells ((cells y).map .d)],?_⟩
   simp [eqfB,hx,hy,sx,sy,px,py,hc,hq,hz0,hz,show ((i:Int) < s.l.length) from by omega]
  | true =>
   obtain ⟨bs',q⟩:=ih (i + 1) (bs ++ [.cells ((cells x).map .d),.cells ((cells y).map .d)]) 0 (by omega) rfl
   refine ⟨bs',?_⟩
   simp [eqfB,hx,hy,sx,sy,px,py,hc,hq,hw,hz0,hz,show ((i:Int) < s.l.length) from by omega]
   simpa using q
theorem S_eqf {α:Type} {cells:α -> List D} {z:Nat} {zero:List V} {id:FuncId} (hz:∀ x,(cells x).length = z) (hz0:0 < z) (hzero:zero.length = z) {f:FuncId} {p:α -> α -> Bool} (ht:T id = some (eqfQ z zero)) (hv:val id = true) {s t:Sl α} (hs:s.l.length < 2 ^ 62)
 (hf:∀ x ∈ s.l,∀ y ∈ t.l,∀ h,Sm E T val f [ag (cells x),ag (cells y)] h = some (bl (p x y),h)) (h:Hp):Sm E T val id [.d (s.d cells),.d (t.d cells),.fn f []] h = some (bl (all2 p s.l t.l),h):=by
 rw [Sm_v ht hv]
 have hfr:frz h (.fn f []) = some (.fn f []):=rfl
 by_cases hl:s.l.length = t.l.length
 · obtain ⟨bs',k1⟩:=eqf_loop (E:=E) (T:=T) (val:=val) hz hz0 hzero hl hs hf s.l.length 0 [] 0 (by omega) rfl
   simp [hl] at k1
   simp [Bd_mk,eqfQ,hl,hfr,pureV]
   rw [Cd_keep]
   simp [k1]
   cases all2 p s.l t.l <;> simp [pureV,ownR,own1,ownV]
 · have hl':¬ ((s.l.length:Int) = t.l.length):=by omega
   rw [all2_ne hl]
   simp [Bd_mk,eqfQ,hl',hfr,pureV,ownR,own1,ownV]
end
def Cfg.same (a b:Cfg):Bool:=a.epoch == b.epoch && a.next == b.next && a.hosts == b.hosts && a.ways == b.ways && (all2 Pod.eqB a.pods.l b.pods.l && (all2 Svc.eqB a.services.l b.services.l && (all2 Way.eqB a.bound.l b.bound.l && all2 Pol.same a.policies.l b.policies.l)))
end Go.Proofs.YthkeklemhcfbcaaGreat
namespace Go.Proofs.YthkeklemhcfbcaaGreat
def Lg (n:Int) (x:Int):Prop:=0 <= n /\ x < 2 ^ n.toNat /\ (1 <= x -> 2 ^ n.toNat <= 2 * x)
theorem lenT_ok:((List.range 256).all fun i=>decide ((i:Int) < 2 ^ (lenT i).toNat) && (decide (i = 0) || decide ((2:Int) ^ (lenT i).toNat <= 2 * i))) = true:=by decide +kernel
theorem Lg_base {x:Int} (h0:0 <= x) (h1:x < 256):Lg (lenT (IntKind.wrap .u8 x).toNat) x:=by
 have hw:IntKind.wrap .u8 x = x:=by simp [IntKind.wrap,IntKind.bits,IntKind.signed]; omega
 rw [hw]
 have:=List.all_eq_true.1 lenT_ok x.toNat (List.mem_range.2 (by omega))
 simp only [Bool.and_eq_true,Bool.or_eq_true,decide_eq_true_eq] at this
 have hx:((x.toNat:Nat):Int) = x:=by omega
 rw [hx] at this
 exact ⟨(lenT_le _).1,this.1,fun h=>by rcases this.2 with h2 | h2 <;> omega⟩
theorem Lg_shift {n x K:Int} (k:Nat) (hK:K = 2 ^ k) (hK0:0 < K) (hx:K <= x) (h:Lg n (x.fdiv K)):Lg ((k:Int) + n) x:=by
 obtain ⟨h0,h1,h2⟩:=h
 have e:((k:Int) + n).toNat = k + n.toNat:=by omega
 rw [Int.fdiv_eq_ediv_of_nonneg _ (by omega)] at h1 h2
 have hp:(2:Int) ^ (k + n.toNat) = K * 2 ^ n.toNat:=by rw [Int.pow_add,← hK]
 have hd:=Int.mul_ediv_add_emod x K
 have hm:=Int.emod_nonneg x (show K ≠ 0 by omega)
 have hl:=Int.emod_lt_of_pos x hK0
 have hq:1 <= x / K:=by
  have:=(Int.le_ediv_iff_mul_le hK0 (a:=1) (b:=x)).2 (by omega)
  exact this
 refine ⟨by omega,?_,fun _=>?_⟩
 · rw [e,hp]
   have:=(Int.ediv_lt_iff_lt_mul hK0).1 h1
   rw [Int.mul_comm]; exact this
 · rw [e,hp]
   have h3:=Int.mul_le_mul_of_nonneg_left (h2 hq) (Int.le_of_lt hK0)
   have h4:K * (2 * (x / K)) = 2 * (K * (x / K)):=by rw [Int.mul_left_comm]
   omega
theorem len64_ok {x:Int} (h0:0 <= x) (h1:x < 2 ^ 64):Lg (len64 x) x:=by
 have hb:∀ y,0 <= y -> y < 65536 -> Lg ((if y >= 256 then 8 else 0) + lenT (IntKind.wrap .u8 (lenC y)).toNat) y:=by
  intro y a b
  by_cases c:y >= 256
  · rw [if_pos c,lenC,if_pos c]
    have hd:y.fdiv 256 = y / 256:=Int.fdiv_eq_ediv_of_nonneg _ (by omega)
    exact Lg_shift (K:=256) 8 (by decide) (by omega) c (Lg_base (by rw [hd]; omega) (by rw [hd]; omega))
  · rw [if_neg c,lenC,if_neg c,Int.zero_add]
    exact Lg_base a (by omega)
 have ha:∀ y,0 <= y -> y < 4294967296 -> Lg ((if y >= 65536 then 16 else 0) + ((if lenB y >= 256 then 8 else 0) + lenT (IntKind.wrap .u8 (lenC (lenB y))).toNat)) y:=by
  intro y a b
  by_cases c:y >= 65536
  · have hB:lenB y = y.fdiv 65536:=by rw [lenB,if_pos c]
    rw [if_pos c,hB]
    have hd:y.fdiv 65536 = y / 65536:=Int.fdiv_eq_ediv_of_nonneg _ (by omega)
    exact Lg_shift (K:=65536) 16 (by decide) (by omega) c (hb _ (by rw [hd]; omega) (by rw [hd]; omega))
  · have hB:lenB y = y:=by rw [lenB,if_neg c]
    rw [if_neg c,hB,Int.zero_add]
    exact hb _ a (by omega)
 have hz:len64 x = (if x >= 4294967296 then 32 else 0) + ((if lenA x >= 65536 then 16 else 0) + ((if lenB (lenA x) >= 256 then 8 else 0) + lenT (IntKind.wrap .u8 (lenC (lenB (lenA x)))).toNat)):=by
  unfold len64; omega
 rw [hz]
 by_cases c:x >= 4294967296
 · have hA:lenA x = x.fdiv 4294967296:=by rw [lenA,if_pos c]
   rw [if_pos c,hA]
   have hd:x.fdiv 4294967296 = x / 4294967296:=Int.fdiv_eq_ediv_of_nonneg _ (by omega)
   exact Lg_shift (K:=4294967296) 32 (by decide) (by omega) c (ha _ (by rw [hd]; omega) (by rw [hd]; omega))
 · have hA:lenA x = x:=by rw [lenA,if_neg c]
   rw [if_neg c,hA,Int.zero_add]
   exact ha _ h0 (by omega)
theorem grpT_eq (x:Int):grpT x = if (len64 x + 6) / 7 > 1 then (len64 x + 6) / 7 else 1:=by
 have:=len64_le x
 have h2:(len64 x + 6).tdiv 7 = (len64 x + 6) / 7:=Int.tdiv_eq_ediv_of_nonneg (by omega)
 unfold grpT; rw [h2]
theorem bytes_len (c:Cfg):(bytesE c).length = (uintB c.epoch).length + ((uintB c.next).length + ((uintB (IntKind.wrap .u64 c.hosts)).length + ((uintB (IntKind.wrap .u64 c.ways)).length + (uintB (c.pods.l.length:Int)).length))) + (c.pods.l.flatMap podE).length + (uintB (c.services.l.length:Int)).length + (c.services.l.flatMap svcE).length + (uintB (c.bound.l.length:Int)).length + (c.bound.l.flatMap wayE).length + (uintB (c.policies.l.length:Int)).length + (c.policies.l.flatMap polTE).length:=by
 simp only [bytesE,List.flatMap_cons,List.flatMap_nil,List.append_nil,List.length_append]; omega
theorem waysBad_like {a b:Cfg} (h1:a.hosts = b.hosts) (h2:a.ways = b.ways):∀ (l pre:List Way),waysBad a pre l = waysBad b pre l
 | [],_=>rfl
 | x :: l,pre=>by
  have ih:=waysBad_like h1 h2 l (pre ++ [x])
  simp only [waysBad,ih,wayBad,h1,h2]
end Go.Proofs.YthkeklemhcfbcaaGreat
