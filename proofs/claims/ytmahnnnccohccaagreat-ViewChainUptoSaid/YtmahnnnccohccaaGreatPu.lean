/- Regions whose order is open: the run. -/
import Derived.Test.YtmahnnnccohccaaGreatPm
set_option linter.unusedVariables false
set_option linter.unusedSimpArgs false
namespace Go.Proofs.YtmahnnnccohccaaGreat
open Go.RowKit
def predF (acc:List (List Nat)) (o:Oper):List Nat:=ded ((o.after.toList.filter (Region.binds .any ·)).flatMap fun e=>e.on :: acc.getD e.on [])
theorem mem_ded {l:List Nat} {x:Nat}:x ∈ ded l ↔ x ∈ l:=by
 induction l with
 | nil=>simp [ded]
 | cons y l ih =>
  have:ded (y :: l) = if (ded l).contains y then ded l else y :: ded l:=rfl
  rw [this]
  split
  · rename_i h
    rw [ih,List.mem_cons]
    constructor
    · exact .inr
    · rintro (rfl | h1)
      · exact ih.1 (by simpa using h)
      · exact h1
  · simp [ih]
theorem preds_fold:∀ (l:List Oper) (acc:List (List Nat)),∃ more,l.foldl (fun acc o=>acc ++ [predF acc o]) acc = acc ++ more /\ more.length = l.length /\ ∀ i (hi:i < l.length),more[i]? = some (predF (acc ++ more.take i) l[i])
 | [],acc=>⟨[],by simp,rfl,fun i hi=>absurd hi (Nat.not_lt_zero _)⟩
 | o :: l,acc=>by
  obtain ⟨more,h1,h2,h3⟩:=preds_fold l (acc ++ [predF acc o])
  refine ⟨predF acc o :: more,by simp only [List.foldl_cons,h1]; simp,by simp [h2],fun i hi=>?_⟩
  cases i with
  | zero=>simp
  | succ i =>
   have:=h3 i (by simpa using hi)
   simpa [List.append_assoc] using this
section
variable {ops:Array Oper}
theorem preds_at (hord:∀ i o,ops[i]? = some o -> ∀ e ∈ o.after,Region.binds .any e = true -> e.on < i) {i:Nat} {o:Oper} (hi:ops[i]? = some o):(predsOf ops).getD i [] = predF (predsOf ops) o:=by
 obtain ⟨more,h1,h2,h3⟩:=preds_fold ops.toList []
 have hp:predsOf ops = more:=by simpa [predsOf,predF] using h1
 obtain ⟨hlt,hget⟩:=Array.getElem?_eq_some_iff.1 hi
 have h4:=h3 i (by simpa using hlt)
 have h5:ops.toList[i]'(by simpa using hlt) = o:=by simpa using hget
 rw [h5] at h4
 rw [hp]
 rw [List.getD_eq_getElem?_getD,h4]
 simp only [List.nil_append,Option.getD_some,predF]
 have:∀ l:List _,(∀ e ∈ l,Region.binds .any e = true -> e.on < i) -> (l.filter (Region.binds .any ·)).flatMap (fun e=>e.on :: (more.take i).getD e.on []) = (l.filter (Region.binds .any ·)).flatMap fun e=>e.on :: more.getD e.on []:=by
  intro l hl
  induction l with
  | nil=>rfl
  | cons x xs ih =>
   have ih:=ih fun e he=>hl e (List.mem_cons_of_mem _ he)
   by_cases hb:Region.binds .any x = true
   · have hx:=hl x (by simp) hb
     simp only [List.filter_cons,hb,if_true,List.flatMap_cons,ih]
     congr 2
     simp [List.getD_eq_getElem?_getD,List.getElem?_take,hx]
   · simp only [List.filter_cons,hb]; exact ih
 exact congrArg ded (this _ fun e he=>hord i o hi e (by simpa using he))
theorem preds_mem (hord:∀ i o,ops[i]? = some o -> ∀ e ∈ o.after,Region.binds .any e = true -> e.on < i) {i:Nat} {o:Oper} (hi:ops[i]? = some o) {j:Nat} :
 j ∈ (predsOf ops).getD i [] ↔ ∃ e ∈ o.after,Region.binds .any e = true /\ (j = e.on \/ j ∈ (predsOf ops).getD e.on []):=by
 rw [preds_at hord hi,predF,mem_ded,List.mem_flatMap]
 constructor
 · rintro ⟨e,he,hj⟩
   rw [List.mem_filter] at he
   exact ⟨e,by simpa using he.1,he.2,by simpa using hj⟩
 · rintro ⟨e,he,hb,hj⟩
   exact ⟨e,List.mem_filter.2 ⟨by simpa using he,hb⟩,by simpa using hj⟩
theorem preds_lt (hord:∀ i o,ops[i]? = some o -> ∀ e ∈ o.after,Region.binds .any e = true -> e.on < i):∀ (n i:Nat),i < n -> ∀ j ∈ (predsOf ops).getD i [],j < i
 | 0,i,hi,_,_=>absurd hi (Nat.not_lt_zero _)
 | n + 1,i,hi,j,hj=>by
  cases ho:ops[i]? with
  | none =>
   exfalso
   obtain ⟨more,h1,h2,h3⟩:=preds_fold ops.toList []
   have hp:predsOf ops = more:=by simpa [predsOf,predF] using h1
   have:ops.size <= i:=by simpa using ho
   rw [hp,List.getD_eq_getElem?_getD,List.getElem?_eq_none (by rw [h2]; simpa using this)] at hj
   simp at hj
  | some o =>
   obtain ⟨e,he,hb,hj⟩:=(preds_mem hord ho).1 hj
   have:=hord i o ho e he hb
   rcases hj with rfl | hj
   · exact this
   · exact Nat.lt_trans (preds_lt hord n e.on (by omega) j hj) this
end
structure Drw (P:Program) (C:Calls') (ops:Array Oper) (os:List RO) (pr:Nat -> Nat -> Prop) (E:Nat -> Env) (H:Nat -> Hp) (S:Nat -> Stp):Prop where
 len:os.length = ops.size
 comp:∀ k (hk:k < os.length) o,ops[k]? = some o -> compO P ops o = some os[k]
 step:∀ k (hk:k < os.length),stepD C os[k] (E k) (H k) = some (S k) /\ E (k + 1) = setD (E k) os[k].d (S k).v /\ H (k + 1) = (S k).h'
 st:∀ k,k <= os.length -> Stands (E k) (H k)
 plt:∀ k j,pr k j -> j < k
 pto:∀ k o,ops[k]? = some o -> ∀ j,pr k j -> ∃ e ∈ o.after,Region.binds .any e = true /\ (j = e.on \/ pr e.on j)
 pin:∀ k o,ops[k]? = some o -> ∀ e ∈ o.after,Region.binds .any e = true -> pr k e.on
 apart:∀ i j,i < os.length -> j < os.length -> i ≠ j -> ¬ pr i j -> ¬ pr j i -> (S i).t.spares (S j).t = true
 dst:∀ i j (hi:i < os.length) (hj:j < os.length) d,os[j].d = some d -> (i ≠ j -> os[i].d ≠ some d) /\ (d ∈ seesO os[i] -> pr i j \/ pr j i)
section
variable {P:Program} {C:Calls'} {ops:Array Oper} {os:List RO} {pr:Nat -> Nat -> Prop} {E:Nat -> Env} {H:Nat -> Hp} {S:Nat -> Stp}
theorem Drw.tr (hC:CallsOk P C) (D:Drw P C ops os pr E H S) {k:Nat} (hk:k < os.length):TrOk (H k) (H (k + 1)) (S k).t:=by
 obtain ⟨h1,h2,h3⟩:=D.step k hk
 rw [h3]; exact stepD_tr hC h1
theorem Drw.mono (hC:CallsOk P C) (D:Drw P C ops os pr E H S) {k:Nat}:∀ d,k + d <= os.length -> (H k).bs.length <= (H (k + d)).bs.length
 | 0,_=>Nat.le_refl _
 | d + 1,hd=>Nat.le_trans (D.mono hC d (by omega)) (D.tr hC (k:=k + d) (by omega)).le
theorem Drw.le (hC:CallsOk P C) (D:Drw P C ops os pr E H S) {k j:Nat} (hkj:k <= j) (hj:j <= os.length):(H k).bs.length <= (H j).bs.length:=by
 have:=D.mono hC (k:=k) (j - k) (by omega)
 rwa [show k + (j - k) = j from by omega] at this
def chgB (H:Nat -> Hp) (k b:Nat):Prop:=(H (k + 1)).bs[b]? ≠ (H k).bs[b]?
theorem Drw.ord (hC:CallsOk P C) (D:Drw P C ops os pr E H S) {k i b:Nat} (hk:k < os.length) (hi:i < os.length) (hne:k ≠ i) (hc:chgB H k b) (hl:(S i).t.looks b):pr i k \/ pr k i:=by
 apply Classical.byContradiction
 intro hno
 have ti:=D.tr hC hi
 exact spares_no (D.tr hC hk) ti.call ti.big (D.apart k i hk hi hne (fun q=>hno (.inr q)) fun q=>hno (.inl q)) hc hl
theorem Drw.later_looks (hC:CallsOk P C) (D:Drw P C ops os pr E H S) {k i b:Nat} (hk:k < i) (hi:i < os.length) (hc:chgB H k b) (hc2:chgB H i b):(S i).t.looks b:=by
 have ti:=D.tr hC hi
 rcases ti.chg b hc2 with q | q | q
 · exact .inl (ti.wr b q)
 · exfalso
   have l1:=D.le hC (k:=k + 1) (j:=i) (by omega) (by omega)
   have l0:=(D.tr hC (k:=k) (by omega)).le
   have:=ti.lo
   apply hc
   rw [List.getElem?_eq_none (by omega),List.getElem?_eq_none (by omega)]
 · exact .inr ⟨ti.big q.1,q.2.2⟩
theorem Drw.ord2 (hC:CallsOk P C) (D:Drw P C ops os pr E H S) {k i b:Nat} (hk:k < os.length) (hi:i < os.length) (hne:k ≠ i) (hc:chgB H k b) (hc2:chgB H i b):pr i k \/ pr k i:=by
 rcases Nat.lt_or_gt_of_ne hne with h1 | h1
 · exact D.ord hC hk hi hne hc (D.later_looks hC h1 hi hc hc2)
 · exact (D.ord hC hi hk (Ne.symm hne) hc2 (D.later_looks hC h1 hk hc2 hc)).symm
def isD (os:List RO) (t k:Nat):Prop:=∃ o,os[k]? = some o /\ o.d = some t
structure Mid (P:Program) (C:Calls') (os:List RO) (pr:Nat -> Nat -> Prop) (E:Nat -> Env) (H:Nat -> Hp) (B:Nat) (ρ0:Rh) (w0:World) (a0:Act) (lst:Nat -> Prop) (a:Act) (w:World) (ρ:Rh) (hS:Hp) (eS:Env):Prop where
 rel:Rel B ρ hS w
 goes:Goes B ρ0 w0 ρ w
 er:ER ρ w eS a.tmps
 defers:a.defers = a0.defers
 len:hS.bs.length = (H os.length).bs.length
 elen:eS.length = (E 0).length
 down:∀ k j,k < os.length -> lst k -> pr k j -> lst j
 env:∀ t j,j <= os.length -> (∀ k,k < j -> isD os t k -> lst k) -> (∀ k,j <= k -> k < os.length -> isD os t k -> ¬ lst k) -> eS.getD t .undef = (E j).getD t .undef
 mem:∀ b j,j <= os.length -> (∀ k,k < j -> chgB H k b -> lst k) -> (∀ k,j <= k -> k < os.length -> chgB H k b -> ¬ lst k) -> hS.bs.getD b (.cells []) = (H j).bs.getD b (.cells [])
 num:∀ b,ρ.N b -> b < (H 0).bs.length \/ ∃ k,k < os.length /\ lst k /\ (H k).bs.length <= b /\ b < (H (k + 1)).bs.length
 gs:∀ b,ρ.G b -> b < (H 0).bs.length
theorem setD_len (e:Env) (d:Option Nat) (v:V):(setD e d v).length = e.length:=by cases d <;> simp [setD]
theorem Drw.elen (D:Drw P C ops os pr E H S):∀ k,k <= os.length -> (E k).length = (E 0).length
 | 0,_=>rfl
 | k + 1,hk=>by rw [(D.step k (by omega)).2.1,setD_len]; exact D.elen k (by omega)
theorem setD_get {e:Env} {d:Option Nat} {v:V} {t:Nat} (h:d ≠ some t):(setD e d v).getD t .undef = e.getD t .undef:=by
 cases d with
 | none=>rfl
 | some d =>
  have:d ≠ t:=fun e=>h (by rw [e])
  simp [setD,List.getD_eq_getElem?_getD,List.getElem?_set,this]
theorem setD_at {e e2:Env} {v:V} {t:Nat} (hl:e.length = e2.length):(setD e (some t) v).getD t .undef = (setD e2 (some t) v).getD t .undef:=by
 simp only [setD,List.getD_eq_getElem?_getD,List.getElem?_set]
 by_cases h:t < e.length
 · simp [h,show t < e2.length from by omega]
 · simp [h,show ¬ t < e2.length from by omega]
theorem Mid.slots (D:Drw P C ops os pr E H S) {B:Nat} {ρ0 ρ:Rh} {w0 w:World} {a0 a:Act} {lst:Nat -> Prop} {hS:Hp} {eS:Env} (M:Mid P C os pr E H B ρ0 w0 a0 lst a w ρ hS eS) {i:Nat} (hi:i < os.length) (hnl:¬ lst i) (hpre:∀ j,pr i j -> lst j)
 {t:Nat} (ht:t ∈ seesO os[i]):eS.getD t .undef = (E i).getD t .undef:=by
 have key:∀ k,k < os.length -> isD os t k -> pr i k \/ pr k i:=by
  rintro k hk ⟨o,ho,hd⟩
  have:os[k] = o:=by rw [List.getElem?_eq_getElem hk] at ho; exact Option.some.inj ho
  exact (D.dst i k hi hk t (by rw [this]; exact hd)).2 ht
 refine M.env t i (by omega) (fun k hk hd=>?_) fun k hk hkn hd hlk=>?_
 · rcases key k (by omega) hd with q | q
   · exact hpre k q
   · have:=D.plt _ _ q; omega
 · rcases key k hkn hd with q | q
   · have:=D.plt _ _ q; omega
   · exact hnl (M.down k i hkn hlk q)
theorem Mid.blocks (hC:CallsOk P C) (D:Drw P C ops os pr E H S) {B:Nat} {ρ0 ρ:Rh} {w0 w:World} {a0 a:Act} {lst:Nat -> Prop} {hS:Hp} {eS:Env} (M:Mid P C os pr E H B ρ0 w0 a0 lst a w ρ hS eS) {i:Nat} (hi:i < os.length) (hnl:¬ lst i) (hpre:∀ j,pr i j -> lst j)
 {b:Nat} (hb:(S i).t.looks b):hS.bs.getD b (.cells []) = (H i).bs.getD b (.cells []):=by
 refine M.mem b i (by omega) (fun k hk hd=>?_) fun k hk hkn hd hlk=>?_
 · rcases D.ord hC (by omega) hi (by omega) hd hb with q | q
   · exact hpre k q
   · have:=D.plt _ _ q; omega
 · have hne:k ≠ i:=by rintro rfl; exact hnl hlk
   rcases D.ord hC hkn hi hne hd hb with q | q
   · have:=D.plt _ _ q; omega
   · exact hnl (M.down k i hkn hlk q)
theorem Mid.next (hC:CallsOk P C) (D:Drw P C ops os pr E H S) {B:Nat} {ρ0 ρ ρ':Rh} {w0 w w':World} {a0 a a':Act} {lst lst':Nat -> Prop} {hS hS':Hp} {eS:Env} (M:Mid P C os pr E H B ρ0 w0 a0 lst a w ρ hS eS) {i:Nat} (hi:i < os.length) (hnl:¬ lst i) (hpre:∀ j,pr i j -> lst j)
 (hl:∀ k,lst' k ↔ (lst k \/ k = i)) (hR:Rel B ρ' hS' w') (hG:Goes B ρ w ρ' w') (hE:ER ρ' w' (setD eS os[i].d (S i).v) a'.tmps) (hd:a'.defers = a.defers) (hlen:hS'.bs.length = hS.bs.length)
 (h1:∀ b,chgB H i b -> hS'.bs.getD b (.cells []) = (H (i + 1)).bs.getD b (.cells [])) (h2:∀ b,¬ chgB H i b -> hS'.bs.getD b (.cells []) = hS.bs.getD b (.cells []))
 (hN:∀ b,ρ'.N b -> ρ.N b \/ ((H i).bs.length <= b /\ b < (H (i + 1)).bs.length)):Mid P C os pr E H B ρ0 w0 a0 lst' a' w' ρ' hS' (setD eS os[i].d (S i).v) where
 rel:=hR
 goes:=M.goes.trans hG
 er:=hE
 defers:=hd.trans M.defers
 len:=hlen.trans M.len
 elen:=by rw [setD_len]; exact M.elen
 down k j hk hlk hp:=by
  rcases (hl k).1 hlk with q | rfl
  · exact (hl j).2 (.inl (M.down k j hk q hp))
  · exact (hl j).2 (.inl (hpre j hp))
 env t:=by
  refine cut_step (chg:=isD os t) (val:=fun j=>(E j).getD t .undef) hi hl hnl (fun k hk hn=>?_) (M.env t) (fun hc=>?_) fun hn=>?_
  · rw [(D.step k hk).2.1]
    exact setD_get fun q=>hn ⟨os[k],List.getElem?_eq_getElem hk,q⟩
  · obtain ⟨o,ho,hdt⟩:=hc
    have he:os[i] = o:=by rw [List.getElem?_eq_getElem hi] at ho; exact Option.some.inj ho
    refine ⟨?_,fun k hik hkn hck hlk=>?_⟩
    · rw [(D.step i hi).2.1,he,hdt]
      exact setD_at (by rw [M.elen,D.elen i (by omega)])
    · obtain ⟨o2,ho2,hdt2⟩:=hck
      have he2:os[k] = o2:=by rw [List.getElem?_eq_getElem hkn] at ho2; exact Option.some.inj ho2
      exact (D.dst k i hkn hi t (by rw [he]; exact hdt)).1 (by omega) (by rw [he2]; exact hdt2)
  · exact setD_get fun q=>hn ⟨os[i],List.getElem?_eq_getElem hi,q⟩
 mem b:=by
  refine cut_step (chg:=fun k=>chgB H k b) (val:=fun j=>(H j).bs.getD b (.cells [])) hi hl hnl (fun k hk hn=>?_) (M.mem b) (fun hc=>⟨h1 b hc,fun k hik hkn hck hlk=>?_⟩) fun hn=>h2 b hn
  · have:(H (k + 1)).bs[b]? = (H k).bs[b]?:=Classical.byContradiction hn
    simp only [List.getD_eq_getElem?_getD,this]
  · rcases D.ord2 hC hkn hi (by omega) hck hc with q | q
    · have:=D.plt _ _ q; omega
    · exact hnl (M.down k i hkn hlk q)
 num b hb:=by
  rcases hN b hb with q | q
  · rcases M.num b q with p | ⟨k,p1,p2,p3⟩
    · exact .inl p
    · exact .inr ⟨k,p1,(hl k).2 (.inl p2),p3⟩
  · exact .inr ⟨i,hi,(hl i).2 (.inr rfl),q⟩
 gs b hb:=M.gs b (by rw [← hG.ext.g]; exact hb)
end
end Go.Proofs.YtmahnnnccohccaaGreat
