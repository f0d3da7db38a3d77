/- slices.IndexFunc over rows of scalars, slices.ContainsFunc, policy.all: at any width. -/
import Derived.Test.YthkeklemhcfbcaaGreatGn
import Derived.Test.YthkeklemhcfbcaaGreatSa
import Derived.Laws.RangeString
import Derived.KernelRfl
set_option maxRecDepth 100000
set_option linter.unusedVariables false
set_option linter.unusedSimpArgs false
namespace Go.Proofs.YthkeklemhcfbcaaGreat
def idx1B:QC:=(.seq (.reg none [op 9 (.bin .lss (.t 8) (.t 7))]) (.seq (.cond (.t 9) .skip (.exit 0 [])) (.seq (.block 1 (.seq (.reg none [mv 10 8,mv 5 10]) (.seq (.reg none [mv 11 1,mv 12 0,mv 13 5,op 14 (.idxA none 1 (.t 12) (.t 13)),op 15 (.load true 1 (.t 14)),op 16 (.call (.t 11) [.t 15])]) (.cond (.t 16) (.seq (.reg none [mv 17 5,mv 4 17]) (.ret [4])) .skip)))) (.reg none [op 18 (.bin .add (.t 8) (ci 1)),mv 8 18]))))
def idx1Q:QF:=⟨19,[.tmp 4],(.seq (.reg none [op 4 (.mov (ci 0))]) (.seq (.seq (.reg none [mv 6 0,op 7 (.len false (.t 6)),op 8 (.mov (ci 0))]) (.block 0 (.loop [0,1,7,8] idx1B))) (.seq (.reg none [op 4 (.mov (.c (.d (.int .i64 (-1)))))]) (.ret [4]))))⟩
def anyQ (idx:Nat):QF:=⟨9,[.tmp 4],(.seq (.reg none [op 4 (.mov (.c (.d (.bool false))))]) (.seq (.reg none [mv 5 0,mv 6 1,op 7 (.call (.c (.fn idx [])) [.t 5,.t 6]),op 8 (.bin .geq (.t 7) (ci 0)),mv 4 8]) (.ret [4])))⟩
def allQ (con clo:Nat):QF:=⟨17,[.tmp 6],(.seq (.reg none [op 5 (.box (.t 2)),op 6 (.mov (.c (.d (.bool false))))]) (.seq (.reg none [mv 7 1,op 8 (.len false (.t 7)),mv 9 0,op 10 (.bin .leq (.t 8) (.t 9)),mv 11 10,ot 11 12 (.mov (.t 1)),ot 11 13 (.mkfn clo [.t 5]),ot 11 14 (.call (.c (.fn con [])) [.t 12,.t 13]),ot 11 15 (.un .not (.t 14)),op 16 (.pick (.t 11) (.t 15) (.c (.d (.bool false)))),mv 6 16]) (.ret [6])))⟩
def notQ (z:Nat):QF:=⟨8,[.tmp 3],(.seq (.reg none [op 2 (.box (.t 0)),op 3 (.mov (.c (.d (.bool false))))]) (.seq (.reg none [op 4 (.load true 1 (.t 1)),op 5 (.load false z (.t 2)),op 6 (.call (.t 4) [.t 5]),op 7 (.un .not (.t 6)),mv 3 7]) (.ret [3])))⟩
def not1Q:QF:=⟨8,[.tmp 3],(.seq (.reg none [op 3 (.mov (.c (.d (.bool false))))]) (.seq (.reg none [op 4 (.load true 1 (.t 1)),mv 5 0,op 6 (.call (.t 4) [.t 5]),op 7 (.un .not (.t 6)),mv 3 7]) (.ret [3])))⟩
section
variable {E:Calls'} {T:FuncId -> Option QF} {val:FuncId -> Bool}
theorem idx1_loop {α:Type} {cell:α -> D} {bs:List Blk} {lo:Nat} {v:V} {es:List α} (hr:RowIs bs v 1 (es.map fun x=>[cell x])) {f:FuncId} {caps:List V} {q:α -> Bool} (hlen:es.length < 2 ^ 62)
 (hf:∀ e ∈ es,Sm E T val f (.d (cell e) :: caps) ⟨bs,lo⟩ = some (.d (.bool (q e)),⟨bs,lo⟩)):∀ (m i:Nat),i + m = es.length →
   Cd E T val (.loop [0,1,7,8] idx1B) [(0,v),(1,.fn f caps),(7,.d (.int .i64 es.length)),(8,.d (.int .i64 i))] ⟨bs,lo⟩ =
    match (es.drop i).findIdx? q with
    | some k=>some (.ret,[(4,.d (.int .i64 (i + k:Nat)))],⟨bs,lo⟩)
    | none=>some (.exit 0,[],⟨bs,lo⟩):=by
 intro m
 have key:=Cd_round (E:=E) (T:=T) (val:=val) [0,1,7,8] idx1B
 generalize Cd E T val (.loop [0,1,7,8] idx1B) = W at key ⊢
 induction m with
 | zero =>
  intro i hi
  have h0:es.drop i = []:=List.drop_eq_nil_of_le (by omega)
  rw [key]
  simp [idx1B,h0,show ¬ ((i:Int) < es.length) from by omega]
 | succ m ih =>
  intro i hi
  have hlt:i < es.length:=by omega
  have hd:es.drop i = es[i] :: es.drop (i + 1):=List.drop_eq_getElem_cons hlt
  obtain ⟨p,hp1,hp2⟩:=hr.at hlt (l:=lo)
  have hv:=hr.ok
  have hcall:=hf _ (List.getElem_mem hlt)
  generalize es[i] = x at *
  rw [key,hd]
  cases hq:q x with
  | true=>simp [idx1B,hv,hp1,ldv,hp2,hcall,hq,List.findIdx?_cons,show ((i:Int) < es.length) from by omega]
  | false =>
   have hw:IntKind.wrap .i64 ((i:Int) + 1) = ((i + 1:Nat):Int):=by rw [wrap64] <;> omega
   have:=ih (i + 1) (by omega)
   simp [idx1B,hv,hp1,ldv,hp2,hcall,hq,List.findIdx?_cons,hw,show ((i:Int) < es.length) from by omega]
   rw [show ((i:Int) + 1) = ((i + 1:Nat):Int) from by omega,this]
   cases hfi:(es.drop (i + 1)).findIdx? q with
   | none=>rfl
   | some k=>simp; omega
theorem S_idx1 {α:Type} (cell:α -> D) {id:FuncId} (ht:T id = some idx1Q) (hvl:val id = false) {v:V} {es:List α} {f:FuncId} {caps:List V} {q:α -> Bool} {h:Hp} (hr:RowIs h.bs v 1 (es.map fun x=>[cell x])) (hlen:es.length < 2 ^ 62)
 (hf:∀ e ∈ es,∀ lo,Sm E T val f (.d (cell e) :: caps) ⟨h.bs,lo⟩ = some (.d (.bool (q e)),⟨h.bs,lo⟩)):Sm E T val id [v,.fn f caps] h = some (.d (.int .i64 (idxI es q)),h):=by
 rw [Sm_ref ht hvl]
 have hl:=idx1_loop hr hlen (fun e he=>hf e he h.bs.length) es.length 0 (by omega)
 have hv:=hr.ok
 have hn:=hr.lenT
 simp [idx1Q,Bd_mk,hv,hn,idxI]
 rw [Cd_keep]
 simp at hl
 simp [hl]
 cases es.findIdx? q with
 | none=>simp [V.under]
 | some k=>simp [V.under]
theorem idxI_any {α:Type} (es:List α) (q:α -> Bool):decide (idxI es q >= 0) = es.any q:=by
 rcases idx_cases es q with ⟨h1,h2⟩ | ⟨k,e,h1,h2,h3⟩
 · rw [h2]
   have:es.any q = false:=by
    rw [List.any_eq_false]
    intro x hx
    simpa using List.find?_eq_none.1 h1 x hx
   rw [this]; rfl
 · rw [h2]
   have:es.any q = true:=List.any_eq_true.2 ⟨e,List.mem_of_find?_eq_some h1,List.find?_some h1⟩
   rw [this]
   simp
theorem RowIs.okv {bs:List Blk} {v:V} {z:Nat} {es:List (List D)} (h:RowIs bs v z es):okV v = true:=by
 rcases h.2 with ⟨nl,rfl⟩ | ⟨b,o,cap,cs,rfl,_⟩ <;> rfl
theorem S_anyI {id idx:FuncId} (ht:T id = some (anyQ idx)) (hv:val id = false) {v:V} {f:FuncId} {caps:List V} {n:Int} {h:Hp} (hnu:nu v = some v) (hok:okV v = true) (hi:Sm E T val idx [v,.fn f caps] ⟨h.bs,h.bs.length⟩ = some (.d (.int .i64 n),⟨h.bs,h.bs.length⟩)) :
 Sm E T val id [v,.fn f caps] h = some (bl (decide (n >= 0)),h):=by
 rw [Sm_ref ht hv]
 simp [anyQ,Bd_mk,hnu,hok,hi,V.under]
theorem S_any {α:Type} (cells:α -> List D) {z:Nat} {idx id:FuncId} (hti:T idx = some (idxQ z)) (hvi:val idx = false) (ht:T id = some (anyQ idx)) (hv:val id = false) {v:V} {es:List α} {f:FuncId} {caps:List V} {q:α -> Bool} {h:Hp} (hr:RowIs h.bs v z (es.map cells)) (hlen:es.length < 2 ^ 62)
 (hf:∀ e ∈ es,∀ lo,Sm E T val f (.agg ((cells e).map .d) :: caps) ⟨h.bs,lo⟩ = some (.d (.bool (q e)),⟨h.bs,lo⟩)):Sm E T val id [v,.fn f caps] h = some (bl (es.any q),h):=by
 rw [S_anyI ht hv hr.ok hr.okv (S_idx (h:=⟨h.bs,h.bs.length⟩) cells hti hvi hr hlen hf),idxI_any]
theorem S_any1 {α:Type} (cell:α -> D) {idx id:FuncId} (hti:T idx = some idx1Q) (hvi:val idx = false) (ht:T id = some (anyQ idx)) (hv:val id = false) {v:V} {es:List α} {f:FuncId} {caps:List V} {q:α -> Bool} {h:Hp} (hr:RowIs h.bs v 1 (es.map fun x=>[cell x])) (hlen:es.length < 2 ^ 62)
 (hf:∀ e ∈ es,∀ lo,Sm E T val f (.d (cell e) :: caps) ⟨h.bs,lo⟩ = some (.d (.bool (q e)),⟨h.bs,lo⟩)):Sm E T val id [v,.fn f caps] h = some (bl (es.any q),h):=by
 rw [S_anyI ht hv hr.ok hr.okv (S_idx1 (h:=⟨h.bs,h.bs.length⟩) cell hti hvi hr hlen hf),idxI_any]
theorem S_not {id:FuncId} {z:Nat} (ht:T id = some (notQ z)) (hv:val id = false) {c:List D} (hc:c.length = z) {f:FuncId} {x:Nat} {p:Bool} {h:Hp} (hp:getB h.bs x = some [.fn f []])
 (hf:∀ h,Sm E T val f [ag c] h = some (bl p,h)):Sm E T val id [ag c,.ptr x 0] h = some (bl (!p),h):=by
 rw [Sm_ref ht hv]
 have hs:=sub_all hc
 simp [notQ,Bd_mk,getB_of hp,hf,hs,V.under]
theorem S_not1 {id:FuncId} (ht:T id = some not1Q) (hv:val id = false) {c:D} {f:FuncId} {x:Nat} {p:Bool} {h:Hp} (hp:getB h.bs x = some [.fn f []])
 (hf:∀ h,Sm E T val f [.d c] h = some (bl p,h)):Sm E T val id [.d c,.ptr x 0] h = some (bl (!p),h):=by
 rw [Sm_ref ht hv]
 simp [not1Q,Bd_mk,hp,hf,V.under]
theorem all_not {α:Type} (l:List α) (p:α -> Bool):(!l.any fun x=>!p x) = l.all p:=by
 induction l with
 | nil=>rfl
 | cons x l ih=>simp only [List.any_cons,List.all_cons,Bool.not_or,Bool.not_not,ih]
theorem S_all {α:Type} {cells:α -> List D} {z:Nat} {idx con clo id:FuncId} (hti:T idx = some (idxQ z)) (hvi:val idx = false) (htc:T con = some (anyQ idx)) (hvc:val con = false) (htn:T clo = some (notQ z)) (hvn:val clo = false) (ht:T id = some (allQ con clo)) (hv:val id = true)
 (hz:∀ x,(cells x).length = z) {s:Sl α} (hs:short s) {m:Int} {f:FuncId} {p:α -> Bool} (hf:∀ e ∈ s.l,∀ h,Sm E T val f [ag (cells e)] h = some (bl (p e),h)) (h:Hp) :
 Sm E T val id [.d (i64 m),.d (s.d cells),.fn f []] h = some (bl (decide ((s.l.length:Int) <= m) && s.l.all p),h):=by
 rw [Sm_v ht hv]
 have hfr:frz h (.fn f []) = some (.fn f []):=rfl
 have hlen:s.l.length < 2 ^ 62:=hs.lt
 have hany:=S_any (E:=E) (T:=T) (val:=val) cells (z:=z) hti hvi htc hvc (v:=.d (s.d cells)) (es:=s.l) (f:=clo) (caps:=[.ptr 0 0]) (q:=fun x=>!p x) (h:=⟨[.cells [.fn f []]],0⟩) (RowIs.of hz _) hlen (fun e he lo=>S_not htn hvn (hz e) (by simp [getB]) (hf e he))
 by_cases hm:(s.l.length:Int) <= m
 · simp [Bd_mk,allQ,hfr,hm,hany,opsA_if,pureV,← all_not]
 · simp [Bd_mk,allQ,hfr,hm,hany,opsA_if,pureV]
theorem S_all1 {α:Type} {cell:α -> D} {idx con clo id:FuncId} (hti:T idx = some idx1Q) (hvi:val idx = false) (htc:T con = some (anyQ idx)) (hvc:val con = false) (htn:T clo = some not1Q) (hvn:val clo = false) (ht:T id = some (allQ con clo)) (hv:val id = true)
 {s:Sl α} (hs:short s) {m:Int} {f:FuncId} {p:α -> Bool} (hf:∀ e ∈ s.l,∀ h,Sm E T val f [.d (cell e)] h = some (bl (p e),h)) (h:Hp) :
 Sm E T val id [.d (i64 m),.d (s.d fun x=>[cell x]),.fn f []] h = some (bl (decide ((s.l.length:Int) <= m) && s.l.all p),h):=by
 rw [Sm_v ht hv]
 have hfr:frz h (.fn f []) = some (.fn f []):=rfl
 have hlen:s.l.length < 2 ^ 62:=hs.lt
 have hany:=S_any1 (E:=E) (T:=T) (val:=val) cell hti hvi htc hvc (v:=.d (s.d fun x=>[cell x])) (es:=s.l) (f:=clo) (caps:=[.ptr 0 0]) (q:=fun x=>!p x) (h:=⟨[.cells [.fn f []]],0⟩) (RowIs.of (cells:=fun x=>[cell x]) (z:=1) (fun _=>rfl) _) hlen (fun e he lo=>S_not1 htn hvn (by simp [getB]) (hf e he))
 by_cases hm:(s.l.length:Int) <= m
 · simp [Bd_mk,allQ,hfr,hm,hany,opsA_if,pureV,← all_not]
 · simp [Bd_mk,allQ,hfr,hm,hany,opsA_if,pureV]
end
end Go.Proofs.YthkeklemhcfbcaaGreat
namespace Go.Proofs.YthkeklemhcfbcaaGreat
def idxSv (x i:V) (h:Hp):Option (V × Hp):=match i,x with
 | .d (.int _ i),.d (.str s)=>if 0 <= i then (match s.toList[i.toNat]? with | some b=>some (.d (.int .u8 b.toNat),h) | none=>none) else none
 | _,_=>none
section
variable {C:Calls'} {ev:X -> V} {h:Hp}
@[simp] theorem opE_idxS {x i:X}:opE C (.idxS x i) ev h = idxSv (ev x) (ev i) h:=(rfl)
end
theorem idxSv_at {s:ByteArray} {k:Nat} {b:UInt8} {h:Hp} (hk:s.toList[k]? = some b):idxSv (.d (.str s)) (.d (.int .i64 k)) h = some (.d (.int .u8 b.toNat),h):=by
 simp [idxSv,hk]
theorem str_len (s:ByteArray):s.toList.length = s.size:=by rw [bytes_toList]; rfl
variable {E:Calls'}
def badB (b:UInt8):Bool:=decide ((b.toNat:Int) < 33) || (decide ((b.toNat:Int) > 126) || ((b.toNat:Int) == 42 || (b.toNat:Int) == 44))
def strBad:List UInt8 -> Bool
 | []=>false
 | b :: l=>badB b || strBad l
def termMay (t:Term):Bool:=!strBad t.text.toList && (if t.kind == 4 then eqS t.text ⟨#[]⟩ else decide (1 <= t.kind) && (decide (t.kind <= 3) && (decide ((t.text.size:Int) >= 1) && decide ((t.text.size:Int) <= 64))))
theorem L486 (t:Term) (ht:t.text.size <= big):∀ (m i:Nat),i + m = t.text.size →
 Cd E TT valT (.loop [1,3] q486_b0) [(1,.ptr 0 0),(3,.d (i64 i))] ⟨[.cells (t.c.map .d)],0⟩ =
  if strBad (t.text.toList.drop i) then some (.ret,[(2,bl false)],⟨[.cells (t.c.map .d)],0⟩) else some (.exit 0,[(1,.ptr 0 0)],⟨[.cells (t.c.map .d)],0⟩):=by
 have hlt:t.text.size < 2 ^ 62:=Nat.lt_of_le_of_lt ht (by decide)
 have hsl:=str_len t.text
 intro m
 have key:=Cd_round (E:=E) (T:=TT) (val:=valT) [1,3] q486_b0
 generalize Cd E TT valT (.loop [1,3] q486_b0) = W at key ⊢
 induction m with
 | zero =>
  intro i hi
  rw [key,List.drop_eq_nil_of_le (by omega)]
  simp [q486_b0,strBad,show ¬ ((i:Int) < t.text.size) from by omega]
 | succ m ih =>
  intro i hi
  have h1:i < t.text.toList.length:=by omega
  have hx:=fun h=>idxSv_at (h:=h) (List.getElem?_eq_getElem h1)
  have hw:=int_next (show i < t.text.size by omega) hlt
  have:=ih (i + 1) (by omega)
  rw [key,List.drop_eq_getElem_cons h1]
  generalize t.text.toList[i] = b at *
  have h0:((i:Int) < t.text.size):=by omega
  by_cases c1:(b.toNat:Int) < 33
  · simp [q486_b0,hx,c1,strBad,badB,opsA_if,h0]
  · by_cases c2:(b.toNat:Int) > 126
    · simp [q486_b0,hx,c1,c2,strBad,badB,opsA_if,h0]
    · by_cases c3:(b.toNat:Int) = 42
      · simp [q486_b0,hx,c3,strBad,badB,opsA_if,h0]
      · by_cases c4:(b.toNat:Int) = 44
        · simp [q486_b0,hx,c4,strBad,badB,opsA_if,h0]
        · have hb:badB b = false:=by simp [badB,c1,c2,c3,c4]
          simp [strBad,hb,q486_b0,hx,c1,c2,c3,c4,opsA_if,h0,hw]
          simpa using this
theorem S486 (t:Term) (ht:t.text.size <= big) (h:Hp):Sm E TT valT 285 [ag t.c] h = some (bl (termMay t),h):=by
 rw [Sm_v t486 v486]
 have k1:=L486 (E:=E) t ht t.text.size 0 (by omega)
 simp at k1
 simp [Bd_mk,q486]
 rw [Cd_keep]
 simp [k1]
 cases hb:strBad t.text.toList with
 | true=>simp [termMay,hb]
 | false =>
  by_cases c0:t.kind = 4
  · simp [termMay,hb,c0]
  · by_cases c1:t.kind >= 1 <;> by_cases c2:t.kind <= 3 <;> by_cases c3:(t.text.size:Int) >= 1 <;> simp [termMay,hb,c0,opsA_if,c1,c2,c3]
theorem u498:TT 303 = some (idxQ 2):=t498
theorem u484:TT 283 = some (anyQ 303):=t484
theorem u483:TT 282 = some idx1Q:=t483
theorem u466:TT 249 = some (anyQ 282):=t466
theorem S485 (t:Term) (ht:t.text.size <= big) (h:Hp):Sm E TT valT 284 [ag t.c] h = some (bl (!termMay t),h):=by
 rw [Sm_ref t485 v485]
 simp [Bd_mk,q485,S486 t ht,V.under]
def termsMay (s:Sl Term):Bool:=decide ((s.l.length:Int) <= 6) && s.l.all termMay
theorem S468 (s:Sl Term) (hs:short s) (ht:∀ t ∈ s.l,t.text.size <= big) (h:Hp):Sm E TT valT 251 [.d (s.d Term.c)] h = some (bl (termsMay s),h):=by
 rw [Sm_v t468 v468]
 have hany:=S_any (E:=E) (T:=TT) (val:=valT) Term.c (z:=2) u498 v498 u484 v484 (v:=.d (s.d Term.c)) (es:=s.l) (f:=284) (caps:=[]) (q:=fun t=>!termMay t) (h:=⟨[],0⟩) (RowIs.of (cells:=Term.c) (z:=2) (fun _=>rfl) _) hs.lt (fun e he lo=>S485 e (ht e he) _)
 by_cases hm:(s.l.length:Int) <= 6
 · simp [Bd_mk,q468,hm,hany,opsA_if,termsMay,← all_not]
 · simp [Bd_mk,q468,hm,hany,opsA_if,termsMay]
theorem S467 (s:Sl Term) (hs:short s) (ht:∀ t ∈ s.l,t.text.size <= big) (h:Hp):Sm E TT valT 250 [.d (s.d Term.c)] h = some (bl (!termsMay s),h):=by
 rw [Sm_ref t467 v467]
 simp [Bd_mk,q467,S468 s hs ht,V.under]
theorem S438 (ls:List (Sl Term)) (hl:ls.length < 2 ^ 62) (hs:∀ s ∈ ls,short s /\ ∀ t ∈ s.l,t.text.size <= big) (a:V) (h:Hp) (ha:frz h a = some (.d (.slice false (ls.map fun s=>[s.d Term.c])))):Sm E TT valT 197 [a] h = some (bl (ls.all termsMay),h):=by
 rw [Sm_v t438 v438]
 have hr:RowIs ([]:List Blk) (.d (.slice false (ls.map fun s=>[s.d Term.c]))) 1 (ls.map fun s=>[s.d Term.c]):=⟨by simp,.inl ⟨false,rfl⟩⟩
 have hany:=S_any1 (E:=E) (T:=TT) (val:=valT) (Sl.d Term.c) u483 v483 u466 v466 (es:=ls) (f:=250) (caps:=[]) (q:=fun s=>!termsMay s) (h:=⟨[],0⟩) hr hl (fun e he lo=>S467 e (hs e he).1 (hs e he).2 _)
 simp [Bd_mk,q438,ha,hany,← all_not,ownR,own1,ownV]
end Go.Proofs.YthkeklemhcfbcaaGreat
namespace Go.Proofs.YthkeklemhcfbcaaGreat
def minmaxv (mx:Bool) (l:List V) (h:Hp):Option (V × Hp):=match l with
 | []=>none
 | x :: xs=>match minmaxM mx x xs with
  | some v=>some (v,h)
  | none=>none
def convIv (k:IntKind) (x:V) (h:Hp):Option (V × Hp):=match x with
 | .d (.int _ n)=>some (.d (.int k (k.wrap n)),h)
 | _=>none
section
variable {C:Calls'} {ev:X -> V} {h:Hp}
@[simp] theorem opE_minmax {mx:Bool} {a b:X}:opE C (.minmax mx [a,b]) ev h = if okV (ev a) && (okV (ev b) && true) then minmaxv mx [ev a,ev b] h else none:=(rfl)
@[simp] theorem opE_convI {k:IntKind} {x:X}:opE C (.convI k x) ev h = convIv k (ev x) h:=(rfl)
@[simp] theorem convIv_int {k k':IntKind} {n:Int}:convIv k (.d (.int k' n)) h = some (.d (.int k (k.wrap n)),h):=(rfl)
@[simp] theorem minmax_t {k:IntKind} {a b:Int}:minmaxv true [.d (.int k a),.d (.int k b)] h = some (.d (.int k (if b > a then b else a)),h):=by simp [minmaxv,minmaxM]
@[simp] theorem minmax_f {k:IntKind} {a b:Int}:minmaxv false [.d (.int k a),.d (.int k b)] h = some (.d (.int k (if b < a then b else a)),h):=by simp [minmaxv,minmaxM]
end
section
variable {k k':IntKind} {a b:Int}
theorem bin_shl (hb:0 <= b):binD .shl (.d (.int k a)) (.d (.int k' b)) = some (.int k (k.wrap (a * 2 ^ (min b.toNat k.bits)))):=by simp [binD,show ¬ b < 0 by omega]
theorem bin_shr (hb:0 <= b):binD .shr (.d (.int k a)) (.d (.int k' b)) = some (.int k (a.fdiv (2 ^ (min b.toNat k.bits)))):=by simp [binD,show ¬ b < 0 by omega]
def andNotI (k:IntKind) (a b:Int):Int:=k.wrap ((BitVec.ofInt k.bits a &&& ~~~ BitVec.ofInt k.bits b).toNat)
theorem bin_andNot:binD .andNot (.d (.int k a)) (.d (.int k b)) = some (.int k (andNotI k a b)):=by simp [binD,binInt,andNotI]
end
variable {E:Calls'}
theorem S299 (n:Int) (h:Hp):Sm E TT valT 114 [.d (i64 n)] h = some (bl (decide (n >= 1) && decide (n <= 65535)),h):=by
 rw [Sm_v t299 v299]
 by_cases c1:n >= 1 <;> simp [Bd_mk,q299,opsA_if,c1]
theorem S304 (n:Int) (h:Hp):Sm E TT valT 119 [.d (u64 n)] h = some (bl (decide (n >= 1) && decide (n <= 4611686018427387903)),h):=by
 rw [Sm_v t304 v304]
 by_cases c1:n >= 1 <;> simp [Bd_mk,q304,opsA_if,c1]
def maskT (n:Int):Int:=IntKind.wrap .u32 (IntKind.wrap .u64 (4294967296 - IntKind.wrap .u64 (1 * 2 ^ (min (IntKind.wrap .i64 (32 - n)).toNat 64))))
theorem S471 (n:Int) (h0:0 <= n) (h1:n <= 32) (h:Hp):Sm E TT valT 254 [.d (i64 n)] h = some (.d (u32 (maskT n)),h):=by
 rw [Sm_v t471 v471]
 have hw:IntKind.wrap .i64 (32 - n) = 32 - n:=wrap64 (by omega) (by omega)
 have hs:=bin_shl (k:=.u64) (k':=.i64) (a:=1) (b:=32 - n) (by omega)
 have e1:(if (0:Int) > n then 0 else n) = n:=if_neg (by omega)
 have e2:(if (32:Int) < n then 32 else n) = n:=if_neg (by omega)
 simp [Bd_mk,q471,hw,hs,e1,e2,maskT,IntKind.bits]
def cidrMay (c:Cidr):Bool:=decide (c.bits >= 0) && (decide (c.bits <= 32) && (andNotI .u32 c.addr (maskT c.bits) == 0))
theorem S440 (c:Cidr) (h:Hp):Sm E TT valT 199 [ag c.c] h = some (bl (cidrMay c),h):=by
 rw [Sm_v t440 v440]
 by_cases c1:c.bits >= 0
 · by_cases c2:c.bits <= 32
   · simp (decide:=true) [Bd_mk,q440,opsA_if,c1,c2,cidrMay,S471 c.bits c1 c2,bin_andNot,openA,opDE_call,noTr]
   · simp (decide:=true) [Bd_mk,q440,opsA_if,c1,c2,cidrMay,openA,noTr]
 · simp (decide:=true) [Bd_mk,q440,opsA_if,c1,cidrMay,openA,noTr]
end Go.Proofs.YthkeklemhcfbcaaGreat
namespace Go.Proofs.YthkeklemhcfbcaaGreat
theorem decode_big (s:ByteArray) (pos:Nat) (h:pos < s.size) (ha:¬ (s[pos]'h).toNat < 128):128 <= (Utf8.decode s pos).1:=by
 have e:s.get! (pos + 0) = s[pos]'h:=by
  show s.get! pos = _
  simp [ByteArray.get!,getElem!_pos,h]
  rfl
 simp only [Utf8.decode,e,ha,if_false]
 repeat' split
 all_goals first | (simp only [Utf8.runeError]; omega) | (rename_i hh; simp only [Bool.and_eq_true,decide_eq_true_eq] at hh; dsimp only; omega) | (rename_i hh; simp only [Bool.and_eq_true,decide_eq_true_eq] at hh; have:=hh.1; dsimp only; omega) | (dsimp only; omega)
def rangev (x:V) (h:Hp):Option (V × Hp):=match x with
 | .d (.str s)=>some (.ptr h.size 0,{ h with bs:=h.bs ++ [.iter s 0] })
 | _=>none
def nextv (x:V) (h:Hp):Option (V × Hp):=match x with
 | .ptr b 0=>match h.bs[b]? with
  | some (.iter s pos) =>
   if pos < s.size then
    let (c,w):=Utf8.decode s pos
    some (.tup [.d (.bool true),.d (.int .i64 pos),.d (.int .i32 c)],⟨h.bs.set b (.iter s (pos + w)),min h.low b⟩)
   else some (.tup [.d (.bool false)],h)
  | _=>none
 | _=>none
section
variable {C:Calls'} {ev:X -> V} {h:Hp}
@[simp] theorem opE_range {x:X}:opE C (.range x) ev h = rangev (ev x) h:=(rfl)
@[simp] theorem opE_next {x:X}:opE C (.next x) ev h = nextv (ev x) h:=(rfl)
@[simp] theorem rangev_s {s:ByteArray}:rangev (.d (.str s)) ⟨[],0⟩ = some (.ptr 0 0,⟨[.iter s 0],0⟩):=(rfl)
end
theorem nextv_end {s:ByteArray} {pos:Nat} (h:¬ pos < s.size):nextv (.ptr 0 0) ⟨[.iter s pos],0⟩ = some (.tup [bl false],⟨[.iter s pos],0⟩):=by simp [nextv,h]
theorem nextv_ascii {s:ByteArray} {pos:Nat} {b:UInt8} (hb:s.toList[pos]? = some b) (ha:b.toNat < 128):nextv (.ptr 0 0) ⟨[.iter s pos],0⟩ = some (.tup [bl true,.d (i64 pos),.d (.int .i32 b.toNat)],⟨[.iter s (pos + 1)],0⟩):=by
 have hl:=str_len s
 have h:pos < s.size:=by rw [← hl]; exact (List.getElem?_eq_some_iff.1 hb).1
 have he:s[pos]'h = b:=by
  have:=(List.getElem?_eq_some_iff.1 hb).2
  simp only [bytes_toList] at this
  exact this
 have hd:=decode_ascii s pos h (by rw [he]; exact ha)
 simp [nextv,h,hd,he]
theorem nextv_big {s:ByteArray} {pos:Nat} {b:UInt8} (hb:s.toList[pos]? = some b) (ha:¬ b.toNat < 128):∃ (c:Nat) (q:Nat),128 <= c /\ nextv (.ptr 0 0) ⟨[.iter s pos],0⟩ = some (.tup [bl true,.d (i64 pos),.d (.int .i32 c)],⟨[.iter s q],0⟩):=by
 have hl:=str_len s
 have h:pos < s.size:=by rw [← hl]; exact (List.getElem?_eq_some_iff.1 hb).1
 have he:s[pos]'h = b:=by
  have:=(List.getElem?_eq_some_iff.1 hb).2
  simp only [bytes_toList] at this
  exact this
 have hd:=decode_big s pos h (by rw [he]; exact ha)
 exact ⟨(Utf8.decode s pos).1,pos + (Utf8.decode s pos).2,hd,by simp [nextv,h]⟩
end Go.Proofs.YthkeklemhcfbcaaGreat
namespace Go.Proofs.YthkeklemhcfbcaaGreat
end Go.Proofs.YthkeklemhcfbcaaGreat
namespace Go.Proofs.YthkeklemhcfbcaaGreat
variable {E:Calls'}
def labC (n i c:Nat):Bool:=!((decide ((c:Int) >= 97) && decide ((c:Int) <= 122)) || ((decide ((c:Int) >= 48) && decide ((c:Int) <= 57)) || (((c:Int) == 45) && !(((i:Int) == 0) || ((i:Int) + 1 == n)))))
def labBad (n:Nat):Nat -> List UInt8 -> Bool
 | _,[]=>false
 | i,b :: l=>labC n i b.toNat || labBad n (i + 1) l
def labelMay (s:ByteArray):Bool:=!labBad s.size 0 s.toList && (decide ((s.size:Int) >= 1) && decide ((s.size:Int) <= 20))
theorem R305 (s:ByteArray) (i c:Nat) (bs bs':List Blk) (hn:nextv (.ptr 0 0) ⟨bs,0⟩ = some (.tup [bl true,.d (i64 i),.d (.int .i32 c)],⟨bs',0⟩)) (hi:i < s.size) (hs:s.size < 2 ^ 62) (W:EA -> Hp -> OutA) :
 againC [0,7] W (Cd E TT valT q305_b0 [(0,.d (.str s)),(7,.ptr 0 0)] ⟨bs,0⟩) = (if labC s.size i c then some (.ret,[(2,bl false)],⟨bs',0⟩) else W [(0,.d (.str s)),(7,.ptr 0 0)] ⟨bs',0⟩):=by
 have hw:=int_next hi hs
 have e0:∃ t,((i:Int) == 0) = t:=⟨_,rfl⟩
 obtain ⟨t0,e0⟩:=e0
 have e1:∃ t,((i:Int) + 1 == s.size) = t:=⟨_,rfl⟩
 obtain ⟨t1,e1⟩:=e1
 by_cases c1:(c:Int) >= 97 <;> by_cases c2:(c:Int) <= 122 <;> by_cases c3:(c:Int) >= 48 <;> by_cases c4:(c:Int) <= 57 <;> by_cases c5:(c:Int) = 45 <;> first
  | (exfalso; omega)
  | (simp only [labC,c1,c2,c3,c4,c5,e0,e1]; cases t0 <;> cases t1 <;> simp [q305_b0,hn,opsA_if,hw,e0,e1,c1,c2,c3,c4,c5])
theorem labC_big {n i c:Nat} (h:128 <= c):labC n i c = true:=by
 have h1:¬ ((c:Int) <= 122):=by omega
 have h2:¬ ((c:Int) <= 57):=by omega
 have h3:¬ ((c:Int) = 45):=by omega
 simp [labC,h1,h2,h3]
theorem L305 (s:ByteArray) (hs:s.size < 2 ^ 62):∀ (m i:Nat),i + m = s.size →
 ∃ q,Cd E TT valT (.loop [0,7] q305_b0) [(0,.d (.str s)),(7,.ptr 0 0)] ⟨[.iter s i],0⟩ =
  if labBad s.size i (s.toList.drop i) then some (.ret,[(2,bl false)],⟨[.iter s q],0⟩) else some (.exit 0,[(0,.d (.str s))],⟨[.iter s q],0⟩):=by
 have hsl:=str_len s
 intro m
 have key:=Cd_round (E:=E) (T:=TT) (val:=valT) [0,7] q305_b0
 have hk:keepA [0,7] [(0,.d (.str s)),(7,.ptr 0 0)] = [(0,.d (.str s)),(7,.ptr 0 0)]:=rfl
 have hR:=fun i c bs bs' hn hi=>R305 (E:=E) s i c bs bs' hn hi hs
 generalize Cd E TT valT (.loop [0,7] q305_b0) = W at key ⊢
 induction m with
 | zero =>
  intro i hi
  refine ⟨i,?_⟩
  rw [key,List.drop_eq_nil_of_le (by omega)]
  simp [q305_b0,labBad,nextv_end (show ¬ i < s.size by omega)]
 | succ m ih =>
  intro i hi
  have h1:i < s.toList.length:=by omega
  have hb:=List.getElem?_eq_getElem h1
  rw [List.drop_eq_getElem_cons h1]
  obtain ⟨q,hq⟩:=ih (i + 1) (by omega)
  generalize s.toList[i] = b at *
  by_cases ha:b.toNat < 128
  · refine ⟨if labC s.size i b.toNat then i + 1 else q,?_⟩
    rw [key,hk,hR i b.toNat _ _ (nextv_ascii hb ha) (by omega) W]
    cases hl:labC s.size i b.toNat with
    | true=>simp [labBad,hl]
    | false=>simp [labBad,hl,hq]
  · obtain ⟨c,q',hc,hn⟩:=nextv_big hb ha
    refine ⟨q',?_⟩
    have hl:labC s.size i b.toNat = true:=labC_big (by omega)
    rw [key,hk,hR i c _ _ hn (by omega) W,labC_big hc]
    simp [labBad,hl]
theorem S305 (s:ByteArray) (hs:s.size <= big) (h:Hp):Sm E TT valT 106 [.d (.str s)] h = some (bl (labelMay s),h):=by
 rw [Sm_v t305 v305]
 obtain ⟨q,k1⟩:=L305 (E:=E) s (Nat.lt_of_le_of_lt hs (by decide)) s.size 0 (by omega)
 simp at k1
 simp [Bd_mk,q305]
 rw [Cd_keep]
 simp [k1]
 cases hb:labBad s.size 0 s.toList with
 | true=>simp [labelMay,hb]
 | false=>by_cases c1:(s.size:Int) >= 1 <;> simp [labelMay,hb,opsA_if,c1]
theorem S298 (a b:ByteArray) (ha:a.size <= big) (hb:b.size <= big) (h:Hp):Sm E TT valT 113 [ag [.str a,.str b]] h = some (bl (labelMay a && labelMay b),h):=by
 rw [Sm_v t298 v298]
 have h1:=S305 (E:=E) a ha
 have h2:=S305 (E:=E) b hb
 cases hl:labelMay a <;> simp [Bd_mk,q298,h1,h2,hl,opsA_if]
end Go.Proofs.YthkeklemhcfbcaaGreat
namespace Go.Proofs.YthkeklemhcfbcaaGreat
variable {E:Calls'}
def tokN:List Int:=[0,0,0,0,0,0,0,0,0,0,0,0,0,0,0,0,0,0,0,0,0,0,0,0,0,0,0,0,0,0,0,0,0,1,0,1,1,1,1,1,0,0,1,1,0,1,1,0,1,1,1,1,1,1,1,1,1,1,0,0,0,0,0,0,0,0,0,0,0,0,0,0,0,0,0,0,0,0,0,0,0,0,0,0,0,0,0,0,0,0,0,0,0,0,1,1,1,1,1,1,1,1,1,1,1,1,1,1,1,1,1,1,1,1,1,1,1,1,1,1,1,1,1,0,1,0,1,0,0,0,0,0,0,0,0,0,0,0,0,0,0,0,0,0,0,0,0,0,0,0,0,0,0,0,0,0,0,0,0,0,0,0,0,0,0,0,0,0,0,0,0,0,0,0,0,0,0,0,0,0,0,0,0,0,0,0,0,0,0,0,0,0,0,0,0,0,0,0,0,0,0,0,0,0,0,0,0,0,0,0,0,0,0,0,0,0,0,0,0,0,0,0,0,0,0,0,0,0,0,0,0,0,0,0,0,0,0,0,0,0,0,0,0,0,0,0,0,0,0,0,0,0,0,0,0,0]
def tokL:List D:=tokN.map i64
theorem tokL_len:tokL.length = 256:=rfl
theorem C477 (C:Calls'):codeA C 300 q477.code [] ⟨[],0⟩ = some (.ret,[(0,.ptr 0 0)],⟨[.cells (tokL.map .d),.iter ⟨#[97,98,99,100,101,102,103,104,105,106,107,108,109,110,111,112,113,114,115,116,117,118,119,120,121,122,48,49,50,51,52,53,54,55,56,57,33,35,36,37,38,39,42,43,45,46,94,95,96,124,126]⟩ 51],0⟩):=by kernel_rfl
theorem S477 (h:Hp):Sm E TT valT 260 [] h = some (ag tokL,h):=by
 rw [Sm_v t477 v477]
 have h1:Cd E TT valT q477.code (argsA 0 []) ⟨[],0⟩ = _:=code_Cd (k:=0) (C477 _)
 have hr:q477.res = [.cell 0 false 256]:=rfl
 have hs:=sub_all tokL_len
 have h2:Bd E TT valT q477 [] ⟨[],0⟩ = some (ag tokL,⟨[.cells (tokL.map .d),.iter ⟨#[97,98,99,100,101,102,103,104,105,106,107,108,109,110,111,112,113,114,115,116,117,118,119,120,121,122,48,49,50,51,52,53,54,55,56,57,33,35,36,37,38,39,42,43,45,46,94,95,96,124,126]⟩ 51],0⟩):=by
  show fin q477.res (Cd E TT valT q477.code (argsA 0 []) ⟨[],0⟩) = _
  rw [h1,hr]
  generalize tokL = L at hs ⊢
  simp [hs]
 simp only [List.mapM_nil,Option.pure_def,valC_s,h2,valE_s,frz_ag,valR_s]
 simp
def tokA (b:UInt8):Int:=tokN.getD b.toNat 0
def nameBad:List UInt8 -> Bool
 | []=>false
 | b :: l=>tokA b == 0 || nameBad l
def headMay (s:ByteArray):Bool:=!nameBad s.toList && (decide ((s.size:Int) >= 1) && decide ((s.size:Int) <= 64))
theorem tok_at (b:UInt8):sub tokL b.toNat 1 = some [i64 (tokA b)]:=by
 have hb:b.toNat < 256:=b.toNat_lt
 have hl:tokN.length = 256:=rfl
 have e1:(tokN.drop b.toNat).take 1 = [tokN[b.toNat]]:=by rw [List.drop_eq_getElem_cons (by omega)]; rfl
 rw [tokL,sub_map,sub_eq,if_pos (by omega),e1,tokA,List.getD_eq_getElem?_getD,List.getElem?_eq_getElem (by omega)]
 rfl
theorem L448 (s:ByteArray) (hs:s.size < 2 ^ 62):∀ (m i:Nat),i + m = s.size →
 Cd E TT valT (.loop [0,3,4] q448_b0) [(0,.d (.str s)),(3,.ptr 0 0),(4,.d (i64 i))] ⟨[.cells (tokL.map .d)],0⟩ =
  if nameBad (s.toList.drop i) then some (.ret,[(2,bl false)],⟨[.cells (tokL.map .d)],0⟩) else some (.exit 0,[(0,.d (.str s))],⟨[.cells (tokL.map .d)],0⟩):=by
 have hsl:=str_len s
 have htok:=tok_at
 generalize tokL = TL at htok ⊢
 intro m
 have key:=Cd_round (E:=E) (T:=TT) (val:=valT) [0,3,4] q448_b0
 generalize Cd E TT valT (.loop [0,3,4] q448_b0) = W at key ⊢
 induction m with
 | zero =>
  intro i hi
  rw [key,List.drop_eq_nil_of_le (by omega)]
  simp [q448_b0,nameBad,show ¬ ((i:Int) < s.size) from by omega]
 | succ m ih =>
  intro i hi
  have h1:i < s.toList.length:=by omega
  have hx:=fun h=>idxSv_at (h:=h) (List.getElem?_eq_getElem h1)
  have hw:=int_next (show i < s.size by omega) hs
  have:=ih (i + 1) (by omega)
  rw [key,List.drop_eq_getElem_cons h1]
  generalize s.toList[i] = b at *
  have h0:((i:Int) < s.size):=by omega
  have hb:b.toNat < 256:=b.toNat_lt
  have hix:∀ h,idxv (some 256) 1 (.ptr 0 0) (.d (.int .u8 b.toNat)) h = some (.ptr 0 b.toNat,h):=fun h=>by simp [idxv]; omega
  by_cases c1:tokA b = 0
  · simp [q448_b0,hx,hix,htok,c1,nameBad,h0]
  · have c2:(tokA b == 0) = false:=by simpa using c1
    simp [q448_b0,hx,hix,htok,c1,c2,nameBad,h0,hw]
    simpa using this
theorem S448 (s:ByteArray) (hs:s.size <= big) (h:Hp):Sm E TT valT 208 [.d (.str s)] h = some (bl (headMay s),h):=by
 rw [Sm_v t448 v448]
 have k1:=L448 (E:=E) s (Nat.lt_of_le_of_lt hs (by decide)) s.size 0 (by omega)
 have h477:=S477 (E:=E)
 have hl:=tokL_len
 have hln:(tokL.map V.d).length = 256:=by simp [hl]
 generalize hTL:tokL = TL at *
 simp at k1
 simp [Bd_mk,q448,h477,hl]
 rw [Cd_keep]
 simp [k1]
 cases hb:nameBad s.toList with
 | true=>simp [headMay,hb]
 | false=>by_cases c1:(s.size:Int) >= 1 <;> simp [headMay,hb,opsA_if,c1]
end Go.Proofs.YthkeklemhcfbcaaGreat
