/- slices.IndexFunc over rows of scalars, slices.ContainsFunc, policy.all: at any width. -/
import Derived.Test.YtjkfknafpgfchaaGreatQt
import Derived.Test.YtjkfknafpgfchaaGreatGn
import Derived.Test.YtjkfknafpgfchaaGreatSa
import Derived.Laws.RangeString
import Derived.KernelRfl
set_option maxRecDepth 100000
set_option linter.unusedVariables false
set_option linter.unusedSimpArgs false
namespace Go.Proofs.YtjkfknafpgfchaaGreat
section
def sI:QC:=(sr [op 9 (bt .lss 8 7)] (.seq (.cond (.t 9) .skip (.exit 0 [])) (.seq (.block 1 (sr [mv 10 8,mv 5 10] (sr [mv 11 1,mv 12 0,mv 13 5,op 14 (ia' 1 12 13),op 15 (l1' 14),op 16 (kt' 11 [.t 15])] (.cond (.t 16) (sr [mv 17 5,mv 4 17] (.ret [4])) .skip)))) (.reg none [op 18 (bc .add 8 1),mv 8 18]))))
def idx1Q:QF:=⟨19,[.tmp 4],(sr [oc' 4 0] (.seq (sr [mv 6 0,op 7 (ln' 6),oc' 8 0] (.block 0 (.loop [0,1,7,8] sI))) (sr [op 4 (.mov (.c (.d (.int .i64 (-1)))))] (.ret [4]))))⟩
def allQ (con clo:Nat):QF:=⟨17,[.tmp 6],(sr [op 5 (.box (.t 2)),op 6 (.mov (.c zb))] (sr [mv 7 1,op 8 (ln' 7),mv 9 0,op 10 (bt .leq 8 9),mv 11 10,ot 11 12 (.mov (.t 1)),ot 11 13 (.mkfn clo [.t 5]),ot 11 14 (.call (.c (.fn con [])) [.t 12,.t 13]),ot 11 15 (.un .not (.t 14)),op 16 (.pick (.t 11) (.t 15) (.c zb)),mv 6 16] (.ret [6])))⟩
def not1Q:QF:=⟨8,[.tmp 3],(sr [op 3 (.mov (.c zb))] (sr [op 4 (l1' 1),mv 5 0,op 6 (kt' 4 [.t 5]),op 7 (.un .not (.t 6)),mv 3 7] (.ret [3])))⟩
section
variable {E:Calls'} {T:FuncId -> Option QF} {val:FuncId -> Bool}
theorem Dp {α:Type} {cell:α -> D} {bs:List Blk} {lo:Nat} {v:V} {es:List α} (hr:RowIs bs v 1 (es.map fun x=>[cell x])) {f:FuncId} {caps:List V} {q:α -> Bool} (hlen:es.length < 2 ^ 62)
 (hf:∀ e ∈ es,Sm E T val f (.d (cell e) :: caps) ⟨bs,lo⟩ = some (.d (.bool (q e)),⟨bs,lo⟩)):∀ (m i:Nat),i + m = es.length →
   Cd E T val (.loop [0,1,7,8] sI) [(0,v),(1,.fn f caps),(7,.d (.int .i64 es.length)),(8,.d (.int .i64 i))] ⟨bs,lo⟩ =
    match (es.drop i).findIdx? q with
    | some k=>some (.ret,[(4,.d (.int .i64 (i + k:Nat)))],⟨bs,lo⟩)
    | none=>some (.exit 0,[],⟨bs,lo⟩):=by
 intro m;have key:=ax (E:=E) (T:=T) (val:=val) [0,1,7,8] sI;generalize Cd E T val (.loop [0,1,7,8] sI) = W at key ⊢
 induction m with
 | zero =>
  intro i hi;have h0:es.drop i = []:=List.drop_eq_nil_of_le (by omega);rw [key];simp [sI,h0,show ¬ ((i:Int) < es.length) from by omega]
 | succ m ih =>
  intro i hi;have hlt:i < es.length:=by omega
  have hd:es.drop i = es[i] :: es.drop (i + 1):=List.drop_eq_getElem_cons hlt;obtain ⟨p,hp1,hp2⟩:=hr.at hlt (l:=lo);have hv:=hr.ok;have hcall:=hf _ (List.getElem_mem hlt);generalize es[i] = x at *;rw [key,hd];cases hq:q x with
  | true=>simp [sI,hv,hp1,ldv,hp2,hcall,hq,List.findIdx?_cons,show ((i:Int) < es.length) from by omega]
  | false =>
   have hw:IntKind.wrap .i64 ((i:Int) + 1) = ((i + 1:Nat):Int):=by rw [wrap64] <;> omega
   have:=ih (i + 1) (by omega);simp [sI,hv,hp1,ldv,hp2,hcall,hq,List.findIdx?_cons,hw,show ((i:Int) < es.length) from by omega];rw [show ((i:Int) + 1) = ((i + 1:Nat):Int) from by omega,this];cases hfi:(es.drop (i + 1)).findIdx? q with
   | none=>rfl
   | some k=>simp; omega
theorem QA {α:Type} (cell:α -> D) {id:FuncId} (ht:T id = some idx1Q) (hvl:val id = false) {v:V} {es:List α} {f:FuncId} {caps:List V} {q:α -> Bool} {h:Hp} (hr:RowIs h.bs v 1 (es.map fun x=>[cell x])) (hlen:es.length < 2 ^ 62)
 (hf:∀ e ∈ es,∀ lo,Sm E T val f (.d (cell e) :: caps) ⟨h.bs,lo⟩ = some (.d (.bool (q e)),⟨h.bs,lo⟩)):Sm E T val id [v,.fn f caps] h = some (.d (.int .i64 (mE es q)),h):=by
 rw [aB ht hvl];have hl:=Dp hr hlen (fun e he=>hf e he h.bs.length) es.length 0 (by omega);have hv:=hr.ok;have hn:=hr.lenT;simp [idx1Q,af,hv,hn,mE];rw [aH];simp at hl;simp [hl];cases es.findIdx? q with
 | none=>simp [V.under]
 | some k=>simp [V.under]
theorem xq {α:Type} (es:List α) (q:α -> Bool):decide (mE es q >= 0) = es.any q:=by
 rcases jN es q with ⟨h1,h2⟩ | ⟨k,e,h1,h2,h3⟩
 · rw [h2];have:es.any q = false:=by
    rw [List.any_eq_false];intro x hx;simpa using List.find?_eq_none.1 h1 x hx
   rw [this]; rfl
 · rw [h2];have:es.any q = true:=List.any_eq_true.2 ⟨e,List.mem_of_find?_eq_some h1,List.find?_some h1⟩;rw [this];simp
theorem RowIs.okv {bs:List Blk} {v:V} {z:Nat} {es:List (List D)} (h:RowIs bs v z es):okV v = true:=by
 rcases h.2 with ⟨nl,rfl⟩ | ⟨b,o,cap,cs,rfl,_⟩ <;> rfl
theorem EZ {id idx:FuncId} (ht:T id = some (anyQ idx)) (hv:val id = false) {v:V} {f:FuncId} {caps:List V} {n:Int} {h:Hp} (hnu:nu v = some v) (hok:okV v = true) (hi:Sm E T val idx [v,.fn f caps] ⟨h.bs,h.bs.length⟩ = some (.d (.int .i64 n),⟨h.bs,h.bs.length⟩)) :
 Sm E T val id [v,.fn f caps] h = some (bl (decide (n >= 0)),h):=by
 rw [aB ht hv];simp [anyQ,af,hnu,hok,hi,V.under]
theorem mF {α:Type} (cells:α -> List D) {z:Nat} {idx id:FuncId} (hti:T idx = some (idxQ z)) (hvi:val idx = false) (ht:T id = some (anyQ idx)) (hv:val id = false) {v:V} {es:List α} {f:FuncId} {caps:List V} {q:α -> Bool} {h:Hp} (hr:RowIs h.bs v z (es.map cells)) (hlen:es.length < 2 ^ 62)
 (hf:∀ e ∈ es,∀ lo,Sm E T val f (.agg ((cells e).map .d) :: caps) ⟨h.bs,lo⟩ = some (.d (.bool (q e)),⟨h.bs,lo⟩)):Sm E T val id [v,.fn f caps] h = some (bl (es.any q),h):=by
 rw [EZ ht hv hr.ok hr.okv (E8 (h:=⟨h.bs,h.bs.length⟩) cells hti hvi hr hlen hf),xq]
theorem EY {α:Type} (cell:α -> D) {idx id:FuncId} (hti:T idx = some idx1Q) (hvi:val idx = false) (ht:T id = some (anyQ idx)) (hv:val id = false) {v:V} {es:List α} {f:FuncId} {caps:List V} {q:α -> Bool} {h:Hp} (hr:RowIs h.bs v 1 (es.map fun x=>[cell x])) (hlen:es.length < 2 ^ 62)
 (hf:∀ e ∈ es,∀ lo,Sm E T val f (.d (cell e) :: caps) ⟨h.bs,lo⟩ = some (.d (.bool (q e)),⟨h.bs,lo⟩)):Sm E T val id [v,.fn f caps] h = some (bl (es.any q),h):=by
 rw [EZ ht hv hr.ok hr.okv (QA (h:=⟨h.bs,h.bs.length⟩) cell hti hvi hr hlen hf),xq]
theorem XC {id:FuncId} {z:Nat} (ht:T id = some (notQ z)) (hv:val id = false) {c:List D} (hc:c.length = z) {f:FuncId} {x:Nat} {p:Bool} {h:Hp} (hp:ah h.bs x = some [.fn f []])
 (hf:∀ h,Sm E T val f [ag c] h = some (bl p,h)):Sm E T val id [ag c,.ptr x 0] h = some (bl (!p),h):=by
 rw [aB ht hv];have hs:=bB hc;simp [notQ,af,au hp,hf,hs,V.under]
theorem QB {id:FuncId} (ht:T id = some not1Q) (hv:val id = false) {c:D} {f:FuncId} {x:Nat} {p:Bool} {h:Hp} (hp:ah h.bs x = some [.fn f []])
 (hf:∀ h,Sm E T val f [.d c] h = some (bl p,h)):Sm E T val id [.d c,.ptr x 0] h = some (bl (!p),h):=by
 rw [aB ht hv];simp [not1Q,af,hp,hf,V.under]
theorem qQ {α:Type} (l:List α) (p:α -> Bool):(!l.any fun x=>!p x) = l.all p:=by
 induction l with
 | nil=>rfl
 | cons x l ih=>simp only [List.any_cons,List.all_cons,Bool.not_or,Bool.not_not,ih]
theorem wF {α:Type} {cells:α -> List D} {z:Nat} {idx con clo id:FuncId} (hti:T idx = some (idxQ z)) (hvi:val idx = false) (htc:T con = some (anyQ idx)) (hvc:val con = false) (htn:T clo = some (notQ z)) (hvn:val clo = false) (ht:T id = some (allQ con clo)) (hv:val id = true)
 (hz:∀ x,(cells x).length = z) {s:Sl α} (hs:short s) {m:Int} {f:FuncId} {p:α -> Bool} (hf:∀ e ∈ s.l,∀ h,Sm E T val f [ag (cells e)] h = some (bl (p e),h)) (h:Hp) :
 Sm E T val id [.d (i64 m),.d (s.d cells),.fn f []] h = some (bl (decide ((s.l.length:Int) <= m) && s.l.all p),h):=by
 rw [bf ht hv];have hfr:frz h (.fn f []) = some (.fn f []):=rfl;have hlen:s.l.length < 2 ^ 62:=hs.lt;have hany:=mF (E:=E) (T:=T) (val:=val) cells (z:=z) hti hvi htc hvc (v:=.d (s.d cells)) (es:=s.l) (f:=clo) (caps:=[.ptr 0 0]) (q:=fun x=>!p x) (h:=⟨[.cells [.fn f []]],0⟩) (RowIs.of hz _) hlen (fun e he lo=>XC htn hvn (hz e) (by simp [ah]) (hf e he));by_cases hm:(s.l.length:Int) <= m
 · simp [af,allQ,hfr,hm,hany,aG,cO,← qQ]
 · simp [af,allQ,hfr,hm,hany,aG,cO]
theorem Qy {α:Type} {cell:α -> D} {idx con clo id:FuncId} (hti:T idx = some idx1Q) (hvi:val idx = false) (htc:T con = some (anyQ idx)) (hvc:val con = false) (htn:T clo = some not1Q) (hvn:val clo = false) (ht:T id = some (allQ con clo)) (hv:val id = true)
 {s:Sl α} (hs:short s) {m:Int} {f:FuncId} {p:α -> Bool} (hf:∀ e ∈ s.l,∀ h,Sm E T val f [.d (cell e)] h = some (bl (p e),h)) (h:Hp) :
 Sm E T val id [.d (i64 m),.d (s.d fun x=>[cell x]),.fn f []] h = some (bl (decide ((s.l.length:Int) <= m) && s.l.all p),h):=by
 rw [bf ht hv];have hfr:frz h (.fn f []) = some (.fn f []):=rfl;have hlen:s.l.length < 2 ^ 62:=hs.lt;have hany:=EY (E:=E) (T:=T) (val:=val) cell hti hvi htc hvc (v:=.d (s.d fun x=>[cell x])) (es:=s.l) (f:=clo) (caps:=[.ptr 0 0]) (q:=fun x=>!p x) (h:=⟨[.cells [.fn f []]],0⟩) (RowIs.of (cells:=fun x=>[cell x]) (z:=1) (fun _=>rfl) _) hlen (fun e he lo=>QB htn hvn (by simp [ah]) (hf e he));by_cases hm:(s.l.length:Int) <= m
 · simp [af,allQ,hfr,hm,hany,aG,cO,← qQ]
 · simp [af,allQ,hfr,hm,hany,aG,cO]
end
end
section
def xu (x i:V) (h:Hp):Option (V × Hp):=match i,x with
 | .d (.int _ i),.d (.str s)=>if 0 <= i then (match s.toList[i.toNat]? with | some b=>some (.d (.int .u8 b.toNat),h) | none=>none) else none
 | _,_=>none
section
variable {C:Calls'} {ev:X -> V} {h:Hp}
@[simp] theorem al0 {x i:X}:opE C (.idxS x i) ev h = xu (ev x) (ev i) h:=(rfl)
end
theorem xw {s:ByteArray} {k:Nat} {b:UInt8} {h:Hp} (hk:s.toList[k]? = some b):xu (.d (.str s)) (.d (.int .i64 k)) h = some (.d (.int .u8 b.toNat),h):=by
 simp [xu,hk]
theorem iN (s:ByteArray):s.toList.length = s.size:=by rw [bv]; rfl
variable {E:Calls'}
def zq (b:UInt8):Bool:=decide ((b.toNat:Int) < 33) || (decide ((b.toNat:Int) > 126) || ((b.toNat:Int) == 42 || (b.toNat:Int) == 44))
def jK:List UInt8 -> Bool
 | []=>false
 | b :: l=>zq b || jK l
def gq (t:Term):Bool:=!jK t.text.toList && (if t.kind == 4 then eqS t.text ⟨#[]⟩ else decide (1 <= t.kind) && (decide (t.kind <= 3) && (decide ((t.text.size:Int) >= 1) && decide ((t.text.size:Int) <= 64))))
theorem bx5 (t:Term) (ht:t.text.size <= big):∀ (m i:Nat),i + m = t.text.size →
 Cd E TT ak (.loop [1,3] gX) [(1,.ptr 0 0),(3,.d (i64 i))] ⟨[.cells (t.c.map .d)],0⟩ =
  if jK (t.text.toList.drop i) then some (.ret,[(2,bl false)],⟨[.cells (t.c.map .d)],0⟩) else some (.exit 0,[(1,.ptr 0 0)],⟨[.cells (t.c.map .d)],0⟩):=by
 have hlt:t.text.size < 2 ^ 62:=Nat.lt_of_le_of_lt ht (by decide);have hsl:=iN t.text;intro m;have key:=ax (E:=E) (T:=TT) (val:=ak) [1,3] gX;generalize Cd E TT ak (.loop [1,3] gX) = W at key ⊢
 induction m with
 | zero =>
  intro i hi;rw [key,List.drop_eq_nil_of_le (by omega)];simp [gX,jK,show ¬ ((i:Int) < t.text.size) from by omega]
 | succ m ih =>
  intro i hi;have h1:i < t.text.toList.length:=by omega
  have hx:=fun h=>xw (h:=h) (List.getElem?_eq_getElem h1);have hw:=aK (show i < t.text.size by omega) hlt;have:=ih (i + 1) (by omega);rw [key,List.drop_eq_getElem_cons h1];generalize t.text.toList[i] = b at *;have h0:((i:Int) < t.text.size):=by omega
  by_cases c1:(b.toNat:Int) < 33
  · simp [gX,hx,c1,jK,zq,aG,h0]
  · by_cases c2:(b.toNat:Int) > 126
    · simp [gX,hx,c1,c2,jK,zq,aG,h0]
    · by_cases c3:(b.toNat:Int) = 42
      · simp [gX,hx,c3,jK,zq,aG,h0]
      · by_cases c4:(b.toNat:Int) = 44
        · simp [gX,hx,c4,jK,zq,aG,h0]
        · have hb:zq b = false:=by simp [zq,c1,c2,c3,c4]
          simp [jK,hb,gX,hx,c1,c2,c3,c4,aG,h0,hw];simpa using this
theorem cd5 (t:Term) (ht:t.text.size <= big) (h:Hp):Sm E TT ak 413 [ag t.c] h = some (bl (gq t),h):=by
 rw [bf dj3 dv1];have k1:=bx5 (E:=E) t ht t.text.size 0 (by omega);simp at k1;simp [af,M5];rw [aH];simp [k1];cases hb:jK t.text.toList with
 | true=>simp [gq,hb]
 | false =>
  by_cases c0:t.kind = 4
  · simp [gq,hb,c0]
  · by_cases c1:t.kind >= 1 <;> by_cases c2:t.kind <= 3 <;> by_cases c3:(t.text.size:Int) >= 1 <;> simp [gq,hb,c0,aG,c1,c2,c3]
theorem dm9:TT 429 = some (idxQ 2):=dj6
theorem dm6:TT 411 = some (anyQ 429):=dj1
theorem dm5:TT 410 = some idx1Q:=dj0
theorem dl8:TT 390 = some (anyQ 410):=dh9
theorem cd4 (t:Term) (ht:t.text.size <= big) (h:Hp):Sm E TT ak 412 [ag t.c] h = some (bl (!gq t),h):=by
 rw [aB dj2 dv0];simp [af,M4,cd5 t ht,V.under]
def aR (s:Sl Term):Bool:=decide ((s.l.length:Int) <= 6) && s.l.all gq
theorem cd1 (s:Sl Term) (hs:short s) (ht:∀ t ∈ s.l,t.text.size <= big) (h:Hp):Sm E TT ak 392 [.d (s.d Term.c)] h = some (bl (aR s),h):=by
 rw [bf di1 dt9];have hany:=mF (E:=E) (T:=TT) (val:=ak) Term.c (z:=2) dm9 dv4 dm6 du9 (v:=.d (s.d Term.c)) (es:=s.l) (f:=412) (caps:=[]) (q:=fun t=>!gq t) (h:=⟨[],0⟩) (RowIs.of (cells:=Term.c) (z:=2) (fun _=>rfl) _) hs.lt (fun e he lo=>cd4 e (ht e he) _);by_cases hm:(s.l.length:Int) <= 6
 · simp [af,IQ,hm,hany,aG,aR,← qQ]
 · simp [af,IQ,hm,hany,aG,aR]
theorem cd0 (s:Sl Term) (hs:short s) (ht:∀ t ∈ s.l,t.text.size <= big) (h:Hp):Sm E TT ak 391 [.d (s.d Term.c)] h = some (bl (!aR s),h):=by
 rw [aB di0 dt8];simp [af,MV,cd1 s hs ht,V.under]
theorem Qw (ls:List (Sl Term)) (hl:ls.length < 2 ^ 62) (hs:∀ s ∈ ls,short s /\ ∀ t ∈ s.l,t.text.size <= big) (a:V) (h:Hp) (ha:frz h a = some (.d (.slice false (ls.map fun s=>[s.d Term.c])))):Sm E TT ak 357 [a] h = some (bl (ls.all aR),h):=by
 rw [bf dg7 ds5];have hr:RowIs ([]:List Blk) (.d (.slice false (ls.map fun s=>[s.d Term.c]))) 1 (ls.map fun s=>[s.d Term.c]):=⟨by simp,.inl ⟨false,rfl⟩⟩;have hany:=EY (E:=E) (T:=TT) (val:=ak) (Sl.d Term.c) dm5 du8 dl8 dt7 (es:=ls) (f:=391) (caps:=[]) (q:=fun s=>!aR s) (h:=⟨[],0⟩) hr hl (fun e he lo=>cd0 e (hs e he).1 (hs e he).2 _);simp [af,MP,ha,hany,← qQ,lv,tY,ni]
end
section
def oG (mx:Bool) (l:List V) (h:Hp):Option (V × Hp):=match l with
 | []=>none
 | x :: xs=>match fw mx x xs with
  | some v=>some (v,h)
  | none=>none
def FH (k:IntKind) (x:V) (h:Hp):Option (V × Hp):=match x with
 | .d (.int _ n)=>some (.d (.int k (k.wrap n)),h)
 | _=>none
section
variable {C:Calls'} {ev:X -> V} {h:Hp}
@[simp] theorem TR {mx:Bool} {a b:X}:opE C (.minmax mx [a,b]) ev h = if okV (ev a) && (okV (ev b) && true) then oG mx [ev a,ev b] h else none:=(rfl)
@[simp] theorem Wu {k:IntKind} {x:X}:opE C (.convI k x) ev h = FH k (ev x) h:=(rfl)
@[simp] theorem QY {k k':IntKind} {n:Int}:FH k (.d (.int k' n)) h = some (.d (.int k (k.wrap n)),h):=(rfl)
@[simp] theorem Yz {k:IntKind} {a b:Int}:oG true [.d (.int k a),.d (.int k b)] h = some (.d (.int k (if b > a then b else a)),h):=by simp [oG,fw]
@[simp] theorem Yy {k:IntKind} {a b:Int}:oG false [.d (.int k a),.d (.int k b)] h = some (.d (.int k (if b < a then b else a)),h):=by simp [oG,fw]
end
section
variable {k k':IntKind} {a b:Int}
theorem nT (hb:0 <= b):bJ .shl (.d (.int k a)) (.d (.int k' b)) = some (.int k (k.wrap (a * 2 ^ (min b.toNat k.bits)))):=by simp [bJ,show ¬ b < 0 by omega]
theorem jg (hb:0 <= b):bJ .shr (.d (.int k a)) (.d (.int k' b)) = some (.int k (a.fdiv (2 ^ (min b.toNat k.bits)))):=by simp [bJ,show ¬ b < 0 by omega]
def uU (k:IntKind) (a b:Int):Int:=k.wrap ((BitVec.ofInt k.bits a &&& ~~~ BitVec.ofInt k.bits b).toNat)
theorem zt:bJ .andNot (.d (.int k a)) (.d (.int k b)) = some (.int k (uU k a b)):=by simp [bJ,dU,uU]
end
variable {E:Calls'}
theorem ca2 (n:Int) (h:Hp):Sm E TT ak 325 [.d (i64 n)] h = some (bl (decide (n >= 1) && decide (n <= 65535)),h):=by
 rw [bf dc3 dn9];by_cases c1:n >= 1 <;> simp [af,Iz,aG,c1]
def GG (n:Int):Int:=IntKind.wrap .u32 (IntKind.wrap .u64 (4294967296 - IntKind.wrap .u64 (1 * 2 ^ (min (IntKind.wrap .i64 (32 - n)).toNat 64))))
theorem cd2 (n:Int) (h0:0 <= n) (h1:n <= 32) (h:Hp):Sm E TT ak 395 [.d (i64 n)] h = some (.d (u32 (GG n)),h):=by
 rw [bf di4 du2];have hw:IntKind.wrap .i64 (32 - n) = 32 - n:=wrap64 (by omega) (by omega);have hs:=nT (k:=.u64) (k':=.i64) (a:=1) (b:=32 - n) (by omega);have e1:(if (0:Int) > n then 0 else n) = n:=if_neg (by omega);have e2:(if (32:Int) < n then 32 else n) = n:=if_neg (by omega);simp [af,MW,hw,hs,e1,e2,GG,IntKind.bits]
def lQ (c:Cidr):Bool:=decide (c.bits >= 0) && (decide (c.bits <= 32) && (uU .u32 c.addr (GG c.bits) == 0))
theorem cc6 (c:Cidr) (h:Hp):Sm E TT ak 359 [ag c.c] h = some (bl (lQ c),h):=by
 rw [bf dg9 ds7];by_cases c1:c.bits >= 0
 · by_cases c2:c.bits <= 32
   · simp (decide:=true) [af,Ed,aG,c1,c2,lQ,cd2 c.bits c1 c2,zt,aN,aD,aV]
   · simp (decide:=true) [af,Ed,aG,c1,c2,lQ,aN,aV]
 · simp (decide:=true) [af,Ed,aG,c1,lQ,aN,aV]
end
section
theorem zD (s:ByteArray) (pos:Nat) (h:pos < s.size) (ha:¬ (s[pos]'h).toNat < 128):128 <= (Utf8.decode s pos).1:=by
 have e:s.get! (pos + 0) = s[pos]'h:=by
  show s.get! pos = _;simp [ByteArray.get!,getElem!_pos,h];rfl
 simp only [Utf8.decode,e,ha,if_false]
 repeat' split
 all_goals first | (simp only [Utf8.runeError]; omega) | (rename_i hh; simp only [Bool.and_eq_true,decide_eq_true_eq] at hh; dsimp only; omega) | (rename_i hh; simp only [Bool.and_eq_true,decide_eq_true_eq] at hh; have:=hh.1; dsimp only; omega) | (dsimp only; omega)
def IZ (x:V) (h:Hp):Option (V × Hp):=match x with
 | .d (.str s)=>some (.ptr h.size 0,{ h with bs:=h.bs ++ [.iter s 0] })
 | _=>none
def qD (x:V) (h:Hp):Option (V × Hp):=match x with
 | .ptr b 0=>match h.bs[b]? with
  | some (.iter s pos) =>
   if pos < s.size then
    let (c,w):=Utf8.decode s pos
    some (.tup [.d (.bool true),.d (.int .i64 pos),.d (.int .i32 c)],⟨h.bs.set b (.iter s (pos + w)),min h.low b⟩)
   else some (.tup [.d (.bool false)],h)
  | _=>none
 | _=>none
section
variable {C:Calls'} {ev:X -> V} {h:Hp}
@[simp] theorem Wv {x:X}:opE C (.range x) ev h = IZ (ev x) h:=(rfl)
@[simp] theorem al2 {x:X}:opE C (.next x) ev h = qD (ev x) h:=(rfl)
@[simp] theorem av3 {s:ByteArray}:IZ (.d (.str s)) ⟨[],0⟩ = some (.ptr 0 0,⟨[.iter s 0],0⟩):=(rfl)
end
theorem DJ {s:ByteArray} {pos:Nat} (h:¬ pos < s.size):qD (.ptr 0 0) ⟨[.iter s pos],0⟩ = some (.tup [bl false],⟨[.iter s pos],0⟩):=by simp [qD,h]
theorem xL {s:ByteArray} {pos:Nat} {b:UInt8} (hb:s.toList[pos]? = some b) (ha:b.toNat < 128):qD (.ptr 0 0) ⟨[.iter s pos],0⟩ = some (.tup [bl true,.d (i64 pos),.d (.int .i32 b.toNat)],⟨[.iter s (pos + 1)],0⟩):=by
 have hl:=iN s;have h:pos < s.size:=by rw [← hl]; exact (List.getElem?_eq_some_iff.1 hb).1
 have he:s[pos]'h = b:=by
  have:=(List.getElem?_eq_some_iff.1 hb).2;simp only [bv] at this;exact this
 have hd:=decode_ascii s pos h (by rw [he]; exact ha);simp [qD,h,hd,he]
theorem DI {s:ByteArray} {pos:Nat} {b:UInt8} (hb:s.toList[pos]? = some b) (ha:¬ b.toNat < 128):∃ (c:Nat) (q:Nat),128 <= c /\ qD (.ptr 0 0) ⟨[.iter s pos],0⟩ = some (.tup [bl true,.d (i64 pos),.d (.int .i32 c)],⟨[.iter s q],0⟩):=by
 have hl:=iN s;have h:pos < s.size:=by rw [← hl]; exact (List.getElem?_eq_some_iff.1 hb).1
 have he:s[pos]'h = b:=by
  have:=(List.getElem?_eq_some_iff.1 hb).2;simp only [bv] at this;exact this
 have hd:=zD s pos h (by rw [he]; exact ha);exact ⟨(Utf8.decode s pos).1,pos + (Utf8.decode s pos).2,hd,by simp [qD,h]⟩
end
section
end
section
variable {E:Calls'}
def xC (n i c:Nat):Bool:=!((decide ((c:Int) >= 97) && decide ((c:Int) <= 122)) || ((decide ((c:Int) >= 48) && decide ((c:Int) <= 57)) || (((c:Int) == 45) && !(((i:Int) == 0) || ((i:Int) + 1 == n)))))
def ll (n:Nat):Nat -> List UInt8 -> Bool
 | _,[]=>false
 | i,b :: l=>xC n i b.toNat || ll n (i + 1) l
def eu (s:ByteArray):Bool:=!ll s.size 0 s.toList && (decide ((s.size:Int) >= 1) && decide ((s.size:Int) <= 20))
theorem by7 (s:ByteArray) (i c:Nat) (bs bs':List Blk) (hn:qD (.ptr 0 0) ⟨bs,0⟩ = some (.tup [bl true,.d (i64 i),.d (.int .i32 c)],⟨bs',0⟩)) (hi:i < s.size) (hs:s.size < 2 ^ 62) (W:EA -> Hp -> jF) :
 pE [0,7] W (Cd E TT ak kv [(0,.d (.str s)),(7,.ptr 0 0)] ⟨bs,0⟩) = (if xC s.size i c then some (.ret,[(2,bl false)],⟨bs',0⟩) else W [(0,.d (.str s)),(7,.ptr 0 0)] ⟨bs',0⟩):=by
 have hw:=aK hi hs;have e0:∃ t,((i:Int) == 0) = t:=⟨_,rfl⟩;obtain ⟨t0,e0⟩:=e0;have e1:∃ t,((i:Int) + 1 == s.size) = t:=⟨_,rfl⟩;obtain ⟨t1,e1⟩:=e1;by_cases c1:(c:Int) >= 97 <;> by_cases c2:(c:Int) <= 122 <;> by_cases c3:(c:Int) >= 48 <;> by_cases c4:(c:Int) <= 57 <;> by_cases c5:(c:Int) = 45 <;> first
  | (exfalso; omega)
  | (simp only [xC,c1,c2,c3,c4,c5,e0,e1]; cases t0 <;> cases t1 <;> simp [kv,hn,aG,hw,e0,e1,c1,c2,c3,c4,c5])
theorem xD {n i c:Nat} (h:128 <= c):xC n i c = true:=by
 have h1:¬ ((c:Int) <= 122):=by omega
 have h2:¬ ((c:Int) <= 57):=by omega
 have h3:¬ ((c:Int) = 45):=by omega
 simp [xC,h1,h2,h3]
theorem bw9 (s:ByteArray) (hs:s.size < 2 ^ 62):∀ (m i:Nat),i + m = s.size →
 ∃ q,Cd E TT ak (.loop [0,7] kv) [(0,.d (.str s)),(7,.ptr 0 0)] ⟨[.iter s i],0⟩ =
  if ll s.size i (s.toList.drop i) then some (.ret,[(2,bl false)],⟨[.iter s q],0⟩) else some (.exit 0,[(0,.d (.str s))],⟨[.iter s q],0⟩):=by
 have hsl:=iN s;intro m;have key:=ax (E:=E) (T:=TT) (val:=ak) [0,7] kv;have hk:dN [0,7] [(0,.d (.str s)),(7,.ptr 0 0)] = [(0,.d (.str s)),(7,.ptr 0 0)]:=rfl;have hR:=fun i c bs bs' hn hi=>by7 (E:=E) s i c bs bs' hn hi hs;generalize Cd E TT ak (.loop [0,7] kv) = W at key ⊢
 induction m with
 | zero =>
  intro i hi;refine ⟨i,?_⟩;rw [key,List.drop_eq_nil_of_le (by omega)];simp [kv,ll,DJ (show ¬ i < s.size by omega)]
 | succ m ih =>
  intro i hi;have h1:i < s.toList.length:=by omega
  have hb:=List.getElem?_eq_getElem h1;rw [List.drop_eq_getElem_cons h1];obtain ⟨q,hq⟩:=ih (i + 1) (by omega);generalize s.toList[i] = b at *;by_cases ha:b.toNat < 128
  · refine ⟨if xC s.size i b.toNat then i + 1 else q,?_⟩;rw [key,hk,hR i b.toNat _ _ (xL hb ha) (by omega) W];cases hl:xC s.size i b.toNat with
    | true=>simp [ll,hl]
    | false=>simp [ll,hl,hq]
  · obtain ⟨c,q',hc,hn⟩:=DI hb ha;refine ⟨q',?_⟩;have hl:xC s.size i b.toNat = true:=xD (by omega);rw [key,hk,hR i c _ _ hn (by omega) W,xD hc];simp [ll,hl]
theorem ca3 (s:ByteArray) (hs:s.size <= big) (h:Hp):Sm E TT ak 199 [.d (.str s)] h = some (bl (eu s),h):=by
 rw [bf dc4 do0];obtain ⟨q,k1⟩:=bw9 (E:=E) s (Nat.lt_of_le_of_lt hs (by decide)) s.size 0 (by omega);simp at k1;simp [af,IA];rw [aH];simp [k1];cases hb:ll s.size 0 s.toList with
 | true=>simp [eu,hb]
 | false=>by_cases c1:(s.size:Int) >= 1 <;> simp [eu,hb,aG,c1]
end
section
variable {E:Calls'}
def tokN:List Int:=[0,0,0,0,0,0,0,0,0,0,0,0,0,0,0,0,0,0,0,0,0,0,0,0,0,0,0,0,0,0,0,0,0,1,0,1,1,1,1,1,0,0,1,1,0,1,1,0,1,1,1,1,1,1,1,1,1,1,0,0,0,0,0,0,0,0,0,0,0,0,0,0,0,0,0,0,0,0,0,0,0,0,0,0,0,0,0,0,0,0,0,0,0,0,1,1,1,1,1,1,1,1,1,1,1,1,1,1,1,1,1,1,1,1,1,1,1,1,1,1,1,1,1,0,1,0,1,0,0,0,0,0,0,0,0,0,0,0,0,0,0,0,0,0,0,0,0,0,0,0,0,0,0,0,0,0,0,0,0,0,0,0,0,0,0,0,0,0,0,0,0,0,0,0,0,0,0,0,0,0,0,0,0,0,0,0,0,0,0,0,0,0,0,0,0,0,0,0,0,0,0,0,0,0,0,0,0,0,0,0,0,0,0,0,0,0,0,0,0,0,0,0,0,0,0,0,0,0,0,0,0,0,0,0,0,0,0,0,0,0,0,0,0,0,0,0,0,0,0,0,0,0,0,0,0,0]
def tokL:List D:=tokN.map i64
theorem yU:tokL.length = 256:=rfl
theorem bt8 (C:Calls'):aO C 300 q477.code [] ⟨[],0⟩ = some (.ret,[(0,.ptr 0 0)],⟨[.cells (tokL.map .d),.iter ⟨#[97,98,99,100,101,102,103,104,105,106,107,108,109,110,111,112,113,114,115,116,117,118,119,120,121,122,48,49,50,51,52,53,54,55,56,57,33,35,36,37,38,39,42,43,45,46,94,95,96,124,126]⟩ 51],0⟩):=by kernel_rfl
theorem cd3 (h:Hp):Sm E TT ak 401 [] h = some (ag tokL,h):=by
 rw [bf di9 du7];have h1:Cd E TT ak q477.code (iA 0 []) ⟨[],0⟩ = _:=eF (k:=0) (bt8 _);have hr:q477.res = [.cell 0 false 256]:=rfl;have hs:=bB yU;have h2:Bd E TT ak q477 [] ⟨[],0⟩ = some (ag tokL,⟨[.cells (tokL.map .d),.iter ⟨#[97,98,99,100,101,102,103,104,105,106,107,108,109,110,111,112,113,114,115,116,117,118,119,120,121,122,48,49,50,51,52,53,54,55,56,57,33,35,36,37,38,39,42,43,45,46,94,95,96,124,126]⟩ 51],0⟩):=by
  show fin q477.res (Cd E TT ak q477.code (iA 0 []) ⟨[],0⟩) = _;rw [h1,hr];generalize tokL = L at hs ⊢;simp [hs]
 simp only [List.mapM_nil,Option.pure_def,Bg,h2,V4,Gh,V5];simp
def Jr (b:UInt8):Int:=tokN.getD b.toNat 0
def jZ:List UInt8 -> Bool
 | []=>false
 | b :: l=>Jr b == 0 || jZ l
def iJ (s:ByteArray):Bool:=!jZ s.toList && (decide ((s.size:Int) >= 1) && decide ((s.size:Int) <= 64))
theorem VW (b:UInt8):sub tokL b.toNat 1 = some [i64 (Jr b)]:=by
 have hb:b.toNat < 256:=b.toNat_lt;have hl:tokN.length = 256:=rfl;have e1:(tokN.drop b.toNat).take 1 = [tokN[b.toNat]]:=by rw [List.drop_eq_getElem_cons (by omega)]; rfl
 rw [tokL,NU,gP,if_pos (by omega),e1,Jr,List.getD_eq_getElem?_getD,List.getElem?_eq_getElem (by omega)];rfl
theorem bx4 (s:ByteArray) (hs:s.size < 2 ^ 62):∀ (m i:Nat),i + m = s.size →
 Cd E TT ak (.loop [0,3,4] ky) [(0,.d (.str s)),(3,.ptr 0 0),(4,.d (i64 i))] ⟨[.cells (tokL.map .d)],0⟩ =
  if jZ (s.toList.drop i) then some (.ret,[(2,bl false)],⟨[.cells (tokL.map .d)],0⟩) else some (.exit 0,[(0,.d (.str s))],⟨[.cells (tokL.map .d)],0⟩):=by
 have hsl:=iN s;have htok:=VW;generalize tokL = TL at htok ⊢;intro m;have key:=ax (E:=E) (T:=TT) (val:=ak) [0,3,4] ky;generalize Cd E TT ak (.loop [0,3,4] ky) = W at key ⊢
 induction m with
 | zero =>
  intro i hi;rw [key,List.drop_eq_nil_of_le (by omega)];simp [ky,jZ,show ¬ ((i:Int) < s.size) from by omega]
 | succ m ih =>
  intro i hi;have h1:i < s.toList.length:=by omega
  have hx:=fun h=>xw (h:=h) (List.getElem?_eq_getElem h1);have hw:=aK (show i < s.size by omega) hs;have:=ih (i + 1) (by omega);rw [key,List.drop_eq_getElem_cons h1];generalize s.toList[i] = b at *;have h0:((i:Int) < s.size):=by omega
  have hb:b.toNat < 256:=b.toNat_lt;have hix:∀ h,fP (some 256) 1 (.ptr 0 0) (.d (.int .u8 b.toNat)) h = some (.ptr 0 b.toNat,h):=fun h=>by simp [fP]; omega
  by_cases c1:Jr b = 0
  · simp [ky,hx,hix,htok,c1,jZ,h0]
  · have c2:(Jr b == 0) = false:=by simpa using c1
    simp [ky,hx,hix,htok,c1,c2,jZ,h0,hw];simpa using this
theorem cc7 (s:ByteArray) (hs:s.size <= big) (h:Hp):Sm E TT ak 367 [.d (.str s)] h = some (bl (iJ s),h):=by
 rw [bf dh5 dt3];have k1:=bx4 (E:=E) s (Nat.lt_of_le_of_lt hs (by decide)) s.size 0 (by omega);have h477:=cd3 (E:=E);have hl:=yU;have hln:(tokL.map V.d).length = 256:=by simp [hl]
 generalize hTL:tokL = TL at *;simp at k1;simp [af,MQ,h477,hl];rw [aH];simp [k1];cases hb:jZ s.toList with
 | true=>simp [iJ,hb]
 | false=>by_cases c1:(s.size:Int) >= 1 <;> simp [iJ,hb,aG,c1]
end
end Go.Proofs.YtjkfknafpgfchaaGreat
