/- A pure reading of the operations: data as1 values, memory of one's own as1 rows of values. Definitions alone. -/
import Derived.Tactics
import Derived.WalkKit
import Derived.Below
import Derived.ArgAppend
import Derived.Laws.StructEq
import Derived.Laws.Pointers
import Derived.Laws.Cover3
set_option linter.unusedVariables false
namespace Go.Proofs.YtllbjfmiilckiaaGreat
theorem ab {α:Type} {l:List α} {i:Nat} (h:i < l.length):l[i]? = some l[i]:=List.getElem?_eq_getElem h
theorem ac {α:Type} {l:List α} {i j:Nat} (h:i ≠ j) {a:α}:(l.set i a)[j]? = l[j]?:=List.getElem?_set_ne h
theorem am {α:Type} {l m:List α} {i:Nat} (h:i < l.length):(l ++ m)[i]? = l[i]?:=List.getElem?_append_left h
theorem ao {α:Type} {l m:List α}:(l ++ m).length = l.length + m.length:=List.length_append
theorem aq (a b:Bool):((a && b) = true) = (a = true /\ b = true):=Bool.and_eq_true a b
theorem aw {α:Type} {i:Nat} {l:List α} (h:i < l.length):l.drop i = l[i]::l.drop (i + 1):=List.drop_eq_getElem_cons h
theorem ba {α:Type} {l:List α} {i:Nat} (h:l.length <= i):l.drop i = []:=List.drop_eq_nil_of_le h
theorem bb {α:Type} {l:List α} {i:Nat} (h:l.length <= i):l[i]? = none:=List.getElem?_eq_none h
theorem bd {α:Type} (a b:α):(some a = some b) = (a = b):=Option.some.injEq a b
theorem bh {α:Type} {i j:Nat} {l:List α}:(l.drop j).drop i = l.drop (j + i):=List.drop_drop
theorem bj {α:Type} {l:List α} {n:Nat} (h:n < l.length):l[n] ∈ l:=List.getElem_mem h
theorem bk {α β:Type} {b:α} {x:Option β} {f:β -> α}:x.map f = some b ↔ ∃ a,x = some a /\ f a = b:=Option.map_eq_some_iff
theorem bm {α:Type} {l m:List α} {i:Nat} (h:l.length <= i):(l ++ m)[i]? = m[i - l.length]?:=List.getElem?_append_right h
theorem bo :(false = true) = False:=Bool.false_eq_true
theorem bp {α:Type} {l:List α} {i:Nat} {a:α}:l.getD i a = l[i]?.getD a:=List.getD_eq_getElem?_getD
theorem br (n:Nat):n <= n:=Nat.le_refl n
theorem bw {p:Prop} [Decidable p]:(decide p = true) = p:=decide_eq_true_eq
theorem bx {α:Type} {i:Nat} {a:α} {l:List α}:l[i]? = some a ↔ ∃ h,l[i]'h = a:=List.getElem?_eq_some_iff
theorem b9 {α β:Type} {l:List α} (f:α -> β):(l.map f).length = l.length:=List.length_map f
theorem ce {α β:Type} {b:β} {f:α -> β} {l:List α}:b ∈ l.map f ↔ ∃ a,a ∈ l /\ f a = b:=List.mem_map
theorem cf {α:Type} {l:List α} {i:Nat} {a:α} (h:l[i]? = some a):a ∈ l:=List.mem_of_getElem? h
theorem cg {n m k:Nat} (h:n < m) (i:m <= k):n < k:=Nat.lt_of_lt_of_le h i
theorem ch {n m k:Nat} (h:n <= m) (i:m < k):n < k:=Nat.lt_of_le_of_lt h i
theorem cj {n m k:Nat} (h:n <= m) (i:m <= k):n <= k:=Nat.le_trans h i
theorem ck {α:Type} {a:α} {l:List α}:(a::l).length = l.length + 1:=List.length_cons
theorem cm {α:Type}:([]:List α).length = 0:=List.length_nil
theorem cn {α:Type} {p:α -> Bool} {l:List α}:l.all p = true ↔ ∀ x,x ∈ l -> p x = true:=List.all_eq_true
theorem co {α β γ:Type} (f:β -> γ) (g:α -> β):f ∘ g = λx=>f (g x):=Function.comp_def f g
theorem cr (a b:Nat):a < b \/ a >= b:=Nat.lt_or_ge a b
theorem ct {α β:Type} {f:α -> β} {a:α} {l:List α}:(a::l).map f = f a::l.map f:=List.map_cons
theorem cv {α:Type} {a b:α} (h:some a = some b):a = b:=Option.some.inj h
theorem cy {α β:Type} (a:α) (b:β) (c:α) (d:β):((a,b) = (c,d)) = (a = c /\ b = d):=Prod.mk.injEq a b c d
section
inductive D where
 | bool (b:Bool)
 | int (k:IntKind) (n:Int)
 | str (s:ByteArray)
 | nilp
 | nilf
 | nili
 | nilc
 | slice (nl:Bool) (es:List (List D))
 deriving Inhabited
inductive V where
 | d (x:D)
 | ptr (b o:Nat)
 | eptr (cs:List D) (o:Nat)
 | row (b o len:Nat) (cap:Option Nat) (z:Nat)
 | fn (f:FuncId) (caps:List V)
 | mfn (f:FuncId) (first:List V)
 | agg (cs:List V)
 | tup (vs:List V)
 | undef
 deriving Inhabited
inductive Blk where
 | cells (cs:List V)
 | iter (s:ByteArray) (pos:Nat)
 deriving Inhabited
structure Hp where
 bs:List Blk
 low:Nat
inductive X where
 | t (i:Nat)
 | c (v:V)
 deriving Inhabited
inductive SK where
 | sl | st | ar (n:Nat)
inductive EK where
 | b | i (k:IntKind) | s
inductive EQ where
 | sc (k:EK) | agg (ks:List EK) | ptr | sl | fn
inductive R where
 | mov (x:X)
 | pick (c a b:X)
 | new (z:List V)
 | box (x:X)
 | build (zero:List V) (ps:List (Nat×Nat×X))
 | buildS (z n:Nat) (zero:List V) (ps:List (Nat×Nat×X))
 | load (sc:Bool) (n:Nat) (a:X)
 | store (n:Nat) (a x:X)
 | nilchk (x:X)
 | bin (op:BinOp) (x y:X)
 | eq (k:EQ) (neg:Bool) (x y:X)
 | un (op:UnOp) (x:X)
 | convI (k:IntKind) (x:X)
 | convBS (x:X)
 | convSB (x:X)
 | convSS (x:X)
 | fldA (x:X) (off:Nat)
 | fld (sc:Bool) (x:X) (off n:Nat)
 | idxA (arr:Option Nat) (z:Nat) (x i:X)
 | idx (sc:Bool) (len z:Nat) (x i:X)
 | idxS (x i:X)
 | slc (k:SK) (z:Nat) (x:X) (lo hi mx:Option X)
 | mkfn (f:FuncId) (caps:List X)
 | mkmv (f:FuncId) (xs:List X)
 | mksl (z:Nat) (bytes:Nat) (zero:List V) (len cap:X)
 | ext (x:X) (i:Nat)
 | call (f:X) (args:List X)
 | app (z bytes:Nat) (s x:X)
 | len (st:Bool) (x:X)
 | copy (z:Nat) (a b:X)
 | clear (z:Nat) (zero:List V) (a:X)
 | minmax (mx:Bool) (xs:List X)
 | range (x:X)
 | next (x:X)
structure RO where
 g:Option (Nat×Bool)
 d:Option Nat
 r:R
inductive RC where
 | skip
 | ret
 | exit (i:Nat)
 | reg (pr:Option (List (List Nat))) (os:List RO)
 | seq (a b:RC)
 | cond (c:X) (a b:RC)
 | block (i:Nat) (b:RC)
 | loop (dead:List Nat) (b:RC)
inductive RV where
 | tmp (t:Nat)
 | cell (t:Nat) (sc:Bool) (n:Nat)
structure RF where
 ntmps:Nat
 res:List RV
 code:RC
abbrev Env:=List V
def X.ev (e:Env):X->V
 | .t i=>e.getD i .undef
 | .c v=>v
def V.cells:V->Option (List V)
 | .agg cs=>some cs
 | .tup _ | .undef=>none
 | v=>some [v]
def mk (sc:Bool)(cs:List V):Option V :=
 match sc,cs with
 | true,[v]=>some v
 | true,_=>none
 | false,cs=>some (.agg cs)
def Hp.get (h:Hp)(b:Nat):Option (List V) :=
 match h.bs[b]? with
 | some (.cells cs)=>some cs
 | _=>none
def Hp.alloc (h:Hp)(cs:List V):Hp:={ h with bs:=h.bs++[.cells cs] }
def Hp.set (h:Hp)(b:Nat)(cs:List V):Hp:=⟨h.bs.set b (.cells cs),min h.low b⟩
def Hp.size (h:Hp):Nat:=h.bs.length
def sub {α:Type}(cs:List α)(o n:Nat):Option (List α) :=
 if o+n<=cs.length then some ((cs.drop o).take n) else none
def put {α:Type}(cs:List α)(o:Nat)(xs:List α):Option (List α) :=
 if o+xs.length<=cs.length then some (cs.take o++xs++cs.drop (o+xs.length)) else none
def fills (e:Env):List V->List (Nat×Nat×X)->Option (List V)
 | cs,[]=>some cs
 | cs,(o,n,x)::ps=>match (x.ev e).cells with
  | some xs=>if xs.length=n then (match put cs o xs with | some cs'=>fills e cs' ps | none=>none) else none
  | none=>none
def loadAt (h:Hp)(v:V)(n:Nat):Option (List V) :=
 match v with
 | .ptr b o=>match h.get b with
  | some cs=>sub cs o n
  | none=>none
 | .eptr cs o=>(sub cs o n).map (·.map .d)
 | _=>none
def storeAt (h:Hp)(v:V)(xs:List V):Option Hp :=
 match v with
 | .ptr b o=>match h.get b with
  | some cs=>match put cs o xs with
   | some cs'=>some (h.set b cs')
   | none=>none
  | none=>none
 | _=>none
def lH:EK->D->D->Option Bool
 | .b,.bool a,.bool b=>some (a==b)
 | .i k,.int k' a,.int k'' b=>if k'=k/\k''=k then some (a==b) else none
 | .s,.str a,.str b=>some (a.toList==b.toList)
 | _,_,_=>none
def bz:List EK->List V->List V->Option Bool
 | [],[],[]=>some true
 | k::ks,.d a::xs,.d b::ys=>match lH k a b,bz ks xs ys with
  | some r,some t=>some (r&&t)
  | _,_=>none
 | _,_,_=>none
def fQ:EQ->V->V->Option Bool
 | .sc k,.d a,.d b=>lH k a b
 | .agg ks,.agg xs,.agg ys=>bz ks xs ys
 | .ptr,.d .nilp,.d .nilp=>some true
 | .ptr,.ptr _ _,.d .nilp=>some false
 | .ptr,.d .nilp,.ptr _ _=>some false
 | .ptr,.eptr _ _,.d .nilp=>some false
 | .sl,.d (.slice a _),.d (.slice true [])=>some a
 | .sl,.row _ _ _ _ _,.d (.slice true [])=>some false
 | .fn,.fn _ _,.d .nilf=>some false
 | .fn,.d .nilf,.d .nilf=>some true
 | _,_,_=>none
def fI (op:BinOp)(k:IntKind)(a b:Int):Option D :=
 match op with
 | .add=>some (.int k (k.wrap (a+b)))
 | .sub=>some (.int k (k.wrap (a-b)))
 | .mul=>some (.int k (k.wrap (a * b)))
 | .quo=>if b=0 then none else some (.int k (k.wrap (a.tdiv b)))
 | .rem=>if b=0 then none else some (.int k (a.tmod b))
 | .and=>some (.int k (k.wrap ((BitVec.ofInt k.bits a &&& BitVec.ofInt k.bits b).toNat)))
 | .or=>some (.int k (k.wrap ((BitVec.ofInt k.bits a ||| BitVec.ofInt k.bits b).toNat)))
 | .xor=>some (.int k (k.wrap ((BitVec.ofInt k.bits a ^^^ BitVec.ofInt k.bits b).toNat)))
 | .andNot=>some (.int k (k.wrap ((BitVec.ofInt k.bits a &&& ~~~ BitVec.ofInt k.bits b).toNat)))
 | .eql=>some (.bool (a==b))
 | .neq=>some (.bool (a != b))
 | .lss=>some (.bool (a<b))
 | .leq=>some (.bool (a<=b))
 | .gtr=>some (.bool (a>b))
 | .geq=>some (.bool (a>=b))
 | _=>none
def wR (op:BinOp)(a b:ByteArray):Option D :=
 match op with
 | .add=>if a.size+b.size<=2 ^ 40 then some (.str (a++b)) else none
 | .eql=>some (.bool (a.toList==b.toList))
 | .neq=>some (.bool (!(a.toList==b.toList)))
 | .lss=>some (.bool (Op.bytesLess a.toList b.toList))
 | .leq=>some (.bool (Op.bytesLess a.toList b.toList||a.toList==b.toList))
 | .gtr=>some (.bool (!(Op.bytesLess a.toList b.toList||a.toList==b.toList)))
 | .geq=>some (.bool (!Op.bytesLess a.toList b.toList))
 | _=>none
def dP (op:BinOp)(x y:V):Option D :=
 match op,x,y with
 | .shl,.d (.int k a),.d (.int _ b)=>if b<0 then none else some (.int k (k.wrap (a * 2 ^ (min b.toNat k.bits))))
 | .shr,.d (.int k a),.d (.int _ b)=>if b<0 then none else some (.int k (a.fdiv (2 ^ (min b.toNat k.bits))))
 | op,.d (.int k a),.d (.int k' b)=>if k=k' then fI op k a b else none
 | op,.d (.str a),.d (.str b)=>wR op a b
 | _,_,_=>none
def unD (op:UnOp)(x:V):Option D :=
 match op,x with
 | .not,.d (.bool b)=>some (.bool !b)
 | .neg,.d (.int k n)=>some (.int k (k.wrap (0-n)))
 | .xor,.d (.int k n)=>some (.int k (k.wrap ((BitVec.ofInt k.bits (if k.signed then -1 else k.max) ^^^ BitVec.ofInt k.bits n).toNat)))
 | _,_=>none
def aP (h:Hp)(v:V)(z:Nat):Option (Nat×List V) :=
 match v with
 | .d (.slice _ es)=>if es.all (·.length==z) then some (es.length,es.flatten.map .d) else none
 | .row b o len _ z'=>if z'=z then (match h.get b with | some cs=>(sub cs o (len * z)).map (len,·) | none=>none) else none
 | .d (.str s)=>if z=1 then some (s.size,s.toList.map λb=>.d (.int .u8 b.toNat)) else none
 | _=>none
def roomy (n bytes:Nat):Bool:=n<=2 ^ 30&&bytes<=2 ^ 12
def aK (h:Hp)(z bytes:Nat)(s:V)(m:Nat)(xs:List V):Option (V×Hp) :=
 match s with
 | .d (.slice true _) =>
  if m=0 then some (s,h)
  else if z=0 then none
  else if roomy m bytes then some (.row h.size 0 m none z,h.alloc xs) else none
 | .row b o len cap z' =>
  if z'≠z\/z=0 then none else
  if m=0 then some (s,h) else
  match h.get b with
  | none=>none
  | some cs=>match sub cs o (len * z) with
   | none=>none
   | some old =>
    if !roomy (len+m) bytes then none else
    match cap with
    | some c =>
     if len+m<=c then (match put cs (o+len * z) xs with | some cs'=>some (.row b o (len+m) cap z,h.set b cs') | none=>none)
     else some (.row h.size 0 (len+m) none z,h.alloc (old++xs))
    | none =>
     if o=0/\old.length=cs.length/\0<cs.length then some (.row h.size 0 (len+m) none z,(h.set b []).alloc (old++xs))
     else if o+(len+m) * z<=cs.length then (match put cs (o+len * z) xs with | some cs'=>some (.row b o (len+m) none z,h.set b cs') | none=>none)
     else if o=0/\0<cs.length then some (.row h.size 0 (len+m) none z,(h.set b []).alloc (old++xs)) else none
 | .d (.slice false [])=>if m=0 then some (s,h) else none
 | _=>none
def bound (e:Env)(x:Option X)(dft:Nat):Option Nat :=
 match x with
 | none=>some dft
 | some x=>match x.ev e with
  | .d (.int _ n)=>if 0<=n then some n.toNat else none
  | _=>none
def dA (hp:Hp)(e:Env)(k:SK)(z:Nat)(x:V)(lo hi mx:Option X):Option V :=
 match k,x with
 | .sl,.d (.slice nl es)=>match bound e lo 0,bound e hi es.length,mx with
  | some l,some h,none=>if l<=h/\h<=es.length/\(es.headD (List.replicate z .nilp)).length=z then some (.d (.slice nl ((es.take h).drop l))) else none
  | _,_,_=>none
 | .sl,.row b o len cap z'=>match bound e lo 0,bound e hi len,mx with
  | some l,some h,none =>
   if l<=h/\h<=len/\z'=z then
    (if l=0 then some (.row b o h cap z)
    else if l<len then some (.row b (o+l * z) (h-l) (cap.map (· - l)) z)
    else some (.d (.slice false [])))
   else none
  | some l,some h,some m=>match bound e (some m) 0 with
   | some m=>if l<=h/\h<=m/\m<=len/\z'=z/\(l=0\/l<m)/\hi.isSome=true then some (.row b (o+l * z) (h-l) (some (m-l)) z) else none
   | none=>none
  | _,_,_=>none
 | .st,.d (.str s)=>match bound e lo 0,bound e hi s.size,mx with
  | some l,some h,none=>if l<=h/\h<=s.size then some (.d (.str (s.extract l h))) else none
  | _,_,_=>none
 | .ar n,.ptr b o=>match bound e lo 0,bound e hi n,mx with
  | some l,some h,none=>if l<=h/\h<=n/\l<n/\0<n * z then match hp.get b with
   | some cs=>if o+n * z<=cs.length/\n<=2 ^ 40 then some (.row b (o+l * z) (h-l) (some (n-l)) z) else none
   | none=>none
   else none
  | _,_,_=>none
 | _,_=>none
abbrev Calls':=FuncId->List V->Hp->Option (V×Hp)
def gK (C:Calls')(f:V)(args:List V)(h:Hp):Option (V×Hp) :=
 match f with
 | .fn f caps=>C f (args++caps) h
 | .mfn f first=>C f (first++args) h
 | _=>none
def V.len:Bool->V->Option Nat
 | false,.d (.slice _ es)=>some es.length
 | false,.row _ _ n _ _=>some n
 | true,.d (.str s)=>some s.size
 | _,_=>none
def fT (mx:Bool):V->List V->Option V
 | v,[]=>some v
 | .d (.int k a),.d (.int k' b)::l=>if k=k' then fT mx (.d (.int k (if mx then (if b>a then b else a) else (if b<a then b else a)))) l else none
 | _,_=>none
def one (x:Option D)(h:Hp):Option (V×Hp):=x.map λd=>(.d d,h)
def opM (C:Calls')(r:R)(e:Env)(h:Hp):Option (V×Hp) :=
 match r with
 | .mov x=>some (x.ev e,h)
 | .pick c a b=>match c.ev e with
  | .d (.bool t)=>some (if t then a.ev e else b.ev e,h)
  | _=>none
 | .new z=>some (.ptr h.size 0,h.alloc z)
 | .box x=>match (x.ev e).cells with
  | some cs=>some (.ptr h.size 0,h.alloc cs)
  | none=>none
 | .build zero ps=>match fills e zero ps with
  | some cs=>some (.agg cs,h)
  | none=>none
 | .buildS z n zero ps=>match fills e (List.replicate n zero).flatten ps with
  | some cs=>some (.row h.size 0 n (some n) z,h.alloc cs)
  | none=>none
 | .load sc n a=>match loadAt h (a.ev e) n with
  | some cs=>(mk sc cs).map (·,h)
  | none=>none
 | .store n a x=>match (x.ev e).cells with
  | some xs=>if xs.length=n/\0<n then (storeAt h (a.ev e) xs).map (.undef,·) else none
  | none=>none
 | .nilchk x=>match x.ev e with
  | .ptr b o=>some (.ptr b o,h)
  | .eptr cs o=>some (.eptr cs o,h)
  | .fn f cs=>some (.fn f cs,h)
  | .mfn f cs=>some (.mfn f cs,h)
  | _=>none
 | .bin op x y=>one (dP op (x.ev e) (y.ev e)) h
 | .eq k neg x y=>match fQ k (x.ev e) (y.ev e) with
  | some b=>some (.d (.bool (b != neg)),h)
  | none=>none
 | .un op x=>one (unD op (x.ev e)) h
 | .convI k x=>match x.ev e with
  | .d (.int _ n)=>some (.d (.int k (k.wrap n)),h)
  | _=>none
 | .convBS x=>match x.ev e with
  | .d (.str _)=>none
  | v=>match aP h v 1 with
   | some (_,cs)=>match cs.mapM (λv=>match v with | .d (.int .u8 n)=>some (UInt8.ofNat n.toNat) | _=>none) with
    | some l=>some (.d (.str ⟨l.toArray⟩),h)
    | none=>none
   | none=>none
 | .convSB x=>match x.ev e with
  | .d (.str s)=>if s.size<=2 ^ 40 then some (.row h.size 0 s.size none 1,h.alloc (s.toList.map λb=>.d (.int .u8 b.toNat))) else none
  | _=>none
 | .convSS x=>match x.ev e with
  | .d (.str s)=>some (.d (.str s),h)
  | _=>none
 | .fldA x off=>match x.ev e with
  | .ptr b o=>some (.ptr b (o+off),h)
  | .eptr cs o=>some (.eptr cs (o+off),h)
  | _=>none
 | .fld sc x off n=>match x.ev e with
  | .agg cs=>match sub cs off n with
   | some l=>(mk sc l).map (·,h)
   | none=>none
  | _=>none
 | .idxA arr z x i=>match i.ev e,arr,x.ev e with
  | .d (.int _ i),none,.d (.slice _ es)=>if 0<=i then (match es[i.toNat]? with | some c=>if c.length=z then some (.eptr c 0,h) else none | none=>none) else none
  | .d (.int _ i),none,.row b o len _ z'=>if 0<=i/\i<len/\z'=z then some (.ptr b (o+i.toNat * z),h) else none
  | .d (.int _ i),some n,.ptr b o=>if 0<=i/\i<n then some (.ptr b (o+i.toNat * z),h) else none
  | .d (.int _ i),some n,.eptr cs o=>if 0<=i/\i<n then some (.eptr cs (o+i.toNat * z),h) else none
  | _,_,_=>none
 | .idx sc n z x i=>match i.ev e,x.ev e with
  | .d (.int _ i),.agg cs=>if 0<=i/\i<n then (match sub cs (i.toNat * z) z with | some l=>(mk sc l).map (·,h) | none=>none) else none
  | _,_=>none
 | .idxS x i=>match i.ev e,x.ev e with
  | .d (.int _ i),.d (.str s)=>if 0<=i then (match s.toList[i.toNat]? with | some b=>some (.d (.int .u8 b.toNat),h) | none=>none) else none
  | _,_=>none
 | .slc k z x lo hi mx=>(dA h e k z (x.ev e) lo hi mx).map (·,h)
 | .mkfn f caps=>some (.fn f (caps.map (·.ev e)),h)
 | .mkmv f xs=>some (.mfn f (xs.map (·.ev e)),h)
 | .mksl z bytes zero len cap=>match len.ev e,cap.ev e with
  | .d (.int .i64 l),.d (.int .i64 c)=>if 0<=l/\l<=c/\c<=2 ^ 30/\bytes<=2 ^ 12 then some (.row h.size 0 l.toNat (some c.toNat) z,h.alloc (List.replicate c.toNat zero).flatten) else none
  | _,_=>none
 | .ext x i=>match x.ev e with
  | .tup vs=>vs[i]?.map (·,h)
  | _=>none
 | .call f args=>gK C (f.ev e) (args.map (·.ev e)) h
 | .app z bytes s x=>match aP h (x.ev e) z with
  | some (m,xs)=>aK h z bytes (s.ev e) m xs
  | none=>none
 | .len st x=>match (x.ev e).len st with
  | some n=>some (.d (.int .i64 n),h)
  | none=>none
 | .copy z a b=>match aP h (b.ev e) z,a.ev e with
  | some (m,xs),.row b o len _ z'=>if z'=z then (match h.get b with
   | some cs=>if min m len * z=0 then some (.d (.int .i64 (min m len:Nat)),h) else (match put cs o (xs.take (min m len * z)) with | some cs'=>some (.d (.int .i64 (min m len:Nat)),h.set b cs') | none=>none)
   | none=>none) else none
  | _,_=>none
 | .clear z zero a=>match a.ev e with
  | .row b o len _ z'=>if z'=z then (match h.get b with
   | some cs=>if len * z=0 then some (.undef,h) else (match put cs o (List.replicate len zero).flatten with | some cs'=>some (.undef,h.set b cs') | none=>none)
   | none=>none) else none
  | .d (.slice _ [])=>some (.undef,h)
  | _=>none
 | .minmax mx xs=>match xs with
  | []=>none
  | x::xs=>match fT mx (x.ev e) (xs.map (·.ev e)) with
   | some v=>some (v,h)
   | none=>none
 | .range x=>match x.ev e with
  | .d (.str s)=>some (.ptr h.size 0,{ h with bs:=h.bs++[.iter s 0] })
  | _=>none
 | .next x=>match x.ev e with
  | .ptr b 0=>match h.bs[b]? with
   | some (.iter s pos) =>
    if pos<s.size then
     let (c,w):=Utf8.decode s pos
     some (.tup [.d (.bool true),.d (.int .i64 pos),.d (.int .i32 c)],⟨h.bs.set b (.iter s (pos+w)),min h.low b⟩)
    else some (.tup [.d (.bool false)],h)
   | _=>none
  | _=>none
def gu (e:Env)(d:Option Nat)(v:V):Env :=
 match d with
 | some i=>e.set i v
 | none=>e
def jF (C:Calls'):List RO->Env->Hp->Option (Env×Hp)
 | [],e,h=>some (e,h)
 | o::os,e,h =>
  match o.g with
  | some (j,want)=>match e.getD j .undef with
   | .d (.bool t) =>
    if t=want then (match opM C o.r e h with
     | some (v,h')=>jF C os (gu e o.d v) h'
     | none=>none)
    else jF C os (gu e o.d (.tup [])) h
   | .tup []=>jF C os (gu e o.d (.tup [])) h
   | _=>none
  | none=>match opM C o.r e h with
   | some (v,h')=>jF C os (gu e o.d v) h'
   | none=>none
def R.xs:R->List X
 | .mov x | .box x | .nilchk x | .un _ x | .convI _ x | .convBS x | .convSB x | .convSS x | .fldA x _ | .fld _ x _ _ | .ext x _ | .len _ x | .range x | .next x | .clear _ _ x | .load _ _ x=>[x]
 | .pick c a b=>[c,a,b]
 | .new _=>[]
 | .build _ ps | .buildS _ _ _ ps=>ps.map (·.2.2)
 | .store _ a x | .bin _ a x | .eq _ _ a x | .idxA _ _ a x | .idx _ _ _ a x | .idxS a x | .mksl _ _ _ a x | .app _ _ a x | .copy _ a x=>[a,x]
 | .slc _ _ x lo hi mx=>[x]++lo.toList++hi.toList++mx.toList
 | .mkfn _ caps=>caps
 | .mkmv _ xs=>xs
 | .call f args=>f::args
 | .minmax _ xs=>xs
structure Bl where
 n:Nat
 kp:List Nat
instance : OfNat Bl 0:=⟨⟨0,[]⟩⟩
def He:V->V->Bool
 | .ptr b o,.ptr b' o'=>b==b'&&o==o'
 | .d .nilp,.d .nilp=>true
 | .d (.slice n []),.d (.slice n' [])=>n==n'
 | .row b o n c z,.row b' o' n' c' z'=>b==b'&&o==o'&&n==n'&&c==c'&&z==z'
 | _,_=>false
def qR:List V->List V->Bool
 | [],[]=>true
 | v::vs,w::ws=>He v w&&qR vs ws
 | _,_=>false
def Ha:Option Blk->Option Blk->Bool
 | some (.cells a),some (.cells b)=>qR a b
 | _,_=>false
def uu (bs bs':List Blk):List Nat:=(List.range bs.length).filter λi=>Ha bs[i]? bs'[i]?
structure Tr where
 call:Bool
 big:Bool
 nd:List Nat
 wr:List Nat
 lo:Nat
 hi:Nat
 bl:Bl
def V.blk:V->List Nat
 | .ptr b _ | .row b _ _ _ _=>[b]
 | _=>[]
def fM (e:Env):R->List Nat
 | .load _ _ a | .convBS a=>(a.ev e).blk
 | .store _ a _=>(a.ev e).blk
 | .app _ _ s x=>(s.ev e).blk++(x.ev e).blk
 | .copy _ a b=>(a.ev e).blk++(b.ev e).blk
 | .clear _ _ a=>(a.ev e).blk
 | .next x=>(x.ev e).blk
 | .slc _ _ x _ _ _=>(x.ev e).blk
 | _=>[]
def dI (e:Env):R->List Nat
 | .store _ a _=>(a.ev e).blk
 | .app _ _ s _=>(s.ev e).blk
 | .copy _ a _=>(a.ev e).blk
 | .clear _ _ a=>(a.ev e).blk
 | .next x=>(x.ev e).blk
 | _=>[]
def opD (C:Calls')(r:R)(e:Env)(h:Hp):Option (V×Hp×Tr) :=
 match r with
 | .call f args=>match gK C (f.ev e) (args.map (·.ev e)) ⟨h.bs,h.bs.length⟩ with
  | some (v,h')=>if h.bs.length<=h'.low then
   (if h'.bs.length=h.bs.length then some (v,h,⟨true,false,[],[],h.bs.length,h.bs.length,0⟩)
   else some (v,⟨h'.bs,h.low⟩,⟨true,false,[],[],h.bs.length,h'.bs.length,0⟩))
   else some (v,⟨h'.bs,min h.low h'.low⟩,⟨true,true,[],[],h.bs.length,h'.bs.length,⟨h'.low,uu h.bs h'.bs⟩⟩)
  | none=>none
 | r=>match opM C r e h with
  | some (v,h')=>some (v,h',⟨false,false,fM e r,dI e r,h.bs.length,h'.bs.length,0⟩)
  | none=>none
structure Stp where
 h:Hp
 v:V
 h':Hp
 t:Tr
def aM (h:Hp):Tr:=⟨false,false,[],[],h.bs.length,h.bs.length,0⟩
def stepD (C:Calls')(o:RO)(e:Env)(h:Hp):Option Stp :=
 let go:Option Stp:=match opD C o.r e h with
  | some (v,h',t)=>some ⟨h,v,h',t⟩
  | none=>none
 match o.g with
 | none=>go
 | some (j,want)=>match e.getD j .undef with
  | .d (.bool t)=>if t=want then go else some ⟨h,.tup [],h,aM h⟩
  | .tup []=>some ⟨h,.tup [],h,aM h⟩
  | _=>none
def lq (C:Calls'):List RO->Env->Hp->Option (List Stp×Env×Hp)
 | [],e,h=>some ([],e,h)
 | o::os,e,h=>match stepD C o e h with
  | some s=>match lq C os (gu e o.d s.v) s.h' with
   | some (l,e',h')=>some (s::l,e',h')
   | none=>none
  | none=>none
def Tr.still (t:Tr):Bool:=!t.call&&!t.big&&t.nd.isEmpty&&t.wr.isEmpty&&t.lo==t.hi
def Tr.calm (t:Tr):Bool:=!t.big&&t.wr.isEmpty&&t.lo==t.hi
def Tr.spares (t u:Tr):Bool :=
 if t.big||u.big then t.calm||u.still||(t.big&&!u.call&&u.nd.all λb=>decide (b<t.bl.n)||t.bl.kp.contains b)||(!t.big&&u.call&&t.wr.isEmpty&&(t.lo==t.hi||u.lo<=t.lo))
 else if u.call then t.wr.isEmpty&&(t.lo==t.hi||u.lo<=t.lo)
 else u.nd.all λb=>!t.wr.contains b&&!(t.lo<=b&&b<t.hi)
def qm (pr:List (List Nat))(l:List Stp):Bool :=
 (List.range l.length).all λi=>(List.range l.length).all λj =>
  i==j||(pr.getD i []).contains j||(pr.getD j []).contains i ||
  match l[i]?,l[j]? with
  | some s,some t=>s.t.spares t.t
  | _,_=>false
def uE (C:Calls')(pr:List (List Nat))(os:List RO)(e:Env)(h:Hp):Option (Env×Hp) :=
 match lq C os e h with
 | some (l,e',h')=>if qm pr l=true then some (e',h') else none
 | none=>none
inductive Ex where
 | normal | ret | exit (i:Nat)
abbrev Out:=Option (Ex×Env×Hp)
def mask (dead:List Nat)(e:Env):Env:=dead.foldl (λe i=>e.set i .undef) e
def bi (C:Calls'):Nat->RC->Env->Hp->Out
 | 0,_,_,_=>none
 | n+1,c,e,h=>match c with
  | .skip=>some (.normal,e,h)
  | .ret=>some (.ret,e,h)
  | .exit i=>some (.exit i,e,h)
  | .reg none os=>match jF C os e h with
   | some (e,h)=>some (.normal,e,h)
   | none=>none
  | .reg (some pr) os=>match uE C pr os e h with
   | some (e,h)=>some (.normal,e,h)
   | none=>none
  | .seq a b=>match bi C n a e h with
   | some (.normal,e,h)=>bi C n b e h
   | r=>r
  | .cond c a b=>match c.ev e with
   | .d (.bool t)=>bi C n (if t then a else b) e h
   | _=>none
  | .block i b=>match bi C n b e h with
   | some (.exit j,e,h)=>if j=i then some (.normal,e,h) else some (.exit j,e,h)
   | r=>r
  | .loop dead b=>match bi C n b (mask dead e) h with
   | some (.normal,e,h)=>bi C n (.loop dead b) e h
   | r=>r
end
section
def dOf:Value->Option D
 | .bool b=>some (.bool b)
 | .int k n=>some (.int k n)
 | .string s=>some (.str s)
 | .pointer none=>some .nilp
 | .slice none 0 0=>some (.slice true [])
 | .nilFunc=>some .nilf
 | .nilIface=>some .nili
 | .chan none=>some .nilc
 | _=>none
def vOf:Value->Option V
 | .agg cs=>(cs.toList.mapM dOf).map λl=>.agg (l.map .d)
 | v=>(dOf v).map .d
def bv:Operand->Option X
 | .tmp t=>some (.t t)
 | .const v=>(vOf v).map .c
 | .func f=>some (.c (.fn f []))
 | .global _=>none
section
variable (P:Program)
def iL (t:TypeId):Option Nat:=(P.info? t).map (·.size)
def Fz (t:TypeId):Option Nat:=(P.info? t).map (·.bytes)
def iV (t:TypeId):Option Bool:=match P.underlying t with
 | some (.struct _) | some (.array _ _)=>some true
 | some _=>some false
 | none=>none
def iq (t:TypeId):Option (List V):=do
 let i ← P.info? t
 let z ← i.zero
 let l ← z.cells.toList.mapM dOf
 if l.length=i.size then some (l.map .d) else none
def kL (t:TypeId):Option TypeId:=match P.underlying t with
 | some (.slice e)=>some e
 | _=>none
mutual
def iN:Nat->TypeId->Option (List EK)
 | 0,_=>none
 | n+1,t=>match P.underlying t with
  | some .bool=>some [.b]
  | some (.int k)=>some [.i k]
  | some .string=>some [.s]
  | some (.struct fs)=>if P.stoodInHeld t=true then none else eD n fs.toList 0
  | _=>none
def eD:Nat->List Field->Nat->Option (List EK)
 | _,[],_=>some []
 | 0,_,_=>none
 | n+1,f::fs,off=>if f.offset=off/\f.name ≠ "_" then match iN n f.type with
  | some ks=>if iL P f.type=some ks.length then match eD n fs (off+ks.length) with
   | some r=>some (ks++r)
   | none=>none
   else none
  | none=>none
  else none
end
def tV (t:TypeId):Option EQ:=match P.underlying t with
 | some .bool=>some (.sc .b)
 | some (.int k)=>some (.sc (.i k))
 | some .string=>some (.sc .s)
 | some (.pointer _)=>some .ptr
 | some (.slice _)=>some .sl
 | some (.func _ _ _)=>some .fn
 | some (.struct _)=>if P.eqGuardType P.depth t=true then none else (iN P 200 t).map .agg
 | _=>none
def partsOf (place:Nat->Option (Nat×Nat))(ps:Array (Nat×Operand)):Option (List (Nat×Nat×X)) :=
 ps.toList.mapM λ(i,x)=>do
  let (o,n) ← place i
  pure (o,n,← bv x)
def WX (t:TypeId):Bool:=match P.underlying t with
 | some (.slice _) | some .string=>true
 | _=>false
def bA (o:Oper):Option R :=
 match o.op with
 | .move x | .assign x=>(bv x).map .mov
 | .pick c a b=>do pure (.pick (← bv c) (← bv a) (← bv b))
 | .alloc t=>do pure (.new (← iq P t))
 | .box _ x=>do pure (.box (← bv x))
 | .build t ps=>do
  let zero ← iq P t
  match P.underlying t with
  | some (.struct fs)=>do
   let places ← fs.toList.mapM (λf=>(P.info? f.type).map λi=>(f.offset,i.size))
   let pl ← partsOf (λi=>places.toArray[i]?) ps
   pure (.build zero pl)
  | some (.array _ e)=>do
   let z ← iL P e
   let pl ← partsOf (λi=>some (i * z,z)) ps
   pure (.build zero pl)
  | _=>none
 | .buildSlice t n ps=>do
  let e ← kL P t
  let z ← iL P e
  let zero ← iq P e
  if n * z<=2 ^ 20/\0<z then
   let pl ← partsOf (λi=>some (i * z,z)) ps
   pure (.buildS z n zero pl)
  else none
 | .load t a=>do
  let n ← iL P t
  if n=0 then none else pure (.load (!(← iV P t)) n (← bv a))
 | .store t a x=>do pure (.store (← iL P t) (← bv a) (← bv x))
 | .nilCheck x=>do pure (.nilchk (← bv x))
 | .binOp op t x y _=>do
  match op with
  | .eql=>do pure (.eq (← tV P t) false (← bv x) (← bv y))
  | .neq=>do pure (.eq (← tV P t) true (← bv x) (← bv y))
  | _=>pure (.bin op (← bv x) (← bv y))
 | .unOp op _ x=>do pure (.un op (← bv x))
 | .convert s d x=>do
  match P.underlying s,P.underlying d with
  | some (.int _),some (.int k)=>pure (.convI k (← bv x))
  | some .string,some .string=>pure (.convSS (← bv x))
  | some .string,some (.slice e)=>match P.underlying e with | some (.int .u8)=>do pure (.convSB (← bv x)) | _=>none
  | some (.slice e),some .string=>match P.underlying e with | some (.int .u8)=>do pure (.convBS (← bv x)) | _=>none
  | _,_=>none
 | .makeFunc fn first caps=>match fn with
  | .func f=>if first.toList.isEmpty then (do pure (.mkfn f (← caps.toList.mapM bv))) else if caps.toList.isEmpty then (do pure (.mkmv f (← first.toList.mapM bv))) else none
  | _=>none
 | .makeSlice t l c=>do
  let e ← kL P t
  pure (.mksl (← iL P e) (← Fz P e) (← iq P e) (← bv l) (← bv c))
 | .slice t x lo hi mx=>do
  let lo' ← lo.mapM bv
  let hi' ← hi.mapM bv
  let mx' ← mx.mapM bv
  match P.underlying t with
  | some .string=>pure (.slc .st 1 (← bv x) lo' hi' mx')
  | some (.slice e)=>pure (.slc .sl (← iL P e) (← bv x) lo' hi' mx')
  | some (.array n e)=>pure (.slc (.ar n) (← iL P e) (← bv x) lo' hi' mx')
  | _=>none
 | .fieldAddr t x f=>match P.underlying t with
  | some (.struct fs)=>do
   let f ← fs[f]?
   if (← iL P f.type)=0 then none else pure (.fldA (← bv x) f.offset)
  | _=>none
 | .field t x f=>match P.underlying t with
  | some (.struct fs)=>do
   let f ← fs[f]?
   pure (.fld (!(← iV P f.type)) (← bv x) f.offset (← iL P f.type))
  | _=>none
 | .indexAddr t x i=>match P.underlying t with
  | some (.array n e)=>do pure (.idxA (some n) (← iL P e) (← bv x) (← bv i))
  | some (.slice e)=>do pure (.idxA none (← iL P e) (← bv x) (← bv i))
  | _=>none
 | .index t x i=>match P.underlying t with
  | some (.array n e)=>do pure (.idx (!(← iV P e)) n (← iL P e) (← bv x) (← bv i))
  | some .string=>do pure (.idxS (← bv x) (← bv i))
  | _=>none
 | .extract t i=>do pure (.ext (← bv t) i)
 | .range t x=>match P.underlying t with
  | some .string=>do pure (.range (← bv x))
  | _=>none
 | .next x true=>do pure (.next (← bv x))
 | .call c=>match c.callee with
  | .value f=>do pure (.call (← bv f) (← c.args.toList.mapM bv))
  | .invoke _ _=>none
  | .builtin b=>do
   let xs ← c.args.toList.mapM bv
   match b,xs with
   | .append,[s,x]=>do
    let t ← c.argTypes[0]?
    let tx ← c.argTypes[1]?
    let e ← kL P t
    if WX P tx=true/\(iq P e).isSome=true then pure (.app (← iL P e) (← Fz P e) s x) else none
   | .len,[x]=>do
    let t ← c.argTypes[0]?
    match P.underlying t with
    | some (.slice _)=>pure (.len false x)
    | some .string=>pure (.len true x)
    | some (.array n _)=>pure (.mov (.c (.d (.int .i64 n))))
    | _=>none
   | .copy,[a,b]=>do
    let t ← c.argTypes[0]?
    let e ← kL P t
    pure (.copy (← iL P e) a b)
   | .clear,[a]=>do
    let t ← c.argTypes[0]?
    let e ← kL P t
    pure (.clear (← iL P e) (← iq P e) a)
   | .min,xs=>pure (.minmax false xs)
   | .max,xs=>pure (.minmax true xs)
   | _,_=>none
 | _=>none
def BL:R:=.load true 1 (.c .undef)
def tQ (o:Oper):Option R:=some ((bA P o).getD BL)
def q9 (ops:Array Oper)(o:Oper):Option RO:=do
 let r ← tQ P o
 match o.guard with
 | none=>pure ⟨none,o.dst,r⟩
 | some (j,want)=>do
  let p ← ops[j]?
  let s ← p.dst
  pure ⟨some (s,want),o.dst,r⟩
def ded (l:List Nat):List Nat:=l.foldr (λx r=>if r.contains x then r else x::r) []
def dz (ops:Array Oper):List (List Nat) :=
 (ops.toList.foldl (λacc o=>acc++[ded ((o.after.toList.filter (Region.binds .any ·)).flatMap λe=>e.on::acc.getD e.on [])]) ([]:List (List Nat)))
def rF (o:RO):List Nat :=
 (o.r.xs.filterMap λx=>match x with | .t t=>some t | _=>none)++(match o.g with | some (s,_)=>[s] | none=>[])
def tT (ops:Array Oper)(os:List RO):Bool :=
 let pr:=dz ops
 (ops.toList.zipIdx.all λ(o,i)=>o.after.toList.all λe=>!Region.binds .any e||decide (e.on<i)) &&
 (List.range os.length).all λi=>(List.range os.length).all λj=>match os[i]?,os[j]? with
  | some o,some u=>match u.d with
   | none=>true
   | some d=>(i==j||o.d != some d)&&(!(rF o).contains d||(decide (j<i)&&(pr.getD i []).contains j)||(decide (i<j)&&(pr.getD j []).contains i))
  | _,_=>true
def comp:Code->Option RC
 | .skip=>some .skip
 | .ret=>some .ret
 | .exit i=>some (.exit i)
 | .region _ ops draw=>do
  let os ← ops.toList.mapM (q9 P ops)
  if draw=true then (if tT ops os=true then pure (.reg (some (dz ops)) os) else none) else pure (.reg none os)
 | .seq a b=>do pure (.seq (← comp a) (← comp b))
 | .cond c a b=>do pure (.cond (← bv c) (← comp a) (← comp b))
 | .block i b=>do pure (.block i (← comp b))
 | .loop b=>do pure (.loop [] (← comp b))
 | .label _=>some .skip
 | .scope b=>comp b
 | _=>none
end
theorem yO {P:Program}{o:Oper}{r:R}(h:tQ P o=some r)(hn:r≠BL):bA P o=some r:=by
 simp only [tQ,bd] at h;cases hc:bA P o with
 | none=>rw [hc] at h; exact absurd h.symm hn
 | some x=>rw [hc] at h; simp only [Option.getD_some] at h; rw [h]
theorem Eb {C:Calls'}{e:Env}{h:Hp}:opM C BL e h=none:=rfl
def RC.strip:RC->RC
 | .seq a b=>.seq a.strip b.strip
 | .cond c a b=>.cond c a.strip b.strip
 | .block i b=>.block i b.strip
 | .loop _ b=>.loop [] b.strip
 | c=>c
end
section
def V.under (n:Nat):V->Bool
 | .d _ | .eptr _ _ | .undef=>true
 | .ptr b _ | .row b _ _ _ _=>b<n
 | .fn _ cs | .mfn _ cs | .agg cs | .tup cs=>go cs
where go:List V->Bool
 | []=>true
 | v::vs=>V.under n v&&go vs
def dataV (h:Hp):Nat->V->Option D
 | _,.d x=>some x
 | 0,_=>none
 | k+1,.row b o len _ z=>match h.get b with
  | some cs=>match sub cs o (len * z) with
   | some l=>match l.mapM (dataV h k) with
    | some ds=>some (.slice false (chunks z ds len))
    | none=>none
   | none=>none
  | none=>none
 | _,_=>none
where chunks (z:Nat) (ds:List D):Nat->List (List D)
 | 0=>[]
 | n+1=>ds.take z::chunks z (ds.drop z) n
def bG (h:Hp)(cs:List V):Option (List D):=cs.mapM (dataV h 8)
def jk (h:Hp):V->Option V
 | .agg cs=>match bG h cs with
  | some l=>some (.agg (l.map V.d))
  | none=>none
 | .fn f []=>some (.fn f [])
 | .fn _ _=>none
 | .undef=>some .undef
 | v=>match dataV h 8 v with
  | some d=>some (.d d)
  | none=>none
def frz (h:Hp):V->Option V
 | .tup vs=>match vs.mapM (jk h) with
  | some l=>some (.tup l)
  | none=>none
 | v=>jk h v
def dY:V->Bool
 | .d _ | .fn _ [] | .undef=>true
 | .agg cs=>cs.all λc=>match c with | .d _=>true | _=>false
 | _=>false
def mW (h:Hp):Nat->V->Bool
 | _,.d (.slice _ (_::_))=>false
 | _,.d _=>true
 | 0,_=>false
 | k+1,.row b _ _ _ _=>match h.get b with
  | some cs=>cs.all (mW h k)
  | none=>false
 | _,_=>false
def vD (h:Hp):V->Bool
 | .agg cs=>cs.all (mW h 8)
 | .undef=>true
 | .fn _ []=>true
 | v=>mW h 8 v
def ownR (h:Hp):V->Bool
 | .tup vs=>vs.all (vD h)
 | v=>vD h v
def qO (h:Hp)(e:Env):List RV->Option (List V)
 | []=>some []
 | .tmp t::l=>match qO h e l with
  | some vs=>some (e.getD t .undef::vs)
  | none=>none
 | .cell t sc n::l=>match loadAt h (e.getD t .undef) n with
  | some cs=>match mk sc cs,qO h e l with
   | some v,some vs=>some (v::vs)
   | _,_=>none
  | none=>none
def bD:List V->V
 | [v]=>v
 | vs=>.tup vs
def mZ (C:Calls')(n:Nat)(f:RF)(args:List V)(h:Hp):Option (V×Hp) :=
 match bi C n f.code (args++List.replicate (f.ntmps-args.length) .undef) h with
 | some (.normal,e,h) | some (.ret,e,h)=>match qO h e f.res with
  | some vs=>some (bD vs,h)
  | none=>none
 | _=>none
def vI (E:Calls')(F:FuncId->Option RF)(val:FuncId->Bool):Nat->Calls'
 | 0=>λ_ _ _=>none
 | k+1=>λf args h=>match F f with
  | none=>E f args h
  | some rf =>
   if val f=true then
    match args.mapM (frz h) with
    | none=>none
    | some as1=>match mZ (vI E F val k) k rf as1 ⟨[],0⟩ with
     | none=>none
     | some (r,h')=>match frz h' r with
      | none=>none
      | some r'=>if args.all dY=true\/ownR h' r=true then some (r',h) else none
   else
    match mZ (vI E F val k) k rf args ⟨h.bs,h.bs.length⟩ with
    | none=>none
    | some (r,h') =>
     if h.bs.length<=h'.low/\r.under h.bs.length=true then some (r,h)
     else some (r,⟨h'.bs,min h.low h'.low⟩)
def BD (P:Program):ResultVar->Option RV
 | .tmp t=>some (.tmp t)
 | .cell t ty=>do
  let n ← iL P ty
  if n=0 then none else pure (.cell t (!(← iV P ty)) n)
def BB (P:Program)(f:FuncId):Option RF:=do
 let fn ← P.funcs[f]?
 let c ← comp P (← fn.body)
 let res ← fn.results.toList.mapM (BD P)
 if fn.name = "runtime.NumGoroutine" then none else pure ⟨fn.ntmps,res,c⟩
end
section
open Go.RowKit
abbrev cellAt (w:World) (b o:Nat):Option Value:=w.cell? ⟨b,o,none⟩
mutual
def DR (S:Nat->Prop)(w:World):D->Value->Prop
 | .bool b,v=>v=.bool b
 | .int k n,v=>v=.int k n
 | .str s,v=>v=.string s
 | .nilp,v=>v=.pointer none
 | .nilf,v=>v=.nilFunc
 | .nili,v=>v=.nilIface
 | .nilc,v=>v=.chan none
 | .slice nl es,v=>∃ a c,v=.slice a es.length c/\es.length<=c/\c<=maxLen/\(a=none↔nl=true)/\(a=none->c=0) ∧
  (es≠[]->∃ b o z,a=some ⟨b,o,none⟩/\S b/\DRss S w b o z es)
def DRs (S:Nat->Prop)(w:World)(b o:Nat):List D->Prop
 | []=>True
 | d::ds=>(∃ u,cellAt w b o=some u/\DR S w d u)/\DRs S w b (o+1) ds
def DRss (S:Nat->Prop)(w:World)(b o z:Nat):List (List D)->Prop
 | []=>True
 | e::es=>e.length=z/\DRs S w b o e/\DRss S w b (o+z) z es
end
theorem DR.one {S:Nat->Prop}{w:World}{d:D}{v:Value}(h:DR S w d v):v.oneCell'=true:=by
 cases d<;>simp only [DR] at h<;>first | (subst h; rfl) | (obtain ⟨a,c,rfl,_⟩:=h; rfl)
mutual
theorem DR.mono {S T:Nat->Prop}{w w':World}(hS:∀ b,S b->T b)(ha:∀ b,S b->w'.heap[b]?=w.heap[b]?):∀ {d:D} {v:Value},DR S w d v->DR T w' d v
 | .bool _,_,h | .int _ _,_,h | .str _,_,h | .nilp,_,h | .nilf,_,h | .nili,_,h | .nilc,_,h=>by simpa only [DR] using h
 | .slice nl es,v,h=>by
  simp only [DR] at h ⊢;obtain ⟨a,c,e,h1,h2,h3,h4,h5⟩:=h;refine ⟨a,c,e,h1,h2,h3,h4,λhne=>?_⟩;obtain ⟨b,o,z,e1,hb,hd⟩:=h5 hne;exact ⟨b,o,z,e1,hS b hb,DRss.mono hS ha hb hd⟩
theorem DRs.mono {S T:Nat->Prop}{w w':World}(hS:∀ b,S b->T b)(ha:∀ b,S b->w'.heap[b]?=w.heap[b]?){b:Nat}(hb:S b):∀ {o:Nat} {ds:List D},DRs S w b o ds->DRs T w' b o ds
 | _,[],_=>by simp only [DRs]
 | o,d::ds,h=>by
  simp only [DRs] at h ⊢;obtain ⟨⟨u,hu,hd⟩,hr⟩:=h;refine ⟨⟨u,?_,DR.mono hS ha hd⟩,DRs.mono hS ha hb hr⟩;rw [← hu];simp [cellAt,World.cell?,ha b hb]
theorem DRss.mono {S T:Nat->Prop}{w w':World}(hS:∀ b,S b->T b)(ha:∀ b,S b->w'.heap[b]?=w.heap[b]?){b:Nat}(hb:S b):∀ {o z:Nat} {es:List (List D)},DRss S w b o z es->DRss T w' b o z es
 | _,_,[],_=>by simp only [DRss]
 | o,z,e::es,h=>by
  simp only [DRss] at h ⊢;obtain ⟨h1,h2,h3⟩:=h;exact ⟨h1,DRs.mono hS ha hb h2,DRss.mono hS ha hb h3⟩
end
theorem DRs.get {S:Nat->Prop}{w:World}{b:Nat}:∀ {ds:List D} {o:Nat},DRs S w b o ds->∀ (i:Nat) (hi:i<ds.length),∃ u,cellAt w b (o+i)=some u/\DR S w ds[i] u
 | d::ds,o,h,0,_=>by simp only [DRs] at h; simpa using h.1
 | d::ds,o,h,i+1,hi=>by
  simp only [DRs] at h;have:=DRs.get h.2 i (by simpa using hi);simpa [Nat.add_assoc,Nat.add_comm 1 i] using this
theorem DRs.of_get {S:Nat->Prop}{w:World}{b:Nat}:∀ {ds:List D} {o:Nat},(∀ (i:Nat) (hi:i<ds.length),∃ u,cellAt w b (o+i)=some u/\DR S w ds[i] u)->DRs S w b o ds
 | [],_,_=>by simp only [DRs]
 | d::ds,o,h=>by
  simp only [DRs];refine ⟨h 0 (Nat.zero_lt_succ _),DRs.of_get λi hi=>?_⟩;have:=h (i+1) (by simpa using hi);simpa [Nat.add_assoc,Nat.add_comm 1 i] using this
theorem DRss.get {S:Nat->Prop}{w:World}{b z:Nat}:∀ {es:List (List D)} {o:Nat},DRss S w b o z es->∀ (i:Nat) (hi:i<es.length),es[i].length=z/\DRs S w b (o+i * z) es[i]
 | d::ds,o,h,0,_=>by simp only [DRss] at h; simpa using ⟨h.1,h.2.1⟩
 | d::ds,o,h,i+1,hi=>by
  simp only [DRss] at h;have:=DRss.get h.2.2 i (by simpa using hi);simpa [Nat.add_mul,Nat.add_assoc,Nat.add_comm,Nat.add_left_comm] using this
theorem DRss.of_get {S:Nat->Prop}{w:World}{b z:Nat}:∀ {es:List (List D)} {o:Nat},(∀ (i:Nat) (hi:i<es.length),es[i].length=z/\DRs S w b (o+i * z) es[i])->DRss S w b o z es
 | [],_,_=>by simp only [DRss]
 | d::ds,o,h=>by
  simp only [DRss];have h0:=h 0 (by simp);simp at h0;refine ⟨h0.1,h0.2,DRss.of_get λi hi=>?_⟩;have:=h (i+1) (by simpa using hi);simpa [Nat.add_mul,Nat.add_assoc,Nat.add_comm,Nat.add_left_comm] using this
structure Rh where
 f:Nat->Nat
 X:Nat->Prop
 N:Nat->Prop
 L:Nat->Prop
 G:Nat->Prop
instance : CoeFun Rh λ_=>Nat->Nat:=⟨Rh.f⟩
mutual
def VR (ρ:Rh)(S:Nat->Prop)(w:World):V->Value->Prop
 | .d x,v=>DR S w x v
 | .ptr b o,v=>ρ.N b/\v=.pointer (some ⟨ρ b,o,none⟩)
 | .eptr cs o,v=>∃ b base,v=.pointer (some ⟨b,base+o,none⟩)/\S b/\DRs S w b base cs
 | .row b o len cap z,v=>ρ.N b/\∃ c,v=.slice (some ⟨ρ b,o,none⟩) len c/\len<=c/\c<=maxLen/\(∀ k,cap=some k->c=k) ∧
  ∃ arr e fz,w.heap[ρ b]?=some (.cells arr e fz)/\o+c * z<=arr.size/\(cap=none->o+c * z=arr.size)
 | .fn f cs,v=>∃ vs:Array Value,v=.func (.func f) #[] vs/\VRs ρ S w cs vs.toList
 | .mfn f cs,v=>∃ vs:Array Value,v=.func (.func f) vs #[]/\VRs ρ S w cs vs.toList
 | .agg cs,v=>∃ vs:Array Value,v=.agg vs/\VRs ρ S w cs vs.toList/\∀ u∈vs.toList,u.oneCell'=true
 | .tup cs,v=>∃ vs:Array Value,v=.tuple vs/\VRs ρ S w cs vs.toList
 | .undef,_=>True
def VRs (ρ:Rh)(S:Nat->Prop)(w:World):List V->List Value->Prop
 | [],l=>l=[]
 | c::cs,l=>∃ u us,l=u::us/\VR ρ S w c u/\VRs ρ S w cs us
end
structure Ext (ρ:Rh) (S:Nat->Prop) (w:World) (ρ':Rh) (S':Nat->Prop) (w':World):Prop where
 le:∀ i,ρ.N i->ρ'.N i
 rho:∀ i,ρ.N i->ρ' i=ρ i
 st:∀ b,S b->S' b
 same:∀ b,S b->w'.heap[b]?=w.heap[b]?
 own:∀ i,ρ.N i->∀ arr e fz,w.heap[ρ i]?=some (.cells arr e fz)->∃ arr' fz',w'.heap[ρ i]?=some (.cells arr' e fz')/\arr'.size=arr.size
 x:ρ'.X=ρ.X
 xs:∀ b,ρ.X b->w'.heap[b]?=w.heap[b]?
 g:ρ'.G=ρ.G
theorem Ext.refl (ρ:Rh)(S:Nat->Prop)(w:World):Ext ρ S w ρ S w:=⟨λ_ h=>h,λ_ _=>rfl,λ_ h=>h,λ_ _=>rfl,λ_ _ arr e fz h=>⟨arr,fz,h,rfl⟩,rfl,λ_ _=>rfl,rfl⟩
theorem Ext.trans {ρ ρ' ρ'':Rh}{S S' S'':Nat->Prop}{w w' w'':World}(h:Ext ρ S w ρ' S' w')(k:Ext ρ' S' w' ρ'' S'' w''):Ext ρ S w ρ'' S'' w'' where
 le i hi:=k.le i (h.le i hi)
 rho i hi:=(k.rho i (h.le i hi)).trans (h.rho i hi)
 st b hb:=k.st b (h.st b hb)
 same b hb:=(k.same b (h.st b hb)).trans (h.same b hb)
 own i hi arr e fz ha:=by
  obtain ⟨arr',fz',h1,h2⟩:=h.own i hi arr e fz ha;have:=k.own i (h.le i hi) arr' e fz' (by rw [h.rho i hi]; exact h1);rw [h.rho i hi] at this;obtain ⟨arr'',fz'',h3,h4⟩:=this;exact ⟨arr'',fz'',h3,h4.trans h2⟩
 x:=k.x.trans h.x
 xs b hb:=(k.xs b (by rw [h.x]; exact hb)).trans (h.xs b hb)
 g:=k.g.trans h.g
section
variable {ρ ρ':Rh}{S S':Nat->Prop}{w w':World}
mutual
theorem VR.ext (h:Ext ρ S w ρ' S' w'):∀ {x:V} {v:Value},VR ρ S w x v->VR ρ' S' w' x v
 | .d x,v,k=>by simp only [VR] at k ⊢; exact DR.mono h.st h.same k
 | .ptr b o,v,k=>by simp only [VR] at k ⊢; exact ⟨h.le _ k.1,by rw [h.rho b k.1]; exact k.2⟩
 | .eptr cs o,v,k=>by
  simp only [VR] at k ⊢;obtain ⟨b,base,e,hb,hd⟩:=k;exact ⟨b,base,e,h.st b hb,DRs.mono h.st h.same hb hd⟩
 | .row b o len cap z,v,k=>by
  simp only [VR] at k ⊢;obtain ⟨hb,c,e,h1,h2,h3,arr,el,fz,h4,h5⟩:=k;obtain ⟨arr',fz',h6,h7⟩:=h.own b hb arr el fz h4;exact ⟨h.le _ hb,c,by rw [h.rho b hb]; exact e,h1,h2,h3,arr',el,fz',by rw [h.rho b hb]; exact h6,by rw [h7]; exact h5⟩
 | .fn f cs,v,k=>by
  simp only [VR] at k ⊢;obtain ⟨vs,e,hv⟩:=k;exact ⟨vs,e,VRs.ext h hv⟩
 | .mfn f cs,v,k=>by
  simp only [VR] at k ⊢;obtain ⟨vs,e,hv⟩:=k;exact ⟨vs,e,VRs.ext h hv⟩
 | .agg cs,v,k=>by
  simp only [VR] at k ⊢;obtain ⟨vs,e,hv,h1⟩:=k;exact ⟨vs,e,VRs.ext h hv,h1⟩
 | .tup cs,v,k=>by
  simp only [VR] at k ⊢;obtain ⟨vs,e,hv⟩:=k;exact ⟨vs,e,VRs.ext h hv⟩
 | .undef,v,_=>by simp only [VR]
theorem VRs.ext (h:Ext ρ S w ρ' S' w'):∀ {xs:List V} {vs:List Value},VRs ρ S w xs vs->VRs ρ' S' w' xs vs
 | [],_,k=>by simp only [VRs] at k ⊢; exact k
 | x::xs,_,k=>by
  simp only [VRs] at k ⊢;obtain ⟨u,us,e,h1,h2⟩:=k;exact ⟨u,us,e,VR.ext h h1,VRs.ext h h2⟩
end
theorem VRs.length:∀ {xs:List V} {vs:List Value},VRs ρ S w xs vs->vs.length=xs.length
 | [],_,h=>by simp only [VRs] at h; simp [h]
 | x::xs,_,h=>by
  simp only [VRs] at h;obtain ⟨u,us,rfl,_,h2⟩:=h;simp [VRs.length h2]
theorem VRs.get:∀ {xs:List V} {vs:List Value},VRs ρ S w xs vs->∀ (i:Nat) (h1:i<xs.length) (h2:i<vs.length),VR ρ S w xs[i] vs[i]
 | x::xs,_,h,0,_,_=>by
  simp only [VRs] at h;obtain ⟨u,us,rfl,h1,h2⟩:=h;simpa using h1
 | x::xs,_,h,i+1,a,b=>by
  simp only [VRs] at h;obtain ⟨u,us,rfl,h1,h2⟩:=h;simpa using VRs.get h2 i (by simpa using a) (by simpa using b)
theorem VRs.of_get:∀ {xs:List V} {vs:List Value},vs.length=xs.length->(∀ (i:Nat) (h1:i<xs.length) (h2:i<vs.length),VR ρ S w xs[i] vs[i])->VRs ρ S w xs vs
 | [],vs,h,_=>by simp only [VRs]; exact List.eq_nil_of_length_eq_zero h
 | x::xs,[],h,_=>by simp at h
 | x::xs,u::us,h,k=>by
  simp only [VRs];exact ⟨u,us,rfl,k 0 (Nat.zero_lt_succ _) (Nat.zero_lt_succ _),VRs.of_get (by simpa using h) λi h1 h2=>k (i+1) (Nat.succ_lt_succ h1) (Nat.succ_lt_succ h2)⟩
theorem VRs.append {xs ys:List V}{us vs:List Value}(h:VRs ρ S w xs us)(k:VRs ρ S w ys vs):VRs ρ S w (xs++ys) (us++vs):=by
 have l1:=h.length;have l2:=k.length;refine VRs.of_get (by simp [l1,l2]) λi h1 h2=>?_;obtain hi | hi:=cr i xs.length
 . rw [List.getElem_append_left hi,List.getElem_append_left (by omega)]; exact h.get i _ _
 . rw [List.getElem_append_right hi,List.getElem_append_right (by omega)];have:=k.get (i-xs.length) (by simp at h1; omega) (by simp at h1; omega);simp only [l1]; exact this
theorem VRs.drop {xs:List V}{us:List Value}(h:VRs ρ S w xs us)(k:Nat):VRs ρ S w (xs.drop k) (us.drop k):=by
 refine VRs.of_get (by simp [h.length]) λi h1 h2=>?_;simp only [List.getElem_drop]; exact h.get _ _ _
theorem VRs.take {xs:List V}{us:List Value}(h:VRs ρ S w xs us)(k:Nat):VRs ρ S w (xs.take k) (us.take k):=by
 refine VRs.of_get (by simp [h.length]) λi h1 h2=>?_;simp only [List.getElem_take]; exact h.get _ _ _
end
def St (ρ:Rh)(w:World)(b:Nat):Prop:=b<w.heap.size/\∀ i,(ρ.L i->ρ i≠b)/\¬ ρ.X b
def Blk.live:Blk->Bool
 | .cells []=>false
 | _=>true
def BR (ρ:Rh)(w:World)(r:Nat):Blk->Prop
 | .cells []=>True
 | .cells cs=>∃ arr e fz,w.heap[r]?=some (.cells arr e fz)/\cs.length<=arr.size/\(∀ j,j<arr.size->w.frozen? ⟨r,j,none⟩=false) ∧
  ∀ (j:Nat) (h1:j<cs.length) (h2:j<arr.size),VR ρ (St ρ w) w cs[j] arr[j]/\arr[j].oneCell'=true
 | .iter s pos=>w.heap[r]?=some (.stringIter s pos)
structure Rel (B:Nat) (ρ:Rh) (h:Hp) (w:World):Prop where
 dom:∀ i,ρ.N i->i<h.bs.length
 ln:∀ i,ρ.L i->ρ.N i
 live:∀ i (hi:i<h.bs.length),h.bs[i].live=true->ρ.L i
 lo:∀ i,ρ.N i->B<=ρ i/\ρ i<w.heap.size
 base:B<=w.heap.size
 inj:∀ i j,i≠j->ρ.L i->ρ.L j->ρ i≠ρ j
 mem:∀ i (hi:i<h.bs.length),BR ρ w (ρ i) h.bs[i]
 xB:∀ b,ρ.X b->b<w.heap.size/\∀ i,ρ.L i->ρ i≠b
 gB:∀ b,ρ.G b->¬ ρ.N b/\b<h.bs.length
structure Goes (B:Nat) (ρ:Rh) (w:World) (ρ':Rh) (w':World):Prop where
 ext:Ext ρ (St ρ w) w ρ' (St ρ' w') w'
 below:Below B w w'
theorem Goes.refl (B:Nat)(ρ:Rh)(w:World):Goes B ρ w ρ w:=⟨Ext.refl _ _ _,Below.refl _ _⟩
theorem Goes.trans {B:Nat}{ρ ρ' ρ'':Rh}{w w' w'':World}(h:Goes B ρ w ρ' w')(k:Goes B ρ' w' ρ'' w''):Goes B ρ w ρ'' w'':=⟨h.ext.trans k.ext,h.below.trans k.below⟩
theorem BR.ext {ρ ρ':Rh}{w w':World}(h:Ext ρ (St ρ w) w ρ' (St ρ' w') w'){r:Nat}(hr:w'.heap[r]?=w.heap[r]?):∀ {b:Blk},BR ρ w r b->BR ρ' w' r b
 | .cells [],_=>by simp only [BR]
 | .cells (c::cs),k=>by
  simp only [BR] at k ⊢;obtain ⟨arr,e,fz,h1,h2,h3,h4⟩:=k;refine ⟨arr,e,fz,hr.trans h1,h2,λj hj=>?_,λj a b=>⟨(h4 j a b).1.ext h,(h4 j a b).2⟩⟩;rw [← h3 j hj];simp [World.frozen?,hr]
 | .iter s pos,k=>by simp only [BR] at k ⊢; exact hr.trans k
def ER (ρ:Rh)(w:World)(e:Env)(tmps:Array Value):Prop :=
 e.length=tmps.size/\∀ i,VR ρ (St ρ w) w (e.getD i .undef) (tmps.getD i undef)
theorem ER.ext {ρ ρ':Rh}{w w':World}(h:Ext ρ (St ρ w) w ρ' (St ρ' w') w'){e:Env}{t:Array Value}(k:ER ρ w e t):ER ρ' w' e t :=
 ⟨k.1,λi=>(k.2 i).ext h⟩
theorem ER.set {ρ:Rh}{w:World}{e:Env}{t:Array Value}(k:ER ρ w e t)(i:Nat){x:V}{v:Value}(hv:VR ρ (St ρ w) w x v):ER ρ w (e.set i x) (t.setIfInBounds i v):=by
 refine ⟨by simp [k.1],λj=>?_⟩;have hk:=k.2 j;have hl:=k.1;simp only [bp,Array.getD_eq_getD_getElem?,List.getElem?_set,Array.getElem?_setIfInBounds] at hk ⊢;by_cases hij:i=j
 . subst hij;by_cases hi:i<e.length
   . have:i<t.size:=by omega
     simpa [hi,this] using hv
   . have:¬ i<t.size:=by omega
     simp [hi,this,VR]
 . simpa [hij] using hk
end
section
open Go.RowKit
variable {P:Program}
theorem qw {S:Nat->Prop}{w:World}{v:Value}{x:D}(h:dOf v=some x):DR S w x v:=by
 unfold dOf at h;split at h<;>simp at h<;>subst h<;>(simp only [DR]; try exact ⟨none,0,rfl,br _,by simp [maxLen],by simp,by simp,by simp⟩)
theorem mapM_some {α β:Type}{f:α->Option β}:∀ {l:List α} {l':List β},l.mapM f=some l'->l'.length=l.length/\∀ (i:Nat) (h1:i<l.length) (h2:i<l'.length),f l[i]=some l'[i]
 | [],l',h=>by simp at h; subst h; simp
 | x::l,l',h=>by
  simp only [List.mapM_cons] at h;cases hx:f x with
  | none=>simp [hx] at h
  | some y =>
   cases hl:l.mapM f with
   | none=>simp [hx,hl] at h
   | some ys =>
    simp [hx,hl] at h;subst h;have ih:=mapM_some hl;refine ⟨by simp [ih.1],λi h1 h2=>?_⟩;cases i with
    | zero=>simpa using hx
    | succ i=>simpa using ih.2 i (by simpa using h1) (by simpa using h2)
theorem VRs.of_data {ρ:Rh}{S:Nat->Prop}{w:World}{l:List D}{vs:List Value}(hl:vs.length=l.length)(h:∀ (i:Nat) (h1:i<l.length) (h2:i<vs.length),DR S w l[i] vs[i]):VRs ρ S w (l.map .d) vs :=
 VRs.of_get (by simpa using hl) λi h1 h2=>by simp only [List.getElem_map,VR]; exact h i (by simpa using h1) h2
theorem EJ {ρ:Rh}{S:Nat->Prop}{w:World}{v:Value}{x:V}(h:vOf v=some x):VR ρ S w x v:=by
 unfold vOf at h;split at h
 . rename_i cs;cases hm:cs.toList.mapM dOf with
   | none=>simp [hm] at h
   | some l =>
    simp [hm] at h;subst h;have hh:=mapM_some hm;have hg:∀ (i:Nat) (h1:i<l.length) (h2:i<cs.toList.length),DR S w l[i] cs.toList[i]:=λi h1 h2=>qw (hh.2 i h2 h1);simp only [VR];refine ⟨cs,rfl,VRs.of_data hh.1.symm hg,λu hu=>?_⟩;obtain ⟨i,hi,rfl⟩:=List.getElem_of_mem hu;exact (hg i (by rw [hh.1]; exact hi) hi).one
 . cases hd:dOf v with
   | none=>simp [hd] at h
   | some d =>
    simp [hd] at h;subst h;simp only [VR];exact qw hd
theorem aI {ρ:Rh}{w:World}{e:Env}{a:Act}(hE:ER ρ w e a.tmps){o:Operand}{x:X}(h:bv o=some x):VR ρ (St ρ w) w (x.ev e) (a.eval o):=by
 cases o with
 | tmp t=>simp [bv] at h; subst h; exact hE.2 t
 | const v =>
  simp only [bv,bk] at h;obtain ⟨y,hy,rfl⟩:=h;exact EJ hy
 | global g=>simp [bv] at h
 | func f=>simp [bv] at h; subst h; simp [X.ev,Act.eval,VR,VRs]
theorem lN {ρ:Rh}{S:Nat->Prop}{w:World}{x:V}{v:Value}{xs:List V}(h:VR ρ S w x v)(hc:x.cells=some xs):VRs ρ S w xs v.cells.toList/\∀ u∈v.cells.toList,u.oneCell'=true:=by
 cases x with
 | agg cs =>
  simp [V.cells] at hc; subst hc;simp only [VR] at h;obtain ⟨vs,rfl,h1,h2⟩:=h;exact ⟨h1,h2⟩
 | tup cs=>simp [V.cells] at hc
 | undef=>simp [V.cells] at hc
 | d y =>
  simp [V.cells] at hc; subst hc;have h':=h;simp only [VR] at h;have h1:=h.one;have:v.cells=#[v]:=by cases v<;>first | rfl | (simp [Value.oneCell'] at h1)
  rw [this];exact ⟨by simp only [VRs]; exact ⟨v,[],rfl,h',rfl⟩,by simpa using h1⟩
 | ptr b o =>
  simp [V.cells] at hc; subst hc;have h':=h;simp only [VR] at h;obtain ⟨_,rfl⟩:=h;exact ⟨by simp only [VRs]; exact ⟨_,[],rfl,h',rfl⟩,by simp [Value.cells,Value.oneCell']⟩
 | eptr cs o =>
  simp [V.cells] at hc; subst hc;have h':=h;simp only [VR] at h;obtain ⟨_,_,rfl,_⟩:=h;exact ⟨by simp only [VRs]; exact ⟨_,[],rfl,h',rfl⟩,by simp [Value.cells,Value.oneCell']⟩
 | row b o len cap z =>
  simp [V.cells] at hc; subst hc;have h':=h;simp only [VR] at h;obtain ⟨_,_,rfl,_⟩:=h;exact ⟨by simp only [VRs]; exact ⟨_,[],rfl,h',rfl⟩,by simp [Value.cells,Value.oneCell']⟩
 | fn f cs =>
  simp [V.cells] at hc; subst hc;have h':=h;simp only [VR] at h;obtain ⟨_,rfl,_⟩:=h;exact ⟨by simp only [VRs]; exact ⟨_,[],rfl,h',rfl⟩,by simp [Value.cells,Value.oneCell']⟩
 | mfn f cs =>
  simp [V.cells] at hc; subst hc;have h':=h;simp only [VR] at h;obtain ⟨_,rfl,_⟩:=h;exact ⟨by simp only [VRs]; exact ⟨_,[],rfl,h',rfl⟩,by simp [Value.cells,Value.oneCell']⟩
theorem tY {ρ:Rh}{w w':World}(hh:w'.heap=w.heap):Ext ρ (St ρ w) w ρ (St ρ w') w':=by
 have hS:St ρ w'=St ρ w:=by funext b; simp [St,hh]
 exact ⟨λ_ h=>h,λ_ _=>rfl,λb hb=>by rw [hS]; exact hb,λb _=>by rw [hh],λi _ arr e fz k=>⟨arr,fz,by rw [hh]; exact k,rfl⟩,rfl,λ_ _=>by rw [hh],rfl⟩
theorem Rel.same {B:Nat}{ρ:Rh}{h:Hp}{w w':World}(hR:Rel B ρ h w)(hh:w'.heap=w.heap):Rel B ρ h w' :=
 ⟨hR.dom,hR.ln,hR.live,λi hi=>by rw [hh]; exact hR.lo i hi,by rw [hh]; exact hR.base,hR.inj,λi hi=>(hR.mem i hi).ext (tY hh) (by rw [hh]),λb hb=>by rw [hh]; exact hR.xB b hb,hR.gB⟩
theorem Goes.drew {B:Nat}{ρ:Rh}(w:World):Goes B ρ w ρ w.drew:=⟨tY rfl,Below.drew (Below.refl _ _)⟩
def extρ (ρ:Rh)(n r:Nat):Rh:=⟨λi=>if i=n then r else ρ i,ρ.X,λi=>ρ.N i\/i=n,λi=>ρ.L i\/i=n,ρ.G⟩
theorem kM {ρ:Rh}{n r i:Nat}(h:i≠n):extρ ρ n r i=ρ i:=by simp [extρ,h]
theorem j6 {ρ:Rh}{n r:Nat}:extρ ρ n r n=r:=by simp [extρ]
theorem jA {B:Nat}{ρ:Rh}{h:Hp}{w:World}(hR:Rel B ρ h w)(o:Obj)(n:Nat)(hn:¬ ρ.N n):Goes B ρ w (extρ ρ n w.heap.size) (w.alloc o):=by
 have hne:∀ i,ρ.N i->i≠n:=λi hi e=>hn (e ▸ hi);refine ⟨⟨λi hi=>.inl hi,λi hi=>kM (hne i hi),λb hb=>⟨by simp; exact Nat.lt_succ_of_lt hb.1,λi=>⟨λhi=>?_,(hb.2 0).2⟩⟩,λb hb=>Below.heap_alloc _ _ _ hb.1,λi hi arr e fz k=>⟨arr,fz,?_,rfl⟩,rfl,λb hb=>Below.heap_alloc _ _ _ (hR.xB b hb).1,rfl⟩,(Below.refl _ _).alloc hR.base _⟩
 . by_cases e:i=n
   . subst e; rw [j6]; exact Nat.ne_of_gt hb.1
   . rw [kM e]; exact (hb.2 i).1 (hi.resolve_right e)
 . rw [Below.heap_alloc _ _ _ (hR.lo i hi).2]; exact k
theorem kI {B:Nat}{ρ:Rh}{h:Hp}{w:World}(hR:Rel B ρ h w):¬ ρ.N h.size:=λhn=>Nat.lt_irrefl _ (hR.dom _ hn)
theorem rU {b:Blk}(l:¬ b.live=true):b=.cells []:=by
 cases b with
 | iter s p=>simp [Blk.live] at l
 | cells cs=>cases cs with
  | nil=>rfl
  | cons c cs=>simp [Blk.live] at l
theorem Ed {B:Nat}{ρ:Rh}{h h':Hp}{w:World}(hR:Rel B ρ h w)(o:Obj)(b:Blk)(n:Nat)(hn:¬ ρ.N n)(hgn:¬ ρ.G n)(hlen:h.bs.length<=h'.bs.length)(hnl:n<h'.bs.length)(hat:h'.bs[n]?=some b)
 (hoth:∀ i (hi:i<h'.bs.length),i≠n->(∃ hi':i<h.bs.length,h'.bs[i]=h.bs[i])\/h'.bs[i].live=false)
 (hb:BR (extρ ρ n w.heap.size) (w.alloc o) w.heap.size b):Rel B (extρ ρ n w.heap.size) h' (w.alloc o):=by
 have hg:=jA hR o n hn;have hlive:∀ i (hi:i<h'.bs.length),i≠n->h'.bs[i].live=true->∃ hi':i<h.bs.length,h'.bs[i]=h.bs[i]/\ρ.L i:=by
  intro i hi hin hl;obtain ⟨hi',e⟩ | e:=hoth i hi hin
  . exact ⟨hi',e,hR.live i hi' (by rw [← e]; exact hl)⟩
  . rw [hl] at e; cases e
 refine ⟨λi hi=>?_,λi hi=>hi.imp (hR.ln i) id,λi hi hl=>?_,λi hi=>?_,by simp; exact Nat.le_succ_of_le hR.base,λi j hij li lj=>?_,λi hi=>?_,λc hc=>⟨?_,λi hi=>?_⟩,λc hc=>⟨λhN=>hN.elim (hR.gB c hc).1 λe=>hgn (e ▸ hc),cg (hR.gB c hc).2 hlen⟩⟩
 . obtain h1 | rfl:=hi
   . exact cg (hR.dom i h1) hlen
   . exact hnl
 . by_cases e:i=n
   . exact .inr e
   . obtain ⟨_,_,h2⟩:=hlive i hi e hl;exact .inl h2
 . by_cases e:i=n
   . subst e; rw [j6]; have:=hR.base; simp; omega
   . rw [kM e];have:=hR.lo i (hi.resolve_right e);simp; omega
 . by_cases e1:i=n<;>by_cases e2:j=n
   . omega
   . subst e1;rw [j6,kM e2];exact Nat.ne_of_gt (hR.lo j (hR.ln j (lj.resolve_right e2))).2
   . subst e2;rw [j6,kM e1];exact Nat.ne_of_lt (hR.lo i (hR.ln i (li.resolve_right e1))).2
   . rw [kM e1,kM e2];exact hR.inj i j hij (li.resolve_right e1) (lj.resolve_right e2)
 . by_cases e:i=n
   . subst e;rw [j6];have:h'.bs[i]=b:=by
      rw [ab hi] at hat;exact cv hat
     rw [this];exact hb
   . rw [kM e];by_cases hl:h'.bs[i].live=true
     . obtain ⟨a1,b1,c1⟩:=hlive i hi e hl;rw [b1];exact (hR.mem i a1).ext hg.ext (Below.heap_alloc _ _ _ (hR.lo i (hR.ln i c1)).2)
     . rw [rU hl]; simp only [BR]
 . have:=(hR.xB c hc).1; simp; omega
 . by_cases e:i=n
   . subst e; rw [j6]; exact Nat.ne_of_gt (hR.xB c hc).1
   . rw [kM e]; exact (hR.xB c hc).2 i (hi.resolve_right e)
theorem vO {B:Nat}{ρ:Rh}{h:Hp}{w:World}(hR:Rel B ρ h w)(o:Obj)(b:Blk)
 (hb:BR (extρ ρ h.size w.heap.size) (w.alloc o) w.heap.size b):Rel B (extρ ρ h.size w.heap.size) { h with bs:=h.bs++[b] } (w.alloc o) :=
 Ed hR o b h.size (kI hR) (λhc=>Nat.lt_irrefl _ (hR.gB _ hc).2) (by simp) (by simp [Hp.size]) (by simp [Hp.size]) (λi hi hin=>by
  simp at hi;have hi':i<h.bs.length:=by
   obtain h1 | h1:=Nat.lt_succ_iff_lt_or_eq.1 hi
   . exact h1
   . exact absurd h1 hin
  exact .inl ⟨hi',by simp [List.getElem_append_left hi']⟩) hb
theorem qX {B:Nat}{ρ:Rh}{h:Hp}{w:World}(hR:Rel B ρ h w){cs:List V}{arr:Array Value}(t:TypeId)(fz:Nat×Nat)
 (hl:cs.length<=arr.size) (hf:∀ j,j<arr.size->¬ (fz.1<=j/\j<fz.2)) (hv:VRs ρ (St ρ w) w cs (arr.toList.take cs.length)) (h1:∀ u∈arr.toList.take cs.length,u.oneCell'=true) :
 Rel B (extρ ρ h.size w.heap.size) (h.alloc cs) (w.alloc (.cells arr t fz)):=by
 refine vO hR _ _ ?_;have hg:=jA hR (.cells arr t fz) h.size (kI hR);have hh:(w.alloc (.cells arr t fz)).heap[w.heap.size]?=some (.cells arr t fz):=by show (w.heap.push _)[_]?=_; simp
 cases cs with
 | nil=>simp only [BR]
 | cons c cs =>
  simp only [BR];refine ⟨arr,t,fz,hh,hl,λj hj=>?_,λj a b=>?_⟩
  . have:=hf j hj;obtain ⟨lo,hi⟩:=fz;unfold World.frozen?;simp only [hh];simp only [Bool.and_eq_false_iff,decide_eq_false_iff_not];simp only at this;omega
  . have hlt:j<(arr.toList.take (c::cs).length).length:=by simp only [List.length_take,Array.length_toList]; omega
    have k:=(hv.get j a hlt).ext hg.ext;have k1:=h1 _ (bj hlt);simp only [List.getElem_take,Array.getElem_toList] at k k1;exact ⟨k,k1⟩
theorem jO {B:Nat}{ρ:Rh}{h:Hp}{w w':World}(hR:Rel B ρ h w){b:Nat}(hb:ρ.L b)(hsz:w'.heap.size=w.heap.size)
 (hoth:∀ k,k≠ρ b->w'.heap[k]?=w.heap[k]?) (hown:∀ arr e fz,w.heap[ρ b]?=some (.cells arr e fz)->∃ arr' fz',w'.heap[ρ b]?=some (.cells arr' e fz')/\arr'.size=arr.size)
 (h1:w'.os=w.os) (h2:w'.tape=w.tape) (h3:w'.output=w.output):Goes B ρ w ρ w':=by
 refine ⟨⟨λ_ h=>h,λ_ _=>rfl,λc hc=>⟨by rw [hsz]; exact hc.1,hc.2⟩,λc hc=>hoth c λe=>(hc.2 b).1 hb e.symm,λi hi arr e fz k=>?_,rfl,λc hc=>hoth c λe=>(hR.xB c hc).2 b hb e.symm,rfl⟩,⟨h1,h2,h3,by rw [hsz]; exact br _,λk hk=>hoth k λe=>by have:=(hR.lo b (hR.ln b hb)).1; omega⟩⟩;by_cases e1:ρ i=ρ b
 . rw [e1] at k ⊢; exact hown arr e fz k
 . exact ⟨arr,fz,by rw [hoth _ e1]; exact k,rfl⟩
theorem p9 {B:Nat}{ρ:Rh}{h:Hp}{w w':World}(hR:Rel B ρ h w){b:Nat}(hb:b<h.bs.length)(hlive:h.bs[b].live=true)(hsz:w'.heap.size=w.heap.size)
 (hoth:∀ k,k≠ρ b->w'.heap[k]?=w.heap[k]?) (hown:∀ arr e fz,w.heap[ρ b]?=some (.cells arr e fz)->∃ arr' fz',w'.heap[ρ b]?=some (.cells arr' e fz')/\arr'.size=arr.size)
 (h1:w'.os=w.os) (h2:w'.tape=w.tape) (h3:w'.output=w.output) (bl:Blk) (hbl:BR ρ w' (ρ b) bl) (lw:Nat):Rel B ρ ⟨h.bs.set b bl,lw⟩ w':=by
 have hL:=hR.live b hb hlive;have hg:=jO hR hL hsz hoth hown h1 h2 h3;have key:∀ k (hk:k<(h.bs.set b bl).length) (hk':k<h.bs.length),(h.bs.set b bl)[k].live=true->h.bs[k].live=true:=by
  intro k hk hk' l;by_cases e:b=k
  . subst e; exact hlive
  . simpa [List.getElem_set,e] using l
 refine ⟨λi hi=>by simpa using hR.dom i hi,hR.ln,λi hi hl=>hR.live i (by simpa using hi) (key i hi (by simpa using hi) hl),λi hi=>by rw [hsz]; exact hR.lo i hi,by rw [hsz]; exact hR.base,hR.inj,λi hi=>?_,λc hc=>by rw [hsz]; exact hR.xB c hc,λc hc=>by simpa using hR.gB c hc⟩;simp only [List.length_set] at hi;by_cases e:b=i
 . subst e; simpa using hbl
 . simp only [List.getElem_set,e,if_false];by_cases l:h.bs[i].live=true
   . exact (hR.mem i hi).ext hg.ext (hoth _ λe1=>hR.inj i b (λx=>e x.symm) (hR.live i hi l) hL e1)
   . rw [rU l]; simp only [BR]
theorem lY {h:Hp}{b:Nat}{cs:List V}(hg:h.get b=some cs):∃ hb:b<h.bs.length,h.bs[b]=.cells cs:=by
 unfold Hp.get at hg;split at hg
 . rename_i c hc;obtain ⟨hb,e⟩:=bx.1 hc;cases hg;exact ⟨hb,e⟩
 . cases hg
theorem fK {B:Nat}{ρ:Rh}{h:Hp}{w:World}(hR:Rel B ρ h w){b:Nat}{cs:List V}(hg:h.get b=some cs)(hne:cs≠[]) :
 ∃ arr e fz,w.heap[ρ b]?=some (.cells arr e fz)/\cs.length<=arr.size/\(∀ j,j<arr.size->w.frozen? ⟨ρ b,j,none⟩=false) ∧
  ∀ (j:Nat) (h1:j<cs.length) (h2:j<arr.size),VR ρ (St ρ w) w cs[j] arr[j]/\arr[j].oneCell'=true:=by
 obtain ⟨hb,e⟩:=lY hg;have:=hR.mem b hb;rw [e] at this;cases cs with
 | nil=>exact absurd rfl hne
 | cons c cs=>simpa only [BR] using this
theorem jP {α:Type}{cs l:List α}{o n:Nat}(h:sub cs o n=some l):o+n<=cs.length/\l=(cs.drop o).take n:=by
 unfold sub at h;split at h
 . cases h; exact ⟨‹_›,rfl⟩
 . cases h
theorem pJ {α:Type}{cs l xs:List α}{o:Nat}(h:put cs o xs=some l):o+xs.length<=cs.length/\l=cs.take o++xs++cs.drop (o+xs.length):=by
 unfold put at h;split at h
 . cases h; exact ⟨‹_›,rfl⟩
 . cases h
theorem oO {B:Nat}{ρ:Rh}{h:Hp}{w:World}(hR:Rel B ρ h w){x:V}{v:Value}{n:Nat}{l:List V}(hn:0<n)(hv:VR ρ (St ρ w) w x v)(hl:loadAt h x n=some l) :
 ∃ b o us,v=.pointer (some ⟨b,o,none⟩)/\us.length=n/\(∀ j u,us[j]?=some u->w.cell? ⟨b,o+j,none⟩=some u)/\VRs ρ (St ρ w) w l us/\∀ u∈us,u.oneCell'=true:=by
 cases x with
 | ptr b o =>
  simp only [VR] at hv;obtain ⟨hb,rfl⟩:=hv;simp only [loadAt] at hl;cases hg:h.get b with
  | none=>simp [hg] at hl
  | some cs =>
   simp only [hg] at hl;obtain ⟨h1,rfl⟩:=jP hl;have hne:cs≠[]:=by rintro rfl; simp at h1; omega
   obtain ⟨arr,e,fz,h2,h3,h4,h5⟩:=fK hR hg hne;refine ⟨ρ b,o,(arr.toList.drop o).take n,rfl,by simp; omega,λj u hu=>?_,?_,?_⟩
   . rw [List.getElem?_take] at hu;split at hu
     . simp only [List.getElem?_drop,Array.getElem?_toList] at hu;simp [World.cell?,h2,hu]
     . cases hu
   . refine VRs.of_get (by simp; omega) λi a b=>?_;simp only [List.getElem_take,List.getElem_drop,Array.getElem_toList];exact (h5 (o+i) (by simp at a; omega) _).1
   . intro u hu;obtain ⟨i,hi,rfl⟩:=List.getElem_of_mem hu;simp only [List.getElem_take,List.getElem_drop,Array.getElem_toList];exact (h5 (o+i) (by simp at hi; omega) _).2
 | eptr cs o =>
  simp only [VR] at hv;obtain ⟨b,base,rfl,hb,hd⟩:=hv;simp only [loadAt,bk] at hl;obtain ⟨l',hl',rfl⟩:=hl;obtain ⟨h1,rfl⟩:=jP hl';have key:∀ i:Fin n,∃ u,cellAt w b (base+o+i.1)=some u/\DR (St ρ w) w (cs[o+i.1]'(by have:=i.2; omega)) u:=λi=>by
   have:=hd.get (o+i.1) (by have:=i.2; omega);simpa [Nat.add_assoc] using this
  refine ⟨b,base+o,List.ofFn λi=>Classical.choose (key i),rfl,by simp,λj u hu=>?_,?_,?_⟩
  . obtain ⟨hj,rfl⟩:=bx.1 hu;simp only [List.getElem_ofFn];exact (Classical.choose_spec (key ⟨j,by simpa using hj⟩)).1
  . refine VRs.of_data (by simp; omega) λi h1 h2=>?_;simp only [List.getElem_ofFn,List.getElem_take,List.getElem_drop];exact (Classical.choose_spec (key ⟨i,by simpa using h2⟩)).2
  . intro u hu;obtain ⟨i,hi,rfl⟩:=List.getElem_of_mem hu;simp only [List.getElem_ofFn];exact (Classical.choose_spec (key ⟨i,by simpa using hi⟩)).2.one
 | _=>simp [loadAt] at hl
theorem kg (b:Nat):∀ (us:List Value) (o:Nat) (w:World),(∀ k,k≠b->(w.setCells b o us).heap[k]?=w.heap[k]?)/\(w.setCells b o us).heap.size=w.heap.size/\(w.setCells b o us).os=w.os/\(w.setCells b o us).tape=w.tape/\(w.setCells b o us).output=w.output ∧
 (∀ arr e fz,w.heap[b]?=some (.cells arr e fz)->∃ arr',(w.setCells b o us).heap[b]?=some (.cells arr' e fz)/\arr'.size=arr.size)
 | [],o,w=>⟨λ_ _=>rfl,rfl,rfl,rfl,rfl,λarr e fz h=>⟨arr,h,rfl⟩⟩
 | u::us,o,w=>by
  obtain ⟨i1,i2,i3,i4,i5,i6⟩:=kg b us (o+1) (w.setCell ⟨b,o,none⟩ u);simp only [World.setCells];refine ⟨λk hk=>(i1 k hk).trans (Below.heap_setCell _ _ _ _ hk),by rw [i2]; simp,i3,i4,i5,λarr e fz h=>?_⟩;have:(w.setCell ⟨b,o,none⟩ u).heap[b]?=some (.cells (arr.setIfInBounds o u) e fz):=by
   simp [World.setCell,Array.getElem?_modify,h]
  obtain ⟨arr',h1,h2⟩:=i6 _ e fz this;exact ⟨arr',h1,by rw [h2]; simp⟩
theorem fC {B:Nat}{ρ:Rh}{h:Hp}{w:World}(hR:Rel B ρ h w){b o:Nat}{cs xs cs':List V}{us:List Value}(hg:h.get b=some cs)(hp:put cs o xs=some cs')(h0:xs≠[])
 (hv:VRs ρ (St ρ w) w xs us) (h1:∀ u∈us,u.oneCell'=true) :
 (storeCells ⟨ρ b,o,none⟩ us).run P w=.ok () (w.setCells (ρ b) o us)/\Rel B ρ (h.set b cs') (w.setCells (ρ b) o us)/\Goes B ρ w ρ (w.setCells (ρ b) o us):=by
 obtain ⟨hp1,rfl⟩:=pJ hp;have hpos:0<xs.length:=List.length_pos_iff.2 h0;have hne:cs≠[]:=by rintro rfl; simp only [cm] at hp1; omega
 obtain ⟨hb,eb⟩:=lY hg;obtain ⟨arr,e,fz,h2,h3,h4,h5⟩:=fK hR hg hne;have hlen:=hv.length;obtain ⟨i1,i2,i3,i4,i5,i6⟩:=kg (ρ b) us o w;obtain ⟨arr',h6,h7⟩:=i6 arr e fz h2;have hcell:∀ j,j<us.length->(w.cell? ⟨ρ b,o+j,none⟩).isSome=true:=λj hj=>by
  have:o+j<arr.size:=by omega
  simp [World.cell?,h2,this]
 have hgo:Goes B ρ w ρ (w.setCells (ρ b) o us):=jO hR (hR.live b hb (by rw [eb]; cases cs with | nil=>exact absurd rfl hne | cons c cs=>rfl)) i2 i1 (λa e' f k=>by
  obtain ⟨a',k1,k2⟩:=i6 a e' f k;exact ⟨a',f,k1,by omega⟩) i3 i4 i5
 refine ⟨?_,?_,hgo⟩
 . have:=run_storeCells_cells (P:=P) (ρ b) o us 0 w (by simpa using hcell) (by intro j hj; simp only [Nat.add_zero]; exact h4 _ (by omega)) h1;simpa using this
 . refine p9 hR hb (by rw [eb]; cases cs with | nil=>exact absurd rfl hne | cons c cs=>rfl) i2 i1 (λa e' f k=>by
    obtain ⟨a',k1,k2⟩:=i6 a e' f k;exact ⟨a',f,k1,by omega⟩) i3 i4 i5 _ ?_ _
   generalize hcs:cs.take o++xs++cs.drop (o+xs.length)=cs';have hlen':cs'.length=cs.length:=by rw [← hcs]; simp; omega
   cases cs' with
   | nil=>simp only [BR]
   | cons c' r' =>
    simp only [BR];refine ⟨arr',e,fz,h6,by omega,λj hj=>?_,λj a b'=>?_⟩
    . rw [World.frozen?_setCells]; exact h4 j (by omega)
    . have hcl:(w.setCells (ρ b) o us).cell? ⟨ρ b,j,none⟩=some arr'[j]:=by simp [World.cell?,h6]
      simp only [← hcs] at a ⊢;by_cases hj:j<o\/o+xs.length<=j
      . rw [World.cell?_setCells_out (ρ b) us o w ⟨ρ b,j,none⟩ (λ_ _=>by simpa [hlen] using hj)] at hcl;have hja:j<arr.size:=by omega
        simp [World.cell?,h2,hja] at hcl;have hjc:j<cs.length:=by rw [hcs,hlen'] at a; exact a
        have k:=h5 j hjc hja;rw [← hcl];have e1:(cs.take o++xs++cs.drop (o+xs.length))[j]=cs[j]:=by
         obtain hj | hj:=hj
         . rw [List.getElem_append_left (by simp; omega),List.getElem_append_left (by simp; omega)]; simp
         . rw [List.getElem_append_right (by simp; omega)];simp only [List.getElem_drop]
           congr 1
           simp; omega
        rw [e1];exact ⟨k.1.ext hgo.ext,k.2⟩
      . have hj1:o<=j:=by omega
        have hj2:j-o<us.length:=by omega
        have:=World.cell?_setCells_in (ρ b) us o w hcell (j-o) hj2;rw [show o+(j-o)=j by omega,hcl] at this;simp only [bd] at this;rw [this];have e1:(cs.take o++xs++cs.drop (o+xs.length))[j]=xs[j-o]'(by omega):=by
         rw [List.getElem_append_left (by simp; omega),List.getElem_append_right (by simp; omega)]
         congr 1
         simp; omega
        rw [e1];exact ⟨(hv.get (j-o) (by omega) hj2).ext hgo.ext,h1 _ (bj hj2)⟩
end
section
open Go.RowKit
variable {P:Program}
theorem jv {t:TypeId}{n:Nat}(h:iL P t=some n):∃ i,P.info? t=some i/\i.size=n:=by
 simpa [iL,bk] using h
theorem run_sizeOf {t:TypeId}{n:Nat}(h:iL P t=some n)(w:World):(sizeOf t).run P w=.ok n w:=by
 obtain ⟨i,h1,h2⟩:=jv h;simp [sizeOf,typeInfo,h1,h2]
theorem jr {t:TypeId}{b:Bool}(h:iV P t=some b)(w:World):(isAgg t).run P w=.ok b w:=by
 unfold iV at h;cases hu:P.underlying t with
 | none=>simp [hu] at h
 | some k =>
  simp only [hu] at h;cases k<;>simp at h<;>subst h<;>simp [isAgg,run_underlying hu]
def bX (ag:Bool)(cs:List Value):Value:=if ag then .agg cs.toArray else cs.headD undef
theorem p8 {t:TypeId}{ag:Bool}{n:Nat}(h:iV P t=some ag)(hs:iL P t=some n)(h1:ag=false->n=1)(arr:Array Value)(off:Nat)(hl:off+n<=arr.size)(w:World) :
 (part t arr off).run P w=.ok (bX ag ((arr.toList.drop off).take n)) w:=by
 cases ag with
 | true =>
  simp [part,jr h,run_sizeOf hs,bX];apply Array.ext';simp [Array.toList_extract]
 | false =>
  have:=h1 rfl;subst this;have hlt:off<arr.size:=by omega
  simp [part,jr h,bX,hlt];have:(List.drop off arr.toList)=arr[off]::List.drop (off+1) arr.toList:=by
   rw [aw (by simpa using hlt)]; simp
  rw [this]; simp
theorem ek:∀ {ks:List EK} {xs ys:List V} {b:Bool},bz ks xs ys=some b->xs.length=ks.length/\ys.length=ks.length
 | [],[],[],_,_=>by simp
 | [],_::_,_,_,h=>by simp [bz] at h
 | [],[],_::_,_,h=>by simp [bz] at h
 | k::ks,[],_,_,h=>by simp [bz] at h
 | k::ks,x::xs,[],_,h=>by cases x<;>simp [bz] at h
 | k::ks,x::xs,y::ys,b,h=>by
  cases x<;>cases y<;>simp only [bz] at h<;>try (cases h; done)
  rename_i a c;cases h1:lH k a c with
  | none=>simp [h1] at h
  | some r=>cases h2:bz ks xs ys with
   | none=>simp [h1,h2] at h
   | some t =>
    have:=ek h2;simp [this]
theorem lM:∀ {k1 k2:List EK} {xs ys:List V} {b:Bool},bz (k1++k2) xs ys=some b →
 ∃ b1 b2,bz k1 (xs.take k1.length) (ys.take k1.length)=some b1/\bz k2 (xs.drop k1.length) (ys.drop k1.length)=some b2/\b=(b1&&b2)
 | [],k2,xs,ys,b,h=>⟨true,b,by simp [bz],by simpa using h,by simp⟩
 | k::k1,k2,xs,ys,b,h=>by
  match xs,ys,h with
  | [],_,h=>simp [bz] at h
  | x::xs,[],h=>cases x<;>simp [bz] at h
  | x::xs,y::ys,h =>
   cases x<;>cases y<;>simp only [List.cons_append,bz] at h<;>try (cases h; done)
   rename_i a c;cases h1:lH k a c with
   | none=>simp [h1] at h
   | some r=>cases h2:bz (k1++k2) xs ys with
    | none=>simp [h1,h2] at h
    | some t =>
     simp [h1,h2] at h;obtain ⟨b1,b2,e1,e2,e3⟩:=lM h2;refine ⟨r&&b1,b2,by simp [bz,h1,e1],by simpa using e2,by rw [← h,e3,Bool.and_assoc]⟩
theorem yU {n:Nat}{t:TypeId}{ks:List EK}(h:iN P n t=some ks):∃ ag,iV P t=some ag/\(ag=false->ks.length=1):=by
 cases n with
 | zero=>simp [iN] at h
 | succ n =>
  unfold iN at h;cases hu:P.underlying t with
  | none=>simp [hu] at h
  | some k=>cases k<;>simp [hu] at h<;>simp [iV,hu]<;>first | (subst h; rfl) | skip
section
variable {ρ:Rh}{S:Nat->Prop}{w:World}
theorem Ph {t:TypeId}{k:EK}{x y:D}{u v:Value}{b:Bool}(D:Nat)(hk:(match k with | .b=>P.underlying t=some .bool | .i q=>P.underlying t=some (.int q) | .s=>P.underlying t=some .string))
 (hx:DR S w x u) (hy:DR S w y v) (he:lH k x y=some b):(Op.equalIn (D+1) t u v).run P w=.ok b w:=by
 cases k<;>cases x<;>cases y<;>simp only [lH] at he<;>try (cases he; done)
 . simp only [DR] at hx hy; subst hx hy; cases he;exact run_equalIn_bool' w D t _ _ hk
 . simp only [DR] at hx hy; subst hx hy;split at he
   . rename_i q _ a _ c hh;obtain ⟨rfl,rfl⟩:=hh;cases he;exact run_equalIn_int w D t _ _ _ _ hk
   . cases he
 . simp only [DR] at hx hy; subst hx hy; cases he;exact run_equalIn_string w D t _ _ hk
mutual
theorem FR:∀ (m:Nat) {t:TypeId} {ks:List EK} {ag:Bool} {xs ys:List V} {us vs:List Value} {b:Bool} (D:Nat),m<=D->iN P m t=some ks->iV P t=some ag->VRs ρ S w xs us->VRs ρ S w ys vs->bz ks xs ys=some b →
 (Op.equalIn D t (bX ag us) (bX ag vs)).run P w=.ok b w
 | 0,t,ks,ag,xs,ys,us,vs,b,D,_,h,_,_,_,_=>by simp [iN] at h
 | m+1,t,ks,ag,xs,ys,us,vs,b,D,hD,h,ha,hx,hy,he=>by
  obtain ⟨D,rfl⟩:∃ D',D=D'+1:=⟨D-1,by omega⟩;have h0:=h;unfold iN at h;have scal:∀ k,ks=[k]->(match k with | .b=>P.underlying t=some .bool | .i q=>P.underlying t=some (.int q) | .s=>P.underlying t=some .string)->ag=false->(Op.equalIn (D+1) t (bX ag us) (bX ag vs)).run P w=.ok b w:=by
   intro k hk hku hag;subst hk hag
   match xs,ys,ek he with
   | [x],[y],hl =>
    clear hl;simp only [VRs] at hx hy;obtain ⟨u,_,rfl,hu,rfl⟩:=hx;obtain ⟨v,_,rfl,hv,rfl⟩:=hy;cases x<;>cases y<;>simp only [bz] at he<;>try (cases he; done)
    rename_i a c;cases h1:lH k a c with
    | none=>simp [h1] at he
    | some r =>
     simp [h1] at he;subst he;simp only [VR] at hu hv;simpa [bX] using Ph D hku hu hv h1
  cases hu:P.underlying t with
  | none=>simp [hu] at h
  | some k =>
   cases k<;>simp only [hu] at h<;>try (cases h; done)
   . simp [iV,hu] at ha; cases h; exact scal _ rfl hu (by simpa using ha)
   . simp [iV,hu] at ha; cases h; exact scal _ rfl hu (by simpa using ha)
   . simp [iV,hu] at ha; cases h; exact scal _ rfl hu (by simpa using ha)
   . rename_i fs;simp [iV,hu] at ha;subst ha;split at h
     . cases h
     . rename_i hst;have hfs:P.fieldsOf t=fs:=by simp [Program.fieldsOf,hu]
       have:=run_equalIn_struct (P:=P) w D t us.toArray vs.toArray (by rw [hfs]; exact hu) (by simpa using hst);simp only [bX,if_true];rw [this,hfs];exact Cg m D (by omega) h (by simpa using hx) (by simpa using hy) (by simpa using he) (by simp [hx.length,(ek he).1]) (by simp [hy.length,(ek he).2])
theorem Cg:∀ (m:Nat) {fs:List Field} {off:Nat} {ks:List EK} {xs ys:List V} {us vs:Array Value} {b:Bool} (D:Nat),m<=D->eD P m fs off=some ks->VRs ρ S w xs us.toList->VRs ρ S w ys vs.toList->bz ks (xs.drop off) (ys.drop off)=some b →
 off+ks.length=us.size->off+ks.length=vs.size->(Op.eqFields D us vs fs).run P w=.ok b w
 | m,[],off,ks,xs,ys,us,vs,b,D,hD,h,hx,hy,he,l1,l2=>by
  have:ks=[]:=by cases m<;>simp [eD] at h<;>exact h
  subst this;have hl:=ek he;have e1:=List.eq_nil_of_length_eq_zero hl.1;have e2:=List.eq_nil_of_length_eq_zero hl.2;rw [e1,e2] at he;simp [bz] at he;subst he;rfl
 | 0,f::fs,off,ks,xs,ys,us,vs,b,D,hD,h,hx,hy,he,l1,l2=>by simp [eD] at h
 | m+1,f::fs,off,ks,xs,ys,us,vs,b,D,hD,h,hx,hy,he,l1,l2=>by
  unfold eD at h;split at h
  . rename_i hf;obtain ⟨ho,hname⟩:=hf;cases hk:iN P m f.type with
    | none=>simp [hk] at h
    | some k1 =>
     simp only [hk] at h;split at h
     . rename_i hsz;cases hr:eD P m fs (off+k1.length) with
       | none=>simp [hr] at h
       | some k2 =>
        simp only [hr,bd] at h;subst h;obtain ⟨b1,b2,c1,c2,rfl⟩:=lM he;obtain ⟨ag,ha,ha1⟩:=yU hk;have hl:=ek he;simp only [ao,List.length_drop] at hl l1 l2;have p1:=p8 (P:=P) ha hsz ha1 us off (by omega) w;have p2:=p8 (P:=P) ha hsz ha1 vs off (by omega) w;have e1:=FR m D (by omega) hk ha ((hx.drop off).take k1.length) ((hy.drop off).take k1.length) c1;have e2:=Cg m D (by omega) hr hx hy (by simpa [bh] using c2) (by omega) (by omega);rw [← ho] at p1 p2;simp only [Op.eqFields,hname,ne_eq,not_false_eq_true,if_true,Sem.run_bind];rw [p1];simp only [Result.andThen_ok];rw [p2];simp only [Result.andThen_ok];rw [ho,e1];simp only [Result.andThen_ok];cases b1
        . simp
        . simpa using e2
     . cases h
  . cases h
end
end
end
