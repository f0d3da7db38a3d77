/- A pure reading of the operations: data as values, memory of one's own as rows of values. Definitions alone. -/
import Derived.Tactics
set_option linter.unusedVariables false
namespace Go.Proofs.YtjkfknafpgfchaaGreat
inductive D where
 | bool (b:Bool)
 | int (k:IntKind) (n:Int)
 | str (s:ByteArray)
 | nilp
 | nilf
 | nili
 | nilc
 | slice (nl:Bool) (es:List (List D))
 deriving Inhabited
inductive V where
 | d (x:D)
 | ptr (b o:Nat)
 | eptr (cs:List D) (o:Nat)
 | row (b o len:Nat) (cap:Option Nat) (z:Nat)
 | fn (f:FuncId) (caps:List V)
 | mfn (f:FuncId) (first:List V)
 | agg (cs:List V)
 | tup (vs:List V)
 | undef
 deriving Inhabited
inductive Blk where
 | cells (cs:List V)
 | iter (s:ByteArray) (pos:Nat)
 deriving Inhabited
structure Hp where
 bs:List Blk
 low:Nat
inductive X where
 | t (i:Nat)
 | c (v:V)
 deriving Inhabited
inductive SK where
 | sl | st | ar (n:Nat)
inductive EK where
 | b | i (k:IntKind) | s
inductive EQ where
 | sc (k:EK) | agg (ks:List EK) | ptr | sl | fn
inductive R where
 | mov (x:X)
 | pick (c a b:X)
 | new (z:List V)
 | box (x:X)
 | build (zero:List V) (ps:List (Nat × Nat × X))
 | buildS (z n:Nat) (zero:List V) (ps:List (Nat × Nat × X))
 | load (sc:Bool) (n:Nat) (a:X)
 | store (n:Nat) (a x:X)
 | nilchk (x:X)
 | bin (op:BinOp) (x y:X)
 | eq (k:EQ) (neg:Bool) (x y:X)
 | un (op:UnOp) (x:X)
 | convI (k:IntKind) (x:X)
 | convBS (x:X)
 | convSB (x:X)
 | convSS (x:X)
 | fldA (x:X) (off:Nat)
 | fld (sc:Bool) (x:X) (off n:Nat)
 | idxA (arr:Option Nat) (z:Nat) (x i:X)
 | idx (sc:Bool) (len z:Nat) (x i:X)
 | idxS (x i:X)
 | slc (k:SK) (z:Nat) (x:X) (lo hi mx:Option X)
 | mkfn (f:FuncId) (caps:List X)
 | mkmv (f:FuncId) (xs:List X)
 | mksl (z:Nat) (bytes:Nat) (zero:List V) (len cap:X)
 | ext (x:X) (i:Nat)
 | call (f:X) (args:List X)
 | app (z bytes:Nat) (s x:X)
 | len (st:Bool) (x:X)
 | copy (z:Nat) (a b:X)
 | clear (z:Nat) (zero:List V) (a:X)
 | minmax (mx:Bool) (xs:List X)
 | range (x:X)
 | next (x:X)
structure RO where
 g:Option (Nat × Bool)
 d:Option Nat
 r:R
inductive RC where
 | skip
 | ret
 | exit (i:Nat)
 | reg (pr:Option (List (List Nat))) (os:List RO)
 | seq (a b:RC)
 | cond (c:X) (a b:RC)
 | block (i:Nat) (b:RC)
 | loop (dead:List Nat) (b:RC)
inductive RV where
 | tmp (t:Nat)
 | cell (t:Nat) (sc:Bool) (n:Nat)
structure RF where
 ntmps:Nat
 res:List RV
 code:RC
abbrev Env:=List V
def X.ev (e:Env):X -> V
 | .t i=>e.getD i .undef
 | .c v=>v
def V.cells:V -> Option (List V)
 | .agg cs=>some cs
 | .tup _ | .undef=>none
 | v=>some [v]
def mk (sc:Bool) (cs:List V):Option V :=
 match sc,cs with
 | true,[v]=>some v
 | true,_=>none
 | false,cs=>some (.agg cs)
def Hp.get (h:Hp) (b:Nat):Option (List V) :=
 match h.bs[b]? with
 | some (.cells cs)=>some cs
 | _=>none
def Hp.alloc (h:Hp) (cs:List V):Hp:={ h with bs:=h.bs ++ [.cells cs] }
def Hp.set (h:Hp) (b:Nat) (cs:List V):Hp:=⟨h.bs.set b (.cells cs),min h.low b⟩
def Hp.size (h:Hp):Nat:=h.bs.length
def sub {α:Type} (cs:List α) (o n:Nat):Option (List α) :=
 if o + n <= cs.length then some ((cs.drop o).take n) else none
def put {α:Type} (cs:List α) (o:Nat) (xs:List α):Option (List α) :=
 if o + xs.length <= cs.length then some (cs.take o ++ xs ++ cs.drop (o + xs.length)) else none
def fills (e:Env):List V -> List (Nat × Nat × X) -> Option (List V)
 | cs,[]=>some cs
 | cs,(o,n,x) :: ps=>match (x.ev e).cells with
  | some xs=>if xs.length = n then (match put cs o xs with | some cs'=>fills e cs' ps | none=>none) else none
  | none=>none
def loadAt (h:Hp) (v:V) (n:Nat):Option (List V) :=
 match v with
 | .ptr b o=>match h.get b with
  | some cs=>sub cs o n
  | none=>none
 | .eptr cs o=>(sub cs o n).map (·.map .d)
 | _=>none
def storeAt (h:Hp) (v:V) (xs:List V):Option Hp :=
 match v with
 | .ptr b o=>match h.get b with
  | some cs=>match put cs o xs with
   | some cs'=>some (h.set b cs')
   | none=>none
  | none=>none
 | _=>none
def kJ:EK -> D -> D -> Option Bool
 | .b,.bool a,.bool b=>some (a == b)
 | .i k,.int k' a,.int k'' b=>if k' = k /\ k'' = k then some (a == b) else none
 | .s,.str a,.str b=>some (a.toList == b.toList)
 | _,_,_=>none
def bn:List EK -> List V -> List V -> Option Bool
 | [],[],[]=>some true
 | k :: ks,.d a :: xs,.d b :: ys=>match kJ k a b,bn ks xs ys with
  | some r,some t=>some (r && t)
  | _,_=>none
 | _,_,_=>none
def fu:EQ -> V -> V -> Option Bool
 | .sc k,.d a,.d b=>kJ k a b
 | .agg ks,.agg xs,.agg ys=>bn ks xs ys
 | .ptr,.d .nilp,.d .nilp=>some true
 | .ptr,.ptr _ _,.d .nilp=>some false
 | .ptr,.d .nilp,.ptr _ _=>some false
 | .ptr,.eptr _ _,.d .nilp=>some false
 | .sl,.d (.slice a _),.d (.slice true [])=>some a
 | .sl,.row _ _ _ _ _,.d (.slice true [])=>some false
 | .fn,.fn _ _,.d .nilf=>some false
 | .fn,.d .nilf,.d .nilf=>some true
 | _,_,_=>none
def dU (op:BinOp) (k:IntKind) (a b:Int):Option D :=
 match op with
 | .add=>some (.int k (k.wrap (a + b)))
 | .sub=>some (.int k (k.wrap (a - b)))
 | .mul=>some (.int k (k.wrap (a * b)))
 | .quo=>if b = 0 then none else some (.int k (k.wrap (a.tdiv b)))
 | .rem=>if b = 0 then none else some (.int k (a.tmod b))
 | .and=>some (.int k (k.wrap ((BitVec.ofInt k.bits a &&& BitVec.ofInt k.bits b).toNat)))
 | .or=>some (.int k (k.wrap ((BitVec.ofInt k.bits a ||| BitVec.ofInt k.bits b).toNat)))
 | .xor=>some (.int k (k.wrap ((BitVec.ofInt k.bits a ^^^ BitVec.ofInt k.bits b).toNat)))
 | .andNot=>some (.int k (k.wrap ((BitVec.ofInt k.bits a &&& ~~~ BitVec.ofInt k.bits b).toNat)))
 | .eql=>some (.bool (a == b))
 | .neq=>some (.bool (a != b))
 | .lss=>some (.bool (a < b))
 | .leq=>some (.bool (a <= b))
 | .gtr=>some (.bool (a > b))
 | .geq=>some (.bool (a >= b))
 | _=>none
def uX (op:BinOp) (a b:ByteArray):Option D :=
 match op with
 | .add=>if a.size + b.size <= 2 ^ 40 then some (.str (a ++ b)) else none
 | .eql=>some (.bool (a.toList == b.toList))
 | .neq=>some (.bool (!(a.toList == b.toList)))
 | .lss=>some (.bool (Op.bytesLess a.toList b.toList))
 | .leq=>some (.bool (Op.bytesLess a.toList b.toList || a.toList == b.toList))
 | .gtr=>some (.bool (!(Op.bytesLess a.toList b.toList || a.toList == b.toList)))
 | .geq=>some (.bool (!Op.bytesLess a.toList b.toList))
 | _=>none
def bJ (op:BinOp) (x y:V):Option D :=
 match op,x,y with
 | .shl,.d (.int k a),.d (.int _ b)=>if b < 0 then none else some (.int k (k.wrap (a * 2 ^ (min b.toNat k.bits))))
 | .shr,.d (.int k a),.d (.int _ b)=>if b < 0 then none else some (.int k (a.fdiv (2 ^ (min b.toNat k.bits))))
 | op,.d (.int k a),.d (.int k' b)=>if k = k' then dU op k a b else none
 | op,.d (.str a),.d (.str b)=>uX op a b
 | _,_,_=>none
def unD (op:UnOp) (x:V):Option D :=
 match op,x with
 | .not,.d (.bool b)=>some (.bool !b)
 | .neg,.d (.int k n)=>some (.int k (k.wrap (0 - n)))
 | .xor,.d (.int k n)=>some (.int k (k.wrap ((BitVec.ofInt k.bits (if k.signed then -1 else k.max) ^^^ BitVec.ofInt k.bits n).toNat)))
 | _,_=>none
def aF (h:Hp) (v:V) (z:Nat):Option (Nat × List V) :=
 match v with
 | .d (.slice _ es)=>if es.all (·.length == z) then some (es.length,es.flatten.map .d) else none
 | .row b o len _ z'=>if z' = z then (match h.get b with | some cs=>(sub cs o (len * z)).map (len,·) | none=>none) else none
 | .d (.str s)=>if z = 1 then some (s.size,s.toList.map fun b=>.d (.int .u8 b.toNat)) else none
 | _=>none
def roomy (n bytes:Nat):Bool:=n <= 2 ^ 30 && bytes <= 2 ^ 12
def aC (h:Hp) (z bytes:Nat) (s:V) (m:Nat) (xs:List V):Option (V × Hp) :=
 match s with
 | .d (.slice true _) =>
  if m = 0 then some (s,h)
  else if z = 0 then none
  else if roomy m bytes then some (.row h.size 0 m none z,h.alloc xs) else none
 | .row b o len cap z' =>
  if z' ≠ z \/ z = 0 then none else
  if m = 0 then some (s,h) else
  match h.get b with
  | none=>none
  | some cs=>match sub cs o (len * z) with
   | none=>none
   | some old =>
    if !roomy (len + m) bytes then none else
    match cap with
    | some c =>
     if len + m <= c then (match put cs (o + len * z) xs with | some cs'=>some (.row b o (len + m) cap z,h.set b cs') | none=>none)
     else some (.row h.size 0 (len + m) none z,h.alloc (old ++ xs))
    | none =>
     if o = 0 /\ old.length = cs.length /\ 0 < cs.length then some (.row h.size 0 (len + m) none z,(h.set b []).alloc (old ++ xs))
     else if o + (len + m) * z <= cs.length then (match put cs (o + len * z) xs with | some cs'=>some (.row b o (len + m) none z,h.set b cs') | none=>none)
     else if o = 0 /\ 0 < cs.length then some (.row h.size 0 (len + m) none z,(h.set b []).alloc (old ++ xs)) else none
 | .d (.slice false [])=>if m = 0 then some (s,h) else none
 | _=>none
def bound (e:Env) (x:Option X) (dft:Nat):Option Nat :=
 match x with
 | none=>some dft
 | some x=>match x.ev e with
  | .d (.int _ n)=>if 0 <= n then some n.toNat else none
  | _=>none
def cz (hp:Hp) (e:Env) (k:SK) (z:Nat) (x:V) (lo hi mx:Option X):Option V :=
 match k,x with
 | .sl,.d (.slice nl es)=>match bound e lo 0,bound e hi es.length,mx with
  | some l,some h,none=>if l <= h /\ h <= es.length /\ (es.headD (List.replicate z .nilp)).length = z then some (.d (.slice nl ((es.take h).drop l))) else none
  | _,_,_=>none
 | .sl,.row b o len cap z'=>match bound e lo 0,bound e hi len,mx with
  | some l,some h,none =>
   if l <= h /\ h <= len /\ z' = z then
    (if l = 0 then some (.row b o h cap z)
    else if l < len then some (.row b (o + l * z) (h - l) (cap.map (· - l)) z)
    else some (.d (.slice false [])))
   else none
  | some l,some h,some m=>match bound e (some m) 0 with
   | some m=>if l <= h /\ h <= m /\ m <= len /\ z' = z /\ (l = 0 \/ l < m) /\ hi.isSome = true then some (.row b (o + l * z) (h - l) (some (m - l)) z) else none
   | none=>none
  | _,_,_=>none
 | .st,.d (.str s)=>match bound e lo 0,bound e hi s.size,mx with
  | some l,some h,none=>if l <= h /\ h <= s.size then some (.d (.str (s.extract l h))) else none
  | _,_,_=>none
 | .ar n,.ptr b o=>match bound e lo 0,bound e hi n,mx with
  | some l,some h,none=>if l <= h /\ h <= n /\ l < n /\ 0 < n * z then match hp.get b with
   | some cs=>if o + n * z <= cs.length /\ n <= 2 ^ 40 then some (.row b (o + l * z) (h - l) (some (n - l)) z) else none
   | none=>none
   else none
  | _,_,_=>none
 | _,_=>none
abbrev Calls':=FuncId -> List V -> Hp -> Option (V × Hp)
def ed (C:Calls') (f:V) (args:List V) (h:Hp):Option (V × Hp) :=
 match f with
 | .fn f caps=>C f (args ++ caps) h
 | .mfn f first=>C f (first ++ args) h
 | _=>none
def V.len:Bool -> V -> Option Nat
 | false,.d (.slice _ es)=>some es.length
 | false,.row _ _ n _ _=>some n
 | true,.d (.str s)=>some s.size
 | _,_=>none
def fw (mx:Bool):V -> List V -> Option V
 | v,[]=>some v
 | .d (.int k a),.d (.int k' b) :: l=>if k = k' then fw mx (.d (.int k (if mx then (if b > a then b else a) else (if b < a then b else a)))) l else none
 | _,_=>none
def one (x:Option D) (h:Hp):Option (V × Hp):=x.map fun d=>(.d d,h)
def opM (C:Calls') (r:R) (e:Env) (h:Hp):Option (V × Hp) :=
 match r with
 | .mov x=>some (x.ev e,h)
 | .pick c a b=>match c.ev e with
  | .d (.bool t)=>some (if t then a.ev e else b.ev e,h)
  | _=>none
 | .new z=>some (.ptr h.size 0,h.alloc z)
 | .box x=>match (x.ev e).cells with
  | some cs=>some (.ptr h.size 0,h.alloc cs)
  | none=>none
 | .build zero ps=>match fills e zero ps with
  | some cs=>some (.agg cs,h)
  | none=>none
 | .buildS z n zero ps=>match fills e (List.replicate n zero).flatten ps with
  | some cs=>some (.row h.size 0 n (some n) z,h.alloc cs)
  | none=>none
 | .load sc n a=>match loadAt h (a.ev e) n with
  | some cs=>(mk sc cs).map (·,h)
  | none=>none
 | .store n a x=>match (x.ev e).cells with
  | some xs=>if xs.length = n /\ 0 < n then (storeAt h (a.ev e) xs).map (.undef,·) else none
  | none=>none
 | .nilchk x=>match x.ev e with
  | .ptr b o=>some (.ptr b o,h)
  | .eptr cs o=>some (.eptr cs o,h)
  | .fn f cs=>some (.fn f cs,h)
  | .mfn f cs=>some (.mfn f cs,h)
  | _=>none
 | .bin op x y=>one (bJ op (x.ev e) (y.ev e)) h
 | .eq k neg x y=>match fu k (x.ev e) (y.ev e) with
  | some b=>some (.d (.bool (b != neg)),h)
  | none=>none
 | .un op x=>one (unD op (x.ev e)) h
 | .convI k x=>match x.ev e with
  | .d (.int _ n)=>some (.d (.int k (k.wrap n)),h)
  | _=>none
 | .convBS x=>match x.ev e with
  | .d (.str _)=>none
  | v=>match aF h v 1 with
   | some (_,cs)=>match cs.mapM (fun v=>match v with | .d (.int .u8 n)=>some (UInt8.ofNat n.toNat) | _=>none) with
    | some l=>some (.d (.str ⟨l.toArray⟩),h)
    | none=>none
   | none=>none
 | .convSB x=>match x.ev e with
  | .d (.str s)=>if s.size <= 2 ^ 40 then some (.row h.size 0 s.size none 1,h.alloc (s.toList.map fun b=>.d (.int .u8 b.toNat))) else none
  | _=>none
 | .convSS x=>match x.ev e with
  | .d (.str s)=>some (.d (.str s),h)
  | _=>none
 | .fldA x off=>match x.ev e with
  | .ptr b o=>some (.ptr b (o + off),h)
  | .eptr cs o=>some (.eptr cs (o + off),h)
  | _=>none
 | .fld sc x off n=>match x.ev e with
  | .agg cs=>match sub cs off n with
   | some l=>(mk sc l).map (·,h)
   | none=>none
  | _=>none
 | .idxA arr z x i=>match i.ev e,arr,x.ev e with
  | .d (.int _ i),none,.d (.slice _ es)=>if 0 <= i then (match es[i.toNat]? with | some c=>if c.length = z then some (.eptr c 0,h) else none | none=>none) else none
  | .d (.int _ i),none,.row b o len _ z'=>if 0 <= i /\ i < len /\ z' = z then some (.ptr b (o + i.toNat * z),h) else none
  | .d (.int _ i),some n,.ptr b o=>if 0 <= i /\ i < n then some (.ptr b (o + i.toNat * z),h) else none
  | .d (.int _ i),some n,.eptr cs o=>if 0 <= i /\ i < n then some (.eptr cs (o + i.toNat * z),h) else none
  | _,_,_=>none
 | .idx sc n z x i=>match i.ev e,x.ev e with
  | .d (.int _ i),.agg cs=>if 0 <= i /\ i < n then (match sub cs (i.toNat * z) z with | some l=>(mk sc l).map (·,h) | none=>none) else none
  | _,_=>none
 | .idxS x i=>match i.ev e,x.ev e with
  | .d (.int _ i),.d (.str s)=>if 0 <= i then (match s.toList[i.toNat]? with | some b=>some (.d (.int .u8 b.toNat),h) | none=>none) else none
  | _,_=>none
 | .slc k z x lo hi mx=>(cz h e k z (x.ev e) lo hi mx).map (·,h)
 | .mkfn f caps=>some (.fn f (caps.map (·.ev e)),h)
 | .mkmv f xs=>some (.mfn f (xs.map (·.ev e)),h)
 | .mksl z bytes zero len cap=>match len.ev e,cap.ev e with
  | .d (.int .i64 l),.d (.int .i64 c)=>if 0 <= l /\ l <= c /\ c <= 2 ^ 30 /\ bytes <= 2 ^ 12 then some (.row h.size 0 l.toNat (some c.toNat) z,h.alloc (List.replicate c.toNat zero).flatten) else none
  | _,_=>none
 | .ext x i=>match x.ev e with
  | .tup vs=>vs[i]?.map (·,h)
  | _=>none
 | .call f args=>ed C (f.ev e) (args.map (·.ev e)) h
 | .app z bytes s x=>match aF h (x.ev e) z with
  | some (m,xs)=>aC h z bytes (s.ev e) m xs
  | none=>none
 | .len st x=>match (x.ev e).len st with
  | some n=>some (.d (.int .i64 n),h)
  | none=>none
 | .copy z a b=>match aF h (b.ev e) z,a.ev e with
  | some (m,xs),.row b o len _ z'=>if z' = z then (match h.get b with
   | some cs=>if min m len * z = 0 then some (.d (.int .i64 (min m len:Nat)),h) else (match put cs o (xs.take (min m len * z)) with | some cs'=>some (.d (.int .i64 (min m len:Nat)),h.set b cs') | none=>none)
   | none=>none) else none
  | _,_=>none
 | .clear z zero a=>match a.ev e with
  | .row b o len _ z'=>if z' = z then (match h.get b with
   | some cs=>if len * z = 0 then some (.undef,h) else (match put cs o (List.replicate len zero).flatten with | some cs'=>some (.undef,h.set b cs') | none=>none)
   | none=>none) else none
  | .d (.slice _ [])=>some (.undef,h)
  | _=>none
 | .minmax mx xs=>match xs with
  | []=>none
  | x :: xs=>match fw mx (x.ev e) (xs.map (·.ev e)) with
   | some v=>some (v,h)
   | none=>none
 | .range x=>match x.ev e with
  | .d (.str s)=>some (.ptr h.size 0,{ h with bs:=h.bs ++ [.iter s 0] })
  | _=>none
 | .next x=>match x.ev e with
  | .ptr b 0=>match h.bs[b]? with
   | some (.iter s pos) =>
    if pos < s.size then
     let (c,w):=Utf8.decode s pos
     some (.tup [.d (.bool true),.d (.int .i64 pos),.d (.int .i32 c)],⟨h.bs.set b (.iter s (pos + w)),min h.low b⟩)
    else some (.tup [.d (.bool false)],h)
   | _=>none
  | _=>none
def fE (e:Env) (d:Option Nat) (v:V):Env :=
 match d with
 | some i=>e.set i v
 | none=>e
def iU (C:Calls'):List RO -> Env -> Hp -> Option (Env × Hp)
 | [],e,h=>some (e,h)
 | o :: os,e,h =>
  match o.g with
  | some (j,want)=>match e.getD j .undef with
   | .d (.bool t) =>
    if t = want then (match opM C o.r e h with
     | some (v,h')=>iU C os (fE e o.d v) h'
     | none=>none)
    else iU C os (fE e o.d (.tup [])) h
   | .tup []=>iU C os (fE e o.d (.tup [])) h
   | _=>none
  | none=>match opM C o.r e h with
   | some (v,h')=>iU C os (fE e o.d v) h'
   | none=>none
def R.xs:R -> List X
 | .mov x | .box x | .nilchk x | .un _ x | .convI _ x | .convBS x | .convSB x | .convSS x | .fldA x _ | .fld _ x _ _ | .ext x _ | .len _ x | .range x | .next x | .clear _ _ x | .load _ _ x=>[x]
 | .pick c a b=>[c,a,b]
 | .new _=>[]
 | .build _ ps | .buildS _ _ _ ps=>ps.map (·.2.2)
 | .store _ a x | .bin _ a x | .eq _ _ a x | .idxA _ _ a x | .idx _ _ _ a x | .idxS a x | .mksl _ _ _ a x | .app _ _ a x | .copy _ a x=>[a,x]
 | .slc _ _ x lo hi mx=>[x] ++ lo.toList ++ hi.toList ++ mx.toList
 | .mkfn _ caps=>caps
 | .mkmv _ xs=>xs
 | .call f args=>f :: args
 | .minmax _ xs=>xs
structure Bl where
 n:Nat
 kp:List Nat
instance : OfNat Bl 0:=⟨⟨0,[]⟩⟩
def gF:V -> V -> Bool
 | .ptr b o,.ptr b' o'=>b == b' && o == o'
 | .d .nilp,.d .nilp=>true
 | _,_=>false
def bS:List V -> List V -> Bool
 | [],[]=>true
 | v :: vs,w :: ws=>gF v w && bS vs ws
 | _,_=>false
def Jc:Option Blk -> Option Blk -> Bool
 | some (.cells a),some (.cells b)=>bS a b
 | _,_=>false
def lg (bs bs':List Blk):List Nat:=(List.range bs.length).filter fun i=>Jc bs[i]? bs'[i]?
structure Tr where
 call:Bool
 big:Bool
 nd:List Nat
 wr:List Nat
 lo:Nat
 hi:Nat
 bl:Bl
def V.blk:V -> List Nat
 | .ptr b _ | .row b _ _ _ _=>[b]
 | _=>[]
def eU (e:Env):R -> List Nat
 | .load _ _ a | .convBS a=>(a.ev e).blk
 | .store _ a _=>(a.ev e).blk
 | .app _ _ s x=>(s.ev e).blk ++ (x.ev e).blk
 | .copy _ a b=>(a.ev e).blk ++ (b.ev e).blk
 | .clear _ _ a=>(a.ev e).blk
 | .next x=>(x.ev e).blk
 | .slc _ _ x _ _ _=>(x.ev e).blk
 | _=>[]
def dm (e:Env):R -> List Nat
 | .store _ a _=>(a.ev e).blk
 | .app _ _ s _=>(s.ev e).blk
 | .copy _ a _=>(a.ev e).blk
 | .clear _ _ a=>(a.ev e).blk
 | .next x=>(x.ev e).blk
 | _=>[]
def opD (C:Calls') (r:R) (e:Env) (h:Hp):Option (V × Hp × Tr) :=
 match r with
 | .call f args=>match ed C (f.ev e) (args.map (·.ev e)) ⟨h.bs,h.bs.length⟩ with
  | some (v,h')=>if h.bs.length <= h'.low then
   (if h'.bs.length = h.bs.length then some (v,h,⟨true,false,[],[],h.bs.length,h.bs.length,0⟩)
   else some (v,⟨h'.bs,h.low⟩,⟨true,false,[],[],h.bs.length,h'.bs.length,0⟩))
   else some (v,⟨h'.bs,min h.low h'.low⟩,⟨true,true,[],[],h.bs.length,h'.bs.length,⟨h'.low,lg h.bs h'.bs⟩⟩)
  | none=>none
 | r=>match opM C r e h with
  | some (v,h')=>some (v,h',⟨false,false,eU e r,dm e r,h.bs.length,h'.bs.length,0⟩)
  | none=>none
structure Stp where
 h:Hp
 v:V
 h':Hp
 t:Tr
def aV (h:Hp):Tr:=⟨false,false,[],[],h.bs.length,h.bs.length,0⟩
def stepD (C:Calls') (o:RO) (e:Env) (h:Hp):Option Stp :=
 let go:Option Stp:=match opD C o.r e h with
  | some (v,h',t)=>some ⟨h,v,h',t⟩
  | none=>none
 match o.g with
 | none=>go
 | some (j,want)=>match e.getD j .undef with
  | .d (.bool t)=>if t = want then go else some ⟨h,.tup [],h,aV h⟩
  | .tup []=>some ⟨h,.tup [],h,aV h⟩
  | _=>none
def kC (C:Calls'):List RO -> Env -> Hp -> Option (List Stp × Env × Hp)
 | [],e,h=>some ([],e,h)
 | o :: os,e,h=>match stepD C o e h with
  | some s=>match kC C os (fE e o.d s.v) s.h' with
   | some (l,e',h')=>some (s :: l,e',h')
   | none=>none
  | none=>none
def Tr.still (t:Tr):Bool:=!t.call && !t.big && t.nd.isEmpty && t.wr.isEmpty && t.lo == t.hi
def Tr.calm (t:Tr):Bool:=!t.big && t.wr.isEmpty && t.lo == t.hi
def Tr.spares (t u:Tr):Bool :=
 if t.big || u.big then t.calm || u.still || (t.big && !u.call && u.nd.all fun b=>decide (b < t.bl.n) || t.bl.kp.contains b) || (!t.big && u.call && t.wr.isEmpty && (t.lo == t.hi || u.lo <= t.lo))
 else if u.call then t.wr.isEmpty && (t.lo == t.hi || u.lo <= t.lo)
 else u.nd.all fun b=>!t.wr.contains b && !(t.lo <= b && b < t.hi)
def pG (pr:List (List Nat)) (l:List Stp):Bool :=
 (List.range l.length).all fun i=>(List.range l.length).all fun j =>
  i == j || (pr.getD i []).contains j || (pr.getD j []).contains i ||
  match l[i]?,l[j]? with
  | some s,some t=>s.t.spares t.t
  | _,_=>false
def sV (C:Calls') (pr:List (List Nat)) (os:List RO) (e:Env) (h:Hp):Option (Env × Hp) :=
 match kC C os e h with
 | some (l,e',h')=>if pG pr l = true then some (e',h') else none
 | none=>none
inductive Ex where
 | normal | ret | exit (i:Nat)
abbrev Out:=Option (Ex × Env × Hp)
def mask (dead:List Nat) (e:Env):Env:=dead.foldl (fun e i=>e.set i .undef) e
def aT (C:Calls'):Nat -> RC -> Env -> Hp -> Out
 | 0,_,_,_=>none
 | n + 1,c,e,h=>match c with
  | .skip=>some (.normal,e,h)
  | .ret=>some (.ret,e,h)
  | .exit i=>some (.exit i,e,h)
  | .reg none os=>match iU C os e h with
   | some (e,h)=>some (.normal,e,h)
   | none=>none
  | .reg (some pr) os=>match sV C pr os e h with
   | some (e,h)=>some (.normal,e,h)
   | none=>none
  | .seq a b=>match aT C n a e h with
   | some (.normal,e,h)=>aT C n b e h
   | r=>r
  | .cond c a b=>match c.ev e with
   | .d (.bool t)=>aT C n (if t then a else b) e h
   | _=>none
  | .block i b=>match aT C n b e h with
   | some (.exit j,e,h)=>if j = i then some (.normal,e,h) else some (.exit j,e,h)
   | r=>r
  | .loop dead b=>match aT C n b (mask dead e) h with
   | some (.normal,e,h)=>aT C n (.loop dead b) e h
   | r=>r
end Go.Proofs.YtjkfknafpgfchaaGreat
