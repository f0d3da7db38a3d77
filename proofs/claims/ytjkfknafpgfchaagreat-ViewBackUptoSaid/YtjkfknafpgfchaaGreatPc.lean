/- From the program's code to the operations that are read purely. -/
import Derived.Test.YtjkfknafpgfchaaGreatPv
set_option linter.unusedVariables false
namespace Go.Proofs.YtjkfknafpgfchaaGreat
section
def dOf:Value -> Option D
 | .bool b=>some (.bool b)
 | .int k n=>some (.int k n)
 | .string s=>some (.str s)
 | .pointer none=>some .nilp
 | .slice none 0 0=>some (.slice true [])
 | .nilFunc=>some .nilf
 | .nilIface=>some .nili
 | .chan none=>some .nilc
 | _=>none
def vOf:Value -> Option V
 | .agg cs=>(cs.toList.mapM dOf).map fun l=>.agg (l.map .d)
 | v=>(dOf v).map .d
def bg:Operand -> Option X
 | .tmp t=>some (.t t)
 | .const v=>(vOf v).map .c
 | .func f=>some (.c (.fn f []))
 | .global _=>none
section
variable (P:Program)
def gQ (t:TypeId):Option Nat:=(P.info? t).map (·.size)
def FB (t:TypeId):Option Nat:=(P.info? t).map (·.bytes)
def gZ (t:TypeId):Option Bool:=match P.underlying t with
 | some (.struct _) | some (.array _ _)=>some true
 | some _=>some false
 | none=>none
def gy (t:TypeId):Option (List V):=do
 let i ← P.info? t
 let z ← i.zero
 let l ← z.cells.toList.mapM dOf
 if l.length = i.size then some (l.map .d) else none
def jU (t:TypeId):Option TypeId:=match P.underlying t with
 | some (.slice e)=>some e
 | _=>none
mutual
def gV:Nat -> TypeId -> Option (List EK)
 | 0,_=>none
 | n + 1,t=>match P.underlying t with
  | some .bool=>some [.b]
  | some (.int k)=>some [.i k]
  | some .string=>some [.s]
  | some (.struct fs)=>if P.stoodInHeld t = true then none else dO n fs.toList 0
  | _=>none
def dO:Nat -> List Field -> Nat -> Option (List EK)
 | _,[],_=>some []
 | 0,_,_=>none
 | n + 1,f :: fs,off=>if f.offset = off /\ f.name ≠ "_" then match gV n f.type with
  | some ks=>if gQ P f.type = some ks.length then match dO n fs (off + ks.length) with
   | some r=>some (ks ++ r)
   | none=>none
   else none
  | none=>none
  else none
end
def rX (t:TypeId):Option EQ:=match P.underlying t with
 | some .bool=>some (.sc .b)
 | some (.int k)=>some (.sc (.i k))
 | some .string=>some (.sc .s)
 | some (.pointer _)=>some .ptr
 | some (.slice _)=>some .sl
 | some (.func _ _ _)=>some .fn
 | some (.struct _)=>if P.eqGuardType P.depth t = true then none else (gV P 200 t).map .agg
 | _=>none
def partsOf (place:Nat -> Option (Nat × Nat)) (ps:Array (Nat × Operand)):Option (List (Nat × Nat × X)) :=
 ps.toList.mapM fun (i,x)=>do
  let (o,n) ← place i
  pure (o,n,← bg x)
def bm3 (t:TypeId):Bool:=match P.underlying t with
 | some (.slice _) | some .string=>true
 | _=>false
def bu (o:Oper):Option R :=
 match o.op with
 | .move x | .assign x=>(bg x).map .mov
 | .pick c a b=>do pure (.pick (← bg c) (← bg a) (← bg b))
 | .alloc t=>do pure (.new (← gy P t))
 | .box _ x=>do pure (.box (← bg x))
 | .build t ps=>do
  let zero ← gy P t
  match P.underlying t with
  | some (.struct fs)=>do
   let places ← fs.toList.mapM (fun f=>(P.info? f.type).map fun i=>(f.offset,i.size))
   let pl ← partsOf (fun i=>places.toArray[i]?) ps
   pure (.build zero pl)
  | some (.array _ e)=>do
   let z ← gQ P e
   let pl ← partsOf (fun i=>some (i * z,z)) ps
   pure (.build zero pl)
  | _=>none
 | .buildSlice t n ps=>do
  let e ← jU P t
  let z ← gQ P e
  let zero ← gy P e
  if n * z <= 2 ^ 20 /\ 0 < z then
   let pl ← partsOf (fun i=>some (i * z,z)) ps
   pure (.buildS z n zero pl)
  else none
 | .load t a=>do
  let n ← gQ P t
  if n = 0 then none else pure (.load (!(← gZ P t)) n (← bg a))
 | .store t a x=>do pure (.store (← gQ P t) (← bg a) (← bg x))
 | .nilCheck x=>do pure (.nilchk (← bg x))
 | .binOp op t x y _=>do
  match op with
  | .eql=>do pure (.eq (← rX P t) false (← bg x) (← bg y))
  | .neq=>do pure (.eq (← rX P t) true (← bg x) (← bg y))
  | _=>pure (.bin op (← bg x) (← bg y))
 | .unOp op _ x=>do pure (.un op (← bg x))
 | .convert s d x=>do
  match P.underlying s,P.underlying d with
  | some (.int _),some (.int k)=>pure (.convI k (← bg x))
  | some .string,some .string=>pure (.convSS (← bg x))
  | some .string,some (.slice e)=>match P.underlying e with | some (.int .u8)=>do pure (.convSB (← bg x)) | _=>none
  | some (.slice e),some .string=>match P.underlying e with | some (.int .u8)=>do pure (.convBS (← bg x)) | _=>none
  | _,_=>none
 | .makeFunc fn first caps=>match fn with
  | .func f=>if first.toList.isEmpty then (do pure (.mkfn f (← caps.toList.mapM bg))) else if caps.toList.isEmpty then (do pure (.mkmv f (← first.toList.mapM bg))) else none
  | _=>none
 | .makeSlice t l c=>do
  let e ← jU P t
  pure (.mksl (← gQ P e) (← FB P e) (← gy P e) (← bg l) (← bg c))
 | .slice t x lo hi mx=>do
  let lo' ← lo.mapM bg
  let hi' ← hi.mapM bg
  let mx' ← mx.mapM bg
  match P.underlying t with
  | some .string=>pure (.slc .st 1 (← bg x) lo' hi' mx')
  | some (.slice e)=>pure (.slc .sl (← gQ P e) (← bg x) lo' hi' mx')
  | some (.array n e)=>pure (.slc (.ar n) (← gQ P e) (← bg x) lo' hi' mx')
  | _=>none
 | .fieldAddr t x f=>match P.underlying t with
  | some (.struct fs)=>do
   let f ← fs[f]?
   if (← gQ P f.type) = 0 then none else pure (.fldA (← bg x) f.offset)
  | _=>none
 | .field t x f=>match P.underlying t with
  | some (.struct fs)=>do
   let f ← fs[f]?
   pure (.fld (!(← gZ P f.type)) (← bg x) f.offset (← gQ P f.type))
  | _=>none
 | .indexAddr t x i=>match P.underlying t with
  | some (.array n e)=>do pure (.idxA (some n) (← gQ P e) (← bg x) (← bg i))
  | some (.slice e)=>do pure (.idxA none (← gQ P e) (← bg x) (← bg i))
  | _=>none
 | .index t x i=>match P.underlying t with
  | some (.array n e)=>do pure (.idx (!(← gZ P e)) n (← gQ P e) (← bg x) (← bg i))
  | some .string=>do pure (.idxS (← bg x) (← bg i))
  | _=>none
 | .extract t i=>do pure (.ext (← bg t) i)
 | .range t x=>match P.underlying t with
  | some .string=>do pure (.range (← bg x))
  | _=>none
 | .next x true=>do pure (.next (← bg x))
 | .call c=>match c.callee with
  | .value f=>do pure (.call (← bg f) (← c.args.toList.mapM bg))
  | .invoke _ _=>none
  | .builtin b=>do
   let xs ← c.args.toList.mapM bg
   match b,xs with
   | .append,[s,x]=>do
    let t ← c.argTypes[0]?
    let tx ← c.argTypes[1]?
    let e ← jU P t
    if bm3 P tx = true /\ (gy P e).isSome = true then pure (.app (← gQ P e) (← FB P e) s x) else none
   | .len,[x]=>do
    let t ← c.argTypes[0]?
    match P.underlying t with
    | some (.slice _)=>pure (.len false x)
    | some .string=>pure (.len true x)
    | some (.array n _)=>pure (.mov (.c (.d (.int .i64 n))))
    | _=>none
   | .copy,[a,b]=>do
    let t ← c.argTypes[0]?
    let e ← jU P t
    pure (.copy (← gQ P e) a b)
   | .clear,[a]=>do
    let t ← c.argTypes[0]?
    let e ← jU P t
    pure (.clear (← gQ P e) (← gy P e) a)
   | .min,xs=>pure (.minmax false xs)
   | .max,xs=>pure (.minmax true xs)
   | _,_=>none
 | _=>none
def A7:R:=.load true 1 (.c .undef)
def rU (o:Oper):Option R:=some ((bu P o).getD A7)
def qw (ops:Array Oper) (o:Oper):Option RO:=do
 let r ← rU P o
 match o.guard with
 | none=>pure ⟨none,o.dst,r⟩
 | some (j,want)=>do
  let p ← ops[j]?
  let s ← p.dst
  pure ⟨some (s,want),o.dst,r⟩
def ded (l:List Nat):List Nat:=l.foldr (fun x r=>if r.contains x then r else x :: r) []
def bZ (ops:Array Oper):List (List Nat) :=
 (ops.toList.foldl (fun acc o=>acc ++ [ded ((o.after.toList.filter (Region.binds .any ·)).flatMap fun e=>e.on :: acc.getD e.on [])]) ([]:List (List Nat)))
def qG (o:RO):List Nat :=
 (o.r.xs.filterMap fun x=>match x with | .t t=>some t | _=>none) ++ (match o.g with | some (s,_)=>[s] | none=>[])
def rW (ops:Array Oper) (os:List RO):Bool :=
 let pr:=bZ ops
 (ops.toList.zipIdx.all fun (o,i)=>o.after.toList.all fun e=>!Region.binds .any e || decide (e.on < i)) &&
 (List.range os.length).all fun i=>(List.range os.length).all fun j=>match os[i]?,os[j]? with
  | some o,some u=>match u.d with
   | none=>true
   | some d=>(i == j || o.d != some d) && (!(qG o).contains d || (decide (j < i) && (pr.getD i []).contains j) || (decide (i < j) && (pr.getD j []).contains i))
  | _,_=>true
def comp:Code -> Option RC
 | .skip=>some .skip
 | .ret=>some .ret
 | .exit i=>some (.exit i)
 | .region _ ops draw=>do
  let os ← ops.toList.mapM (qw P ops)
  if draw = true then (if rW ops os = true then pure (.reg (some (bZ ops)) os) else none) else pure (.reg none os)
 | .seq a b=>do pure (.seq (← comp a) (← comp b))
 | .cond c a b=>do pure (.cond (← bg c) (← comp a) (← comp b))
 | .block i b=>do pure (.block i (← comp b))
 | .loop b=>do pure (.loop [] (← comp b))
 | .label _=>some .skip
 | .scope b=>comp b
 | _=>none
end
theorem wT {P:Program} {o:Oper} {r:R} (h:rU P o = some r) (hn:r ≠ A7):bu P o = some r:=by
 simp only [rU,Option.some.injEq] at h;cases hc:bu P o with
 | none=>rw [hc] at h; exact absurd h.symm hn
 | some x=>rw [hc] at h; simp only [Option.getD_some] at h; rw [h]
theorem DV {C:Calls'} {e:Env} {h:Hp}:opM C A7 e h = none:=rfl
def RC.strip:RC -> RC
 | .seq a b=>.seq a.strip b.strip
 | .cond c a b=>.cond c a.strip b.strip
 | .block i b=>.block i b.strip
 | .loop _ b=>.loop [] b.strip
 | c=>c
end
section
def V.under (n:Nat):V -> Bool
 | .d _ | .eptr _ _ | .undef=>true
 | .ptr b _ | .row b _ _ _ _=>b < n
 | .fn _ cs | .mfn _ cs | .agg cs | .tup cs=>go cs
where go:List V -> Bool
 | []=>true
 | v :: vs=>V.under n v && go vs
def dataV (h:Hp):Nat -> V -> Option D
 | _,.d x=>some x
 | 0,_=>none
 | k + 1,.row b o len _ z=>match h.get b with
  | some cs=>match sub cs o (len * z) with
   | some l=>match l.mapM (dataV h k) with
    | some ds=>some (.slice false (chunks z ds len))
    | none=>none
   | none=>none
  | none=>none
 | _,_=>none
where chunks (z:Nat) (ds:List D):Nat -> List (List D)
 | 0=>[]
 | n + 1=>ds.take z :: chunks z (ds.drop z) n
def fC (h:Hp) (cs:List V):Option (List D):=cs.mapM (dataV h 8)
def dD (h:Hp):V -> Option V
 | .agg cs=>match fC h cs with
  | some l=>some (.agg (l.map V.d))
  | none=>none
 | .fn f []=>some (.fn f [])
 | .fn _ _=>none
 | .undef=>some .undef
 | v=>match dataV h 8 v with
  | some d=>some (.d d)
  | none=>none
def frz (h:Hp):V -> Option V
 | .tup vs=>match vs.mapM (dD h) with
  | some l=>some (.tup l)
  | none=>none
 | v=>dD h v
def cO:V -> Bool
 | .d _ | .fn _ [] | .undef=>true
 | .agg cs=>cs.all fun c=>match c with | .d _=>true | _=>false
 | _=>false
def ni (h:Hp):Nat -> V -> Bool
 | _,.d (.slice _ (_ :: _))=>false
 | _,.d _=>true
 | 0,_=>false
 | k + 1,.row b _ _ _ _=>match h.get b with
  | some cs=>cs.all (ni h k)
  | none=>false
 | _,_=>false
def tY (h:Hp):V -> Bool
 | .agg cs=>cs.all (ni h 8)
 | .undef=>true
 | .fn _ []=>true
 | v=>ni h 8 v
def lv (h:Hp):V -> Bool
 | .tup vs=>vs.all (tY h)
 | v=>tY h v
def qa (h:Hp) (e:Env):List RV -> Option (List V)
 | []=>some []
 | .tmp t :: l=>match qa h e l with
  | some vs=>some (e.getD t .undef :: vs)
  | none=>none
 | .cell t sc n :: l=>match loadAt h (e.getD t .undef) n with
  | some cs=>match mk sc cs,qa h e l with
   | some v,some vs=>some (v :: vs)
   | _,_=>none
  | none=>none
def bE:List V -> V
 | [v]=>v
 | vs=>.tup vs
def mG (C:Calls') (n:Nat) (f:RF) (args:List V) (h:Hp):Option (V × Hp) :=
 match aT C n f.code (args ++ List.replicate (f.ntmps - args.length) .undef) h with
 | some (.normal,e,h) | some (.ret,e,h)=>match qa h e f.res with
  | some vs=>some (bE vs,h)
  | none=>none
 | _=>none
def ug (E:Calls') (F:FuncId -> Option RF) (val:FuncId -> Bool):Nat -> Calls'
 | 0=>fun _ _ _=>none
 | k + 1=>fun f args h=>match F f with
  | none=>E f args h
  | some rf =>
   if val f = true then
    match args.mapM (frz h) with
    | none=>none
    | some as=>match mG (ug E F val k) k rf as ⟨[],0⟩ with
     | none=>none
     | some (r,h')=>match frz h' r with
      | none=>none
      | some r'=>if args.all cO = true \/ lv h' r = true then some (r',h) else none
   else
    match mG (ug E F val k) k rf args ⟨h.bs,h.bs.length⟩ with
    | none=>none
    | some (r,h') =>
     if h.bs.length <= h'.low /\ r.under h.bs.length = true then some (r,h)
     else some (r,⟨h'.bs,min h.low h'.low⟩)
def AO (P:Program):ResultVar -> Option RV
 | .tmp t=>some (.tmp t)
 | .cell t ty=>do
  let n ← gQ P ty
  if n = 0 then none else pure (.cell t (!(← gZ P ty)) n)
def AC (P:Program) (f:FuncId):Option RF:=do
 let fn ← P.funcs[f]?
 let c ← comp P (← fn.body)
 let res ← fn.results.toList.mapM (AO P)
 if fn.name = "runtime.NumGoroutine" then none else pure ⟨fn.ntmps,res,c⟩
end
end Go.Proofs.YtjkfknafpgfchaaGreat
