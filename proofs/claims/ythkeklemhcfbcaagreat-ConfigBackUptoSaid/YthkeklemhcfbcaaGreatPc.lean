/- From the program's code to the operations that are read purely. -/
import Derived.Test.YthkeklemhcfbcaaGreatPv
set_option linter.unusedVariables false
namespace Go.Proofs.YthkeklemhcfbcaaGreat
def dOf:Value -> Option D
 | .bool b=>some (.bool b)
 | .int k n=>some (.int k n)
 | .string s=>some (.str s)
 | .pointer none=>some .nilp
 | .slice none 0 0=>some (.slice true [])
 | .nilFunc=>some .nilf
 | .nilIface=>some .nili
 | .chan none=>some .nilc
 | _=>none
def vOf:Value -> Option V
 | .agg cs=>(cs.toList.mapM dOf).map fun l=>.agg (l.map .d)
 | v=>(dOf v).map .d
def opnd:Operand -> Option X
 | .tmp t=>some (.t t)
 | .const v=>(vOf v).map .c
 | .func f=>some (.c (.fn f []))
 | .global _=>none
section
variable (P:Program)
def szOf (t:TypeId):Option Nat:=(P.info? t).map (·.size)
def byOf (t:TypeId):Option Nat:=(P.info? t).map (·.bytes)
def aggOf (t:TypeId):Option Bool:=match P.underlying t with
 | some (.struct _) | some (.array _ _)=>some true
 | some _=>some false
 | none=>none
def zerosOf (t:TypeId):Option (List V):=do
 let i ← P.info? t
 let z ← i.zero
 let l ← z.cells.toList.mapM dOf
 if l.length = i.size then some (l.map .d) else none
def elemSl (t:TypeId):Option TypeId:=match P.underlying t with
 | some (.slice e)=>some e
 | _=>none
mutual
def eqKinds:Nat -> TypeId -> Option (List EK)
 | 0,_=>none
 | n + 1,t=>match P.underlying t with
  | some .bool=>some [.b]
  | some (.int k)=>some [.i k]
  | some .string=>some [.s]
  | some (.struct fs)=>if P.stoodInHeld t = true then none else eqFieldKinds n fs.toList 0
  | _=>none
def eqFieldKinds:Nat -> List Field -> Nat -> Option (List EK)
 | _,[],_=>some []
 | 0,_,_=>none
 | n + 1,f :: fs,off=>if f.offset = off /\ f.name ≠ "_" then match eqKinds n f.type with
  | some ks=>if szOf P f.type = some ks.length then match eqFieldKinds n fs (off + ks.length) with
   | some r=>some (ks ++ r)
   | none=>none
   else none
  | none=>none
  else none
end
def eqOf (t:TypeId):Option EQ:=match P.underlying t with
 | some .bool=>some (.sc .b)
 | some (.int k)=>some (.sc (.i k))
 | some .string=>some (.sc .s)
 | some (.pointer _)=>some .ptr
 | some (.slice _)=>some .sl
 | some (.func _ _ _)=>some .fn
 | some (.struct _)=>if P.eqGuardType P.depth t = true then none else (eqKinds P 200 t).map .agg
 | _=>none
def partsOf (place:Nat -> Option (Nat × Nat)) (ps:Array (Nat × Operand)):Option (List (Nat × Nat × X)) :=
 ps.toList.mapM fun (i,x)=>do
  let (o,n) ← place i
  pure (o,n,← opnd x)
def txOk (t:TypeId):Bool:=match P.underlying t with
 | some (.slice _) | some .string=>true
 | _=>false
def compR0 (o:Oper):Option R :=
 match o.op with
 | .move x | .assign x=>(opnd x).map .mov
 | .pick c a b=>do pure (.pick (← opnd c) (← opnd a) (← opnd b))
 | .alloc t=>do pure (.new (← zerosOf P t))
 | .box _ x=>do pure (.box (← opnd x))
 | .build t ps=>do
  let zero ← zerosOf P t
  match P.underlying t with
  | some (.struct fs)=>do
   let places ← fs.toList.mapM (fun f=>(P.info? f.type).map fun i=>(f.offset,i.size))
   let pl ← partsOf (fun i=>places.toArray[i]?) ps
   pure (.build zero pl)
  | some (.array _ e)=>do
   let z ← szOf P e
   let pl ← partsOf (fun i=>some (i * z,z)) ps
   pure (.build zero pl)
  | _=>none
 | .buildSlice t n ps=>do
  let e ← elemSl P t
  let z ← szOf P e
  let zero ← zerosOf P e
  if n * z <= 2 ^ 20 /\ 0 < z then
   let pl ← partsOf (fun i=>some (i * z,z)) ps
   pure (.buildS z n zero pl)
  else none
 | .load t a=>do
  let n ← szOf P t
  if n = 0 then none else pure (.load (!(← aggOf P t)) n (← opnd a))
 | .store t a x=>do pure (.store (← szOf P t) (← opnd a) (← opnd x))
 | .nilCheck x=>do pure (.nilchk (← opnd x))
 | .binOp op t x y _=>do
  match op with
  | .eql=>do pure (.eq (← eqOf P t) false (← opnd x) (← opnd y))
  | .neq=>do pure (.eq (← eqOf P t) true (← opnd x) (← opnd y))
  | _=>pure (.bin op (← opnd x) (← opnd y))
 | .unOp op _ x=>do pure (.un op (← opnd x))
 | .convert s d x=>do
  match P.underlying s,P.underlying d with
  | some (.int _),some (.int k)=>pure (.convI k (← opnd x))
  | some .string,some .string=>pure (.convSS (← opnd x))
  | some .string,some (.slice e)=>match P.underlying e with | some (.int .u8)=>do pure (.convSB (← opnd x)) | _=>none
  | some (.slice e),some .string=>match P.underlying e with | some (.int .u8)=>do pure (.convBS (← opnd x)) | _=>none
  | _,_=>none
 | .makeFunc fn first caps=>match fn with
  | .func f=>if first.toList.isEmpty then (do pure (.mkfn f (← caps.toList.mapM opnd))) else if caps.toList.isEmpty then (do pure (.mkmv f (← first.toList.mapM opnd))) else none
  | _=>none
 | .makeSlice t l c=>do
  let e ← elemSl P t
  pure (.mksl (← szOf P e) (← byOf P e) (← zerosOf P e) (← opnd l) (← opnd c))
 | .slice t x lo hi mx=>do
  let lo' ← lo.mapM opnd
  let hi' ← hi.mapM opnd
  let mx' ← mx.mapM opnd
  match P.underlying t with
  | some .string=>pure (.slc .st 1 (← opnd x) lo' hi' mx')
  | some (.slice e)=>pure (.slc .sl (← szOf P e) (← opnd x) lo' hi' mx')
  | some (.array n e)=>pure (.slc (.ar n) (← szOf P e) (← opnd x) lo' hi' mx')
  | _=>none
 | .fieldAddr t x f=>match P.underlying t with
  | some (.struct fs)=>do
   let f ← fs[f]?
   if (← szOf P f.type) = 0 then none else pure (.fldA (← opnd x) f.offset)
  | _=>none
 | .field t x f=>match P.underlying t with
  | some (.struct fs)=>do
   let f ← fs[f]?
   pure (.fld (!(← aggOf P f.type)) (← opnd x) f.offset (← szOf P f.type))
  | _=>none
 | .indexAddr t x i=>match P.underlying t with
  | some (.array n e)=>do pure (.idxA (some n) (← szOf P e) (← opnd x) (← opnd i))
  | some (.slice e)=>do pure (.idxA none (← szOf P e) (← opnd x) (← opnd i))
  | _=>none
 | .index t x i=>match P.underlying t with
  | some (.array n e)=>do pure (.idx (!(← aggOf P e)) n (← szOf P e) (← opnd x) (← opnd i))
  | some .string=>do pure (.idxS (← opnd x) (← opnd i))
  | _=>none
 | .extract t i=>do pure (.ext (← opnd t) i)
 | .range t x=>match P.underlying t with
  | some .string=>do pure (.range (← opnd x))
  | _=>none
 | .next x true=>do pure (.next (← opnd x))
 | .call c=>match c.callee with
  | .value f=>do pure (.call (← opnd f) (← c.args.toList.mapM opnd))
  | .invoke _ _=>none
  | .builtin b=>do
   let xs ← c.args.toList.mapM opnd
   match b,xs with
   | .append,[s,x]=>do
    let t ← c.argTypes[0]?
    let tx ← c.argTypes[1]?
    let e ← elemSl P t
    if txOk P tx = true /\ (zerosOf P e).isSome = true then pure (.app (← szOf P e) (← byOf P e) s x) else none
   | .len,[x]=>do
    let t ← c.argTypes[0]?
    match P.underlying t with
    | some (.slice _)=>pure (.len false x)
    | some .string=>pure (.len true x)
    | some (.array n _)=>pure (.mov (.c (.d (.int .i64 n))))
    | _=>none
   | .copy,[a,b]=>do
    let t ← c.argTypes[0]?
    let e ← elemSl P t
    pure (.copy (← szOf P e) a b)
   | .clear,[a]=>do
    let t ← c.argTypes[0]?
    let e ← elemSl P t
    pure (.clear (← szOf P e) (← zerosOf P e) a)
   | .min,xs=>pure (.minmax false xs)
   | .max,xs=>pure (.minmax true xs)
   | _,_=>none
 | _=>none
def stuckR:R:=.load true 1 (.c .undef)
def compR (o:Oper):Option R:=some ((compR0 P o).getD stuckR)
def compO (ops:Array Oper) (o:Oper):Option RO:=do
 let r ← compR P o
 match o.guard with
 | none=>pure ⟨none,o.dst,r⟩
 | some (j,want)=>do
  let p ← ops[j]?
  let s ← p.dst
  pure ⟨some (s,want),o.dst,r⟩
def ded (l:List Nat):List Nat:=l.foldr (fun x r=>if r.contains x then r else x :: r) []
def predsOf (ops:Array Oper):List (List Nat) :=
 (ops.toList.foldl (fun acc o=>acc ++ [ded ((o.after.toList.filter (Region.binds .any ·)).flatMap fun e=>e.on :: acc.getD e.on [])]) ([]:List (List Nat)))
def seesO (o:RO):List Nat :=
 (o.r.xs.filterMap fun x=>match x with | .t t=>some t | _=>none) ++ (match o.g with | some (s,_)=>[s] | none=>[])
def drawable (ops:Array Oper) (os:List RO):Bool :=
 let pr:=predsOf ops
 (ops.toList.zipIdx.all fun (o,i)=>o.after.toList.all fun e=>!Region.binds .any e || decide (e.on < i)) &&
 (List.range os.length).all fun i=>(List.range os.length).all fun j=>match os[i]?,os[j]? with
  | some o,some u=>match u.d with
   | none=>true
   | some d=>(i == j || o.d != some d) && (!(seesO o).contains d || (decide (j < i) && (pr.getD i []).contains j) || (decide (i < j) && (pr.getD j []).contains i))
  | _,_=>true
def comp:Code -> Option RC
 | .skip=>some .skip
 | .ret=>some .ret
 | .exit i=>some (.exit i)
 | .region _ ops draw=>do
  let os ← ops.toList.mapM (compO P ops)
  if draw = true then (if drawable ops os = true then pure (.reg (some (predsOf ops)) os) else none) else pure (.reg none os)
 | .seq a b=>do pure (.seq (← comp a) (← comp b))
 | .cond c a b=>do pure (.cond (← opnd c) (← comp a) (← comp b))
 | .block i b=>do pure (.block i (← comp b))
 | .loop b=>do pure (.loop [] (← comp b))
 | .label _=>some .skip
 | .scope b=>comp b
 | _=>none
end
theorem compR_or {P:Program} {o:Oper} {r:R} (h:compR P o = some r) (hn:r ≠ stuckR):compR0 P o = some r:=by
 simp only [compR,Option.some.injEq] at h
 cases hc:compR0 P o with
 | none=>rw [hc] at h; exact absurd h.symm hn
 | some x=>rw [hc] at h; simp only [Option.getD_some] at h; rw [h]
theorem opM_stuck {C:Calls'} {e:Env} {h:Hp}:opM C stuckR e h = none:=rfl
def RC.strip:RC -> RC
 | .seq a b=>.seq a.strip b.strip
 | .cond c a b=>.cond c a.strip b.strip
 | .block i b=>.block i b.strip
 | .loop _ b=>.loop [] b.strip
 | c=>c
end Go.Proofs.YthkeklemhcfbcaaGreat
namespace Go.Proofs.YthkeklemhcfbcaaGreat
def V.under (n:Nat):V -> Bool
 | .d _ | .eptr _ _ | .undef=>true
 | .ptr b _ | .row b _ _ _ _=>b < n
 | .fn _ cs | .mfn _ cs | .agg cs | .tup cs=>go cs
where go:List V -> Bool
 | []=>true
 | v :: vs=>V.under n v && go vs
def dataV (h:Hp):Nat -> V -> Option D
 | _,.d x=>some x
 | 0,_=>none
 | k + 1,.row b o len _ z=>match h.get b with
  | some cs=>match sub cs o (len * z) with
   | some l=>match l.mapM (dataV h k) with
    | some ds=>some (.slice false (chunks z ds len))
    | none=>none
   | none=>none
  | none=>none
 | _,_=>none
where chunks (z:Nat) (ds:List D):Nat -> List (List D)
 | 0=>[]
 | n + 1=>ds.take z :: chunks z (ds.drop z) n
def cellsV (h:Hp) (cs:List V):Option (List D):=cs.mapM (dataV h 8)
def frz1 (h:Hp):V -> Option V
 | .agg cs=>match cellsV h cs with
  | some l=>some (.agg (l.map V.d))
  | none=>none
 | .fn f []=>some (.fn f [])
 | .fn _ _=>none
 | .undef=>some .undef
 | v=>match dataV h 8 v with
  | some d=>some (.d d)
  | none=>none
def frz (h:Hp):V -> Option V
 | .tup vs=>match vs.mapM (frz1 h) with
  | some l=>some (.tup l)
  | none=>none
 | v=>frz1 h v
def pureV:V -> Bool
 | .d _ | .fn _ [] | .undef=>true
 | .agg cs=>cs.all fun c=>match c with | .d _=>true | _=>false
 | _=>false
def ownV (h:Hp):Nat -> V -> Bool
 | _,.d (.slice _ (_ :: _))=>false
 | _,.d _=>true
 | 0,_=>false
 | k + 1,.row b _ _ _ _=>match h.get b with
  | some cs=>cs.all (ownV h k)
  | none=>false
 | _,_=>false
def own1 (h:Hp):V -> Bool
 | .agg cs=>cs.all (ownV h 8)
 | .undef=>true
 | .fn _ []=>true
 | v=>ownV h 8 v
def ownR (h:Hp):V -> Bool
 | .tup vs=>vs.all (own1 h)
 | v=>own1 h v
def resV (h:Hp) (e:Env):List RV -> Option (List V)
 | []=>some []
 | .tmp t :: l=>match resV h e l with
  | some vs=>some (e.getD t .undef :: vs)
  | none=>none
 | .cell t sc n :: l=>match loadAt h (e.getD t .undef) n with
  | some cs=>match mk sc cs,resV h e l with
   | some v,some vs=>some (v :: vs)
   | _,_=>none
  | none=>none
def tupOf:List V -> V
 | [v]=>v
 | vs=>.tup vs
def bodyN (C:Calls') (n:Nat) (f:RF) (args:List V) (h:Hp):Option (V × Hp) :=
 match codeN C n f.code (args ++ List.replicate (f.ntmps - args.length) .undef) h with
 | some (.normal,e,h) | some (.ret,e,h)=>match resV h e f.res with
  | some vs=>some (tupOf vs,h)
  | none=>none
 | _=>none
def semN (E:Calls') (F:FuncId -> Option RF) (val:FuncId -> Bool):Nat -> Calls'
 | 0=>fun _ _ _=>none
 | k + 1=>fun f args h=>match F f with
  | none=>E f args h
  | some rf =>
   if val f = true then
    match args.mapM (frz h) with
    | none=>none
    | some as=>match bodyN (semN E F val k) k rf as ⟨[],0⟩ with
     | none=>none
     | some (r,h')=>match frz h' r with
      | none=>none
      | some r'=>if args.all pureV = true \/ ownR h' r = true then some (r',h) else none
   else
    match bodyN (semN E F val k) k rf args ⟨h.bs,h.bs.length⟩ with
    | none=>none
    | some (r,h') =>
     if h.bs.length <= h'.low /\ r.under h.bs.length = true then some (r,h)
     else some (r,⟨h'.bs,min h.low h'.low⟩)
def rvOf (P:Program):ResultVar -> Option RV
 | .tmp t=>some (.tmp t)
 | .cell t ty=>do
  let n ← szOf P ty
  if n = 0 then none else pure (.cell t (!(← aggOf P ty)) n)
def rfOf (P:Program) (f:FuncId):Option RF:=do
 let fn ← P.funcs[f]?
 let c ← comp P (← fn.body)
 let res ← fn.results.toList.mapM (rvOf P)
 if fn.name = "runtime.NumGoroutine" then none else pure ⟨fn.ntmps,res,c⟩
end Go.Proofs.YthkeklemhcfbcaaGreat
