/-
  Calls: what is returned; memory that nobody names any more goes.
-/
import Derived.Test.YtmnfjejphmmddaaGreatPc
set_option linter.unusedVariables false
namespace Go.Proofs.YtmnfjejphmmddaaGreat

/-- Does a value name none of the blocks from n on? -/
def V.under (n : Nat) : V → Bool
  | .d _ | .eptr _ _ | .undef => true
  | .ptr b _ | .row b _ _ _ _ => b < n
  | .fn _ cs | .agg cs | .tup cs => go cs
where go : List V → Bool
  | [] => true
  | v :: vs => V.under n v && go vs

/-- Is a value data, seen from its memory? -/
def dataV (h : Hp) : Nat → V → Option D
  | _, .d x => some x
  | 0, _ => none
  | k + 1, .row b o len _ z => match h.get b with
    | some cs => match sub cs o (len * z) with
      | some l => match l.mapM (dataV h k) with
        | some ds => some (.slice false (chunks z ds len))
        | none => none
      | none => none
    | none => none
  | _, _ => none
where chunks (z : Nat) (ds : List D) : Nat → List (List D)
  | 0 => []
  | n + 1 => ds.take z :: chunks z (ds.drop z) n

def cellsV (h : Hp) (cs : List V) : Option (List D) := cs.mapM (dataV h 8)

/-- A result, or an argument, as data. -/
def frz1 (h : Hp) : V → Option V
  | .agg cs => match cellsV h cs with
    | some l => some (.agg (l.map V.d))
    | none => none
  | .fn f [] => some (.fn f [])
  | .fn _ _ => none
  | .undef => some .undef
  | v => match dataV h 8 v with
    | some d => some (.d d)
    | none => none

def frz (h : Hp) : V → Option V
  | .tup vs => match vs.mapM (frz1 h) with
    | some l => some (.tup l)
    | none => none
  | v => frz1 h v

/-- Is it data as it stands? -/
def pureV : V → Bool
  | .d _ | .fn _ [] | .undef => true
  | .agg cs => cs.all fun c => match c with | .d _ => true | _ => false
  | _ => false

/-- Does all that a value reads as lie in one's own memory? -/
def ownV (h : Hp) : Nat → V → Bool
  | _, .d (.slice _ (_ :: _)) => false
  | _, .d _ => true
  | 0, _ => false
  | k + 1, .row b _ _ _ _ => match h.get b with
    | some cs => cs.all (ownV h k)
    | none => false
  | _, _ => false
def own1 (h : Hp) : V → Bool
  | .agg cs => cs.all (ownV h 8)
  | .undef => true
  | .fn _ [] => true
  | v => ownV h 8 v
def ownR (h : Hp) : V → Bool
  | .tup vs => vs.all (own1 h)
  | v => own1 h v

def resV (h : Hp) (e : Env) : List RV → Option (List V)
  | [] => some []
  | .tmp t :: l => match resV h e l with
    | some vs => some (e.getD t .undef :: vs)
    | none => none
  | .cell t sc n :: l => match loadAt h (e.getD t .undef) n with
    | some cs => match mk sc cs, resV h e l with
      | some v, some vs => some (v :: vs)
      | _, _ => none
    | none => none

def tupOf : List V → V
  | [v] => v
  | vs => .tup vs

def bodyN (C : Calls') (n : Nat) (f : RF) (args : List V) (h : Hp) : Option (V × Hp) :=
  match codeN C n f.code (args ++ List.replicate (f.ntmps - args.length) .undef) h with
  | some (.normal, e, h) | some (.ret, e, h) => match resV h e f.res with
    | some vs => some (tupOf vs, h)
    | none => none
  | _ => none

/-- Calls to depth k; functions that no table has, by E. -/
def semN (E : Calls') (F : FuncId → Option RF) (val : FuncId → Bool) : Nat → Calls'
  | 0 => fun _ _ _ => none
  | k + 1 => fun f args h => match F f with
    | none => E f args h
    | some rf =>
      if val f = true then
        match args.mapM (frz h) with
        | none => none
        | some as => match bodyN (semN E F val k) k rf as ⟨[], 0⟩ with
          | none => none
          | some (r, h') => match frz h' r with
            | none => none
            | some r' => if args.all pureV = true ∨ ownR h' r = true then some (r', h) else none
      else
        match bodyN (semN E F val k) k rf args ⟨h.bs, h.bs.length⟩ with
        | none => none
        | some (r, h') =>
          if h.bs.length ≤ h'.low ∧ r.under h.bs.length = true then some (r, h)
          else some (r, ⟨h'.bs, min h.low h'.low⟩)

def rvOf (P : Program) : ResultVar → Option RV
  | .tmp t => some (.tmp t)
  | .cell t ty => do
    let n ← szOf P ty
    if n = 0 then none else pure (.cell t (!(← aggOf P ty)) n)

def rfOf (P : Program) (f : FuncId) : Option RF := do
  let fn ← P.funcs[f]?
  let c ← comp P (← fn.body)
  let res ← fn.results.toList.mapM (rvOf P)
  if fn.name = "runtime.NumGoroutine" then none else pure ⟨fn.ntmps, res, c⟩

end Go.Proofs.YtmnfjejphmmddaaGreat
