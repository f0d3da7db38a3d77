/-
  slices.SortFunc at things of more cells than one, by a number that each of them has, as a function from outside: what it answers.
-/
import Derived.Test.YtmnfjejphmmddaaGreatPt
set_option linter.unusedVariables false
set_option linter.unusedSimpArgs false
namespace Go.Proofs.YtmnfjejphmmddaaGreat

/-- A thing's number: its cell p. -/
def keyV (p : Nat) (r : List V) : Option Int := match r[p]? with
  | some (.d (.int .u64 n)) => some n
  | _ => none
def keyI (p : Nat) (r : List V) : Int := (keyV p r).getD 0
theorem keyV_some {p : Nat} {r : List V} {n : Int} (h : keyV p r = some n) : r[p]? = some (.d (.int .u64 n)) := by
  unfold keyV at h
  split at h
  · rename_i m hm; cases h; exact hm
  · cases h
/-- A row, cut into things of z cells. -/
def chunk (z n : Nat) (cs : List V) : List (List V) := (List.range n).map fun i => (cs.drop (i * z)).take z
def sortV (p : Nat) (rs : List (List V)) : List (List V) := rs.mergeSort fun x y => decide (keyI p x ≤ keyI p y)
/-- SortFunc of one kind: z cells, the number is cell p; the comparison is g, over a variable that has id. -/
structure SF where
  z : Nat
  p : Nat
  g : FuncId
  id : FuncId
def sortFE (s : SF) (args : List V) (h : Hp) : Option (V × Hp) := match args with
  | [.row b 0 n _ z, .fn g [.ptr c 0]] => match h.get b, h.get c with
    | some cs, some [.fn id []] =>
      if z = s.z ∧ g = s.g ∧ id = s.id ∧ b ≠ c ∧ 0 < n ∧ n ≤ 2 ^ 40 ∧ n * z ≤ cs.length ∧ (∀ r ∈ chunk z n cs, (keyV s.p r).isSome = true) ∧ ((chunk z n cs).map (keyI s.p)).Nodup then
        some (.tup [], h.set b ((sortV s.p (chunk z n cs)).flatten ++ cs.drop (n * z)))
      else none
    | _, _ => none
  | _ => none
theorem sortFE_low {s : SF} {args : List V} {h : Hp} {r : V} {h' : Hp} (hm : sortFE s args h = some (r, h')) : LowOk h h' := by
  unfold sortFE at hm
  split at hm
  · split at hm
    · split at hm
      · cases hm; exact LowOk.set _ _ _
      · cases hm
    · cases hm
  · cases hm

end Go.Proofs.YtmnfjejphmmddaaGreat
