/-
  Tables of functions.
-/
import Derived.Test.YtmnfjejphmmddaaGreatQl
set_option linter.unusedVariables false
namespace Go.Proofs.YtmnfjejphmmddaaGreat
def QOk (P : Program) (f : FuncId) (q : QF) : Prop := ∃ rf, rfOf P f = some rf ∧ rf.quiet = q.toRF ∧ q.fits = true
theorem qok {P : Program} {f : FuncId} {q : QF} (h : (rfOf P f).map RF.quiet = some q.toRF) (hf : q.fits = true) : QOk P f q := by
  simp only [Option.map_eq_some_iff] at h
  obtain ⟨rf, h1, h2⟩ := h
  exact ⟨rf, h1, h2, hf⟩
def lookT : List (Nat × QF) → Nat → Option QF
  | [], _ => none
  | (k, q) :: l, n => match Nat.beq k n with
    | true => some q
    | false => lookT l n
theorem lookT_ok {P : Program} : ∀ {l : List (Nat × QF)}, (∀ p ∈ l, QOk P p.1 p.2) → TabA P (lookT l)
  | [], _ => fun f q h => by simp [lookT] at h
  | (k, q0) :: l, hl => fun f q h => by
    simp only [lookT] at h
    split at h
    · rename_i hk
      have := Nat.eq_of_beq_eq_true hk
      subst this
      cases h
      exact hl (k, q0) (by simp)
    · exact lookT_ok (fun p hp => hl p (List.mem_cons_of_mem _ hp)) f q h
end Go.Proofs.YtmnfjejphmmddaaGreat
