/-
  A function without arguments, run closed, taken from outside in other readings.
-/
import Derived.Test.YtmnfjejphmmddaaGreatKe
set_option linter.unusedVariables false
set_option linter.unusedSimpArgs false
namespace Go.Proofs.YtmnfjejphmmddaaGreat
/-- Tables for closed runs. -/
inductive Tab where
  | leaf
  | node (l : Tab) (k : Nat) (v : QF) (r : Tab)
noncomputable def Tab.look (t : Tab) (n : Nat) : Option QF :=
  Tab.rec (motive := fun _ => Option QF) none (fun _ k v _ il ir => Bool.rec (Bool.rec ir il (Nat.blt n k)) (some v) (Nat.beq n k)) t
def Tab.All (P : Program) : Tab → Prop
  | .leaf => True
  | .node l k v r => l.All P ∧ QOk P k v ∧ r.All P
theorem Tab.look_ok {P : Program} : ∀ {t : Tab}, t.All P → TabA P t.look
  | .leaf, _ => fun f q h => by cases h
  | .node l k v r, ha => fun f q h => by
    have h : (Bool.rec (Bool.rec (r.look f) (l.look f) (Nat.blt f k)) (some v) (Nat.beq f k) : Option QF) = some q := h
    cases hb : Nat.beq f k with
    | true =>
      rw [hb] at h
      cases h
      have := Nat.eq_of_beq_eq_true hb
      subst this
      exact ha.2.1
    | false =>
      rw [hb] at h
      cases hc : Nat.blt f k with
      | true => rw [hc] at h; exact Tab.look_ok ha.1 f q h
      | false => rw [hc] at h; exact Tab.look_ok ha.2.2 f q h

def boolOf (v : V) : Option Bool := match v with
  | .d (.bool b) => some b
  | _ => none
/-- The run of a function without arguments. -/
noncomputable def runK0 (F : FuncId → Option QF) (n : Nat) (q : QF) : Option Bool :=
  codeK (β := Bool) (semK F n) n q.code [] ⟨0, [], 0⟩ fun ex e h' => match ex with
    | .exit _ => none
    | _ => resK h' e q.res fun vs => boolOf (tupOf vs)
/-- A function without arguments, of which it is known what it answers. -/
def known (f0 : FuncId) (b : Bool) : Calls' := fun f args h => if f = f0 ∧ args = [] then some (.d (.bool b), h) else none
def nobody : Calls' := fun _ _ _ => none
theorem nobody_ok (P : Program) : CallsOk P nobody := fun _ _ _ _ _ h => by cases h

def okRun (o : Option Bool) : Bool := match o with
  | some true => true
  | _ => false
theorem okRun_eq {o : Option Bool} (h : okRun o = true) : o = some true := by
  unfold okRun at h
  split at h
  · rfl
  · cases h
theorem known_ok {P : Program} (hmix : P.follows .mixedOrders = true) {F : FuncId → Option QF} (hF : TabA P F) {f0 : FuncId} {q : QF} (hq : QOk P f0 q) (hf0 : F f0 = none) {n : Nat} {b : Bool} (h : runK0 F n q = some b) : CallsOk P (known f0 b) := by
  let E' : Calls' := semA nobody F (fun _ => false) n
  let T : FuncId → Option QF := fun f => if f = f0 then some q else none
  let val : FuncId → Bool := fun f => decide (f = f0)
  have hE' : CallsOk P E' := semA_ok hmix (nobody_ok P) hF _ n
  have hT : TabA P T := by
    intro f q' hh
    simp only [T] at hh
    split at hh
    · rename_i e; subst e; cases hh; exact hq
    · cases hh
  have hsim : SimC (semA E' T val (n + 1)) (semK (β := Bool) F n) := by
    intro f args kh k r hk hr
    have hne : f ≠ f0 := by
      intro e; subst e
      cases n with
      | zero => cases hr
      | succ n =>
        have hr : (match F f with
          | none => none
          | some rf => _) = some r := hr
        rw [hf0] at hr; cases hr
    obtain ⟨v, kh', h1, h2, h3⟩ := semK_eq (E := nobody) n f args kh k r hk hr
    refine ⟨v, kh', ?_, h2, h3⟩
    simp only [semA, T, if_neg hne]
    exact h1
  obtain ⟨ex, e1, h1, k1, k2, k3⟩ := codeK_eq hsim (show KH.ok ⟨0, [], 0⟩ from rfl) h
  have hb : bodyA (semA E' T val (n + 1)) (n + 1) q [] ⟨[], 0⟩ = some (.d (.bool b), h1.hp) := by
    have k1' := codeA_mono (Leq.refl _) (Nat.le_succ n) k1
    split at k3
    · cases k3
    · rename_i hne
      obtain ⟨vs, hv1, hv2⟩ := resK_eq k2 k3
      have : tupOf vs = .d (.bool b) := by
        unfold boolOf at hv2
        split at hv2
        · rename_i e; cases hv2; exact e
        · cases hv2
      unfold bodyA
      have k1'' : codeA (semA E' T val (n + 1)) (n + 1) q.code (argsA 0 []) ⟨[], 0⟩ = some (ex, e1, h1.hp) := k1'
      rw [k1'']
      cases ex with
      | normal => simp only [done, hv1, this]
      | ret => simp only [done, hv1, this]
      | exit i => exact absurd rfl (hne i)
  have hsem : ∀ h, semA E' T val (n + 2) f0 [] h = some (.d (.bool b), h) := by
    intro h
    have hval : val f0 = true := by simp [val]
    have hTf : T f0 = some q := by simp [T]
    have hstep : semA E' T val (n + 1 + 1) f0 [] h = byVal [] h (some []) fun as => bodyA (semA E' T val (n + 1)) (n + 1) q as ⟨[], 0⟩ := by
      rw [semA]
      dsimp only
      rw [hTf]
      dsimp only
      rw [if_pos hval]
      rfl
    rw [show n + 2 = n + 1 + 1 from rfl, hstep]
    simp only [byVal, hb]
    rfl
  intro f args h r h' hm
  unfold known at hm
  split at hm
  · rename_i e
    obtain ⟨rfl, rfl⟩ := e
    cases hm
    exact semA_ok hmix hE' hT val (n + 2) _ _ _ _ _ (hsem h)
  · cases hm
end Go.Proofs.YtmnfjejphmmddaaGreat
