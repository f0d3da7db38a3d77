/-
  The table is what is read off the program.
-/
import Derived.Test.YtmnfjejphmmddaaGreatPt
set_option linter.unusedVariables false
namespace Go.Proofs.YtmnfjejphmmddaaGreat

theorem comp_strip {P : Program} : ∀ (c : Code) {rc : RC}, comp P c = some rc → rc.strip = rc := by
  intro c
  induction c with
  | scope b ih => intro rc h; exact ih h
  | region id ops draw =>
    intro rc h
    simp only [comp] at h
    replace h := opt_bind h; obtain ⟨os, hos, h⟩ := h
    split at h
    · split at h
      · cases h; rfl
      · cases h
    · cases h; rfl
  | seq x y ihx ihy =>
    intro rc h
    simp only [comp] at h
    replace h := opt_bind h; obtain ⟨a, ha, h⟩ := h
    replace h := opt_bind h; obtain ⟨b, hb, h⟩ := h
    cases h
    simp only [RC.strip, ihx ha, ihy hb]
  | cond x t f iht ihf =>
    intro rc h
    simp only [comp] at h
    replace h := opt_bind h; obtain ⟨x', hx, h⟩ := h
    replace h := opt_bind h; obtain ⟨a, ha, h⟩ := h
    replace h := opt_bind h; obtain ⟨b, hb, h⟩ := h
    cases h
    simp only [RC.strip, iht ha, ihf hb]
  | block i b ih =>
    intro rc h
    simp only [comp] at h
    replace h := opt_bind h; obtain ⟨a, ha, h⟩ := h
    cases h
    simp only [RC.strip, ih ha]
  | loop b ih =>
    intro rc h
    simp only [comp] at h
    replace h := opt_bind h; obtain ⟨a, ha, h⟩ := h
    cases h
    simp only [RC.strip, ih ha]
  | skip => intro rc h; simp [comp] at h; subst h; rfl
  | label l => intro rc h; simp [comp] at h; subst h; rfl
  | ret => intro rc h; simp [comp] at h; subst h; rfl
  | exit i => intro rc h; simp [comp] at h; subst h; rfl
  | goto l => intro rc h; simp [comp] at h
  | refuse s => intro rc h; simp [comp] at h
  | rangeFunc f ps x y => intro rc h; simp [comp] at h

theorem tab_ok (P : Program) : TabOk P (rfOf P) := by
  intro f rf h
  unfold rfOf at h
  replace h := opt_bind h; obtain ⟨fn, hf, h⟩ := h
  replace h := opt_bind h; obtain ⟨b, hb, h⟩ := h
  replace h := opt_bind h; obtain ⟨c, hc, h⟩ := h
  replace h := opt_bind h; obtain ⟨res, hr, h⟩ := h
  split at h
  · cases h
  · rename_i hn
    cases h
    exact ⟨fn, b, hf, hb, by rw [comp_strip b hc]; exact hc, rfl, hr, hn⟩

end Go.Proofs.YtmnfjejphmmddaaGreat
