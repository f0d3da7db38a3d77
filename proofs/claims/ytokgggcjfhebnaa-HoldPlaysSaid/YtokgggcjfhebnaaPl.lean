/-
  A queue and the document's queue, side by side.
-/
import Derived.Test.YtokgggcjfhebnaaRput
import Derived.Test.YtokgggcjfhebnaaRtake
set_option linter.unusedVariables false
namespace Go.Proofs.Ytokgggcjfhebnaa
open Go.RowKit Go.Conc

structure Pl (w0 w : World) (h c m : Nat) (qs : List HQ) (p : Nat) (v : Value) (zs : List HQ) : Prop where
  H : HoldAt w h c m qs
  R : RefAt w p m v zs
  apart : ∀ b, foot h c qs b → ¬ refFoot p v zs b
  below : Below w0.heap.size w0 w
  hnew : ∀ b, foot h c qs b → w0.heap.size ≤ b
  pnew : w0.heap.size ≤ p

section
variable {w0 w w' : World} {h c m p : Nat} {qs zs : List HQ} {v : Value} (T : Pl w0 w h c m qs p v zs)
include T

theorem Pl.onH {qs' : List HQ} (H : HoldAt w' h c m qs') (hs : ∀ b, foot h c qs' b → foot h c qs b ∨ w.heap.size ≤ b) (hf : Fr (· = c) w w') : Pl w0 w' h c m qs' p v zs := by
  have hc : foot h c qs c := .inr (.inl rfl)
  have hz := T.below.size
  refine ⟨H, T.R.fr hf (fun b hb e => T.apart c hc (e ▸ hb)), fun b hb hr => ?_, T.below.trans (hf.below hz (fun i e => e ▸ T.hnew c hc)), fun b hb => ?_, T.pnew⟩
  · rcases hs b hb with h1 | h1
    · exact T.apart b h1 hr
    · have := T.R.lt b hr; omega
  · rcases hs b hb with h1 | h1
    · exact T.hnew b h1
    · omega

theorem Pl.onR {zs' : List HQ} {v' : Value} (R : RefAt w' p m v' zs') (hs : ∀ b, refFoot p v' zs' b → refFoot p v zs b ∨ w.heap.size ≤ b) (hf : Fr (· = p) w w') : Pl w0 w' h c m qs p v' zs' := by
  have hp : refFoot p v zs p := .inl rfl
  have hz := T.below.size
  refine ⟨T.H.fr hf (fun b hb e => T.apart b hb (e ▸ hp)), R, fun b hb hr => ?_, T.below.trans (hf.below hz (fun i e => e ▸ T.pnew)), T.hnew, T.pnew⟩
  rcases hs b hr with h1 | h1
  · exact T.apart b hb h1
  · have := T.H.foot_lt b hb; omega

theorem Pl.onS {S : Nat → Prop} (hf : Fr S w w') (hS : ∀ b, S b → ¬ foot h c qs b ∧ ¬ refFoot p v zs b ∧ w0.heap.size ≤ b) : Pl w0 w' h c m qs p v zs :=
  ⟨T.H.fr hf (fun b hb e => (hS b e).1 hb), T.R.fr hf (fun b hb e => (hS b e).2.1 hb), T.apart, T.below.trans (hf.below T.below.size (fun i e => (hS i e).2.2)), T.hnew, T.pnew⟩

theorem Pl.on (hf : Fr Nob w w') : Pl w0 w' h c m qs p v zs := T.onS hf (fun _ e => e.elim)
end

/-- What Put makes of a queue's blocks. -/
theorem foot_push {h c : Nat} {qs : List HQ} {y : HQ} {n : Nat} (hy : ∀ b, y.s.ownBlock = some b → n ≤ b) : ∀ b, foot h c (qs ++ [y]) b → foot h c qs b ∨ n ≤ b := by
  rintro b (hb | hb | hb)
  · exact .inl (.inl hb)
  · exact .inl (.inr (.inl hb))
  · rw [List.map_append, blocks_append, List.mem_append] at hb
    rcases hb with hb | hb
    · exact .inl (.inr (.inr hb))
    · obtain ⟨s, hs, hb⟩ := mem_blocks.1 hb
      simp at hs
      subst hs
      exact .inr (hy b hb)

theorem foot_sub {h c : Nat} {qs qs' : List HQ} (hq : ∀ q ∈ qs', q ∈ qs) : ∀ b, foot h c qs' b → foot h c qs b := by
  rintro b (hb | hb | hb)
  · exact .inl hb
  · exact .inr (.inl hb)
  · obtain ⟨s, hs, hb⟩ := mem_blocks.1 hb
    obtain ⟨q, hq', rfl⟩ := List.mem_map.1 hs
    exact .inr (.inr (mem_blocks.2 ⟨_, List.mem_map.2 ⟨q, hq q hq', rfl⟩, hb⟩))

/-- Blocks of a row of requests are not a document's queue's own. -/
theorem Rd.notRef {w : World} {p m : Nat} {u v : Value} {ys zs : List HQ} (H : Rd w u ys) (R : RefAt w p m v zs) : ∀ b, u.ownBlock = some b ∨ b ∈ blocks (ys.map HQ.s) → b ≠ p := by
  rintro b hb rfl
  have hp := R.ptr
  rcases hb with hb | hb
  · rcases H.1.2 with ⟨e, _⟩ | ⟨g1, cap, cur, e, _, hh, _⟩
    · rw [e] at hb; cases hb
    · rw [e] at hb
      simp [Value.ownBlock] at hb
      subst hb
      rw [hp] at hh
      simp at hh
  · obtain ⟨s, hs, hb⟩ := mem_blocks.1 hb
    obtain ⟨q, hq, rfl⟩ := List.mem_map.1 hs
    rcases (H.2 q hq).2.2 with ⟨e, _⟩ | ⟨g1, cap, cur, e, _, hh, _⟩
    · rw [e] at hb; cases hb
    · rw [e] at hb
      simp [Value.ownBlock] at hb
      subst hb
      rw [hp] at hh
      simp at hh

theorem Rd.notHold {w : World} {h c m : Nat} {u : Value} {ys qs : List HQ} (H : Rd w u ys) (R : HoldAt w h c m qs) : ∀ b, u.ownBlock = some b ∨ b ∈ blocks (ys.map HQ.s) → b ≠ h := by
  rintro b hb rfl
  have hp := R.ptr
  rcases hb with hb | hb
  · rcases H.1.2 with ⟨e, _⟩ | ⟨g1, cap, cur, e, _, hh, _⟩
    · rw [e] at hb; cases hb
    · rw [e] at hb
      simp [Value.ownBlock] at hb
      subst hb
      rw [hp] at hh
      simp at hh
  · obtain ⟨s, hs, hb⟩ := mem_blocks.1 hb
    obtain ⟨q, hq, rfl⟩ := List.mem_map.1 hs
    rcases (H.2 q hq).2.2 with ⟨e, _⟩ | ⟨g1, cap, cur, e, _, hh, _⟩
    · rw [e] at hb; cases hb
    · rw [e] at hb
      simp [Value.ownBlock] at hb
      subst hb
      rw [hp] at hh
      simp at hh

/-- What is taken out: read, apart from what stays. -/
def TakeRd (w0 w : World) (h c m : Nat) (qs : List HQ) (p : Nat) (v : Value) (zs : List HQ) (f : HD → Bool) (e : Ending) (w' : World) : Prop :=
  ∃ a k cc ys qs', e = .returned (.slice a k cc) ∧ HQs ys = (HQs qs).filter f ∧ HQs qs' = (HQs qs).filter (fun x => !f x) ∧ Rd w' (.slice a k cc) ys ∧ Pl w0 w' h c m qs' p v zs ∧
    (∀ b, bytesOf ys b → ¬ foot h c qs' b ∧ ¬ refFoot p v zs b ∧ w0.heap.size ≤ b ∧ b < w'.heap.size) ∧ Fr (· = c) w w'

theorem take_rd {w0 w : World} {h c m p : Nat} {qs zs : List HQ} {v : Value} {f : HD → Bool} (T : Pl w0 w h c m qs p v zs) {e : Ending} {w' : World} (ht : TakePost w h c m qs f e w') : TakeRd w0 w h c m qs p v zs f e w' := by
  obtain ⟨a, k, cc, ys, qs', rfl, rfl, h2, h3, h4, h5, hf, h7, h8⟩ := ht
  have hrd : Rd w' (.slice a ys.length cc) ys := by
    refine ⟨ownsRow_mono h4 (Nat.zero_le _), fun z hz => ?_⟩
    have hq := h7 z (.inr hz)
    exact ⟨(T.H.ok z hq).1, ownsRow_fr (T.H.bytes z hq) hf (fun g hg => (T.H.notChan.2 z hq g hg).1)⟩
  have hfoot : ∀ b, bytesOf ys b → foot h c qs b := by
    intro b hb
    obtain ⟨s, hs, hb⟩ := mem_blocks.1 hb
    obtain ⟨q, hq, rfl⟩ := List.mem_map.1 hs
    exact .inr (.inr (mem_blocks.2 ⟨_, List.mem_map.2 ⟨q, h7 q (.inr hq), rfl⟩, hb⟩))
  refine ⟨a, _, cc, ys, qs', rfl, h2, h3, hrd, T.onH h5 (fun b hb => .inl (foot_sub (fun q hq => h7 q (.inl hq)) b hb)) hf, fun b hb => ⟨?_, T.apart b (hfoot b hb), T.hnew b (hfoot b hb), Nat.lt_of_lt_of_le (T.H.foot_lt b (hfoot b hb)) hf.size⟩, hf⟩
  have hperm : (blocks (ys.map HQ.s) ++ blocks (qs'.map HQ.s)).Nodup := by
    have h9 : (blocks (ys.map HQ.s ++ qs'.map HQ.s)).Perm (blocks (qs.map HQ.s)) := by unfold blocks; exact h8.filterMap _
    rw [blocks_append] at h9
    exact (h9.nodup_iff).2 T.H.dist
  rintro (e | e | hb')
  · exact hrd.notHold h5 b (.inr hb) e
  · obtain ⟨s, hs, hb2⟩ := mem_blocks.1 hb
    obtain ⟨q, hq, rfl⟩ := List.mem_map.1 hs
    exact (T.H.notChan.2 q (h7 q (.inr hq)) b hb2).1 e
  · exact (List.nodup_append.1 hperm).2.2 b hb b hb' rfl

end Go.Proofs.Ytokgggcjfhebnaa
