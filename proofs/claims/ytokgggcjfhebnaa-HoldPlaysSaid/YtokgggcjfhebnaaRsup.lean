/-
  Small laws for the document's queue: what is appended, and what an append leaves as it was.
-/
import Derived.Test.YtokgggcjfhebnaaRef
import Derived.Deep.RegionLaw
import Derived.BigQuiet
set_option linter.unusedVariables false
namespace Go.Proofs.Ytokgggcjfhebnaa
open Go.RowKit Go.Conc

theorem Fr.drewN {S : Nat → Prop} {a b : World} (h : Fr S a b) (n : Nat) : Fr S a (b.drewN n) := ⟨h.os, h.tape, h.output, h.size, h.block⟩

theorem elemU8 : ElemOk Try.prog 32 5 1 1 :=
  ElemOk.mk' (z := .int .u8 0) (by kernel_rfl) (by kernel_rfl) rfl (by decide) (by decide)

theorem flat_length (l : List HQ) : (flat l).length = l.length * 6 := by
  induction l with
  | nil => rfl
  | cons q l ih =>
    have e : flat (q :: l) = q.cells ++ flat l := by simp [flat]
    rw [e, List.length_append, ih, List.length_cons]
    have : q.cells.length = 6 := rfl
    omega

theorem flat_one_cells (l : List HQ) : ∀ u ∈ flat l, u.oneCell' = true := by
  intro u hu
  obtain ⟨q, _, hu⟩ := List.mem_flatMap.1 hu
  exact held_one q u hu

/-- An empty row of one's own. -/
theorem empty_row {w : World} {B g : Nat} {e size : Nat} (h : w.heap[g]? = some (.cells #[] e (0, 0))) (hB : B ≤ g) : w.ownsRow B e size (.slice (some ⟨g, 0, none⟩) 0 0) 0 [] :=
  ⟨by simp, .inr ⟨g, 0, #[], rfl, hB, h, Nat.le_refl _, Nat.zero_le _, by simp, by simp⟩⟩

theorem own_src {w : World} {B e size n : Nat} {a : Option Addr} {k c : Nat} {xs : List Value} (h : w.ownsRow B e size (.slice a k c) n xs) : SrcAt w a n xs := by
  have hc := fun g (hg : (Value.slice a k c).ownBlock = some g) => h.cells hg
  rcases h.2 with ⟨e1, rfl⟩ | ⟨g, cap, cur, e1, _⟩
  · cases e1
    exact .inl ⟨rfl, rfl, List.eq_nil_of_length_eq_zero (by simpa using h.1)⟩
  · cases e1
    exact .inr ⟨_, rfl, hc g rfl⟩

theorem bytes_src {w w' : World} {S : Nat → Prop} {a : Option Addr} {n c : Nat} {l : List UInt8} (h : BytesR S w (.slice a n c) l) (hs : ∀ b, S b → b < w.heap.size) (hf : Fr Nob w w') :
    SrcAt w' a l.length (l.map fun b => .int .u8 b.toNat) := by
  cases a with
  | none =>
    obtain ⟨a', c', e, h1, h2, h3, h4⟩ := h
    cases e
    cases l with
    | nil => exact .inl ⟨rfl, rfl, rfl⟩
    | cons x y => obtain ⟨b, o, e, _⟩ := h4 (by simp); cases e
  | some a =>
    exact .inr ⟨a, rfl, BytesR.cells (S := S) (h.keep (fun b hb => hf.block b (hs b hb) (fun e => e)))⟩

theorem u8_one (l : List UInt8) : ∀ u ∈ l.map fun b => Value.int .u8 b.toNat, u.oneCell' = true := by
  intro u hu
  obtain ⟨_, _, rfl⟩ := List.mem_map.1 hu
  rfl

theorem heap_alloc2 (w : World) (o1 o2 : Obj) : ((w.alloc o1).alloc o2).heap[w.heap.size + 1]? = some o2 := by simpa using heap_alloc_new (w.alloc o1) o2

theorem RefAt.notP {w : World} {p m : Nat} {v : Value} {zs : List HQ} (H : RefAt w p m v zs) : ∀ b, v.ownBlock = some b ∨ b ∈ blocks (zs.map HQ.s) → b ≠ p := by
  rintro b hb rfl
  have hp := H.ptr
  rcases hb with hb | hb
  · rcases H.rd.1.2 with ⟨e, _⟩ | ⟨g1, cap, cur, e, _, hh, _⟩
    · rw [e] at hb; cases hb
    · rw [e] at hb
      simp [Value.ownBlock] at hb
      subst hb
      rw [hp] at hh
      simp at hh
  · obtain ⟨s, hs, hb⟩ := mem_blocks.1 hb
    obtain ⟨q, hq, rfl⟩ := List.mem_map.1 hs
    rcases (H.rd.2 q hq).2.2 with ⟨e, _⟩ | ⟨g1, cap, cur, e, _, hh, _⟩
    · rw [e] at hb; cases hb
    · rw [e] at hb
      simp [Value.ownBlock] at hb
      subst hb
      rw [hp] at hh
      simp at hh

/-- A block that an append leaves as it was. -/
theorem kept_block {w w' : World} {row : Option Nat} (hg : w.grownBy w' row) {b : Nat} {o : Obj} (hb : w.heap[b]? = some o) (hr : row ≠ some b) : w'.heap[b]? = some o :=
  (hg.block b (Array.getElem?_eq_some_iff.1 hb).1 (fun e => hr e.symm)).trans hb

theorem cells_at {w : World} {b : Nat} {cs : List Value} {e : TypeId} (h : w.heap[b]? = some (.cells cs.toArray e (0, 0))) : ∀ j u, cs[j]? = some u → w.cell? ((⟨b, 0, none⟩ : Addr).add j) = some u := by
  intro j u hj
  have e : (⟨b, 0, none⟩ : Addr).add j = ⟨b, j, none⟩ := by unfold Addr.add; split <;> simp_all
  rw [e]
  simp [World.cell?, h, hj]

end Go.Proofs.Ytokgggcjfhebnaa
