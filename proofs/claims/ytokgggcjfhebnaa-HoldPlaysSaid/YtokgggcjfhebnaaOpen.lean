/-
  What is read as data of an argument, as this proof reads it: slices of calls, of requests, of bytes.
-/
import Derived.Test.YtokgggcjfhebnaaMany
import Derived.ProofKit
import Derived.OpenShut
import Derived.Deep.Slices
set_option linter.unusedVariables false
namespace Go.Proofs.Ytokgggcjfhebnaa
open Go.ChangeShapes Go.WideShapes Go.ChangeAt Go.RowKit

theorem cell_block_lt {w : World} {a : Addr} {v : Value} (h : w.cell? a = some v) : a.block < w.heap.size := by
  unfold World.cell? at h
  rcases Nat.lt_or_ge a.block w.heap.size with h1 | h1
  · exact h1
  · rw [Array.getElem?_eq_none h1] at h
    simp at h

section
variable {H : Type} {enc : TypeId × Value → H} {w : World} {spare : Nat → Bool} {held : Bool}

theorem slice_reads {α : Type} (r : Rep α) {t e : TypeId} (ht : Try.prog.underlying t = some (.slice e)) (hc : Try.prog.cellsOf e = r.n) (h0 : 0 < r.n)
    (hel : ∀ fuel cs y, DataW.trod enc Try.prog w 0 spare held fuel e cs = some y → ∃ x, r.rd (· < w.heap.size) w cs x) {fuel : Nat} {cs : List Value} {y : DataW H × List MemPlace}
    (h : DataW.trod enc Try.prog w 0 spare held fuel t cs = some y) : ∃ v xs, cs = [v] ∧ SliceR r (· < w.heap.size) w v xs := by
  rcases Go.Deep.open_slice ht h with ⟨rfl, _⟩ | ⟨a, len, cap, m, n, D, Pl, rfl, hb, hl, hm, hmm, _, hx⟩
  · exact ⟨_, [], rfl, none, 0, rfl, Nat.le_refl _, Nat.zero_le _, fun _ => rfl, fun h => absurd h (Nat.lt_irrefl 0)⟩
  · have hlm : len ≤ m := by rw [hmm]; split <;> omega
    obtain ⟨b, o, spot⟩ := a
    have hsp : 0 < len → spot = none ∧ b < w.heap.size := by
      intro hlen
      obtain ⟨cs', h1, _⟩ := hx 0 (by omega)
      rw [hc] at h1
      obtain ⟨_, h2, h3⟩ := World.cells?_some h1
      have h4 := h3 0 h0
      rw [List.getElem?_eq_getElem (by omega)] at h4
      have h5 := World.cell?_spot h4
      have h6 := cell_block_lt h4
      simp [Addr.add] at h5 h6
      exact ⟨h5, h6⟩
    have key : ∀ i : Fin len, ∃ x : α, ∃ cs', RowAt w b (o + i.1 * r.n) cs' ∧ r.rd (· < w.heap.size) w cs' x := by
      intro i
      obtain ⟨rfl, _⟩ := hsp (by have := i.2; omega)
      obtain ⟨cs', h1, h2⟩ := hx i.1 (by have := i.2; omega)
      rw [hc, add_plain] at h1
      obtain ⟨_, h3, h4⟩ := World.cells?_some h1
      obtain ⟨x, hx'⟩ := hel _ _ _ h2
      refine ⟨x, cs', fun j hj => ?_, hx'⟩
      have := h4 j (by omega)
      rw [add_plain, List.getElem?_eq_getElem hj] at this
      exact this
    refine ⟨_, List.ofFn (fun i => Classical.choose (key i)), rfl, some ⟨b, o, spot⟩, cap, by simp, by simpa using hl, hm, fun e => (by cases e), fun hlen => ?_⟩
    simp at hlen
    obtain ⟨rfl, hbw⟩ := hsp hlen
    refine ⟨b, o, rfl, hbw, fun i hi => ?_⟩
    have hi' : i < len := by simpa using hi
    have := Classical.choose_spec (key ⟨i, hi'⟩)
    simpa using this

theorem int_reads {t : TypeId} {k : IntKind} (ht : Try.prog.underlying t = some (.int k)) {fuel : Nat} {cs : List Value} {y : DataW H × List MemPlace} (h : DataW.trod enc Try.prog w 0 spare held fuel t cs = some y) :
    ∃ n, cs = [.int k n] ∧ (Lit.int k n).wf = true := by
  obtain ⟨n, h1, _, h2⟩ := DataW.trod_int ht h
  exact ⟨n, h1, h2⟩

theorem byte_reads (fuel : Nat) (cs : List Value) (y : DataW H × List MemPlace) (h : DataW.trod enc Try.prog w 0 spare held fuel 5 cs = some y) : ∃ x, u8R.rd (· < w.heap.size) w cs x := by
  obtain ⟨n, rfl, hw⟩ := int_reads Try.underlying5 h
  refine ⟨UInt8.ofNat n.toNat, ?_⟩
  have hx : 0 ≤ n ∧ n ≤ 255 := by simpa [Lit.wf, IntKind.min, IntKind.max, IntKind.signed, IntKind.bits] using hw
  show [Value.int .u8 n] = [Value.int .u8 ((UInt8.ofNat n.toNat).toNat : Int)]
  have : n.toNat % 256 = n.toNat := Nat.mod_eq_of_lt (by omega)
  simp only [UInt8.toNat_ofNat', Nat.reducePow, this]
  rw [Int.toNat_of_nonneg hx.1]

theorem bytes_reads {fuel : Nat} {cs : List Value} {y : DataW H × List MemPlace} (h : DataW.trod enc Try.prog w 0 spare held fuel 32 cs = some y) : ∃ v bs, cs = [v] ∧ BytesR (· < w.heap.size) w v bs :=
  slice_reads u8R Try.underlying32 (by kernel_rfl) (by decide) byte_reads h

theorem split6 {cs : List Value} (h : cs.length = 6) : ∃ a b c d e f, cs = [a, b, c, d, e, f] := by
  match cs, h with
  | [a, b, c, d, e, f], _ => exact ⟨a, b, c, d, e, f, rfl⟩
theorem split8 {cs : List Value} (h : cs.length = 8) : ∃ a b c d e f g k, cs = [a, b, c, d, e, f, g, k] := by
  match cs, h with
  | [a, b, c, d, e, f, g, k], _ => exact ⟨a, b, c, d, e, f, g, k, rfl⟩

theorem cells_held : Try.prog.cellsOf 34 = 6 := by kernel_rfl
theorem cells_u64 : Try.prog.cellsOf 30 = 1 := by kernel_rfl
theorem cells_u32 : Try.prog.cellsOf 31 = 1 := by kernel_rfl
theorem cells_int : Try.prog.cellsOf 3 = 1 := by kernel_rfl
theorem cells_bytes : Try.prog.cellsOf 32 = 1 := by kernel_rfl
theorem cells_act : Try.prog.cellsOf 36 = 8 := by kernel_rfl

theorem field_reads {fs : Array Field} {cs : List Value} {xs : List (DataW H × List MemPlace)} {n : Nat}
    (hf : ∀ (i : Nat) (f : Field), fs[i]? = some f → DataW.trod enc Try.prog w 0 spare held n f.type ((cs.drop f.offset).take (Try.prog.cellsOf f.type)) = xs[i]?)
    (i t o c : Nat) (h : (fs[i]?).map (fun f => (f.type, f.offset)) = some (t, o)) (hc : Try.prog.cellsOf t = c) (hi : i < xs.length) : DataW.trod enc Try.prog w 0 spare held n t ((cs.drop o).take c) = some xs[i] := by
  cases e : fs[i]? with
  | none => simp [e] at h
  | some f =>
    simp only [e, Option.map_some, Option.some.injEq, Prod.mk.injEq] at h
    obtain ⟨rfl, rfl⟩ := h
    subst hc
    rw [← List.getElem?_eq_getElem hi]
    exact hf i f e

theorem held_reads (fuel : Nat) (cs : List Value) (y : DataW H × List MemPlace) (h : DataW.trod enc Try.prog w 0 spare held fuel 34 cs = some y) : ∃ x, heldR.rd (· < w.heap.size) w cs x := by
  obtain ⟨xs, n, rfl, _, hl, hx, hf⟩ := DataW.trod_struct Try.underlying34 h
  rw [cells_held] at hl
  obtain ⟨v0, v1, v2, v3, v4, v5, rfl⟩ := split6 hl
  have hx : xs.length = 6 := hx
  have k0 := field_reads hf 0 30 0 1 rfl cells_u64 (by omega)
  have k1 := field_reads hf 1 30 1 1 rfl cells_u64 (by omega)
  have k2 := field_reads hf 2 31 2 1 rfl cells_u32 (by omega)
  have k3 := field_reads hf 3 3 3 1 rfl cells_int (by omega)
  have k4 := field_reads hf 4 30 4 1 rfl cells_u64 (by omega)
  have k5 := field_reads hf 5 32 5 1 rfl cells_bytes (by omega)
  simp only [List.drop_succ_cons, List.drop_zero, List.take_succ_cons, List.take_zero] at k0 k1 k2 k3 k4 k5
  obtain ⟨n0, e0, w0⟩ := int_reads Try.underlying30 k0
  obtain ⟨n1, e1, w1⟩ := int_reads Try.underlying30 k1
  obtain ⟨n2, e2, w2⟩ := int_reads Try.underlying31 k2
  obtain ⟨n3, e3, w3⟩ := int_reads Try.underlying3 k3
  obtain ⟨n4, e4, w4⟩ := int_reads Try.underlying30 k4
  obtain ⟨v, bs, e5, hb⟩ := bytes_reads k5
  simp only [List.cons.injEq, and_true] at e0 e1 e2 e3 e4 e5
  subst e0 e1 e2 e3 e4 e5
  exact ⟨⟨n0, n1, n2, n3, n4, bs⟩, ⟨w0, w1, w2, w3, w4⟩, _, rfl, hb⟩

theorem helds_reads {fuel : Nat} {cs : List Value} {y : DataW H × List MemPlace} (h : DataW.trod enc Try.prog w 0 spare held fuel 29 cs = some y) : ∃ v xs, cs = [v] ∧ HeldsR (· < w.heap.size) w v xs :=
  slice_reads heldR Try.underlying29 cells_held (by decide) held_reads h

theorem act_reads (fuel : Nat) (cs : List Value) (y : DataW H × List MemPlace) (h : DataW.trod enc Try.prog w 0 spare held fuel 36 cs = some y) : ∃ x, actR.rd (· < w.heap.size) w cs x := by
  obtain ⟨xs, n, rfl, _, hl, hx, hf⟩ := DataW.trod_struct Try.underlying36 h
  rw [cells_act] at hl
  obtain ⟨v0, v1, v2, v3, v4, v5, v6, v7, rfl⟩ := split8 hl
  have hx : xs.length = 3 := hx
  have k0 := field_reads hf 0 3 0 1 rfl cells_int (by omega)
  have k1 := field_reads hf 1 34 1 6 rfl cells_held (by omega)
  have k2 := field_reads hf 2 30 7 1 rfl cells_u64 (by omega)
  simp only [List.drop_succ_cons, List.drop_zero, List.take_succ_cons, List.take_zero] at k0 k1 k2
  obtain ⟨n0, e0, w0⟩ := int_reads Try.underlying3 k0
  obtain ⟨x, hx1⟩ := held_reads _ _ _ k1
  obtain ⟨n2, e2, w2⟩ := int_reads Try.underlying30 k2
  obtain ⟨ho, s, es, hs⟩ := hx1
  simp only [HD.cells, List.cons.injEq, and_true] at e0 e2 es
  obtain ⟨rfl, rfl, rfl, rfl, rfl, rfl⟩ := es
  subst e0 e2
  exact ⟨⟨n0, x, n2⟩, ⟨w0, w2⟩, ho, _, rfl, hs⟩

theorem acts_reads {fuel : Nat} {cs : List Value} {y : DataW H × List MemPlace} (h : DataW.trod enc Try.prog w 0 spare held fuel 22 cs = some y) : ∃ v l, cs = [v] ∧ ActsR (· < w.heap.size) w v l :=
  slice_reads actR Try.underlying22 cells_act (by decide) act_reads h

theorem open_acts {r : Reach} {b0 : Nat} {v : Value} {d : DataW H} {ps : List MemPlace} (hval : Value.okWide Try.prog w r b0 22 v) (hd : DataW.Trod enc Try.prog w 0 spare held 22 v d ps) :
    ∃ a n c l, v = .slice a n c ∧ ActsR (· < w.heap.size) w (.slice a n c) l := by
  obtain ⟨a, n, c, rfl⟩ := okWide_slice Try.underlying22 hval
  obtain ⟨fuel, hf⟩ := hd
  obtain ⟨v, l, e, h⟩ := acts_reads hf
  simp [Value.cells] at e
  subst e
  exact ⟨_, _, _, l, rfl, h⟩

/-- A request as an argument. -/
theorem open_held {r : Reach} {b0 : Nat} {v : Value} {d : DataW H} {ps : List MemPlace} (hval : Value.okWide Try.prog w r b0 34 v) (hd : DataW.Trod enc Try.prog w 0 spare held 34 v d ps) :
    ∃ q : HQ, v = q.v ∧ q.x.ok ∧ BytesR (· < w.heap.size) w q.s q.x.bs := by
  obtain ⟨⟨cs⟩, rfl, hc⟩ := okWide_struct Try.underlying34 hval
  obtain ⟨fuel, hf⟩ := hd
  obtain ⟨x, ho, s, e, hs⟩ := held_reads _ _ _ hf
  obtain ⟨a, n, c, rfl⟩ : ∃ a n c, s = .slice a n c := ⟨_, _, _, hs.choose_spec.choose_spec.1⟩
  have e : cs = x.cells (.slice a n c) := e
  subst e
  exact ⟨⟨x, a, n, c⟩, rfl, ho, hs⟩
end

end Go.Proofs.Ytokgggcjfhebnaa
