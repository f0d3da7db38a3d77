/-
  Plain lemmas: what slices, bytes and rows of cells of a world read as, and what keeps such readings. No Go function is spoken of here.
-/
import Derived.Test.YtokgggcjfhebnaaRows
import Derived.WalkKit
import Derived.WalkSpells
import Derived.WalkLawsBesides
namespace Go.Proofs.Ytokgggcjfhebnaa
open Go.RowKit

/-- Worlds that agree on the blocks of S. -/
def Agree (S : Nat → Prop) (w w' : World) : Prop := ∀ b, S b → w'.heap[b]? = w.heap[b]?

theorem Agree.cell {S : Nat → Prop} {w w' : World} (h : Agree S w w') {b o : Nat} (hb : S b) : w'.cell? ⟨b, o, none⟩ = w.cell? ⟨b, o, none⟩ := by
  simp [World.cell?, h b hb]

/-- The cells from offset o of block b on. -/
def RowAt (w : World) (b o : Nat) (cs : List Value) : Prop := ∀ i (h : i < cs.length), w.cell? ⟨b, o + i, none⟩ = some cs[i]

/-- A way to read cells as a datum: how many cells, and when they read so, all blocks that the reading goes through being of S. -/
structure Rep (α : Type) where
  n : Nat
  rd : (Nat → Prop) → World → List Value → α → Prop
  len : ∀ {S w cs x}, rd S w cs x → cs.length = n
  one : ∀ {S w cs x}, rd S w cs x → ∀ c ∈ cs, c.oneCell' = true
  keep : ∀ {S w w' cs x}, rd S w cs x → Agree S w w' → rd S w' cs x
  mono : ∀ {S T w cs x}, rd S w cs x → (∀ b, S b → T b) → rd T w cs x

/-- A slice that reads as a list. -/
def SliceR {α : Type} (r : Rep α) (S : Nat → Prop) (w : World) (v : Value) (xs : List α) : Prop :=
  ∃ a c, v = .slice a xs.length c ∧ xs.length ≤ c ∧ c ≤ maxLen ∧ (a = none → c = 0) ∧
    (0 < xs.length → ∃ b o, a = some ⟨b, o, none⟩ ∧ S b ∧ ∀ i (h : i < xs.length), ∃ cs, RowAt w b (o + i * r.n) cs ∧ r.rd S w cs xs[i])

theorem RowAt.keep {S : Nat → Prop} {w w' : World} {b o : Nat} {cs : List Value} (h : RowAt w b o cs) (hb : S b) (ha : Agree S w w') : RowAt w' b o cs :=
  fun i hi => (ha.cell hb).trans (h i hi)

theorem SliceR.keep {α : Type} {r : Rep α} {S : Nat → Prop} {w w' : World} {v : Value} {xs : List α} (h : SliceR r S w v xs) (ha : Agree S w w') : SliceR r S w' v xs := by
  obtain ⟨a, c, e, h1, h2, h3, h4⟩ := h
  refine ⟨a, c, e, h1, h2, h3, fun hl => ?_⟩
  obtain ⟨b, o, rfl, hb, hi⟩ := h4 hl
  refine ⟨b, o, rfl, hb, fun i hlt => ?_⟩
  obtain ⟨cs, hr, hx⟩ := hi i hlt
  exact ⟨cs, hr.keep hb ha, r.keep hx ha⟩

theorem SliceR.mono {α : Type} {r : Rep α} {S T : Nat → Prop} {w : World} {v : Value} {xs : List α} (h : SliceR r S w v xs) (ht : ∀ b, S b → T b) : SliceR r T w v xs := by
  obtain ⟨a, c, e, h1, h2, h3, h4⟩ := h
  refine ⟨a, c, e, h1, h2, h3, fun hl => ?_⟩
  obtain ⟨b, o, rfl, hb, hi⟩ := h4 hl
  refine ⟨b, o, rfl, ht b hb, fun i hlt => ?_⟩
  obtain ⟨cs, hr, hx⟩ := hi i hlt
  exact ⟨cs, hr, r.mono hx ht⟩

/-- One byte. -/
def u8R : Rep UInt8 where
  n := 1
  rd := fun _ _ cs x => cs = [.int .u8 x.toNat]
  len := by intro S w cs x h; simp [h]
  one := by intro S w cs x h c hc; subst h; simp at hc; subst hc; rfl
  keep := fun h _ => h
  mono := fun h _ => h

abbrev BytesR := SliceR u8R

/-- Blocks that are not of S are as they were; none has gone. -/
structure Fr (S : Nat → Prop) (w w' : World) : Prop where
  os : w'.os = w.os
  tape : w'.tape = w.tape
  output : w'.output = w.output
  size : w.heap.size ≤ w'.heap.size
  block : ∀ k, k < w.heap.size → ¬ S k → w'.heap[k]? = w.heap[k]?

theorem Fr.refl (S : Nat → Prop) (w : World) : Fr S w w := ⟨rfl, rfl, rfl, Nat.le_refl _, fun _ _ _ => rfl⟩
theorem Fr.trans {S : Nat → Prop} {a b c : World} (h : Fr S a b) (k : Fr S b c) : Fr S a c :=
  ⟨k.os.trans h.os, k.tape.trans h.tape, k.output.trans h.output, Nat.le_trans h.size k.size, fun i hi hs => (k.block i (Nat.lt_of_lt_of_le hi h.size) hs).trans (h.block i hi hs)⟩
/-- The second step may turn, of the old blocks, those of S alone. -/
theorem Fr.trans' {S T : Nat → Prop} {a b c : World} (h : Fr S a b) (k : Fr T b c) (ht : ∀ i, i < a.heap.size → T i → S i) : Fr S a c :=
  ⟨k.os.trans h.os, k.tape.trans h.tape, k.output.trans h.output, Nat.le_trans h.size k.size,
    fun i hi hs => (k.block i (Nat.lt_of_lt_of_le hi h.size) (fun hT => hs (ht i hi hT))).trans (h.block i hi hs)⟩
theorem Fr.mono {S T : Nat → Prop} {a b : World} (h : Fr S a b) (ht : ∀ i, S i → T i) : Fr T a b := ⟨h.os, h.tape, h.output, h.size, fun i hi hs => h.block i hi fun hS => hs (ht i hS)⟩
theorem Fr.of_below {S : Nat → Prop} {a b : World} (h : Below a.heap.size a b) : Fr S a b := ⟨h.os, h.tape, h.output, h.size, fun i hi _ => h.block i hi⟩
theorem Fr.below {S : Nat → Prop} {a b : World} {B : Nat} (h : Fr S a b) (hB : B ≤ a.heap.size) (hs : ∀ i, S i → B ≤ i) : Below B a b :=
  ⟨h.os, h.tape, h.output, h.size, fun i hi => h.block i (by omega) fun hS => by have := hs i hS; omega⟩
theorem Fr.alloc {S : Nat → Prop} {a b : World} (h : Fr S a b) (o : Obj) : Fr S a (b.alloc o) :=
  h.trans ⟨rfl, rfl, rfl, by simp, fun k hk _ => Below.heap_alloc _ _ _ hk⟩
theorem Fr.drew {S : Nat → Prop} {a b : World} (h : Fr S a b) : Fr S a b.drew := ⟨h.os, h.tape, h.output, h.size, h.block⟩
theorem Fr.setCell {S : Nat → Prop} {a b : World} (h : Fr S a b) {p : Addr} (hp : S p.block ∨ a.heap.size ≤ p.block) (u : Value) : Fr S a (b.setCell p u) :=
  ⟨h.os, h.tape, h.output, Nat.le_trans h.size (by simp [World.setCell]), fun k hk hs => by
    rw [Below.heap_setCell _ _ _ _ (by rintro rfl; rcases hp with hp | hp; exact hs hp; omega)]; exact h.block k hk hs⟩
theorem Fr.grown {S : Nat → Prop} {a b c : World} {row : Option Nat} (h : Fr S a b) (hg : b.grownBy c row) (hr : ∀ k, row = some k → S k ∨ a.heap.size ≤ k) : Fr S a c :=
  ⟨hg.os.trans h.os, hg.tape.trans h.tape, hg.output.trans h.output, Nat.le_trans h.size hg.size, fun k hk hs => by
    rw [hg.block k (Nat.lt_of_lt_of_le hk h.size) (fun e => by rcases hr k e.symm with h' | h'; exact hs h'; omega)]; exact h.block k hk hs⟩
theorem Fr.agree {S T : Nat → Prop} {a b : World} (h : Fr S a b) (ht : ∀ i, T i → i < a.heap.size ∧ ¬ S i) : Agree T a b := fun i hi => h.block i (ht i hi).1 (ht i hi).2
theorem Fr.cell {S : Nat → Prop} {a b : World} (h : Fr S a b) {i o : Nat} (hi : i < a.heap.size) (hs : ¬ S i) : b.cell? ⟨i, o, none⟩ = a.cell? ⟨i, o, none⟩ := by simp [World.cell?, h.block i hi hs]

/-- Old cells and old marks read as before. -/
theorem bcell {W w1 : World} (hb : Below W.heap.size W w1) : (∀ b o, b < W.heap.size → w1.cell? ⟨b, o, none⟩ = W.cell? ⟨b, o, none⟩) ∧ (∀ b o, b < W.heap.size → w1.frozen? ⟨b, o, none⟩ = W.frozen? ⟨b, o, none⟩) :=
  ⟨fun b o h => hb.cell (p := ⟨b, o, none⟩) h, fun b o h => hb.frozen (p := ⟨b, o, none⟩) h⟩

theorem ownsRow_fr {w w' : World} {base : Nat} {e : TypeId} {size : Nat} {v : Value} {n : Nat} {xs : List Value} (h : w.ownsRow base e size v n xs) {S : Nat → Prop} (hf : Fr S w w') (hS : ∀ g, v.ownBlock = some g → ¬ S g) : w'.ownsRow base e size v n xs := by
  have hl := h.lt
  obtain ⟨q1, q2⟩ := h
  refine ⟨q1, ?_⟩
  rcases q2 with q2 | ⟨g, cap, cur, rfl, hg, hh, r'⟩
  · exact .inl q2
  · exact .inr ⟨g, cap, cur, rfl, hg, (hf.block g (hl g rfl).2 (hS g rfl)).trans hh, r'⟩

theorem cell_new_row (w : World) (cs : List Value) (e : TypeId) : ∀ j u, cs[j]? = some u → (w.alloc (.cells cs.toArray e)).cell? ((⟨w.heap.size, 0, none⟩ : Addr).add j) = some u := by
  intro j u hu
  have e1 : (⟨w.heap.size, 0, none⟩ : Addr).add j = ⟨w.heap.size, j, none⟩ := by unfold Addr.add; split <;> simp_all
  rw [e1, World.cell?_alloc_new]
  simpa using hu

/-- A block known whole: its cells, and that none is frozen. -/
theorem block_cells {w : World} {b : Nat} {cs : Array Value} {e : TypeId} (h : w.heap[b]? = some (.cells cs e (0, 0))) : (∀ i, w.cell? ⟨b, i, none⟩ = cs[i]?) ∧ (∀ i, w.frozen? ⟨b, i, none⟩ = false) := by
  constructor
  · intro i; simp [World.cell?, h]
  · intro i; simp [World.frozen?, h]

theorem agree_alloc {S : Nat → Prop} {w : World} (h : ∀ b, S b → b < w.heap.size) (o : Obj) : Agree S w (w.alloc o) := fun b hb => Below.heap_alloc _ _ _ (h b hb)

theorem ret_bool {a b : Bool} (h : a = b) : Ending.returned (.bool a) = .returned (.bool b) := by rw [h]
theorem ret_int {k : IntKind} {a b : Int} (h : a = b) : Ending.returned (.int k a) = .returned (.int k b) := by rw [h]

end Go.Proofs.Ytokgggcjfhebnaa
