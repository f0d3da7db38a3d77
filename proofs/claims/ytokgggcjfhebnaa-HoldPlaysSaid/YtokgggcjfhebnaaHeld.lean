/-
  Held requests: how six cells read as one, and when two are the same.
-/
import Derived.Test.YtokgggcjfhebnaaRep
import Derived.Lib.Hide
import Derived.Deep.QuietTactic
import Derived.BigQuiet
import Derived.BigGuardPart
import Derived.Deep.RegionHeld3
import Derived.Deep.DeepCutAuto
namespace Go.Proofs.Ytokgggcjfhebnaa
open Go.RowKit

/-- A request as data. -/
structure HD where
  id : Int
  uid : Int
  addr : Int
  port : Int
  til : Int
  bs : List UInt8
deriving DecidableEq

/-- The numbers fit their kinds. -/
def HD.ok (x : HD) : Prop := (Lit.int .u64 x.id).wf = true ∧ (Lit.int .u64 x.uid).wf = true ∧ (Lit.int .u32 x.addr).wf = true ∧ (Lit.int .i64 x.port).wf = true ∧ (Lit.int .u64 x.til).wf = true

def HD.cells (x : HD) (s : Value) : List Value := [.int .u64 x.id, .int .u64 x.uid, .int .u32 x.addr, .int .i64 x.port, .int .u64 x.til, s]

def heldR : Rep HD where
  n := 6
  rd := fun S w cs x => x.ok ∧ ∃ s, cs = x.cells s ∧ BytesR S w s x.bs
  len := by rintro S w cs x ⟨_, s, rfl, _⟩; rfl
  one := by
    rintro S w cs x ⟨_, s, rfl, a, c, rfl, _⟩ u hu
    simp [HD.cells] at hu
    rcases hu with rfl | rfl | rfl | rfl | rfl | rfl <;> rfl
  keep := by rintro S w w' cs x ⟨h0, s, rfl, h⟩ ha; exact ⟨h0, s, rfl, h.keep ha⟩
  mono := by rintro S T w cs x ⟨h0, s, rfl, h⟩ ht; exact ⟨h0, s, rfl, h.mono ht⟩

abbrev HeldsR := SliceR heldR

theorem row6 {w : World} {b o : Nat} {x : HD} {s : Value} (h : RowAt w b o (x.cells s)) :
    w.cell? ⟨b, o, none⟩ = some (.int .u64 x.id) ∧ w.cell? ⟨b, o + 1, none⟩ = some (.int .u64 x.uid) ∧ w.cell? ⟨b, o + 2, none⟩ = some (.int .u32 x.addr) ∧
    w.cell? ⟨b, o + 3, none⟩ = some (.int .i64 x.port) ∧ w.cell? ⟨b, o + 4, none⟩ = some (.int .u64 x.til) ∧ w.cell? ⟨b, o + 5, none⟩ = some s :=
  ⟨h 0 (by simp [HD.cells]), h 1 (by simp [HD.cells]), h 2 (by simp [HD.cells]), h 3 (by simp [HD.cells]), h 4 (by simp [HD.cells]), h 5 (by simp [HD.cells])⟩

/-- Six cells at a block's head. -/
def Box6 (w : World) (p : Nat) (x : HD) (a : Option Addr) (n c : Nat) : Prop :=
  w.cell? ⟨p, 0, none⟩ = some (.int .u64 x.id) ∧ w.cell? ⟨p, 1, none⟩ = some (.int .u64 x.uid) ∧ w.cell? ⟨p, 2, none⟩ = some (.int .u32 x.addr) ∧
    w.cell? ⟨p, 3, none⟩ = some (.int .i64 x.port) ∧ w.cell? ⟨p, 4, none⟩ = some (.int .u64 x.til) ∧ w.cell? ⟨p, 5, none⟩ = some (.slice a n c)

/-- A list of bytes as a string's. -/
def strOf (l : List UInt8) : ByteArray := ⟨l.toArray⟩
theorem strOf_toList (l : List UInt8) : (strOf l).toList = l := by
  simp [strOf, ByteArray.toList_eq]

theorem bytes_nums (l : List UInt8) : (l.map fun x => (x.toNat : Int)).map (fun n => UInt8.ofNat n.toNat) = l := by
  rw [List.map_map]
  conv => rhs; rw [← List.map_id l]
  exact List.map_congr_left fun x _ => by simp

theorem conv_str {S : Nat → Prop} {w : World} {a : Option Addr} {n c : Nat} {l : List UInt8} (h : BytesR S w (.slice a n c) l) :
    (convert 32 9 (.slice a n c)).run Try.prog w = .ok (.string (strOf l)) w := by
  obtain ⟨a', c', e, h1, h2, h3, h4⟩ := h
  cases e
  have u32 : Try.prog.underlying 32 = some (.slice 5) := by kernel_rfl
  have u5 : Try.prog.underlying 5 = some (.int .u8) := by kernel_rfl
  have u9 : Try.prog.underlying 9 = some .string := by kernel_rfl
  cases l with
  | nil =>
    rw [run_convert_bytes_string w _ _ _ a _ c u32 u5 u9]
    cases a with
    | none => simp [Conv.bytesToString]; rfl
    | some a =>
      rw [run_bytesToString w a _ c [] (by simp [loadCells, loadCellsFrom])]
      rfl
  | cons x0 l0 =>
    generalize hl : x0 :: l0 = l at *
    obtain ⟨b, o, rfl, _, h5⟩ := h4 (by subst hl; simp)
    have := run_convert_bytes_arg (P := Try.prog) w _ _ u32 u5 b o l.length c (l.map fun x => (x.toNat : Int)) (by simp) (fun i hi => by
      obtain ⟨cs, hr, hx⟩ := h5 i hi
      simp only [u8R] at hx hr
      subst hx
      have := hr 0 (by simp)
      simp at this
      rw [this]
      simp [List.getD, hi]) _ u9
    rw [this]
    simp only [strOfNums, bytes_nums, strOf]

/-- A request and where its bytes lie. -/
structure HQ where
  x : HD
  a : Option Addr
  n : Nat
  c : Nat

def HQ.s (q : HQ) : Value := .slice q.a q.n q.c
def HQ.cells (q : HQ) : List Value := q.x.cells q.s
def HQ.v (q : HQ) : Value := .agg #[.int .u64 q.x.id, .int .u64 q.x.uid, .int .u32 q.x.addr, .int .i64 q.x.port, .int .u64 q.x.til, .slice q.a q.n q.c]

/-- Bytes in a row of the call's own. -/
def OwnB (w : World) (base : Nat) (v : Value) (l : List UInt8) : Prop := w.ownsRow base 5 1 v l.length (l.map fun b => .int .u8 b.toNat)

theorem u8_info : (Try.prog.info? 5).map (fun i => (i.zero, i.size, i.bytes)) = some (some (.int .u8 0), 1, 1) := by kernel_rfl

/-- The cells of a slice of bytes. -/
theorem BytesR.cells {S : Nat → Prop} {w : World} {a : Addr} {n c : Nat} {l : List UInt8} (h : BytesR S w (.slice (some a) n c) l) :
    ∀ j u, (l.map fun b => Value.int .u8 b.toNat)[j]? = some u → w.cell? (a.add j) = some u := by
  intro j u hu
  obtain ⟨a', c', e, h1, h2, h3, h4⟩ := h
  cases e
  have hj : j < l.length := by
    rcases Nat.lt_or_ge j l.length with h | h
    · exact h
    · simp [List.getElem?_eq_none (show l.length ≤ j by omega)] at hu
  obtain ⟨b, o, e5, _, h5⟩ := h4 (by omega)
  cases e5
  obtain ⟨cs, hr, hx⟩ := h5 j hj
  simp only [u8R] at hx hr
  subst hx
  have := hr 0 (by simp)
  simp at this
  simp [hj] at hu
  subst hu
  rw [← this]
  unfold Addr.add
  split <;> simp_all

theorem SliceR.nonempty {α : Type} {r : Rep α} {S : Nat → Prop} {w : World} {a : Option Addr} {n c : Nat} {xs : List α} (h : SliceR r S w (.slice a n c) xs) :
    n = xs.length ∧ n ≤ c ∧ c ≤ maxLen := by
  obtain ⟨a', c', e, h1, h2, h3, h4⟩ := h
  cases e
  exact ⟨rfl, h1, h2⟩

theorem SliceR.at {α : Type} {r : Rep α} {S : Nat → Prop} {w : World} {a : Option Addr} {n c : Nat} {xs : List α} (h : SliceR r S w (.slice a n c) xs) {i : Nat} (hi : i < xs.length) :
    ∃ b o cs, a = some ⟨b, o, none⟩ ∧ S b ∧ RowAt w b (o + i * r.n) cs ∧ r.rd S w cs xs[i] := by
  obtain ⟨a', c', e, h1, h2, h3, h4⟩ := h
  cases e
  obtain ⟨b, o, rfl, hb, h5⟩ := h4 (by omega)
  obtain ⟨cs, h6, h7⟩ := h5 i hi
  exact ⟨b, o, cs, rfl, hb, h6, h7⟩

end Go.Proofs.Ytokgggcjfhebnaa
