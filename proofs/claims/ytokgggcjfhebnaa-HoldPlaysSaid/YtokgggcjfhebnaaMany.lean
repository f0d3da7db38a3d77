/-
  Calls as data; many: if it answers false there are at most 500 of them, and no request of theirs has more than 64000 bytes.
-/
import Derived.Test.YtokgggcjfhebnaaAwake2
set_option linter.unusedVariables false
namespace Go.Proofs.Ytokgggcjfhebnaa
open Go.RowKit Go.Conc

/-- A call as data. -/
structure AD where
  doo : Int
  x : HD
  n : Int

def AD.ok (a : AD) : Prop := (Lit.int .i64 a.doo).wf = true ∧ (Lit.int .u64 a.n).wf = true

def AD.cells (a : AD) (s : Value) : List Value := .int .i64 a.doo :: (a.x.cells s ++ [.int .u64 a.n])

def actR : Rep AD where
  n := 8
  rd := fun S w cs a => a.ok ∧ a.x.ok ∧ ∃ s, cs = a.cells s ∧ BytesR S w s a.x.bs
  len := by rintro S w cs a ⟨_, _, s, rfl, _⟩; rfl
  one := by
    rintro S w cs a ⟨_, _, s, rfl, a', c, rfl, _⟩ u hu
    simp [AD.cells, HD.cells] at hu
    rcases hu with rfl | rfl | rfl | rfl | rfl | rfl | rfl | rfl <;> rfl
  keep := by rintro S w w' cs a ⟨h0, h1, s, rfl, h⟩ ha; exact ⟨h0, h1, s, rfl, h.keep ha⟩
  mono := by rintro S T w cs a ⟨h0, h1, s, rfl, h⟩ ht; exact ⟨h0, h1, s, rfl, h.mono ht⟩

abbrev ActsR := SliceR actR

/-- The eight cells of a call. -/
theorem row8 {w : World} {b o : Nat} {a : AD} {s : Value} (h : RowAt w b o (a.cells s)) :
    w.cell? ⟨b, o, none⟩ = some (.int .i64 a.doo) ∧ w.cell? ⟨b, o + 1, none⟩ = some (.int .u64 a.x.id) ∧ w.cell? ⟨b, o + 2, none⟩ = some (.int .u64 a.x.uid) ∧ w.cell? ⟨b, o + 3, none⟩ = some (.int .u32 a.x.addr) ∧
    w.cell? ⟨b, o + 4, none⟩ = some (.int .i64 a.x.port) ∧ w.cell? ⟨b, o + 5, none⟩ = some (.int .u64 a.x.til) ∧ w.cell? ⟨b, o + 6, none⟩ = some s ∧ w.cell? ⟨b, o + 7, none⟩ = some (.int .u64 a.n) :=
  ⟨h 0 (by simp [AD.cells, HD.cells]), h 1 (by simp [AD.cells, HD.cells]), h 2 (by simp [AD.cells, HD.cells]), h 3 (by simp [AD.cells, HD.cells]), h 4 (by simp [AD.cells, HD.cells]), h 5 (by simp [AD.cells, HD.cells]), h 6 (by simp [AD.cells, HD.cells]), h 7 (by simp [AD.cells, HD.cells])⟩

def tot (l : List AD) : Nat := (l.map fun a => 1 + a.x.bs.length / 128).sum

theorem tot_succ {l : List AD} {k : Nat} (hk : k < l.length) {a : AD} (ha : l[k] = a) : tot (l.take (k + 1)) = tot (l.take k) + (1 + a.x.bs.length / 128) := by
  simp [tot, List.take_succ_eq_append_getElem hk, ha]

theorem len_le_tot (l : List AD) : l.length ≤ tot l := by
  induction l with
  | nil => simp
  | cons a l ih => simp [tot] at ih ⊢; omega

theorem bytes_le_tot {l : List AD} {a : AD} (h : a ∈ l) : 1 + a.x.bs.length / 128 ≤ tot l := by
  induction l with
  | nil => cases h
  | cons b l ih =>
    simp only [tot, List.map_cons, List.sum_cons] at ih ⊢
    rcases List.mem_cons.1 h with rfl | h
    · omega
    · have := ih h; omega

theorem tot_take (l : List AD) (k : Nat) : tot (l.take k) ≤ tot l := by
  have e : tot l = tot (l.take k) + tot (l.drop k) := by
    conv => lhs; rw [← List.take_append_drop k l]
    simp only [tot, List.map_append, List.sum_append]
  omega

def ManyPost (l : List AD) (w : World) (e : Ending) (w' : World) : Prop :=
  ∃ b, e = .returned (.bool b) ∧ w = w' ∧ (b = false → tot l ≤ 500) ∧ (b = true → 500 < tot l)

set_option maxHeartbeats 1000000 in
theorem many_any {S : Nat → Prop} {w : World} {a : Option Addr} {n c : Nat} {l : List AD} (h : ActsR S w (.slice a n c) l) :
    Calls Try.prog 8 #[.slice a n c] w (ManyPost l w) := by
  obtain ⟨rfl, hc1, hm1⟩ := h.nonempty
  unfold maxLen at hm1
  have H := Lib.hid h
  clear h
  go_enter Try.func8, Try.ntmps8
  go_wp2
  go_loop [3, 4] (fun t i => ∃ k : Nat, k ≤ l.length ∧ i = .int .i64 k ∧ t = .int .i64 (tot (l.take k)) ∧ tot (l.take k) ≤ 500) (fun _ i => l.length - (intOf i).toNat)
  case atStart => exact ⟨0, Nat.zero_le _, rfl, by simp [tot], by simp [tot]⟩
  case round =>
    obtain ⟨k, hk, rfl, rfl, ht⟩ := hrel
    by_cases hlt : k < l.length
    · obtain ⟨b, o, cs, rfl, hb, hr, ⟨_, hxo, s, rfl, hs⟩⟩ := H.out.at hlt
      obtain ⟨p0, p1, p2, p3, p4, p5, p6, p7⟩ := row8 hr
      simp only [actR] at p0 p1 p2 p3 p4 p5 p6 p7
      obtain ⟨a', n', c', rfl⟩ : ∃ a n c, s = .slice a n c := ⟨_, _, _, hs.choose_spec.choose_spec.1⟩
      obtain ⟨rfl, hc2, hm2⟩ := hs.nonempty
      unfold maxLen at hm2
      have hts := tot_succ hlt rfl
      generalize hA : l[k] = A at *
      have HA := Lib.hid hA
      have HT := Lib.hid hts
      have HU := Lib.hid (tot_take l (k + 1))
      clear hA hts hr hs p0 p1 p2 p3 p4 p5 p7
      generalize tot (l.take k) = T at *
      go_wp2
      case roundEnd =>
        exact ⟨⟨k + 1, by omega, by go_num, congrArg (Value.int .i64) (by rw [HT.out]; omega), by rw [HT.out]; omega⟩, by simp [intOf]; omega⟩
      all_goals
        go_ret
        exact ⟨true, rfl, rfl, (fun h => by cases h), fun _ => by have h1 := HT.out; have h2 := HU.out; omega⟩
    · go_wp2
      go_ret
      exact ⟨false, rfl, rfl, fun _ => by rw [List.take_of_length_le (by omega)] at ht; exact ht, fun h => by cases h⟩

end Go.Proofs.Ytokgggcjfhebnaa
