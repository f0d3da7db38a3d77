/-
  The document's queue, and spoil: what was answered is written over.
-/
import Derived.Test.YtokgggcjfhebnaaRd
import Derived.Test.YtokgggcjfhebnaaAppend2
set_option linter.unusedVariables false
namespace Go.Proofs.Ytokgggcjfhebnaa
open Go.RowKit Go.Conc

abbrev Nob : Nat → Prop := fun _ => False

/-- The document's queue. -/
structure RefAt (w : World) (p m : Nat) (v : Value) (zs : List HQ) : Prop where
  ptr : w.heap[p]? = some (.cells #[.int .i64 (m : Int), v] 63 (0, 0))
  rd : Rd w v zs
  most : m ≤ 16
  len : zs.length ≤ m

def refFoot (p : Nat) (v : Value) (zs : List HQ) (b : Nat) : Prop := b = p ∨ v.ownBlock = some b ∨ b ∈ blocks (zs.map HQ.s)

theorem Rd.lt {w : World} {v : Value} {zs : List HQ} (H : Rd w v zs) : ∀ b, v.ownBlock = some b ∨ b ∈ blocks (zs.map HQ.s) → b < w.heap.size := by
  rintro b (hb | hb)
  · exact (H.1.lt b hb).2
  · obtain ⟨s, hs, hb⟩ := mem_blocks.1 hb
    obtain ⟨q, hq, rfl⟩ := List.mem_map.1 hs
    exact ((H.2 q hq).2.lt b hb).2

theorem Rd.frS {w w' : World} {v : Value} {zs : List HQ} (H : Rd w v zs) {S : Nat → Prop} (hf : Fr S w w') (hS : ∀ b, v.ownBlock = some b ∨ b ∈ blocks (zs.map HQ.s) → ¬ S b) : Rd w' v zs :=
  ⟨ownsRow_fr H.1 hf (fun g hg => hS g (.inl hg)), fun z hz => ⟨(H.2 z hz).1, ownsRow_fr (H.2 z hz).2 hf (fun g hg => hS g (.inr (mem_blocks.2 ⟨_, List.mem_map.2 ⟨z, hz, rfl⟩, hg⟩)))⟩⟩

theorem RefAt.fr {w w' : World} {p m : Nat} {v : Value} {zs : List HQ} (H : RefAt w p m v zs) {S : Nat → Prop} (hf : Fr S w w') (hS : ∀ b, refFoot p v zs b → ¬ S b) : RefAt w' p m v zs :=
  ⟨(hf.block p (Array.getElem?_eq_some_iff.1 H.ptr).1 (hS p (.inl rfl))).trans H.ptr, H.rd.frS hf (fun b hb => hS b (.inr hb)), H.most, H.len⟩

theorem RefAt.lt {w : World} {p m : Nat} {v : Value} {zs : List HQ} (H : RefAt w p m v zs) : ∀ b, refFoot p v zs b → b < w.heap.size := by
  rintro b (rfl | hb)
  · exact (Array.getElem?_eq_some_iff.1 H.ptr).1
  · exact H.rd.lt b hb

/-- New: none. -/
theorem rnew_no (n : Int) (w : World) (hn : n < 1 ∨ 16 < n) : Calls Try.prog 17 #[.int .i64 n] w fun e w' => e = .returned (.pointer none) ∧ w = w' := by
  rcases hn with hn | hn
  · go_enter Try.func17, Try.ntmps17
    go_wp2
    go_ret
    exact ⟨rfl, rfl⟩
  · have : ¬ n < 1 := by omega
    go_enter Try.func17, Try.ntmps17
    go_wp2
    go_ret
    exact ⟨rfl, rfl⟩

def RNewPost (n : Int) (w : World) (e : Ending) (w' : World) : Prop :=
  ∃ p, e = .returned (.pointer (some ⟨p, 0, none⟩)) ∧ RefAt w' p n.toNat (.slice none 0 0) [] ∧ Below w.heap.size w w' ∧ w.heap.size ≤ p

theorem rnew_ok (n : Int) (w : World) (h1 : 1 ≤ n) (h2 : n ≤ 16) : Calls Try.prog 17 #[.int .i64 n] w (RNewPost n w) := by
  obtain ⟨k, rfl⟩ := Int.eq_ofNat_of_zero_le (show 0 ≤ n by omega)
  go_enter Try.func17, Try.ntmps17
  go_wp2
  go_ret
  refine ⟨w.heap.size, rfl, ⟨heap_alloc_new w _, ⟨World.ownsRow_nil _ _ _ _, by simp⟩, by omega, by simp⟩, (Below.refl _ _).alloc (Nat.le_refl _) _, Nat.le_refl _⟩

/-- The bytes of a request may be written over. -/
def Sp (w : World) (z : HQ) : Prop :=
  z.n ≤ maxLen ∧ (z.n = 0 ∨ ∃ g cur, z.a = some ⟨g, 0, none⟩ ∧ w.heap[g]? = some (.cells cur 5 (0, 0)) ∧ ∀ i, i < z.n → ∃ b : Int, cur[i]? = some (.int .u8 b))

theorem Sp.of {w : World} {z : HQ} (h : OwnB w 0 z.s z.x.bs) : Sp w z := by
  obtain ⟨x, a, n, c⟩ := z
  obtain ⟨h1, h2⟩ := h
  rcases h2 with ⟨e, e2⟩ | ⟨g, cap, cur, e, hg, hh, hn, hm, hs, ht⟩
  · simp only [HQ.s] at e
    cases e
    exact ⟨Nat.zero_le _, .inl rfl⟩
  · simp only [HQ.s] at e
    cases e
    refine ⟨Nat.le_trans hn hm, .inr ⟨g, cur, rfl, hh, fun i hi => ?_⟩⟩
    have hi2 : (cur.toList.take (x.bs.length * 1))[i]? = some (.int .u8 (x.bs[i]'hi).toNat) := by
      show (cur.toList.take (x.bs.length * 1))[i]? = _
      rw [ht]; simp [show i < x.bs.length from hi]
    rw [List.getElem?_take] at hi2
    rw [if_pos (by have : i < x.bs.length := hi; omega)] at hi2
    exact ⟨_, by simpa using hi2⟩

theorem Sp.set {w : World} {z : HQ} (h : Sp w z) (g k : Nat) (n : Int) : Sp (w.setCell ⟨g, k, none⟩ (.int .u8 n)) z := by
  refine ⟨h.1, h.2.imp id ?_⟩
  rintro ⟨g', cur, ha, hh, hc⟩
  by_cases e : g' = g
  · subst e
    refine ⟨g', _, ha, heap_setCell_same w g' k cur _ _ hh, fun i hi => ?_⟩
    obtain ⟨b, hb⟩ := hc i hi
    by_cases ek : k = i
    · subst ek
      have : k < cur.size := (Array.getElem?_eq_some_iff.1 hb).1
      exact ⟨n, by simp [this]⟩
    · exact ⟨b, by rw [Array.getElem?_setIfInBounds_ne ek]; exact hb⟩
  · exact ⟨g', cur, ha, (Below.heap_setCell _ _ _ _ e).trans hh, hc⟩

theorem Sp.drew {w : World} {z : HQ} (h : Sp w z) : Sp w.drew z := h

theorem Sp.frS {w w' : World} {z : HQ} (h : Sp w z) {S : Nat → Prop} (hf : Fr S w w') (hS : ∀ b, z.s.ownBlock = some b → ¬ S b) : Sp w' z := by
  refine ⟨h.1, h.2.imp id ?_⟩
  rintro ⟨g, cur, ha, hh, hc⟩
  exact ⟨g, cur, ha, (hf.block g (Array.getElem?_eq_some_iff.1 hh).1 (hS g (by simp [HQ.s, ha, Value.ownBlock]))).trans hh, hc⟩

abbrev bytesOf (ys : List HQ) (b : Nat) : Prop := b ∈ blocks (ys.map HQ.s)

theorem Rd.apart {w : World} {v : Value} {ys : List HQ} (h : Rd w v ys) : ∀ g, v.ownBlock = some g → ¬ bytesOf ys g := by
  intro g hg hb
  obtain ⟨s, hs, hb⟩ := mem_blocks.1 hb
  obtain ⟨q, hq, rfl⟩ := List.mem_map.1 hs
  rcases h.1.2 with ⟨e, _⟩ | ⟨g1, cap, cur, e, _, hh, _⟩
  · rw [e] at hg; cases hg
  · rw [e] at hg
    simp [Value.ownBlock] at hg
    subst hg
    rcases (h.2 q hq).2.2 with ⟨e, _⟩ | ⟨g2, cap2, cur2, e, _, hh2, _⟩
    · rw [e] at hb; cases hb
    · rw [e] at hb
      simp [Value.ownBlock] at hb
      subst hb
      rw [hh] at hh2
      simp at hh2

set_option maxHeartbeats 2000000 in
theorem spoil_any {w : World} {a : Option Addr} {n c : Nat} {ys : List HQ} (h : Rd w (.slice a n c) ys) (hn : n = ys.length) :
    Calls Try.prog 33 #[.slice a n c] w fun e w' => e = .returned (.tuple #[]) ∧ Fr (bytesOf ys) w w' := by
  obtain ⟨_, hnc, hcm⟩ := ownsRow_cap h.1
  unfold maxLen at hcm
  have HR := Lib.hid h
  have HN := Lib.hid hn
  clear h hn
  go_enter Try.func33, Try.ntmps33
  go_wp2_with fail
  go_loopg [2] n (fun g i wr => ∃ k : Nat, g + k = n ∧ i = .int .i64 k ∧ Fr (bytesOf ys) w wr ∧ ∀ z ∈ ys, Sp wr z)
  case atStart => exact ⟨0, rfl, rfl, Fr.refl _ _, fun z hz => Sp.of (HR.out.2 z hz).2⟩
  case round =>
    obtain ⟨k, hgk, rfl, hf, hs⟩ := hrel
    have HF := Lib.hid hf
    have HS := Lib.hid hs
    have Hgk := Lib.hid hgk
    obtain ⟨wo, rfl⟩ : ∃ wo : World, wo = wr := ⟨_, rfl⟩
    obtain ⟨gq, rfl⟩ : ∃ gq : Nat, gq = gk := ⟨_, rfl⟩
    clear hf hs
    by_cases hlt : k < n
    · clear hgk
      have hly : k < ys.length := by rw [← HN.out]; exact hlt
      obtain ⟨g0, rfl, -, hg0, hr0⟩ := row_cells (by have h := HR.out.1; rw [← HN.out] at h; exact h) hly HN.out
      have hap := HR.out.apart g0 rfl
      have hm : ys[k] ∈ ys := List.getElem_mem hly
      generalize hZ : ys[k] = z at *
      obtain ⟨x, za, zn, zc⟩ := z
      have Hm := Lib.hid hm
      have Hr0 := Lib.hid hr0
      have hzn := (HS.out _ hm).1
      simp only [maxLen] at hzn
      clear hZ hr0 hm hly
      go_wp2_with fail
      go_loopg [3] zn (fun g i wr => ∃ j : Nat, g + j = zn ∧ i = .int .i64 j ∧ Fr (bytesOf ys) w wr ∧ ∀ z ∈ ys, Sp wr z)
      case atStart => exact ⟨0, rfl, rfl, HF.out, HS.out⟩
      case round =>
        obtain ⟨j, hgj, rfl, hf1, hs1⟩ := hrel
        have HF1 := Lib.hid hf1
        have HS1 := Lib.hid hs1
        have Hgj := Lib.hid hgj
        obtain ⟨p0, p1, p2, p3, p4, p5⟩ := row6 (Hr0.out.keep (S := (· = g0)) rfl (fun b hb => HF1.out.block b (hb ▸ hg0) (hb ▸ hap)))
        simp only [HQ.s] at p5
        clear hf1 hs1 p0 p1 p2 p3 p4
        by_cases hj : j < zn
        · clear hgj
          have hsp := HS1.out _ Hm.out
          have hsp2 : ∃ g cur, za = some ⟨g, 0, none⟩ ∧ wr.heap[g]? = some (.cells cur 5 (0, 0)) ∧ ∀ i, i < zn → ∃ b : Int, cur[i]? = some (.int .u8 b) := hsp.2.resolve_left (by simp only; omega)
          obtain ⟨g1, cur, rfl, hh, hc⟩ := hsp2
          obtain ⟨b, hb⟩ := hc j hj
          have hcell : wr.cell? ⟨g1, j, none⟩ = some (.int .u8 b) := by simp [World.cell?, hh, hb]
          have hfz : wr.frozen? ⟨g1, j, none⟩ = false := by simp [World.frozen?, hh]
          have hg1 : bytesOf ys g1 := mem_blocks.2 ⟨_, List.mem_map.2 ⟨_, Hm.out, rfl⟩, rfl⟩
          have Hg1 := Lib.hid hg1
          clear hsp hh hc hb hg1
          go_wp2_with fail
          go_roundg (gk - 1)
          case measure => have := Hgj.out; omega
          case rel => exact ⟨j + 1, by have := Hgj.out; omega, by go_num, HF1.out.setCell (.inl Hg1.out) _, fun z hz => (HS1.out z hz).set _ _ _⟩
        · go_wp2_with fail
          go_roundg (gq - 1)
          case measure => have := Hgk.out; omega
          case rel => exact ⟨k + 1, by have := Hgk.out; omega, by go_num, HF1.out, HS1.out⟩
    · go_wp2_with fail
      go_end0
      exact ⟨rfl, HF.out⟩

end Go.Proofs.Ytokgggcjfhebnaa
