/-
  Two slices of requests are compared: the answer is whether they read as the same list; nothing that was there turns.
-/
import Derived.Test.YtokgggcjfhebnaaHeld
namespace Go.Proofs.Ytokgggcjfhebnaa
open Go.RowKit

theorem same_no {xs ys : List HD} {k : Nat} (h1 : k < xs.length) (h2 : k < ys.length) {X Y : HD} (hX : xs[k] = X) (hY : ys[k] = Y) (h : X ≠ Y) : decide (xs = ys) = false := by
  simp only [decide_eq_false_iff_not]
  rintro rfl
  exact h (hX.symm.trans hY)

theorem same_step {xs ys : List HD} {k : Nat} (h1 : k < xs.length) (h2 : k < ys.length) {X : HD} (ht : xs.take k = ys.take k) (hX : xs[k] = X) (hY : ys[k] = X) : xs.take (k + 1) = ys.take (k + 1) := by
  rw [List.take_succ_eq_append_getElem h1, List.take_succ_eq_append_getElem h2, ht, hX, hY]

theorem hd_eq {X Y : HD} (h0 : X.id = Y.id) (h1 : X.uid = Y.uid) (h2 : X.addr = Y.addr) (h3 : X.port = Y.port) (h4 : X.til = Y.til)
    (h5 : (!(strOf X.bs).toList == (strOf Y.bs).toList) = false) : X = Y := by
  cases X; cases Y
  simp only [strOf_toList] at h5
  simp_all

set_option maxHeartbeats 2000000 in
theorem same_any (a1 a2 : Option Addr) (n1 c1 n2 c2 : Nat) (xs ys : List HD) (w : World) (h1 : HeldsR (· < w.heap.size) w (.slice a1 n1 c1) xs) (h2 : HeldsR (· < w.heap.size) w (.slice a2 n2 c2) ys) :
    Calls Try.prog 12 #[.slice a1 n1 c1, .slice a2 n2 c2] w fun e w' => e = .returned (.bool (decide (xs = ys))) ∧ Below w.heap.size w w' := by
  obtain ⟨rfl, hc1, hm1⟩ := h1.nonempty
  obtain ⟨rfl, hc2, hm2⟩ := h2.nonempty
  unfold maxLen at hm1 hm2
  by_cases hl : xs.length = ys.length
  · have hne : ((xs.length : Int) != (ys.length : Int)) = false := by simp [hl]
    have HL : Hid (xs.length = ys.length) := hl
    clear hl
    go_enter Try.func12, Try.ntmps12
    go_wp2
    go_loopw [5] (fun i wr => ∃ k : Nat, k ≤ xs.length ∧ xs.take k = ys.take k ∧ i = .int .i64 k ∧ Below w.heap.size w wr) (fun i _ => xs.length - (intOf i).toNat)
    case atStart => exact ⟨0, Nat.zero_le _, rfl, rfl, Below.refl _ _⟩
    case round =>
      obtain ⟨k, hk, htk, rfl, hbel⟩ := hrel
      have HT : Hid (xs.take k = ys.take k) := htk
      clear htk
      by_cases hlt : k < xs.length
      · have hlt2 : k < ys.length := by have := HL.out; omega
        obtain ⟨b1, o1, cs1, rfl, hb1, hr1, hx, s1, rfl, hs1⟩ := h1.at hlt
        obtain ⟨b2, o2, cs2, rfl, hb2, hr2, hy, s2, rfl, hs2⟩ := h2.at hlt2
        obtain ⟨p0, p1, p2, p3, p4, p5⟩ := row6 (hr1.keep (S := (· < w.heap.size)) hb1 hbel.block)
        obtain ⟨q0, q1, q2, q3, q4, q5⟩ := row6 (hr2.keep (S := (· < w.heap.size)) hb2 hbel.block)
        have hsz := hbel.size
        have hb1' : b1 < wr.heap.size := Nat.lt_of_lt_of_le hb1 hsz
        have hb2' : b2 < wr.heap.size := Nat.lt_of_lt_of_le hb2 hsz
        clear hb1 hb2
        obtain ⟨a1', n1', c1', rfl⟩ : ∃ a n c, s1 = .slice a n c := ⟨_, _, _, hs1.choose_spec.choose_spec.1⟩
        obtain ⟨a2', n2', c2', rfl⟩ : ∃ a n c, s2 = .slice a n c := ⟨_, _, _, hs2.choose_spec.choose_spec.1⟩
        generalize hX : xs[k] = X at *
        generalize hY : ys[k] = Y at *
        simp only [heldR] at p0 p1 p2 p3 p4 p5 q0 q1 q2 q3 q4 q5
        have HX := Lib.hid hX
        have HY := Lib.hid hY
        clear hX hY hr1 hr2 h1 h2
        go_upto_region 6 with fail
        go_cut [6, 7] (fun s6 s7 wx => ∃ p q : Nat, s6 = .pointer (some ⟨p, 0, none⟩) ∧ s7 = .pointer (some ⟨q, 0, none⟩) ∧ Below w.heap.size w wx ∧ Box6 wx p X a1' n1' c1' ∧ Box6 wx q Y a2' n2' c2')
        case first =>
          go_region
          all_goals (go_wp2_with fail; go_meet)
          all_goals
            refine ⟨_, _, rfl, rfl, ((hbel.alloc (by omega) _).alloc (by simp; omega) _).drew, ?_, ?_⟩
            · simp [Box6, go_sem]
            · simp [Box6, go_sem]
        case rest =>
          obtain ⟨p, q, rfl, rfl, hbx, hp, hq⟩ := hcut
          obtain ⟨p0, p1, p2, p3, p4, p5⟩ := hp
          obtain ⟨q0, q1, q2, q3, q4, q5⟩ := hq
          have k1 := conv_str ((hs1.keep (w' := wc) hbx.block))
          have k2 := conv_str ((hs2.keep (w' := wc) hbx.block))
          go_wp2
          case roundEnd =>
            refine ⟨⟨k + 1, by omega, ?_, by go_num, hbx⟩, by simp [intOf]; omega⟩
            have e : X = Y := hd_eq ‹_› ‹_› ‹_› ‹_› ‹_› ‹_›
            subst e
            exact same_step hlt hlt2 HT.out HX.out HY.out
          all_goals
            go_ret
            exact ⟨ret_bool (same_no hlt hlt2 HX.out HY.out (by rintro rfl; simp_all)).symm, hbx⟩
      · go_wp2
        go_ret
        have e : xs = ys := by
          have := HT.out
          rw [List.take_of_length_le (by omega), List.take_of_length_le (by have := HL.out; omega)] at this
          exact this
        exact ⟨ret_bool (by simp [e]), hbel⟩
  · have hne : ((xs.length : Int) != (ys.length : Int)) = true := by simp; omega
    go_enter Try.func12, Try.ntmps12
    go_wp2
    go_ret
    have e : xs ≠ ys := fun e => hl (by rw [e])
    exact ⟨ret_bool (by simp [e]), Below.refl _ _⟩

end Go.Proofs.Ytokgggcjfhebnaa
