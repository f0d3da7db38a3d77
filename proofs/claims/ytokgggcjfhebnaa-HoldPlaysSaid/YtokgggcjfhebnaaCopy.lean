/-
  Copy of a queue: another queue that holds the same, in memory of its own.
-/
import Derived.Test.YtokgggcjfhebnaaPut2
set_option linter.unusedVariables false
namespace Go.Proofs.Ytokgggcjfhebnaa
open Go.RowKit Go.Conc

def CopyPost (w : World) (h c m : Nat) (qs : List HQ) (e : Ending) (w' : World) : Prop :=
  ∃ h' c' ys, e = .returned (.pointer (some ⟨h', 0, none⟩)) ∧ HQs ys = HQs qs ∧ HoldAt w' h' c' m ys ∧ HoldAt w' h c m qs ∧ Fr (· = c) w w' ∧ (∀ b, foot h' c' ys b → w.heap.size ≤ b)

set_option maxHeartbeats 1000000 in
theorem copy_any {w : World} {h c m : Nat} {qs : List HQ} (H : HoldAt w h c m qs) :
    Calls Try.prog 15 #[.pointer (some ⟨h, 0, none⟩)] w (CopyPost w h c m qs) := by
  obtain ⟨s, r, hc⟩ := H.chan
  have hcell := H.cell
  have hu : Try.prog.underlying 52 = some (.chan .both 34) := by kernel_rfl
  have hcap := fun ty => Go.Conc.run_cap_chan (P := Try.prog) 52 ty hu hc
  have hmk := run_make m H.most w
  have hm := H.most
  have hm1 := H.pos
  have hfl := H.foot_lt
  have hcc := hfl c (.inr (.inl rfl))
  have hhh := hfl h (.inl rfl)
  have HH := Lib.hid H
  clear H hfl hc
  go_enter Try.func15, Try.ntmps15
  go_wp2_with (go_at_call 27; refine (none_some _ _ _ hcell).mono ?_; rintro e w' ⟨rfl, rfl⟩)
  refine (all_any ((HH.out.alloc _).alloc _)).mono ?_
  rintro e w1 ⟨v, ys, rfl, hys, ho, H1, hfr⟩
  obtain ⟨va, vc, rfl⟩ := ownsRow_slice ho.row
  have hp : w1.heap[w.heap.size + 1]? = some (.cells #[.chan (some w.heap.size)] 54 (0, 0)) := (hfr.block _ (by simp) (by omega)).trans (by simpa using heap_alloc_new (w.alloc _) _)
  have hch : w1.heap[w.heap.size]? = some (.chan m #[] false 0 0 false) := (hfr.block _ (by simp; omega) (by omega)).trans (by rw [Below.heap_alloc _ _ _ (by simp), heap_alloc_new])
  have hz := hfr.size
  simp at hz
  have hlen := len_HQs hys
  have hyl : ys.length ≤ m := by rw [hlen]; exact HH.out.len
  have Hlen := Lib.hid hlen
  have Hys := Lib.hid hys
  have Ho := Lib.hid ho
  have H1' := Lib.hid H1
  have Hfr := Lib.hid hfr
  have Hp := Lib.hid hp
  have Hch := Lib.hid hch
  clear hys ho H1 hfr hp hch hlen hcap hmk hcell
  go_wp2_with fail
  go_loopw [19] (fun i wr => ∃ k : Nat, k ≤ ys.length ∧ i = .int .i64 k ∧ (∃ s r, wr.heap[w.heap.size]? = some (.chan m ((ys.take k).map HQ.v).toArray false s r false)) ∧ Fr (· = w.heap.size) w1 wr) (fun i _ => ys.length - (intOf i).toNat)
  case atStart => exact ⟨0, Nat.zero_le _, rfl, ⟨0, 0, Hch.out⟩, Fr.refl _ _⟩
  case round =>
    obtain ⟨k, hk, rfl, ⟨s2, r2, hch⟩, hfr⟩ := hrel
    have Hch2 := Lib.hid hch
    have Hfr2 := Lib.hid hfr
    clear hch hfr
    by_cases hlt : k < ys.length
    · have hrow := ownsRow_fr Ho.out.row Hfr2.out (fun g hg e => by have := (Ho.out.lt g (mem_blocks.2 ⟨_, by simp, hg⟩)).1; simp at this; omega)
      obtain ⟨g, rfl, hg1, hg2, hcs⟩ := row_cells hrow hlt rfl
      clear hrow
      have hpc : wr.cell? ⟨w.heap.size + 1, 0, none⟩ = some (.chan (some w.heap.size)) := (Hfr2.out.cell (by omega) (by omega)).trans (by simp [World.cell?, Hp.out])
      have hzr := Hfr2.out.size
      have hgw : w.heap.size + 1 < wr.heap.size := by omega
      generalize hQ : ys[k] = q at *
      have HQk := Lib.hid hQ
      clear hQ
      obtain ⟨x, a, n, cc⟩ := q
      obtain ⟨p0, p1, p2, p3, p4, p5⟩ := row6 hcs
      simp only [HQ.s] at p5
      clear hcs
      go_upto_region 7 with fail
      refine wp_send (ps := "hold.go:109") (sh := 3) (sb := 5) (s := 23) (q := ⟨x, a, n, cc⟩) (h := w.heap.size + 1) (bx := wr.heap.size) (c := w.heap.size) (m := m) (buf := ((ys.take k).map HQ.v).toArray) (r1 := s2) (r2 := r2) (by simp) (by omega) (by omega) rfl rfl (by simpa [go_sem, hgw] using hpc) (by simp [Box6, go_sem]) (by rw [Below.heap_alloc _ _ _ (by omega)]; exact Hch2.out) (by simp; omega) ?_
      simp only [sA, Act.put]
      go_wp2_with fail
      go_roundw
      case rel =>
        refine ⟨k + 1, by omega, by go_num, ⟨s2 + 1, r2, ?_⟩, ?_⟩
        · rw [heap_setChan _ _ _ _ _ _ _ _ (by simp [World.drew]; omega)]
          rw [List.take_succ_eq_append_getElem hlt, HQk.out]
          simp
        · exact ((Hfr2.out.alloc _).drew).trans' (fr_setChan _ _ _ _ _ _ _ _) (fun i _ hi => hi)
      case measure => simp [intOf]; omega
    · have ek : k = ys.length := by omega
      subst ek
      go_wp2_with fail
      go_ret
      have hbl : ∀ q ∈ ys, ∀ b, q.s.ownBlock = some b → w.heap.size + 2 ≤ b := fun q hq b hb => by
        have := ((Ho.out.bytes q hq).lt b hb).1
        simp at this
        omega
      have hd := Ho.out.dist
      rw [blocks_cons] at hd
      refine ⟨w.heap.size + 1, w.heap.size, ys, rfl, Hys.out, ⟨(Hfr2.out.block _ (by omega) (by omega)).trans Hp.out, ⟨s2, r2, by simpa using Hch2.out⟩, hm1, hm, hyl, ?_,
        fun q hq => ownsRow_mono (ownsRow_fr (Ho.out.bytes q hq) Hfr2.out (fun g hg e => by have := hbl q hq g hg; omega)) (Nat.zero_le _), (List.nodup_append.1 hd).2.1⟩,
        H1'.out.fr Hfr2.out (fun b hb e => by have := HH.out.foot_lt b hb; omega), ((((Fr.refl _ w).alloc _).alloc _).trans' Hfr.out (fun i _ e => e)).trans' Hfr2.out (fun i hi e => by omega), ?_⟩
      · intro q hq
        obtain ⟨q', hq', e⟩ := mem_HQs Hys.out hq
        rw [← e]; exact HH.out.ok q' hq'
      · rintro b (rfl | rfl | hb)
        · omega
        · exact Nat.le_refl _
        · obtain ⟨v, hv, hb⟩ := mem_blocks.1 hb
          obtain ⟨q, hq, rfl⟩ := List.mem_map.1 hv
          have := hbl q hq b hb
          omega

end Go.Proofs.Ytokgggcjfhebnaa
