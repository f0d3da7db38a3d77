/-
  act as a whole; stands.
-/
import Derived.Test.YtokgggcjfhebnaaActPut
import Derived.Test.YtokgggcjfhebnaaActHas
set_option linter.unusedVariables false
namespace Go.Proofs.Ytokgggcjfhebnaa
open Go.RowKit Go.Conc

theorem act_any {w0 w : World} {h c m p : Nat} {qs zs : List HQ} {v : Value} (T : Pl w0 w h c m qs p v zs) (hs : HQs zs = HQs qs) (d : Int) (q : HQ) (n : Int) (hok : q.x.ok) (hby : BytesR (· < w0.heap.size) w0 q.s q.x.bs) (hlen : q.x.bs.length ≤ 70000) :
    Calls Try.prog 20 #[.pointer (some ⟨h, 0, none⟩), .pointer (some ⟨p, 0, none⟩), actV d q n] w (ActPost w0 h c m p) := by
  by_cases h0 : d = 0
  · subst h0; exact act_put T hs q n hok hby hlen
  by_cases h1 : d = 1
  · subst h1; exact act_take1 T hs q n
  by_cases h2 : d = 2
  · subst h2; exact act_take2 T hs q n
  by_cases h3 : d = 3
  · subst h3; exact act_take3 T hs q n
  by_cases h5 : d = 5
  · subst h5; exact act_has T hs q n
  exact act_none T hs q n d ⟨h0, h1, h2, h3, h5⟩

set_option maxHeartbeats 2000000 in
theorem stands_any {w0 w : World} {h c m p : Nat} {qs zs : List HQ} {v : Value} (T : Pl w0 w h c m qs p v zs) (hs : HQs zs = HQs qs) :
    Calls Try.prog 21 #[.pointer (some ⟨h, 0, none⟩), .pointer (some ⟨p, 0, none⟩)] w (ActPost w0 h c m p) := by
  obtain ⟨va, vc, rfl⟩ := ownsRow_slice T.R.rd.1
  have hll : zs.length = qs.length := len_HQs hs
  have hlb : (((qs.length : Nat) : Int) == ((zs.length : Nat) : Int)) = true := by rw [hll]; simp
  have HT := Lib.hid T
  have Hs := Lib.hid hs
  clear T hs hll
  go_enter Try.func21, Try.ntmps21
  go_wp2_with fail
  refine (all_any HT.out.H).mono ?_
  rintro e w1 ⟨u, ys, rfl, hy, ho, H1, hf1⟩
  obtain ⟨ua, uc, rfl⟩ := ownsRow_slice ho.row
  have T1 := Lib.hid (HT.out.onH H1 (fun b hb => .inl hb) hf1)
  have hrd : Rd w1 (.slice ua ys.length uc) ys := ⟨ownsRow_mono ho.row (Nat.zero_le _), fun z hz => by
    obtain ⟨q, hq, e⟩ := mem_HQs hy hz
    exact ⟨e ▸ (HT.out.H.ok q hq).1, ownsRow_mono (ho.bytes z hz) (Nat.zero_le _)⟩⟩
  have Hrd := Lib.hid hrd
  have Hnew := Lib.hid (show ∀ b, bytesOf ys b → w.heap.size ≤ b from fun b hb => by
    obtain ⟨s, hs, hb⟩ := mem_blocks.1 hb
    obtain ⟨q, hq, rfl⟩ := List.mem_map.1 hs
    exact ((ho.bytes q hq).lt b hb).1)
  have Hy := Lib.hid hy
  have hp1 := T1.out.R.ptr
  have hpl := (Array.getElem?_eq_some_iff.1 hp1).1
  obtain ⟨p1, -⟩ := block_cells hp1
  clear hy ho H1 hf1 hrd
  go_wp2_with fail
  go_cut [6] (fun ok wx => ok = .bool true ∧ Fr Nob w1 wx)
  case first =>
    go_region_with
      (first
        | (go_at_call 12; refine (Rd.same (w := w1.drew) (Hrd.out.frS (S := Nob) (Fr.refl _ w1).drew (fun _ _ e => e)) (T1.out.R.rd.frS (S := Nob) (Fr.refl _ w1).drew (fun _ _ e => e)) (by rw [Hy.out, Hs.out])).mono ?_; rintro e w2 ⟨rfl, hb2⟩; have F2 : Fr Nob w1 w2 := (Fr.refl _ w1).drew.trans (Fr.of_below hb2); obtain ⟨p2, -⟩ := block_cells ((F2.block _ hpl (fun e => e)).trans hp1))
        | (go_at_call 14; refine (len_any (T1.out.on F2).H).mono ?_; rintro e w3 ⟨rfl, rfl⟩))
    all_goals go_wp2_with fail
    all_goals
      go_meet
      case rel => exact ⟨by first | rfl | simp | simpa using hlb, F2⟩
  case rest =>
    obtain ⟨rfl, F9⟩ := hcut
    have T9 := Lib.hid (T1.out.on F9)
    have R9 := Lib.hid (Hrd.out.frS F9 (fun _ _ e => e))
    clear F9
    go_wp2_with fail
    refine (spoil_any R9.out rfl).mono ?_
    rintro e w10 ⟨rfl, hf10⟩
    have Hf10 := Lib.hid hf10
    clear hf10
    go_wp2_with fail
    go_ret
    refine ⟨rfl, _, _, _, T9.out.onS Hf10.out (fun b hb => ?_), Hs.out⟩
    have h1 := Hnew.out b hb
    refine ⟨fun hf => ?_, fun hf => ?_, Nat.le_trans HT.out.below.size h1⟩
    · have := HT.out.H.foot_lt b hf; omega
    · have := HT.out.R.lt b hf; omega

end Go.Proofs.Ytokgggcjfhebnaa
