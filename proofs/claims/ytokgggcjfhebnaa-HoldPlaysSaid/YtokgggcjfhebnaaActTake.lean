/-
  act, where it takes out. (Printed by wip/gen_act20.py.)
-/
import Derived.Test.YtokgggcjfhebnaaPl
set_option linter.unusedVariables false
namespace Go.Proofs.Ytokgggcjfhebnaa
open Go.RowKit Go.Conc

def ActPost (w0 : World) (h c m p : Nat) (e : Ending) (w' : World) : Prop :=
  e = .returned (.bool true) ∧ ∃ qs' v' zs', Pl w0 w' h c m qs' p v' zs' ∧ HQs zs' = HQs qs'

theorem wrap_u32 (n : Int) : ∃ r, IntKind.u32.wrap n = r ∧ IntKind.u64.wrap r = r := by
  refine ⟨_, rfl, ?_⟩
  unfold IntKind.wrap
  simp [IntKind.signed, IntKind.bits]
  omega

theorem act_end {w0 w1 w2 w3 w4 : World} {h c m p : Nat} {qs ys zs zs2 : List HQ} {v v2 : Value} {f : HD → Bool} {qs1 : List HQ} (T1 : Pl w0 w1 h c m qs1 p v zs) (hs : HQs zs = HQs qs) (hq : HQs qs1 = (HQs qs).filter (fun x => !f x))
    (hb : ∀ b, bytesOf ys b → ¬ foot h c qs1 b ∧ ¬ refFoot p v zs b ∧ w0.heap.size ≤ b ∧ b < w1.heap.size) (R2 : RefAt w2 p m v2 zs2) (hz2 : HQs zs2 = (HQs zs).filter (fun x => !f x)) (hf2 : ∀ b, refFoot p v2 zs2 b → refFoot p v zs b ∨ w1.heap.size ≤ b)
    (fr2 : Fr (· = p) w1 w2) (hb3 : Below w2.heap.size w2 w3) (fr4 : Fr (bytesOf ys) w3 w4) : ActPost w0 h c m p (.returned (.bool true)) w4 := by
  have T2 := T1.onR R2 hf2 fr2
  have T3 := T2.on (Fr.of_below hb3)
  refine ⟨rfl, qs1, v2, zs2, T3.onS fr4 (fun b h1 => ?_), by rw [hz2, hq, hs]⟩
  obtain ⟨h2, h3, h4, h5⟩ := hb b h1
  refine ⟨h2, fun h6 => ?_, h4⟩
  rcases hf2 b h6 with h7 | h7
  · exact h3 h7
  · omega

set_option maxRecDepth 100000 in
set_option maxHeartbeats 2000000 in
theorem act_take1 {w0 w : World} {h c m p : Nat} {qs zs : List HQ} {v : Value} (T : Pl w0 w h c m qs p v zs) (hs : HQs zs = HQs qs) (q : HQ) (n : Int) :
    Calls Try.prog 20 #[.pointer (some ⟨h, 0, none⟩), .pointer (some ⟨p, 0, none⟩), actV 1 q n] w (ActPost w0 h c m p) := by
  obtain ⟨x, qa, qn, qc⟩ := q
  obtain ⟨r, hr, hrr⟩ := wrap_u32 n
  have T1 := Lib.hid (T.on ((Fr.refl Nob w).alloc (.cells #[.int .i64 1, .int .u64 x.id, .int .u64 x.uid, .int .u32 x.addr, .int .i64 x.port, .int .u64 x.til, .slice qa qn qc, .int .u64 n] 36)))
  have Hs := Lib.hid hs
  have hcw := T.H.foot_lt c (.inr (.inl rfl))
  clear T hs
  simp only [actV]
  go_enter Try.func20, Try.ntmps20
  go_wp2_with fail
  refine (ready_take T1.out.H r).mono ?_
  rintro e w1 ht
  obtain ⟨a1, k1, cc1, ys, qs1, rfl, hy, hq1, hrd, T2, hb, hf1⟩ := take_rd T1.out ht
  have hbox : w1.heap[w.heap.size]? = some (.cells #[.int .i64 1, .int .u64 x.id, .int .u64 x.uid, .int .u32 x.addr, .int .i64 x.port, .int .u64 x.til, .slice qa qn qc, .int .u64 n] 36) := (hf1.block _ (by simp) (by omega)).trans (heap_alloc_new w _)
  obtain ⟨g1, g2⟩ := block_cells hbox
  have hk1 := (ownsRow_cap hrd.1).1
  have Hk1 := Lib.hid hk1
  have HT2 := Lib.hid T2
  have Hrd := Lib.hid hrd
  have Hy := Lib.hid hy
  have Hq1 := Lib.hid hq1
  have Hb := Lib.hid hb
  clear hk1 T2 hrd hy hq1 hb hf1 ht hbox
  go_wp2_with fail
  refine (rtake0_any HT2.out.R r).mono ?_
  rintro e w2 ⟨a2, k2, cc2, out, v2, zs2, rfl, ho, hrd2, R2, hz2, hfo2, hf2⟩
  have hrd12 := Hrd.out.frS hf2 (Hrd.out.notRef HT2.out.R)
  have E := Lib.hid (hrd12.same hrd2 (by rw [Hy.out, ho, Hs.out]))
  have Hrd12 := Lib.hid hrd12
  have HR2 := Lib.hid R2
  have Hz2 := Lib.hid hz2
  have Hfo2 := Lib.hid hfo2
  have Hf2 := Lib.hid hf2
  clear hrd12 ho hrd2 R2 hz2 hfo2 hf2
  go_wp2_with fail
  refine E.out.mono ?_
  rintro e w3 ⟨rfl, hb3⟩
  have Hrd3 := Lib.hid (Hrd12.out.below hb3)
  have Hb3 := Lib.hid hb3
  clear hb3
  go_wp2_with fail
  refine (spoil_any Hrd3.out Hk1.out).mono ?_
  rintro e w4 ⟨rfl, hf4⟩
  have Hf4 := Lib.hid hf4
  clear hf4
  go_wp2_with fail
  go_ret
  exact act_end HT2.out Hs.out Hq1.out Hb.out HR2.out Hz2.out Hfo2.out Hf2.out Hb3.out Hf4.out

set_option maxRecDepth 100000 in
set_option maxHeartbeats 2000000 in
theorem act_take2 {w0 w : World} {h c m p : Nat} {qs zs : List HQ} {v : Value} (T : Pl w0 w h c m qs p v zs) (hs : HQs zs = HQs qs) (q : HQ) (n : Int) :
    Calls Try.prog 20 #[.pointer (some ⟨h, 0, none⟩), .pointer (some ⟨p, 0, none⟩), actV 2 q n] w (ActPost w0 h c m p) := by
  obtain ⟨x, qa, qn, qc⟩ := q
  obtain ⟨r, hr, hrr⟩ := wrap_u32 n
  have T1 := Lib.hid (T.on ((Fr.refl Nob w).alloc (.cells #[.int .i64 2, .int .u64 x.id, .int .u64 x.uid, .int .u32 x.addr, .int .i64 x.port, .int .u64 x.til, .slice qa qn qc, .int .u64 n] 36)))
  have Hs := Lib.hid hs
  have hcw := T.H.foot_lt c (.inr (.inl rfl))
  clear T hs
  simp only [actV]
  go_enter Try.func20, Try.ntmps20
  go_wp2_with fail
  refine (late_take T1.out.H n).mono ?_
  rintro e w1 ht
  obtain ⟨a1, k1, cc1, ys, qs1, rfl, hy, hq1, hrd, T2, hb, hf1⟩ := take_rd T1.out ht
  have hbox : w1.heap[w.heap.size]? = some (.cells #[.int .i64 2, .int .u64 x.id, .int .u64 x.uid, .int .u32 x.addr, .int .i64 x.port, .int .u64 x.til, .slice qa qn qc, .int .u64 n] 36) := (hf1.block _ (by simp) (by omega)).trans (heap_alloc_new w _)
  obtain ⟨g1, g2⟩ := block_cells hbox
  have hk1 := (ownsRow_cap hrd.1).1
  have Hk1 := Lib.hid hk1
  have HT2 := Lib.hid T2
  have Hrd := Lib.hid hrd
  have Hy := Lib.hid hy
  have Hq1 := Lib.hid hq1
  have Hb := Lib.hid hb
  clear hk1 T2 hrd hy hq1 hb hf1 ht hbox
  go_wp2_with fail
  refine (rtake1_any HT2.out.R n).mono ?_
  rintro e w2 ⟨a2, k2, cc2, out, v2, zs2, rfl, ho, hrd2, R2, hz2, hfo2, hf2⟩
  have hrd12 := Hrd.out.frS hf2 (Hrd.out.notRef HT2.out.R)
  have E := Lib.hid (hrd12.same hrd2 (by rw [Hy.out, ho, Hs.out]))
  have Hrd12 := Lib.hid hrd12
  have HR2 := Lib.hid R2
  have Hz2 := Lib.hid hz2
  have Hfo2 := Lib.hid hfo2
  have Hf2 := Lib.hid hf2
  clear hrd12 ho hrd2 R2 hz2 hfo2 hf2
  go_wp2_with fail
  refine E.out.mono ?_
  rintro e w3 ⟨rfl, hb3⟩
  have Hrd3 := Lib.hid (Hrd12.out.below hb3)
  have Hb3 := Lib.hid hb3
  clear hb3
  go_wp2_with fail
  refine (spoil_any Hrd3.out Hk1.out).mono ?_
  rintro e w4 ⟨rfl, hf4⟩
  have Hf4 := Lib.hid hf4
  clear hf4
  go_wp2_with fail
  go_ret
  exact act_end HT2.out Hs.out Hq1.out Hb.out HR2.out Hz2.out Hfo2.out Hf2.out Hb3.out Hf4.out

set_option maxRecDepth 100000 in
set_option maxHeartbeats 2000000 in
theorem act_take3 {w0 w : World} {h c m p : Nat} {qs zs : List HQ} {v : Value} (T : Pl w0 w h c m qs p v zs) (hs : HQs zs = HQs qs) (q : HQ) (n : Int) :
    Calls Try.prog 20 #[.pointer (some ⟨h, 0, none⟩), .pointer (some ⟨p, 0, none⟩), actV 3 q n] w (ActPost w0 h c m p) := by
  obtain ⟨x, qa, qn, qc⟩ := q
  obtain ⟨r, hr, hrr⟩ := wrap_u32 n
  have T1 := Lib.hid (T.on ((Fr.refl Nob w).alloc (.cells #[.int .i64 3, .int .u64 x.id, .int .u64 x.uid, .int .u32 x.addr, .int .i64 x.port, .int .u64 x.til, .slice qa qn qc, .int .u64 n] 36)))
  have Hs := Lib.hid hs
  have hcw := T.H.foot_lt c (.inr (.inl rfl))
  clear T hs
  simp only [actV]
  go_enter Try.func20, Try.ntmps20
  go_wp2_with fail
  refine (gone_take T1.out.H n).mono ?_
  rintro e w1 ht
  obtain ⟨a1, k1, cc1, ys, qs1, rfl, hy, hq1, hrd, T2, hb, hf1⟩ := take_rd T1.out ht
  have hbox : w1.heap[w.heap.size]? = some (.cells #[.int .i64 3, .int .u64 x.id, .int .u64 x.uid, .int .u32 x.addr, .int .i64 x.port, .int .u64 x.til, .slice qa qn qc, .int .u64 n] 36) := (hf1.block _ (by simp) (by omega)).trans (heap_alloc_new w _)
  obtain ⟨g1, g2⟩ := block_cells hbox
  have hk1 := (ownsRow_cap hrd.1).1
  have Hk1 := Lib.hid hk1
  have HT2 := Lib.hid T2
  have Hrd := Lib.hid hrd
  have Hy := Lib.hid hy
  have Hq1 := Lib.hid hq1
  have Hb := Lib.hid hb
  clear hk1 T2 hrd hy hq1 hb hf1 ht hbox
  go_wp2_with fail
  refine (rtake2_any HT2.out.R n).mono ?_
  rintro e w2 ⟨a2, k2, cc2, out, v2, zs2, rfl, ho, hrd2, R2, hz2, hfo2, hf2⟩
  have hrd12 := Hrd.out.frS hf2 (Hrd.out.notRef HT2.out.R)
  have E := Lib.hid (hrd12.same hrd2 (by rw [Hy.out, ho, Hs.out]))
  have Hrd12 := Lib.hid hrd12
  have HR2 := Lib.hid R2
  have Hz2 := Lib.hid hz2
  have Hfo2 := Lib.hid hfo2
  have Hf2 := Lib.hid hf2
  clear hrd12 ho hrd2 R2 hz2 hfo2 hf2
  go_wp2_with fail
  refine E.out.mono ?_
  rintro e w3 ⟨rfl, hb3⟩
  have Hrd3 := Lib.hid (Hrd12.out.below hb3)
  have Hb3 := Lib.hid hb3
  clear hb3
  go_wp2_with fail
  refine (spoil_any Hrd3.out Hk1.out).mono ?_
  rintro e w4 ⟨rfl, hf4⟩
  have Hf4 := Lib.hid hf4
  clear hf4
  go_wp2_with fail
  go_ret
  exact act_end HT2.out Hs.out Hq1.out Hb.out HR2.out Hz2.out Hfo2.out Hf2.out Hb3.out Hf4.out

end Go.Proofs.Ytokgggcjfhebnaa
