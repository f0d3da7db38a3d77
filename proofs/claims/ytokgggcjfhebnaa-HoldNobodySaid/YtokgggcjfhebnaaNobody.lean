/-
  HoldNobody: a nil queue, and one that New did not make, takes nothing and has nothing.
-/
import Derived.Test.YtokgggcjfhebnaaAwake2
set_option linter.unusedVariables false
namespace Go.Proofs.Ytokgggcjfhebnaa
open Go.RowKit Go.Conc

/-- No queue: a nil pointer, or a struct whose channel is nil. -/
def NoHold (w : World) (a : Option Addr) : Prop := a = none ∨ ∃ h, a = some ⟨h, 0, none⟩ ∧ h < w.heap.size ∧ w.cell? ⟨h, 0, none⟩ = some (.chan none)

abbrev Non : Nat → Prop := fun _ => False

theorem NoHold.fr {w w' : World} {a : Option Addr} (H : NoHold w a) (hf : Fr Non w w') : NoHold w' a := by
  rcases H with rfl | ⟨h, rfl, hl, hc⟩
  · exact .inl rfl
  · exact .inr ⟨h, rfl, Nat.lt_of_lt_of_le hl hf.size, (hf.cell hl (fun e => e)).trans hc⟩

theorem NoHold.alloc {w : World} {a : Option Addr} (H : NoHold w a) (o : Obj) : NoHold (w.alloc o) a := H.fr ((Fr.refl _ w).alloc o)

theorem none_bad {w : World} {a : Option Addr} (H : NoHold w a) : Calls Try.prog 27 #[.pointer a] w fun e w' => e = .returned (.bool true) ∧ w = w' := by
  rcases H with rfl | ⟨h, rfl, hl, hc⟩
  · exact none_nil w
  · exact none_unmade h w hc

theorem sorts_bad {w : World} {a : Option Addr} (H : NoHold w a) (f : Value) : Calls Try.prog 24 #[.pointer a, f] w fun e w' => e = .returned (.slice none 0 0) ∧ w = w' := by
  have HH := Lib.hid H
  clear H
  go_enter Try.func24, Try.ntmps24
  go_wp2_with (go_at_call 27; refine (none_bad HH.out).mono ?_; rintro e w' ⟨rfl, rfl⟩)
  go_step3
  go_wp2_with (go_at_call 27; refine (none_bad HH.out).mono ?_; rintro e w' ⟨rfl, rfl⟩)
  rw [Exit.noGoto_ret]
  go_ret
  exact ⟨rfl, rfl⟩

theorem all_bad {w : World} {a : Option Addr} (H : NoHold w a) : Calls Try.prog 10 #[.pointer a] w fun e w' => e = .returned (.slice none 0 0) ∧ Fr Non w w' := by
  have HH := Lib.hid H
  clear H
  go_enter Try.func10, Try.ntmps10
  go_wp2_with fail
  refine (sorts_bad (HH.out.alloc _) _).mono ?_
  rintro e w1 ⟨rfl, rfl⟩
  go_wp2_with fail
  go_ret
  exact ⟨rfl, (Fr.refl _ w).alloc _⟩

theorem ready_bad {w : World} {a : Option Addr} (H : NoHold w a) (n : Int) : Calls Try.prog 16 #[.pointer a, .int .u32 n] w fun e w' => e = .returned (.slice none 0 0) ∧ Fr Non w w' := by
  have HH := Lib.hid H
  clear H
  go_enter Try.func16, Try.ntmps16
  go_wp2_with fail
  refine (sorts_bad (HH.out.alloc _) _).mono ?_
  rintro e w1 ⟨rfl, rfl⟩
  go_wp2_with fail
  go_ret
  exact ⟨rfl, (Fr.refl _ w).alloc _⟩

theorem late_bad {w : World} {a : Option Addr} (H : NoHold w a) (n : Int) : Calls Try.prog 19 #[.pointer a, .int .u64 n] w fun e w' => e = .returned (.slice none 0 0) ∧ Fr Non w w' := by
  have HH := Lib.hid H
  clear H
  go_enter Try.func19, Try.ntmps19
  go_wp2_with fail
  refine (sorts_bad (HH.out.alloc _) _).mono ?_
  rintro e w1 ⟨rfl, rfl⟩
  go_wp2_with fail
  go_ret
  exact ⟨rfl, (Fr.refl _ w).alloc _⟩

theorem gone_bad {w : World} {a : Option Addr} (H : NoHold w a) (n : Int) : Calls Try.prog 22 #[.pointer a, .int .u64 n] w fun e w' => e = .returned (.slice none 0 0) ∧ Fr Non w w' := by
  have HH := Lib.hid H
  clear H
  go_enter Try.func22, Try.ntmps22
  go_wp2_with fail
  refine (sorts_bad (HH.out.alloc _) _).mono ?_
  rintro e w1 ⟨rfl, rfl⟩
  go_wp2_with fail
  go_ret
  exact ⟨rfl, (Fr.refl _ w).alloc _⟩

theorem has_bad {w : World} {a : Option Addr} (H : NoHold w a) (n : Int) : Calls Try.prog 23 #[.pointer a, .int .u32 n] w fun e w' => e = .returned (.bool false) ∧ Fr Non w w' := by
  have hcall : ∀ args w, (callFunc 36 args).run Try.prog w = .ok (.enter 36 args) w := fun args w => by kernel_rfl
  have HH := Lib.hid H
  clear H
  go_enter Try.func23, Try.ntmps23
  go_wp2_with fail
  refine (all_bad (HH.out.alloc _)).mono ?_
  rintro e w1 ⟨rfl, hfr⟩
  have hd : w1.heap[w.heap.size]? = some (.cells [.int .u32 n].toArray 31 (0, 0)) := (hfr.block _ (by simp) (fun e => e)).trans (heap_alloc_new w _)
  have Hd := Lib.hid hd
  have Hfr := Lib.hid hfr
  clear hfr hd
  go_wp2_with fail
  refine (contains_any (Owned.nil w1 (w.heap.size + 1)) (fun q hq => absurd hq (List.not_mem_nil)) (by simp) (fun b hb => by simp [blocks, Value.ownBlock] at hb) Hd.out (has_clos _ n _ _) hcall).mono ?_
  rintro e w2 ⟨rfl, hfr2⟩
  go_wp2
  go_ret
  exact ⟨rfl, (((Fr.refl _ w).alloc _).trans Hfr.out).trans hfr2⟩

theorem len_bad {w : World} {a : Option Addr} (H : NoHold w a) : Calls Try.prog 14 #[.pointer a] w fun e w' => e = .returned (.int .i64 0) ∧ w = w' := by
  have HH := Lib.hid H
  clear H
  go_enter Try.func14, Try.ntmps14
  go_wp2_with (go_at_call 27; refine (none_bad HH.out).mono ?_; rintro e w' ⟨rfl, rfl⟩)
  go_ret
  exact ⟨rfl, rfl⟩

theorem copy_bad {w : World} {a : Option Addr} (H : NoHold w a) : Calls Try.prog 15 #[.pointer a] w fun e w' => e = .returned (.pointer none) ∧ w = w' := by
  have HH := Lib.hid H
  clear H
  go_enter Try.func15, Try.ntmps15
  go_wp2_with (go_at_call 27; refine (none_bad HH.out).mono ?_; rintro e w' ⟨rfl, rfl⟩)
  go_ret
  exact ⟨rfl, rfl⟩

theorem put_bad {w : World} {a : Option Addr} (H : NoHold w a) (q : HQ) : Calls Try.prog 11 #[.pointer a, q.v] w fun e w' => e = .returned (.int .i64 1) ∧ Fr Non w w' := by
  obtain ⟨x, qa, n, cc⟩ := q
  have HH := Lib.hid (H.alloc (.cells #[.int .u64 x.id, .int .u64 x.uid, .int .u32 x.addr, .int .i64 x.port, .int .u64 x.til, .slice qa n cc] 34))
  clear H
  simp only [HQ.v]
  go_enter Try.func11, Try.ntmps11
  go_wp2_with (go_at_call 27; refine (none_bad HH.out).mono ?_; rintro e w' ⟨rfl, rfl⟩)
  go_ret
  exact ⟨rfl, (Fr.refl _ w).alloc _⟩

/-- What the loop keeps: the box of the request, and the two places of the row. -/
def NBox (w : World) (bx br : Nat) (q : HQ) : Prop :=
  w.heap[bx]? = some (.cells #[.int .u64 q.x.id, .int .u64 q.x.uid, .int .u32 q.x.addr, .int .i64 q.x.port, .int .u64 q.x.til, q.s] 34) ∧ br < w.heap.size ∧
    ∀ k, k < 2 → ∃ a, w.cell? ⟨br, k, none⟩ = some (.pointer a) ∧ NoHold w a

theorem NBox.fr {w w' : World} {bx br : Nat} {q : HQ} (H : NBox w bx br q) (hf : Fr Non w w') : NBox w' bx br q := by
  obtain ⟨h1, h2, h3⟩ := H
  refine ⟨(hf.block _ (Array.getElem?_eq_some_iff.1 h1).1 (fun e => e)).trans h1, Nat.lt_of_lt_of_le h2 hf.size, fun k hk => ?_⟩
  obtain ⟨a, h4, h5⟩ := h3 k hk
  exact ⟨a, (hf.cell h2 (fun e => e)).trans h4, h5.fr hf⟩

set_option maxRecDepth 100000 in
set_option maxHeartbeats 2000000 in
theorem nobody_any {w : World} (q : HQ) (n : Int) :
    Calls Try.prog 6 #[q.v, .int .u64 n] w fun e w' => e = .returned (.bool true) ∧ Below w.heap.size w w' := by
  obtain ⟨x, qa, qn, qc⟩ := q
  simp only [HQ.v]
  go_enter Try.func6, Try.ntmps6
  go_wp2_with fail
  go_loopg [7] 2 (fun g i wr => ∃ k : Nat, g + k = 2 ∧ i = .int .i64 k ∧ NBox wr w.heap.size (w.heap.size + 1 + 1) ⟨x, qa, qn, qc⟩ ∧ Below w.heap.size w wr)
  case atStart =>
    refine ⟨0, rfl, rfl, ⟨?_, by simp, ?_⟩, ?_⟩
    · rw [Below.heap_alloc _ _ _ (by simp; omega), Below.heap_alloc _ _ _ (by simp), heap_alloc_new]
      rfl
    · intro k hk
      have e : ((((w.alloc (.cells #[.int .u64 x.id, .int .u64 x.uid, .int .u32 x.addr, .int .i64 x.port, .int .u64 x.til, .slice qa qn qc] 34)).alloc (.cells #[.chan none] 54)).alloc (.cells #[.pointer none, .pointer (some ⟨w.heap.size + 1, 0, none⟩)] 23))).heap[w.heap.size + 1 + 1]? = some (.cells #[.pointer none, .pointer (some ⟨w.heap.size + 1, 0, none⟩)] 23 (0, 0)) := by
        simpa using heap_alloc_new ((w.alloc _).alloc _) _
      rw [(block_cells e).1]
      have hk' : k = 0 ∨ k = 1 := by omega
      rcases hk' with rfl | rfl
      · exact ⟨none, rfl, .inl rfl⟩
      · refine ⟨_, rfl, .inr ⟨w.heap.size + 1, rfl, by simp, ?_⟩⟩
        have e1 : ((((w.alloc (.cells #[.int .u64 x.id, .int .u64 x.uid, .int .u32 x.addr, .int .i64 x.port, .int .u64 x.til, .slice qa qn qc] 34)).alloc (.cells #[.chan none] 54)).alloc (.cells #[.pointer none, .pointer (some ⟨w.heap.size + 1, 0, none⟩)] 23))).heap[w.heap.size + 1]? = some (.cells #[.chan none] 54 (0, 0)) := by
          rw [Below.heap_alloc _ _ _ (by simp)]
          simpa using heap_alloc_new (w.alloc _) _
        rw [(block_cells e1).1]
        rfl
    · exact (((Below.refl _ _).alloc (Nat.le_refl _) _).alloc (by simp) _).alloc (by simp; omega) _
  case round =>
    obtain ⟨k, hgk, rfl, hN, hB⟩ := hrel
    have HN := Lib.hid hN
    have HB := Lib.hid hB
    have Hgk := Lib.hid hgk
    clear hN hB
    by_cases hlt : k < 2
    · obtain ⟨a, hcell, hno⟩ := HN.out.2.2 k hlt
      have hbr := HN.out.2.1
      obtain ⟨g1, g2⟩ := block_cells HN.out.1
      have Hno := Lib.hid hno
      clear hno hgk
      go_wp2_with fail
      refine (put_bad Hno.out ⟨x, qa, qn, qc⟩).mono ?_
      rintro e w1 ⟨rfl, hf1⟩
      have N1 := Lib.hid (HN.out.fr hf1)
      have O1 := Lib.hid (Hno.out.fr hf1)
      have F1 := Lib.hid hf1
      obtain ⟨g11, g12⟩ := block_cells N1.out.1
      clear hf1
      go_wp2_with fail
      refine (ready_bad O1.out _).mono ?_
      rintro e w2 ⟨rfl, hf2⟩
      have O2 := Lib.hid (O1.out.fr hf2)
      have F2 := Lib.hid (F1.out.trans hf2)
      clear hf2
      go_wp2_with fail
      refine (late_bad O2.out _).mono ?_
      rintro e w3 ⟨rfl, hf3⟩
      have O3 := Lib.hid (O2.out.fr hf3)
      have F3 := Lib.hid (F2.out.trans hf3)
      clear hf3
      go_wp2_with fail
      refine (gone_bad O3.out _).mono ?_
      rintro e w4 ⟨rfl, hf4⟩
      have O4 := Lib.hid (O3.out.fr hf4)
      have F4 := Lib.hid (F3.out.trans hf4)
      clear hf4
      go_wp2_with fail
      refine (all_bad O4.out).mono ?_
      rintro e w5 ⟨rfl, hf5⟩
      have O5 := Lib.hid (O4.out.fr hf5)
      have F5 := Lib.hid (F4.out.trans hf5)
      obtain ⟨g51, g52⟩ := block_cells (HN.out.fr F5.out).1
      clear hf5
      go_wp2_with fail
      refine (has_bad O5.out _).mono ?_
      rintro e w6 ⟨rfl, hf6⟩
      have O6 := Lib.hid (O5.out.fr hf6)
      have F6 := Lib.hid (F5.out.trans hf6)
      clear hf6
      go_wp2_with fail
      refine (len_bad O6.out).mono ?_
      rintro e w7 ⟨rfl, rfl⟩
      go_wp2_with fail
      refine (copy_bad O6.out).mono ?_
      rintro e w8 ⟨rfl, rfl⟩
      go_wp2_with fail
      go_roundg (gk - 1)
      case measure => have := Hgk.out; omega
      case rel => exact ⟨k + 1, by have := Hgk.out; omega, by go_num, HN.out.fr F6.out, HB.out.trans (F6.out.below HB.out.size (fun _ e => e.elim))⟩
    · go_wp2_with fail
      refine (awake_any _).mono ?_
      rintro e w2 ⟨rfl, hb2⟩
      go_wp2
      go_ret
      exact ⟨rfl, HB.out.trans (hb2.mono HB.out.size)⟩

end Go.Proofs.Ytokgggcjfhebnaa
