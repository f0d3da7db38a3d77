/-
  Has, Put, Len, New of a queue, said of what it holds.
-/
import Derived.Test.YtokgggcjfhebnaaIndex
import Derived.Conc.LoneSelectN
set_option linter.unusedVariables false
namespace Go.Proofs.Ytokgggcjfhebnaa
open Go.RowKit Go.Conc

theorem HoldAt.fr {w w' : World} {h c m : Nat} {qs : List HQ} (H : HoldAt w h c m qs) {S : Nat → Prop} (hf : Fr S w w') (hS : ∀ b, foot h c qs b → ¬ S b) : HoldAt w' h c m qs := by
  obtain ⟨s, r, hc⟩ := H.chan
  have hh : h < w.heap.size := (Array.getElem?_eq_some_iff.1 H.ptr).1
  have hcc : c < w.heap.size := (Array.getElem?_eq_some_iff.1 hc).1
  exact ⟨(hf.block h hh (hS h (.inl rfl))).trans H.ptr, ⟨s, r, (hf.block c hcc (hS c (.inr (.inl rfl)))).trans hc⟩, H.pos, H.most, H.len, H.ok,
    fun q hq => ownsRow_fr (H.bytes q hq) hf (fun g hg => hS g (.inr (.inr (mem_blocks.2 ⟨_, List.mem_map.2 ⟨q, hq, rfl⟩, hg⟩)))), H.dist⟩

theorem HoldAt.foot_lt {w : World} {h c m : Nat} {qs : List HQ} (H : HoldAt w h c m qs) : ∀ b, foot h c qs b → b < w.heap.size := by
  obtain ⟨s, r, hc⟩ := H.chan
  rintro b (rfl | rfl | hb)
  · exact (Array.getElem?_eq_some_iff.1 H.ptr).1
  · exact (Array.getElem?_eq_some_iff.1 hc).1
  · obtain ⟨v, hv, hb⟩ := mem_blocks.1 hb
    obtain ⟨q, hq, rfl⟩ := List.mem_map.1 hv
    exact ((H.bytes q hq).lt b hb).2

/-- New blocks do not touch it. -/
theorem HoldAt.alloc {w : World} {h c m : Nat} {qs : List HQ} (H : HoldAt w h c m qs) (o : Obj) : HoldAt (w.alloc o) h c m qs := H.fr ((Fr.refl (fun _ => False) w).alloc o) (fun _ _ h => h)

theorem any_HQs {qs ys : List HQ} (h : HQs ys = HQs qs) (p : HD → Bool) : ys.any (fun q => p q.x) = qs.any (fun q => p q.x) := by
  have h1 : ∀ l : List HQ, l.any (fun q => p q.x) = (HQs l).any p := fun l => by simp [HQs, List.any_map]; rfl
  rw [h1, h1, h]

theorem mem_HQs {qs ys : List HQ} (h : HQs ys = HQs qs) {q : HQ} (hq : q ∈ ys) : ∃ q' ∈ qs, q'.x = q.x := by
  have : q.x ∈ HQs ys := List.mem_map.2 ⟨q, hq, rfl⟩
  rw [h] at this
  exact List.mem_map.1 this

theorem len_HQs {qs ys : List HQ} (h : HQs ys = HQs qs) : ys.length = qs.length := by
  have := congrArg List.length h
  simpa [HQs] using this

set_option maxHeartbeats 400000 in
theorem has_any {w : World} {h c m : Nat} {qs : List HQ} (H : HoldAt w h c m qs) (n : Int) :
    Calls Try.prog 23 #[.pointer (some ⟨h, 0, none⟩), .int .u32 n] w fun e w' =>
      e = .returned (.bool (qs.any (fun q => q.x.addr == n))) ∧ HoldAt w' h c m qs ∧ Fr (· = c) w w' := by
  have hcall : ∀ args w, (callFunc 36 args).run Try.prog w = .ok (.enter 36 args) w := fun args w => by kernel_rfl
  have HH := Lib.hid H
  have hfl := H.foot_lt
  have hcc := hfl c (.inr (.inl rfl))
  clear H hfl
  go_enter Try.func23, Try.ntmps23
  go_wp2_with fail
  refine (all_any (HH.out.alloc _)).mono ?_
  rintro e w1 ⟨v, ys, rfl, hys, ho, H1, hfr⟩
  obtain ⟨va, vc, rfl⟩ := ownsRow_slice ho.row
  have hd : w1.heap[w.heap.size]? = some (.cells [.int .u32 n].toArray 31 (0, 0)) := (hfr.block _ (by simp) (by omega)).trans (heap_alloc_new w _)
  have Hd := Lib.hid hd
  have Hys := Lib.hid hys
  have Ho := Lib.hid ho
  have H1' := Lib.hid H1
  have Hfr := Lib.hid hfr
  clear hys ho H1 hfr hd
  go_wp2_with fail
  refine (contains_any Ho.out (fun q hq => ?_) ?_ (fun b hb => ?_) Hd.out (has_clos _ n _ _) hcall).mono ?_
  · obtain ⟨q', hq', e⟩ := mem_HQs Hys.out hq
    rw [← e]; exact (HH.out.ok q' hq').2
  · rw [len_HQs Hys.out]; exact Nat.le_trans HH.out.len HH.out.most
  · have := (Ho.out.lt b hb).1; simp at this; omega
  rintro e w2 ⟨rfl, hfr2⟩
  go_wp2
  go_ret
  exact ⟨ret_bool (any_HQs Hys.out (fun x => x.addr == n)), H1'.out.fr hfr2 (fun b hb e => e),
    (((Fr.refl _ w).alloc _).trans' Hfr.out (fun i hi e => e)).trans' hfr2 (fun i hi e => e.elim)⟩

theorem len_any {w : World} {h c m : Nat} {qs : List HQ} (H : HoldAt w h c m qs) :
    Calls Try.prog 14 #[.pointer (some ⟨h, 0, none⟩)] w fun e w' => e = .returned (.int .i64 qs.length) ∧ w = w' := by
  obtain ⟨s, r, hc⟩ := H.chan
  have hcell := H.cell
  have hu : Try.prog.underlying 52 = some (.chan .both 34) := by kernel_rfl
  have hl := fun ty => Go.Conc.run_len_chan (P := Try.prog) 52 ty hu hc
  go_enter Try.func14, Try.ntmps14
  go_wp2_with (go_at_call 27; refine (none_some _ _ _ hcell).mono ?_; rintro e w' ⟨rfl, rfl⟩)
  go_ret
  exact ⟨by simp, rfl⟩

theorem new_no (n : Int) (w : World) (hn : n < 1 ∨ 16 < n) :
    Calls Try.prog 7 #[.int .i64 n] w fun e w' => e = .returned (.tuple #[.pointer none, .int .i64 1]) ∧ w = w' := by
  rcases hn with hn | hn
  · go_enter Try.func7, Try.ntmps7
    go_wp2
    go_ret2
    exact ⟨rfl, rfl⟩
  · have : ¬ n < 1 := by omega
    go_enter Try.func7, Try.ntmps7
    go_wp2
    go_ret2
    exact ⟨rfl, rfl⟩

theorem run_make (n : Nat) (hn : n ≤ 16) (w : World) : (Instr.makeChan 52 (.int .i64 n)).run Try.prog w = .ok (.chan (some w.heap.size)) (w.alloc (.chan n #[] false 0 0 false)) := by
  have hu : Try.prog.underlying 52 = some (.chan .both 34) := by kernel_rfl
  obtain ⟨i, z, hi, _, _, h4, _⟩ := elemHeld.ex
  exact run_makeChan hu hi .i64 n (by omega) (by rw [h4]; omega)

def NewPost (n : Int) (w : World) (e : Ending) (w' : World) : Prop :=
  ∃ h c, e = .returned (.tuple #[.pointer (some ⟨h, 0, none⟩), .int .i64 0]) ∧ HoldAt w' h c n.toNat [] ∧ Below w.heap.size w w' ∧ w.heap.size ≤ c ∧ w.heap.size ≤ h

theorem new_ok (n : Int) (w : World) (h1 : 1 ≤ n) (h2 : n ≤ 16) :
    Calls Try.prog 7 #[.int .i64 n] w (NewPost n w) := by
  obtain ⟨k, rfl⟩ := Int.eq_ofNat_of_zero_le (show 0 ≤ n by omega)
  have hmk := run_make k (by omega)
  go_enter Try.func7, Try.ntmps7
  go_wp2
  go_ret2
  refine ⟨w.heap.size + 1, w.heap.size, rfl, ⟨?_, ⟨0, 0, ?_⟩, by omega, by omega, by simp, by simp, by simp, List.nodup_nil⟩, ((Below.refl _ _).alloc (Nat.le_refl _) _).alloc (by simp) _, Nat.le_refl _, by simp⟩
  · simpa using heap_alloc_new (w.alloc _) _
  · rw [Below.heap_alloc _ _ _ (by simp), heap_alloc_new]; simp

end Go.Proofs.Ytokgggcjfhebnaa
