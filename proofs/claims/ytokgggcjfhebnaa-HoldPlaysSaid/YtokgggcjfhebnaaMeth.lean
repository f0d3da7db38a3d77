/-
  The queue's methods, said of what it holds.
-/
import Derived.Test.YtokgggcjfhebnaaAll
set_option linter.unusedVariables false
namespace Go.Proofs.Ytokgggcjfhebnaa
open Go.RowKit Go.Conc

/-- A queue that New made: its pointer h, its channel c, how many it takes, what it holds: each with bytes in a block of its own, from B on; none of these blocks is of X. -/
structure HoldAt (w : World) (h c m : Nat) (qs : List HQ) : Prop where
  ptr : w.heap[h]? = some (.cells #[.chan (some c)] 54 (0, 0))
  chan : ∃ s r, w.heap[c]? = some (.chan m (qs.map HQ.v).toArray false s r false)
  pos : 1 ≤ m
  most : m ≤ 16
  len : qs.length ≤ m
  ok : ∀ q ∈ qs, q.x.ok ∧ q.x.bs.length ≤ 4096
  bytes : ∀ q ∈ qs, OwnB w 0 q.s q.x.bs
  dist : (blocks (qs.map HQ.s)).Nodup

def HQs (qs : List HQ) : List HD := qs.map (·.x)

/-- The blocks of a queue. -/
def foot (h c : Nat) (qs : List HQ) (b : Nat) : Prop := b = h ∨ b = c ∨ b ∈ blocks (qs.map HQ.s)

theorem OwnB.bytesR {w : World} {B : Nat} {q : HQ} (h : OwnB w B q.s q.x.bs) : BytesR (fun b => q.s.ownBlock = some b) w q.s q.x.bs := by
  have hc := fun g hg => h.cells (g := g) hg
  obtain ⟨q1, q2⟩ := h
  rcases q2 with ⟨e, e2⟩ | ⟨g, cap, cur, e, hg, hh, hn, hm, r'⟩
  · rw [e]
    refine ⟨none, 0, by rw [e2], by omega, by simp [maxLen], fun _ => rfl, fun h0 => by omega⟩
  · rw [e] at hc ⊢
    refine ⟨_, _, rfl, hn, hm, (fun e => by cases e), fun h0 => ⟨g, 0, rfl, rfl, fun i hi => ⟨[.int .u8 q.x.bs[i].toNat], ?_, rfl⟩⟩⟩
    intro j hj
    simp at hj
    subst hj
    have := hc g rfl i (.int .u8 q.x.bs[i].toNat) (by simp [hi])
    simp only [u8R, Nat.mul_one, Nat.add_zero, Nat.zero_add, List.getElem_cons_zero]
    rw [← this]
    unfold Addr.add
    split <;> simp_all

theorem HoldAt.notChan {w : World} {h c m : Nat} {qs : List HQ} (H : HoldAt w h c m qs) : h ≠ c ∧ (∀ q ∈ qs, ∀ b, q.s.ownBlock = some b → b ≠ c ∧ b < w.heap.size) := by
  obtain ⟨s, r, hc⟩ := H.chan
  constructor
  · rintro rfl
    have := H.ptr
    rw [hc] at this
    cases this
  · intro q hq b hb
    refine ⟨?_, ((H.bytes q hq).lt b hb).2⟩
    rintro rfl
    rcases (H.bytes q hq).2 with ⟨e, _⟩ | ⟨g, cap, cur, e, hg, hh, _⟩
    · rw [e] at hb; cases hb
    · rw [e] at hb
      simp [Value.ownBlock] at hb
      subst hb
      rw [hc] at hh
      cases hh

theorem HoldAt.cell {w : World} {h c m : Nat} {qs : List HQ} (H : HoldAt w h c m qs) : w.cell? ⟨h, 0, none⟩ = some (.chan (some c)) := cell_of_one H.ptr

theorem all_any {w : World} {h c m : Nat} {qs : List HQ} (H : HoldAt w h c m qs) :
    Calls Try.prog 10 #[.pointer (some ⟨h, 0, none⟩)] w fun e w' =>
      ∃ v ys, e = .returned v ∧ HQs ys = HQs qs ∧ Owned w' w.heap.size v ys ∧ HoldAt w' h c m qs ∧ Fr (· = c) w w' := by
  obtain ⟨s, r, hc⟩ := H.chan
  have hcell := H.cell
  have hcall : ∀ args w, (callFunc 25 args).run Try.prog w = .ok (.enter 25 args) w := fun args w => by kernel_rfl
  have hh : h < w.heap.size := (Array.getElem?_eq_some_iff.1 H.ptr).1
  have hcc : c < w.heap.size := (Array.getElem?_eq_some_iff.1 hc).1
  have hnc := H.notChan
  go_enter Try.func10, Try.ntmps10
  go_wp2_with fail
  refine (sorts_any h c m w.heap.size 25 qs (fun _ => false) (JAll w.heap.size) (fun b => b = w.heap.size) _ s r ?_ ?_ H.most H.len ?_ ?_ (by omega) (by omega) (JAll.ok _) (all_clos _) hcall).mono ?_
  · simpa [go_sem, hh] using hcell
  · rw [Below.heap_alloc _ _ _ hcc]; exact hc
  · intro q hq
    refine ⟨?_, (H.ok q hq).2⟩
    refine ((H.bytes q hq).bytesR.keep (fun b hb => Below.heap_alloc _ _ _ (hnc.2 q hq b hb).2)).mono (fun b hb => ?_)
    have := hnc.2 q hq b hb
    simp
    omega
  · exact ⟨.slice none 0 0, [], fun b => by simp [blocks, Value.ownBlock], heap_alloc_new w _, rfl, Owned.nil _ _⟩
  rintro e w1 ⟨out, s', r', F', rfl, -, hch, ⟨v, ys, hF, hd, hx, ho⟩, hfr, -, -⟩
  have hd1 := cell_of_one hd
  go_wp2
  go_ret
  have hfr' : Fr (· = c) w w1 := ((Fr.refl (· = c) w).alloc _).trans' hfr (fun i hi e => by rcases e with e | e; exact e; omega)
  refine ⟨v, ys, rfl, hx, ho.mono (Nat.le_succ _), ⟨(hfr'.block h hh hnc.1).trans H.ptr, ⟨s', r', by have e : qs.filter (fun _ => true) = qs := List.filter_eq_self.2 (fun _ _ => rfl); simpa [e] using hch⟩, H.pos, H.most, H.len, H.ok, fun q hq => ownsRow_fr (H.bytes q hq) hfr' (fun g hg => (hnc.2 q hq g hg).1), H.dist⟩, hfr'⟩

/-- Ready, Late, Gone: what is taken out, and what stays. -/
theorem taken_of {w w1 : World} {h c m : Nat} {qs : List HQ} {p : HD → Bool} {s' r' : Nat} (H : HoldAt w h c m qs) (hch : w1.heap[c]? = some (.chan m ((qs.filter (!p ·.x)).map HQ.v).toArray false s' r' false)) (hfr : Fr (· = c) w w1) :
    HoldAt w1 h c m (qs.filter (!p ·.x)) := by
  have hnc := H.notChan
  have hh : h < w.heap.size := (Array.getElem?_eq_some_iff.1 H.ptr).1
  have hmem : ∀ q ∈ qs.filter (!p ·.x), q ∈ qs := fun q hq => (List.mem_filter.1 hq).1
  refine ⟨(hfr.block h hh hnc.1).trans H.ptr, ⟨s', r', hch⟩, H.pos, H.most, Nat.le_trans (List.length_filter_le _ _) H.len, fun q hq => H.ok q (hmem q hq),
    fun q hq => ownsRow_fr (H.bytes q (hmem q hq)) hfr (fun g hg => (hnc.2 q (hmem q hq) g hg).1), ?_⟩
  refine List.Nodup.sublist ?_ H.dist
  exact ((List.filter_sublist (l := qs)).map HQ.s).filterMap _

set_option maxHeartbeats 400000 in
theorem ready_any {w : World} {h c m : Nat} {qs : List HQ} (H : HoldAt w h c m qs) (n : Int) :
    Calls Try.prog 16 #[.pointer (some ⟨h, 0, none⟩), .int .u32 n] w fun e w' =>
      ∃ v, e = .returned v ∧ w'.ownsRow w.heap.size 34 6 v (qs.filter (·.x.addr == n)).length (flat (qs.filter (·.x.addr == n))) ∧ HoldAt w' h c m (qs.filter (!·.x.addr == n)) ∧ Fr (· = c) w w' := by
  obtain ⟨s, r, hc⟩ := H.chan
  have hcell := H.cell
  have hcall : ∀ args w, (callFunc 30 args).run Try.prog w = .ok (.enter 30 args) w := fun args w => by kernel_rfl
  have hh : h < w.heap.size := (Array.getElem?_eq_some_iff.1 H.ptr).1
  have hcc : c < w.heap.size := (Array.getElem?_eq_some_iff.1 hc).1
  have hnc := H.notChan
  go_enter Try.func16, Try.ntmps16
  go_wp2_with fail
  refine (sorts_any h c m w.heap.size 30 qs (fun x => x.addr == n) (JCell w.heap.size (.cells [.int .u32 n].toArray 31 (0, 0))) (· = w.heap.size) _ s r ?_ ?_ H.most H.len ?_ ?_ (by omega) (by omega) (JCell.ok _ _) (ready_clos _ _ _ _) hcall).mono ?_
  · simpa [go_sem, hh] using hcell
  · rw [Below.heap_alloc _ _ _ hcc]; exact hc
  · intro q hq
    refine ⟨?_, (H.ok q hq).2⟩
    refine ((H.bytes q hq).bytesR.keep (fun b hb => Below.heap_alloc _ _ _ (hnc.2 q hq b hb).2)).mono (fun b hb => ?_)
    have := hnc.2 q hq b hb
    simp
    omega
  · exact ⟨rfl, heap_alloc_new w _⟩
  rintro e w1 ⟨out, s', r', F', rfl, hown, hch, -, hfr, -, -⟩
  go_wp2
  go_ret
  have hfr' : Fr (· = c) w w1 := ((Fr.refl (· = c) w).alloc _).trans' hfr (fun i hi e => by rcases e with e | e; exact e; omega)
  exact ⟨out, rfl, ownsRow_mono hown (by simp), taken_of (p := fun x => x.addr == n) H hch hfr', hfr'⟩

set_option maxHeartbeats 400000 in
theorem late_any {w : World} {h c m : Nat} {qs : List HQ} (H : HoldAt w h c m qs) (n : Int) :
    Calls Try.prog 19 #[.pointer (some ⟨h, 0, none⟩), .int .u64 n] w fun e w' =>
      ∃ v, e = .returned v ∧ w'.ownsRow w.heap.size 34 6 v (qs.filter (fun q => decide (q.x.til ≤ n))).length (flat (qs.filter (fun q => decide (q.x.til ≤ n)))) ∧ HoldAt w' h c m (qs.filter (fun q => !decide (q.x.til ≤ n))) ∧ Fr (· = c) w w' := by
  obtain ⟨s, r, hc⟩ := H.chan
  have hcell := H.cell
  have hcall : ∀ args w, (callFunc 31 args).run Try.prog w = .ok (.enter 31 args) w := fun args w => by kernel_rfl
  have hh : h < w.heap.size := (Array.getElem?_eq_some_iff.1 H.ptr).1
  have hcc : c < w.heap.size := (Array.getElem?_eq_some_iff.1 hc).1
  have hnc := H.notChan
  go_enter Try.func19, Try.ntmps19
  go_wp2_with fail
  refine (sorts_any h c m w.heap.size 31 qs (fun x => decide (x.til ≤ n)) (JCell w.heap.size (.cells [.int .u64 n].toArray 30 (0, 0))) (· = w.heap.size) _ s r ?_ ?_ H.most H.len ?_ ?_ (by omega) (by omega) (JCell.ok _ _) (late_clos _ _ _ _) hcall).mono ?_
  · simpa [go_sem, hh] using hcell
  · rw [Below.heap_alloc _ _ _ hcc]; exact hc
  · intro q hq
    refine ⟨?_, (H.ok q hq).2⟩
    refine ((H.bytes q hq).bytesR.keep (fun b hb => Below.heap_alloc _ _ _ (hnc.2 q hq b hb).2)).mono (fun b hb => ?_)
    have := hnc.2 q hq b hb
    simp
    omega
  · exact ⟨rfl, heap_alloc_new w _⟩
  rintro e w1 ⟨out, s', r', F', rfl, hown, hch, -, hfr, -, -⟩
  go_wp2
  go_ret
  have hfr' : Fr (· = c) w w1 := ((Fr.refl (· = c) w).alloc _).trans' hfr (fun i hi e => by rcases e with e | e; exact e; omega)
  exact ⟨out, rfl, ownsRow_mono hown (by simp), taken_of (p := fun x => decide (x.til ≤ n)) H hch hfr', hfr'⟩

set_option maxHeartbeats 400000 in
theorem gone_any {w : World} {h c m : Nat} {qs : List HQ} (H : HoldAt w h c m qs) (n : Int) :
    Calls Try.prog 22 #[.pointer (some ⟨h, 0, none⟩), .int .u64 n] w fun e w' =>
      ∃ v, e = .returned v ∧ w'.ownsRow w.heap.size 34 6 v (qs.filter (·.x.uid == n)).length (flat (qs.filter (·.x.uid == n))) ∧ HoldAt w' h c m (qs.filter (!·.x.uid == n)) ∧ Fr (· = c) w w' := by
  obtain ⟨s, r, hc⟩ := H.chan
  have hcell := H.cell
  have hcall : ∀ args w, (callFunc 35 args).run Try.prog w = .ok (.enter 35 args) w := fun args w => by kernel_rfl
  have hh : h < w.heap.size := (Array.getElem?_eq_some_iff.1 H.ptr).1
  have hcc : c < w.heap.size := (Array.getElem?_eq_some_iff.1 hc).1
  have hnc := H.notChan
  go_enter Try.func22, Try.ntmps22
  go_wp2_with fail
  refine (sorts_any h c m w.heap.size 35 qs (fun x => x.uid == n) (JCell w.heap.size (.cells [.int .u64 n].toArray 30 (0, 0))) (· = w.heap.size) _ s r ?_ ?_ H.most H.len ?_ ?_ (by omega) (by omega) (JCell.ok _ _) (gone_clos _ _ _ _) hcall).mono ?_
  · simpa [go_sem, hh] using hcell
  · rw [Below.heap_alloc _ _ _ hcc]; exact hc
  · intro q hq
    refine ⟨?_, (H.ok q hq).2⟩
    refine ((H.bytes q hq).bytesR.keep (fun b hb => Below.heap_alloc _ _ _ (hnc.2 q hq b hb).2)).mono (fun b hb => ?_)
    have := hnc.2 q hq b hb
    simp
    omega
  · exact ⟨rfl, heap_alloc_new w _⟩
  rintro e w1 ⟨out, s', r', F', rfl, hown, hch, -, hfr, -, -⟩
  go_wp2
  go_ret
  have hfr' : Fr (· = c) w w1 := ((Fr.refl (· = c) w).alloc _).trans' hfr (fun i hi e => by rcases e with e | e; exact e; omega)
  exact ⟨out, rfl, ownsRow_mono hown (by simp), taken_of (p := fun x => x.uid == n) H hch hfr', hfr'⟩

end Go.Proofs.Ytokgggcjfhebnaa
