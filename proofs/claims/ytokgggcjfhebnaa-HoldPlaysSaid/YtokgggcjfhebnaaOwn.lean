/-
  A request in memory of its own: the same numbers, the same bytes, the bytes in new memory; nothing that was there turns.
-/
import Derived.Test.YtokgggcjfhebnaaClone
namespace Go.Proofs.Ytokgggcjfhebnaa
open Go.RowKit

theorem ownsRow_shape {w : World} {base : Nat} {e : TypeId} {size : Nat} {v : Value} {n : Nat} {xs : List Value} (h : w.ownsRow base e size v n xs) : ∃ a n' c, v = .slice a n' c := by
  rcases h.2 with ⟨rfl, _⟩ | ⟨g, cap, cur, rfl, _⟩
  · exact ⟨_, _, _, rfl⟩
  · exact ⟨_, _, _, rfl⟩

theorem ownsRow_mono {w : World} {base base' : Nat} {e : TypeId} {size : Nat} {v : Value} {n : Nat} {xs : List Value} (h : w.ownsRow base e size v n xs) (hb : base' ≤ base) : w.ownsRow base' e size v n xs := by
  obtain ⟨h1, h2⟩ := h
  refine ⟨h1, ?_⟩
  rcases h2 with h2 | ⟨g, cap, cur, hv, hg, r⟩
  · exact .inl h2
  · exact .inr ⟨g, cap, cur, hv, Nat.le_trans hb hg, r⟩

set_option maxHeartbeats 400000 in
theorem own_any (q : HQ) (w : World) (S : Nat → Prop) (hS : ∀ b, S b → b < w.heap.size) (h : BytesR S w q.s q.x.bs) (hl : q.x.bs.length ≤ 70000000000000) :
    Calls Try.prog 26 #[q.v] w fun e w' => ∃ q' : HQ, e = .returned q'.v ∧ q'.x = q.x ∧ OwnB w' w.heap.size q'.s q.x.bs ∧ Below w.heap.size w w' := by
  obtain ⟨x, a, n, c⟩ := q
  simp only [HQ.s, HQ.v] at *
  have H := Lib.hid h
  clear h
  go_enter Try.func26, Try.ntmps26
  go_wp2_with fail
  refine (clone_any _ _ _ x.bs _ S ((H.out.keep (agree_alloc hS _)).keep (agree_alloc (fun b hb => by have := hS b hb; simp; omega) _)) hl).mono ?_
  rintro e w1 ⟨v, rfl, hown, hb⟩
  obtain ⟨a', n', c', rfl⟩ := ownsRow_shape hown
  have g0 : w1.heap[w.heap.size]? = some (.cells #[.int .u64 x.id, .int .u64 x.uid, .int .u32 x.addr, .int .i64 x.port, .int .u64 x.til, .slice a n c] 34) := by
    rw [hb.block _ (by simp; omega), Below.heap_alloc _ _ _ (by simp), heap_alloc_new]
  have g1 : w1.heap[w.heap.size + 1]? = some (.cells #[.int .u64 0, .int .u64 0, .int .u32 0, .int .i64 0, .int .u64 0, .slice none 0 0] 34) := by
    rw [hb.block _ (by simp)]; simpa using heap_alloc_new (w.alloc _) _
  obtain ⟨g2, g3⟩ := block_cells g0
  obtain ⟨g4, g5⟩ := block_cells g1
  clear g0 g1
  have hz := hb.size
  simp at hz
  go_wp2
  refine bodyPost_ret (v := .agg #[.int .u64 x.id, .int .u64 x.uid, .int .u32 x.addr, .int .i64 x.port, .int .u64 x.til, .slice a' n' c']) (by simp [results, Try.results26, go_sem, g4]) rfl ⟨⟨x, a', n', c'⟩, rfl, rfl, ?_, ?_⟩
  · refine ownsRow_mono (base := w.heap.size + 1 + 1) ?_ (by omega)
    have hown' : w1.ownsRow (w.heap.size + 1 + 1) 5 1 (.slice a' n' c') x.bs.length (x.bs.map fun b => .int .u8 b.toNat) := by simpa [OwnB] using hown
    repeat (refine ownsRow_setCell_below ?_ (by dsimp only; omega) _)
    exact hown'
  · repeat (refine Below.setCell ?_ (by dsimp only; omega) _)
    exact (((Below.refl _ _).alloc (Nat.le_refl _) _).alloc (by simp) _).trans (hb.mono (by simp; omega))

end Go.Proofs.Ytokgggcjfhebnaa
