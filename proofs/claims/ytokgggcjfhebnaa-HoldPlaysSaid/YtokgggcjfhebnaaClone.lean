/-
  A slice of bytes is cloned: nil for nil, else bytes in memory of their own that read the same.
-/
import Derived.Test.YtokgggcjfhebnaaHeld
import Derived.Deep.AppendSrc
import Derived.Deep.DeepMust
namespace Go.Proofs.Ytokgggcjfhebnaa
open Go.RowKit

set_option maxHeartbeats 400000 in
theorem clone_any (a : Option Addr) (n c : Nat) (l : List UInt8) (w : World) (S : Nat → Prop) (h : BytesR S w (.slice a n c) l) (hl : l.length ≤ 70000000000000) :
    Calls Try.prog 37 #[.slice a n c] w fun e w' => ∃ v, e = .returned v ∧ OwnB w' w.heap.size v l ∧ Below w.heap.size w w' := by
  obtain ⟨rfl, hc, hm⟩ := h.nonempty
  cases a with
  | none =>
    have hn : l = [] := by
      obtain ⟨a', c', e, h1, h2, h3, h4⟩ := h
      cases e
      cases l with
      | nil => rfl
      | cons x y => obtain ⟨b, o, e, _⟩ := h4 (by simp); cases e
    subst hn
    have he := Lib.run_eql_slice_nil (P := Try.prog) w 32 5 none 0 c 0 0 (by kernel_rfl)
    go_enter Try.func37, Try.ntmps37
    go_wp2
    go_ret
    exact ⟨_, rfl, World.ownsRow_nil _ _ _ _, Below.refl _ _⟩
  | some a =>
    have hcells := h.cells
    have he := Lib.run_eql_slice_nil (P := Try.prog) w 32 5 (some a) l.length c 0 0 (by kernel_rfl)
    go_enter Try.func37, Try.ntmps37
    obtain ⟨i0, hi, hz0, hz1, hz2⟩ := info_parts u8_info
    have u32 : Try.prog.underlying 32 = some (.slice 5) := by kernel_rfl
    have x0 : (l.map fun b => Value.int .u8 b.toNat).length = l.length * 1 := by simp
    have x1 : ∀ u ∈ (l.map fun b => Value.int .u8 b.toNat), u.oneCell' = true := by
      intro u hu
      obtain ⟨_, _, rfl⟩ := List.mem_map.1 hu
      rfl
    have x2 : 0 + l.length ≤ maxLen := by simp only [maxLen]; omega
    have x3 : (0 + l.length) * 1 ≤ 140737488355328 := by omega
    have X0 := Lib.hid x0
    have X1 := Lib.hid x1
    have X2 := Lib.hid x2
    have X3 := Lib.hid x3
    have XC := Lib.hid hcells
    clear x0 x1 x2 x3 hcells
    go_wp2_with (at_builtin; refine wpList_append_own _ rfl (.tmp 5) (.tmp 6) 32 rfl w.heap.size 5 i0 (.int .u8 0) 1 1 u32 hi hz0 hz1 hz2 rfl (by decide) (.slice (some ⟨w.heap.size, 0, none⟩) 0 0) 0 [] rfl (World.ownsRow_made w #[] 0 (Nat.le_refl _) (by simp [maxLen]) rfl) a l.length c (l.map fun b => .int .u8 b.toNat) rfl X0.out (fun j u hu => Lib.cell?_alloc_some _ (XC.out j u hu)) X1.out X2.out X3.out (by simp) ?_; intro v' w1 hown' hgrow _)
    go_ret
    refine ⟨v', rfl, ?_, (((Below.refl _ _).alloc (Nat.le_refl _) _).grown hgrow (by simp) ?_)⟩
    · simpa [OwnB] using hown'
    · intro k hk
      cases hk
      exact Nat.le_refl _

end Go.Proofs.Ytokgggcjfhebnaa
