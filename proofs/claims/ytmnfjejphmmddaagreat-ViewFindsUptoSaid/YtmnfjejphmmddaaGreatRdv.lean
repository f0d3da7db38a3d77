/-
  What is read as data of a view.
-/
import Derived.Test.YtmnfjejphmmddaaGreatRdx
import Derived.Test.YtmnfjejphmmddaaGreatVa
set_option linter.unusedVariables false
set_option linter.unusedSimpArgs false
namespace Go.Proofs.YtmnfjejphmmddaaGreat
open Go.ChangeShapes Go.WideShapes Go.ChangeAt Go.RowKit
def u32Wf (B : Nat) (n : Int) : Prop := Inr .u32 n
def Vw.wf (B : Nat) (c : Vw) : Prop := Inr .u64 c.epoch ∧ c.covers.wf B u32Wf ∧ c.pods.wf B Pod.wf ∧ c.services.wf B Svc.wf ∧ c.bound.wf B Way.wf ∧ c.policies.wf B Pol.wf
theorem Vw.wf.ok {B : Nat} {c : Vw} (h : c.wf B) (hB : B ≤ big) : c.ok := by
  refine ⟨h.2.1.1.le hB, ?_⟩
  have : c.cfg.fits B := ⟨h.2.2.1.1, h.2.2.2.1.1, h.2.2.2.2.1.1, h.2.2.2.2.2.1, fun x hx => (h.2.2.2.2.2.2 x hx).fits⟩
  exact this.le hB
section
variable {H : Type} (enc : TypeId × Value → H) (w : World) (spare : Nat → Bool) (held : Bool) (B : Nat)
variable {enc w spare held B}
theorem rd_u32s : Rd enc w spare held B 24 (fun s => [Sl.d u32C s]) (fun B s => Sl.wf B u32Wf s) :=
  rd_slice (z := 1) Tryz.underlying24 (by kernel_rfl) (by decide) (fun _ => rfl) (rd_int Tryz.underlying52)
theorem rd_Vw : Rd enc w spare held B 30 Vw.c Vw.wf := by
  intro fuel cs y h hB
  obtain ⟨xs, n, rfl, rfl, hl, hx, hf⟩ := DataW.trod_struct Tryz.underlying30 h
  have hl : cs.length = 6 := hl.trans (by kernel_rfl)
  have hx : xs.length = 6 := hx
  obtain ⟨x0, k0, o0⟩ := rd_field hf hB (rd_int (t := 22) Tryz.underlying22) 0 0 1 rfl (by kernel_rfl) (by omega)
  obtain ⟨x1, k1, o1⟩ := rd_field hf hB (rd_u32s) 1 1 1 rfl (by kernel_rfl) (by omega)
  obtain ⟨x2, k2, o2⟩ := rd_field hf hB (rd_Pods) 2 2 1 rfl (by kernel_rfl) (by omega)
  obtain ⟨x3, k3, o3⟩ := rd_field hf hB (rd_Svcs) 3 3 1 rfl (by kernel_rfl) (by omega)
  obtain ⟨x4, k4, o4⟩ := rd_field hf hB (rd_Ways) 4 4 1 rfl (by kernel_rfl) (by omega)
  obtain ⟨x5, k5, o5⟩ := rd_field hf hB (rd_Pols) 5 5 1 rfl (by kernel_rfl) (by omega)
  refine ⟨⟨x0, x1, x2, x3, x4, x5⟩, ?_, ⟨o0, o1, o2, o3, o4, o5⟩⟩
  show DL _ _ ([u64 x0] ++ ([Sl.d u32C x1] ++ ([Sl.d Pod.c x2] ++ ([Sl.d Svc.c x3] ++ ([Sl.d Way.c x4] ++ ([Sl.d Pol.c x5] ++ [])))))) cs
  have a6 : DL (· < w.heap.size) w [] (cs.drop 6) := DL.nil (by omega)
  have a5 := DL.app (cs := cs.drop 5) (n := 1) rfl k5 (by rw [List.drop_drop]; exact a6)
  have a4 := DL.app (cs := cs.drop 4) (n := 1) rfl k4 (by rw [List.drop_drop]; exact a5)
  have a3 := DL.app (cs := cs.drop 3) (n := 1) rfl k3 (by rw [List.drop_drop]; exact a4)
  have a2 := DL.app (cs := cs.drop 2) (n := 1) rfl k2 (by rw [List.drop_drop]; exact a3)
  have a1 := DL.app (cs := cs.drop 1) (n := 1) rfl k1 (by rw [List.drop_drop]; exact a2)
  have a0 := DL.app (cs := cs.drop 0) (n := 1) rfl k0 (by rw [List.drop_drop]; exact a1)
  simpa using a0
end
end Go.Proofs.YtmnfjejphmmddaaGreat
