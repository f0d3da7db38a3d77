/-
  Rows of requests that nothing turns while queues are used; and three queues apart.
-/
import Derived.Test.YtokgggcjfhebnaaOnce
set_option linter.unusedVariables false
namespace Go.Proofs.Ytokgggcjfhebnaa
open Go.RowKit Go.Conc

/-- A row of requests, their bytes in whole blocks. -/
def Rd (w : World) (v : Value) (zs : List HQ) : Prop :=
  w.ownsRow 0 34 6 v zs.length (flat zs) ∧ ∀ z ∈ zs, z.x.ok ∧ OwnB w 0 z.s z.x.bs

theorem Rd.fr {w w' : World} {v : Value} {zs : List HQ} (hr : Rd w v zs) {h c m : Nat} {qs : List HQ} (H : HoldAt w h c m qs) (hf : Fr (· = c) w w') : Rd w' v zs :=
  ⟨ownsRow_fr hr.1 hf (own_ne_chan hr.1 H), fun z hz => ⟨(hr.2 z hz).1, ownsRow_fr (hr.2 z hz).2 hf (own_ne_chan (hr.2 z hz).2 H)⟩⟩

theorem Rd.below {w w' : World} {v : Value} {zs : List HQ} (hr : Rd w v zs) (hb : Below w.heap.size w w') : Rd w' v zs :=
  ⟨ownsRow_fr hr.1 (S := fun _ => False) (Fr.of_below hb) (fun _ _ e => e), fun z hz => ⟨(hr.2 z hz).1, ownsRow_fr (hr.2 z hz).2 (S := fun _ => False) (Fr.of_below hb) (fun _ _ e => e)⟩⟩

theorem Rd.helds {w : World} {v : Value} {zs : List HQ} (hr : Rd w v zs) : HeldsR (· < w.heap.size) w v (HQs zs) :=
  helds_of_row hr.1 (fun z hz => ⟨(hr.2 z hz).1, (hr.2 z hz).2.bytesR.mono (fun b hb => ((hr.2 z hz).2.lt b hb).2)⟩)

theorem Rd.same {w : World} {a1 a2 : Option Addr} {n1 c1 n2 c2 : Nat} {xs ys : List HQ} (h1 : Rd w (.slice a1 n1 c1) xs) (h2 : Rd w (.slice a2 n2 c2) ys) (e : HQs xs = HQs ys) :
    Calls Try.prog 12 #[.slice a1 n1 c1, .slice a2 n2 c2] w fun e w' => e = .returned (.bool true) ∧ Below w.heap.size w w' :=
  same_yes h1.helds h2.helds e

def AllRd (w : World) (h c m : Nat) (qs : List HQ) (e : Ending) (w' : World) : Prop :=
  ∃ a n cc ys, e = .returned (.slice a n cc) ∧ HQs ys = HQs qs ∧ Rd w' (.slice a n cc) ys ∧ HoldAt w' h c m qs ∧ Fr (· = c) w w'

theorem all_rd {w : World} {h c m : Nat} {qs : List HQ} (H : HoldAt w h c m qs) :
    Calls Try.prog 10 #[.pointer (some ⟨h, 0, none⟩)] w (AllRd w h c m qs) := by
  refine (all_any H).mono ?_
  rintro e w' ⟨v, ys, rfl, hy, ho, h2, hf⟩
  obtain ⟨a, cc, rfl⟩ := ownsRow_slice ho.row
  refine ⟨a, _, cc, ys, rfl, hy, ⟨ownsRow_mono ho.row (Nat.zero_le _), fun z hz => ?_⟩, h2, hf⟩
  obtain ⟨q, hq, e⟩ := mem_HQs hy hz
  exact ⟨e ▸ (H.ok q hq).1, ownsRow_mono (ho.bytes z hz) (Nat.zero_le _)⟩

def ReadyRd (w : World) (h c m : Nat) (qs : List HQ) (n : Int) (e : Ending) (w' : World) : Prop :=
  ∃ a k cc ys qs', e = .returned (.slice a k cc) ∧ k = ys.length ∧ HQs ys = (HQs qs).filter (fun x => x.addr == n) ∧ HQs qs' = (HQs qs).filter (fun x => !(x.addr == n)) ∧ Rd w' (.slice a k cc) ys ∧ HoldAt w' h c m qs' ∧
    (∀ b, foot h c qs' b → foot h c qs b) ∧ Fr (· = c) w w'

theorem ready_rd {w : World} {h c m : Nat} {qs : List HQ} (H : HoldAt w h c m qs) (n : Int) :
    Calls Try.prog 16 #[.pointer (some ⟨h, 0, none⟩), .int .u32 n] w (ReadyRd w h c m qs n) := by
  refine (ready_take H n).mono ?_
  rintro e w' ⟨a, k, cc, ys, qs', rfl, rfl, h2, h3, h4, h5, hf, h7, h8⟩
  refine ⟨a, _, cc, ys, qs', rfl, rfl, h2, h3, ⟨ownsRow_mono h4 (Nat.zero_le _), fun z hz => ?_⟩, h5, ?_, hf⟩
  · have hq := h7 z (.inr hz)
    exact ⟨(H.ok z hq).1, ownsRow_fr (H.bytes z hq) hf (fun g hg => (H.notChan.2 z hq g hg).1)⟩
  · rintro b (hb | hb | hb)
    · exact .inl hb
    · exact .inr (.inl hb)
    · obtain ⟨v, hv, hb⟩ := mem_blocks.1 hb
      obtain ⟨q, hq, rfl⟩ := List.mem_map.1 hv
      exact .inr (.inr (mem_blocks.2 ⟨_, List.mem_map.2 ⟨q, h7 q (.inl hq), rfl⟩, hb⟩))

/-- Three queues apart. -/
structure Three (w0 w : World) (m h c : Nat) (qs : List HQ) (hx cx : Nat) (xs : List HQ) (hy cy : Nat) (ys : List HQ) (N1 N2 : Nat) : Prop where
  H : HoldAt w h c m qs
  X : HoldAt w hx cx m xs
  Y : HoldAt w hy cy m ys
  hb : ∀ b, foot h c qs b → b < N1
  xb : ∀ b, foot hx cx xs b → N1 ≤ b ∧ b < N2
  yb : ∀ b, foot hy cy ys b → N2 ≤ b
  below : Below w0.heap.size w0 w
  hc : w0.heap.size ≤ c

section
variable {w0 w w' : World} {m h c hx cx hy cy N1 N2 : Nat} {qs xs ys : List HQ} (T : Three w0 w m h c qs hx cx xs hy cy ys N1 N2)
include T

theorem Three.onX {xs' : List HQ} (H : HoldAt w' hx cx m xs') (hs : ∀ b, foot hx cx xs' b → foot hx cx xs b) (hf : Fr (· = cx) w w') : Three w0 w' m h c qs hx cx xs' hy cy ys N1 N2 := by
  have hcx := T.xb cx (.inr (.inl rfl))
  have hcc := T.hb c (.inr (.inl rfl))
  have := T.hc
  refine ⟨T.H.fr hf (fun b hb e => ?_), H, T.Y.fr hf (fun b hb e => ?_), T.hb, fun b hb => T.xb b (hs b hb), T.yb, T.below.trans (hf.below T.below.size (fun i e => ?_)), T.hc⟩
  · have := T.hb b hb; omega
  · have := T.yb b hb; omega
  · omega

theorem Three.onY {ys' : List HQ} (H : HoldAt w' hy cy m ys') (hs : ∀ b, foot hy cy ys' b → foot hy cy ys b) (hf : Fr (· = cy) w w') : Three w0 w' m h c qs hx cx xs hy cy ys' N1 N2 := by
  have hcx := T.xb cx (.inr (.inl rfl))
  have hcy := T.yb cy (.inr (.inl rfl))
  have hcc := T.hb c (.inr (.inl rfl))
  have := T.hc
  refine ⟨T.H.fr hf (fun b hb e => ?_), T.X.fr hf (fun b hb e => ?_), H, T.hb, T.xb, fun b hb => T.yb b (hs b hb), T.below.trans (hf.below T.below.size (fun i e => ?_)), T.hc⟩
  · have := T.hb b hb; omega
  · have := T.xb b hb; omega
  · omega

theorem Three.onH (H : HoldAt w' h c m qs) (hf : Fr (· = c) w w') : Three w0 w' m h c qs hx cx xs hy cy ys N1 N2 := by
  have hcc := T.hb c (.inr (.inl rfl))
  have := T.hc
  have hcx := T.xb cx (.inr (.inl rfl))
  refine ⟨H, T.X.fr hf (fun b hb e => ?_), T.Y.fr hf (fun b hb e => ?_), T.hb, T.xb, T.yb, T.below.trans (hf.below T.below.size (fun i e => ?_)), T.hc⟩
  · have := T.xb b hb; omega
  · have := T.yb b hb; omega
  · omega

theorem Three.on (hb : Below w.heap.size w w') : Three w0 w' m h c qs hx cx xs hy cy ys N1 N2 := by
  have hf : Fr (fun _ => False) w w' := Fr.of_below hb
  exact ⟨T.H.fr hf (fun _ _ e => e), T.X.fr hf (fun _ _ e => e), T.Y.fr hf (fun _ _ e => e), T.hb, T.xb, T.yb, T.below.trans (hb.mono T.below.size), T.hc⟩
end

end Go.Proofs.Ytokgggcjfhebnaa
