/-
  The small functions that are handed to sorts: what each answers; that each but the one of All turns nothing.
-/
import Derived.Test.YtokgggcjfhebnaaOwn
import Derived.Test.YtokgggcjfhebnaaComm
namespace Go.Proofs.Ytokgggcjfhebnaa
open Go.RowKit

/-- What is asked of a function value that captured the variable d: of each request it answers p, and what is known of the ones that it saw (J) goes on. -/
def ClosOk (f d : Nat) (p : HD → Bool) (J : List HQ → (Nat → Prop) → World → Prop) : Prop :=
  ∀ (l : List HQ) (F : Nat → Prop) (w : World) (q : HQ), J l F w → l.length ≤ 16 → BytesR (· < w.heap.size) w q.s q.x.bs → q.x.bs.length ≤ 4096 →
    Calls Try.prog f #[q.v, .pointer (some ⟨d, 0, none⟩)] w fun e w' => e = .returned (.bool (p q.x)) ∧ ∃ F', J (l ++ [q]) F' w' ∧ Fr F w w' ∧ (∀ b, F' b → F b ∨ w.heap.size ≤ b)

/-- What is asked of J. -/
structure JOk (J : List HQ → (Nat → Prop) → World → Prop) : Prop where
  keep : ∀ {l F w w'}, J l F w → Agree F w w' → w.heap.size ≤ w'.heap.size → J l F w'
  lt : ∀ {l F w}, J l F w → ∀ b, F b → b < w.heap.size

/-- The block d is o; nothing else is known. -/
def JCell (d : Nat) (o : Obj) (_ : List HQ) (F : Nat → Prop) (w : World) : Prop := F = (· = d) ∧ w.heap[d]? = some o

theorem JCell.ok (d : Nat) (o : Obj) : JOk (JCell d o) where
  keep := by rintro l F w w' ⟨rfl, h⟩ ha _; exact ⟨rfl, (ha d rfl).trans h⟩
  lt := by
    rintro l F w ⟨rfl, h⟩ b rfl
    exact (Array.getElem?_eq_some_iff.1 h).1

theorem ready_clos (d : Nat) (n : Int) (cs : List Value) (e : TypeId) : ClosOk 30 d (fun x => x.addr == n) (JCell d (.cells (.int .u32 n :: cs).toArray e (0, 0))) := by
  rintro l F w ⟨x, a, k, c⟩ ⟨rfl, hdo⟩ - - -
  have hlt : d < w.heap.size := (Array.getElem?_eq_some_iff.1 hdo).1
  have hd : w.cell? ⟨d, 0, none⟩ = some (.int .u32 n) := by simp [World.cell?, hdo]
  have Hdo := Lib.hid hdo
  clear hdo
  simp only [HQ.v]
  go_enter Try.func30, Try.ntmps30
  go_wp2
  go_ret
  exact ⟨rfl, _, ⟨rfl, (Below.heap_alloc _ _ _ hlt).trans Hdo.out⟩, (Fr.refl _ _).alloc _, fun b hb => .inl hb⟩

theorem late_clos (d : Nat) (n : Int) (cs : List Value) (e : TypeId) : ClosOk 31 d (fun x => decide (x.til ≤ n)) (JCell d (.cells (.int .u64 n :: cs).toArray e (0, 0))) := by
  rintro l F w ⟨x, a, k, c⟩ ⟨rfl, hdo⟩ - - -
  have hlt : d < w.heap.size := (Array.getElem?_eq_some_iff.1 hdo).1
  have hd : w.cell? ⟨d, 0, none⟩ = some (.int .u64 n) := by simp [World.cell?, hdo]
  have Hdo := Lib.hid hdo
  clear hdo
  simp only [HQ.v]
  go_enter Try.func31, Try.ntmps31
  go_wp2
  go_ret
  exact ⟨rfl, _, ⟨rfl, (Below.heap_alloc _ _ _ hlt).trans Hdo.out⟩, (Fr.refl _ _).alloc _, fun b hb => .inl hb⟩

theorem gone_clos (d : Nat) (n : Int) (cs : List Value) (e : TypeId) : ClosOk 35 d (fun x => x.uid == n) (JCell d (.cells (.int .u64 n :: cs).toArray e (0, 0))) := by
  rintro l F w ⟨x, a, k, c⟩ ⟨rfl, hdo⟩ - - -
  have hlt : d < w.heap.size := (Array.getElem?_eq_some_iff.1 hdo).1
  have hd : w.cell? ⟨d, 0, none⟩ = some (.int .u64 n) := by simp [World.cell?, hdo]
  have Hdo := Lib.hid hdo
  clear hdo
  simp only [HQ.v]
  go_enter Try.func35, Try.ntmps35
  go_wp2
  go_ret
  exact ⟨rfl, _, ⟨rfl, (Below.heap_alloc _ _ _ hlt).trans Hdo.out⟩, (Fr.refl _ _).alloc _, fun b hb => .inl hb⟩

theorem has_clos (d : Nat) (n : Int) (cs : List Value) (e : TypeId) : ClosOk 36 d (fun x => x.addr == n) (JCell d (.cells (.int .u32 n :: cs).toArray e (0, 0))) := by
  rintro l F w ⟨x, a, k, c⟩ ⟨rfl, hdo⟩ - - -
  have hlt : d < w.heap.size := (Array.getElem?_eq_some_iff.1 hdo).1
  have hd : w.cell? ⟨d, 0, none⟩ = some (.int .u32 n) := by simp [World.cell?, hdo]
  have Hdo := Lib.hid hdo
  clear hdo
  simp only [HQ.v]
  go_enter Try.func36, Try.ntmps36
  go_wp2
  go_ret
  exact ⟨rfl, _, ⟨rfl, (Below.heap_alloc _ _ _ hlt).trans Hdo.out⟩, (Fr.refl _ _).alloc _, fun b hb => .inl hb⟩

theorem put_clos (d : Nat) (n : Int) (cs : List Value) (e : TypeId) : ClosOk 29 d (fun x => x.id == n) (JCell d (.cells (.int .u64 n :: cs).toArray e (0, 0))) := by
  rintro l F w ⟨x, a, k, c⟩ ⟨rfl, hdo⟩ - - -
  have hlt : d < w.heap.size := (Array.getElem?_eq_some_iff.1 hdo).1
  have hd : w.cell? ⟨d, 0, none⟩ = some (.int .u64 n) := by simp [World.cell?, hdo]
  have Hdo := Lib.hid hdo
  clear hdo
  simp only [HQ.v]
  go_enter Try.func29, Try.ntmps29
  go_wp2
  go_ret
  exact ⟨rfl, _, ⟨rfl, (Below.heap_alloc _ _ _ hlt).trans Hdo.out⟩, (Fr.refl _ _).alloc _, fun b hb => .inl hb⟩

end Go.Proofs.Ytokgggcjfhebnaa
