/-
  does: a call that takes out; what was taken out are those that some test of the data picks, the others stay.
-/
import Derived.Test.YtokgggcjfhebnaaMany
set_option linter.unusedVariables false
namespace Go.Proofs.Ytokgggcjfhebnaa
open Go.RowKit Go.Conc

def actV (d : Int) (q : HQ) (n : Int) : Value := .agg #[.int .i64 d, .int .u64 q.x.id, .int .u64 q.x.uid, .int .u32 q.x.addr, .int .i64 q.x.port, .int .u64 q.x.til, .slice q.a q.n q.c, .int .u64 n]

/-- What is taken out of a queue, by a test of the data. -/
def TakePost (w : World) (h c m : Nat) (qs : List HQ) (p : HD → Bool) (e : Ending) (w' : World) : Prop :=
  ∃ a k cc ys qs', e = .returned (.slice a k cc) ∧ k = ys.length ∧ HQs ys = (HQs qs).filter p ∧ HQs qs' = (HQs qs).filter (fun x => !p x) ∧ w'.ownsRow w.heap.size 34 6 (.slice a k cc) k (flat ys) ∧ HoldAt w' h c m qs' ∧ Fr (· = c) w w' ∧
    (∀ q, q ∈ qs' ∨ q ∈ ys → q ∈ qs) ∧ (ys.map HQ.s ++ qs'.map HQ.s).Perm (qs.map HQ.s)

theorem take_none {w w' : World} {h c m : Nat} {qs : List HQ} (H : HoldAt w' h c m qs) (hf : Fr (· = c) w w') : TakePost w h c m qs (fun _ => false) (.returned (.slice none 0 0)) w' :=
  ⟨none, 0, 0, [], qs, rfl, rfl, by simp [HQs], by simp [List.filter_eq_self.2], World.ownsRow_nil _ _ _ _, H, hf, fun q hq => by simpa using hq, by simp⟩

theorem ready_take {w : World} {h c m : Nat} {qs : List HQ} (H : HoldAt w h c m qs) (n : Int) :
    Calls Try.prog 16 #[.pointer (some ⟨h, 0, none⟩), .int .u32 n] w (TakePost w h c m qs (fun x => x.addr == n)) :=
  (ready_law H rfl n rfl rfl rfl).mono fun e w' ⟨a, cc, ys, qs', h1, h2, h3, h4, h5, h6, h7, h8⟩ => ⟨a, _, cc, ys, qs', h1, by rw [← h2]; simp [HQs], h2, h5, h3, h4, h6, h7, h8⟩
theorem late_take {w : World} {h c m : Nat} {qs : List HQ} (H : HoldAt w h c m qs) (n : Int) :
    Calls Try.prog 19 #[.pointer (some ⟨h, 0, none⟩), .int .u64 n] w (TakePost w h c m qs (fun x => decide (x.til ≤ n))) :=
  (late_law H rfl n rfl rfl rfl).mono fun e w' ⟨a, cc, ys, qs', h1, h2, h3, h4, h5, h6, h7, h8⟩ => ⟨a, _, cc, ys, qs', h1, by rw [← h2]; simp [HQs], h2, h5, h3, h4, h6, h7, h8⟩
theorem gone_take {w : World} {h c m : Nat} {qs : List HQ} (H : HoldAt w h c m qs) (n : Int) :
    Calls Try.prog 22 #[.pointer (some ⟨h, 0, none⟩), .int .u64 n] w (TakePost w h c m qs (fun x => x.uid == n)) :=
  (gone_law H rfl n rfl rfl rfl).mono fun e w' ⟨a, cc, ys, qs', h1, h2, h3, h4, h5, h6, h7, h8⟩ => ⟨a, _, cc, ys, qs', h1, by rw [← h2]; simp [HQs], h2, h5, h3, h4, h6, h7, h8⟩

/-- The row lies in what is new since the world before. -/
theorem TakePost.before {w0 w : World} {o : Obj} {h c m : Nat} {qs : List HQ} {p : HD → Bool} {e : Ending} {w' : World} (hT : TakePost (w.alloc o) h c m qs p e w') : TakePost w h c m qs p e w' := by
  obtain ⟨a, k, cc, ys, qs', h1, h2, h3, h4, h5, h6, h7, h8⟩ := hT
  exact ⟨a, k, cc, ys, qs', h1, h2, h3, h4, ownsRow_mono h5 (by simp), h6, ((Fr.refl _ w).alloc o).trans' h7 (fun i _ e => e), h8⟩

def DoesPost (w : World) (h c m : Nat) (qs : List HQ) (e : Ending) (w' : World) : Prop := ∃ p, TakePost w h c m qs p e w'

set_option maxHeartbeats 1000000 in
theorem does_any {w : World} {h c m : Nat} {qs : List HQ} (H : HoldAt w h c m qs) (d : Int) (q : HQ) (n : Int) :
    Calls Try.prog 13 #[.pointer (some ⟨h, 0, none⟩), actV d q n] w (DoesPost w h c m qs) := by
  obtain ⟨x, a, k, cc⟩ := q
  have HA := Lib.hid (H.alloc (.cells #[.int .i64 d, .int .u64 x.id, .int .u64 x.uid, .int .u32 x.addr, .int .i64 x.port, .int .u64 x.til, .slice a k cc, .int .u64 n] 36))
  clear H
  simp only [actV]
  by_cases h1 : d = 1
  · subst h1
    go_enter Try.func13, Try.ntmps13
    go_wp2_with fail
    refine (ready_take HA.out _).mono ?_
    rintro e w1 ⟨a', k', cc', ys, qs', rfl, hr⟩
    have HR := Lib.hid hr
    clear hr
    go_wp2_with fail
    go_ret
    exact ⟨_, TakePost.before (w0 := w) ⟨a', k', cc', ys, qs', rfl, HR.out⟩⟩
  · by_cases h2 : d = 2
    · subst h2
      go_enter Try.func13, Try.ntmps13
      go_wp2_with fail
      refine (late_take HA.out _).mono ?_
      rintro e w1 ⟨a', k', cc', ys, qs', rfl, hr⟩
      have HR := Lib.hid hr
      clear hr
      go_wp2_with fail
      go_ret
      exact ⟨_, TakePost.before (w0 := w) ⟨a', k', cc', ys, qs', rfl, HR.out⟩⟩
    · by_cases h3 : d = 3
      · subst h3
        go_enter Try.func13, Try.ntmps13
        go_wp2_with fail
        refine (gone_take HA.out _).mono ?_
        rintro e w1 ⟨a', k', cc', ys, qs', rfl, hr⟩
        have HR := Lib.hid hr
        clear hr
        go_wp2_with fail
        go_ret
        exact ⟨_, TakePost.before (w0 := w) ⟨a', k', cc', ys, qs', rfl, HR.out⟩⟩
      · have b1 : (d == 1) = false := by simpa using h1
        have b2 : (d == 2) = false := by simpa using h2
        have b3 : (d == 3) = false := by simpa using h3
        go_enter Try.func13, Try.ntmps13
        go_wp2_with fail
        go_ret
        exact ⟨_, take_none HA.out ((Fr.refl _ w).alloc _)⟩

end Go.Proofs.Ytokgggcjfhebnaa
