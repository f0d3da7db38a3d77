/-
  The chapter's examples: awake answers true, and turns nothing that was there.
-/
import Derived.Test.YtokgggcjfhebnaaCopy
import Derived.Lib.SlBytesConst
set_option linter.unusedVariables false
namespace Go.Proofs.Ytokgggcjfhebnaa
open Go.RowKit Go.Conc

def hx (id addr til : Int) : HD := ⟨id, 9, addr, 80, til, [120]⟩

theorem hx_ok {id addr til : Int} (h1 : (Lit.int .u64 id).wf = true) (h2 : (Lit.int .u32 addr).wf = true) (h3 : (Lit.int .u64 til).wf = true) : (hx id addr til).ok := ⟨h1, (by decide : (Lit.int .u64 9).wf = true), h2, (by decide : (Lit.int .i64 80).wf = true), h3⟩

def HeldPost (id addr til : Int) (w : World) (e : Ending) (w' : World) : Prop :=
  ∃ q : HQ, e = .returned q.v ∧ q.x = hx id addr til ∧ BytesR (fun b => w.heap.size ≤ b ∧ b < w'.heap.size) w' q.s q.x.bs ∧ Below w.heap.size w w'

theorem held_any (id addr til : Int) (w : World) :
    Calls Try.prog 18 #[.int .u64 id, .int .u32 addr, .int .u64 til] w (HeldPost id addr til w) := by
  have u32 : Try.prog.underlying 32 = some (.slice 5) := by kernel_rfl
  have u5 : Try.prog.underlying 5 = some (.int .u8) := by kernel_rfl
  have kc : (convert 32 32 (.slice (some ⟨w.heap.size + 1, 0, none⟩) 1 1)).run Try.prog ((w.alloc (.cells #[.int .u64 0, .int .u64 0, .int .u32 0, .int .i64 0, .int .u64 0, .slice none 0 0] 34)).alloc (.cells #[.int .u8 120] 5)) = .ok (.slice (some ⟨w.heap.size + 1, 0, none⟩) 1 1) ((w.alloc (.cells #[.int .u64 0, .int .u64 0, .int .u32 0, .int .i64 0, .int .u64 0, .slice none 0 0] 34)).alloc (.cells #[.int .u8 120] 5 (1, 2))) := by
    have := Lib.run_convert_bytes_const (P := Try.prog) (w.alloc (.cells #[.int .u64 0, .int .u64 0, .int .u32 0, .int .i64 0, .int .u64 0, .slice none 0 0] 34)) 32 5 #[.int .u8 120] 1 1 u32 u5
    simpa using this
  go_enter Try.func18, Try.ntmps18
  go_wp2
  refine bodyPost_ret (v := HQ.v ⟨hx id addr til, some ⟨w.heap.size + 1, 0, none⟩, 1, 1⟩) (by simp [results, Try.results18, go_sem, HQ.v, hx]) rfl ⟨_, rfl, rfl, ?_, ((Below.refl _ _).alloc (Nat.le_refl _) _).alloc (by simp) _⟩
  refine ⟨_, _, rfl, by simp [hx], by simp [maxLen], fun e => (by cases e), fun _ => ⟨w.heap.size + 1, 0, rfl, by simp, fun i hi => ⟨[.int .u8 120], ?_, ?_⟩⟩⟩
  · intro j hj
    simp at hj
    subst hj
    simp [hx] at hi
    subst hi
    have := World.cell?_alloc_mark (w.alloc (.cells #[.int .u64 id, .int .u64 9, .int .u32 addr, .int .i64 80, .int .u64 til, .slice (some ⟨w.heap.size + 1, 0, none⟩) 1 1] 34)) #[.int .u8 120] 5 (1, 2) 0
    simpa using this
  · simp [hx] at hi
    subst hi
    rfl

/-- Put, at the level of what is held. -/
theorem put_law {w : World} {h c m : Nat} {qs : List HQ} (H : HoldAt w h c m qs) {L : List HD} (hL : HQs qs = L) (q : HQ) (hok : q.x.ok) {S : Nat → Prop} (hq : BytesR S w q.s q.x.bs) (hS : ∀ b, S b → b < w.heap.size ∧ b ≠ c) {k : Int} (hk : putNo m L q.x = k) :
    Calls Try.prog 11 #[.pointer (some ⟨h, 0, none⟩), q.v] w fun e w' => ∃ qs', e = .returned (.int .i64 k) ∧ HQs qs' = (if k = 0 then L ++ [q.x] else L) ∧ HoldAt w' h c m qs' ∧ Fr (· = c) w w' := by
  subst hL
  obtain ⟨s, r, hc⟩ := H.chan
  refine (put_any q H hok (hq.mono hS)).mono ?_
  · rintro e w' ⟨qs', rfl, h2, h3, h4⟩
    refine ⟨qs', by rw [hk], ?_, h3, h4⟩
    rcases h2 with ⟨h2, y, rfl, hy, _⟩ | ⟨h2, rfl⟩
    · rw [hk] at h2
      rw [if_pos h2]
      simp [HQs, hy]
    · rw [hk] at h2
      rw [if_neg h2]

theorem HQs_filter (qs : List HQ) (p : HD → Bool) : HQs (qs.filter (fun q => p q.x)) = (HQs qs).filter p := by
  simp [HQs, List.filter_map]; rfl

theorem HQs_one {l : List HQ} {x : HD} (h : HQs l = [x]) : ∃ y, l = [y] ∧ y.x = x := by
  match l, h with
  | [y], h => simp [HQs] at h; exact ⟨y, rfl, h⟩
theorem HQs_none {l : List HQ} (h : HQs l = []) : l = [] := by
  simpa [HQs] using h

theorem own_ne_chan {w : World} {B : Nat} {e size n : Nat} {v : Value} {xs : List Value} (h : w.ownsRow B e size v n xs) {hh c m : Nat} {qs : List HQ} (H : HoldAt w hh c m qs) : ∀ g, v.ownBlock = some g → g ≠ c := by
  rintro g hg rfl
  obtain ⟨s, r, hc⟩ := H.chan
  rcases h.2 with ⟨e, _⟩ | ⟨g', cap, cur, e, _, hh', _⟩
  · rw [e] at hg; cases hg
  · rw [e] at hg
    simp [Value.ownBlock] at hg
    subst hg
    rw [hc] at hh'
    cases hh'

theorem ready_law {w : World} {h c m : Nat} {qs : List HQ} (H : HoldAt w h c m qs) {L O N : List HD} (hL : HQs qs = L) (n : Int) (hO : L.filter (fun x => x.addr == n) = O) (hN : L.filter (fun x => !(x.addr == n)) = N) {k : Nat} (hk : O.length = k) :
    Calls Try.prog 16 #[.pointer (some ⟨h, 0, none⟩), .int .u32 n] w fun e w' =>
      ∃ a cc ys qs', e = .returned (.slice a k cc) ∧ HQs ys = O ∧ w'.ownsRow w.heap.size 34 6 (.slice a k cc) k (flat ys) ∧ HoldAt w' h c m qs' ∧ HQs qs' = N ∧ Fr (· = c) w w' ∧ (∀ q, q ∈ qs' ∨ q ∈ ys → q ∈ qs) ∧ (ys.map HQ.s ++ qs'.map HQ.s).Perm (qs.map HQ.s) := by
  subst hL
  refine (ready_any H n).mono ?_
  rintro e w' ⟨v, rfl, h1, h2, h3⟩
  have e1 := (HQs_filter qs (fun x => x.addr == n)).trans hO
  have e2 := (HQs_filter qs (fun x => !(x.addr == n))).trans hN
  have e3 : (qs.filter (fun q => q.x.addr == n)).length = k := by rw [← hk, ← e1]; simp [HQs]
  rw [e3] at h1
  obtain ⟨a, cc, rfl⟩ := ownsRow_slice h1
  refine ⟨a, cc, _, _, rfl, e1, h1, h2, e2, h3, ?_, ?_⟩
  · rintro q (hq | hq)
    · exact (List.mem_filter.1 hq).1
    · exact (List.mem_filter.1 hq).1
  · rw [← List.map_append]
    exact (List.filter_append_perm _ qs).map _

theorem late_law {w : World} {h c m : Nat} {qs : List HQ} (H : HoldAt w h c m qs) {L O N : List HD} (hL : HQs qs = L) (n : Int) (hO : L.filter (fun x => decide (x.til ≤ n)) = O) (hN : L.filter (fun x => !(decide (x.til ≤ n))) = N) {k : Nat} (hk : O.length = k) :
    Calls Try.prog 19 #[.pointer (some ⟨h, 0, none⟩), .int .u64 n] w fun e w' =>
      ∃ a cc ys qs', e = .returned (.slice a k cc) ∧ HQs ys = O ∧ w'.ownsRow w.heap.size 34 6 (.slice a k cc) k (flat ys) ∧ HoldAt w' h c m qs' ∧ HQs qs' = N ∧ Fr (· = c) w w' ∧ (∀ q, q ∈ qs' ∨ q ∈ ys → q ∈ qs) ∧ (ys.map HQ.s ++ qs'.map HQ.s).Perm (qs.map HQ.s) := by
  subst hL
  refine (late_any H n).mono ?_
  rintro e w' ⟨v, rfl, h1, h2, h3⟩
  have e1 := (HQs_filter qs (fun x => decide (x.til ≤ n))).trans hO
  have e2 := (HQs_filter qs (fun x => !(decide (x.til ≤ n)))).trans hN
  have e3 : (qs.filter (fun q => decide (q.x.til ≤ n))).length = k := by rw [← hk, ← e1]; simp [HQs]
  rw [e3] at h1
  obtain ⟨a, cc, rfl⟩ := ownsRow_slice h1
  refine ⟨a, cc, _, _, rfl, e1, h1, h2, e2, h3, ?_, ?_⟩
  · rintro q (hq | hq)
    · exact (List.mem_filter.1 hq).1
    · exact (List.mem_filter.1 hq).1
  · rw [← List.map_append]
    exact (List.filter_append_perm _ qs).map _

theorem gone_law {w : World} {h c m : Nat} {qs : List HQ} (H : HoldAt w h c m qs) {L O N : List HD} (hL : HQs qs = L) (n : Int) (hO : L.filter (fun x => x.uid == n) = O) (hN : L.filter (fun x => !(x.uid == n)) = N) {k : Nat} (hk : O.length = k) :
    Calls Try.prog 22 #[.pointer (some ⟨h, 0, none⟩), .int .u64 n] w fun e w' =>
      ∃ a cc ys qs', e = .returned (.slice a k cc) ∧ HQs ys = O ∧ w'.ownsRow w.heap.size 34 6 (.slice a k cc) k (flat ys) ∧ HoldAt w' h c m qs' ∧ HQs qs' = N ∧ Fr (· = c) w w' ∧ (∀ q, q ∈ qs' ∨ q ∈ ys → q ∈ qs) ∧ (ys.map HQ.s ++ qs'.map HQ.s).Perm (qs.map HQ.s) := by
  subst hL
  refine (gone_any H n).mono ?_
  rintro e w' ⟨v, rfl, h1, h2, h3⟩
  have e1 := (HQs_filter qs (fun x => x.uid == n)).trans hO
  have e2 := (HQs_filter qs (fun x => !(x.uid == n))).trans hN
  have e3 : (qs.filter (fun q => q.x.uid == n)).length = k := by rw [← hk, ← e1]; simp [HQs]
  rw [e3] at h1
  obtain ⟨a, cc, rfl⟩ := ownsRow_slice h1
  refine ⟨a, cc, _, _, rfl, e1, h1, h2, e2, h3, ?_, ?_⟩
  · rintro q (hq | hq)
    · exact (List.mem_filter.1 hq).1
    · exact (List.mem_filter.1 hq).1
  · rw [← List.map_append]
    exact (List.filter_append_perm _ qs).map _

/-- One request in a row of one's own: its number's cell. -/
theorem one_cell {w : World} {B : Nat} {a : Option Addr} {c : Nat} {y : HQ} (h : w.ownsRow B 34 6 (.slice a 1 c) 1 (flat [y])) : ∃ g, a = some ⟨g, 0, none⟩ ∧ g < w.heap.size ∧ w.cell? ⟨g, 0, none⟩ = some (.int .u64 y.x.id) := by
  obtain ⟨g, rfl, _, h2, hr⟩ := row_cells h (k := 0) (by simp) rfl
  have := hr 0 (by simp [HQ.cells, HD.cells])
  exact ⟨g, rfl, h2, by simpa [HQ.cells, HD.cells] using this⟩

end Go.Proofs.Ytokgggcjfhebnaa
