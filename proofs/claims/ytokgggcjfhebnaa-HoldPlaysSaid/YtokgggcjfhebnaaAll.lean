/-
  All: the requests that are held, in order, each in memory of its own; the queue stays as it was.
-/
import Derived.Test.YtokgggcjfhebnaaSorts
import Derived.Deep.RegionLaw
set_option linter.unusedVariables false
namespace Go.Proofs.Ytokgggcjfhebnaa
open Go.RowKit Go.Conc

/-- The blocks that values lie in. -/
def blocks (l : List Value) : List Nat := l.filterMap Value.ownBlock

/-- A row of requests of one's own, each with bytes of its own, all in blocks of their own. -/
structure Owned (w : World) (B : Nat) (v : Value) (qs : List HQ) : Prop where
  row : w.ownsRow B 34 6 v qs.length (flat qs)
  bytes : ∀ q ∈ qs, OwnB w B q.s q.x.bs
  dist : (blocks (v :: qs.map HQ.s)).Nodup

theorem Owned.lt {w : World} {B : Nat} {v : Value} {qs : List HQ} (h : Owned w B v qs) : ∀ b ∈ blocks (v :: qs.map HQ.s), B ≤ b ∧ b < w.heap.size := by
  intro b hb
  simp only [blocks, List.mem_filterMap, List.mem_cons, List.mem_map] at hb
  obtain ⟨u, hu | ⟨q, hq, rfl⟩, hb⟩ := hb
  · exact h.row.lt b (hu ▸ hb)
  · exact (h.bytes q hq).lt b hb

theorem Owned.fr {w w' : World} {B : Nat} {v : Value} {qs : List HQ} (h : Owned w B v qs) {S : Nat → Prop} (hf : Fr S w w') (hS : ∀ b ∈ blocks (v :: qs.map HQ.s), ¬ S b) : Owned w' B v qs := by
  refine ⟨ownsRow_fr h.row hf (fun g hg => hS g ?_), fun q hq => ownsRow_fr (h.bytes q hq) hf (fun g hg => hS g ?_), h.dist⟩
  · simp [blocks, hg]
  · simp only [blocks, List.mem_filterMap, List.mem_cons, List.mem_map]
    exact ⟨q.s, .inr ⟨q, hq, rfl⟩, hg⟩

theorem Owned.mono {w : World} {B B' : Nat} {v : Value} {qs : List HQ} (h : Owned w B v qs) (hb : B' ≤ B) : Owned w B' v qs :=
  ⟨ownsRow_mono h.row hb, fun q hq => ownsRow_mono (h.bytes q hq) hb, h.dist⟩

theorem Owned.nil (w : World) (B : Nat) : Owned w B (.slice none 0 0) [] := ⟨World.ownsRow_nil _ _ _ _, by simp, List.nodup_nil⟩

/-- What All's function has gathered. -/
def JAll (d : Nat) (l : List HQ) (F : Nat → Prop) (w : World) : Prop :=
  ∃ v qs, (∀ b, F b ↔ b = d ∨ b ∈ blocks (v :: qs.map HQ.s)) ∧ w.heap[d]? = some (.cells #[v] 29 (0, 0)) ∧ qs.map (·.x) = l.map (·.x) ∧ Owned w (d + 1) v qs

theorem JAll.ok (d : Nat) : JOk (JAll d) where
  keep := by
    rintro l F w w' ⟨v, qs, hF, hd, hx, ho⟩ ha hz
    refine ⟨v, qs, hF, (ha d ((hF d).2 (.inl rfl))).trans hd, hx, ?_⟩
    have hl := ho.lt
    have key : ∀ b ∈ blocks (v :: qs.map HQ.s), w'.heap[b]? = w.heap[b]? := fun b hb => ha b ((hF b).2 (.inr hb))
    refine ⟨?_, fun q hq => ?_, ho.dist⟩
    · obtain ⟨q1, q2⟩ := ho.row
      refine ⟨q1, ?_⟩
      rcases q2 with q2 | ⟨g, cap, cur, rfl, hg, hh, r'⟩
      · exact .inl q2
      · exact .inr ⟨g, cap, cur, rfl, hg, (key g (by simp [blocks, Value.ownBlock])).trans hh, r'⟩
    · obtain ⟨q1, q2⟩ := ho.bytes q hq
      refine ⟨q1, ?_⟩
      rcases q2 with q2 | ⟨g, cap, cur, e, hg, hh, r'⟩
      · exact .inl q2
      · refine .inr ⟨g, cap, cur, e, hg, (key g ?_).trans hh, r'⟩
        simp only [blocks, List.mem_filterMap, List.mem_cons, List.mem_map]
        exact ⟨q.s, .inr ⟨q, hq, rfl⟩, by rw [e]; rfl⟩
  lt := by
    rintro l F w ⟨v, qs, hF, hd, hx, ho⟩ b hb
    rcases (hF b).1 hb with rfl | h
    · exact (Array.getElem?_eq_some_iff.1 hd).1
    · exact (ho.lt b h).2

theorem far_cell {w1 w3 : World} {o : Obj} {row : Option Nat} {b : Nat} (hg : (w1.alloc o).grownBy w3 row) (hb : b < w1.heap.size) (hr : row ≠ some b) :
    (∀ i, w3.cell? ⟨b, i, none⟩ = w1.cell? ⟨b, i, none⟩) ∧ (∀ i, w3.frozen? ⟨b, i, none⟩ = w1.frozen? ⟨b, i, none⟩) := by
  have h : w3.heap[b]? = w1.heap[b]? := by rw [hg.block b (by simp; omega) (fun e => hr e.symm), Below.heap_alloc _ _ _ hb]
  exact ⟨fun i => by simp [World.cell?, h], fun i => by simp [World.frozen?, h]⟩

theorem not_row {w : World} {B : Nat} {e size n : Nat} {v : Value} {xs : List Value} (h : w.ownsRow B e size v n xs) {b : Nat} (hb : b < B ∨ w.heap.size ≤ b) : v.ownBlock ≠ some b := by
  intro e
  have := h.lt b e
  omega

theorem mem_blocks {l : List Value} {b : Nat} : b ∈ blocks l ↔ ∃ v ∈ l, v.ownBlock = some b := by simp [blocks]

theorem blocks_cons (v : Value) (l : List Value) : blocks (v :: l) = v.ownBlock.toList ++ blocks l := by
  unfold blocks
  cases h : v.ownBlock <;> simp [h]

theorem blocks_append (a b : List Value) : blocks (a ++ b) = blocks a ++ blocks b := by simp [blocks]

/-- One value more, in a block that is new; the row itself where it was, or newer still. -/
theorem nodup_more {v v' s : Value} {l : List Value} {N M : Nat} (h : (blocks (v :: l)).Nodup) (hl : ∀ b ∈ blocks (v :: l), b < N) (hs : ∀ b, s.ownBlock = some b → N ≤ b ∧ b < M)
    (hv : v'.ownBlock = v.ownBlock ∨ ∃ g, v'.ownBlock = some g ∧ M ≤ g) (hNM : N ≤ M) : (blocks (v' :: (l ++ [s]))).Nodup := by
  have hls : (blocks (l ++ [s])).Nodup := by
    rw [blocks_append, List.nodup_append]
    rw [blocks_cons] at h
    refine ⟨(List.nodup_append.1 h).2.1, ?_, ?_⟩
    · rw [blocks_cons]; cases s.ownBlock <;> simp [blocks]
    · intro a ha b hb
      have h1 := hl a (by rw [blocks_cons]; exact List.mem_append_right _ ha)
      rw [mem_blocks] at hb
      obtain ⟨u, hu, hub⟩ := hb
      simp at hu; subst hu
      have h2 := hs b hub
      omega
  rw [blocks_cons, List.nodup_append]
  refine ⟨by cases v'.ownBlock <;> simp, hls, ?_⟩
  intro a ha b hb
  simp at ha
  rw [blocks_append, List.mem_append] at hb
  rw [blocks_cons] at h
  rcases hv with e | ⟨g, e, hg⟩
  · rcases hb with hb | hb
    · exact (List.nodup_append.1 h).2.2 a (by simp [← e, ha]) b hb
    · have h1 := hl a (by rw [blocks_cons]; exact List.mem_append_left _ (by simp [← e, ha]))
      rw [mem_blocks] at hb
      obtain ⟨u, hu, hub⟩ := hb
      simp at hu; subst hu
      have h2 := hs b hub
      omega
  · rw [ha] at e; cases e
    rcases hb with hb | hb
    · have h1 := hl b (by rw [blocks_cons]; exact List.mem_append_right _ hb)
      omega
    · rw [mem_blocks] at hb
      obtain ⟨u, hu, hub⟩ := hb
      simp at hu; subst hu
      have h2 := hs b hub
      omega

/-- What the function leaves behind. -/
theorem all_step {d : Nat} {l qs : List HQ} {q q' : HQ} {F : Nat → Prop} {w w1 w3 : World} {v v' : Value} {o1 o2 : Obj} (hF : ∀ b, F b ↔ b = d ∨ b ∈ blocks (v :: qs.map HQ.s))
    (hd : w.heap[d]? = some (.cells #[v] 29 (0, 0))) (hx : qs.map (·.x) = l.map (·.x)) (ho : Owned w (d + 1) v qs) (hb : Below ((w.alloc o1).drew).heap.size (w.alloc o1).drew w1)
    (hq : OwnB w1 ((w.alloc o1).drew).heap.size q'.s q'.x.bs) (hqx : q'.x = q.x) (hg : (w1.alloc o2).grownBy w3 v.ownBlock) (hown : w3.ownsRow (d + 1) 34 6 v' (qs.length + 1) (flat qs ++ q'.cells))
    (hwh : v'.ownBlock = v.ownBlock ∨ v'.ownBlock = some (w1.alloc o2).heap.size) :
    ∃ F', JAll d (l ++ [q]) F' (w3.setCell ⟨d, 0, none⟩ v') ∧ Fr F w (w3.setCell ⟨d, 0, none⟩ v') ∧ (∀ b, F' b → F b ∨ w.heap.size ≤ b) := by
  have hdlt : d < w.heap.size := (Array.getElem?_eq_some_iff.1 hd).1
  have hz1 : w.heap.size + 1 ≤ w1.heap.size := by simpa using hb.size
  have hl := ho.lt
  have hrow : ∀ b, v.ownBlock = some b → d + 1 ≤ b ∧ b < w.heap.size := ho.row.lt
  have fr1 : Fr (fun b => v.ownBlock = some b) w w3 := (((((Fr.refl _ w).alloc o1).drew).trans (Fr.of_below hb)).alloc o2).grown hg (fun k hk => .inl hk)
  have fr3 : Fr (fun b => b = d ∨ v.ownBlock = some b) w (w3.setCell ⟨d, 0, none⟩ v') := (fr1.mono (fun _ h => .inr h)).setCell (.inl (.inl rfl)) _
  have fr2 : Fr (fun b => b = d ∨ v.ownBlock = some b) w1 (w3.setCell ⟨d, 0, none⟩ v') := (((Fr.refl _ w1).alloc o2).grown hg (fun k hk => .inl (.inr hk))).setCell (.inl (.inl rfl)) _
  have h3 : w3.heap[d]? = some (.cells #[v] 29 (0, 0)) := (fr1.block d hdlt (fun e => by have := (hrow d e).1; omega)).trans hd
  have hnd := ho.dist
  have hqlt : ∀ b, q'.s.ownBlock = some b → w.heap.size ≤ b ∧ b < w1.heap.size := fun b e => by
    have := hq.lt b e
    simp at this
    omega
  have hv' : v'.ownBlock = v.ownBlock ∨ ∃ g, v'.ownBlock = some g ∧ w1.heap.size ≤ g := by
    rcases hwh with e | e
    · exact .inl e
    · exact .inr ⟨_, e, by simp⟩
  have hnd' := nodup_more (s := q'.s) (N := w.heap.size) (M := w1.heap.size) hnd (fun b hb => (hl b hb).2) hqlt hv' (by omega)
  have hmap : (qs ++ [q']).map HQ.s = qs.map HQ.s ++ [q'.s] := by simp
  refine ⟨fun b => b = d ∨ b ∈ blocks (v' :: (qs ++ [q']).map HQ.s), ⟨v', qs ++ [q'], fun b => Iff.rfl, ?_, ?_, ⟨?_, ?_, by rw [hmap]; exact hnd'⟩⟩, ?_, ?_⟩
  · simp [World.setCell, Array.getElem?_modify, h3]
  · simp [hx, hqx]
  · rw [flat_append, flat_one]
    refine ownsRow_setCell_below ?_ (by simp) _
    simpa using hown
  · intro q0 hq0
    rcases List.mem_append.1 hq0 with h | h
    · refine ownsRow_fr (ho.bytes q0 h) fr3 (fun g hg0 hS => ?_)
      have hge := (ho.bytes q0 h).lt g hg0
      rcases hS with e | e
      · omega
      · rw [blocks_cons] at hnd
        exact (List.nodup_append.1 hnd).2.2 g (by simp [e]) g (mem_blocks.2 ⟨q0.s, List.mem_map.2 ⟨q0, h, rfl⟩, hg0⟩) rfl
    · simp at h
      subst h
      refine ownsRow_mono (ownsRow_fr hq fr2 (fun g hg0 hS => ?_)) (by simp; omega)
      have := hqlt g hg0
      rcases hS with e | e
      · omega
      · have := hrow g e; omega
  · exact fr3.mono (fun b hb => (hF b).2 (hb.imp id (fun e => mem_blocks.2 ⟨v, by simp, e⟩)))
  · intro b hb'
    rcases hb' with rfl | hb'
    · exact .inl ((hF b).2 (.inl rfl))
    · rw [hmap, blocks_cons, List.mem_append, blocks_append, List.mem_append] at hb'
      rcases hb' with e | e | e
      · simp at e
        rcases hv' with h | ⟨g, h, hg0⟩
        · exact .inl ((hF b).2 (.inr (by rw [blocks_cons]; exact List.mem_append_left _ (by simp [← h, e]))))
        · rw [e] at h; cases h; exact .inr (by omega)
      · exact .inl ((hF b).2 (.inr (by rw [blocks_cons]; exact List.mem_append_right _ e)))
      · obtain ⟨u, hu, hub⟩ := mem_blocks.1 e
        simp at hu; subst hu
        exact .inr (hqlt b hub).1

set_option maxHeartbeats 1000000 in
theorem all_clos (d : Nat) : ClosOk 25 d (fun _ => false) (JAll d) := by
  rintro l F w ⟨x, a, n, c⟩ ⟨v, qs, hF, hd, hx, ho⟩ hl16 hb hl
  have hlt : d < w.heap.size := (Array.getElem?_eq_some_iff.1 hd).1
  obtain ⟨va, vc, rfl⟩ := ownsRow_slice ho.row
  obtain ⟨d1, d2⟩ := block_cells hd
  have Hx := Lib.hid hx
  have Ho := Lib.hid ho
  have HF := Lib.hid hF
  have Hb := Lib.hid hb
  have Hd := Lib.hid hd
  clear hx ho hF hb hd
  simp only [HQ.v]
  have hn16 : qs.length ≤ 16 := by have := congrArg List.length Hx.out; simp at this; omega
  have l1 : d < w.heap.size + 1 := by omega
  go_enter Try.func25, Try.ntmps25
  go_wp2_with fail
  go_region_law
    (first
      | (refine step_append_where rfl (.tmp 4) (.tmp 7) rfl elemHeld (d + 1) (.slice va qs.length vc) qs.length (flat qs) (by rfl) (by exact ownsRow_fr Ho.out.row (S := fun _ => False) ((((Fr.refl _ w).alloc _).drew.trans (Fr.of_below hb')).alloc _) (fun _ _ h => h)) ⟨w1.heap.size, 0, none⟩ 1 1 (HQ.cells ⟨x', a', n', c'⟩) (by rfl) rfl (by exact cell_new_row w1 (HQ.cells ⟨x', a', n', c'⟩) _) (held_one _) (by omega) (by have := hb'.size; simp at this ⊢; omega) ?_; intro v' w3 hown3 hgrow3 hwh3; obtain ⟨va', vc', rfl⟩ := ownsRow_slice hown3; obtain ⟨hc3, hf3⟩ := far_cell hgrow3 (Nat.lt_of_lt_of_le l1 (by simpa using hb'.size)) (not_row Ho.out.row (.inl (Nat.lt_succ_self d))); obtain ⟨hc4, hf4⟩ := far_cell hgrow3 (Nat.lt_of_lt_of_le (Nat.lt_succ_self w.heap.size) (by simpa using hb'.size)) (not_row Ho.out.row (.inr (Nat.le_refl _))))
      | (go_simp; go_at_call 26; refine (own_any ⟨x, a, n, c⟩ _ (· < w.heap.size) (by intro b hb; simp; omega) (by exact (Hb.out.keep (agree_alloc (fun _ h => h) _))) (Nat.le_trans hl (by decide))).mono ?_; rintro e w1 ⟨⟨x', a', n', c'⟩, rfl, hx', ho', hb'⟩; obtain rfl : x' = x := hx'; simp only [HQ.v]; have l2 : d < w1.heap.size := Nat.lt_of_lt_of_le l1 (by simpa using hb'.size); have hd1 : w1.cell? ⟨d, 0, none⟩ = some (.slice va qs.length vc) := (hb'.cell (p := ⟨d, 0, none⟩) (by simp; omega)).trans (by simpa [go_sem, hlt] using d1 0); have hf1 : w1.frozen? ⟨d, 0, none⟩ = false := (hb'.frozen (p := ⟨d, 0, none⟩) (by simp; omega)).trans (by simpa [go_sem, hlt] using d2 0)))
  all_goals go_wp2
  all_goals go_ret
  all_goals exact ⟨rfl, all_step (q' := ⟨x', a', n', c'⟩) HF.out Hd.out Hx.out Ho.out hb' ho' rfl hgrow3 hown3 hwh3⟩

end Go.Proofs.Ytokgggcjfhebnaa
