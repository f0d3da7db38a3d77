/-
  sorts: those that are so are taken out of the queue, in order; the others stay, in order.
-/
import Derived.Test.YtokgggcjfhebnaaClos
import Derived.Deep.CutBlock
import Derived.Test.YtokgggcjfhebnaaAppend
import Derived.Test.YtokgggcjfhebnaaSend
set_option linter.unusedVariables false
namespace Go.Proofs.Ytokgggcjfhebnaa
open Go.RowKit Go.Conc

theorem none_some (h c : Nat) (w : World) (hc : w.cell? ⟨h, 0, none⟩ = some (.chan (some c))) :
    Calls Try.prog 27 #[.pointer (some ⟨h, 0, none⟩)] w fun e w' => e = .returned (.bool false) ∧ w = w' := by
  have hu : Try.prog.underlying 52 = some (.chan .both 34) := by kernel_rfl
  have he := run_eql_chan (w := w) hu (some c) none
  go_enter Try.func27, Try.ntmps27
  go_wp2
  go_ret
  exact ⟨rfl, rfl⟩

theorem none_nil (w : World) :
    Calls Try.prog 27 #[.pointer none] w fun e w' => e = .returned (.bool true) ∧ w = w' := by
  go_enter Try.func27, Try.ntmps27
  go_wp2
  go_ret
  exact ⟨rfl, rfl⟩

theorem none_unmade (h : Nat) (w : World) (hc : w.cell? ⟨h, 0, none⟩ = some (.chan none)) :
    Calls Try.prog 27 #[.pointer (some ⟨h, 0, none⟩)] w fun e w' => e = .returned (.bool true) ∧ w = w' := by
  have hu : Try.prog.underlying 52 = some (.chan .both 34) := by kernel_rfl
  have he := run_eql_chan (w := w) hu none none
  go_enter Try.func27, Try.ntmps27
  go_wp2
  go_ret
  exact ⟨rfl, rfl⟩

def flat (l : List HQ) : List Value := l.flatMap HQ.cells

theorem ownsRow_slice {w : World} {base : Nat} {e : TypeId} {size : Nat} {v : Value} {n : Nat} {xs : List Value} (h : w.ownsRow base e size v n xs) : ∃ a c, v = .slice a n c := by
  rcases h.2 with ⟨rfl, rfl⟩ | ⟨g, cap, cur, rfl, _⟩
  · exact ⟨_, _, rfl⟩
  · exact ⟨_, _, rfl⟩

theorem flat_get (l : List HQ) (k : Nat) (hk : k < l.length) (i : Nat) (hi : i < 6) : (flat l)[k * 6 + i]? = (l[k].cells)[i]? := by
  induction l generalizing k with
  | nil => simp at hk
  | cons q l ih =>
    have e : flat (q :: l) = q.cells ++ flat l := by simp [flat]
    have hq : q.cells.length = 6 := rfl
    rw [e]
    cases k with
    | zero => rw [List.getElem?_append_left (by omega)]; simp
    | succ k =>
      rw [List.getElem?_append_right (by omega), hq]
      have := ih k (by simpa using hk)
      rw [show (k + 1) * 6 + i - 6 = k * 6 + i by omega, this]
      simp

/-- A request's six cells in a row of requests. -/
theorem row_cells {w : World} {base : Nat} {a : Option Addr} {n c : Nat} {l : List HQ} (h : w.ownsRow base 34 6 (.slice a n c) n (flat l)) {k : Nat} (hk : k < l.length) (hn : n = l.length) :
    ∃ g, a = some ⟨g, 0, none⟩ ∧ base ≤ g ∧ g < w.heap.size ∧ RowAt w g (k * 6) (l[k].cells) := by
  have hl := h.lt
  have hc := fun g (hg : (Value.slice a n c).ownBlock = some g) => h.cells hg
  rcases h.2 with ⟨e, e2⟩ | ⟨g, cap, cur, e, hg, _⟩
  · omega
  · cases e
    refine ⟨g, rfl, hg, (hl g rfl).2, fun i hi => ?_⟩
    have := hc g rfl (k * 6 + i) (l[k].cells[i]) (by rw [flat_get l k hk i hi]; simp [hi])
    rw [← this]
    unfold Addr.add
    split
    · rename_i h0; simp [h0]
    · simp

/-- After j of the queue's requests have been looked at. -/
def SRel (c m B : Nat) (qs : List HQ) (p : HD → Bool) (J : List HQ → (Nat → Prop) → World → Prop) (F0 : Nat → Prop) (w : World) (out stay : Value) (j : Nat) (wr : World) : Prop :=
  j ≤ qs.length ∧ (∃ s r, wr.heap[c]? = some (.chan m ((qs.drop j).map HQ.v).toArray false s r false)) ∧
  wr.ownsRow B 34 6 out ((qs.take j).filter (p ·.x)).length (flat ((qs.take j).filter (p ·.x))) ∧
  wr.ownsRow B 34 6 stay ((qs.take j).filter (!p ·.x)).length (flat ((qs.take j).filter (!p ·.x))) ∧
  (out.ownBlock = none ∨ out.ownBlock ≠ stay.ownBlock) ∧
  (∃ F, J (qs.take j) F wr ∧ (∀ b, F b → F0 b ∨ B ≤ b) ∧ (∀ g, out.ownBlock = some g → ¬ F g) ∧ (∀ g, stay.ownBlock = some g → ¬ F g)) ∧
  Fr (fun b => b = c ∨ F0 b) w wr

theorem elemHeld : ElemOk Try.prog 29 34 6 64 :=
  ElemOk.mk' (z := .agg #[.int .u64 0, .int .u64 0, .int .u32 0, .int .i64 0, .int .u64 0, .slice none 0 0]) (by kernel_rfl) (by kernel_rfl) rfl (by decide) (by decide)

theorem held_one (q : HQ) : ∀ u ∈ q.cells, u.oneCell' = true := by
  intro u hu
  simp [HQ.cells, HD.cells, HQ.s] at hu
  rcases hu with rfl | rfl | rfl | rfl | rfl | rfl <;> rfl

/-- What one round does to memory: the queue's turn, a box, the function's own doings, a box, an append. -/
structure SStep (c m B : Nat) (rest : List HQ) (w wr : World) (F F' F0 : Nat → Prop) (row : Option Nat) (w4 : World) : Prop where
  ex : ∃ w1 o1 w2 o2 s r, Fr (· = c) wr w1 ∧ w1.heap[c]? = some (.chan m (rest.map HQ.v).toArray false s r false) ∧ Fr F (w1.alloc o1) w2 ∧ (∀ b, F' b → F b ∨ (w1.alloc o1).heap.size ≤ b) ∧
    (w2.alloc o2).grownBy w4 row ∧ w1.heap.size = wr.heap.size ∧ (∀ b, F' b → b < w2.heap.size)
  hB : B ≤ wr.heap.size
  hc : c < B
  hF : ∀ b, F b → F0 b ∨ B ≤ b
  hFlt : ∀ b, F b → b < wr.heap.size
  hF0 : ¬ F0 c
  hrow : ∀ g, row = some g → B ≤ g ∧ g < wr.heap.size ∧ ¬ F g

theorem SStep.chan {c m B : Nat} {rest : List HQ} {w wr w4 : World} {F F' F0 : Nat → Prop} {row : Option Nat} (h : SStep c m B rest w wr F F' F0 row w4) :
    ∃ s r, w4.heap[c]? = some (.chan m (rest.map HQ.v).toArray false s r false) := by
  obtain ⟨w1, o1, w2, o2, s, r, h1, h2, h3, h4, h5, h6, h7⟩ := h.ex
  have hB := h.hB
  have hc := h.hc
  have hcF : ¬ F c := fun e => by rcases h.hF c e with e | e; exact h.hF0 e; omega
  have hz3 := h3.size
  simp at hz3
  refine ⟨s, r, ?_⟩
  rw [h5.block c (by simp; omega) (fun e => by have := (h.hrow c e.symm).1; omega), Below.heap_alloc _ _ _ (by omega), h3.block c (by simp; omega) hcF, Below.heap_alloc _ _ _ (by omega), h2]

theorem SStep.fr {c m B : Nat} {rest : List HQ} {w wr w4 : World} {F F' F0 : Nat → Prop} {row : Option Nat} (h : SStep c m B rest w wr F F' F0 row w4) (hw : w.heap.size = B) (hf : Fr (fun b => b = c ∨ F0 b) w wr) :
    Fr (fun b => b = c ∨ F0 b) w w4 := by
  obtain ⟨w1, o1, w2, o2, s, r, h1, h2, h3, h4, h5, h6, h7⟩ := h.ex
  have e1 := hf.trans' (h1.mono (T := fun b => b = c ∨ F0 b) (fun i hi => .inl hi)) (fun i _ hi => hi)
  have e2 := (e1.alloc o1).trans' h3 (fun i hi hF => by rcases h.hF i hF with e | e; exact .inr e; omega)
  exact (e2.alloc o2).grown h5 (fun k hk => .inr (by have := (h.hrow k hk).1; omega))

/-- A row that is not the one that is written, nor the function's, stays. -/
theorem SStep.row {c m B : Nat} {rest : List HQ} {w wr w4 : World} {F F' F0 : Nat → Prop} {row : Option Nat} (h : SStep c m B rest w wr F F' F0 row w4)
    {e size n : Nat} {v : Value} {xs : List Value} (ho : wr.ownsRow B e size v n xs) (hne : v.ownBlock = none ∨ v.ownBlock ≠ row) (hF : ∀ g, v.ownBlock = some g → ¬ F g) : w4.ownsRow B e size v n xs := by
  obtain ⟨w1, o1, w2, o2, s, r, h1, h2, h3, h4, h5, h6, h7⟩ := h.ex
  have hc := h.hc
  have hz3 := h3.size
  simp at hz3
  have hl := ho.lt
  obtain ⟨q1, q2⟩ := ho
  refine ⟨q1, ?_⟩
  rcases q2 with q2 | ⟨g, cap, cur, rfl, hg, hh, r'⟩
  · exact .inl q2
  · have hg2 := (hl g rfl).2
    refine .inr ⟨g, cap, cur, rfl, hg, ?_, r'⟩
    have hne' : some g ≠ row := by rcases hne with e | e; cases e; exact e
    rw [h5.block g (by simp; omega) hne', Below.heap_alloc _ _ _ (by omega), h3.block g (by simp; omega) (hF g rfl), Below.heap_alloc _ _ _ (by omega), h1.block g hg2 (by omega), hh]

/-- The row as it stands ahead of the append. -/
theorem row_at {c B : Nat} {wr w1 w2 : World} {F : Nat → Prop} {o1 o2 : Obj} (h1 : Fr (· = c) wr w1) (h3 : Fr F (w1.alloc o1) w2) (h6 : w1.heap.size = wr.heap.size) (hc : c < B)
    {e size n : Nat} {v : Value} {xs : List Value} (ho : wr.ownsRow B e size v n xs) (hF : ∀ g, v.ownBlock = some g → ¬ F g) : (w2.alloc o2).ownsRow B e size v n xs := by
  have hz3 := h3.size
  simp at hz3
  have hl := ho.lt
  obtain ⟨q1, q2⟩ := ho
  refine ⟨q1, ?_⟩
  rcases q2 with q2 | ⟨g, cap, cur, rfl, hg, hh, r'⟩
  · exact .inl q2
  · have hg2 := (hl g rfl).2
    refine .inr ⟨g, cap, cur, rfl, hg, ?_, r'⟩
    rw [Below.heap_alloc _ _ _ (by omega), h3.block g (by simp; omega) (hF g rfl), Below.heap_alloc _ _ _ (by omega), h1.block g hg2 (by omega), hh]

theorem keep_J {B : Nat} {wr w4 : World} {F F' : Nat → Prop} {row : Option Nat} {J : List HQ → (Nat → Prop) → World → Prop} {l : List HQ}
    (hJ : JOk J) {w1 w2 : World} {o1 o2 : Obj} (_h3 : Fr F (w1.alloc o1) w2) (h4 : ∀ b, F' b → F b ∨ (w1.alloc o1).heap.size ≤ b) (h5 : (w2.alloc o2).grownBy w4 row) (h6 : w1.heap.size = wr.heap.size)
    (hrow : ∀ g, row = some g → B ≤ g ∧ g < wr.heap.size ∧ ¬ F g) (hj : J l F' w2) : J l F' w4 := by
  have hz := h5.size
  simp at hz
  refine hJ.keep hj (fun b hb => ?_) (by omega)
  have hlt := hJ.lt hj b hb
  rw [h5.block b (by simp; omega) (fun e => ?_), Below.heap_alloc _ _ _ hlt]
  obtain ⟨_, e2, e3⟩ := hrow b e.symm
  rcases h4 b hb with e | e
  · exact e3 e
  · simp at e; omega

theorem pre_J {c : Nat} {wr w1 : World} {F : Nat → Prop} {J : List HQ → (Nat → Prop) → World → Prop} {l : List HQ} (hJ : JOk J) (h1 : Fr (· = c) wr w1) (hcF : ¬ F c) (hj : J l F wr) (o : Obj) : J l F (w1.alloc o) :=
  hJ.keep hj (fun b hb => by
    have hlt := hJ.lt hj b hb
    rw [Below.heap_alloc _ _ _ (Nat.lt_of_lt_of_le hlt h1.size), h1.block b hlt (by rintro rfl; exact hcF hb)]) (by have := h1.size; simp; omega)

theorem pre_bytes {c : Nat} {w wr w1 : World} {F0 : Nat → Prop} {v : Value} {l : List UInt8} (h : BytesR (fun b => b < w.heap.size ∧ ¬ F0 b ∧ b ≠ c) w v l) (hfr : Fr (fun b => b = c ∨ F0 b) w wr) (h1 : Fr (· = c) wr w1) (o : Obj) :
    BytesR (· < (w1.alloc o).heap.size) (w1.alloc o) v l := by
  have hz := hfr.size
  have hz1 := h1.size
  refine (h.keep (fun b hb => ?_)).mono (fun b hb => by simp; omega)
  rw [Below.heap_alloc _ _ _ (by omega), h1.block b (by omega) hb.2.2, hfr.block b hb.1 (by rintro (e | e); exact hb.2.2 e; exact hb.2.1 e)]

/-- The box of the request, behind the function's call. -/
theorem post_box {F : Nat → Prop} {w1 w2 : World} {o : Obj} (h : Fr F (w1.alloc o) w2) (hF : ∀ b, F b → b < w1.heap.size) : w2.heap[w1.heap.size]? = some o := by
  rw [h.block _ (by simp) (fun e => by have := hF _ e; omega), heap_alloc_new]

theorem flat_append (a b : List HQ) : flat (a ++ b) = flat a ++ flat b := by simp [flat]
theorem flat_one (q : HQ) : flat [q] = q.cells := by simp [flat]

theorem take_filter {qs : List HQ} {j : Nat} (hlt : j < qs.length) {q : HQ} (hq : qs[j] = q) (p : HD → Bool) :
    (qs.take (j + 1)).filter (p ·.x) = (qs.take j).filter (p ·.x) ++ (if p q.x then [q] else []) := by
  rw [List.take_succ_eq_append_getElem hlt, hq, List.filter_append]
  cases h : p q.x <;> simp [h]

/-- The round's end, the request taken out. -/
theorem srel_out {c m B : Nat} {qs : List HQ} {p : HD → Bool} {J : List HQ → (Nat → Prop) → World → Prop} {F0 F F' : Nat → Prop} {w wr w4 : World} {out stay out' : Value} {j : Nat} {q : HQ}
    (hlt : j < qs.length) (hq : qs[j] = q) (hp : p q.x = true) (hw : w.heap.size = B) (hstep : SStep c m B (qs.drop (j + 1)) w wr F F' F0 out.ownBlock w4)
    (hown : w4.ownsRow B 34 6 out' (((qs.take j).filter (p ·.x)).length + 1) (flat ((qs.take j).filter (p ·.x)) ++ q.cells))
    (hwhere : out'.ownBlock = out.ownBlock ∨ ∃ g, out'.ownBlock = some g ∧ wr.heap.size ≤ g ∧ ¬ F' g)
    (hs : wr.ownsRow B 34 6 stay ((qs.take j).filter (!p ·.x)).length (flat ((qs.take j).filter (!p ·.x))))
    (hos : out.ownBlock = none ∨ out.ownBlock ≠ stay.ownBlock) (hF2 : ∀ g, out.ownBlock = some g → ¬ F' g) (hF3 : ∀ g, stay.ownBlock = some g → ¬ F' g ∧ ¬ F g) (hF' : ∀ b, F' b → F0 b ∨ B ≤ b)
    (hfr : Fr (fun b => b = c ∨ F0 b) w wr) (hJ : J (qs.take j ++ [q]) F' w4) :
    SRel c m B qs p J F0 w out' stay (j + 1) w4 := by
  have hsl := hs.lt
  refine ⟨hlt, hstep.chan, ?_, ?_, ?_, ⟨F', ?_, hF', ?_, fun g hg => (hF3 g hg).1⟩, hstep.fr hw hfr⟩
  · rw [take_filter hlt hq p, if_pos hp, flat_append, flat_one]
    simpa using hown
  · rw [take_filter hlt hq (fun x => !p x)]
    simp only [hp, Bool.not_true, Bool.false_eq_true, if_false, List.append_nil]
    refine hstep.row hs ?_ (fun g hg => (hF3 g hg).2)
    rcases hos with h | h
    · cases hsb : stay.ownBlock with
      | none => exact .inl rfl
      | some g => exact .inr (by rw [h]; simp)
    · exact .inr (fun e => h e.symm)
  · rcases hwhere with h | ⟨g, hg, hge, _⟩
    · rw [h]; exact hos
    · right
      rw [hg]
      intro e
      have := (hsl g e.symm).2
      omega
  · rw [List.take_succ_eq_append_getElem hlt, hq]; exact hJ
  · intro g hg
    rcases hwhere with h | ⟨g', hg', _, hn⟩
    · exact hF2 g (h ▸ hg)
    · rw [hg] at hg'; cases hg'; exact hn

/-- The round's end, the request left in. -/
theorem srel_stay {c m B : Nat} {qs : List HQ} {p : HD → Bool} {J : List HQ → (Nat → Prop) → World → Prop} {F0 F F' : Nat → Prop} {w wr w4 : World} {out stay stay' : Value} {j : Nat} {q : HQ}
    (hlt : j < qs.length) (hq : qs[j] = q) (hp : p q.x = false) (hw : w.heap.size = B) (hstep : SStep c m B (qs.drop (j + 1)) w wr F F' F0 stay.ownBlock w4)
    (hown : w4.ownsRow B 34 6 stay' (((qs.take j).filter (!p ·.x)).length + 1) (flat ((qs.take j).filter (!p ·.x)) ++ q.cells))
    (hwhere : stay'.ownBlock = stay.ownBlock ∨ ∃ g, stay'.ownBlock = some g ∧ wr.heap.size ≤ g ∧ ¬ F' g)
    (ho : wr.ownsRow B 34 6 out ((qs.take j).filter (p ·.x)).length (flat ((qs.take j).filter (p ·.x))))
    (hos : out.ownBlock = none ∨ out.ownBlock ≠ stay.ownBlock) (hF2 : ∀ g, out.ownBlock = some g → ¬ F' g ∧ ¬ F g) (hF3 : ∀ g, stay.ownBlock = some g → ¬ F' g) (hF' : ∀ b, F' b → F0 b ∨ B ≤ b)
    (hfr : Fr (fun b => b = c ∨ F0 b) w wr) (hJ : J (qs.take j ++ [q]) F' w4) :
    SRel c m B qs p J F0 w out stay' (j + 1) w4 := by
  have hol := ho.lt
  refine ⟨hlt, hstep.chan, ?_, ?_, ?_, ⟨F', ?_, hF', fun g hg => (hF2 g hg).1, ?_⟩, hstep.fr hw hfr⟩
  · rw [take_filter hlt hq p]
    simp only [hp, Bool.false_eq_true, if_false, List.append_nil]
    exact hstep.row ho hos (fun g hg => (hF2 g hg).2)
  · rw [take_filter hlt hq (fun x => !p x), if_pos (by simp [hp]), flat_append, flat_one]
    simpa using hown
  · rcases hwhere with h | ⟨g, hg, hge, _⟩
    · rw [h]; exact hos
    · right
      rw [hg]
      intro e
      have := (hol g e).2
      omega
  · rw [List.take_succ_eq_append_getElem hlt, hq]; exact hJ
  · intro g hg
    rcases hwhere with h | ⟨g', hg', _, hn⟩
    · exact hF3 g (h ▸ hg)
    · rw [hg] at hg'; cases hg'; exact hn

theorem not_F' {B : Nat} {wr w1 : World} {F F' : Nat → Prop} {o1 : Obj} (h4 : ∀ b, F' b → F b ∨ (w1.alloc o1).heap.size ≤ b) (h6 : w1.heap.size = wr.heap.size)
    {e size n : Nat} {v : Value} {xs : List Value} (ho : wr.ownsRow B e size v n xs) (hF : ∀ g, v.ownBlock = some g → ¬ F g) : ∀ g, v.ownBlock = some g → ¬ F' g := by
  intro g hg hf
  have := (ho.lt g hg).2
  rcases h4 g hf with h | h
  · exact hF g hg h
  · simp at h; omega

theorem F'_lt {B : Nat} {wr w1 : World} {F F' F0 : Nat → Prop} {o1 : Obj} (h4 : ∀ b, F' b → F b ∨ (w1.alloc o1).heap.size ≤ b) (h6 : w1.heap.size = wr.heap.size) (hF : ∀ b, F b → F0 b ∨ B ≤ b) (hB : B ≤ wr.heap.size) : ∀ b, F' b → F0 b ∨ B ≤ b := by
  intro b hb
  rcases h4 b hb with h | h
  · exact hF b h
  · simp at h; exact .inr (by omega)

theorem at_new {wr w1 w2 : World} {F F' : Nat → Prop} {o1 o2 : Obj} (h3 : Fr F (w1.alloc o1) w2) (h6 : w1.heap.size = wr.heap.size) (h7 : ∀ b, F' b → b < w2.heap.size) {v v' : Value}
    (h : v'.ownBlock = v.ownBlock ∨ v'.ownBlock = some (w2.alloc o2).heap.size) : v'.ownBlock = v.ownBlock ∨ ∃ g, v'.ownBlock = some g ∧ wr.heap.size ≤ g ∧ ¬ F' g := by
  rcases h with h | h
  · exact .inl h
  · refine .inr ⟨_, h, ?_, fun hf => ?_⟩
    · have := h3.size; simp at this ⊢; omega
    · have := h7 _ hf; simp at this; omega

theorem row_facts {B : Nat} {wr : World} {F : Nat → Prop} {e size n : Nat} {v : Value} {xs : List Value} (ho : wr.ownsRow B e size v n xs) (hF : ∀ g, v.ownBlock = some g → ¬ F g) :
    ∀ g, v.ownBlock = some g → B ≤ g ∧ g < wr.heap.size ∧ ¬ F g := fun g hg => ⟨(ho.lt g hg).1, (ho.lt g hg).2, hF g hg⟩

set_option maxHeartbeats 1000000 in
theorem sorts_any (h c m d f : Nat) (qs : List HQ) (p : HD → Bool) (J : List HQ → (Nat → Prop) → World → Prop) (F0 : Nat → Prop) (w : World) (s r : Nat)
    (hp : w.cell? ⟨h, 0, none⟩ = some (.chan (some c))) (hc : w.heap[c]? = some (.chan m (qs.map HQ.v).toArray false s r false)) (hm : m ≤ 16) (hq : qs.length ≤ m)
    (hb : ∀ q ∈ qs, BytesR (fun b => b < w.heap.size ∧ ¬ F0 b ∧ b ≠ c) w q.s q.x.bs ∧ q.x.bs.length ≤ 4096)
    (hJ0 : J [] F0 w) (hh : ¬ F0 h) (hcF : ¬ F0 c) (hJ : JOk J) (hcl : ClosOk f d p J)
    (hcall : ∀ args w, (callFunc f args).run Try.prog w = .ok (.enter f args) w) :
    Calls Try.prog 24 #[.pointer (some ⟨h, 0, none⟩), .func (.func f) #[] #[.pointer (some ⟨d, 0, none⟩)]] w fun e w' =>
      ∃ out s' r' F', e = .returned out ∧ w'.ownsRow w.heap.size 34 6 out (qs.filter (p ·.x)).length (flat (qs.filter (p ·.x))) ∧
        w'.heap[c]? = some (.chan m ((qs.filter (!p ·.x)).map HQ.v).toArray false s' r' false) ∧ J qs F' w' ∧ Fr (fun b => b = c ∨ F0 b) w w' ∧
        (∀ b, F' b → F0 b ∨ w.heap.size ≤ b) ∧ (∀ g, out.ownBlock = some g → ¬ F' g) := by
  have hlt0 : h < w.heap.size := World.block_lt_of_cell? w _ hp
  have hltc : c < w.heap.size := (Array.getElem?_eq_some_iff.1 hc).1
  have hhc : h ≠ c := by
    rintro rfl
    simp [World.cell?, hc] at hp
  have Hc := Lib.hid hc
  have Hb := Lib.hid hb
  have HJ0 := Lib.hid hJ0
  have Hcl := Lib.hid hcl
  have Hq := Lib.hid hq
  clear hc hb hJ0 hcl hq
  go_enter Try.func24, Try.ntmps24
  go_wp2_with (go_at_call 27; refine (none_some _ _ _ hp).mono ?_; rintro e w' ⟨rfl, rfl⟩)
  go_step3
  go_wp2_with (go_at_call 27; refine (none_some _ _ _ hp).mono ?_; rintro e w' ⟨rfl, rfl⟩)
  go_step3
  go_upto_block 0 with fail
  go_cut [5, 6] (fun out stay wx => SRel c m w.heap.size qs p J F0 w out stay qs.length wx)
  case first =>
    go_wp2_with fail
    go_loopg [5, 6] qs.length (fun k out stay wr => ∃ j, k + j = qs.length ∧ SRel c m w.heap.size qs p J F0 w out stay j wr)
    case atStart => exact ⟨0, by simp, Nat.zero_le _, ⟨s, r, by simpa using Hc.out⟩, World.ownsRow_nil _ _ _ _, World.ownsRow_nil _ _ _ _, .inl rfl, ⟨F0, HJ0.out, fun b hb => .inl hb, by simp [Value.ownBlock], by simp [Value.ownBlock]⟩, Fr.refl _ _⟩
    case round =>
      obtain ⟨j, hkj, hj, ⟨s1, r1, hch⟩, ho, hs, hos, ⟨F, hJF, hF1, hF2, hF3⟩, hfr⟩ := hrel
      have hcell : wr.cell? ⟨h, 0, none⟩ = some (.chan (some c)) := (hfr.cell hlt0 (by rintro (e | e); exact hhc e; exact hh e)).trans hp
      by_cases hlt : j < qs.length
      · have ed : qs.drop j = qs[j] :: qs.drop (j + 1) := List.drop_eq_getElem_cons hlt
        rw [ed, List.map_cons] at hch
        have Hch := Lib.hid hch
        have Ho := Lib.hid ho
        have Hs := Lib.hid hs
        have Hos := Lib.hid hos
        have HJF := Lib.hid hJF
        have HF1 := Lib.hid hF1
        have HF2 := Lib.hid hF2
        have HF3 := Lib.hid hF3
        have Hfr := Lib.hid hfr
        have Hkj := Lib.hid hkj
        clear hch ho hs hos hJF hF1 hF2 hF3 hfr ed hkj
        go_upto_region 5 with fail
        refine wp_region_first (step_sel_recv_cons (i := 0) (z := .agg #[.int .u64 0, .int .u64 0, .int .u32 0, .int .i64 0, .int .u64 0, .slice none 0 0]) rfl rfl ?_ Hch.out) ?_
        · simp [go_sem, execOp, rcase, Act.eval]
        have hfr1 := fr_setChan wr c m ((qs.drop (j + 1)).map HQ.v).toArray false s1 (r1 + 1) false
        have hch1 := heap_setChan wr c m ((qs.drop (j + 1)).map HQ.v).toArray false s1 (r1 + 1) false (Nat.lt_of_lt_of_le hltc Hfr.out.size)
        have hsz1 := size_setChan wr c m ((qs.drop (j + 1)).map HQ.v).toArray false s1 (r1 + 1) false
        generalize hW1 : wr.setChan c m ((qs.drop (j + 1)).map HQ.v).toArray false s1 (r1 + 1) false = w1 at *
        have Hfr1 := Lib.hid hfr1
        have Hch1 := Lib.hid hch1
        have Hsz1 := Lib.hid hsz1
        clear hW1 hfr1 hch1 hsz1
        have Hq2 : Hid (qs[j] = qs[j]) := rfl
        generalize hQ : qs[j] = q at *
        have HQ' := Lib.hid hQ
        clear hQ
        obtain ⟨x, a, n, cc⟩ := q
        simp only [HQ.v]
        go_wp2_with fail
        have hmem : (⟨x, a, n, cc⟩ : HQ) ∈ qs := HQ'.out ▸ List.getElem_mem hlt
        have hcF' : ¬ F c := fun e => by rcases HF1.out c e with e | e; exact hcF e; omega
        refine (Hcl.out (qs.take j) F _ ⟨x, a, n, cc⟩ (pre_J hJ Hfr1.out hcF' HJF.out _) (by have := Hq.out; have := List.length_take_le j qs; omega) (pre_bytes (Hb.out _ hmem).1 Hfr.out Hfr1.out _) (Hb.out _ hmem).2).mono ?_
        rintro e w2 ⟨rfl, F', hJ2, hfr2, hF'⟩
        have hFlt := hJ.lt HJF.out
        have hsz1 : w1.heap.size = wr.heap.size := Hsz1.out
        have hbox := post_box hfr2 (fun b hb => by have := hFlt b hb; omega)
        obtain ⟨g1, g2⟩ := block_cells hbox
        have Hsz1' := Lib.hid hsz1
        have Hfr2 := Lib.hid hfr2
        have HF' := Lib.hid hF'
        have HJ2 := Lib.hid hJ2
        clear hbox hsz1 hfr2 hF' hJ2 hFlt hmem
        have hcells : (HQ.cells ⟨x, a, n, cc⟩).length = 1 * 6 := rfl
        have hone : ∀ u ∈ HQ.cells ⟨x, a, n, cc⟩, u.oneCell' = true := held_one _
        have hlen1 : (((qs.take j).filter (!p ·.x)).length + 1) * 64 ≤ 140737488355328 := by
          have h1 := List.length_filter_le (fun q : HQ => !p q.x) (qs.take j)
          have h2 := List.length_take_le j qs
          have h3 := Hq.out
          omega
        have hlen2 : (((qs.take j).filter (p ·.x)).length + 1) * 64 ≤ 140737488355328 := by
          have h1 := List.length_filter_le (fun q : HQ => p q.x) (qs.take j)
          have h2 := List.length_take_le j qs
          have h3 := Hq.out
          omega
        have hw2 : w.heap.size ≤ (w2.alloc (.cells (HQ.cells ⟨x, a, n, cc⟩).toArray 34)).heap.size := by
          have h1 := Hfr2.out.size
          have h2 := Hfr.out.size
          have h3 := Hsz1'.out
          simp at h1 ⊢
          omega
        have X1 := Lib.hid hcells
        have X2 := Lib.hid hone
        have X3 := Lib.hid hlen1
        have X4 := Lib.hid hlen2
        have X5 := Lib.hid hw2
        have X6 := Lib.hid (row_at (o2 := .cells (HQ.cells ⟨x, a, n, cc⟩).toArray 34) Hfr1.out Hfr2.out Hsz1'.out hltc Hs.out HF3.out)
        have X7 := Lib.hid (row_at (o2 := .cells (HQ.cells ⟨x, a, n, cc⟩).toArray 34) Hfr1.out Hfr2.out Hsz1'.out hltc Ho.out HF2.out)
        have X8 := Lib.hid (cell_new_row w2 (HQ.cells ⟨x, a, n, cc⟩) 34)
        clear hcells hone hlen1 hlen2 hw2
        cases hpx : p x
        · go_wp2_with (at_builtin; refine wpList_append_where rfl (.tmp 27) (.tmp 29) rfl elemHeld w.heap.size u6 _ _ rfl X6.out ⟨w2.heap.size, 0, none⟩ 1 1 (HQ.cells ⟨x, a, n, cc⟩) rfl X1.out X8.out X2.out X3.out X5.out ?_; intro v' w4 hown' hgrow hwh)
          go_roundg (gk - 1)
          case measure => have := Hkj.out; omega
          case rel =>
            have hJ4 := keep_J hJ Hfr2.out HF'.out hgrow Hsz1'.out (row_facts Hs.out HF3.out) HJ2.out
            exact ⟨j + 1, by have := Hkj.out; omega, srel_stay (q := ⟨x, a, n, cc⟩) hlt HQ'.out hpx rfl ⟨⟨w1, _, w2, _, s1, r1 + 1, Hfr1.out, Hch1.out, Hfr2.out, HF'.out, hgrow, Hsz1'.out, hJ.lt HJ2.out⟩, Hfr.out.size, hltc, HF1.out, hJ.lt HJF.out, hcF, row_facts Hs.out HF3.out⟩
              hown' (at_new Hfr2.out Hsz1'.out (hJ.lt HJ2.out) hwh) Ho.out Hos.out (fun g hg => ⟨not_F' HF'.out Hsz1'.out Ho.out HF2.out g hg, HF2.out g hg⟩) (not_F' HF'.out Hsz1'.out Hs.out HF3.out) (F'_lt HF'.out Hsz1'.out HF1.out Hfr.out.size) Hfr.out hJ4⟩
        · go_wp2_with (at_builtin; refine wpList_append_where rfl (.tmp 23) (.tmp 25) rfl elemHeld w.heap.size u5 _ _ rfl X7.out ⟨w2.heap.size, 0, none⟩ 1 1 (HQ.cells ⟨x, a, n, cc⟩) rfl X1.out X8.out X2.out X4.out X5.out ?_; intro v' w4 hown' hgrow hwh)
          go_roundg (gk - 1)
          case measure => have := Hkj.out; omega
          case rel =>
            have hJ4 := keep_J hJ Hfr2.out HF'.out hgrow Hsz1'.out (row_facts Ho.out HF2.out) HJ2.out
            exact ⟨j + 1, by have := Hkj.out; omega, srel_out (q := ⟨x, a, n, cc⟩) hlt HQ'.out hpx rfl ⟨⟨w1, _, w2, _, s1, r1 + 1, Hfr1.out, Hch1.out, Hfr2.out, HF'.out, hgrow, Hsz1'.out, hJ.lt HJ2.out⟩, Hfr.out.size, hltc, HF1.out, hJ.lt HJF.out, hcF, row_facts Ho.out HF2.out⟩
              hown' (at_new Hfr2.out Hsz1'.out (hJ.lt HJ2.out) hwh) Hs.out Hos.out (not_F' HF'.out Hsz1'.out Ho.out HF2.out) (fun g hg => ⟨not_F' HF'.out Hsz1'.out Hs.out HF3.out g hg, HF3.out g hg⟩) (F'_lt HF'.out Hsz1'.out HF1.out Hfr.out.size) Hfr.out hJ4⟩
      · have ej : j = qs.length := by omega
        subst ej
        have hch0 : wr.heap[c]? = some (.chan m #[] false s1 r1 false) := by simpa using hch
        have hres := Lib.hid (show SRel c m w.heap.size qs p J F0 w u5 u6 qs.length wr from ⟨hj, ⟨s1, r1, hch⟩, ho, hs, hos, ⟨F, hJF, hF1, hF2, hF3⟩, hfr⟩)
        have Hch0 := Lib.hid hch0
        clear hch0 hch ho hs hos hJF hF1 hF2 hF3 hfr hkj hj
        go_upto_region 5 with fail
        refine wp_region_first (step_sel_none (i := 0) (z := .agg #[.int .u64 0, .int .u64 0, .int .u32 0, .int .i64 0, .int .u64 0, .slice none 0 0]) rfl rfl ?_ Hch0.out) ?_
        · simp [go_sem, execOp, rcase, Act.eval]
        go_wp2_with fail
        go_meet
        case rel => exact hres.out
  case rest =>
    obtain ⟨_, ⟨s1, r1, hch⟩, ho, hs, hos, ⟨F, hJF, hF1, hF2, hF3⟩, hfr⟩ := hcut
    simp only [List.drop_length, List.map_nil, List.take_length] at hch ho hs hJF
    obtain ⟨sa, sc, rfl⟩ := ownsRow_slice hs
    generalize hst : qs.filter (!p ·.x) = st at *
    have hstl : st.length ≤ 16 := by
      have h1 := List.length_filter_le (fun q : HQ => !p q.x) qs
      have h3 := Hq.out
      rw [hst] at h1
      omega
    have hstm : st.length ≤ m := by
      have h1 := List.length_filter_le (fun q : HQ => !p q.x) qs
      have h3 := Hq.out
      rw [hst] at h1
      omega
    have Hst := Lib.hid hst
    have Hch := Lib.hid hch
    have Ho := Lib.hid ho
    have Hs := Lib.hid hs
    have HJF := Lib.hid hJF
    have HF1 := Lib.hid hF1
    have HF2 := Lib.hid hF2
    have Hfr := Lib.hid hfr
    clear hch ho hs hos hJF hF1 hF2 hF3 hfr hst
    go_wp2_with fail
    go_loopw [33] (fun i wr => ∃ k : Nat, k ≤ st.length ∧ i = .int .i64 k ∧ (∃ s r, wr.heap[c]? = some (.chan m ((st.take k).map HQ.v).toArray false s r false)) ∧ Fr (· = c) wc wr) (fun i _ => st.length - (intOf i).toNat)
    case atStart => exact ⟨0, Nat.zero_le _, rfl, ⟨s1, r1, Hch.out⟩, Fr.refl _ _⟩
    case round =>
      obtain ⟨k, hk, rfl, ⟨s2, r2, hch⟩, hfr⟩ := hrel
      by_cases hlt : k < st.length
      · obtain ⟨g, rfl, hg1, hg2, hrow⟩ := row_cells Hs.out hlt rfl
        have hgc : g ≠ c := by omega
        have hrow' := hrow.keep (S := (· = g)) rfl (hfr.agree (by rintro i rfl; exact ⟨hg2, hgc⟩))
        have hgw : g < wr.heap.size := Nat.lt_of_lt_of_le hg2 hfr.size
        generalize hQ : st[k] = q at *
        obtain ⟨x, a, n, cc⟩ := q
        obtain ⟨p0, p1, p2, p3, p4, p5⟩ := row6 hrow'
        simp only [HQ.s] at p5
        have hcell : wr.cell? ⟨h, 0, none⟩ = some (.chan (some c)) := (hfr.cell (Nat.lt_of_lt_of_le hlt0 Hfr.out.size) hhc).trans ((Hfr.out.cell hlt0 (by rintro (e | e); exact hhc e; exact hh e)).trans hp)
        have hhw : h < wr.heap.size := Nat.lt_of_lt_of_le hlt0 (Nat.le_trans Hfr.out.size hfr.size)
        have HQk := Lib.hid hQ
        have Hch2 := Lib.hid hch
        have Hfr2 := Lib.hid hfr
        clear hQ hch hfr hrow hrow'
        go_upto_region 13 with fail
        refine wp_send (ps := "hold.go:49") (sh := 0) (sb := 9) (s := 37) (q := ⟨x, a, n, cc⟩) (h := h) (bx := wr.heap.size) (c := c) (m := m) (buf := ((st.take k).map HQ.v).toArray) (r1 := s2) (r2 := r2) (by simp) (by omega) (by omega) rfl rfl (by simpa [go_sem, hhw] using hcell) (by simp [Box6, go_sem]) (by rw [Below.heap_alloc _ _ _ (by omega)]; exact Hch2.out) (by simp; omega) ?_
        simp only [sA, Act.put]
        go_wp2_with fail
        go_roundw
        case rel =>
          refine ⟨k + 1, by omega, by go_num, ⟨s2 + 1, r2, ?_⟩, ?_⟩
          · rw [heap_setChan _ _ _ _ _ _ _ _ (by have := Hfr2.out.size; have := Hfr.out.size; simp [World.drew]; omega)]
            rw [List.take_succ_eq_append_getElem hlt, HQk.out]
            simp
          · exact ((Hfr2.out.alloc _).drew).trans' (fr_setChan _ _ _ _ _ _ _ _) (fun i _ hi => hi)
        case measure => simp [intOf]; omega
      · have ek : k = st.length := by omega
        subst ek
        have Hch2 := Lib.hid hch
        have Hfr2 := Lib.hid hfr
        clear hch hfr
        go_wp2_with fail
        rw [Exit.noGoto_ret]
        go_ret
        refine ⟨u5, s2, r2, F, rfl, ?_, ?_, ?_, ?_, HF1.out, HF2.out⟩
        · exact ownsRow_fr Ho.out Hfr2.out (fun g hg => by rintro rfl; have := (Ho.out.lt _ hg).1; omega)
        · rw [Hst.out]; simpa using Hch2.out
        · exact hJ.keep HJF.out (Hfr2.out.agree fun b hb => ⟨hJ.lt HJF.out b hb, by rintro rfl; rcases HF1.out _ hb with e | e; exact hcF e; omega⟩) Hfr2.out.size
        · exact Hfr.out.trans' Hfr2.out (fun i _ hi => .inl hi)

end Go.Proofs.Ytokgggcjfhebnaa
