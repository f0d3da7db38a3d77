/-
  What Go's library does on rows: IndexFunc, ContainsFunc, Clone, DeleteFunc; any program, any width.
-/
import Derived.Test.YtmnfjejphmmddaaGreatQt
import Derived.Test.YtmnfjejphmmddaaGreatSy
set_option maxRecDepth 100000
set_option linter.unusedVariables false
set_option linter.unusedSimpArgs false
namespace Go.Proofs.YtmnfjejphmmddaaGreat

/-- A value reads as rows of z cells. -/
def RowIs (bs : List Blk) (v : V) (z : Nat) (es : List (List D)) : Prop :=
  (∀ e ∈ es, e.length = z) ∧ ((∃ nl, v = .d (.slice nl es)) ∨ ∃ b o cap cs, v = .row b o es.length cap z ∧ getB bs b = some cs ∧ sub cs o (es.length * z) = some (es.flatten.map .d))

theorem flatten_sub {α : Type} {z : Nat} : ∀ {es : List (List α)} {i : Nat}, (∀ e ∈ es, e.length = z) → (hi : i < es.length) → (es.flatten.drop (i * z)).take z = es[i]
  | e :: es, 0, h, _ => by
    have := h e (by simp)
    simp [List.take_append_of_le_length, this]
  | e :: es, i + 1, h, hi => by
    have he := h e (by simp)
    have ih := flatten_sub (i := i) (fun e he => h e (List.mem_cons_of_mem _ he)) (by simpa using hi)
    simp only [List.flatten_cons, List.getElem_cons_succ]
    rw [show (i + 1) * z = e.length + i * z by rw [he, Nat.add_mul]; omega, ← List.drop_drop, List.drop_left, ih]
theorem flatten_len {α : Type} {z : Nat} : ∀ {es : List (List α)}, (∀ e ∈ es, e.length = z) → es.flatten.length = es.length * z
  | [], _ => by simp
  | e :: es, h => by
    have he := h e (by simp)
    have ih := flatten_len (es := es) (fun e he => h e (List.mem_cons_of_mem _ he))
    simp only [List.flatten_cons, List.length_append, he, ih, List.length_cons, Nat.add_mul]; omega

theorem RowIs.len {bs : List Blk} {v : V} {z : Nat} {es : List (List D)} (h : RowIs bs v z es) (hp : Hp) : lenv false v hp = some (.d (.int .i64 es.length), hp) := by
  rcases h.2 with ⟨nl, rfl⟩ | ⟨b, o, cap, cs, rfl, _⟩ <;> simp
theorem RowIs.ok {bs : List Blk} {v : V} {z : Nat} {es : List (List D)} (h : RowIs bs v z es) : nu v = some v := by
  rcases h.2 with ⟨nl, rfl⟩ | ⟨b, o, cap, cs, rfl, _⟩ <;> simp
theorem RowIs.elem {bs : List Blk} {v : V} {z : Nat} {es : List (List D)} (h : RowIs bs v z es) {i : Nat} (hi : i < es.length) {l : Nat} :
    ∃ p, idxv none z v (.d (.int .i64 i)) ⟨bs, l⟩ = some (p, ⟨bs, l⟩) ∧ loadAt ⟨bs, l⟩ p z = some (es[i].map .d) := by
  have hzi := h.1 _ (List.getElem_mem hi)
  rcases h.2 with ⟨nl, rfl⟩ | ⟨b, o, cap, cs, rfl, h1, h2⟩
  · refine ⟨.eptr es[i] 0, ?_, ?_⟩
    · simp only [idxv]
      rw [if_pos (by omega)]
      simp only [Int.toNat_natCast, List.getElem?_eq_getElem hi, hzi, if_true]
    · simp only [loadAt, sub_all hzi, Option.map_some]
  · refine ⟨.ptr b (o + i * z), ?_, ?_⟩
    · simp only [idxv]
      rw [if_pos ⟨by omega, by omega, trivial⟩]
      simp
    · simp only [loadAt_ptr, get_eq, h1]
      rw [sub_eq] at h2 ⊢
      split at h2
      · rename_i hle
        simp only [Option.some.injEq] at h2
        have hiz : (i + 1) * z ≤ es.length * z := Nat.mul_le_mul_right z hi
        rw [Nat.add_mul, Nat.one_mul] at hiz
        rw [if_pos (by omega)]
        congr 1
        have hf := flatten_sub (α := V) (es := es.map (·.map .d)) (i := i) (z := z) (by simpa using h.1) (by simpa using hi)
        rw [show (es.map (·.map V.d)).flatten = es.flatten.map .d by rw [List.map_flatten], ← h2] at hf
        simp only [List.getElem_map] at hf
        rw [← hf, List.drop_take, List.drop_drop, List.take_take, Nat.min_eq_left (by omega)]
      · cases h2

def idxI {α : Type} (l : List α) (q : α → Bool) : Int := match l.findIdx? q with
  | some k => k
  | none => -1


section
variable {E : Calls'} {T : FuncId → Option QF} {val : FuncId → Bool}

/-- An element of a typed row. -/
theorem RowIs.at {α : Type} {cells : α → List D} {bs : List Blk} {v : V} {z : Nat} {es : List α} (h : RowIs bs v z (es.map cells)) {i : Nat} (hi : i < es.length) {l : Nat} :
    ∃ p, idxv none z v (.d (.int .i64 i)) ⟨bs, l⟩ = some (p, ⟨bs, l⟩) ∧ loadAt ⟨bs, l⟩ p z = some ((cells es[i]).map .d) := by
  have := h.elem (i := i) (by simpa using hi) (l := l)
  simpa using this
theorem RowIs.lenT {α : Type} {cells : α → List D} {bs : List Blk} {v : V} {z : Nat} {es : List α} (h : RowIs bs v z (es.map cells)) (hp : Hp) : lenv false v hp = some (.d (.int .i64 es.length), hp) := by
  simpa using h.len hp

theorem idx_loop {α : Type} {cells : α → List D} {z : Nat} {bs : List Blk} {lo : Nat} {v : V} {es : List α} (hr : RowIs bs v z (es.map cells)) {f : FuncId} {caps : List V} {q : α → Bool} (hlen : es.length < 2 ^ 62)
    (hf : ∀ e ∈ es, Sm E T val f (.agg ((cells e).map .d) :: caps) ⟨bs, lo⟩ = some (.d (.bool (q e)), ⟨bs, lo⟩)) : ∀ (m i : Nat), i + m = es.length →
      Cd E T val (.loop [0, 1, 7, 8] (idxB z)) [(0, v), (1, .fn f caps), (7, .d (.int .i64 es.length)), (8, .d (.int .i64 i))] ⟨bs, lo⟩ =
        match (es.drop i).findIdx? q with
        | some k => some (.ret, [(4, .d (.int .i64 (i + k : Nat)))], ⟨bs, lo⟩)
        | none => some (.exit 0, [], ⟨bs, lo⟩) := by
  intro m
  have key := Cd_round (E := E) (T := T) (val := val) [0, 1, 7, 8] (idxB z)
  generalize Cd E T val (.loop [0, 1, 7, 8] (idxB z)) = W at key ⊢
  induction m with
  | zero =>
    intro i hi
    have h0 : es.drop i = [] := List.drop_eq_nil_of_le (by omega)
    rw [key]
    simp [idxB, h0, show ¬ ((i : Int) < es.length) from by omega]
  | succ m ih =>
    intro i hi
    have hlt : i < es.length := by omega
    have hd : es.drop i = es[i] :: es.drop (i + 1) := List.drop_eq_getElem_cons hlt
    obtain ⟨p, hp1, hp2⟩ := hr.at hlt (l := lo)
    have hv := hr.ok
    have hcall := hf _ (List.getElem_mem hlt)
    generalize es[i] = x at *
    rw [key, hd]
    cases hq : q x with
    | true => simp [idxB, hv, hp1, ldv, hp2, hcall, hq, List.findIdx?_cons, show ((i : Int) < es.length) from by omega, show okV (V.agg ((cells x).map .d)) = true from rfl]
    | false =>
      have hw : IntKind.wrap .i64 ((i : Int) + 1) = ((i + 1 : Nat) : Int) := by rw [wrap64] <;> omega
      have := ih (i + 1) (by omega)
      simp [idxB, hv, hp1, ldv, hp2, hcall, hq, List.findIdx?_cons, hw, show ((i : Int) < es.length) from by omega, show okV (V.agg ((cells x).map .d)) = true from rfl]
      rw [show ((i : Int) + 1) = ((i + 1 : Nat) : Int) from by omega, this]
      cases hfi : (es.drop (i + 1)).findIdx? q with
      | none => rfl
      | some k => simp; omega
/-- slices.IndexFunc. -/
theorem S_idx {α : Type} (cells : α → List D) {z : Nat} {id : FuncId} (ht : T id = some (idxQ z)) (hvl : val id = false) {v : V} {es : List α} {f : FuncId} {caps : List V} {q : α → Bool} {h : Hp} (hr : RowIs h.bs v z (es.map cells)) (hlen : es.length < 2 ^ 62)
    (hf : ∀ e ∈ es, ∀ lo, Sm E T val f (.agg ((cells e).map .d) :: caps) ⟨h.bs, lo⟩ = some (.d (.bool (q e)), ⟨h.bs, lo⟩)) : Sm E T val id [v, .fn f caps] h = some (.d (.int .i64 (idxI es q)), h) := by
  rw [Sm_ref ht hvl]
  have hl := idx_loop hr hlen (fun e he => hf e he h.bs.length) es.length 0 (by omega)
  have hv := hr.ok
  have hn := hr.lenT
  simp [idxQ, Bd_mk, hv, hn, idxI]
  rw [Cd_keep]
  simp at hl
  simp [hl]
  cases es.findIdx? q with
  | none => simp [V.under]
  | some k => simp [V.under]

/-- slices.ContainsFunc. -/
def conQ (idx : Nat) : QF := ⟨9, [.tmp 4], (.seq (.reg none [⟨none, (some 4), .mov (.c (.d (.bool false)))⟩]) .skip)⟩
end
end Go.Proofs.YtmnfjejphmmddaaGreat
