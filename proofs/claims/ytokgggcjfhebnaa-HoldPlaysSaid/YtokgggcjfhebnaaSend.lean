/-
  The statement 'h.queue <- x': its loads come in whatever order; the send comes last, and finds room.
-/
import Derived.Test.YtokgggcjfhebnaaComm
import Derived.Test.YtokgggcjfhebnaaHeld
set_option linter.unusedVariables false
namespace Go.Proofs.Ytokgggcjfhebnaa
open Go.RowKit Go.Conc

def dataOn (l : List Nat) : Array Edge := (l.map fun i => { on := i, ground := Ground.data }).toArray

/-- The statement's operations: the queue's pointer lies in slot sh, the request's box in slot sb; the scratch begins at slot s. -/
def sendOps (ps : String) (sh sb s : Nat) : Array Oper :=
  #[{ dst := some s, op := Op.move (.tmp sh), type := 23, pos := ps, after := #[], guard := none },
    { dst := some (s + 1), op := Op.nilCheck (.tmp s), type := 0, pos := ps, after := #[{ on := 0, ground := Ground.data }], guard := none },
    { dst := some (s + 2), op := Op.fieldAddr 54 (.tmp (s + 1)) 0, type := 0, pos := ps, after := #[{ on := 1, ground := Ground.data }], guard := none },
    { dst := some (s + 3), op := Op.load 52 (.tmp (s + 2)), type := 52, pos := ps, after := #[{ on := 2, ground := Ground.data }], guard := none },
    { dst := some (s + 4), op := Op.load 34 (.tmp sb), type := 34, pos := ps, after := #[], guard := none },
    { dst := none, op := Op.send (.tmp (s + 3)) (.tmp (s + 4)), type := 0, pos := ps, after := #[{ on := 3, ground := Ground.data }, { on := 4, ground := Ground.data }], guard := none }]

section
variable {ps : String} {sh sb s : Nat} {a : Act} {w : World} {h bx c : Nat} {q : HQ}

def sA (a : Act) (s h c : Nat) (q : HQ) (i : Nat) (b : Bool) : Act :=
  let a0 := a
  let a1 := if 0 < i then a0.put (some s) (.pointer (some ⟨h, 0, none⟩)) else a0
  let a2 := if 1 < i then a1.put (some (s + 1)) (.pointer (some ⟨h, 0, none⟩)) else a1
  let a3 := if 2 < i then a2.put (some (s + 2)) (.pointer (some ⟨h, 0, none⟩)) else a2
  let a4 := if 3 < i then a3.put (some (s + 3)) (.chan (some c)) else a3
  if b then a4.put (some (s + 4)) q.v else a4

theorem eval_put (a : Act) (d : Nat) (v : Value) (t : Nat) (hd : d < a.tmps.size) : (a.put (some d) v).eval (.tmp t) = if t = d then v else a.eval (.tmp t) := by
  simp only [Act.put, Act.eval, Array.getD_eq_getD_getElem?]
  by_cases ht : t = d
  · subst ht
    rw [if_pos rfl, Array.getElem?_setIfInBounds_self_of_lt hd]
    rfl
  · rw [if_neg ht, Array.getElem?_setIfInBounds_ne (fun e => ht e.symm)]

theorem put_size (a : Act) (d : Option Nat) (v : Value) : (a.put d v).tmps.size = a.tmps.size := by
  cases d <;> simp [Act.put]

theorem put_comm (a : Act) (d e : Nat) (v u : Value) (hne : d ≠ e) : (a.put (some d) v).put (some e) u = (a.put (some e) u).put (some d) v := by
  simp only [Act.put]
  rw [Array.setIfInBounds_comm _ _ hne]

/-- What an operation of the statement yields. -/
theorem run_move (x : Operand) (ty : Nat) (n : Option Nat) (af : Array Edge) (ρ : Operand → Value) (w : World) : (execOp ρ { dst := n, op := .move x, type := ty, pos := ps, after := af, guard := none }).run Try.prog w = .ok (.value (ρ x)) w := by
  simp [execOp]
theorem run_nilCheck (x : Operand) (ad : Addr) (ty : Nat) (n : Option Nat) (af : Array Edge) (ρ : Operand → Value) (w : World) (hx : ρ x = .pointer (some ad)) :
    (execOp ρ { dst := n, op := .nilCheck x, type := ty, pos := ps, after := af, guard := none }).run Try.prog w = .ok (.value (.pointer (some ad))) w := by
  simp [execOp, hx, go_sem]
theorem run_field0 (x : Operand) (h : Nat) (ty : Nat) (n : Option Nat) (af : Array Edge) (ρ : Operand → Value) (w : World) (hx : ρ x = .pointer (some ⟨h, 0, none⟩)) :
    (execOp ρ { dst := n, op := .fieldAddr 54 x 0, type := ty, pos := ps, after := af, guard := none }).run Try.prog w = .ok (.value (.pointer (some ⟨h, 0, none⟩))) w := by
  simp [execOp, hx, go_sem]
theorem run_loadChan (x : Operand) (h c : Nat) (ty : Nat) (n : Option Nat) (af : Array Edge) (ρ : Operand → Value) (w : World) (hx : ρ x = .pointer (some ⟨h, 0, none⟩)) (hc : w.cell? ⟨h, 0, none⟩ = some (.chan (some c))) :
    (execOp ρ { dst := n, op := .load 52 x, type := ty, pos := ps, after := af, guard := none }).run Try.prog w = .ok (.value (.chan (some c))) w := by
  simp [execOp, hx, go_sem, hc]
theorem run_loadHeld (x : Operand) (bx : Nat) (q : HQ) (ty : Nat) (n : Option Nat) (af : Array Edge) (ρ : Operand → Value) (w : World) (hx : ρ x = .pointer (some ⟨bx, 0, none⟩)) (hb : Box6 w bx q.x q.a q.n q.c) :
    (execOp ρ { dst := n, op := .load 34 x, type := ty, pos := ps, after := af, guard := none }).run Try.prog w = .ok (.value q.v) w := by
  obtain ⟨b0, b1, b2, b3, b4, b5⟩ := hb
  simp [execOp, hx, go_sem, b0, b1, b2, b3, b4, b5, HQ.v]
theorem run_sendOp (x y : Operand) (c : Nat) (v : Value) (ty : Nat) (n : Option Nat) (af : Array Edge) (ρ : Operand → Value) (w : World) (hx : ρ x = .chan (some c)) (hy : ρ y = v) :
    (execOp ρ { dst := n, op := .send x y, type := ty, pos := ps, after := af, guard := none }).run Try.prog w = .ok (.comm #[scase c v (.tuple #[])] true .send) w := by
  simp [execOp, hx, hy, scase]

def sL (i : Nat) (b : Bool) : Array Bool := #[decide (0 < i), decide (1 < i), decide (2 < i), decide (3 < i), b, false]

/-- THE STATEMENT. -/
theorem wp_send {id : Nat} {Q : Exit → Act → World → Prop} {m : Nat} {buf : Array Value} {r1 r2 : Nat} (hs : s + 4 < a.tmps.size) (hsh : sh < s) (hsb : sb < s)
    (eh : a.eval (.tmp sh) = .pointer (some ⟨h, 0, none⟩)) (eb : a.eval (.tmp sb) = .pointer (some ⟨bx, 0, none⟩))
    (hc : w.cell? ⟨h, 0, none⟩ = some (.chan (some c))) (hb : Box6 w bx q.x q.a q.n q.c) (hch : w.heap[c]? = some (.chan m buf false r1 r2 false)) (hroom : buf.size < m)
    (hQ : Q .normal (sA a s h c q 4 true) (w.drew.setChan c m (buf.push q.v) false (r1 + 1) r2 false)) :
    (Code.region id (sendOps ps sh sb s) true).wp Try.prog Q a w := by
  have hc' : w.drew.cell? ⟨h, 0, none⟩ = some (.chan (some c)) := hc
  have hb' : Box6 w.drew bx q.x q.a q.n q.c := hb
  have hch' : w.drew.heap[c]? = some (.chan m buf false r1 r2 false) := hch
  have z0 : s < a.tmps.size := by omega
  have z1 : s + 1 < a.tmps.size := by omega
  have z2 : s + 2 < a.tmps.size := by omega
  have z3 : s + 3 < a.tmps.size := by omega
  have y0 : ¬ sb = s := by omega
  have y1 : ¬ sb = s + 1 := by omega
  have y2 : ¬ sb = s + 2 := by omega
  have y3 : ¬ sb = s + 3 := by omega
  have eB0 : (sA a s h c q 0 false).eval (.tmp sb) = .pointer (some ⟨bx, 0, none⟩) := by simp [sA, eb]
  have eB1 : (sA a s h c q 1 false).eval (.tmp sb) = .pointer (some ⟨bx, 0, none⟩) := by simp [sA, eval_put, z0, eb, y0]
  have eB2 : (sA a s h c q 2 false).eval (.tmp sb) = .pointer (some ⟨bx, 0, none⟩) := by simp [sA, eval_put, put_size, z0, z1, eb, y0, y1]
  have eB3 : (sA a s h c q 3 false).eval (.tmp sb) = .pointer (some ⟨bx, 0, none⟩) := by simp [sA, eval_put, put_size, z0, z1, z2, eb, y0, y1, y2]
  have eB4 : (sA a s h c q 4 false).eval (.tmp sb) = .pointer (some ⟨bx, 0, none⟩) := by simp [sA, eval_put, put_size, z0, z1, z2, z3, eb, y0, y1, y2, y3]
  have eH : ∀ b, (sA a s h c q 0 b).eval (.tmp sh) = .pointer (some ⟨h, 0, none⟩) := fun b => by cases b <;> simp [sA, eval_put, hs, eh] <;> omega
  have e1 : ∀ b, (sA a s h c q 1 b).eval (.tmp s) = .pointer (some ⟨h, 0, none⟩) := fun b => by cases b <;> simp [sA, eval_put, put_size, hs, z0]
  have e2 : ∀ b, (sA a s h c q 2 b).eval (.tmp (s + 1)) = .pointer (some ⟨h, 0, none⟩) := fun b => by cases b <;> simp [sA, eval_put, put_size, hs, z1]
  have e3 : ∀ b, (sA a s h c q 3 b).eval (.tmp (s + 2)) = .pointer (some ⟨h, 0, none⟩) := fun b => by cases b <;> simp [sA, eval_put, put_size, hs, z2]
  have e4 : (sA a s h c q 4 true).eval (.tmp (s + 3)) = .chan (some c) := by simp [sA, eval_put, put_size, hs, z3]
  have e5 : (sA a s h c q 4 true).eval (.tmp (s + 4)) = q.v := by simp [sA, eval_put, put_size, hs]
  have p0 : ∀ b, (sA a s h c q 0 b).put (some s) (.pointer (some ⟨h, 0, none⟩)) = sA a s h c q 1 b := fun b => by cases b <;> simp [sA]; rw [put_comm _ _ _ _ _ (by omega)]
  have p1 : ∀ b, (sA a s h c q 1 b).put (some (s + 1)) (.pointer (some ⟨h, 0, none⟩)) = sA a s h c q 2 b := fun b => by cases b <;> simp [sA]; rw [put_comm _ _ _ _ _ (by omega)]
  have p2 : ∀ b, (sA a s h c q 2 b).put (some (s + 2)) (.pointer (some ⟨h, 0, none⟩)) = sA a s h c q 3 b := fun b => by cases b <;> simp [sA]; rw [put_comm _ _ _ _ _ (by omega)]
  have p3 : ∀ b, (sA a s h c q 3 b).put (some (s + 3)) (.chan (some c)) = sA a s h c q 4 b := fun b => by cases b <;> simp [sA]; rw [put_comm _ _ _ _ _ (by omega)]
  have p4 : ∀ i, (sA a s h c q i false).put (some (s + 4)) q.v = sA a s h c q i true := fun i => by simp [sA]
  have W41 : ∀ t, WOps Try.prog (sendOps ps sh sb s) Q (Region.linearise.go .any (sendOps ps sh sb s) 1 t (sL 4 true) []) (sA a s h c q 4 true) w.drew := by
    refine WOps.lin (rs := [5]) (by kernel_rfl) (by simp) ?_
    intro j hj t
    simp only [List.mem_cons, List.not_mem_nil, or_false] at hj
    subst hj
    exact WOps.step (step_send (v := q.v) (z' := .tuple #[]) rfl rfl (run_sendOp _ _ _ _ _ _ _ _ _ e4 e5) hch' hroom) (WOps.nil hQ)
  have W31 : ∀ t, WOps Try.prog (sendOps ps sh sb s) Q (Region.linearise.go .any (sendOps ps sh sb s) 2 t (sL 3 true) []) (sA a s h c q 3 true) w.drew := by
    refine WOps.lin (rs := [3]) (by kernel_rfl) (by simp) ?_
    intro j hj t
    simp only [List.mem_cons, List.not_mem_nil, or_false] at hj
    subst hj
    exact WOps.step (step_value (v := .chan (some c)) rfl rfl (run_loadChan _ _ _ _ _ _ _ _ (e3 true) hc')) (by have W := W41 t; rw [← p3 true] at W; exact W)
  have W21 : ∀ t, WOps Try.prog (sendOps ps sh sb s) Q (Region.linearise.go .any (sendOps ps sh sb s) 3 t (sL 2 true) []) (sA a s h c q 2 true) w.drew := by
    refine WOps.lin (rs := [2]) (by kernel_rfl) (by simp) ?_
    intro j hj t
    simp only [List.mem_cons, List.not_mem_nil, or_false] at hj
    subst hj
    exact WOps.step (step_value (v := .pointer (some ⟨h, 0, none⟩)) rfl rfl (run_field0 _ _ _ _ _ _ _ (e2 true))) (by have W := W31 t; rw [← p2 true] at W; exact W)
  have W11 : ∀ t, WOps Try.prog (sendOps ps sh sb s) Q (Region.linearise.go .any (sendOps ps sh sb s) 4 t (sL 1 true) []) (sA a s h c q 1 true) w.drew := by
    refine WOps.lin (rs := [1]) (by kernel_rfl) (by simp) ?_
    intro j hj t
    simp only [List.mem_cons, List.not_mem_nil, or_false] at hj
    subst hj
    exact WOps.step (step_value (v := .pointer (some ⟨h, 0, none⟩)) rfl rfl (run_nilCheck _ _ _ _ _ _ _ (e1 true))) (by have W := W21 t; rw [← p1 true] at W; exact W)
  have W01 : ∀ t, WOps Try.prog (sendOps ps sh sb s) Q (Region.linearise.go .any (sendOps ps sh sb s) 5 t (sL 0 true) []) (sA a s h c q 0 true) w.drew := by
    refine WOps.lin (rs := [0]) (by kernel_rfl) (by simp) ?_
    intro j hj t
    simp only [List.mem_cons, List.not_mem_nil, or_false] at hj
    subst hj
    exact WOps.step (step_value (v := .pointer (some ⟨h, 0, none⟩)) rfl rfl (by have W := run_move (ps := ps) (.tmp sh) 23 (some s) #[] (sA a s h c q 0 true).eval w.drew; rw [eH true] at W; exact W)) (by have W := W11 t; rw [← p0 true] at W; exact W)
  have W40 : ∀ t, WOps Try.prog (sendOps ps sh sb s) Q (Region.linearise.go .any (sendOps ps sh sb s) 2 t (sL 4 false) []) (sA a s h c q 4 false) w.drew := by
    refine WOps.lin (rs := [4]) (by kernel_rfl) (by simp) ?_
    intro j hj t
    simp only [List.mem_cons, List.not_mem_nil, or_false] at hj
    subst hj
    exact WOps.step (step_value (v := q.v) rfl rfl (run_loadHeld _ _ _ _ _ _ _ _ eB4 hb')) (by have W := W41 t; rw [← p4 4] at W; exact W)
  have W30 : ∀ t, WOps Try.prog (sendOps ps sh sb s) Q (Region.linearise.go .any (sendOps ps sh sb s) 3 t (sL 3 false) []) (sA a s h c q 3 false) w.drew := by
    refine WOps.lin (rs := [3, 4]) (by kernel_rfl) (by simp) ?_
    intro j hj t
    simp only [List.mem_cons, List.not_mem_nil, or_false] at hj
    rcases hj with rfl | rfl
    · exact WOps.step (step_value (v := .chan (some c)) rfl rfl (run_loadChan _ _ _ _ _ _ _ _ (e3 false) hc')) (by have W := W40 t; rw [← p3 false] at W; exact W)
    · exact WOps.step (step_value (v := q.v) rfl rfl (run_loadHeld _ _ _ _ _ _ _ _ eB3 hb')) (by have W := W31 t; rw [← p4 3] at W; exact W)
  have W20 : ∀ t, WOps Try.prog (sendOps ps sh sb s) Q (Region.linearise.go .any (sendOps ps sh sb s) 4 t (sL 2 false) []) (sA a s h c q 2 false) w.drew := by
    refine WOps.lin (rs := [2, 4]) (by kernel_rfl) (by simp) ?_
    intro j hj t
    simp only [List.mem_cons, List.not_mem_nil, or_false] at hj
    rcases hj with rfl | rfl
    · exact WOps.step (step_value (v := .pointer (some ⟨h, 0, none⟩)) rfl rfl (run_field0 _ _ _ _ _ _ _ (e2 false))) (by have W := W30 t; rw [← p2 false] at W; exact W)
    · exact WOps.step (step_value (v := q.v) rfl rfl (run_loadHeld _ _ _ _ _ _ _ _ eB2 hb')) (by have W := W21 t; rw [← p4 2] at W; exact W)
  have W10 : ∀ t, WOps Try.prog (sendOps ps sh sb s) Q (Region.linearise.go .any (sendOps ps sh sb s) 5 t (sL 1 false) []) (sA a s h c q 1 false) w.drew := by
    refine WOps.lin (rs := [1, 4]) (by kernel_rfl) (by simp) ?_
    intro j hj t
    simp only [List.mem_cons, List.not_mem_nil, or_false] at hj
    rcases hj with rfl | rfl
    · exact WOps.step (step_value (v := .pointer (some ⟨h, 0, none⟩)) rfl rfl (run_nilCheck _ _ _ _ _ _ _ (e1 false))) (by have W := W20 t; rw [← p1 false] at W; exact W)
    · exact WOps.step (step_value (v := q.v) rfl rfl (run_loadHeld _ _ _ _ _ _ _ _ eB1 hb')) (by have W := W11 t; rw [← p4 1] at W; exact W)
  have W00 : ∀ t, WOps Try.prog (sendOps ps sh sb s) Q (Region.linearise.go .any (sendOps ps sh sb s) 6 t (sL 0 false) []) (sA a s h c q 0 false) w.drew := by
    refine WOps.lin (rs := [0, 4]) (by kernel_rfl) (by simp) ?_
    intro j hj t
    simp only [List.mem_cons, List.not_mem_nil, or_false] at hj
    rcases hj with rfl | rfl
    · exact WOps.step (step_value (v := .pointer (some ⟨h, 0, none⟩)) rfl rfl (by have W := run_move (ps := ps) (.tmp sh) 23 (some s) #[] (sA a s h c q 0 false).eval w.drew; rw [eH false] at W; exact W)) (by have W := W10 t; rw [← p0 false] at W; exact W)
    · exact WOps.step (step_value (v := q.v) rfl rfl (run_loadHeld _ _ _ _ _ _ _ _ eB0 hb')) (by have W := W01 t; rw [← p4 0] at W; exact W)
  exact WOps.region_draw (by kernel_rfl) (fun t => W00 t)
end
end Go.Proofs.Ytokgggcjfhebnaa
