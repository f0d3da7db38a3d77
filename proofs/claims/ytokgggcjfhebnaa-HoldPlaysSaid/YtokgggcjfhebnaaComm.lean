/-
  Channels in one goroutine, for the walk: a region that holds a send with room, or a select of one case with a default, goes on as the machine's own step says.
-/
import Derived.Test.YtokgggcjfhebnaaRep
import Derived.Conc.LoneSelect
import Derived.Orders
namespace Go.Proofs.Ytokgggcjfhebnaa
open Go.RowKit Go.Conc

/-- From a region's list of operations still to come the machine arrives where Q holds. -/
def WOps (P : Program) (ops : Array Oper) (Q : Exit → Act → World → Prop) (l : List Nat) (a : Act) (w : World) : Prop :=
  ∀ (b : Frame) (k : List Item) (cs : List Frame), ∃ e a' w', Q e a' w' ∧ Arrives P (lone (b.at a (.inRegion ops l :: k)) cs w) b k cs e a' w'

section
variable {P : Program} {ops : Array Oper} {Q : Exit → Act → World → Prop} {a a' : Act} {w w' : World} {i : Nat} {rest : List Nat} {o : Oper}

theorem WOps.of_wpOps {l : List Nat} (h : wpOps P ops Q l a w) : WOps P ops Q l a w := wp_ops l a w h

theorem WOps.step (hs : ∀ (b : Frame) (k : List Item) (cs : List Frame), step P (lone (b.at a (.inRegion ops (i :: rest) :: k)) cs w) = .next (lone (b.at a' (.inRegion ops rest :: k)) cs w'))
    (h : WOps P ops Q rest a' w') : WOps P ops Q (i :: rest) a w := by
  intro b k cs
  obtain ⟨e, a₂, w₂, hq, harr⟩ := h b k cs
  exact ⟨e, a₂, w₂, hq, .of_steps (.one (hs b k cs)) harr⟩

theorem WOps.region {id : Nat} (h : WOps P ops Q (List.range ops.size) a w) : (Code.region id ops false).wp P Q a w :=
  fun b k cs => let ⟨e, a', w', q, r⟩ := h b k cs; ⟨e, a', w', q, .of_steps (.one step_region) r⟩

theorem WOps.region_draw {id : Nat} (hm : P.follows .mixedOrders = true) (h : ∀ t, WOps P ops Q (Region.linearise.go .any ops ops.size t (Array.replicate ops.size false) []) a w.drew) : (Code.region id ops true).wp P Q a w := by
  intro b k cs
  obtain ⟨e, a', w', q, r⟩ := h (w.tape w.drawn (.order b.fn id)) b k cs
  refine ⟨e, a', w', q, .of_steps (.one step_region_draw) ?_⟩
  simp only [Region.schedule, hm, Bool.true_or, if_true]
  exact r

theorem WOps.nil (h : Q .normal a w) : WOps P ops Q [] a w := .of_wpOps (by simpa [wpOps] using h)

theorem WOps.lin {md : Region.Mode} {fuel : Nat} {listed : Array Bool} {rs : List Nat} (hr : Region.ready md ops listed = rs) (hne : rs ≠ [])
    (h : ∀ j ∈ rs, ∀ t, WOps P ops Q (j :: Region.linearise.go md ops fuel t (listed.setIfInBounds j true) []) a w) :
    ∀ t, WOps P ops Q (Region.linearise.go md ops (fuel + 1) t listed []) a w := by
  intro t
  simp only [Region.linearise.go]
  change WOps P ops Q (match (Region.ready md ops listed)[t % (Region.ready md ops listed).length]? with
    | some i => Region.linearise.go md ops fuel (t / (Region.ready md ops listed).length) (listed.setIfInBounds i true) [i]
    | none => [].reverse) a w
  rw [hr]
  have hlt : t % rs.length < rs.length := Nat.mod_lt _ (by cases rs <;> simp_all)
  rw [List.getElem?_eq_getElem hlt]
  simp only []
  rw [linearise_go_acc, List.reverse_singleton, List.singleton_append]
  exact h _ (List.getElem_mem hlt) _

/-- An operation that yields a value. -/
theorem step_value {v : Value} (ho : ops[i]? = some o) (hw : Region.wanted o (yielded ops a.tmps) = true) (hr : (execOp a.eval o).run P w = .ok (.value v) w')
    (b : Frame) (k : List Item) (cs : List Frame) : step P (lone (b.at a (.inRegion ops (i :: rest) :: k)) cs w) = .next (lone (b.at (a.put o.dst v) (.inRegion ops rest :: k)) cs w') := by
  have hg := stepG_op (P := P) (b := b) (k := k) (cs := cs) (w := w) (rest := rest) ho hw
  refine step_lone_go ?_
  have hfin : (b.at a (.inRegion ops (i :: rest) :: k)).finish v = b.at (a.put o.dst v) (.inRegion ops rest :: k) := by rw [Frame.finish_at, ho]; rfl
  rw [hg, ← hfin]
  simp [stepG.apply, hr]

/-- An operation that is a communication. -/
theorem stepG_comm_any {cases : Array CommCase} {blocking : Bool} {shape : CommShape} (ho : ops[i]? = some o) (hw : Region.wanted o (yielded ops a.tmps) = true)
    (hr : (execOp a.eval o).run P w = .ok (.comm cases blocking shape) w') (b : Frame) (k : List Item) (cs : List Frame) :
    ∃ es, stepG P true (G (b.at a (.inRegion ops (i :: rest) :: k)) cs) w = .comm (G (b.at a (.inRegion ops (i :: rest) :: k)) cs) cases blocking shape w' es := by
  have hg := stepG_op (P := P) (b := b) (k := k) (cs := cs) (w := w) (rest := rest) ho hw
  have hg' : stepG P true (G (b.at a (.inRegion ops (i :: rest) :: k)) cs) w = stepG.apply P true (b.at a (.inRegion ops (i :: rest) :: k)) cs none (execOp a.eval o) w := hg
  rw [hg']
  simp only [stepG.apply, Sem.runT_eq, if_true, hr, GStep.after]
  exact ⟨_, rfl⟩

theorem finish_put (ho : ops[i]? = some o) (b : Frame) (k : List Item) (v : Value) : (b.at a (.inRegion ops (i :: rest) :: k)).finish v = b.at (a.put o.dst v) (.inRegion ops rest :: k) := by
  rw [Frame.finish_at, ho]; rfl

variable {c cap s r : Nat} {buf : Array Value} {z z' v : Value} {tm closed : Bool}

/-- A send with room. -/
theorem step_send (ho : ops[i]? = some o) (hw : Region.wanted o (yielded ops a.tmps) = true) (hr : (execOp a.eval o).run P w = .ok (.comm #[scase c v z'] true .send) w)
    (hc : w.heap[c]? = some (.chan cap buf false s r tm)) (hroom : buf.size < cap) (b : Frame) (k : List Item) (cs : List Frame) :
    step P (lone (b.at a (.inRegion ops (i :: rest) :: k)) cs w) = .next (lone (b.at (a.put o.dst undef) (.inRegion ops rest :: k)) cs (w.setChan c cap (buf.push v) false (s + 1) r tm)) := by
  obtain ⟨es, h⟩ := stepG_comm_any (rest := rest) ho hw hr b k cs
  rw [lone_eq_solo, step_lone_send_room h hc hroom, finish_put ho]
  rfl

/-- A select of one receive, with a default: there is something. -/
theorem step_sel_recv (ho : ops[i]? = some o) (hw : Region.wanted o (yielded ops a.tmps) = true) (hr : (execOp a.eval o).run P w = .ok (.comm #[rcase c z] false .select) w)
    (hc : w.heap[c]? = some (.chan cap buf closed s r tm)) (hsome : 0 < buf.size) (b : Frame) (k : List Item) (cs : List Frame) :
    step P (lone (b.at a (.inRegion ops (i :: rest) :: k)) cs w) = .next (lone (b.at (a.put o.dst (.tuple #[goInt 0, .bool true, buf.getD 0 undef])) (.inRegion ops rest :: k)) cs (w.setChan c cap (buf.extract 1 buf.size) closed s (r + 1) tm)) := by
  obtain ⟨es, h⟩ := stepG_comm_any (rest := rest) ho hw hr b k cs
  rw [lone_eq_solo, step_lone_select_recv_buf h hc hsome, finish_put ho]
  rfl

/-- The same, the queue written out. -/
theorem step_sel_recv_cons {vs : List Value} (ho : ops[i]? = some o) (hw : Region.wanted o (yielded ops a.tmps) = true) (hr : (execOp a.eval o).run P w = .ok (.comm #[rcase c z] false .select) w)
    (hc : w.heap[c]? = some (.chan cap (v :: vs).toArray closed s r tm)) (b : Frame) (k : List Item) (cs : List Frame) :
    step P (lone (b.at a (.inRegion ops (i :: rest) :: k)) cs w) = .next (lone (b.at (a.put o.dst (.tuple #[goInt 0, .bool true, v])) (.inRegion ops rest :: k)) cs (w.setChan c cap vs.toArray closed s (r + 1) tm)) := by
  have := step_sel_recv (rest := rest) ho hw hr hc (by simp) b k cs
  simpa using this

/-- A select of one receive, with a default: there is nothing. -/
theorem step_sel_none (ho : ops[i]? = some o) (hw : Region.wanted o (yielded ops a.tmps) = true) (hr : (execOp a.eval o).run P w = .ok (.comm #[rcase c z] false .select) w)
    (hc : w.heap[c]? = some (.chan cap #[] false s r tm)) (b : Frame) (k : List Item) (cs : List Frame) :
    step P (lone (b.at a (.inRegion ops (i :: rest) :: k)) cs w) = .next (lone (b.at (a.put o.dst (.tuple #[goInt (-1), .bool false, z])) (.inRegion ops rest :: k)) cs w) := by
  obtain ⟨es, h⟩ := stepG_comm_any (rest := rest) ho hw hr b k cs
  rw [lone_eq_solo, step_lone_select_default h hc, finish_put ho]
  rfl

/-- A select of one send, with a default: there is room. -/
theorem step_sel_send (ho : ops[i]? = some o) (hw : Region.wanted o (yielded ops a.tmps) = true) (hr : (execOp a.eval o).run P w = .ok (.comm #[scase c v z'] false .select) w)
    (hc : w.heap[c]? = some (.chan cap buf false s r tm)) (hroom : buf.size < cap) (b : Frame) (k : List Item) (cs : List Frame) :
    step P (lone (b.at a (.inRegion ops (i :: rest) :: k)) cs w) = .next (lone (b.at (a.put o.dst (.tuple #[goInt 0, .bool false])) (.inRegion ops rest :: k)) cs (w.setChan c cap (buf.push v) false (s + 1) r tm)) := by
  obtain ⟨es, h⟩ := stepG_comm_any (rest := rest) ho hw hr b k cs
  rw [lone_eq_solo, step_lone_select_send_room h hc hroom, finish_put ho]
  rfl

/-- A select of one send, with a default: there is no room. -/
theorem step_sel_full (ho : ops[i]? = some o) (hw : Region.wanted o (yielded ops a.tmps) = true) (hr : (execOp a.eval o).run P w = .ok (.comm #[scase c v z'] false .select) w)
    (hc : w.heap[c]? = some (.chan cap buf false s r tm)) (hfull : cap ≤ buf.size) (b : Frame) (k : List Item) (cs : List Frame) :
    step P (lone (b.at a (.inRegion ops (i :: rest) :: k)) cs w) = .next (lone (b.at (a.put o.dst (.tuple #[goInt (-1), .bool false])) (.inRegion ops rest :: k)) cs w) := by
  obtain ⟨es, h⟩ := stepG_comm_any (rest := rest) ho hw hr b k cs
  rw [lone_eq_solo, step_lone_select_send_full h hc hfull, finish_put ho]
  rfl

/-- Two channels are compared. -/
theorem run_equalIn_chan (d : Nat) {t e : TypeId} {dir : ChanDir} (ht : P.underlying t = some (.chan dir e)) (x y : Option Nat) : (Op.equalIn (d + 1) t (.chan x) (.chan y)).run P w = .ok (x == y) w := by
  simp [Op.equalIn, run_underlying ht]
theorem run_eql_chan {t e : TypeId} {dir : ChanDir} (ht : P.underlying t = some (.chan dir e)) (x y : Option Nat) : (binOp .eql t (.chan x) (.chan y)).run P w = .ok (.bool (x == y)) w := by
  simp only [binOp]
  simp [Op.equal, Op.maxDepth, run_equalIn_chan (w := w) 9999 ht]

/-- A region whose first operation is a communication. -/
theorem wp_region_first {id : Nat} {os : List Oper}
    (hs : ∀ (b : Frame) (k : List Item) (cs : List Frame), step P (lone (b.at a (.inRegion (o :: os).toArray (0 :: List.range' 1 os.length) :: k)) cs w) = .next (lone (b.at a' (.inRegion (o :: os).toArray (List.range' 1 os.length) :: k)) cs w'))
    (h : wpList P (o :: os).toArray Q os a' w') : (Code.region id (o :: os).toArray false).wp P Q a w := by
  refine WOps.region ?_
  have e : List.range (o :: os).toArray.size = 0 :: List.range' 1 os.length := by
    rw [List.range_eq_range']
    simp [List.range'_succ]
  rw [e]
  refine WOps.step hs (.of_wpOps ?_)
  rw [wpOps_eq_wpList os 1 (fun j => by simp [Nat.add_comm 1 j])]
  exact h

/-! ### what a channel's turn leaves -/
theorem cell_setChan (hc : w.heap[c]? = some (.chan cap buf closed s r tm)) (cap' : Nat) (buf' : Array Value) (closed' : Bool) (s' r' : Nat) (tm' : Bool) (ad : Addr) :
    (w.setChan c cap' buf' closed' s' r' tm').cell? ad = w.cell? ad := by
  obtain ⟨b, of, sp⟩ := ad
  by_cases hb : b = c
  · subst hb
    have hlt : b < w.heap.size := (Array.getElem?_eq_some_iff.1 hc).1
    simp only [World.cell?, World.setChan, hc]
    rw [Array.getElem?_setIfInBounds_self_of_lt hlt]
  · simp only [World.cell?, World.setChan]
    rw [Array.getElem?_setIfInBounds_ne (by omega)]

theorem frozen_setChan (hc : w.heap[c]? = some (.chan cap buf closed s r tm)) (cap' : Nat) (buf' : Array Value) (closed' : Bool) (s' r' : Nat) (tm' : Bool) (ad : Addr) :
    (w.setChan c cap' buf' closed' s' r' tm').frozen? ad = w.frozen? ad := by
  obtain ⟨b, of, sp⟩ := ad
  by_cases hb : b = c
  · subst hb
    have hlt : b < w.heap.size := (Array.getElem?_eq_some_iff.1 hc).1
    simp only [World.frozen?, World.setChan, hc]
    rw [Array.getElem?_setIfInBounds_self_of_lt hlt]
  · simp only [World.frozen?, World.setChan]
    rw [Array.getElem?_setIfInBounds_ne (by omega)]

theorem fr_setChan (w : World) (c : Nat) (cap' : Nat) (buf' : Array Value) (closed' : Bool) (s' r' : Nat) (tm' : Bool) : Fr (· = c) w (w.setChan c cap' buf' closed' s' r' tm') :=
  ⟨rfl, rfl, rfl, by simp [World.setChan], fun k _ hk => by
    simp only [World.setChan]
    rw [Array.getElem?_setIfInBounds_ne (fun e => hk e.symm)]⟩

theorem heap_setChan_ne (w : World) (c : Nat) (cap' : Nat) (buf' : Array Value) (closed' : Bool) (s' r' : Nat) (tm' : Bool) {b : Nat} (hb : b ≠ c) :
    (w.setChan c cap' buf' closed' s' r' tm').heap[b]? = w.heap[b]? := by
  simp only [World.setChan]
  rw [Array.getElem?_setIfInBounds_ne (by omega)]
end

end Go.Proofs.Ytokgggcjfhebnaa
