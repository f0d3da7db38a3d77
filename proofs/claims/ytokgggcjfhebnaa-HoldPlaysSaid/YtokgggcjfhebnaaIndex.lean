/-
  slices.IndexFunc and slices.ContainsFunc over a row of requests of one's own, by a function that captured one variable.
-/
import Derived.Test.YtokgggcjfhebnaaMeth
set_option linter.unusedVariables false
namespace Go.Proofs.Ytokgggcjfhebnaa
open Go.RowKit Go.Conc

/-- The one block that might have turned has not. -/
theorem Fr.fix {d : Nat} {w w' : World} (h : Fr (· = d) w w') (hd : w'.heap[d]? = w.heap[d]?) : Fr (fun _ => False) w w' :=
  ⟨h.os, h.tape, h.output, h.size, fun k hk _ => by
    by_cases e : k = d
    · rw [e]; exact hd
    · exact h.block k hk e⟩

/-- Where the first one is that is so; -1: there is none. -/
def idxOf (p : HD → Bool) (ys : List HQ) : Int := if ys.any (fun q => p q.x) = true then (ys.findIdx (fun q => p q.x) : Int) else -1

theorem idxOf_yes {p : HD → Bool} {ys : List HQ} {k : Nat} (hk : k < ys.length) (hno : ∀ j, (hj : j < k) → (hk : k ≤ ys.length) → p (ys[j]'(by omega)).x = false) (hp : p ys[k].x = true) : idxOf p ys = k := by
  have h1 : ys.any (fun q => p q.x) = true := List.any_eq_true.2 ⟨_, List.getElem_mem hk, hp⟩
  rw [idxOf, if_pos h1]
  congr 1
  rw [List.findIdx_eq hk]
  exact ⟨hp, fun j hj => hno j hj (by omega)⟩

theorem idxOf_no {p : HD → Bool} {ys : List HQ} (hno : ∀ j, (hj : j < ys.length) → p ys[j].x = false) : idxOf p ys = -1 := by
  rw [idxOf, if_neg]
  intro h
  obtain ⟨q, hq, hp⟩ := List.any_eq_true.1 h
  obtain ⟨j, hj, rfl⟩ := List.getElem_of_mem hq
  rw [hno j hj] at hp
  cases hp

theorem idxOf_nonneg (p : HD → Bool) (ys : List HQ) : decide (0 ≤ idxOf p ys) = ys.any (fun q => p q.x) := by
  unfold idxOf
  cases h : ys.any (fun q => p q.x) <;> simp

set_option maxHeartbeats 1000000 in
theorem index_any {w : World} {B d f : Nat} {p : HD → Bool} {v : Value} {o : Obj} {ys : List HQ} (hv : Owned w B v ys) (hok : ∀ q ∈ ys, q.x.bs.length ≤ 4096) (hn : ys.length ≤ 16) (hdB : ∀ b ∈ blocks (v :: ys.map HQ.s), b ≠ d)
    (hd : w.heap[d]? = some o) (hcl : ClosOk f d p (JCell d o)) (hcall : ∀ args w, (callFunc f args).run Try.prog w = .ok (.enter f args) w) :
    Calls Try.prog 38 #[v, .func (.func f) #[] #[.pointer (some ⟨d, 0, none⟩)]] w fun e w' =>
      e = .returned (.int .i64 (idxOf p ys)) ∧ Fr (fun _ => False) w w' := by
  obtain ⟨va, vc, rfl⟩ := ownsRow_slice hv.row
  have Hv := Lib.hid hv
  have Hok := Lib.hid hok
  have Hdb := Lib.hid hdB
  have Hcl := Lib.hid hcl
  have Hd := Lib.hid hd
  clear hv hok hdB hcl hd
  go_enter Try.func38, Try.ntmps38
  go_wp2_with fail
  go_loopw [8] (fun i wr => ∃ k : Nat, k ≤ ys.length ∧ i = .int .i64 k ∧ (∀ j, (hj : j < k) → (hk : k ≤ ys.length) → p (ys[j]'(by omega)).x = false) ∧ Fr (· = d) w wr ∧ wr.heap[d]? = some o) (fun i _ => ys.length - (intOf i).toNat)
  case atStart => exact ⟨0, Nat.zero_le _, rfl, fun j hj => by omega, Fr.refl _ _, Hd.out⟩
  case round =>
    obtain ⟨k, hk, rfl, hno, hfr, hcd⟩ := hrel
    have Hno := Lib.hid hno
    have Hfr := Lib.hid hfr
    have Hcd := Lib.hid hcd
    clear hno hfr hcd
    by_cases hlt : k < ys.length
    · have hrow := ownsRow_fr Hv.out.row Hfr.out (fun g hg => Hdb.out g (mem_blocks.2 ⟨_, by simp, hg⟩))
      obtain ⟨g, rfl, hg1, hg2, hcs⟩ := row_cells hrow hlt rfl
      have hmem : ys[k] ∈ ys := List.getElem_mem hlt
      have hby := (ownsRow_fr (Hv.out.bytes _ hmem) Hfr.out (fun g hg => Hdb.out g (mem_blocks.2 ⟨_, by simp; exact .inr ⟨_, hmem, rfl⟩, hg⟩))).1
      have hlen := Hok.out _ hmem
      have hbr : BytesR (· < wr.heap.size) wr ys[k].s ys[k].x.bs := by
        have h0 := ownsRow_fr (Hv.out.bytes _ hmem) Hfr.out (fun g hg => Hdb.out g (mem_blocks.2 ⟨_, by simp; exact .inr ⟨_, hmem, rfl⟩, hg⟩))
        exact (OwnB.bytesR h0).mono (fun b hb => (h0.lt b hb).2)
      clear hrow hby
      generalize hQ : ys[k] = q at *
      have HQk := Lib.hid hQ
      clear hQ hmem
      obtain ⟨x, a, n, cc⟩ := q
      obtain ⟨p0, p1, p2, p3, p4, p5⟩ := row6 hcs
      simp only [HQ.s] at p5
      have Hbr := Lib.hid hbr
      have Hlen := Lib.hid hlen
      clear hcs hbr hlen
      go_wp2_with fail
      refine (Hcl.out [] (· = d) _ ⟨x, a, n, cc⟩ ⟨rfl, Hcd.out⟩ (by simp) Hbr.out Hlen.out).mono ?_
      rintro e w2 ⟨rfl, F', ⟨rfl, hcd2⟩, hfr2, -⟩
      have Hfr2 := Lib.hid hfr2
      have Hcd2 := Lib.hid hcd2
      clear hfr2 hcd2
      cases hpx : p x
      · go_wp2_with fail
        go_roundw
        case rel =>
          refine ⟨k + 1, by omega, by go_num, fun j hj hk1 => ?_, Hfr.out.trans Hfr2.out, Hcd2.out⟩
          rcases Nat.lt_succ_iff_lt_or_eq.1 hj with h | rfl
          · exact Hno.out j h (by omega)
          · rw [HQk.out]; exact hpx
        case measure => simp [intOf]; omega
      · go_wp2_with fail
        go_ret
        exact ⟨ret_int (idxOf_yes hlt Hno.out (by rw [HQk.out]; exact hpx)).symm, (Hfr.out.trans Hfr2.out).fix (by rw [Hcd2.out, Hd.out])⟩
    · go_wp2_with fail
      have ek : k = ys.length := by omega
      subst ek
      go_ret
      exact ⟨ret_int (idxOf_no (fun j hj => Hno.out j hj (Nat.le_refl _))).symm, Hfr.out.fix (by rw [Hcd.out, Hd.out])⟩

theorem contains_any {w : World} {B d f : Nat} {p : HD → Bool} {v : Value} {o : Obj} {ys : List HQ} (hv : Owned w B v ys) (hok : ∀ q ∈ ys, q.x.bs.length ≤ 4096) (hn : ys.length ≤ 16) (hdB : ∀ b ∈ blocks (v :: ys.map HQ.s), b ≠ d)
    (hd : w.heap[d]? = some o) (hcl : ClosOk f d p (JCell d o)) (hcall : ∀ args w, (callFunc f args).run Try.prog w = .ok (.enter f args) w) :
    Calls Try.prog 28 #[v, .func (.func f) #[] #[.pointer (some ⟨d, 0, none⟩)]] w fun e w' =>
      e = .returned (.bool (ys.any (fun q => p q.x))) ∧ Fr (fun _ => False) w w' := by
  have H := index_any hv hok hn hdB hd hcl hcall
  have HH := Lib.hid H
  clear H hv hok hdB hd hcl
  go_enter Try.func28, Try.ntmps28
  go_wp2_with fail
  refine HH.out.mono ?_
  rintro e w2 ⟨rfl, hfr⟩
  go_wp2
  go_ret
  exact ⟨ret_bool (idxOf_nonneg _ _), hfr⟩

end Go.Proofs.Ytokgggcjfhebnaa
