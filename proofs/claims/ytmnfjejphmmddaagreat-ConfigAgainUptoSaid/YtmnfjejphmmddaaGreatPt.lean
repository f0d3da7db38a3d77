/-
  Regions whose order is open: all together.
-/
import Derived.Test.YtmnfjejphmmddaaGreatPy
set_option linter.unusedVariables false
set_option linter.unusedSimpArgs false
namespace Go.Proofs.YtmnfjejphmmddaaGreat
open Go.RowKit

theorem pad_rel {B : Nat} {ρ : Rh} {h h' : Hp} {w : World} (hR : Rel B ρ h w) (hle : h.bs.length ≤ h'.bs.length) (hs : ∀ b, b < h.bs.length → h'.bs[b]? = h.bs[b]?) (hd : ∀ b, h.bs.length ≤ b → b < h'.bs.length → h'.bs[b]? = some (.cells [])) : Rel B ρ h' w := by
  have key : ∀ i (hi : i < h'.bs.length), (∃ hi' : i < h.bs.length, h'.bs[i] = h.bs[i]) ∨ h'.bs[i] = .cells [] := by
    intro i hi
    rcases Nat.lt_or_ge i h.bs.length with q | q
    · have := hs i q
      rw [List.getElem?_eq_getElem hi, List.getElem?_eq_getElem q] at this
      exact .inl ⟨q, Option.some.inj this⟩
    · have := hd i q hi
      rw [List.getElem?_eq_getElem hi] at this
      exact .inr (Option.some.inj this)
  refine ⟨fun i hi => Nat.lt_of_lt_of_le (hR.dom i hi) hle, hR.ln, fun i hi hl => ?_, hR.lo, hR.base, hR.inj, fun i hi => ?_, hR.xB, fun c hc => ⟨(hR.gB c hc).1, Nat.lt_of_lt_of_le (hR.gB c hc).2 hle⟩⟩
  · rcases key i hi with ⟨q, e⟩ | e
    · exact hR.live i q (by rw [← e]; exact hl)
    · rw [e] at hl; simp [Blk.live] at hl
  · rcases key i hi with ⟨q, e⟩ | e
    · rw [e]; exact hR.mem i q
    · rw [e]; simp only [BR]

theorem draw_ok {P : Program} (hmix : P.follows .mixedOrders = true) {C : Calls'} (hC : CallsOk P C) : DrawOk P C := by
  intro B id ops os e h ρ w a e' h' Q hos hdr ho hR hE hQ
  refine wp_region_any hmix ?_
  show wpAny P .any ops Q ops.size (Array.replicate ops.size false) a w.drew
  have hR : Rel B ρ h w.drew := hR.same rfl
  have hE' : ER ρ w.drew e a.tmps := hE.ext (Goes.drew (B := B) w).ext
  obtain ⟨hlen, hcomp⟩ := mapM_some hos
  have hlen' : os.length = ops.size := by simpa using hlen
  -- what is checked
  unfold drawable at hdr
  simp only [Bool.and_eq_true] at hdr
  obtain ⟨hd1, hd2⟩ := hdr
  have hord : ∀ i o, ops[i]? = some o → ∀ e ∈ o.after, Region.binds .any e = true → e.on < i := by
    intro i o hio x hx hb
    have := List.all_eq_true.1 hd1 (o, i) (List.mem_zipIdx_iff_getElem?.2 (by simpa using hio))
    have := List.all_eq_true.1 this x (by simpa using hx)
    simpa [hb] using this
  -- the run
  have hx : ∃ l, runD C os e h = some (l, e', h') ∧ apartD (predsOf ops) l = true := by
    unfold opsD at ho
    split at ho
    · rename_i l e1 h1 hrun
      split at ho
      · rename_i hap
        cases ho
        exact ⟨l, hrun, hap⟩
      · cases ho
    · cases ho
  obtain ⟨l, hrun, hap⟩ := hx
  obtain ⟨E, H, rfl, rfl, rfl, rfl, hll, hsteps⟩ := runD_get hrun
  let S : Nat → Stp := fun k => (l[k]?).getD ⟨H 0, .undef, H 0, noTr (H 0)⟩
  have hS : ∀ k (hk : k < os.length), l[k]? = some (S k) ∧ stepD C os[k] (E k) (H k) = some (S k) ∧ E (k + 1) = setD (E k) os[k].d (S k).v ∧ H (k + 1) = (S k).h' := by
    intro k hk
    obtain ⟨s, p1, p2, p3, p4⟩ := hsteps k hk
    have : S k = s := by simp only [S, p1]; rfl
    rw [this]; exact ⟨p1, p2, p3, p4⟩
  have hco : ∀ k (hk : k < os.length) o, ops[k]? = some o → compO P ops o = some os[k] := by
    intro k hk o hko
    obtain ⟨q1, q2⟩ := Array.getElem?_eq_some_iff.1 hko
    have := hcomp k (by simpa using q1) hk
    simpa [q2] using this
  have hst : ∀ k, k ≤ os.length → Stands (E k) (H k) := by
    intro k
    induction k with
    | zero => intro _; exact ⟨B, ρ, w.drew, a.tmps, hR, hE'⟩
    | succ k ih =>
      intro hk
      obtain ⟨_, p2, p3, p4⟩ := hS k (by omega)
      have hlt : k < ops.size := by omega
      rw [p3, p4]
      exact (ih (by omega)).stepD hC (hco k (by omega) _ (Array.getElem?_eq_getElem hlt)) p2
  have D : Drw P C ops os (fun i j => j ∈ (predsOf ops).getD i []) E H S := by
    refine ⟨hlen', hco, fun k hk => (hS k hk).2, hst, fun k j hj => preds_lt hord (k + 1) k (by omega) j hj, fun k o hko j hj => (preds_mem hord hko).1 hj, fun k o hko x hx hb => (preds_mem hord hko).2 ⟨x, hx, hb, .inl rfl⟩, fun i j hi hj hne n1 n2 => ?_, fun i j hi hj d hd => ?_⟩
    · have := List.all_eq_true.1 hap i (List.mem_range.2 (by omega))
      have := List.all_eq_true.1 this j (List.mem_range.2 (by omega))
      rw [(hS i hi).1, (hS j hj).1] at this
      have c1 : ((predsOf ops).getD i []).contains j = false := by
        cases hq : ((predsOf ops).getD i []).contains j with
        | false => rfl
        | true => exact absurd (by simpa using hq) n1
      have c2 : ((predsOf ops).getD j []).contains i = false := by
        cases hq : ((predsOf ops).getD j []).contains i with
        | false => rfl
        | true => exact absurd (by simpa using hq) n2
      rw [c1, c2] at this
      simpa [hne] using this
    · have := List.all_eq_true.1 hd2 i (List.mem_range.2 hi)
      have := List.all_eq_true.1 this j (List.mem_range.2 hj)
      rw [List.getElem?_eq_getElem hi, List.getElem?_eq_getElem hj] at this
      simp only [hd, Bool.and_eq_true] at this
      obtain ⟨t1, t2⟩ := this
      refine ⟨fun hne => ?_, fun hsee => ?_⟩
      · rcases Bool.or_eq_true_iff.1 t1 with q | q
        · exact absurd (by simpa using q) hne
        · simpa using q
      · rcases Bool.or_eq_true_iff.1 t2 with q | q
        · rcases Bool.or_eq_true_iff.1 q with q | q
          · have hcon : (seesO os[i]).contains d = true := by simpa using hsee
            rw [hcon] at q; cases q
          · simp only [Bool.and_eq_true] at q
            exact .inl (by simpa using q.2)
        · simp only [Bool.and_eq_true] at q
          exact .inr (by simpa using q.2)
  -- the first state
  have hT := D.le hC (k := 0) (j := os.length) (by omega) (by omega)
  let hS0 : Hp := ⟨(List.range (H os.length).bs.length).map fun b => (H 0).bs.getD b (.cells []), 0⟩
  have hl0 : hS0.bs.length = (H os.length).bs.length := by simp [hS0]
  have hg0 : ∀ b, b < (H os.length).bs.length → hS0.bs[b]? = some ((H 0).bs.getD b (.cells [])) := fun b hb => by
    simp only [hS0, List.getElem?_map, List.getElem?_range hb, Option.map_some]
  have hR0 : Rel B ρ hS0 w.drew := pad_rel hR (by omega) (fun b hb => by rw [hg0 b (by omega), getD_some hb]) fun b hb hb2 => by
    rw [hg0 b (by omega), List.getD_eq_getElem?_getD, List.getElem?_eq_none hb]; rfl
  have hf : ∀ k, ¬ (Array.replicate ops.size false).getD k false = true := fun k => by
    simp only [Array.getD_eq_getD_getElem?, Array.getElem?_replicate]
    split <;> simp
  have M : Mid P C os (fun i j => j ∈ (predsOf ops).getD i []) E H B ρ w.drew a (fun k => (Array.replicate ops.size false).getD k false = true) a w.drew ρ hS0 (E 0) := by
    refine ⟨hR0, Goes.refl _ _ _, hE', rfl, hl0, rfl, fun k j hk hlk _ => absurd hlk (hf k), fun t j hj ha _ => ?_, fun b j hj ha _ => ?_, fun b hb => .inl (hR.dom b hb), fun b hb => (hR.gB b hb).2⟩
    · have : ∀ d, d ≤ j → (E d).getD t .undef = (E 0).getD t .undef := by
        intro d
        induction d with
        | zero => intro _; rfl
        | succ d ih =>
          intro hd
          rw [← ih (by omega), (D.step d (by omega)).2.1]
          exact setD_get fun q => hf d (ha d (by omega) ⟨os[d], List.getElem?_eq_getElem (by omega), q⟩)
      exact (this j (Nat.le_refl _)).symm
    · have : ∀ d, d ≤ j → (H d).bs[b]? = (H 0).bs[b]? := by
        intro d
        induction d with
        | zero => intro _; rfl
        | succ d ih =>
          intro hd
          rw [← ih (by omega)]
          exact Classical.byContradiction fun q => hf d (ha d (by omega) q)
      rw [getD_of (this j (Nat.le_refl _))]
      rcases Nat.lt_or_ge b (H os.length).bs.length with q | q
      · have := hg0 b q
        rw [List.getD_eq_getElem?_getD, this]; rfl
      · simp only [List.getD_eq_getElem?_getD]
        rw [List.getElem?_eq_none (by omega), List.getElem?_eq_none (by omega)]
  refine any_wp hC D (fun lst a' w' ρ' hS' eS' hall M' => ?_) ops.size (Array.replicate ops.size false) a w.drew ρ hS0 (E 0) (by simp [hlen']) M ?_
  · have hb : hS'.bs = (H os.length).bs := List.ext_getElem? fun b => by
      have := M'.mem b os.length (Nat.le_refl _) (fun k hk _ => hall k hk) fun k h1 h2 => by omega
      rcases Nat.lt_or_ge b (H os.length).bs.length with q | q
      · rw [getD_some (l := hS'.bs) (by rw [M'.len]; exact q), getD_some q, this]
      · rw [List.getElem?_eq_none q, List.getElem?_eq_none (by rw [M'.len]; exact q)]
    refine hQ a' w' ⟨ρ', M'.rel.bs hb.symm, (Goes.drew w).trans M'.goes, ⟨?_, fun i => ?_⟩, M'.defers⟩
    · rw [D.elen os.length (Nat.le_refl _), ← M'.elen]; exact M'.er.1
    · rw [← M'.env i os.length (Nat.le_refl _) (fun k hk _ => hall k hk) fun k h1 h2 => by omega]
      exact M'.er.2 i
  · rw [← hlen']
    exact Nat.le_trans (List.length_filter_le _ _) (by simp)

/-- All functions that are told of, in a program whose orders are mixed. -/
theorem reads {P : Program} (hmix : P.follows .mixedOrders = true) {E : Calls'} (hE : CallsOk P E) {F : FuncId → Option RF} (val : FuncId → Bool) (hT : TabOk P F) (k : Nat) : CallsOk P (semN E F val k) :=
  sem_ok hE val hT (fun _ hC => draw_ok hmix hC) k

end Go.Proofs.YtmnfjejphmmddaaGreat
