/-
  ConfigFinds's row: of whatever configuration, of bulk at most 1048576, that may be: each workload is found by its number, and by its address, each service by its address; each workload of a service is among its endpoints, once, and among those of no other one.
-/
import Derived.Test.YtmnfjejphmmddaaGreatWa
import Derived.Test.YtmnfjejphmmddaaGreatLay
import Derived.Test.YtmnfjejphmmddaaGreatWl
import Derived.Test.YtmnfjejphmmddaaGreatKa
import Derived.Test.YtmnfjejphmmddaaGreatRdx
import Derived.Test.YtmnfjejphmmddaaGreatK16
import Derived.Test.YtmnfjejphmmddaaGreatFacts7
import Derived.Carry
set_option linter.unusedVariables false
set_option maxRecDepth 100000
namespace Go.Proofs.YtmnfjejphmmddaaGreat
open Go.ChangeShapes Go.WideShapes Go.ChangeAt Go.RowKit

/-- Nothing is one's own yet. -/
def rho0 : Rh := ⟨fun _ => 0, fun _ => False, fun _ => False, fun _ => False, fun _ => False⟩
theorem rel0 (w : World) : Rel w.heap.size rho0 ⟨[], 0⟩ w where
  dom i h := h.elim
  ln i h := h.elim
  live i hi := by simp at hi
  lo i h := h.elim
  base := Nat.le_refl _
  inj i j _ h := h.elim
  mem i hi := by simp at hi
  xB b h := h.elim
  gB b h := h.elim
theorem st0 {w : World} {b : Nat} : St rho0 w b ↔ b < w.heap.size := ⟨fun h => h.1, fun h => ⟨h, fun i => ⟨fun hi => hi.elim, fun hx => hx⟩⟩⟩
theorem DL.vrs {w : World} : ∀ {ds : List D} {cs : List Value}, DL (· < w.heap.size) w ds cs → VRs rho0 (St rho0 w) w (ds.map .d) cs ∧ ∀ u ∈ cs, u.oneCell' = true
  | [], cs, h => by simp only [DL] at h; subst h; exact ⟨by simp only [List.map_nil, VRs], by simp⟩
  | d :: ds, cs, h => by
    simp only [DL] at h
    obtain ⟨u, us, rfl, h1, h2⟩ := h
    have ih := DL.vrs h2
    refine ⟨by simp only [List.map_cons, VRs]; exact ⟨u, us, rfl, by simp only [VR]; exact DR.mono (fun b hb => st0.2 hb) (fun _ _ => rfl) h1, ih.1⟩, ?_⟩
    intro x hx
    rcases List.mem_cons.1 hx with rfl | hx
    · exact h1.one
    · exact ih.2 x hx
theorem vr_ag {w : World} {ds : List D} {cs : Array Value} (h : DL (· < w.heap.size) w ds cs.toList) : VR rho0 (St rho0 w) w (ag ds) (.agg cs) := by
  simp only [ag, VR]
  exact ⟨cs, rfl, h.vrs.1, h.vrs.2⟩
theorem vr_one {w : World} {d : D} {v : Value} (h : DL (· < w.heap.size) w [d] [v]) : VR rho0 (St rho0 w) w (.d d) v := by
  have := h.vrs.1
  simp only [List.map_cons, List.map_nil, VRs] at this
  obtain ⟨u, us, e, h1, _⟩ := this
  simp at e
  rw [e.1]; exact h1

theorem own : ownKnob Tryz.prog.godebug = none := by kernel_rfl
theorem mixed : Tryz.prog.follows .mixedOrders = true := Checked.mixed Tryz.checked
theorem awake_ok : CallsOk Tryz.prog (known 33 true) := known_ok mixed (Tab.look_ok tabK_ok) okK_self (by kernel_rfl) awake_run

/-- What a law answers in the reading, its call answers. -/
theorem law_calls {E : Calls'} (hE : CallsOk Tryz.prog E) {T : FuncId → Option QF} {val : FuncId → Bool} (hT : TabA Tryz.prog T) {f : FuncId} {args : List V} {W : World} {vs : Array Value} (hv : VRs rho0 (St rho0 W) W args vs.toList) (hs : Sm E T val f args ⟨[], 0⟩ = some (bl true, ⟨[], 0⟩)) :
    Calls Tryz.prog f vs W fun e W' => e = .returned (.bool true) ∧ Below W.heap.size W W' := by
  obtain ⟨_, _, h3⟩ := Sm_ok (val := val) mixed hE hT f args ⟨[], 0⟩ _ _ hs
  refine (h3 W.heap.size rho0 W vs (rel0 W) hv).mono fun e W' ⟨v, ρ', k1, k2, k3, k4⟩ => ?_
  refine ⟨?_, k3.below⟩
  rw [k1]
  simp only [VRx, VR, DR] at k4
  simp [k4]

/-- No call is known. -/
theorem none_ok : CallsOk Tryz.prog (fun _ _ _ => none) := fun f args h r h' hm => by cases hm
theorem tabP_ok : TabA Tryz.prog TP := lookT_ok (by
  simp only [tabP, List.mem_cons, List.not_mem_nil, or_false]
  rintro p (rfl | rfl | rfl)
  · exact ok385
  · exact ok372
  · exact ok445)
theorem sort_enter (vs : Array Value) (w : World) : (callFunc 443 vs).run Tryz.prog w = .ok (.enter 443 vs) w :=
  callFunc_enter Tryz.func443 rfl (by decide) vs w
theorem E1_ok : CallsOk Tryz.prog E1 := by
  intro f args h r h' hm
  simp only [E1] at hm
  split at hm
  · rename_i hf
    have hf' : f = 443 := Nat.eq_of_beq_eq_true hf
    subst hf'
    exact ⟨sort_enter, sortE_low hm, fun B ρ w vs hR hv => sortE_ok lays189 hR hv hm⟩
  · exact Sm_ok mixed none_ok tabT_ok f args h r h' hm
/-- What awake() answers, what policy.target does: known. -/
noncomputable def E2 : Calls' := fun f args h => match Nat.beq f 385 with
  | true => Sm E1 TP valP f args h
  | false => known 33 true f args h
theorem E2_ok : CallsOk Tryz.prog E2 := by
  intro f args h r h' hm
  simp only [E2] at hm
  split at hm
  · exact Sm_ok mixed E1_ok tabP_ok f args h r h' hm
  · exact awake_ok f args h r h' hm

namespace configFinds
theorem finds_any {W : World} {c : Cfg} (hc : c.wf 1048576) (hcb : c.wf big) {cs : Array Value} (h0 : DL (· < W.heap.size) W c.c cs.toList) :
    Calls Tryz.prog 7 #[.agg cs] W fun e W' => e = .returned (.bool true) ∧ Below W.heap.size W W' := by
  refine law_calls (E := E2) E2_ok tabT_ok (args := [c.v]) ?_ (S7 (fun h => ?_) (fun t ht h => ?_) c hc hcb ⟨[], 0⟩)
  · simp only [VRs]
    exact ⟨_, _, rfl, vr_ag h0, rfl⟩
  · rw [Sm_ext (by kernel_rfl)]
    simp [E2, known]
  · show (match Nat.beq 385 385 with
      | true => Sm E1 TP valP 385 [ag t.c] h
      | false => known 33 true 385 [ag t.c] h) = _
    exact S385 t ht h
theorem lifted (os : Os) (started : os.Started) (H : Type) (enc : TypeId × Value → H) (F : Stop.Interp) :
    ReturnsInHanded {} Tryz.checked os 7 .any ((Go.Proofs.YtmnfjejphmmddaaGreat.Rows.OpenSpec.upto Go.Proofs.YtmnfjejphmmddaaGreat.Rows.configFindsSpec).pre6 enc Tryz.prog Tryz.f7 Go.Proofs.YtmnfjejphmmddaaGreat.Rows.configFindsUptoRow.domain false) (((Go.Proofs.YtmnfjejphmmddaaGreat.Rows.OpenSpec.upto Go.Proofs.YtmnfjejphmmddaaGreat.Rows.configFindsSpec).at F).post enc Tryz.prog Tryz.f7 false true false false) := by
  refine returnsInHanded_of_cond (C := Tryz.checked) (s := Go.Proofs.YtmnfjejphmmddaaGreat.Rows.OpenSpec.upto Go.Proofs.YtmnfjejphmmddaaGreat.Rows.configFindsSpec) (k := Go.Proofs.YtmnfjejphmmddaaGreat.Rows.uptoSmall) rfl own started (by kernel_rfl) Tryz.func7
    (OpenSpec.witness (enc := enc) (C := Tryz.checked) (s := Go.Proofs.YtmnfjejphmmddaaGreat.Rows.OpenSpec.upto Go.Proofs.YtmnfjejphmmddaaGreat.Rows.configFindsSpec) (k := Go.Proofs.YtmnfjejphmmddaaGreat.Rows.uptoSmall) rfl false ⟨#[], #[.agg #[.int .u64 0, .int .u64 0, .int .i64 0, .int .i64 0, .slice none 0 0, .slice none 0 0, .slice none 0 0, .slice none 0 0]], []⟩ 8
      (by kernel_rfl) (by kernel_rfl) (by kernel_rfl) (x := ([.agg [.lit (.int .u64 0), .lit (.int .u64 0), .lit (.int .i64 0), .lit (.int .i64 0), .nil, .nil, .nil, .nil]], [], [])) (by kernel_rfl) rfl (by rfl)) ?_
  intro W base args ds gs before hval0 hW hcnd hkk _
  have hval : ∀ (j : Nat) t v, Tryz.f7.params[j]? = some t → args[j]? = some v → Value.okWide Tryz.prog W .any base t v := hval0
  have hW' := hW
  obtain ⟨p, q, hA0, hV, rfl, hfz, hnd⟩ := hW
  have hA : DataW.TrodAll enc Tryz.prog W 0 (fun _ => true) true Tryz.f7.params.toList args.toList ds p := hA0
  rw [Tryz.params7] at hA hval
  obtain ⟨v0, vs1, d0, ds1, p0, q1, ha1, rfl, rfl, h0, hA⟩ := trodAll_cons hA
  obtain ⟨rfl, rfl, rfl⟩ := trodAll_nil hA
  have hargs : args = #[v0] := by apply Array.ext'; simpa using ha1
  subst hargs
  obtain ⟨rfl, rfl⟩ := trodVars_none hV
  have hsm : bulks [d0] ≤ 1048576 := by simpa [Go.Proofs.YtmnfjejphmmddaaGreat.Rows.uptoSmall] using hkk
  obtain ⟨cs, rfl, hcs⟩ := okWide_struct Tryz.underlying76 (hval 0 76 v0 rfl rfl)
  have hlt0 : ∀ x ∈ p0, x.block < W.heap.size := fun x hx => hW'.lt x (by simp [hx])
  have h0' := h0
  obtain ⟨f0, g0⟩ := h0
  obtain ⟨c, hc1, hc2⟩ := rd_Cfg (B := 1048576) _ _ _ g0 (Nat.le_trans (bulk_mem (by simp)) hsm)
  refine (finds_any hc2 (Cfg.wf.le (by decide) hc2) hc1).mono fun e W' ⟨he, hb⟩ => ?_
  subst he
  have k0 := Below.trod laidOut (by kernel_rfl) (of_decide_eq_true (by kernel_rfl)) h0' hb hlt0
  exact ⟨_, rfl, _, _, _, [], _, [], hW', trodAll_mk1 (shut_bool Tryz.underlying4 true), trodAll_mk1 k0, rfl, hb.frame _, fun h => by cases h⟩
theorem proved : Go.Proofs.YtmnfjejphmmddaaGreat.Rows.ConfigFindsUptoSaid :=
  OpenClaim.holds_of_cond 7 Tryz.f7 rfl rfl rfl rfl rfl rfl rfl ⟨rfl, rfl, rfl, rfl, rfl⟩ rfl rfl rfl rfl rfl named Tryz.func7 facts
    (of_decide_eq_true (by kernel_rfl)) (by unfold Func.isWrapper; first | (rw [if_pos (by decide +kernel)]; kernel_rfl) | (rw [if_neg (by decide +kernel)]; exact ⟨rfl, rfl⟩))
    (fun os started H enc _ F => lifted os started H enc F)
end configFinds
end Go.Proofs.YtmnfjejphmmddaaGreat
