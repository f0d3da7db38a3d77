/-
  ViewFinds's row: of whatever view, of bulk at most 1048576, what stands at any address, and which of its policies hold for whom, are the document's.
-/
import Derived.Test.YtmnfjejphmmddaaGreatVa
import Derived.Test.YtmnfjejphmmddaaGreatKf
import Derived.Test.YtmnfjejphmmddaaGreatRdv
import Derived.Test.YtmnfjejphmmddaaGreatK17
import Derived.Test.YtmnfjejphmmddaaGreatFacts12
import Derived.Carry
set_option linter.unusedVariables false
set_option maxRecDepth 100000
namespace Go.Proofs.YtmnfjejphmmddaaGreat
open Go.ChangeShapes Go.WideShapes Go.ChangeAt Go.RowKit

/-- Nothing is one's own yet. -/
def rho0 : Rh := ⟨fun _ => 0, fun _ => False, fun _ => False, fun _ => False, fun _ => False⟩
theorem rel0 (w : World) : Rel w.heap.size rho0 ⟨[], 0⟩ w where
  dom i h := h.elim
  ln i h := h.elim
  live i hi := by simp at hi
  lo i h := h.elim
  base := Nat.le_refl _
  inj i j _ h := h.elim
  mem i hi := by simp at hi
  xB b h := h.elim
  gB b h := h.elim
theorem st0 {w : World} {b : Nat} : St rho0 w b ↔ b < w.heap.size := ⟨fun h => h.1, fun h => ⟨h, fun i => ⟨fun hi => hi.elim, fun hx => hx⟩⟩⟩
theorem DL.vrs {w : World} : ∀ {ds : List D} {cs : List Value}, DL (· < w.heap.size) w ds cs → VRs rho0 (St rho0 w) w (ds.map .d) cs ∧ ∀ u ∈ cs, u.oneCell' = true
  | [], cs, h => by simp only [DL] at h; subst h; exact ⟨by simp only [List.map_nil, VRs], by simp⟩
  | d :: ds, cs, h => by
    simp only [DL] at h
    obtain ⟨u, us, rfl, h1, h2⟩ := h
    have ih := DL.vrs h2
    refine ⟨by simp only [List.map_cons, VRs]; exact ⟨u, us, rfl, by simp only [VR]; exact DR.mono (fun b hb => st0.2 hb) (fun _ _ => rfl) h1, ih.1⟩, ?_⟩
    intro x hx
    rcases List.mem_cons.1 hx with rfl | hx
    · exact h1.one
    · exact ih.2 x hx
theorem vr_ag {w : World} {ds : List D} {cs : Array Value} (h : DL (· < w.heap.size) w ds cs.toList) : VR rho0 (St rho0 w) w (ag ds) (.agg cs) := by
  simp only [ag, VR]
  exact ⟨cs, rfl, h.vrs.1, h.vrs.2⟩
theorem vr_one {w : World} {d : D} {v : Value} (h : DL (· < w.heap.size) w [d] [v]) : VR rho0 (St rho0 w) w (.d d) v := by
  have := h.vrs.1
  simp only [List.map_cons, List.map_nil, VRs] at this
  obtain ⟨u, us, e, h1, _⟩ := this
  simp at e
  rw [e.1]; exact h1

theorem own : ownKnob Tryz.prog.godebug = none := by kernel_rfl
theorem mixed : Tryz.prog.follows .mixedOrders = true := Checked.mixed Tryz.checked
theorem awake_ok : CallsOk Tryz.prog (known 63 true) := known_ok mixed (Tab.look_ok tabK_ok) okK_self (by kernel_rfl) awake_run

/-- What a law answers in the reading, its call answers. -/
theorem law_calls {E : Calls'} (hE : CallsOk Tryz.prog E) {T : FuncId → Option QF} {val : FuncId → Bool} (hT : TabA Tryz.prog T) {f : FuncId} {args : List V} {W : World} {vs : Array Value} (hv : VRs rho0 (St rho0 W) W args vs.toList) (hs : Sm E T val f args ⟨[], 0⟩ = some (bl true, ⟨[], 0⟩)) :
    Calls Tryz.prog f vs W fun e W' => e = .returned (.bool true) ∧ Below W.heap.size W W' := by
  obtain ⟨_, _, h3⟩ := Sm_ok (val := val) mixed hE hT f args ⟨[], 0⟩ _ _ hs
  refine (h3 W.heap.size rho0 W vs (rel0 W) hv).mono fun e W' ⟨v, ρ', k1, k2, k3, k4⟩ => ?_
  refine ⟨?_, k3.below⟩
  rw [k1]
  simp only [VRx, VR, DR] at k4
  simp [k4]

namespace viewFinds
theorem finds_any {W : World} {c : Vw} (hc : c.wf 1048576) {cs : Array Value} (h0 : DL (· < W.heap.size) W c.c cs.toList) {a : Int} {x : Pod} {xs : Array Value} (h4 : DL (· < W.heap.size) W x.c xs.toList) :
    Calls Tryz.prog 12 #[.agg cs, .int .u32 a, .agg xs] W fun e W' => e = .returned (.bool true) ∧ Below W.heap.size W W' := by
  have hi : ∀ k n, VR rho0 (St rho0 W) W (.d (.int k n)) (.int k n) := fun k n => by simp only [VR, DR]
  refine law_calls (E := known 63 true) awake_ok tabT_ok (args := [c.v, .d (u32 a), x.v]) ?_ (S12 (fun h => ?_) c (hc.ok (by decide)) a x ⟨[], 0⟩)
  · simp only [VRs]
    exact ⟨_, _, rfl, vr_ag h0, _, _, rfl, hi _ _, _, _, rfl, vr_ag h4, rfl⟩
  · rw [Sm_ext (by kernel_rfl)]
    simp [known]
theorem lifted (os : Os) (started : os.Started) (H : Type) (enc : TypeId × Value → H) (F : Stop.Interp) :
    ReturnsInHanded {} Tryz.checked os 12 .any ((Go.Proofs.YtmnfjejphmmddaaGreat.Rows.OpenSpec.upto Go.Proofs.YtmnfjejphmmddaaGreat.Rows.viewFindsSpec).pre6 enc Tryz.prog Tryz.f12 Go.Proofs.YtmnfjejphmmddaaGreat.Rows.viewFindsUptoRow.domain false) (((Go.Proofs.YtmnfjejphmmddaaGreat.Rows.OpenSpec.upto Go.Proofs.YtmnfjejphmmddaaGreat.Rows.viewFindsSpec).at F).post enc Tryz.prog Tryz.f12 false true false false) := by
  refine returnsInHanded_of_cond (C := Tryz.checked) (s := Go.Proofs.YtmnfjejphmmddaaGreat.Rows.OpenSpec.upto Go.Proofs.YtmnfjejphmmddaaGreat.Rows.viewFindsSpec) (k := Go.Proofs.YtmnfjejphmmddaaGreat.Rows.uptoSmall) rfl own started (by kernel_rfl) Tryz.func12
    (OpenSpec.witness (enc := enc) (C := Tryz.checked) (s := Go.Proofs.YtmnfjejphmmddaaGreat.Rows.OpenSpec.upto Go.Proofs.YtmnfjejphmmddaaGreat.Rows.viewFindsSpec) (k := Go.Proofs.YtmnfjejphmmddaaGreat.Rows.uptoSmall) rfl false ⟨#[], #[.agg #[.int .u64 0, .slice none 0 0, .slice none 0 0, .slice none 0 0, .slice none 0 0, .slice none 0 0], .int .u32 0, .agg #[.int .u64 0, .string ⟨#[]⟩, .string ⟨#[]⟩, .int .i64 0, .int .u32 0, .int .i64 0, .int .u64 0]], []⟩ 8
      (by kernel_rfl) (by kernel_rfl) (by kernel_rfl) (x := ([.agg [.lit (.int .u64 0), .nil, .nil, .nil, .nil, .nil], .lit (.int .u32 0), .agg [.lit (.int .u64 0), .agg [.lit (.string []), .lit (.string [])], .lit (.int .i64 0), .lit (.int .u32 0), .lit (.int .i64 0), .lit (.int .u64 0)]], [], [])) (by kernel_rfl) rfl (by rfl)) ?_
  intro W base args ds gs before hval0 hW hcnd hkk _
  have hval : ∀ (j : Nat) t v, Tryz.f12.params[j]? = some t → args[j]? = some v → Value.okWide Tryz.prog W .any base t v := hval0
  have hW' := hW
  obtain ⟨p, q, hA0, hV, rfl, hfz, hnd⟩ := hW
  have hA : DataW.TrodAll enc Tryz.prog W 0 (fun _ => true) true Tryz.f12.params.toList args.toList ds p := hA0
  rw [Tryz.params12] at hA hval
  obtain ⟨v0, vs1, d0, ds1, p0, q1, ha1, rfl, rfl, h0, hA⟩ := trodAll_cons hA
  obtain ⟨v1, vs2, d1, ds2, p1, q2, rfl, rfl, rfl, h1, hA⟩ := trodAll_cons hA
  obtain ⟨v2, vs3, d2, ds3, p2, q3, rfl, rfl, rfl, h2, hA⟩ := trodAll_cons hA
  obtain ⟨rfl, rfl, rfl⟩ := trodAll_nil hA
  have hargs : args = #[v0, v1, v2] := by apply Array.ext'; simpa using ha1
  subst hargs
  obtain ⟨rfl, rfl⟩ := trodVars_none hV
  have hsm : bulks [d0, d1, d2] ≤ 1048576 := by simpa [Go.Proofs.YtmnfjejphmmddaaGreat.Rows.uptoSmall] using hkk
  obtain ⟨cs, rfl, hcs⟩ := okWide_struct Tryz.underlying30 (hval 0 30 v0 rfl rfl)
  obtain ⟨a, rfl, rfl, rfl, wa⟩ := open_int Tryz.underlying52 (hval 1 52 v1 rfl rfl) h1
  obtain ⟨xs, rfl, hxs⟩ := okWide_struct Tryz.underlying59 (hval 2 59 v2 rfl rfl)
  have hlt0 : ∀ x ∈ p0, x.block < W.heap.size := fun x hx => hW'.lt x (by simp [hx])
  have hlt2 : ∀ x ∈ p2, x.block < W.heap.size := fun x hx => hW'.lt x (by simp [hx])
  have h0' := h0
  have h2' := h2
  obtain ⟨f0, g0⟩ := h0
  obtain ⟨f2, g2⟩ := h2
  obtain ⟨c, hc1, hc2⟩ := rd_Vw (B := 1048576) _ _ _ g0 (Nat.le_trans (bulk_mem (by simp)) hsm)
  obtain ⟨x, hx1, hx2⟩ := rd_Pod (B := 1048576) _ _ _ g2 (Nat.le_trans (bulk_mem (by simp)) hsm)
  refine (finds_any hc2 hc1 hx1).mono fun e W' ⟨he, hb⟩ => ?_
  subst he
  have k0 := Below.trod laidOut (by kernel_rfl) (of_decide_eq_true (by kernel_rfl)) h0' hb hlt0
  have k2 := Below.trod laidOut (by kernel_rfl) (of_decide_eq_true (by kernel_rfl)) h2' hb hlt2
  have kA := trodAll_cons_mk k0 (trodAll_cons_mk (shut_int Tryz.underlying52 wa) (trodAll_mk1 k2))
  exact ⟨_, rfl, _, _, _, [], _, [], hW', trodAll_mk1 (shut_bool Tryz.underlying4 true), kA, rfl, hb.frame _, fun h => by cases h⟩
theorem proved : Go.Proofs.YtmnfjejphmmddaaGreat.Rows.ViewFindsUptoSaid :=
  OpenClaim.holds_of_cond 12 Tryz.f12 rfl rfl rfl rfl rfl rfl rfl ⟨rfl, rfl, rfl, rfl, rfl⟩ rfl rfl rfl rfl rfl named Tryz.func12 facts
    (of_decide_eq_true (by kernel_rfl)) (by unfold Func.isWrapper; first | (rw [if_pos (by decide +kernel)]; kernel_rfl) | (rw [if_neg (by decide +kernel)]; exact ⟨rfl, rfl⟩))
    (fun os started H enc _ F => lifted os started H enc F)
end viewFinds
end Go.Proofs.YtmnfjejphmmddaaGreat
