/-
  ConfigAgain's row: a service, a waypoint, a policy that is put in once more changes nothing but the epoch; one that was not there, put in and dropped, is as if it had never been, but for the epoch; of bulk at most 1048576 together.
-/
import Derived.Test.YtmnfjejphmmddaaGreatWo
import Derived.Test.YtmnfjejphmmddaaGreatCx
import Derived.Test.YtmnfjejphmmddaaGreatLay
import Derived.Test.YtmnfjejphmmddaaGreatRdx
import Derived.Test.YtmnfjejphmmddaaGreatWf
import Derived.Test.YtmnfjejphmmddaaGreatKa
import Derived.Test.YtmnfjejphmmddaaGreatK16
import Derived.Test.YtmnfjejphmmddaaGreatFacts10
import Derived.Carry
set_option linter.unusedVariables false
set_option maxRecDepth 100000
namespace Go.Proofs.YtmnfjejphmmddaaGreat
open Go.ChangeShapes Go.WideShapes Go.ChangeAt Go.RowKit

/-- Nothing is one's own yet. -/
def rho0 : Rh := ⟨fun _ => 0, fun _ => False, fun _ => False, fun _ => False, fun _ => False⟩
theorem rel0 (w : World) : Rel w.heap.size rho0 ⟨[], 0⟩ w where
  dom i h := h.elim
  ln i h := h.elim
  live i hi := by simp at hi
  lo i h := h.elim
  base := Nat.le_refl _
  inj i j _ h := h.elim
  mem i hi := by simp at hi
  xB b h := h.elim
  gB b h := h.elim
theorem st0 {w : World} {b : Nat} : St rho0 w b ↔ b < w.heap.size := ⟨fun h => h.1, fun h => ⟨h, fun i => ⟨fun hi => hi.elim, fun hx => hx⟩⟩⟩
theorem DL.vrs {w : World} : ∀ {ds : List D} {cs : List Value}, DL (· < w.heap.size) w ds cs → VRs rho0 (St rho0 w) w (ds.map .d) cs ∧ ∀ u ∈ cs, u.oneCell' = true
  | [], cs, h => by simp only [DL] at h; subst h; exact ⟨by simp only [List.map_nil, VRs], by simp⟩
  | d :: ds, cs, h => by
    simp only [DL] at h
    obtain ⟨u, us, rfl, h1, h2⟩ := h
    have ih := DL.vrs h2
    refine ⟨by simp only [List.map_cons, VRs]; exact ⟨u, us, rfl, by simp only [VR]; exact DR.mono (fun b hb => st0.2 hb) (fun _ _ => rfl) h1, ih.1⟩, ?_⟩
    intro x hx
    rcases List.mem_cons.1 hx with rfl | hx
    · exact h1.one
    · exact ih.2 x hx
theorem vr_ag {w : World} {ds : List D} {cs : Array Value} (h : DL (· < w.heap.size) w ds cs.toList) : VR rho0 (St rho0 w) w (ag ds) (.agg cs) := by
  simp only [ag, VR]
  exact ⟨cs, rfl, h.vrs.1, h.vrs.2⟩
theorem vr_one {w : World} {d : D} {v : Value} (h : DL (· < w.heap.size) w [d] [v]) : VR rho0 (St rho0 w) w (.d d) v := by
  have := h.vrs.1
  simp only [List.map_cons, List.map_nil, VRs] at this
  obtain ⟨u, us, e, h1, _⟩ := this
  simp at e
  rw [e.1]; exact h1

theorem own : ownKnob Tryz.prog.godebug = none := by kernel_rfl
theorem mixed : Tryz.prog.follows .mixedOrders = true := Checked.mixed Tryz.checked
theorem awake_ok : CallsOk Tryz.prog (known 33 true) := known_ok mixed (Tab.look_ok tabK_ok) okK_self (by kernel_rfl) awake_run

/-- What a law answers in the reading, its call answers. -/
theorem law_calls {E : Calls'} (hE : CallsOk Tryz.prog E) {T : FuncId → Option QF} {val : FuncId → Bool} (hT : TabA Tryz.prog T) {f : FuncId} {args : List V} {W : World} {vs : Array Value} (hv : VRs rho0 (St rho0 W) W args vs.toList) (hs : Sm E T val f args ⟨[], 0⟩ = some (bl true, ⟨[], 0⟩)) :
    Calls Tryz.prog f vs W fun e W' => e = .returned (.bool true) ∧ Below W.heap.size W W' := by
  obtain ⟨_, _, h3⟩ := Sm_ok (val := val) mixed hE hT f args ⟨[], 0⟩ _ _ hs
  refine (h3 W.heap.size rho0 W vs (rel0 W) hv).mono fun e W' ⟨v, ρ', k1, k2, k3, k4⟩ => ?_
  refine ⟨?_, k3.below⟩
  rw [k1]
  simp only [VRx, VR, DR] at k4
  simp [k4]

/-- No call is known. -/
theorem none_ok : CallsOk Tryz.prog (fun _ _ _ => none) := fun f args h r h' hm => by cases hm
theorem tabP_ok : TabA Tryz.prog TP := lookT_ok (by
  simp only [tabP, List.mem_cons, List.not_mem_nil, or_false]
  rintro p (rfl | rfl | rfl)
  · exact ok385
  · exact ok372
  · exact ok445)
theorem sort_enter (vs : Array Value) (w : World) : (callFunc 443 vs).run Tryz.prog w = .ok (.enter 443 vs) w :=
  callFunc_enter Tryz.func443 rfl (by decide) vs w
theorem E1_ok : CallsOk Tryz.prog E1 := by
  intro f args h r h' hm
  simp only [E1] at hm
  split at hm
  · rename_i hf
    have hf' : f = 443 := Nat.eq_of_beq_eq_true hf
    subst hf'
    exact ⟨sort_enter, sortE_low hm, fun B ρ w vs hR hv => sortE_ok lays189 hR hv hm⟩
  · exact Sm_ok mixed none_ok tabT_ok f args h r h' hm
theorem tabO_ok : TabA Tryz.prog TO := lookT_ok (by
  simp only [tabO, List.mem_cons, List.not_mem_nil, or_false]
  rintro p (rfl | rfl | rfl | rfl | rfl)
  · exact ok90
  · exact ok106
  · exact ok186
  · exact ok187
  · exact ok188)
theorem tabW_ok : TabA Tryz.prog TW := lookT_ok (by
  simp only [tabW, List.mem_cons, List.not_mem_nil, or_false]
  rintro p (rfl | rfl | rfl | rfl | rfl | rfl | rfl | rfl | rfl | rfl | rfl | rfl | rfl | rfl | rfl | rfl | rfl | rfl | rfl | rfl | rfl | rfl | rfl | rfl | rfl | rfl | rfl | rfl)
  · exact ok289
  · exact ok192
  · exact ok199
  · exact ok204
  · exact ok190
  · exact ok198
  · exact ok203
  · exact ok206
  · exact ok290
  · exact ok293
  · exact ok295
  · exact ok297
  · exact ok106
  · exact ok186
  · exact ok187
  · exact ok188
  · exact ok105
  · exact ok243
  · exact ok246
  · exact ok248
  · exact ok100
  · exact ok103
  · exact ok109
  · exact ok339
  · exact ok191
  · exact ok193
  · exact ok200
  · exact ok205)
theorem EO_ok : CallsOk Tryz.prog EO := fun f args h r h' hm => Sm_ok mixed none_ok tabT_ok f args h r h' hm
theorem EW_ok : CallsOk Tryz.prog EW := by
  intro f args h r h' hm
  simp only [EW] at hm
  split at hm
  · rename_i hf
    have hf' : f = 271 := Nat.eq_of_beq_eq_true (by assumption)
    subst hf'
    exact ⟨fun vs w => callFunc_enter Tryz.func271 rfl (by decide) vs w, sortFE_low hm, fun B ρ w vs hR hv => sortFE_ok sfPod sort271 Tryz.isAgg59 Tryz.sizeOf59 (fun vs w => callFunc_enter Tryz.func362 rfl (by decide) vs w) (by decide) does362 hR hv hm⟩
  · rename_i hf
    have hf' : f = 276 := Nat.eq_of_beq_eq_true (by assumption)
    subst hf'
    exact ⟨fun vs w => callFunc_enter Tryz.func276 rfl (by decide) vs w, sortFE_low hm, fun B ρ w vs hR hv => sortFE_ok sfSvc sort276 Tryz.isAgg61 Tryz.sizeOf61 (fun vs w => callFunc_enter Tryz.func291 rfl (by decide) vs w) (by decide) does291 hR hv hm⟩
  · rename_i hf
    have hf' : f = 280 := Nat.eq_of_beq_eq_true (by assumption)
    subst hf'
    exact ⟨fun vs w => callFunc_enter Tryz.func280 rfl (by decide) vs w, sortFE_low hm, fun B ρ w vs hR hv => sortFE_ok sfWay sort280 Tryz.isAgg63 Tryz.sizeOf63 (fun vs w => callFunc_enter Tryz.func294 rfl (by decide) vs w) (by decide) does294 hR hv hm⟩
  · rename_i hf
    have hf' : f = 284 := Nat.eq_of_beq_eq_true (by assumption)
    subst hf'
    exact ⟨fun vs w => callFunc_enter Tryz.func284 rfl (by decide) vs w, sortFE_low hm, fun B ρ w vs hR hv => sortFE_ok sfPol sort284 Tryz.isAgg72 Tryz.sizeOf72 (fun vs w => callFunc_enter Tryz.func296 rfl (by decide) vs w) (by decide) does296 hR hv hm⟩
  · cases hm
/-- What awake() answers, what policy.target, config.Own, config.with do: known. -/
noncomputable def E3 : Calls' := fun f args h => match Nat.beq f 385, Nat.beq f 90, [289, 192, 199, 204].any (Nat.beq f) with
  | true, _, _ => Sm E1 TP valP f args h
  | false, true, _ => Sm EO TO valO f args h
  | false, false, true => Sm EW TW valW f args h
  | false, false, false => known 33 true f args h
theorem E3_ok : CallsOk Tryz.prog E3 := by
  intro f args h r h' hm
  simp only [E3] at hm
  split at hm
  · exact Sm_ok mixed E1_ok tabP_ok f args h r h' hm
  · exact Sm_ok mixed EO_ok tabO_ok f args h r h' hm
  · exact Sm_ok mixed EW_ok tabW_ok f args h r h' hm
  · exact awake_ok f args h r h' hm

theorem Edt.wf.le {B B' : Nat} (hB : B ≤ B') {x : Edt} (h : x.wf B) : x.wf B' := ⟨h.1, h.2.1, Pod.wf.le hB h.2.2.1, Svc.wf.le hB h.2.2.2.1, Way.wf.le h.2.2.2.2.1, Pol.wf.le hB h.2.2.2.2.2⟩
theorem tabA_ok : TabA Tryz.prog TA := lookT_ok (by
  simp only [tabA, List.mem_cons, List.not_mem_nil, or_false]
  rintro p (rfl | rfl | rfl | rfl | rfl | rfl | rfl | rfl | rfl | rfl | rfl | rfl | rfl | rfl | rfl | rfl | rfl | rfl | rfl)
  · exact ok10
  · exact ok62
  · exact ok126
  · exact ok173
  · exact ok174
  · exact ok175
  · exact ok176
  · exact ok177
  · exact ok286
  · exact ok287
  · exact ok355
  · exact ok356
  · exact ok357
  · exact ok358
  · exact ok359
  · exact ok360
  · exact ok420
  · exact ok421
  · exact ok422)
/-- What config.Apply, Heavy, Long, awake do. -/
noncomputable def E10 : Calls' := fun f args h => Sm E3 TT valT f args h
theorem E10_ok : CallsOk Tryz.prog E10 := fun f args h r h' hm => Sm_ok mixed E3_ok tabT_ok f args h r h' hm
namespace configAgain
theorem again_any {W : World} {c : Cfg} {x : Edt} (hc : c.wf 1048576) (hx : x.wf 1048576) {cs es : Array Value} (h0 : DL (· < W.heap.size) W c.c cs.toList) (h1 : DL (· < W.heap.size) W x.c es.toList) :
    Calls Tryz.prog 10 #[.agg cs, .agg es] W fun e W' => e = .returned (.bool true) ∧ Below W.heap.size W W' := by
  refine law_calls (E := E10) E10_ok tabA_ok (args := [c.v, ag x.c]) ?_ (S10 (E := E10) (fun c hc hcb e he heb h => S36 (E := E3) (fun f hf args h => ?_) (fun t ht h => ?_) (fun args h => rfl) c hc hcb e he heb h) (fun c hc => S31 c hc) (fun e he => S32 e he) (fun h => ?_) c hc (Cfg.wf.le (by decide) hc) x hx (Edt.wf.le (by decide) hx) ⟨[], 0⟩)
  · simp only [VRs]
    exact ⟨_, _, rfl, vr_ag h0, _, _, rfl, vr_ag h1, rfl⟩
  · rcases hf with rfl | rfl | rfl | rfl <;> rfl
  · exact S385 t ht h
  · show Sm E3 TT valT 33 [] h = _
    rw [Sm_ext (by kernel_rfl)]
    show known 33 true 33 [] h = _
    simp [known]
theorem lifted (os : Os) (started : os.Started) (H : Type) (enc : TypeId × Value → H) (F : Stop.Interp) :
    ReturnsInHanded {} Tryz.checked os 10 .any ((Go.Proofs.YtmnfjejphmmddaaGreat.Rows.OpenSpec.upto Go.Proofs.YtmnfjejphmmddaaGreat.Rows.configAgainSpec).pre6 enc Tryz.prog Tryz.f10 Go.Proofs.YtmnfjejphmmddaaGreat.Rows.configAgainUptoRow.domain false) (((Go.Proofs.YtmnfjejphmmddaaGreat.Rows.OpenSpec.upto Go.Proofs.YtmnfjejphmmddaaGreat.Rows.configAgainSpec).at F).post enc Tryz.prog Tryz.f10 false true false false) := by
  refine returnsInHanded_of_cond (C := Tryz.checked) (s := Go.Proofs.YtmnfjejphmmddaaGreat.Rows.OpenSpec.upto Go.Proofs.YtmnfjejphmmddaaGreat.Rows.configAgainSpec) (k := Go.Proofs.YtmnfjejphmmddaaGreat.Rows.uptoSmall) rfl own started (by kernel_rfl) Tryz.func10
    (OpenSpec.witness (enc := enc) (C := Tryz.checked) (s := Go.Proofs.YtmnfjejphmmddaaGreat.Rows.OpenSpec.upto Go.Proofs.YtmnfjejphmmddaaGreat.Rows.configAgainSpec) (k := Go.Proofs.YtmnfjejphmmddaaGreat.Rows.uptoSmall) rfl false ⟨#[], #[.agg #[.int .u64 0, .int .u64 0, .int .i64 0, .int .i64 0, .slice none 0 0, .slice none 0 0, .slice none 0 0, .slice none 0 0], .agg #[.int .i64 0, .int .u64 0, .int .u64 0, .string ⟨#[]⟩, .string ⟨#[]⟩, .int .i64 0, .int .u32 0, .int .i64 0, .int .u64 0, .int .u64 0, .string ⟨#[]⟩, .int .u32 0, .int .i64 0, .int .u64 0, .int .u64 0, .int .i64 0, .int .u64 0, .string ⟨#[]⟩, .int .u64 0, .int .i64 0, .slice none 0 0]], []⟩ 8
      (by kernel_rfl) (by kernel_rfl) (by kernel_rfl) (x := ([.agg [.lit (.int .u64 0), .lit (.int .u64 0), .lit (.int .i64 0), .lit (.int .i64 0), .nil, .nil, .nil, .nil], .agg [.lit (.int .i64 0), .lit (.int .u64 0), .agg [.lit (.int .u64 0), .agg [.lit (.string []), .lit (.string [])], .lit (.int .i64 0), .lit (.int .u32 0), .lit (.int .i64 0), .lit (.int .u64 0)], .agg [.lit (.int .u64 0), .lit (.string []), .lit (.int .u32 0), .lit (.int .i64 0), .lit (.int .u64 0)], .agg [.lit (.int .u64 0), .lit (.int .i64 0)], .agg [.lit (.int .u64 0), .lit (.string []), .lit (.int .u64 0), .lit (.int .i64 0), .nil]]], [], [])) (by kernel_rfl) rfl (by rfl)) ?_
  intro W base args ds gs before hval0 hW hcnd hkk _
  have hval : ∀ (j : Nat) t v, Tryz.f10.params[j]? = some t → args[j]? = some v → Value.okWide Tryz.prog W .any base t v := hval0
  have hW' := hW
  obtain ⟨p, q, hA0, hV, rfl, hfz, hnd⟩ := hW
  have hA : DataW.TrodAll enc Tryz.prog W 0 (fun _ => true) true Tryz.f10.params.toList args.toList ds p := hA0
  rw [Tryz.params10] at hA hval
  obtain ⟨v0, vs1, d0, ds1, p0, q1, ha1, rfl, rfl, h0, hA⟩ := trodAll_cons hA
  obtain ⟨v1, vs2, d1, ds2, p1, q2, rfl, rfl, rfl, h1, hA⟩ := trodAll_cons hA
  obtain ⟨rfl, rfl, rfl⟩ := trodAll_nil hA
  have hargs : args = #[v0, v1] := by apply Array.ext'; simpa using ha1
  subst hargs
  obtain ⟨rfl, rfl⟩ := trodVars_none hV
  have hsm : bulks [d0, d1] ≤ 1048576 := by simpa [Go.Proofs.YtmnfjejphmmddaaGreat.Rows.uptoSmall] using hkk
  obtain ⟨cs, rfl, hcs⟩ := okWide_struct Tryz.underlying76 (hval 0 76 v0 rfl rfl)
  obtain ⟨es, rfl, hes⟩ := okWide_struct Tryz.underlying78 (hval 1 78 v1 rfl rfl)
  have hlt0 : ∀ x ∈ p0, x.block < W.heap.size := fun x hx => hW'.lt x (by simp [hx])
  have hlt1 : ∀ x ∈ p1, x.block < W.heap.size := fun x hx => hW'.lt x (by simp [hx])
  have h0' := h0
  have h1' := h1
  obtain ⟨f0, g0⟩ := h0
  obtain ⟨f1, g1⟩ := h1
  obtain ⟨c, hc1, hc2⟩ := rd_Cfg (B := 1048576) _ _ _ g0 (Nat.le_trans (bulk_mem (by simp)) hsm)
  obtain ⟨x, hx1, hx2⟩ := rd_Edt (B := 1048576) _ _ _ g1 (Nat.le_trans (bulk_mem (by simp)) hsm)
  refine (again_any hc2 hx2 hc1 hx1).mono fun e W' ⟨he, hb⟩ => ?_
  subst he
  have k0 := Below.trod laidOut (by kernel_rfl) (of_decide_eq_true (by kernel_rfl)) h0' hb hlt0
  have k1 := Below.trod laidOut (by kernel_rfl) (of_decide_eq_true (by kernel_rfl)) h1' hb hlt1
  have kA := trodAll_cons_mk k0 (trodAll_mk1 k1)
  exact ⟨_, rfl, _, _, _, [], _, [], hW', trodAll_mk1 (shut_bool Tryz.underlying4 true), kA, rfl, hb.frame _, fun h => by cases h⟩
theorem proved : Go.Proofs.YtmnfjejphmmddaaGreat.Rows.ConfigAgainUptoSaid :=
  OpenClaim.holds_of_cond 10 Tryz.f10 rfl rfl rfl rfl rfl rfl rfl ⟨rfl, rfl, rfl, rfl, rfl⟩ rfl rfl rfl rfl rfl named Tryz.func10 facts
    (of_decide_eq_true (by kernel_rfl)) (by unfold Func.isWrapper; first | (rw [if_pos (by decide +kernel)]; kernel_rfl) | (rw [if_neg (by decide +kernel)]; exact ⟨rfl, rfl⟩))
    (fun os started H enc _ F => lifted os started H enc F)
end configAgain
end Go.Proofs.YtmnfjejphmmddaaGreat
