/- ViewMore's row: an address that a node asks for beside takes nothing from what it is told of the others, nor of its own workloads; of bulk at most 1048576. -/
import Derived.Test.YtmnfjejphmmddaaGreatYd
import Derived.Test.YtmnfjejphmmddaaGreatRdx
import Derived.Test.YtmnfjejphmmddaaGreatLay
import Derived.Test.YtmnfjejphmmddaaGreatWf
import Derived.Test.YtmnfjejphmmddaaGreatKa
import Derived.Test.YtmnfjejphmmddaaGreatK17
import Derived.Test.YtmnfjejphmmddaaGreatFacts13
import Derived.Carry
set_option linter.unusedVariables false
set_option maxRecDepth 100000
namespace Go.Proofs.YtmnfjejphmmddaaGreat
open Go.ChangeShapes Go.WideShapes Go.ChangeAt Go.RowKit
def rho0:Rh:=⟨fun _=>0,fun _=>False,fun _=>False,fun _=>False,fun _=>False⟩
theorem rel0 (w:World):Rel w.heap.size rho0 ⟨[],0⟩ w where
 dom i h:=h.elim
 ln i h:=h.elim
 live i hi:=by simp at hi
 lo i h:=h.elim
 base:=Nat.le_refl _
 inj i j _ h:=h.elim
 mem i hi:=by simp at hi
 xB b h:=h.elim
 gB b h:=h.elim
theorem st0 {w:World} {b:Nat}:St rho0 w b ↔ b < w.heap.size:=⟨fun h=>h.1,fun h=>⟨h,fun i=>⟨fun hi=>hi.elim,fun hx=>hx⟩⟩⟩
theorem DL.vrs {w:World}:∀ {ds:List D} {cs:List Value},DL (· < w.heap.size) w ds cs -> VRs rho0 (St rho0 w) w (ds.map .d) cs /\ ∀ u ∈ cs,u.oneCell' = true
 | [],cs,h=>by simp only [DL] at h; subst h; exact ⟨by simp only [List.map_nil,VRs],by simp⟩
 | d :: ds,cs,h=>by
  simp only [DL] at h
  obtain ⟨u,us,rfl,h1,h2⟩:=h
  have ih:=DL.vrs h2
  refine ⟨by simp only [List.map_cons,VRs]; exact ⟨u,us,rfl,by simp only [VR]; exact DR.mono (fun b hb=>st0.2 hb) (fun _ _=>rfl) h1,ih.1⟩,?_⟩
  intro x hx
  rcases List.mem_cons.1 hx with rfl | hx
  · exact h1.one
  · exact ih.2 x hx
theorem vr_ag {w:World} {ds:List D} {cs:Array Value} (h:DL (· < w.heap.size) w ds cs.toList):VR rho0 (St rho0 w) w (ag ds) (.agg cs):=by
 simp only [ag,VR]
 exact ⟨cs,rfl,h.vrs.1,h.vrs.2⟩
theorem vr_one {w:World} {d:D} {v:Value} (h:DL (· < w.heap.size) w [d] [v]):VR rho0 (St rho0 w) w (.d d) v:=by
 have:=h.vrs.1
 simp only [List.map_cons,List.map_nil,VRs] at this
 obtain ⟨u,us,e,h1,_⟩:=this
 simp at e
 rw [e.1]; exact h1
theorem own:ownKnob Tryz.prog.godebug = none:=by kernel_rfl
theorem mixed:Tryz.prog.follows .mixedOrders = true:=Checked.mixed Tryz.checked
theorem awake_ok:CallsOk Tryz.prog (known 63 true):=known_ok mixed (Tab.look_ok tabK_ok) okK_self (by kernel_rfl) awake_run
theorem law_calls {E:Calls'} (hE:CallsOk Tryz.prog E) {T:FuncId -> Option QF} {val:FuncId -> Bool} (hT:TabA Tryz.prog T) {f:FuncId} {args:List V} {W:World} {vs:Array Value} (hv:VRs rho0 (St rho0 W) W args vs.toList) (hs:Sm E T val f args ⟨[],0⟩ = some (bl true,⟨[],0⟩)) :
 Calls Tryz.prog f vs W fun e W'=>e = .returned (.bool true) /\ Below W.heap.size W W':=by
 obtain ⟨_,_,h3⟩:=Sm_ok (val:=val) mixed hE hT f args ⟨[],0⟩ _ _ hs
 refine (h3 W.heap.size rho0 W vs (rel0 W) hv).mono fun e W' ⟨v,ρ',k1,k2,k3,k4⟩=>?_
 refine ⟨?_,k3.below⟩
 rw [k1]
 simp only [VRx,VR,DR] at k4
 simp [k4]
theorem none_ok:CallsOk Tryz.prog (fun _ _ _=>none):=fun f args h r h' hm=>by cases hm
theorem tabP_ok:TabA Tryz.prog TP:=lookT_ok (by
 simp only [tabP,List.mem_cons,List.not_mem_nil,or_false]
 rintro p (rfl | rfl | rfl)
 · exact ok385
 · exact ok372
 · exact ok445)
theorem sort_enter (vs:Array Value) (w:World):(callFunc 443 vs).run Tryz.prog w = .ok (.enter 443 vs) w :=
 callFunc_enter Tryz.func443 rfl (by decide) vs w
theorem E1_ok:CallsOk Tryz.prog E1:=by
 intro f args h r h' hm
 simp only [E1] at hm
 split at hm
 · rename_i hf
   have hf':f = 443:=Nat.eq_of_beq_eq_true hf
   subst hf'
   exact ⟨sort_enter,sortE_low hm,fun B ρ w vs hR hv=>sortE_ok lays189 hR hv hm⟩
 · exact Sm_ok mixed none_ok tabT_ok f args h r h' hm
theorem tabO_ok:TabA Tryz.prog TO:=lookT_ok (by
 simp only [tabO,List.mem_cons,List.not_mem_nil,or_false]
 rintro p (rfl | rfl | rfl | rfl | rfl)
 · exact ok90
 · exact ok106
 · exact ok186
 · exact ok187
 · exact ok188)
theorem EO_ok:CallsOk Tryz.prog EO:=fun f args h r h' hm=>Sm_ok mixed none_ok tabT_ok f args h r h' hm
theorem tabV_ok:TabA Tryz.prog TV:=lookT_ok (by
 simp only [tabV,List.mem_cons,List.not_mem_nil,or_false]
 rintro p (rfl | rfl | rfl | rfl | rfl | rfl | rfl | rfl | rfl | rfl | rfl | rfl | rfl | rfl | rfl | rfl | rfl | rfl | rfl | rfl | rfl | rfl | rfl | rfl | rfl | rfl | rfl | rfl | rfl | rfl | rfl | rfl | rfl | rfl | rfl | rfl | rfl | rfl | rfl | rfl | rfl | rfl | rfl | rfl)
 · exact ok64
 · exact ok67
 · exact ok100
 · exact ok103
 · exact ok105
 · exact ok106
 · exact ok109
 · exact ok128
 · exact ok129
 · exact ok130
 · exact ok131
 · exact ok132
 · exact ok133
 · exact ok134
 · exact ok135
 · exact ok138
 · exact ok139
 · exact ok140
 · exact ok141
 · exact ok142
 · exact ok143
 · exact ok144
 · exact ok145
 · exact ok146
 · exact ok147
 · exact ok148
 · exact ok149
 · exact ok150
 · exact ok154
 · exact ok186
 · exact ok187
 · exact ok188
 · exact ok239
 · exact ok242
 · exact ok243
 · exact ok244
 · exact ok245
 · exact ok246
 · exact ok247
 · exact ok248
 · exact ok249
 · exact ok250
 · exact ok251
 · exact ok339)
theorem tabS_ok:TabA Tryz.prog TS:=lookT_ok (by
 simp only [tabS,List.mem_cons,List.not_mem_nil,or_false]
 rintro p (rfl | rfl | rfl | rfl | rfl | rfl | rfl | rfl | rfl | rfl | rfl | rfl | rfl | rfl | rfl)
 · exact ok240
 · exact ok328
 · exact ok329
 · exact ok330
 · exact ok331
 · exact ok332
 · exact ok333
 · exact ok335
 · exact ok336
 · exact ok374
 · exact ok377
 · exact ok378
 · exact ok434
 · exact ok375
 · exact ok376)
theorem tabU_ok:TabA Tryz.prog TU:=lookT_ok (by
 simp only [tabU,List.mem_cons,List.not_mem_nil,or_false]
 rintro p (rfl | rfl)
 · exact ok136
 · exact ok137)
theorem tabL_ok:TabA Tryz.prog TL:=lookT_ok (by
 simp only [tabL,List.mem_cons,List.not_mem_nil,or_false]
 rintro p (rfl | rfl)
 · exact ok334
 · exact ok379)
theorem tabM_ok:TabA Tryz.prog TM:=lookT_ok (by
 simp only [tabM,List.mem_cons,List.not_mem_nil,or_false]
 rintro p rfl
 exact ok13)
theorem noE_ok:CallsOk Tryz.prog noE:=fun f args h r h' hm=>by cases hm
theorem Es_ok:CallsOk Tryz.prog Es:=by
 intro f args h r h' hm
 simp only [Es] at hm
 split at hm
 · exact Sm_ok mixed noE_ok tabL_ok f args h r h' hm
 · exact Sm_ok mixed noE_ok tabT_ok f args h r h' hm
theorem Eu_ok:CallsOk Tryz.prog Eu:=by
 intro f args h r h' hm
 simp only [Eu] at hm
 split at hm
 · exact Sm_ok mixed Es_ok tabS_ok f args h r h' hm
 · exact Sm_ok mixed noE_ok tabT_ok f args h r h' hm
theorem Et_ok:CallsOk Tryz.prog Et:=by
 intro f args h r h' hm
 simp only [Et] at hm
 split at hm
 · exact Sm_ok mixed E1_ok tabP_ok f args h r h' hm
 · cases hm
theorem EV_ok:CallsOk Tryz.prog EV:=by
 intro f args h r h' hm
 simp only [EV] at hm
 split at hm
 · exact Sm_ok mixed Eu_ok tabU_ok f args h r h' hm
 · exact Sm_ok mixed EO_ok tabO_ok f args h r h' hm
 · exact Sm_ok mixed Et_ok tabT_ok f args h r h' hm
theorem Of_ok:CallsOk Tryz.prog (Sm EV TV valV):=fun f args h r h' hm=>Sm_ok mixed EV_ok tabV_ok f args h r h' hm
theorem EY_ok:CallsOk Tryz.prog EY:=by
 intro f args h r h' hm
 simp only [EY] at hm
 split at hm
 · split at hm
   · exact seal_ok Of_ok f args h r h' hm
   · exact Of_ok f args h r h' hm
 · exact awake_ok f args h r h' hm
 · exact Sm_ok mixed Et_ok tabT_ok f args h r h' hm
namespace viewMore
theorem more_any {W:World} {c:Cfg} (hc:c.wf 1048576) {node at_:Int} {names:Sl Int} (hn:names.wf 1048576 u32Wf) {cs:Array Value} {u:Value} (h0:DL (· < W.heap.size) W c.c cs.toList) (h2:DL (· < W.heap.size) W [names.d u32C] [u]) :
 Calls Tryz.prog 13 #[.agg cs,.int .i64 node,u,.int .i64 at_] W fun e W'=>e = .returned (.bool true) /\ Below W.heap.size W W':=by
 have hcb:c.wf big:=Cfg.wf.le (by decide) hc
 refine law_calls (E:=EY) EY_ok tabM_ok (args:=[c.v,.d (i64 node),.d (names.d u32C),.d (i64 at_)]) ?_ (S13 EY_H hc hcb (hcb.ok (Nat.le_refl _)) ((Cfg.own_wf hcb).ok (Nat.le_refl _)) hc.2.2.2.2.2.1.1.1 (hn.1.le (by decide)) ⟨[],0⟩)
 simp only [VRs]
 exact ⟨_,_,rfl,vr_ag h0,_,_,rfl,by simp only [VR,DR],_,_,rfl,vr_one h2,_,_,rfl,by simp only [VR,DR],rfl⟩
theorem lifted (os:Os) (started:os.Started) (H:Type) (enc:TypeId × Value -> H) (F:Stop.Interp) :
 ReturnsInHanded {} Tryz.checked os 13 .any ((Go.Proofs.YtmnfjejphmmddaaGreat.Rows.OpenSpec.upto Go.Proofs.YtmnfjejphmmddaaGreat.Rows.viewMoreSpec).pre6 enc Tryz.prog Tryz.f13 Go.Proofs.YtmnfjejphmmddaaGreat.Rows.viewMoreUptoRow.domain false) (((Go.Proofs.YtmnfjejphmmddaaGreat.Rows.OpenSpec.upto Go.Proofs.YtmnfjejphmmddaaGreat.Rows.viewMoreSpec).at F).post enc Tryz.prog Tryz.f13 false true false false):=by
 refine returnsInHanded_of_cond (C:=Tryz.checked) (s:=Go.Proofs.YtmnfjejphmmddaaGreat.Rows.OpenSpec.upto Go.Proofs.YtmnfjejphmmddaaGreat.Rows.viewMoreSpec) (k:=Go.Proofs.YtmnfjejphmmddaaGreat.Rows.uptoSmall) rfl own started (by kernel_rfl) Tryz.func13
  (OpenSpec.witness (enc:=enc) (C:=Tryz.checked) (s:=Go.Proofs.YtmnfjejphmmddaaGreat.Rows.OpenSpec.upto Go.Proofs.YtmnfjejphmmddaaGreat.Rows.viewMoreSpec) (k:=Go.Proofs.YtmnfjejphmmddaaGreat.Rows.uptoSmall) rfl false ⟨#[],#[.agg #[.int .u64 0,.int .u64 0,.int .i64 0,.int .i64 0,.slice none 0 0,.slice none 0 0,.slice none 0 0,.slice none 0 0],.int .i64 0,.slice none 0 0,.int .i64 0],[]⟩ 8
   (by kernel_rfl) (by kernel_rfl) (by kernel_rfl) (x:=([.agg [.lit (.int .u64 0),.lit (.int .u64 0),.lit (.int .i64 0),.lit (.int .i64 0),.nil,.nil,.nil,.nil],.lit (.int .i64 0),.nil,.lit (.int .i64 0)],[],[])) (by kernel_rfl) rfl (by rfl)) ?_
 intro W base args ds gs before hval0 hW hcnd hkk _
 have hval:∀ (j:Nat) t v,Tryz.f13.params[j]? = some t -> args[j]? = some v -> Value.okWide Tryz.prog W .any base t v:=hval0
 have hW':=hW
 obtain ⟨p,q,hA0,hV,rfl,hfz,hnd⟩:=hW
 have hA:DataW.TrodAll enc Tryz.prog W 0 (fun _=>true) true Tryz.f13.params.toList args.toList ds p:=hA0
 rw [Tryz.params13] at hA hval
 obtain ⟨v0,vs1,d0,ds1,p0,q1,ha1,rfl,rfl,h0,hA⟩:=trodAll_cons hA
 obtain ⟨v1,vs2,d1,ds2,p1,q2,rfl,rfl,rfl,h1,hA⟩:=trodAll_cons hA
 obtain ⟨v2,vs3,d2,ds3,p2,q3,rfl,rfl,rfl,h2,hA⟩:=trodAll_cons hA
 obtain ⟨v3,vs4,d3,ds4,p3,q4,rfl,rfl,rfl,h3,hA⟩:=trodAll_cons hA
 obtain ⟨rfl,rfl,rfl⟩:=trodAll_nil hA
 have hargs:args = #[v0,v1,v2,v3]:=by apply Array.ext'; simpa using ha1
 subst hargs
 obtain ⟨rfl,rfl⟩:=trodVars_none hV
 have hsm:bulks [d0,d1,d2,d3] <= 1048576:=by simpa [Go.Proofs.YtmnfjejphmmddaaGreat.Rows.uptoSmall] using hkk
 obtain ⟨cs,rfl,hcs⟩:=okWide_struct Tryz.underlying76 (hval 0 76 v0 rfl rfl)
 obtain ⟨a,rfl,rfl,rfl,wa⟩:=open_int Tryz.underlying3 (hval 1 3 v1 rfl rfl) h1
 obtain ⟨sa,sn,sc,rfl⟩:=okWide_slice Tryz.underlying24 (hval 2 24 v2 rfl rfl)
 obtain ⟨b,rfl,rfl,rfl,wb⟩:=open_int Tryz.underlying3 (hval 3 3 v3 rfl rfl) h3
 have hlt0:∀ x ∈ p0,x.block < W.heap.size:=fun x hx=>hW'.lt x (by simp [hx])
 have hlt2:∀ x ∈ p2,x.block < W.heap.size:=fun x hx=>hW'.lt x (by simp [hx])
 have h0':=h0
 have h2':=h2
 obtain ⟨f0,g0⟩:=h0
 obtain ⟨f2,g2⟩:=h2
 obtain ⟨c,hc1,hc2⟩:=rd_Cfg (B:=1048576) _ _ _ g0 (Nat.le_trans (bulk_mem (by simp)) hsm)
 obtain ⟨l,hl1,hl2⟩:=rd_u32s (B:=1048576) _ _ _ g2 (Nat.le_trans (bulk_mem (by simp)) hsm)
 refine (more_any hc2 hl2 hc1 hl1).mono fun e W' ⟨he,hb⟩=>?_
 subst he
 have k0:=Below.trod laidOut (by kernel_rfl) (of_decide_eq_true (by kernel_rfl)) h0' hb hlt0
 have k2:=Below.trod laidOut (by kernel_rfl) (of_decide_eq_true (by kernel_rfl)) h2' hb hlt2
 have kA:=trodAll_cons_mk k0 (trodAll_cons_mk (shut_int Tryz.underlying3 wa) (trodAll_cons_mk k2 (trodAll_mk1 (shut_int Tryz.underlying3 wb))))
 exact ⟨_,rfl,_,_,_,[],_,[],hW',trodAll_mk1 (shut_bool Tryz.underlying4 true),kA,rfl,hb.frame _,fun h=>by cases h⟩
theorem proved:Go.Proofs.YtmnfjejphmmddaaGreat.Rows.ViewMoreUptoSaid :=
 OpenClaim.holds_of_cond 13 Tryz.f13 rfl rfl rfl rfl rfl rfl rfl ⟨rfl,rfl,rfl,rfl,rfl⟩ rfl rfl rfl rfl rfl named Tryz.func13 facts
  (of_decide_eq_true (by kernel_rfl)) (by unfold Func.isWrapper; first | (rw [if_pos (by decide +kernel)]; kernel_rfl) | (rw [if_neg (by decide +kernel)]; exact ⟨rfl,rfl⟩))
  (fun os started H enc _ F=>lifted os started H enc F)
end viewMore
end Go.Proofs.YtmnfjejphmmddaaGreat
