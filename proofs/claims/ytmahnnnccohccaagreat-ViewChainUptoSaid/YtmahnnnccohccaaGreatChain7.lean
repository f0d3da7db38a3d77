/- ViewChain's row: by what makes a second view of a first one, and a third one of the second, one behind the other, the first becomes the third; just as by what makes the third of the first; of bulk at most 1048576. -/
import Derived.Test.YtmahnnnccohccaaGreatYd
import Derived.Test.YtmahnnnccohccaaGreatRdx
import Derived.Test.YtmahnnnccohccaaGreatLay
import Derived.Test.YtmahnnnccohccaaGreatCy
import Derived.Test.YtmahnnnccohccaaGreatWf
import Derived.Test.YtmahnnnccohccaaGreatKa
import Derived.Test.YtmahnnnccohccaaGreatK17
import Derived.Test.YtmahnnnccohccaaGreatFacts7c
import Derived.Carry
set_option linter.unusedVariables false
set_option maxRecDepth 100000
namespace Go.Proofs.YtmahnnnccohccaaGreat
open Go.ChangeShapes Go.WideShapes Go.ChangeAt Go.RowKit
def rho0:Rh:=⟨fun _=>0,fun _=>False,fun _=>False,fun _=>False,fun _=>False⟩
theorem rel0 (w:World):Rel w.heap.size rho0 ⟨[],0⟩ w where
 dom i h:=h.elim
 ln i h:=h.elim
 live i hi:=by simp at hi
 lo i h:=h.elim
 base:=Nat.le_refl _
 inj i j _ h:=h.elim
 mem i hi:=by simp at hi
 xB b h:=h.elim
 gB b h:=h.elim
theorem st0 {w:World} {b:Nat}:St rho0 w b ↔ b < w.heap.size:=⟨fun h=>h.1,fun h=>⟨h,fun i=>⟨fun hi=>hi.elim,fun hx=>hx⟩⟩⟩
theorem DL.vrs {w:World}:∀ {ds:List D} {cs:List Value},DL (· < w.heap.size) w ds cs -> VRs rho0 (St rho0 w) w (ds.map .d) cs /\ ∀ u ∈ cs,u.oneCell' = true
 | [],cs,h=>by simp only [DL] at h; subst h; exact ⟨by simp only [List.map_nil,VRs],by simp⟩
 | d :: ds,cs,h=>by
  simp only [DL] at h
  obtain ⟨u,us,rfl,h1,h2⟩:=h
  have ih:=DL.vrs h2
  refine ⟨by simp only [List.map_cons,VRs]; exact ⟨u,us,rfl,by simp only [VR]; exact DR.mono (fun b hb=>st0.2 hb) (fun _ _=>rfl) h1,ih.1⟩,?_⟩
  intro x hx
  rcases List.mem_cons.1 hx with rfl | hx
  · exact h1.one
  · exact ih.2 x hx
theorem vr_ag {w:World} {ds:List D} {cs:Array Value} (h:DL (· < w.heap.size) w ds cs.toList):VR rho0 (St rho0 w) w (ag ds) (.agg cs):=by
 simp only [ag,VR]
 exact ⟨cs,rfl,h.vrs.1,h.vrs.2⟩
theorem vr_one {w:World} {d:D} {v:Value} (h:DL (· < w.heap.size) w [d] [v]):VR rho0 (St rho0 w) w (.d d) v:=by
 have:=h.vrs.1
 simp only [List.map_cons,List.map_nil,VRs] at this
 obtain ⟨u,us,e,h1,_⟩:=this
 simp at e
 rw [e.1]; exact h1
theorem own:ownKnob Tryz.prog.godebug = none:=by kernel_rfl
theorem mixed:Tryz.prog.follows .mixedOrders = true:=Checked.mixed Tryz.checked
theorem awake_ok:CallsOk Tryz.prog (known 50 true):=known_ok mixed (Tab.look_ok tabK_ok) okK_self (by kernel_rfl) awake_run
theorem law_calls {E:Calls'} (hE:CallsOk Tryz.prog E) {T:FuncId -> Option QF} {val:FuncId -> Bool} (hT:TabA Tryz.prog T) {f:FuncId} {args:List V} {W:World} {vs:Array Value} (hv:VRs rho0 (St rho0 W) W args vs.toList) (hs:Sm E T val f args ⟨[],0⟩ = some (bl true,⟨[],0⟩)) :
 Calls Tryz.prog f vs W fun e W'=>e = .returned (.bool true) /\ Below W.heap.size W W':=by
 obtain ⟨_,_,h3⟩:=Sm_ok (val:=val) mixed hE hT f args ⟨[],0⟩ _ _ hs
 refine (h3 W.heap.size rho0 W vs (rel0 W) hv).mono fun e W' ⟨v,ρ',k1,k2,k3,k4⟩=>?_
 refine ⟨?_,k3.below⟩
 rw [k1]
 simp only [VRx,VR,DR] at k4
 simp [k4]
theorem none_ok:CallsOk Tryz.prog (fun _ _ _=>none):=fun f args h r h' hm=>by cases hm
theorem tabP_ok:TabA Tryz.prog TP:=lookT_ok (by
 simp only [tabP,List.mem_cons,List.not_mem_nil,or_false]
 rintro p (rfl | rfl | rfl)
 · exact ok385
 · exact ok372
 · exact ok445)
theorem sort_enter (vs:Array Value) (w:World):(callFunc 579 vs).run Tryz.prog w = .ok (.enter 579 vs) w :=
 callFunc_enter Tryz.func579 rfl (by decide) vs w
theorem E1_ok:CallsOk Tryz.prog E1:=by
 intro f args h r h' hm
 simp only [E1] at hm
 split at hm
 · rename_i hf
   have hf':f = 579:=Nat.eq_of_beq_eq_true hf
   subst hf'
   exact ⟨sort_enter,sortE_low hm,fun B ρ w vs hR hv=>sortE_ok lays189 hR hv hm⟩
 · exact Sm_ok mixed none_ok tabT_ok f args h r h' hm
theorem noE_ok:CallsOk Tryz.prog noE:=fun f args h r h' hm=>by cases hm
theorem tabB_ok:TabA Tryz.prog TB:=lookT_ok (by
 simp only [tabB,List.mem_cons,List.not_mem_nil,or_false]
 rintro p (rfl | rfl | rfl | rfl | rfl | rfl | rfl)
 · exact ok155
 · exact ok163
 · exact ok135
 · exact ok106
 · exact ok186
 · exact ok187
 · exact ok188)
theorem tabI_ok:TabA Tryz.prog TI:=lookT_ok (by
 simp only [tabI,List.mem_cons,List.not_mem_nil,or_false]
 rintro p (rfl | rfl | rfl | rfl | rfl | rfl | rfl | rfl | rfl | rfl | rfl | rfl | rfl | rfl | rfl | rfl | rfl | rfl | rfl | rfl | rfl | rfl | rfl | rfl | rfl | rfl | rfl | rfl | rfl | rfl | rfl | rfl | rfl | rfl | rfl | rfl | rfl | rfl | rfl | rfl | rfl | rfl | rfl | rfl | rfl | rfl | rfl | rfl | rfl | rfl | rfl | rfl | rfl | rfl | rfl | rfl | rfl | rfl | rfl | rfl | rfl | rfl | rfl | rfl | rfl | rfl | rfl | rfl | rfl | rfl | rfl | rfl | rfl | rfl | rfl | rfl | rfl | rfl | rfl | rfl | rfl | rfl | rfl | rfl | rfl | rfl | rfl | rfl | rfl | rfl | rfl | rfl | rfl | rfl | rfl | rfl | rfl | rfl)
 · exact ok15
 · exact ok17
 · exact ok18
 · exact ok19
 · exact ok79
 · exact ok80
 · exact ok82
 · exact ok164
 · exact ok76
 · exact ok77
 · exact ok125
 · exact ok81
 · exact ok173
 · exact ok174
 · exact ok175
 · exact ok176
 · exact ok165
 · exact ok167
 · exact ok169
 · exact ok171
 · exact ok268
 · exact ok274
 · exact ok278
 · exact ok282
 · exact ok270
 · exact ok275
 · exact ok279
 · exact ok283
 · exact ok264
 · exact ok265
 · exact ok266
 · exact ok267
 · exact ok345
 · exact ok346
 · exact ok347
 · exact ok348
 · exact ok343
 · exact ok344
 · exact ok269
 · exact ok349
 · exact ok75
 · exact ok162
 · exact ok132
 · exact ok143
 · exact ok255
 · exact ok261
 · exact ok239
 · exact ok245
 · exact ok340
 · exact ok292
 · exact ok100
 · exact ok103
 · exact ok109
 · exact ok339
 · exact ok253
 · exact ok254
 · exact ok256
 · exact ok262
 · exact ok257
 · exact ok258
 · exact ok259
 · exact ok260
 · exact ok166
 · exact ok168
 · exact ok170
 · exact ok172
 · exact ok138
 · exact ok141
 · exact ok145
 · exact ok148
 · exact ok105
 · exact ok243
 · exact ok246
 · exact ok248
 · exact ok106
 · exact ok186
 · exact ok187
 · exact ok188
 · exact ok242
 · exact ok244
 · exact ok247
 · exact ok249
 · exact ok135
 · exact ok154
 · exact ok250
 · exact ok251
 · exact ok177
 · exact ok286
 · exact ok287
 · exact ok355
 · exact ok356
 · exact ok357
 · exact ok358
 · exact ok359
 · exact ok360
 · exact ok420
 · exact ok421
 · exact ok422)
theorem tabZ_ok:TabA Tryz.prog TZ:=lookT_ok (by
 simp only [tabZ,List.mem_cons,List.not_mem_nil,or_false]
 rintro p (rfl | rfl | rfl | rfl | rfl | rfl | rfl | rfl | rfl | rfl | rfl | rfl)
 · exact ok271
 · exact ok350
 · exact ok388
 · exact ok276
 · exact ok352
 · exact ok396
 · exact ok280
 · exact ok353
 · exact ok404
 · exact ok284
 · exact ok354
 · exact ok412)
theorem tabD_ok:TabA Tryz.prog TD:=lookT_ok (by
 simp only [tabD,List.mem_cons,List.not_mem_nil,or_false]
 rintro p (rfl | rfl | rfl | rfl | rfl | rfl | rfl | rfl | rfl | rfl | rfl | rfl | rfl | rfl | rfl | rfl | rfl | rfl | rfl | rfl | rfl | rfl | rfl | rfl | rfl | rfl | rfl | rfl | rfl | rfl | rfl | rfl | rfl | rfl | rfl | rfl | rfl | rfl | rfl | rfl | rfl | rfl | rfl | rfl | rfl | rfl | rfl | rfl | rfl)
 · exact okr58
 · exact okr177
 · exact okr180
 · exact okr183
 · exact okr186
 · exact okr179
 · exact okr182
 · exact okr185
 · exact ok135
 · exact okr336
 · exact okr339
 · exact okr342
 · exact okr346
 · exact okr337
 · exact okr340
 · exact okr344
 · exact okr348
 · exact okr338
 · exact okr341
 · exact okr345
 · exact okr349
 · exact ok132
 · exact ok143
 · exact ok255
 · exact ok261
 · exact ok239
 · exact ok245
 · exact ok340
 · exact ok292
 · exact ok100
 · exact ok103
 · exact ok109
 · exact ok339
 · exact ok138
 · exact ok141
 · exact ok145
 · exact ok148
 · exact ok105
 · exact ok243
 · exact ok246
 · exact ok248
 · exact ok106
 · exact ok186
 · exact ok187
 · exact ok188
 · exact ok242
 · exact ok244
 · exact ok247
 · exact ok249)
theorem tabL_ok:TabA Tryz.prog TL7:=lookT_ok (by
 simp only [List.mem_cons,List.not_mem_nil,or_false]
 rintro p rfl
 exact okr7)
theorem ET0_ok:CallsOk Tryz.prog ET0:=fun f args h r h' hm=>Sm_ok mixed noE_ok tabT_ok f args h r h' hm
theorem Et_ok:CallsOk Tryz.prog Et:=by
 intro f args h r h' hm
 simp only [Et] at hm
 split at hm
 · exact Sm_ok mixed E1_ok tabP_ok f args h r h' hm
 · cases hm
theorem srtPod_ok {args:List V} {h:Hp} {r:V} {h':Hp} (hm:srtE sgPod 355 args h = some (r,h')) :
 (∀ vs w,(callFunc 355 vs).run Tryz.prog w = .ok (.enter 355 vs) w) /\ LowOk h h' /\ ∀ B ρ w (vs:Array Value),Rel B ρ h w -> VRs ρ (St ρ w) w args vs.toList -> Calls Tryz.prog 355 vs w (RetOk B ρ h w r h'):=by
 unfold srtE at hm
 split at hm
 · exact ⟨fun vs w=>callFunc_enter Tryz.func355 rfl (by decide) vs w,sortFE_low hm,fun B ρ w vs hR hv=>sortFE_ok sgPod sort355 Tryz.isAgg50 Tryz.sizeOf50 (fun vs w=>callFunc_enter Tryz.func356 rfl (by decide) vs w) (by decide) does356 hR hv hm⟩
 · exact Sm_ok mixed ET0_ok tabZ_ok 355 args h r h' hm
theorem srtSvc_ok {args:List V} {h:Hp} {r:V} {h':Hp} (hm:srtE sgSvc 360 args h = some (r,h')) :
 (∀ vs w,(callFunc 360 vs).run Tryz.prog w = .ok (.enter 360 vs) w) /\ LowOk h h' /\ ∀ B ρ w (vs:Array Value),Rel B ρ h w -> VRs ρ (St ρ w) w args vs.toList -> Calls Tryz.prog 360 vs w (RetOk B ρ h w r h'):=by
 unfold srtE at hm
 split at hm
 · exact ⟨fun vs w=>callFunc_enter Tryz.func360 rfl (by decide) vs w,sortFE_low hm,fun B ρ w vs hR hv=>sortFE_ok sgSvc sort360 Tryz.isAgg52 Tryz.sizeOf52 (fun vs w=>callFunc_enter Tryz.func361 rfl (by decide) vs w) (by decide) does361 hR hv hm⟩
 · exact Sm_ok mixed ET0_ok tabZ_ok 360 args h r h' hm
theorem srtWay_ok {args:List V} {h:Hp} {r:V} {h':Hp} (hm:srtE sgWay 364 args h = some (r,h')) :
 (∀ vs w,(callFunc 364 vs).run Tryz.prog w = .ok (.enter 364 vs) w) /\ LowOk h h' /\ ∀ B ρ w (vs:Array Value),Rel B ρ h w -> VRs ρ (St ρ w) w args vs.toList -> Calls Tryz.prog 364 vs w (RetOk B ρ h w r h'):=by
 unfold srtE at hm
 split at hm
 · exact ⟨fun vs w=>callFunc_enter Tryz.func364 rfl (by decide) vs w,sortFE_low hm,fun B ρ w vs hR hv=>sortFE_ok sgWay sort364 Tryz.isAgg54 Tryz.sizeOf54 (fun vs w=>callFunc_enter Tryz.func365 rfl (by decide) vs w) (by decide) does365 hR hv hm⟩
 · exact Sm_ok mixed ET0_ok tabZ_ok 364 args h r h' hm
theorem srtPol_ok {args:List V} {h:Hp} {r:V} {h':Hp} (hm:srtE sgPol 368 args h = some (r,h')) :
 (∀ vs w,(callFunc 368 vs).run Tryz.prog w = .ok (.enter 368 vs) w) /\ LowOk h h' /\ ∀ B ρ w (vs:Array Value),Rel B ρ h w -> VRs ρ (St ρ w) w args vs.toList -> Calls Tryz.prog 368 vs w (RetOk B ρ h w r h'):=by
 unfold srtE at hm
 split at hm
 · exact ⟨fun vs w=>callFunc_enter Tryz.func368 rfl (by decide) vs w,sortFE_low hm,fun B ρ w vs hR hv=>sortFE_ok sgPol sort368 Tryz.isAgg63 Tryz.sizeOf63 (fun vs w=>callFunc_enter Tryz.func369 rfl (by decide) vs w) (by decide) does369 hR hv hm⟩
 · exact Sm_ok mixed ET0_ok tabZ_ok 368 args h r h' hm
theorem EI_ok:CallsOk Tryz.prog EIC:=by
 intro f args h r h' hm
 simp only [EIC] at hm
 split at hm
 · exact Sm_ok mixed ET0_ok tabB_ok f args h r h' hm
 · split at hm
   · have hf':f = 355:=Nat.eq_of_beq_eq_true (by assumption)
     subst hf'
     exact srtPod_ok hm
   · have hf':f = 360:=Nat.eq_of_beq_eq_true (by assumption)
     subst hf'
     exact srtSvc_ok hm
   · have hf':f = 364:=Nat.eq_of_beq_eq_true (by assumption)
     subst hf'
     exact srtWay_ok hm
   · have hf':f = 368:=Nat.eq_of_beq_eq_true (by assumption)
     subst hf'
     exact srtPol_ok hm
   · exact Sm_ok mixed Et_ok tabT_ok f args h r h' hm
theorem EQ7_ok:CallsOk Tryz.prog EQ7:=fun f args h r h' hm=>Sm_ok mixed EI_ok tabI_ok f args h r h' hm
theorem EC7_ok:CallsOk Tryz.prog EC7:=by
 intro f args h r h' hm
 simp only [EC7] at hm
 split at hm
 · exact awake_ok f args h r h' hm
 · exact Sm_ok mixed EQ7_ok tabD_ok f args h r h' hm
 · exact EQ7_ok f args h r h' hm
namespace viewChain
theorem chain_any {W:World} {a b c:Vw} (ha:a.wf 1048576) (hb:b.wf 1048576) (hc:c.wf 1048576) {ca cb cc:Array Value} (h0:DL (· < W.heap.size) W a.c ca.toList) (h1:DL (· < W.heap.size) W b.c cb.toList) (h2:DL (· < W.heap.size) W c.c cc.toList) :
 Calls Tryz.prog 7 #[.agg ca,.agg cb,.agg cc] W fun e W'=>e = .returned (.bool true) /\ Below W.heap.size W W':=by
 have wf:∀ {v:Vw},v.wf 1048576 -> v.ok /\ ∀ p ∈ v.policies.l,p.wf big:=fun h=>⟨Vw.wf.ok h (by decide),fun q hq=>Pol.wf.le (by decide) (h.2.2.2.2.2.2 q hq)⟩
 refine law_calls (E:=EC7) EC7_ok tabL_ok (val:=valL7) (args:=[a.v,b.v,c.v]) ?_ (R7 EC7_H a b c (wf ha).1 (wf ha).2 (wf hb).1 (wf hb).2 (wf hc).1 (wf hc).2 ⟨[],0⟩)
 simp only [VRs]
 exact ⟨_,_,rfl,vr_ag h0,_,_,rfl,vr_ag h1,_,_,rfl,vr_ag h2,rfl⟩
theorem lifted (os:Os) (started:os.Started) (H:Type) (enc:TypeId × Value -> H) (F:Stop.Interp) :
 ReturnsInHanded {} Tryz.checked os 7 .any ((Go.Proofs.YtmahnnnccohccaaGreat.Rows.OpenSpec.upto Go.Proofs.YtmahnnnccohccaaGreat.Rows.viewChainSpec).pre6 enc Tryz.prog Tryz.f7 Go.Proofs.YtmahnnnccohccaaGreat.Rows.viewChainUptoRow.domain false) (((Go.Proofs.YtmahnnnccohccaaGreat.Rows.OpenSpec.upto Go.Proofs.YtmahnnnccohccaaGreat.Rows.viewChainSpec).at F).post enc Tryz.prog Tryz.f7 false true false false):=by
 refine returnsInHanded_of_cond (C:=Tryz.checked) (s:=Go.Proofs.YtmahnnnccohccaaGreat.Rows.OpenSpec.upto Go.Proofs.YtmahnnnccohccaaGreat.Rows.viewChainSpec) (k:=Go.Proofs.YtmahnnnccohccaaGreat.Rows.uptoSmall) rfl own started (by kernel_rfl) Tryz.func7
  (OpenSpec.witness (enc:=enc) (C:=Tryz.checked) (s:=Go.Proofs.YtmahnnnccohccaaGreat.Rows.OpenSpec.upto Go.Proofs.YtmahnnnccohccaaGreat.Rows.viewChainSpec) (k:=Go.Proofs.YtmahnnnccohccaaGreat.Rows.uptoSmall) rfl false ⟨#[],#[.agg #[.int .u64 0,.slice none 0 0,.slice none 0 0,.slice none 0 0,.slice none 0 0,.slice none 0 0],.agg #[.int .u64 0,.slice none 0 0,.slice none 0 0,.slice none 0 0,.slice none 0 0,.slice none 0 0],.agg #[.int .u64 0,.slice none 0 0,.slice none 0 0,.slice none 0 0,.slice none 0 0,.slice none 0 0]],[]⟩ 8
   (by kernel_rfl) (by kernel_rfl) (by kernel_rfl) (x:=([.agg [.lit (.int .u64 0),.nil,.nil,.nil,.nil,.nil],.agg [.lit (.int .u64 0),.nil,.nil,.nil,.nil,.nil],.agg [.lit (.int .u64 0),.nil,.nil,.nil,.nil,.nil]],[],[])) (by kernel_rfl) rfl (by rfl)) ?_
 intro W base args ds gs before hval0 hW hcnd hkk _
 have hval:∀ (j:Nat) t v,Tryz.f7.params[j]? = some t -> args[j]? = some v -> Value.okWide Tryz.prog W .any base t v:=hval0
 have hW':=hW
 obtain ⟨p,q,hA0,hV,rfl,hfz,hnd⟩:=hW
 have hA:DataW.TrodAll enc Tryz.prog W 0 (fun _=>true) true Tryz.f7.params.toList args.toList ds p:=hA0
 rw [Tryz.params7] at hA hval
 obtain ⟨v0,vs1,d0,ds1,p0,q1,ha1,rfl,rfl,h0,hA⟩:=trodAll_cons hA
 obtain ⟨v1,vs2,d1,ds2,p1,q2,rfl,rfl,rfl,h1,hA⟩:=trodAll_cons hA
 obtain ⟨v2,vs3,d2,ds3,p2,q3,rfl,rfl,rfl,h2,hA⟩:=trodAll_cons hA
 obtain ⟨rfl,rfl,rfl⟩:=trodAll_nil hA
 have hargs:args = #[v0,v1,v2]:=by apply Array.ext'; simpa using ha1
 subst hargs
 obtain ⟨rfl,rfl⟩:=trodVars_none hV
 have hsm:bulks [d0,d1,d2] <= 1048576:=by simpa [Go.Proofs.YtmahnnnccohccaaGreat.Rows.uptoSmall] using hkk
 obtain ⟨ca,rfl,hca⟩:=okWide_struct Tryz.underlying29 (hval 0 29 v0 rfl rfl)
 obtain ⟨cb,rfl,hcb⟩:=okWide_struct Tryz.underlying29 (hval 1 29 v1 rfl rfl)
 obtain ⟨cc,rfl,hcc⟩:=okWide_struct Tryz.underlying29 (hval 2 29 v2 rfl rfl)
 have hlt0:∀ x ∈ p0,x.block < W.heap.size:=fun x hx=>hW'.lt x (by simp [hx])
 have hlt1:∀ x ∈ p1,x.block < W.heap.size:=fun x hx=>hW'.lt x (by simp [hx])
 have hlt2:∀ x ∈ p2,x.block < W.heap.size:=fun x hx=>hW'.lt x (by simp [hx])
 have h0':=h0
 have h1':=h1
 have h2':=h2
 obtain ⟨f0,g0⟩:=h0
 obtain ⟨f1,g1⟩:=h1
 obtain ⟨f2,g2⟩:=h2
 obtain ⟨a,a1,a2⟩:=rd_Vw (B:=1048576) _ _ _ g0 (Nat.le_trans (bulk_mem (by simp)) hsm)
 obtain ⟨b,b1,b2⟩:=rd_Vw (B:=1048576) _ _ _ g1 (Nat.le_trans (bulk_mem (by simp)) hsm)
 obtain ⟨c,c1,c2⟩:=rd_Vw (B:=1048576) _ _ _ g2 (Nat.le_trans (bulk_mem (by simp)) hsm)
 refine (chain_any a2 b2 c2 a1 b1 c1).mono fun e W' ⟨he,hb⟩=>?_
 subst he
 have k0:=Below.trod laidOut (by kernel_rfl) (of_decide_eq_true (by kernel_rfl)) h0' hb hlt0
 have k1:=Below.trod laidOut (by kernel_rfl) (of_decide_eq_true (by kernel_rfl)) h1' hb hlt1
 have k2:=Below.trod laidOut (by kernel_rfl) (of_decide_eq_true (by kernel_rfl)) h2' hb hlt2
 have kA:=trodAll_cons_mk k0 (trodAll_cons_mk k1 (trodAll_mk1 k2))
 exact ⟨_,rfl,_,_,_,[],_,[],hW',trodAll_mk1 (shut_bool Tryz.underlying4 true),kA,rfl,hb.frame _,fun h=>by cases h⟩
theorem proved:Go.Proofs.YtmahnnnccohccaaGreat.Rows.ViewChainUptoSaid :=
 OpenClaim.holds_of_cond 7 Tryz.f7 rfl rfl rfl rfl rfl rfl rfl ⟨rfl,rfl,rfl,rfl,rfl⟩ rfl rfl rfl rfl rfl named Tryz.func7 facts
  (of_decide_eq_true (by kernel_rfl)) (by unfold Func.isWrapper; first | (rw [if_pos (by decide +kernel)]; kernel_rfl) | (rw [if_neg (by decide +kernel)]; exact ⟨rfl,rfl⟩))
  (fun os started H enc _ F=>lifted os started H enc F)
end viewChain
end Go.Proofs.YtmahnnnccohccaaGreat
