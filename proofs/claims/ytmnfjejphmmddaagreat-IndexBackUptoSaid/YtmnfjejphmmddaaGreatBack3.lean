/- IndexBack's row: by whatever pushes epochs, lives and numbers do not fall in a life; what was refused, or left aside, changes nothing; what was answered good is what the index has; of bulk at most 1048576. -/
import Derived.Test.YtmnfjejphmmddaaGreatYd
import Derived.Test.YtmnfjejphmmddaaGreatRdx
import Derived.Test.YtmnfjejphmmddaaGreatLay
import Derived.Test.YtmnfjejphmmddaaGreatCy
import Derived.Test.YtmnfjejphmmddaaGreatWf
import Derived.Test.YtmnfjejphmmddaaGreatKa
import Derived.Test.YtmnfjejphmmddaaGreatK19
import Derived.Test.YtmnfjejphmmddaaGreatFacts3
import Derived.Carry
set_option linter.unusedVariables false
set_option maxRecDepth 100000
namespace Go.Proofs.YtmnfjejphmmddaaGreat
open Go.ChangeShapes Go.WideShapes Go.ChangeAt Go.RowKit
def rho0:Rh:=⟨fun _=>0,fun _=>False,fun _=>False,fun _=>False,fun _=>False⟩
theorem rel0 (w:World):Rel w.heap.size rho0 ⟨[],0⟩ w where
 dom i h:=h.elim
 ln i h:=h.elim
 live i hi:=by simp at hi
 lo i h:=h.elim
 base:=Nat.le_refl _
 inj i j _ h:=h.elim
 mem i hi:=by simp at hi
 xB b h:=h.elim
 gB b h:=h.elim
theorem st0 {w:World} {b:Nat}:St rho0 w b ↔ b < w.heap.size:=⟨fun h=>h.1,fun h=>⟨h,fun i=>⟨fun hi=>hi.elim,fun hx=>hx⟩⟩⟩
theorem DL.vrs {w:World}:∀ {ds:List D} {cs:List Value},DL (· < w.heap.size) w ds cs -> VRs rho0 (St rho0 w) w (ds.map .d) cs /\ ∀ u ∈ cs,u.oneCell' = true
 | [],cs,h=>by simp only [DL] at h; subst h; exact ⟨by simp only [List.map_nil,VRs],by simp⟩
 | d :: ds,cs,h=>by
  simp only [DL] at h
  obtain ⟨u,us,rfl,h1,h2⟩:=h
  have ih:=DL.vrs h2
  refine ⟨by simp only [List.map_cons,VRs]; exact ⟨u,us,rfl,by simp only [VR]; exact DR.mono (fun b hb=>st0.2 hb) (fun _ _=>rfl) h1,ih.1⟩,?_⟩
  intro x hx
  rcases List.mem_cons.1 hx with rfl | hx
  · exact h1.one
  · exact ih.2 x hx
theorem vr_ag {w:World} {ds:List D} {cs:Array Value} (h:DL (· < w.heap.size) w ds cs.toList):VR rho0 (St rho0 w) w (ag ds) (.agg cs):=by
 simp only [ag,VR]
 exact ⟨cs,rfl,h.vrs.1,h.vrs.2⟩
theorem vr_one {w:World} {d:D} {v:Value} (h:DL (· < w.heap.size) w [d] [v]):VR rho0 (St rho0 w) w (.d d) v:=by
 have:=h.vrs.1
 simp only [List.map_cons,List.map_nil,VRs] at this
 obtain ⟨u,us,e,h1,_⟩:=this
 simp at e
 rw [e.1]; exact h1
theorem own:ownKnob Tryz.prog.godebug = none:=by kernel_rfl
theorem mixed:Tryz.prog.follows .mixedOrders = true:=Checked.mixed Tryz.checked
theorem awake_ok:CallsOk Tryz.prog (known 16 true):=known_ok mixed (Tab.look_ok tabK_ok) okK_self (by kernel_rfl) awake_run
theorem law_calls {E:Calls'} (hE:CallsOk Tryz.prog E) {T:FuncId -> Option QF} {val:FuncId -> Bool} (hT:TabA Tryz.prog T) {f:FuncId} {args:List V} {W:World} {vs:Array Value} (hv:VRs rho0 (St rho0 W) W args vs.toList) (hs:Sm E T val f args ⟨[],0⟩ = some (bl true,⟨[],0⟩)) :
 Calls Tryz.prog f vs W fun e W'=>e = .returned (.bool true) /\ Below W.heap.size W W':=by
 obtain ⟨_,_,h3⟩:=Sm_ok (val:=val) mixed hE hT f args ⟨[],0⟩ _ _ hs
 refine (h3 W.heap.size rho0 W vs (rel0 W) hv).mono fun e W' ⟨v,ρ',k1,k2,k3,k4⟩=>?_
 refine ⟨?_,k3.below⟩
 rw [k1]
 simp only [VRx,VR,DR] at k4
 simp [k4]
theorem none_ok:CallsOk Tryz.prog (fun _ _ _=>none):=fun f args h r h' hm=>by cases hm
theorem tabP_ok:TabA Tryz.prog TP:=lookT_ok (by
 simp only [tabP,List.mem_cons,List.not_mem_nil,or_false]
 rintro p (rfl | rfl | rfl)
 · exact ok385
 · exact ok372
 · exact ok445)
theorem sort_enter (vs:Array Value) (w:World):(callFunc 443 vs).run Tryz.prog w = .ok (.enter 443 vs) w :=
 callFunc_enter Tryz.func443 rfl (by decide) vs w
theorem E1_ok:CallsOk Tryz.prog E1:=by
 intro f args h r h' hm
 simp only [E1] at hm
 split at hm
 · rename_i hf
   have hf':f = 443:=Nat.eq_of_beq_eq_true hf
   subst hf'
   exact ⟨sort_enter,sortE_low hm,fun B ρ w vs hR hv=>sortE_ok lays189 hR hv hm⟩
 · exact Sm_ok mixed none_ok tabT_ok f args h r h' hm
theorem noE_ok:CallsOk Tryz.prog noE:=fun f args h r h' hm=>by cases hm
theorem tabB_ok:TabA Tryz.prog TB:=lookT_ok (by
 simp only [tabB,List.mem_cons,List.not_mem_nil,or_false]
 rintro p (rfl | rfl | rfl | rfl | rfl | rfl | rfl)
 · exact ok155
 · exact ok163
 · exact ok135
 · exact ok106
 · exact ok186
 · exact ok187
 · exact ok188)
theorem tabI_ok:TabA Tryz.prog TI:=lookT_ok (by
 simp only [tabI,List.mem_cons,List.not_mem_nil,or_false]
 rintro p (rfl | rfl | rfl | rfl | rfl | rfl | rfl | rfl | rfl | rfl | rfl | rfl | rfl | rfl | rfl | rfl | rfl | rfl | rfl | rfl | rfl | rfl | rfl | rfl | rfl | rfl | rfl | rfl | rfl | rfl | rfl | rfl | rfl | rfl | rfl | rfl | rfl | rfl | rfl | rfl | rfl | rfl | rfl | rfl | rfl | rfl | rfl | rfl | rfl | rfl | rfl | rfl | rfl | rfl | rfl | rfl | rfl | rfl | rfl | rfl | rfl | rfl | rfl | rfl | rfl | rfl | rfl | rfl | rfl | rfl | rfl | rfl | rfl | rfl | rfl | rfl | rfl | rfl | rfl | rfl | rfl | rfl | rfl | rfl | rfl | rfl | rfl | rfl | rfl | rfl | rfl | rfl | rfl | rfl | rfl | rfl | rfl | rfl | rfl)
 · exact ok3
 · exact ok15
 · exact ok17
 · exact ok18
 · exact ok19
 · exact ok79
 · exact ok80
 · exact ok82
 · exact ok164
 · exact ok76
 · exact ok77
 · exact ok125
 · exact ok81
 · exact ok173
 · exact ok174
 · exact ok175
 · exact ok176
 · exact ok165
 · exact ok167
 · exact ok169
 · exact ok171
 · exact ok268
 · exact ok274
 · exact ok278
 · exact ok282
 · exact ok270
 · exact ok275
 · exact ok279
 · exact ok283
 · exact ok264
 · exact ok265
 · exact ok266
 · exact ok267
 · exact ok345
 · exact ok346
 · exact ok347
 · exact ok348
 · exact ok343
 · exact ok344
 · exact ok269
 · exact ok349
 · exact ok75
 · exact ok162
 · exact ok132
 · exact ok143
 · exact ok255
 · exact ok261
 · exact ok239
 · exact ok245
 · exact ok340
 · exact ok292
 · exact ok100
 · exact ok103
 · exact ok109
 · exact ok339
 · exact ok253
 · exact ok254
 · exact ok256
 · exact ok262
 · exact ok257
 · exact ok258
 · exact ok259
 · exact ok260
 · exact ok166
 · exact ok168
 · exact ok170
 · exact ok172
 · exact ok138
 · exact ok141
 · exact ok145
 · exact ok148
 · exact ok105
 · exact ok243
 · exact ok246
 · exact ok248
 · exact ok106
 · exact ok186
 · exact ok187
 · exact ok188
 · exact ok242
 · exact ok244
 · exact ok247
 · exact ok249
 · exact ok135
 · exact ok154
 · exact ok250
 · exact ok251
 · exact ok177
 · exact ok286
 · exact ok287
 · exact ok355
 · exact ok356
 · exact ok357
 · exact ok358
 · exact ok359
 · exact ok360
 · exact ok420
 · exact ok421
 · exact ok422)
theorem tabZ_ok:TabA Tryz.prog TZ:=lookT_ok (by
 simp only [tabZ,List.mem_cons,List.not_mem_nil,or_false]
 rintro p (rfl | rfl | rfl | rfl | rfl | rfl | rfl | rfl | rfl | rfl | rfl | rfl)
 · exact ok271
 · exact ok350
 · exact ok388
 · exact ok276
 · exact ok352
 · exact ok396
 · exact ok280
 · exact ok353
 · exact ok404
 · exact ok284
 · exact ok354
 · exact ok412)
theorem ET0_ok:CallsOk Tryz.prog ET0:=fun f args h r h' hm=>Sm_ok mixed noE_ok tabT_ok f args h r h' hm
theorem Et_ok:CallsOk Tryz.prog Et:=by
 intro f args h r h' hm
 simp only [Et] at hm
 split at hm
 · exact Sm_ok mixed E1_ok tabP_ok f args h r h' hm
 · cases hm
theorem srtPod_ok {args:List V} {h:Hp} {r:V} {h':Hp} (hm:srtE sgPod 271 args h = some (r,h')) :
 (∀ vs w,(callFunc 271 vs).run Tryz.prog w = .ok (.enter 271 vs) w) /\ LowOk h h' /\ ∀ B ρ w (vs:Array Value),Rel B ρ h w -> VRs ρ (St ρ w) w args vs.toList -> Calls Tryz.prog 271 vs w (RetOk B ρ h w r h'):=by
 unfold srtE at hm
 split at hm
 · exact ⟨fun vs w=>callFunc_enter Tryz.func271 rfl (by decide) vs w,sortFE_low hm,fun B ρ w vs hR hv=>sortFE_ok sgPod sort271 Tryz.isAgg59 Tryz.sizeOf59 (fun vs w=>callFunc_enter Tryz.func272 rfl (by decide) vs w) (by decide) does272 hR hv hm⟩
 · exact Sm_ok mixed ET0_ok tabZ_ok 271 args h r h' hm
theorem srtSvc_ok {args:List V} {h:Hp} {r:V} {h':Hp} (hm:srtE sgSvc 276 args h = some (r,h')) :
 (∀ vs w,(callFunc 276 vs).run Tryz.prog w = .ok (.enter 276 vs) w) /\ LowOk h h' /\ ∀ B ρ w (vs:Array Value),Rel B ρ h w -> VRs ρ (St ρ w) w args vs.toList -> Calls Tryz.prog 276 vs w (RetOk B ρ h w r h'):=by
 unfold srtE at hm
 split at hm
 · exact ⟨fun vs w=>callFunc_enter Tryz.func276 rfl (by decide) vs w,sortFE_low hm,fun B ρ w vs hR hv=>sortFE_ok sgSvc sort276 Tryz.isAgg61 Tryz.sizeOf61 (fun vs w=>callFunc_enter Tryz.func277 rfl (by decide) vs w) (by decide) does277 hR hv hm⟩
 · exact Sm_ok mixed ET0_ok tabZ_ok 276 args h r h' hm
theorem srtWay_ok {args:List V} {h:Hp} {r:V} {h':Hp} (hm:srtE sgWay 280 args h = some (r,h')) :
 (∀ vs w,(callFunc 280 vs).run Tryz.prog w = .ok (.enter 280 vs) w) /\ LowOk h h' /\ ∀ B ρ w (vs:Array Value),Rel B ρ h w -> VRs ρ (St ρ w) w args vs.toList -> Calls Tryz.prog 280 vs w (RetOk B ρ h w r h'):=by
 unfold srtE at hm
 split at hm
 · exact ⟨fun vs w=>callFunc_enter Tryz.func280 rfl (by decide) vs w,sortFE_low hm,fun B ρ w vs hR hv=>sortFE_ok sgWay sort280 Tryz.isAgg63 Tryz.sizeOf63 (fun vs w=>callFunc_enter Tryz.func281 rfl (by decide) vs w) (by decide) does281 hR hv hm⟩
 · exact Sm_ok mixed ET0_ok tabZ_ok 280 args h r h' hm
theorem srtPol_ok {args:List V} {h:Hp} {r:V} {h':Hp} (hm:srtE sgPol 284 args h = some (r,h')) :
 (∀ vs w,(callFunc 284 vs).run Tryz.prog w = .ok (.enter 284 vs) w) /\ LowOk h h' /\ ∀ B ρ w (vs:Array Value),Rel B ρ h w -> VRs ρ (St ρ w) w args vs.toList -> Calls Tryz.prog 284 vs w (RetOk B ρ h w r h'):=by
 unfold srtE at hm
 split at hm
 · exact ⟨fun vs w=>callFunc_enter Tryz.func284 rfl (by decide) vs w,sortFE_low hm,fun B ρ w vs hR hv=>sortFE_ok sgPol sort284 Tryz.isAgg72 Tryz.sizeOf72 (fun vs w=>callFunc_enter Tryz.func285 rfl (by decide) vs w) (by decide) does285 hR hv hm⟩
 · exact Sm_ok mixed ET0_ok tabZ_ok 284 args h r h' hm
theorem EI_ok:CallsOk Tryz.prog EI:=by
 intro f args h r h' hm
 simp only [EI] at hm
 split at hm
 · exact Sm_ok mixed ET0_ok tabB_ok f args h r h' hm
 · split at hm
   · rename_i hf
     have hf':f = 16:=Nat.eq_of_beq_eq_true hf
     subst hf'
     exact awake_ok 16 args h r h' hm
   · split at hm
     · have hf':f = 271:=Nat.eq_of_beq_eq_true (by assumption)
       subst hf'
       exact srtPod_ok hm
     · have hf':f = 276:=Nat.eq_of_beq_eq_true (by assumption)
       subst hf'
       exact srtSvc_ok hm
     · have hf':f = 280:=Nat.eq_of_beq_eq_true (by assumption)
       subst hf'
       exact srtWay_ok hm
     · have hf':f = 284:=Nat.eq_of_beq_eq_true (by assumption)
       subst hf'
       exact srtPol_ok hm
     · exact Sm_ok mixed Et_ok tabT_ok f args h r h' hm
def u64Wf (B:Nat) (n:Int):Prop:=Inr .u64 n
def Dlt.wf (B:Nat) (c:Dlt):Prop:=Inr .u64 c.epoch /\ c.covers.wf B u32Wf /\ c.pods.wf B Pod.wf /\ c.services.wf B Svc.wf /\ c.bound.wf B Way.wf /\ c.policies.wf B Pol.wf /\ c.gonePods.wf B u64Wf /\ c.goneServices.wf B u64Wf /\ c.goneBound.wf B u64Wf /\ c.gonePolicies.wf B u64Wf
def Psh.wf (B:Nat) (p:Psh):Prop:=p.delta.wf B
theorem Dlt.wf.ok {B:Nat} {c:Dlt} (h:c.wf B) (hB:B <= big):c.ok:=by
 obtain ⟨h0,h1,h2,h3,h4,h5,h6,h7,h8,h9⟩:=h
 exact ⟨Vw.wf.ok (c:=c.vw) ⟨h0,h1,h2,h3,h4,h5⟩ hB,h6.1.le hB,h7.1.le hB,h8.1.le hB,h9.1.le hB⟩
section
variable {H:Type} {enc:TypeId × Value -> H} {w:World} {spare:Nat -> Bool} {held:Bool} {B:Nat}
theorem rd_u64s:Rd enc w spare held B 40 (fun s=>[Sl.d u64C s]) (fun B s=>Sl.wf B u64Wf s) :=
 rd_slice (z:=1) Tryz.underlying40 (by kernel_rfl) (by decide) (fun _=>rfl) (rd_int Tryz.underlying22)
theorem rd_Dlt:Rd enc w spare held B 42 Dlt.c Dlt.wf:=by
 intro fuel cs y h hB
 obtain ⟨xs,n,rfl,rfl,hl,hx,hf⟩:=DataW.trod_struct Tryz.underlying42 h
 have hl:cs.length = 10:=hl.trans (by kernel_rfl)
 have hx:xs.length = 10:=hx
 obtain ⟨x0,k0,o0⟩:=rd_field hf hB (rd_int (t:=22) Tryz.underlying22) 0 0 1 rfl (by kernel_rfl) (by omega)
 obtain ⟨x1,k1,o1⟩:=rd_field hf hB (rd_u32s) 1 1 1 rfl (by kernel_rfl) (by omega)
 obtain ⟨x2,k2,o2⟩:=rd_field hf hB (rd_Pods) 2 2 1 rfl (by kernel_rfl) (by omega)
 obtain ⟨x3,k3,o3⟩:=rd_field hf hB (rd_Svcs) 3 3 1 rfl (by kernel_rfl) (by omega)
 obtain ⟨x4,k4,o4⟩:=rd_field hf hB (rd_Ways) 4 4 1 rfl (by kernel_rfl) (by omega)
 obtain ⟨x5,k5,o5⟩:=rd_field hf hB (rd_Pols) 5 5 1 rfl (by kernel_rfl) (by omega)
 obtain ⟨x6,k6,o6⟩:=rd_field hf hB (rd_u64s) 6 6 1 rfl (by kernel_rfl) (by omega)
 obtain ⟨x7,k7,o7⟩:=rd_field hf hB (rd_u64s) 7 7 1 rfl (by kernel_rfl) (by omega)
 obtain ⟨x8,k8,o8⟩:=rd_field hf hB (rd_u64s) 8 8 1 rfl (by kernel_rfl) (by omega)
 obtain ⟨x9,k9,o9⟩:=rd_field hf hB (rd_u64s) 9 9 1 rfl (by kernel_rfl) (by omega)
 refine ⟨⟨x0,x1,x2,x3,x4,x5,x6,x7,x8,x9⟩,?_,⟨o0,o1,o2,o3,o4,o5,o6,o7,o8,o9⟩⟩
 show DL _ _ ([u64 x0] ++ ([Sl.d u32C x1] ++ ([Sl.d Pod.c x2] ++ ([Sl.d Svc.c x3] ++ ([Sl.d Way.c x4] ++ ([Sl.d Pol.c x5] ++ ([Sl.d u64C x6] ++ ([Sl.d u64C x7] ++ ([Sl.d u64C x8] ++ ([Sl.d u64C x9] ++ ([]))))))))))) cs
 have a10:DL (· < w.heap.size) w [] (cs.drop 10):=DL.nil (by omega)
 have a9:=DL.app (cs:=cs.drop 9) (n:=1) rfl k9 (by rw [List.drop_drop]; exact a10)
 have a8:=DL.app (cs:=cs.drop 8) (n:=1) rfl k8 (by rw [List.drop_drop]; exact a9)
 have a7:=DL.app (cs:=cs.drop 7) (n:=1) rfl k7 (by rw [List.drop_drop]; exact a8)
 have a6:=DL.app (cs:=cs.drop 6) (n:=1) rfl k6 (by rw [List.drop_drop]; exact a7)
 have a5:=DL.app (cs:=cs.drop 5) (n:=1) rfl k5 (by rw [List.drop_drop]; exact a6)
 have a4:=DL.app (cs:=cs.drop 4) (n:=1) rfl k4 (by rw [List.drop_drop]; exact a5)
 have a3:=DL.app (cs:=cs.drop 3) (n:=1) rfl k3 (by rw [List.drop_drop]; exact a4)
 have a2:=DL.app (cs:=cs.drop 2) (n:=1) rfl k2 (by rw [List.drop_drop]; exact a3)
 have a1:=DL.app (cs:=cs.drop 1) (n:=1) rfl k1 (by rw [List.drop_drop]; exact a2)
 have a0:=DL.app (cs:=cs.drop 0) (n:=1) rfl k0 (by rw [List.drop_drop]; exact a1)
 simpa using a0
theorem rd_Psh:Rd enc w spare held B 44 Psh.c Psh.wf:=by
 intro fuel cs y h hB
 obtain ⟨xs,n,rfl,rfl,hl,hx,hf⟩:=DataW.trod_struct Tryz.underlying44 h
 have hl:cs.length = 14:=hl.trans (by kernel_rfl)
 have hx:xs.length = 5:=hx
 obtain ⟨x0,k0,o0⟩:=rd_field hf hB (rd_int (t:=22) Tryz.underlying22) 0 0 1 rfl (by kernel_rfl) (by omega)
 obtain ⟨x1,k1,o1⟩:=rd_field hf hB (rd_int (t:=22) Tryz.underlying22) 1 1 1 rfl (by kernel_rfl) (by omega)
 obtain ⟨x2,k2,o2⟩:=rd_field hf hB (rd_int (t:=22) Tryz.underlying22) 2 2 1 rfl (by kernel_rfl) (by omega)
 obtain ⟨x3,k3,o3⟩:=rd_field hf hB (rd_int (t:=22) Tryz.underlying22) 3 3 1 rfl (by kernel_rfl) (by omega)
 obtain ⟨x4,k4,o4⟩:=rd_field hf hB (rd_Dlt) 4 4 10 rfl (by kernel_rfl) (by omega)
 refine ⟨⟨x0,x1,x2,x3,x4⟩,?_,o4⟩
 show DL _ _ ([u64 x0] ++ ([u64 x1] ++ ([u64 x2] ++ ([u64 x3] ++ (x4.c ++ ([])))))) cs
 have a5:DL (· < w.heap.size) w [] (cs.drop 14):=DL.nil (by omega)
 have a4:=DL.app (cs:=cs.drop 4) (n:=10) rfl k4 (by rw [List.drop_drop]; exact a5)
 have a3:=DL.app (cs:=cs.drop 3) (n:=1) rfl k3 (by rw [List.drop_drop]; exact a4)
 have a2:=DL.app (cs:=cs.drop 2) (n:=1) rfl k2 (by rw [List.drop_drop]; exact a3)
 have a1:=DL.app (cs:=cs.drop 1) (n:=1) rfl k1 (by rw [List.drop_drop]; exact a2)
 have a0:=DL.app (cs:=cs.drop 0) (n:=1) rfl k0 (by rw [List.drop_drop]; exact a1)
 simpa using a0
theorem rd_Pshs:Rd enc w spare held B 23 (fun s=>[Sl.d Psh.c s]) (fun B s=>Sl.wf B Psh.wf s) :=
 rd_slice (z:=14) Tryz.underlying23 (by kernel_rfl) (by decide) (fun _=>rfl) (rd_Psh)
end
namespace indexBack
theorem back_any {W:World} {node inc:Int} {l:Sl Psh} (hn:l.wf 1048576 Psh.wf) {u:Value} (h2:DL (· < W.heap.size) W [l.d Psh.c] [u]) :
 Calls Tryz.prog 3 #[.int .i64 node,.int .u64 inc,u] W fun e W'=>e = .returned (.bool true) /\ Below W.heap.size W W':=by
 have hw:∀ p ∈ l.l,p.delta.ok /\ ∀ q ∈ p.delta.policies.l,q.wf big:=fun p hp=>⟨Dlt.wf.ok (hn.2 p hp) (by decide),fun q hq=>Pol.wf.le (by decide) ((hn.2 p hp).2.2.2.2.2.1.2 q hq)⟩
 refine law_calls (E:=EI) EI_ok tabI_ok (args:=[.d (i64 node),.d (u64 inc),.d (l.d Psh.c)]) ?_ (S3 EI_H node inc (hn.1.le (by decide)) hw ⟨[],0⟩)
 simp only [VRs]
 exact ⟨_,_,rfl,by simp only [VR,DR],_,_,rfl,by simp only [VR,DR],_,_,rfl,vr_one h2,rfl⟩
theorem lifted (os:Os) (started:os.Started) (H:Type) (enc:TypeId × Value -> H) (F:Stop.Interp) :
 ReturnsInHanded {} Tryz.checked os 3 .any ((Go.Proofs.YtmnfjejphmmddaaGreat.Rows.OpenSpec.upto Go.Proofs.YtmnfjejphmmddaaGreat.Rows.indexBackSpec).pre6 enc Tryz.prog Tryz.f3 Go.Proofs.YtmnfjejphmmddaaGreat.Rows.indexBackUptoRow.domain false) (((Go.Proofs.YtmnfjejphmmddaaGreat.Rows.OpenSpec.upto Go.Proofs.YtmnfjejphmmddaaGreat.Rows.indexBackSpec).at F).post enc Tryz.prog Tryz.f3 false true false false):=by
 refine returnsInHanded_of_cond (C:=Tryz.checked) (s:=Go.Proofs.YtmnfjejphmmddaaGreat.Rows.OpenSpec.upto Go.Proofs.YtmnfjejphmmddaaGreat.Rows.indexBackSpec) (k:=Go.Proofs.YtmnfjejphmmddaaGreat.Rows.uptoSmall) rfl own started (by kernel_rfl) Tryz.func3
  (OpenSpec.witness (enc:=enc) (C:=Tryz.checked) (s:=Go.Proofs.YtmnfjejphmmddaaGreat.Rows.OpenSpec.upto Go.Proofs.YtmnfjejphmmddaaGreat.Rows.indexBackSpec) (k:=Go.Proofs.YtmnfjejphmmddaaGreat.Rows.uptoSmall) rfl false ⟨#[],#[.int .i64 0,.int .u64 0,.slice none 0 0],[]⟩ 8
   (by kernel_rfl) (by kernel_rfl) (by kernel_rfl) (x:=([.lit (.int .i64 0),.lit (.int .u64 0),.nil],[],[])) (by kernel_rfl) rfl (by rfl)) ?_
 intro W base args ds gs before hval0 hW hcnd hkk _
 have hval:∀ (j:Nat) t v,Tryz.f3.params[j]? = some t -> args[j]? = some v -> Value.okWide Tryz.prog W .any base t v:=hval0
 have hW':=hW
 obtain ⟨p,q,hA0,hV,rfl,hfz,hnd⟩:=hW
 have hA:DataW.TrodAll enc Tryz.prog W 0 (fun _=>true) true Tryz.f3.params.toList args.toList ds p:=hA0
 rw [Tryz.params3] at hA hval
 obtain ⟨v0,vs1,d0,ds1,p0,q1,ha1,rfl,rfl,h0,hA⟩:=trodAll_cons hA
 obtain ⟨v1,vs2,d1,ds2,p1,q2,rfl,rfl,rfl,h1,hA⟩:=trodAll_cons hA
 obtain ⟨v2,vs3,d2,ds3,p2,q3,rfl,rfl,rfl,h2,hA⟩:=trodAll_cons hA
 obtain ⟨rfl,rfl,rfl⟩:=trodAll_nil hA
 have hargs:args = #[v0,v1,v2]:=by apply Array.ext'; simpa using ha1
 subst hargs
 obtain ⟨rfl,rfl⟩:=trodVars_none hV
 have hsm:bulks [d0,d1,d2] <= 1048576:=by simpa [Go.Proofs.YtmnfjejphmmddaaGreat.Rows.uptoSmall] using hkk
 obtain ⟨a,rfl,rfl,rfl,wa⟩:=open_int Tryz.underlying3 (hval 0 3 v0 rfl rfl) h0
 obtain ⟨b,rfl,rfl,rfl,wb⟩:=open_int Tryz.underlying22 (hval 1 22 v1 rfl rfl) h1
 obtain ⟨sa,sn,sc,rfl⟩:=okWide_slice Tryz.underlying23 (hval 2 23 v2 rfl rfl)
 have hlt2:∀ x ∈ p2,x.block < W.heap.size:=fun x hx=>hW'.lt x (by simp [hx])
 have h2':=h2
 obtain ⟨f2,g2⟩:=h2
 obtain ⟨l,hl1,hl2⟩:=rd_Pshs (B:=1048576) _ _ _ g2 (Nat.le_trans (bulk_mem (by simp)) hsm)
 refine (back_any hl2 hl1).mono fun e W' ⟨he,hb⟩=>?_
 subst he
 have k2:=Below.trod laidOut (by kernel_rfl) (of_decide_eq_true (by kernel_rfl)) h2' hb hlt2
 have kA:=trodAll_cons_mk (shut_int Tryz.underlying3 wa) (trodAll_cons_mk (shut_int Tryz.underlying22 wb) (trodAll_mk1 k2))
 exact ⟨_,rfl,_,_,_,[],_,[],hW',trodAll_mk1 (shut_bool Tryz.underlying4 true),kA,rfl,hb.frame _,fun h=>by cases h⟩
theorem proved:Go.Proofs.YtmnfjejphmmddaaGreat.Rows.IndexBackUptoSaid :=
 OpenClaim.holds_of_cond 3 Tryz.f3 rfl rfl rfl rfl rfl rfl rfl ⟨rfl,rfl,rfl,rfl,rfl⟩ rfl rfl rfl rfl rfl named Tryz.func3 facts
  (of_decide_eq_true (by kernel_rfl)) (by unfold Func.isWrapper; first | (rw [if_pos (by decide +kernel)]; kernel_rfl) | (rw [if_neg (by decide +kernel)]; exact ⟨rfl,rfl⟩))
  (fun os started H enc _ F=>lifted os started H enc F)
end indexBack
end Go.Proofs.YtmnfjejphmmddaaGreat
