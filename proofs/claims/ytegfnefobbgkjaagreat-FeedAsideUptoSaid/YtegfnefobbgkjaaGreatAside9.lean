/- FeedAside's row: a subscription, and an answer, that come a second time are left aside, and ticks at one time send what is out at most once; of bulk at most 1048576. -/
import Derived.Test.YtegfnefobbgkjaaGreatYd
import Derived.Test.YtegfnefobbgkjaaGreatRdx
import Derived.Test.YtegfnefobbgkjaaGreatLay
import Derived.Test.YtegfnefobbgkjaaGreatWf
import Derived.Test.YtegfnefobbgkjaaGreatKa
import Derived.Test.YtegfnefobbgkjaaGreatK18
import Derived.Test.YtegfnefobbgkjaaGreatFacts9
import Derived.Carry
set_option linter.unusedVariables false
set_option maxRecDepth 100000
namespace Go.Proofs.YtegfnefobbgkjaaGreat
open Go.ChangeShapes Go.WideShapes Go.ChangeAt Go.RowKit
def rho0:Rh:=⟨fun _=>0,fun _=>False,fun _=>False,fun _=>False,fun _=>False⟩
theorem rel0 (w:World):Rel w.heap.size rho0 ⟨[],0⟩ w where
 dom i h:=h.elim
 ln i h:=h.elim
 live i hi:=by simp at hi
 lo i h:=h.elim
 base:=Nat.le_refl _
 inj i j _ h:=h.elim
 mem i hi:=by simp at hi
 xB b h:=h.elim
 gB b h:=h.elim
theorem st0 {w:World} {b:Nat}:St rho0 w b ↔ b < w.heap.size:=⟨fun h=>h.1,fun h=>⟨h,fun i=>⟨fun hi=>hi.elim,fun hx=>hx⟩⟩⟩
theorem DL.vrs {w:World}:∀ {ds:List D} {cs:List Value},DL (· < w.heap.size) w ds cs -> VRs rho0 (St rho0 w) w (ds.map .d) cs /\ ∀ u ∈ cs,u.oneCell' = true
 | [],cs,h=>by simp only [DL] at h; subst h; exact ⟨by simp only [List.map_nil,VRs],by simp⟩
 | d :: ds,cs,h=>by
  simp only [DL] at h
  obtain ⟨u,us,rfl,h1,h2⟩:=h
  have ih:=DL.vrs h2
  refine ⟨by simp only [List.map_cons,VRs]; exact ⟨u,us,rfl,by simp only [VR]; exact DR.mono (fun b hb=>st0.2 hb) (fun _ _=>rfl) h1,ih.1⟩,?_⟩
  intro x hx
  rcases List.mem_cons.1 hx with rfl | hx
  · exact h1.one
  · exact ih.2 x hx
theorem vr_ag {w:World} {ds:List D} {cs:Array Value} (h:DL (· < w.heap.size) w ds cs.toList):VR rho0 (St rho0 w) w (ag ds) (.agg cs):=by
 simp only [ag,VR]
 exact ⟨cs,rfl,h.vrs.1,h.vrs.2⟩
theorem vr_one {w:World} {d:D} {v:Value} (h:DL (· < w.heap.size) w [d] [v]):VR rho0 (St rho0 w) w (.d d) v:=by
 have:=h.vrs.1
 simp only [List.map_cons,List.map_nil,VRs] at this
 obtain ⟨u,us,e,h1,_⟩:=this
 simp at e
 rw [e.1]; exact h1
theorem own:ownKnob Tryz.prog.godebug = none:=by kernel_rfl
theorem mixed:Tryz.prog.follows .mixedOrders = true:=Checked.mixed Tryz.checked
theorem awake_ok:CallsOk Tryz.prog (known 6 true):=known_ok mixed (Tab.look_ok tabK_ok) okK_self (by kernel_rfl) awake_run
theorem law_calls {E:Calls'} (hE:CallsOk Tryz.prog E) {T:FuncId -> Option QF} {val:FuncId -> Bool} (hT:TabA Tryz.prog T) {f:FuncId} {args:List V} {W:World} {vs:Array Value} (hv:VRs rho0 (St rho0 W) W args vs.toList) (hs:Sm E T val f args ⟨[],0⟩ = some (bl true,⟨[],0⟩)) :
 Calls Tryz.prog f vs W fun e W'=>e = .returned (.bool true) /\ Below W.heap.size W W':=by
 obtain ⟨_,_,h3⟩:=Sm_ok (val:=val) mixed hE hT f args ⟨[],0⟩ _ _ hs
 refine (h3 W.heap.size rho0 W vs (rel0 W) hv).mono fun e W' ⟨v,ρ',k1,k2,k3,k4⟩=>?_
 refine ⟨?_,k3.below⟩
 rw [k1]
 simp only [VRx,VR,DR] at k4
 simp [k4]
theorem none_ok:CallsOk Tryz.prog (fun _ _ _=>none):=fun f args h r h' hm=>by cases hm
theorem tabP_ok:TabA Tryz.prog TP:=lookT_ok (by
 simp only [tabP,List.mem_cons,List.not_mem_nil,or_false]
 rintro p (rfl | rfl | rfl)
 · exact ok385
 · exact ok372
 · exact ok445)
theorem sort_enter (vs:Array Value) (w:World):(callFunc 306 vs).run Tryz.prog w = .ok (.enter 306 vs) w :=
 callFunc_enter Tryz.func306 rfl (by decide) vs w
theorem E1_ok:CallsOk Tryz.prog E1:=by
 intro f args h r h' hm
 simp only [E1] at hm
 split at hm
 · rename_i hf
   have hf':f = 306:=Nat.eq_of_beq_eq_true hf
   subst hf'
   exact ⟨sort_enter,sortE_low hm,fun B ρ w vs hR hv=>sortE_ok lays189 hR hv hm⟩
 · exact Sm_ok mixed none_ok tabT_ok f args h r h' hm
theorem tabO_ok:TabA Tryz.prog TO:=lookT_ok (by
 simp only [tabO,List.mem_cons,List.not_mem_nil,or_false]
 rintro p (rfl | rfl | rfl | rfl | rfl)
 · exact ok90
 · exact ok106
 · exact ok186
 · exact ok187
 · exact ok188)
theorem tabV_ok:TabA Tryz.prog TV:=lookT_ok (by
 simp only [tabV,List.mem_cons,List.not_mem_nil,or_false]
 rintro p (rfl | rfl | rfl | rfl | rfl | rfl | rfl | rfl | rfl | rfl | rfl | rfl | rfl | rfl | rfl | rfl | rfl | rfl | rfl | rfl | rfl | rfl | rfl | rfl | rfl | rfl | rfl | rfl | rfl | rfl | rfl | rfl | rfl | rfl | rfl | rfl | rfl | rfl | rfl | rfl | rfl | rfl | rfl | rfl)
 · exact ok64
 · exact ok67
 · exact ok100
 · exact ok103
 · exact ok105
 · exact ok106
 · exact ok109
 · exact ok128
 · exact ok129
 · exact ok130
 · exact ok131
 · exact ok132
 · exact ok133
 · exact ok134
 · exact ok135
 · exact ok138
 · exact ok139
 · exact ok140
 · exact ok141
 · exact ok142
 · exact ok143
 · exact ok144
 · exact ok145
 · exact ok146
 · exact ok147
 · exact ok148
 · exact ok149
 · exact ok150
 · exact ok154
 · exact ok186
 · exact ok187
 · exact ok188
 · exact ok239
 · exact ok242
 · exact ok243
 · exact ok244
 · exact ok245
 · exact ok246
 · exact ok247
 · exact ok248
 · exact ok249
 · exact ok250
 · exact ok251
 · exact ok339)
theorem tabS_ok:TabA Tryz.prog TS:=lookT_ok (by
 simp only [tabS,List.mem_cons,List.not_mem_nil,or_false]
 rintro p (rfl | rfl | rfl | rfl | rfl | rfl | rfl | rfl | rfl | rfl | rfl | rfl | rfl | rfl | rfl)
 · exact ok240
 · exact ok328
 · exact ok329
 · exact ok330
 · exact ok331
 · exact ok332
 · exact ok333
 · exact ok335
 · exact ok336
 · exact ok374
 · exact ok377
 · exact ok378
 · exact ok434
 · exact ok375
 · exact ok376)
theorem tabU_ok:TabA Tryz.prog TU:=lookT_ok (by
 simp only [tabU,List.mem_cons,List.not_mem_nil,or_false]
 rintro p (rfl | rfl)
 · exact ok136
 · exact ok137)
theorem tabL_ok:TabA Tryz.prog TL:=lookT_ok (by
 simp only [tabL,List.mem_cons,List.not_mem_nil,or_false]
 rintro p (rfl | rfl)
 · exact ok334
 · exact ok379)
theorem tabB_ok:TabA Tryz.prog TB:=lookT_ok (by
 simp only [tabB,List.mem_cons,List.not_mem_nil,or_false]
 rintro p (rfl | rfl | rfl | rfl | rfl | rfl | rfl)
 · exact ok155
 · exact ok163
 · exact ok135
 · exact ok106
 · exact ok186
 · exact ok187
 · exact ok188)
theorem tabI_ok:TabA Tryz.prog TI:=lookT_ok (by
 simp only [tabI,List.mem_cons,List.not_mem_nil,or_false]
 rintro p (rfl | rfl | rfl | rfl | rfl | rfl | rfl | rfl | rfl | rfl | rfl | rfl | rfl | rfl | rfl | rfl | rfl | rfl | rfl | rfl | rfl | rfl | rfl | rfl | rfl | rfl | rfl | rfl | rfl | rfl | rfl | rfl | rfl | rfl | rfl | rfl | rfl | rfl | rfl | rfl | rfl | rfl | rfl | rfl | rfl | rfl | rfl | rfl | rfl | rfl | rfl | rfl | rfl | rfl | rfl | rfl | rfl | rfl | rfl | rfl | rfl | rfl | rfl | rfl | rfl)
 · exact ok79
 · exact ok82
 · exact ok81
 · exact ok173
 · exact ok174
 · exact ok175
 · exact ok176
 · exact ok75
 · exact ok162
 · exact ok132
 · exact ok143
 · exact ok255
 · exact ok261
 · exact ok239
 · exact ok245
 · exact ok340
 · exact ok292
 · exact ok100
 · exact ok103
 · exact ok109
 · exact ok339
 · exact ok253
 · exact ok254
 · exact ok256
 · exact ok262
 · exact ok257
 · exact ok258
 · exact ok259
 · exact ok260
 · exact ok166
 · exact ok168
 · exact ok170
 · exact ok172
 · exact ok138
 · exact ok141
 · exact ok145
 · exact ok148
 · exact ok105
 · exact ok243
 · exact ok246
 · exact ok248
 · exact ok106
 · exact ok186
 · exact ok187
 · exact ok188
 · exact ok242
 · exact ok244
 · exact ok247
 · exact ok249
 · exact ok135
 · exact ok154
 · exact ok250
 · exact ok251
 · exact ok177
 · exact ok286
 · exact ok287
 · exact ok355
 · exact ok356
 · exact ok357
 · exact ok358
 · exact ok359
 · exact ok360
 · exact ok420
 · exact ok421
 · exact ok422)
theorem tabD_ok:TabA Tryz.prog TD:=lookT_ok (by
 simp only [tabD,List.mem_cons,List.not_mem_nil,or_false]
 rintro p (rfl | rfl | rfl | rfl | rfl | rfl | rfl | rfl | rfl | rfl | rfl | rfl | rfl | rfl | rfl | rfl | rfl | rfl | rfl | rfl | rfl | rfl | rfl | rfl | rfl | rfl | rfl | rfl | rfl | rfl | rfl | rfl | rfl | rfl | rfl | rfl | rfl | rfl | rfl | rfl | rfl | rfl | rfl | rfl | rfl | rfl | rfl | rfl | rfl)
 · exact okr58
 · exact okr177
 · exact okr180
 · exact okr183
 · exact okr186
 · exact okr179
 · exact okr182
 · exact okr185
 · exact ok135
 · exact okr336
 · exact okr339
 · exact okr342
 · exact okr346
 · exact okr337
 · exact okr340
 · exact okr344
 · exact okr348
 · exact okr338
 · exact okr341
 · exact okr345
 · exact okr349
 · exact ok132
 · exact ok143
 · exact ok255
 · exact ok261
 · exact ok239
 · exact ok245
 · exact ok340
 · exact ok292
 · exact ok100
 · exact ok103
 · exact ok109
 · exact ok339
 · exact ok138
 · exact ok141
 · exact ok145
 · exact ok148
 · exact ok105
 · exact ok243
 · exact ok246
 · exact ok248
 · exact ok106
 · exact ok186
 · exact ok187
 · exact ok188
 · exact ok242
 · exact ok244
 · exact ok247
 · exact ok249)
theorem tabF_ok:TabA Tryz.prog TF:=lookT_ok (by
 simp only [tabF,List.mem_cons,List.not_mem_nil,or_false]
 rintro p (rfl | rfl | rfl | rfl | rfl | rfl | rfl | rfl | rfl | rfl | rfl | rfl)
 · exact okr71
 · exact okr73
 · exact okr74
 · exact okr75
 · exact okr76
 · exact okr77
 · exact okr79
 · exact okr214
 · exact okr215
 · exact okr216
 · exact okr217
 · exact ok135)
theorem EO_ok:CallsOk Tryz.prog EO:=fun f args h r h' hm=>Sm_ok mixed none_ok tabT_ok f args h r h' hm
theorem tabL9_ok:TabA Tryz.prog TL9:=lookT_ok (by
 simp only [List.mem_cons,List.not_mem_nil,or_false]
 rintro p rfl
 exact okr9)
theorem noE_ok:CallsOk Tryz.prog noE:=fun f args h r h' hm=>by cases hm
theorem Es_ok:CallsOk Tryz.prog Es:=by
 intro f args h r h' hm
 simp only [Es] at hm
 split at hm
 · exact Sm_ok mixed noE_ok tabL_ok f args h r h' hm
 · exact Sm_ok mixed noE_ok tabT_ok f args h r h' hm
theorem Eu_ok:CallsOk Tryz.prog Eu:=by
 intro f args h r h' hm
 simp only [Eu] at hm
 split at hm
 · exact Sm_ok mixed Es_ok tabS_ok f args h r h' hm
 · exact Sm_ok mixed noE_ok tabT_ok f args h r h' hm
theorem ET0_ok:CallsOk Tryz.prog ET0:=fun f args h r h' hm=>Sm_ok mixed noE_ok tabT_ok f args h r h' hm
theorem Et_ok:CallsOk Tryz.prog Et:=by
 intro f args h r h' hm
 simp only [Et] at hm
 split at hm
 · exact Sm_ok mixed E1_ok tabP_ok f args h r h' hm
 · cases hm
theorem EV_ok:CallsOk Tryz.prog EV:=by
 intro f args h r h' hm
 simp only [EV] at hm
 split at hm
 · exact Sm_ok mixed Eu_ok tabU_ok f args h r h' hm
 · exact Sm_ok mixed EO_ok tabO_ok f args h r h' hm
 · exact Sm_ok mixed Et_ok tabT_ok f args h r h' hm
theorem EI_ok:CallsOk Tryz.prog EIC:=by
 intro f args h r h' hm
 simp only [EIC] at hm
 split at hm
 · exact Sm_ok mixed ET0_ok tabB_ok f args h r h' hm
 · exact Sm_ok mixed Et_ok tabT_ok f args h r h' hm
theorem EQ7_ok:CallsOk Tryz.prog EQ7:=fun f args h r h' hm=>Sm_ok mixed EI_ok tabI_ok f args h r h' hm
theorem EF_ok:CallsOk Tryz.prog EF:=by
 intro f args h r h' hm
 simp only [EF] at hm
 split at hm
 · exact Sm_ok mixed EV_ok tabV_ok f args h r h' hm
 · exact Sm_ok mixed EQ7_ok tabD_ok f args h r h' hm
 · exact EQ7_ok f args h r h' hm
theorem E9_ok:CallsOk Tryz.prog E9:=by
 intro f args h r h' hm
 simp only [E9] at hm
 split at hm
 · exact awake_ok f args h r h' hm
 · exact Sm_ok mixed Et_ok tabT_ok f args h r h' hm
 · exact Sm_ok mixed EF_ok tabF_ok f args h r h' hm
def Fd.wf (B:Nat) (x:Fd):Prop:=x.addrs.wf B u32Wf /\ x.sent.wf B /\ x.base.wf B
def Sbs.wf (B:Nat) (x:Sbs):Prop:=x.addrs.wf B u32Wf
section
variable {H:Type} {enc:TypeId × Value -> H} {w:World} {spare:Nat -> Bool} {held:Bool} {B:Nat}
theorem rd_Fd:Rd enc w spare held B 31 Fd.c Fd.wf:=by
 intro fuel cs y h hB
 obtain ⟨xs,n,rfl,rfl,hl,hx,hf⟩:=DataW.trod_struct Tryz.underlying31 h
 have hl:cs.length = 22:=hl.trans (by kernel_rfl)
 have hx:xs.length = 12:=hx
 obtain ⟨x0,k0,o0⟩:=rd_field hf hB (rd_int (t:=3) Tryz.underlying3) 0 0 1 rfl (by kernel_rfl) (by omega)
 obtain ⟨x1,k1,o1⟩:=rd_field hf hB (rd_int (t:=22) Tryz.underlying22) 1 1 1 rfl (by kernel_rfl) (by omega)
 obtain ⟨x2,k2,o2⟩:=rd_field hf hB (rd_int (t:=22) Tryz.underlying22) 2 2 1 rfl (by kernel_rfl) (by omega)
 obtain ⟨x3,k3,o3⟩:=rd_field hf hB (rd_int (t:=22) Tryz.underlying22) 3 3 1 rfl (by kernel_rfl) (by omega)
 obtain ⟨x4,k4,o4⟩:=rd_field hf hB (rd_u32s) 4 4 1 rfl (by kernel_rfl) (by omega)
 obtain ⟨x5,k5,o5⟩:=rd_field hf hB (rd_int (t:=22) Tryz.underlying22) 5 5 1 rfl (by kernel_rfl) (by omega)
 obtain ⟨x6,k6,o6⟩:=rd_field hf hB (rd_int (t:=3) Tryz.underlying3) 6 6 1 rfl (by kernel_rfl) (by omega)
 obtain ⟨x7,k7,o7⟩:=rd_field hf hB (rd_Vw) 7 7 6 rfl (by kernel_rfl) (by omega)
 obtain ⟨x8,k8,o8⟩:=rd_field hf hB (rd_int (t:=22) Tryz.underlying22) 8 13 1 rfl (by kernel_rfl) (by omega)
 obtain ⟨x9,k9,o9⟩:=rd_field hf hB (rd_Vw) 9 14 6 rfl (by kernel_rfl) (by omega)
 obtain ⟨x10,k10,o10⟩:=rd_field hf hB (rd_int (t:=22) Tryz.underlying22) 10 20 1 rfl (by kernel_rfl) (by omega)
 obtain ⟨x11,k11,o11⟩:=rd_field hf hB (rd_int (t:=22) Tryz.underlying22) 11 21 1 rfl (by kernel_rfl) (by omega)
 refine ⟨⟨x0,x1,x2,x3,x4,x5,x6,x7,x8,x9,x10,x11⟩,?_,⟨o4,o7,o9⟩⟩
 show DL _ _ ([i64 x0] ++ ([u64 x1] ++ ([u64 x2] ++ ([u64 x3] ++ ([Sl.d u32C x4] ++ ([u64 x5] ++ ([i64 x6] ++ (x7.c ++ ([u64 x8] ++ (x9.c ++ ([u64 x10] ++ ([u64 x11] ++ [])))))))))))) cs
 have a12:DL (· < w.heap.size) w [] (cs.drop 22):=DL.nil (by omega)
 have a11:=DL.app (cs:=cs.drop 21) (n:=1) rfl k11 (by rw [List.drop_drop]; exact a12)
 have a10:=DL.app (cs:=cs.drop 20) (n:=1) rfl k10 (by rw [List.drop_drop]; exact a11)
 have a9:=DL.app (cs:=cs.drop 14) (n:=6) rfl k9 (by rw [List.drop_drop]; exact a10)
 have a8:=DL.app (cs:=cs.drop 13) (n:=1) rfl k8 (by rw [List.drop_drop]; exact a9)
 have a7:=DL.app (cs:=cs.drop 7) (n:=6) rfl k7 (by rw [List.drop_drop]; exact a8)
 have a6:=DL.app (cs:=cs.drop 6) (n:=1) rfl k6 (by rw [List.drop_drop]; exact a7)
 have a5:=DL.app (cs:=cs.drop 5) (n:=1) rfl k5 (by rw [List.drop_drop]; exact a6)
 have a4:=DL.app (cs:=cs.drop 4) (n:=1) rfl k4 (by rw [List.drop_drop]; exact a5)
 have a3:=DL.app (cs:=cs.drop 3) (n:=1) rfl k3 (by rw [List.drop_drop]; exact a4)
 have a2:=DL.app (cs:=cs.drop 2) (n:=1) rfl k2 (by rw [List.drop_drop]; exact a3)
 have a1:=DL.app (cs:=cs.drop 1) (n:=1) rfl k1 (by rw [List.drop_drop]; exact a2)
 have a0:=DL.app (cs:=cs.drop 0) (n:=1) rfl k0 (by rw [List.drop_drop]; exact a1)
 simpa using a0
theorem rd_Sbs:Rd enc w spare held B 35 Sbs.c Sbs.wf:=by
 intro fuel cs y h hB
 obtain ⟨xs,n,rfl,rfl,hl,hx,hf⟩:=DataW.trod_struct Tryz.underlying35 h
 have hl:cs.length = 3:=hl.trans (by kernel_rfl)
 have hx:xs.length = 3:=hx
 obtain ⟨x0,k0,o0⟩:=rd_field hf hB (rd_int (t:=22) Tryz.underlying22) 0 0 1 rfl (by kernel_rfl) (by omega)
 obtain ⟨x1,k1,o1⟩:=rd_field hf hB (rd_int (t:=22) Tryz.underlying22) 1 1 1 rfl (by kernel_rfl) (by omega)
 obtain ⟨x2,k2,o2⟩:=rd_field hf hB (rd_u32s) 2 2 1 rfl (by kernel_rfl) (by omega)
 refine ⟨⟨x0,x1,x2⟩,?_,o2⟩
 show DL _ _ ([u64 x0] ++ ([u64 x1] ++ ([Sl.d u32C x2] ++ []))) cs
 have a3:DL (· < w.heap.size) w [] (cs.drop 3):=DL.nil (by omega)
 have a2:=DL.app (cs:=cs.drop 2) (n:=1) rfl k2 (by rw [List.drop_drop]; exact a3)
 have a1:=DL.app (cs:=cs.drop 1) (n:=1) rfl k1 (by rw [List.drop_drop]; exact a2)
 have a0:=DL.app (cs:=cs.drop 0) (n:=1) rfl k0 (by rw [List.drop_drop]; exact a1)
 simpa using a0
theorem rd_Ack:Rd enc w spare held B 37 Ack.c (fun _ _=>True):=by
 intro fuel cs y h hB
 obtain ⟨xs,n,rfl,rfl,hl,hx,hf⟩:=DataW.trod_struct Tryz.underlying37 h
 have hl:cs.length = 4:=hl.trans (by kernel_rfl)
 have hx:xs.length = 4:=hx
 obtain ⟨x0,k0,o0⟩:=rd_field hf hB (rd_int (t:=22) Tryz.underlying22) 0 0 1 rfl (by kernel_rfl) (by omega)
 obtain ⟨x1,k1,o1⟩:=rd_field hf hB (rd_int (t:=22) Tryz.underlying22) 1 1 1 rfl (by kernel_rfl) (by omega)
 obtain ⟨x2,k2,o2⟩:=rd_field hf hB (rd_int (t:=22) Tryz.underlying22) 2 2 1 rfl (by kernel_rfl) (by omega)
 obtain ⟨x3,k3,o3⟩:=rd_field hf hB (rd_int (t:=3) Tryz.underlying3) 3 3 1 rfl (by kernel_rfl) (by omega)
 refine ⟨⟨x0,x1,x2,x3⟩,?_,trivial⟩
 show DL _ _ ([u64 x0] ++ ([u64 x1] ++ ([u64 x2] ++ ([i64 x3] ++ [])))) cs
 have a4:DL (· < w.heap.size) w [] (cs.drop 4):=DL.nil (by omega)
 have a3:=DL.app (cs:=cs.drop 3) (n:=1) rfl k3 (by rw [List.drop_drop]; exact a4)
 have a2:=DL.app (cs:=cs.drop 2) (n:=1) rfl k2 (by rw [List.drop_drop]; exact a3)
 have a1:=DL.app (cs:=cs.drop 1) (n:=1) rfl k1 (by rw [List.drop_drop]; exact a2)
 have a0:=DL.app (cs:=cs.drop 0) (n:=1) rfl k0 (by rw [List.drop_drop]; exact a1)
 simpa using a0
end
namespace feedAside
theorem aside_any {W:World} {f:Fd} {c:Cfg} {now:Int} {s:Sbs} {a:Ack} (hf:f.wf 1048576) (hc:c.wf 1048576) (hs:s.wf 1048576) {cf cc cs ca:Array Value} (h0:DL (· < W.heap.size) W f.c cf.toList) (h1:DL (· < W.heap.size) W c.c cc.toList) (h3:DL (· < W.heap.size) W s.c cs.toList) (h4:DL (· < W.heap.size) W a.c ca.toList) :
 Calls Tryz.prog 3 #[.agg cf,.agg cc,.int .u64 now,.agg cs,.agg ca] W fun e W'=>e = .returned (.bool true) /\ Below W.heap.size W W':=by
 have vw:∀ {v:Vw},v.wf 1048576 -> v.ok /\ ∀ p ∈ v.policies.l,p.wf big:=fun h=>⟨Vw.wf.ok h (by decide),fun q hq=>Pol.wf.le (by decide) (h.2.2.2.2.2.2 q hq)⟩
 have hfo:FdOk f:=⟨hf.1.1.le (by decide),(vw hf.2.1).1,(vw hf.2.1).2,(vw hf.2.2).1,(vw hf.2.2).2⟩
 refine law_calls (E:=E9) E9_ok tabL9_ok (val:=valL9) (args:=[f.v,c.v,.d (u64 now),ag s.c,ag a.c]) ?_ (R9 E9_H f hfo c ⟨hc⟩ now s (hs.1.le (by decide)) a ⟨[],0⟩)
 simp only [VRs]
 exact ⟨_,_,rfl,vr_ag h0,_,_,rfl,vr_ag h1,_,_,rfl,by simp only [VR,DR],_,_,rfl,vr_ag h3,_,_,rfl,vr_ag h4,rfl⟩
theorem lifted (os:Os) (started:os.Started) (H:Type) (enc:TypeId × Value -> H) (F:Stop.Interp) :
 ReturnsInHanded {} Tryz.checked os 3 .any ((Go.Proofs.YtegfnefobbgkjaaGreat.Rows.OpenSpec.upto Go.Proofs.YtegfnefobbgkjaaGreat.Rows.feedAsideSpec).pre6 enc Tryz.prog Tryz.f3 Go.Proofs.YtegfnefobbgkjaaGreat.Rows.feedAsideUptoRow.domain false) (((Go.Proofs.YtegfnefobbgkjaaGreat.Rows.OpenSpec.upto Go.Proofs.YtegfnefobbgkjaaGreat.Rows.feedAsideSpec).at F).post enc Tryz.prog Tryz.f3 false true false false):=by
 refine returnsInHanded_of_cond (C:=Tryz.checked) (s:=Go.Proofs.YtegfnefobbgkjaaGreat.Rows.OpenSpec.upto Go.Proofs.YtegfnefobbgkjaaGreat.Rows.feedAsideSpec) (k:=Go.Proofs.YtegfnefobbgkjaaGreat.Rows.uptoSmall) rfl own started (by kernel_rfl) Tryz.func3
  (OpenSpec.witness (enc:=enc) (C:=Tryz.checked) (s:=Go.Proofs.YtegfnefobbgkjaaGreat.Rows.OpenSpec.upto Go.Proofs.YtegfnefobbgkjaaGreat.Rows.feedAsideSpec) (k:=Go.Proofs.YtegfnefobbgkjaaGreat.Rows.uptoSmall) rfl false ⟨#[],#[.agg #[.int .i64 0,.int .u64 0,.int .u64 0,.int .u64 0,.slice none 0 0,.int .u64 0,.int .i64 0,.int .u64 0,.slice none 0 0,.slice none 0 0,.slice none 0 0,.slice none 0 0,.slice none 0 0,.int .u64 0,.int .u64 0,.slice none 0 0,.slice none 0 0,.slice none 0 0,.slice none 0 0,.slice none 0 0,.int .u64 0,.int .u64 0],.agg #[.int .u64 0,.int .u64 0,.int .i64 0,.int .i64 0,.slice none 0 0,.slice none 0 0,.slice none 0 0,.slice none 0 0],.int .u64 0,.agg #[.int .u64 0,.int .u64 0,.slice none 0 0],.agg #[.int .u64 0,.int .u64 0,.int .u64 0,.int .i64 0]],[]⟩ 8
   (by kernel_rfl) (by kernel_rfl) (by kernel_rfl) (x:=([.agg [.lit (.int .i64 0),.lit (.int .u64 0),.lit (.int .u64 0),.lit (.int .u64 0),.nil,.lit (.int .u64 0),.lit (.int .i64 0),.agg [.lit (.int .u64 0),.nil,.nil,.nil,.nil,.nil],.lit (.int .u64 0),.agg [.lit (.int .u64 0),.nil,.nil,.nil,.nil,.nil],.lit (.int .u64 0),.lit (.int .u64 0)],.agg [.lit (.int .u64 0),.lit (.int .u64 0),.lit (.int .i64 0),.lit (.int .i64 0),.nil,.nil,.nil,.nil],.lit (.int .u64 0),.agg [.lit (.int .u64 0),.lit (.int .u64 0),.nil],.agg [.lit (.int .u64 0),.lit (.int .u64 0),.lit (.int .u64 0),.lit (.int .i64 0)]],[],[])) (by kernel_rfl) rfl (by rfl)) ?_
 intro W base args ds gs before hval0 hW hcnd hkk _
 have hval:∀ (j:Nat) t v,Tryz.f3.params[j]? = some t -> args[j]? = some v -> Value.okWide Tryz.prog W .any base t v:=hval0
 have hW':=hW
 obtain ⟨p,q,hA0,hV,rfl,hfz,hnd⟩:=hW
 have hA:DataW.TrodAll enc Tryz.prog W 0 (fun _=>true) true Tryz.f3.params.toList args.toList ds p:=hA0
 rw [Tryz.params3] at hA hval
 obtain ⟨v0,vs1,d0,ds1,p0,q1,ha1,rfl,rfl,h0,hA⟩:=trodAll_cons hA
 obtain ⟨v1,vs2,d1,ds2,p1,q2,rfl,rfl,rfl,h1,hA⟩:=trodAll_cons hA
 obtain ⟨v2,vs3,d2,ds3,p2,q3,rfl,rfl,rfl,h2,hA⟩:=trodAll_cons hA
 obtain ⟨v3,vs4,d3,ds4,p3,q4,rfl,rfl,rfl,h3,hA⟩:=trodAll_cons hA
 obtain ⟨v4,vs5,d4,ds5,p4,q5,rfl,rfl,rfl,h4,hA⟩:=trodAll_cons hA
 obtain ⟨rfl,rfl,rfl⟩:=trodAll_nil hA
 have hargs:args = #[v0,v1,v2,v3,v4]:=by apply Array.ext'; simpa using ha1
 subst hargs
 obtain ⟨rfl,rfl⟩:=trodVars_none hV
 have hsm:bulks [d0,d1,d2,d3,d4] <= 1048576:=by simpa [Go.Proofs.YtegfnefobbgkjaaGreat.Rows.uptoSmall] using hkk
 obtain ⟨ca,rfl,hca⟩:=okWide_struct Tryz.underlying31 (hval 0 31 v0 rfl rfl)
 obtain ⟨cb,rfl,hcb⟩:=okWide_struct Tryz.underlying33 (hval 1 33 v1 rfl rfl)
 obtain ⟨now,rfl,rfl,rfl,wb⟩:=open_int Tryz.underlying22 (hval 2 22 v2 rfl rfl) h2
 obtain ⟨cd,rfl,hcd⟩:=okWide_struct Tryz.underlying35 (hval 3 35 v3 rfl rfl)
 obtain ⟨ce,rfl,hce⟩:=okWide_struct Tryz.underlying37 (hval 4 37 v4 rfl rfl)
 have hlt0:∀ x ∈ p0,x.block < W.heap.size:=fun x hx=>hW'.lt x (by simp [hx])
 have hlt1:∀ x ∈ p1,x.block < W.heap.size:=fun x hx=>hW'.lt x (by simp [hx])
 have hlt3:∀ x ∈ p3,x.block < W.heap.size:=fun x hx=>hW'.lt x (by simp [hx])
 have hlt4:∀ x ∈ p4,x.block < W.heap.size:=fun x hx=>hW'.lt x (by simp [hx])
 have h0':=h0
 have h1':=h1
 have h3':=h3
 have h4':=h4
 obtain ⟨f0,g0⟩:=h0
 obtain ⟨f1,g1⟩:=h1
 obtain ⟨f3,g3⟩:=h3
 obtain ⟨f4,g4⟩:=h4
 obtain ⟨f,a1,a2⟩:=rd_Fd (B:=1048576) _ _ _ g0 (Nat.le_trans (bulk_mem (by simp)) hsm)
 obtain ⟨c,b1,b2⟩:=rd_Cfg (B:=1048576) _ _ _ g1 (Nat.le_trans (bulk_mem (by simp)) hsm)
 obtain ⟨s,s1,s2⟩:=rd_Sbs (B:=1048576) _ _ _ g3 (Nat.le_trans (bulk_mem (by simp)) hsm)
 obtain ⟨a,e1,_⟩:=rd_Ack (B:=1048576) _ _ _ g4 (Nat.le_trans (bulk_mem (by simp)) hsm)
 refine (aside_any a2 b2 s2 a1 b1 s1 e1).mono fun e W' ⟨he,hb⟩=>?_
 subst he
 have k0:=Below.trod laidOut (by kernel_rfl) (of_decide_eq_true (by kernel_rfl)) h0' hb hlt0
 have k1:=Below.trod laidOut (by kernel_rfl) (of_decide_eq_true (by kernel_rfl)) h1' hb hlt1
 have k3:=Below.trod laidOut (by kernel_rfl) (of_decide_eq_true (by kernel_rfl)) h3' hb hlt3
 have k4:=Below.trod laidOut (by kernel_rfl) (of_decide_eq_true (by kernel_rfl)) h4' hb hlt4
 have kA:=trodAll_cons_mk k0 (trodAll_cons_mk k1 (trodAll_cons_mk (shut_int Tryz.underlying22 wb) (trodAll_cons_mk k3 (trodAll_mk1 k4))))
 exact ⟨_,rfl,_,_,_,[],_,[],hW',trodAll_mk1 (shut_bool Tryz.underlying4 true),kA,rfl,hb.frame _,fun h=>by cases h⟩
theorem proved:Go.Proofs.YtegfnefobbgkjaaGreat.Rows.FeedAsideUptoSaid :=
 OpenClaim.holds_of_cond 3 Tryz.f3 rfl rfl rfl rfl rfl rfl rfl ⟨rfl,rfl,rfl,rfl,rfl⟩ rfl rfl rfl rfl rfl named Tryz.func3 facts
  (of_decide_eq_true (by kernel_rfl)) (by unfold Func.isWrapper; first | (rw [if_pos (by decide +kernel)]; kernel_rfl) | (rw [if_neg (by decide +kernel)]; exact ⟨rfl,rfl⟩))
  (fun os started H enc _ F=>lifted os started H enc F)
end feedAside
end Go.Proofs.YtegfnefobbgkjaaGreat
