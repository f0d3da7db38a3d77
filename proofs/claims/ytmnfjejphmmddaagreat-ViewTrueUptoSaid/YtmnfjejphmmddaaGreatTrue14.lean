/- ViewTrue's row: of a view of a scope, an address of the scope is what the configuration has there, a service that is found has all its workloads there, and for each workload that is the node's own Mine are all policies that hold for it; of bulk at most 1048576. -/
import Derived.Test.YtmnfjejphmmddaaGreatYd
import Derived.Test.YtmnfjejphmmddaaGreatRdx
import Derived.Test.YtmnfjejphmmddaaGreatLay
import Derived.Test.YtmnfjejphmmddaaGreatWf
import Derived.Test.YtmnfjejphmmddaaGreatKa
import Derived.Test.YtmnfjejphmmddaaGreatK17
import Derived.Test.YtmnfjejphmmddaaGreatFacts14
import Derived.Carry
set_option linter.unusedVariables false
set_option maxRecDepth 100000
namespace Go.Proofs.YtmnfjejphmmddaaGreat
open Go.ChangeShapes Go.WideShapes Go.ChangeAt Go.RowKit
def rho0:Rh:=⟨fun _=>0,fun _=>False,fun _=>False,fun _=>False,fun _=>False⟩
theorem rel0 (w:World):Rel w.heap.size rho0 ⟨[],0⟩ w where
 dom i h:=h.elim
 ln i h:=h.elim
 live i hi:=by simp at hi
 lo i h:=h.elim
 base:=Nat.le_refl _
 inj i j _ h:=h.elim
 mem i hi:=by simp at hi
 xB b h:=h.elim
 gB b h:=h.elim
theorem st0 {w:World} {b:Nat}:St rho0 w b ↔ b < w.heap.size:=⟨fun h=>h.1,fun h=>⟨h,fun i=>⟨fun hi=>hi.elim,fun hx=>hx⟩⟩⟩
theorem DL.vrs {w:World}:∀ {ds:List D} {cs:List Value},DL (· < w.heap.size) w ds cs -> VRs rho0 (St rho0 w) w (ds.map .d) cs /\ ∀ u ∈ cs,u.oneCell' = true
 | [],cs,h=>by simp only [DL] at h; subst h; exact ⟨by simp only [List.map_nil,VRs],by simp⟩
 | d :: ds,cs,h=>by
  simp only [DL] at h
  obtain ⟨u,us,rfl,h1,h2⟩:=h
  have ih:=DL.vrs h2
  refine ⟨by simp only [List.map_cons,VRs]; exact ⟨u,us,rfl,by simp only [VR]; exact DR.mono (fun b hb=>st0.2 hb) (fun _ _=>rfl) h1,ih.1⟩,?_⟩
  intro x hx
  rcases List.mem_cons.1 hx with rfl | hx
  · exact h1.one
  · exact ih.2 x hx
theorem vr_ag {w:World} {ds:List D} {cs:Array Value} (h:DL (· < w.heap.size) w ds cs.toList):VR rho0 (St rho0 w) w (ag ds) (.agg cs):=by
 simp only [ag,VR]
 exact ⟨cs,rfl,h.vrs.1,h.vrs.2⟩
theorem vr_one {w:World} {d:D} {v:Value} (h:DL (· < w.heap.size) w [d] [v]):VR rho0 (St rho0 w) w (.d d) v:=by
 have:=h.vrs.1
 simp only [List.map_cons,List.map_nil,VRs] at this
 obtain ⟨u,us,e,h1,_⟩:=this
 simp at e
 rw [e.1]; exact h1
theorem own:ownKnob Tryz.prog.godebug = none:=by kernel_rfl
theorem mixed:Tryz.prog.follows .mixedOrders = true:=Checked.mixed Tryz.checked
theorem awake_ok:CallsOk Tryz.prog (known 63 true):=known_ok mixed (Tab.look_ok tabK_ok) okK_self (by kernel_rfl) awake_run
theorem law_calls {E:Calls'} (hE:CallsOk Tryz.prog E) {T:FuncId -> Option QF} {val:FuncId -> Bool} (hT:TabA Tryz.prog T) {f:FuncId} {args:List V} {W:World} {vs:Array Value} (hv:VRs rho0 (St rho0 W) W args vs.toList) (hs:Sm E T val f args ⟨[],0⟩ = some (bl true,⟨[],0⟩)) :
 Calls Tryz.prog f vs W fun e W'=>e = .returned (.bool true) /\ Below W.heap.size W W':=by
 obtain ⟨_,_,h3⟩:=Sm_ok (val:=val) mixed hE hT f args ⟨[],0⟩ _ _ hs
 refine (h3 W.heap.size rho0 W vs (rel0 W) hv).mono fun e W' ⟨v,ρ',k1,k2,k3,k4⟩=>?_
 refine ⟨?_,k3.below⟩
 rw [k1]
 simp only [VRx,VR,DR] at k4
 simp [k4]
theorem none_ok:CallsOk Tryz.prog (fun _ _ _=>none):=fun f args h r h' hm=>by cases hm
theorem tabP_ok:TabA Tryz.prog TP:=lookT_ok (by
 simp only [tabP,List.mem_cons,List.not_mem_nil,or_false]
 rintro p (rfl | rfl | rfl)
 · exact ok385
 · exact ok372
 · exact ok445)
theorem sort_enter (vs:Array Value) (w:World):(callFunc 443 vs).run Tryz.prog w = .ok (.enter 443 vs) w :=
 callFunc_enter Tryz.func443 rfl (by decide) vs w
theorem E1_ok:CallsOk Tryz.prog E1:=by
 intro f args h r h' hm
 simp only [E1] at hm
 split at hm
 · rename_i hf
   have hf':f = 443:=Nat.eq_of_beq_eq_true hf
   subst hf'
   exact ⟨sort_enter,sortE_low hm,fun B ρ w vs hR hv=>sortE_ok lays189 hR hv hm⟩
 · exact Sm_ok mixed none_ok tabT_ok f args h r h' hm
theorem tabO_ok:TabA Tryz.prog TO:=lookT_ok (by
 simp only [tabO,List.mem_cons,List.not_mem_nil,or_false]
 rintro p (rfl | rfl | rfl | rfl | rfl)
 · exact ok90
 · exact ok106
 · exact ok186
 · exact ok187
 · exact ok188)
theorem EO_ok:CallsOk Tryz.prog EO:=fun f args h r h' hm=>Sm_ok mixed none_ok tabT_ok f args h r h' hm
theorem tabV_ok:TabA Tryz.prog TV:=lookT_ok (by
 simp only [tabV,List.mem_cons,List.not_mem_nil,or_false]
 rintro p (rfl | rfl | rfl | rfl | rfl | rfl | rfl | rfl | rfl | rfl | rfl | rfl | rfl | rfl | rfl | rfl | rfl | rfl | rfl | rfl | rfl | rfl | rfl | rfl | rfl | rfl | rfl | rfl | rfl | rfl | rfl | rfl | rfl | rfl | rfl | rfl | rfl | rfl | rfl | rfl | rfl | rfl | rfl | rfl)
 · exact ok64
 · exact ok67
 · exact ok100
 · exact ok103
 · exact ok105
 · exact ok106
 · exact ok109
 · exact ok128
 · exact ok129
 · exact ok130
 · exact ok131
 · exact ok132
 · exact ok133
 · exact ok134
 · exact ok135
 · exact ok138
 · exact ok139
 · exact ok140
 · exact ok141
 · exact ok142
 · exact ok143
 · exact ok144
 · exact ok145
 · exact ok146
 · exact ok147
 · exact ok148
 · exact ok149
 · exact ok150
 · exact ok154
 · exact ok186
 · exact ok187
 · exact ok188
 · exact ok239
 · exact ok242
 · exact ok243
 · exact ok244
 · exact ok245
 · exact ok246
 · exact ok247
 · exact ok248
 · exact ok249
 · exact ok250
 · exact ok251
 · exact ok339)
theorem tabS_ok:TabA Tryz.prog TS:=lookT_ok (by
 simp only [tabS,List.mem_cons,List.not_mem_nil,or_false]
 rintro p (rfl | rfl | rfl | rfl | rfl | rfl | rfl | rfl | rfl | rfl | rfl | rfl | rfl | rfl | rfl)
 · exact ok240
 · exact ok328
 · exact ok329
 · exact ok330
 · exact ok331
 · exact ok332
 · exact ok333
 · exact ok335
 · exact ok336
 · exact ok374
 · exact ok377
 · exact ok378
 · exact ok434
 · exact ok375
 · exact ok376)
theorem tabU_ok:TabA Tryz.prog TU:=lookT_ok (by
 simp only [tabU,List.mem_cons,List.not_mem_nil,or_false]
 rintro p (rfl | rfl)
 · exact ok136
 · exact ok137)
theorem tabL_ok:TabA Tryz.prog TL:=lookT_ok (by
 simp only [tabL,List.mem_cons,List.not_mem_nil,or_false]
 rintro p (rfl | rfl)
 · exact ok334
 · exact ok379)
theorem tabG_ok:TabA Tryz.prog TG:=lookT_ok (by
 simp only [tabG,List.mem_cons,List.not_mem_nil,or_false]
 rintro p (rfl | rfl | rfl | rfl | rfl | rfl | rfl | rfl | rfl | rfl | rfl | rfl | rfl | rfl | rfl | rfl | rfl | rfl | rfl | rfl | rfl | rfl | rfl | rfl | rfl | rfl | rfl)
 · exact ok14
 · exact ok75
 · exact ok162
 · exact ok132
 · exact ok143
 · exact ok255
 · exact ok261
 · exact ok239
 · exact ok245
 · exact ok340
 · exact ok292
 · exact ok100
 · exact ok103
 · exact ok109
 · exact ok339
 · exact ok253
 · exact ok254
 · exact ok256
 · exact ok262
 · exact ok257
 · exact ok258
 · exact ok259
 · exact ok260
 · exact ok166
 · exact ok168
 · exact ok170
 · exact ok172)
theorem noE_ok:CallsOk Tryz.prog noE:=fun f args h r h' hm=>by cases hm
theorem Es_ok:CallsOk Tryz.prog Es:=by
 intro f args h r h' hm
 simp only [Es] at hm
 split at hm
 · exact Sm_ok mixed noE_ok tabL_ok f args h r h' hm
 · exact Sm_ok mixed noE_ok tabT_ok f args h r h' hm
theorem Eu_ok:CallsOk Tryz.prog Eu:=by
 intro f args h r h' hm
 simp only [Eu] at hm
 split at hm
 · exact Sm_ok mixed Es_ok tabS_ok f args h r h' hm
 · exact Sm_ok mixed noE_ok tabT_ok f args h r h' hm
theorem Et_ok:CallsOk Tryz.prog Et:=by
 intro f args h r h' hm
 simp only [Et] at hm
 split at hm
 · exact Sm_ok mixed E1_ok tabP_ok f args h r h' hm
 · cases hm
theorem EV_ok:CallsOk Tryz.prog EV:=by
 intro f args h r h' hm
 simp only [EV] at hm
 split at hm
 · exact Sm_ok mixed Eu_ok tabU_ok f args h r h' hm
 · exact Sm_ok mixed EO_ok tabO_ok f args h r h' hm
 · exact Sm_ok mixed Et_ok tabT_ok f args h r h' hm
theorem Of_ok:CallsOk Tryz.prog (Sm EV TV valV):=fun f args h r h' hm=>Sm_ok mixed EV_ok tabV_ok f args h r h' hm
theorem EZ_ok:CallsOk Tryz.prog EZ:=by
 intro f args h r h' hm
 simp only [EZ] at hm
 split at hm
 · exact Of_ok f args h r h' hm
 · exact awake_ok f args h r h' hm
 · exact Sm_ok mixed Et_ok tabT_ok f args h r h' hm
theorem rd_Scp {H:Type} {enc:TypeId × Value -> H} {w:World} {spare:Nat -> Bool} {held:Bool} {B:Nat}:Rd enc w spare held B 112 Scp.c (fun B s=>s.addrs.wf B u32Wf):=by
 intro fuel cs y h hB
 obtain ⟨xs,n,rfl,rfl,hl,hx,hf⟩:=DataW.trod_struct Tryz.underlying112 h
 have hl:cs.length = 2:=hl.trans (by kernel_rfl)
 have hx:xs.length = 2:=hx
 obtain ⟨x0,k0,o0⟩:=rd_field hf hB (rd_int (t:=3) Tryz.underlying3) 0 0 1 rfl (by kernel_rfl) (by omega)
 obtain ⟨x1,k1,o1⟩:=rd_field hf hB (rd_u32s) 1 1 1 rfl (by kernel_rfl) (by omega)
 refine ⟨⟨x0,x1⟩,?_,o1⟩
 show DL _ _ ([i64 x0] ++ ([Sl.d u32C x1] ++ [])) cs
 have a2:DL (· < w.heap.size) w [] (cs.drop 2):=DL.nil (by omega)
 have a1:=DL.app (cs:=cs.drop 1) (n:=1) rfl k1 (by rw [List.drop_drop]; exact a2)
 have a0:=DL.app (cs:=cs.drop 0) (n:=1) rfl k0 (by rw [List.drop_drop]; exact a1)
 simpa using a0
namespace viewTrue
theorem true_any {W:World} {c:Cfg} (hc:c.wf 1048576) {s:Scp} (hn:s.addrs.wf 1048576 u32Wf) {cs us:Array Value} (h0:DL (· < W.heap.size) W c.c cs.toList) (h1:DL (· < W.heap.size) W s.c us.toList) :
 Calls Tryz.prog 14 #[.agg cs,.agg us] W fun e W'=>e = .returned (.bool true) /\ Below W.heap.size W W':=by
 have hcb:c.wf big:=Cfg.wf.le (by decide) hc
 have how:∀ p ∈ c.policies.l,p.own.wf big:=fun p hp=>(Cfg.own_wf hcb).2.2.2.2.2.2.2.2 _ (List.mem_map_of_mem hp)
 refine law_calls (E:=EZ) EZ_ok tabG_ok (args:=[c.v,s.v]) ?_ (S14z hc hcb (hcb.ok (Nat.le_refl _)) ((Cfg.own_wf hcb).ok (Nat.le_refl _)) how hc.2.2.2.2.2.1.1.1 (hn.1.le (by decide)) ⟨[],0⟩)
 simp only [VRs]
 exact ⟨_,_,rfl,vr_ag h0,_,_,rfl,vr_ag h1,rfl⟩
theorem lifted (os:Os) (started:os.Started) (H:Type) (enc:TypeId × Value -> H) (F:Stop.Interp) :
 ReturnsInHanded {} Tryz.checked os 14 .any ((Go.Proofs.YtmnfjejphmmddaaGreat.Rows.OpenSpec.upto Go.Proofs.YtmnfjejphmmddaaGreat.Rows.viewTrueSpec).pre6 enc Tryz.prog Tryz.f14 Go.Proofs.YtmnfjejphmmddaaGreat.Rows.viewTrueUptoRow.domain false) (((Go.Proofs.YtmnfjejphmmddaaGreat.Rows.OpenSpec.upto Go.Proofs.YtmnfjejphmmddaaGreat.Rows.viewTrueSpec).at F).post enc Tryz.prog Tryz.f14 false true false false):=by
 refine returnsInHanded_of_cond (C:=Tryz.checked) (s:=Go.Proofs.YtmnfjejphmmddaaGreat.Rows.OpenSpec.upto Go.Proofs.YtmnfjejphmmddaaGreat.Rows.viewTrueSpec) (k:=Go.Proofs.YtmnfjejphmmddaaGreat.Rows.uptoSmall) rfl own started (by kernel_rfl) Tryz.func14
  (OpenSpec.witness (enc:=enc) (C:=Tryz.checked) (s:=Go.Proofs.YtmnfjejphmmddaaGreat.Rows.OpenSpec.upto Go.Proofs.YtmnfjejphmmddaaGreat.Rows.viewTrueSpec) (k:=Go.Proofs.YtmnfjejphmmddaaGreat.Rows.uptoSmall) rfl false ⟨#[],#[.agg #[.int .u64 0,.int .u64 0,.int .i64 0,.int .i64 0,.slice none 0 0,.slice none 0 0,.slice none 0 0,.slice none 0 0],.agg #[.int .i64 0,.slice none 0 0]],[]⟩ 8
   (by kernel_rfl) (by kernel_rfl) (by kernel_rfl) (x:=([.agg [.lit (.int .u64 0),.lit (.int .u64 0),.lit (.int .i64 0),.lit (.int .i64 0),.nil,.nil,.nil,.nil],.agg [.lit (.int .i64 0),.nil]],[],[])) (by kernel_rfl) rfl (by rfl)) ?_
 intro W base args ds gs before hval0 hW hcnd hkk _
 have hval:∀ (j:Nat) t v,Tryz.f14.params[j]? = some t -> args[j]? = some v -> Value.okWide Tryz.prog W .any base t v:=hval0
 have hW':=hW
 obtain ⟨p,q,hA0,hV,rfl,hfz,hnd⟩:=hW
 have hA:DataW.TrodAll enc Tryz.prog W 0 (fun _=>true) true Tryz.f14.params.toList args.toList ds p:=hA0
 rw [Tryz.params14] at hA hval
 obtain ⟨v0,vs1,d0,ds1,p0,q1,ha1,rfl,rfl,h0,hA⟩:=trodAll_cons hA
 obtain ⟨v1,vs2,d1,ds2,p1,q2,rfl,rfl,rfl,h1,hA⟩:=trodAll_cons hA
 obtain ⟨rfl,rfl,rfl⟩:=trodAll_nil hA
 have hargs:args = #[v0,v1]:=by apply Array.ext'; simpa using ha1
 subst hargs
 obtain ⟨rfl,rfl⟩:=trodVars_none hV
 have hsm:bulks [d0,d1] <= 1048576:=by simpa [Go.Proofs.YtmnfjejphmmddaaGreat.Rows.uptoSmall] using hkk
 obtain ⟨cs,rfl,hcs⟩:=okWide_struct Tryz.underlying76 (hval 0 76 v0 rfl rfl)
 obtain ⟨us,rfl,hus⟩:=okWide_struct Tryz.underlying112 (hval 1 112 v1 rfl rfl)
 have hlt0:∀ x ∈ p0,x.block < W.heap.size:=fun x hx=>hW'.lt x (by simp [hx])
 have hlt1:∀ x ∈ p1,x.block < W.heap.size:=fun x hx=>hW'.lt x (by simp [hx])
 have h0':=h0
 have h1':=h1
 obtain ⟨f0,g0⟩:=h0
 obtain ⟨f1,g1⟩:=h1
 obtain ⟨c,hc1,hc2⟩:=rd_Cfg (B:=1048576) _ _ _ g0 (Nat.le_trans (bulk_mem (by simp)) hsm)
 obtain ⟨l,hl1,hl2⟩:=rd_Scp (B:=1048576) _ _ _ g1 (Nat.le_trans (bulk_mem (by simp)) hsm)
 refine (true_any hc2 hl2 hc1 hl1).mono fun e W' ⟨he,hb⟩=>?_
 subst he
 have k0:=Below.trod laidOut (by kernel_rfl) (of_decide_eq_true (by kernel_rfl)) h0' hb hlt0
 have k1:=Below.trod laidOut (by kernel_rfl) (of_decide_eq_true (by kernel_rfl)) h1' hb hlt1
 have kA:=trodAll_cons_mk k0 (trodAll_mk1 k1)
 exact ⟨_,rfl,_,_,_,[],_,[],hW',trodAll_mk1 (shut_bool Tryz.underlying4 true),kA,rfl,hb.frame _,fun h=>by cases h⟩
theorem proved:Go.Proofs.YtmnfjejphmmddaaGreat.Rows.ViewTrueUptoSaid :=
 OpenClaim.holds_of_cond 14 Tryz.f14 rfl rfl rfl rfl rfl rfl rfl ⟨rfl,rfl,rfl,rfl,rfl⟩ rfl rfl rfl rfl rfl named Tryz.func14 facts
  (of_decide_eq_true (by kernel_rfl)) (by unfold Func.isWrapper; first | (rw [if_pos (by decide +kernel)]; kernel_rfl) | (rw [if_neg (by decide +kernel)]; exact ⟨rfl,rfl⟩))
  (fun os started H enc _ F=>lifted os started H enc F)
end viewTrue
end Go.Proofs.YtmnfjejphmmddaaGreat
