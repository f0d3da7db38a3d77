/- ConfigBack's row: a configuration that may be is decoded from its bytes, and from no beginning of them; unlike ones have unlike bytes; bytes that are decoded are the configuration's; of bulk at most 1048576 together. -/
import Derived.Test.YthkeklemhcfbcaaGreatUy
import Derived.Test.YthkeklemhcfbcaaGreatLay
import Derived.Test.YthkeklemhcfbcaaGreatWf
import Derived.Test.YthkeklemhcfbcaaGreatKa
import Derived.Test.YthkeklemhcfbcaaGreatRdx
import Derived.Test.YthkeklemhcfbcaaGreatK12
import Derived.Test.YthkeklemhcfbcaaGreatFacts12
import Derived.Carry
set_option linter.unusedVariables false
set_option maxRecDepth 100000
namespace Go.Proofs.YthkeklemhcfbcaaGreat
open Go.ChangeShapes Go.WideShapes Go.ChangeAt Go.RowKit
def rho0:Rh:=⟨fun _=>0,fun _=>False,fun _=>False,fun _=>False,fun _=>False⟩
theorem rel0 (w:World):Rel w.heap.size rho0 ⟨[],0⟩ w where
 dom i h:=h.elim
 ln i h:=h.elim
 live i hi:=by simp at hi
 lo i h:=h.elim
 base:=Nat.le_refl _
 inj i j _ h:=h.elim
 mem i hi:=by simp at hi
 xB b h:=h.elim
 gB b h:=h.elim
theorem st0 {w:World} {b:Nat}:St rho0 w b ↔ b < w.heap.size:=⟨fun h=>h.1,fun h=>⟨h,fun i=>⟨fun hi=>hi.elim,fun hx=>hx⟩⟩⟩
theorem DL.vrs {w:World}:∀ {ds:List D} {cs:List Value},DL (· < w.heap.size) w ds cs -> VRs rho0 (St rho0 w) w (ds.map .d) cs /\ ∀ u ∈ cs,u.oneCell' = true
 | [],cs,h=>by simp only [DL] at h; subst h; exact ⟨by simp only [List.map_nil,VRs],by simp⟩
 | d :: ds,cs,h=>by
  simp only [DL] at h
  obtain ⟨u,us,rfl,h1,h2⟩:=h
  have ih:=DL.vrs h2
  refine ⟨by simp only [List.map_cons,VRs]; exact ⟨u,us,rfl,by simp only [VR]; exact DR.mono (fun b hb=>st0.2 hb) (fun _ _=>rfl) h1,ih.1⟩,?_⟩
  intro x hx
  rcases List.mem_cons.1 hx with rfl | hx
  · exact h1.one
  · exact ih.2 x hx
theorem vr_ag {w:World} {ds:List D} {cs:Array Value} (h:DL (· < w.heap.size) w ds cs.toList):VR rho0 (St rho0 w) w (ag ds) (.agg cs):=by
 simp only [ag,VR]
 exact ⟨cs,rfl,h.vrs.1,h.vrs.2⟩
theorem vr_one {w:World} {d:D} {v:Value} (h:DL (· < w.heap.size) w [d] [v]):VR rho0 (St rho0 w) w (.d d) v:=by
 have:=h.vrs.1
 simp only [List.map_cons,List.map_nil,VRs] at this
 obtain ⟨u,us,e,h1,_⟩:=this
 simp at e
 rw [e.1]; exact h1
theorem own:ownKnob Tryz.prog.godebug = none:=by kernel_rfl
theorem mixed:Tryz.prog.follows .mixedOrders = true:=Checked.mixed Tryz.checked
theorem awake_ok:CallsOk Tryz.prog (known 5 true):=known_ok mixed (Tab.look_ok tabK_ok) okK_self (by kernel_rfl) awake_run
theorem law_calls {E:Calls'} (hE:CallsOk Tryz.prog E) {T:FuncId -> Option QF} {val:FuncId -> Bool} (hT:TabA Tryz.prog T) {f:FuncId} {args:List V} {W:World} {vs:Array Value} (hv:VRs rho0 (St rho0 W) W args vs.toList) (hs:Sm E T val f args ⟨[],0⟩ = some (bl true,⟨[],0⟩)) :
 Calls Tryz.prog f vs W fun e W'=>e = .returned (.bool true) /\ Below W.heap.size W W':=by
 obtain ⟨_,_,h3⟩:=Sm_ok (val:=val) mixed hE hT f args ⟨[],0⟩ _ _ hs
 refine (h3 W.heap.size rho0 W vs (rel0 W) hv).mono fun e W' ⟨v,ρ',k1,k2,k3,k4⟩=>?_
 refine ⟨?_,k3.below⟩
 rw [k1]
 simp only [VRx,VR,DR] at k4
 simp [k4]
theorem none_ok:CallsOk Tryz.prog (fun _ _ _=>none):=fun f args h r h' hm=>by cases hm
theorem tabP_ok:TabA Tryz.prog TP:=lookT_ok (by
 simp only [tabP,List.mem_cons,List.not_mem_nil,or_false]
 rintro p (rfl | rfl | rfl)
 · exact ok385
 · exact ok372
 · exact ok445)
theorem sort_enter (vs:Array Value) (w:World):(callFunc 203 vs).run Tryz.prog w = .ok (.enter 203 vs) w :=
 callFunc_enter Tryz.func203 rfl (by decide) vs w
theorem E1_ok:CallsOk Tryz.prog E1:=by
 intro f args h r h' hm
 simp only [E1] at hm
 split at hm
 · rename_i hf
   have hf':f = 203:=Nat.eq_of_beq_eq_true hf
   subst hf'
   exact ⟨sort_enter,sortE_low hm,fun B ρ w vs hR hv=>sortE_ok lays189 hR hv hm⟩
 · exact Sm_ok mixed none_ok tabT_ok f args h r h' hm
theorem tabRd_ok:TabA Tryz.prog TRd:=lookT_ok (by
 simp only [tabRd,List.mem_cons,List.not_mem_nil,or_false]
 rintro p (rfl | rfl | rfl | rfl | rfl | rfl | rfl | rfl | rfl | rfl | rfl | rfl | rfl | rfl | rfl | rfl | rfl | rfl | rfl | rfl | rfl | rfl | rfl | rfl | rfl | rfl | rfl | rfl | rfl | rfl | rfl | rfl | rfl | rfl | rfl | rfl | rfl | rfl | rfl | rfl | rfl | rfl | rfl | rfl | rfl)
 · exact okr94
 · exact okr89
 · exact okr224
 · exact okr225
 · exact okr226
 · exact okr227
 · exact okr228
 · exact okr229
 · exact okr230
 · exact okr231
 · exact okr232
 · exact okr233
 · exact okr234
 · exact okr235
 · exact okr236
 · exact okr237
 · exact okr238
 · exact okr390
 · exact okr391
 · exact okr392
 · exact okr393
 · exact okr394
 · exact okr395
 · exact okr396
 · exact okr397
 · exact okr398
 · exact okr468
 · exact okr469
 · exact okr470
 · exact okr471
 · exact okr472
 · exact okr473
 · exact okr542
 · exact okr543
 · exact okr544
 · exact okr545
 · exact okr546
 · exact okr586
 · exact okr587
 · exact okr588
 · exact okr589
 · exact okr609
 · exact okr610
 · exact okr611
 · exact okr612)
theorem tabA_ok:TabA Tryz.prog TA:=lookT_ok (by
 simp only [tabA,List.mem_cons,List.not_mem_nil,or_false]
 rintro p (rfl | rfl | rfl | rfl | rfl | rfl | rfl | rfl | rfl | rfl | rfl | rfl | rfl | rfl | rfl | rfl | rfl)
 · exact ok126
 · exact ok173
 · exact ok174
 · exact ok175
 · exact ok176
 · exact ok177
 · exact ok286
 · exact ok287
 · exact ok355
 · exact ok356
 · exact ok357
 · exact ok358
 · exact ok359
 · exact ok360
 · exact ok420
 · exact ok421
 · exact ok422)
theorem tabL12_ok:TabA Tryz.prog TL12:=lookT_ok (by
 simp only [tabL12,List.mem_cons,List.not_mem_nil,or_false]
 rintro p (rfl)
 · exact okr12)
theorem noE_ok:CallsOk Tryz.prog noE:=fun f args h r h' hm=>by cases hm
theorem Et_ok:CallsOk Tryz.prog Et:=by
 intro f args h r h' hm
 simp only [Et] at hm
 split at hm
 · exact Sm_ok mixed E1_ok tabP_ok f args h r h' hm
 · cases hm
theorem EB1_ok:CallsOk Tryz.prog EB1:=fun f args h r h' hm=>Sm_ok mixed Et_ok tabT_ok f args h r h' hm
theorem EB2_ok:CallsOk Tryz.prog EB2:=by
 intro f args h r h' hm
 simp only [EB2] at hm
 split at hm
 · exact awake_ok f args h r h' hm
 · exact Sm_ok mixed EB1_ok tabRd_ok f args h r h' hm
 · exact Sm_ok mixed noE_ok tabA_ok f args h r h' hm
 · exact EB1_ok f args h r h' hm
def u8Wf (B:Nat) (n:Int):Prop:=Inr .u8 n
section
variable {H:Type} {enc:TypeId × Value -> H} {w:World} {spare:Nat -> Bool} {held:Bool} {B:Nat}
theorem rd_u8s:Rd enc w spare held B 29 (fun s=>[Sl.d u8C s]) (fun B s=>Sl.wf B u8Wf s) :=
 rd_slice (z:=1) Tryz.underlying29 (by kernel_rfl) (by decide) (fun _=>rfl) (rd_int Tryz.underlying5)
end
theorem u8_byte {s:Sl Int} {B:Nat} (h:s.wf B u8Wf):byteL s.l:=fun c hc=>by
 have k:=h.2 c hc
 simp [u8Wf,Inr,Lit.wf,IntKind.min,IntKind.max,IntKind.bits,IntKind.signed] at k
 omega
namespace configBack
theorem back_any {W:World} {c d:Cfg} {s:Sl Int} {cut:Int} (hc:c.wf 1048576) (hd:d.wf 1048576) (hs:s.wf 1048576 u8Wf) {cs ds:Array Value} {v:Value} (h0:DL (· < W.heap.size) W c.c cs.toList) (h1:DL (· < W.heap.size) W d.c ds.toList) (h2:DL (· < W.heap.size) W [Sl.d u8C s] [v]) :
 Calls Tryz.prog 3 #[.agg cs,.agg ds,v,.int .i64 cut] W fun e W'=>e = .returned (.bool true) /\ Below W.heap.size W W':=by
 refine law_calls (E:=EB2) EB2_ok tabL12_ok (val:=valL12) (args:=[c.v,d.v,.d (Sl.d u8C s),.d (i64 cut)]) ?_ (R12 EB2_H c d hc (Cfg.wf.le (by decide) hc) hd (Cfg.wf.le (by decide) hd) (nl:=s.nl) (l:=s.l) (u8_byte hs) (Nat.le_trans hs.1.1 (by decide)) cut ⟨[],0⟩)
 simp only [VRs]
 exact ⟨_,_,rfl,vr_ag h0,_,_,rfl,vr_ag h1,_,_,rfl,vr_one h2,_,_,rfl,by simp only [VR,DR],rfl⟩
theorem lifted (os:Os) (started:os.Started) (H:Type) (enc:TypeId × Value -> H) (F:Stop.Interp) :
 ReturnsInHanded {} Tryz.checked os 3 .any ((Go.Proofs.YthkeklemhcfbcaaGreat.Rows.OpenSpec.upto Go.Proofs.YthkeklemhcfbcaaGreat.Rows.configBackSpec).pre6 enc Tryz.prog Tryz.f3 Go.Proofs.YthkeklemhcfbcaaGreat.Rows.configBackUptoRow.domain false) (((Go.Proofs.YthkeklemhcfbcaaGreat.Rows.OpenSpec.upto Go.Proofs.YthkeklemhcfbcaaGreat.Rows.configBackSpec).at F).post enc Tryz.prog Tryz.f3 false true false false):=by
 refine returnsInHanded_of_cond (C:=Tryz.checked) (s:=Go.Proofs.YthkeklemhcfbcaaGreat.Rows.OpenSpec.upto Go.Proofs.YthkeklemhcfbcaaGreat.Rows.configBackSpec) (k:=Go.Proofs.YthkeklemhcfbcaaGreat.Rows.uptoSmall) rfl own started (by kernel_rfl) Tryz.func3
  (OpenSpec.witness (enc:=enc) (C:=Tryz.checked) (s:=Go.Proofs.YthkeklemhcfbcaaGreat.Rows.OpenSpec.upto Go.Proofs.YthkeklemhcfbcaaGreat.Rows.configBackSpec) (k:=Go.Proofs.YthkeklemhcfbcaaGreat.Rows.uptoSmall) rfl false ⟨#[],#[.agg #[.int .u64 0,.int .u64 0,.int .i64 0,.int .i64 0,.slice none 0 0,.slice none 0 0,.slice none 0 0,.slice none 0 0],.agg #[.int .u64 0,.int .u64 0,.int .i64 0,.int .i64 0,.slice none 0 0,.slice none 0 0,.slice none 0 0,.slice none 0 0],.slice none 0 0,.int .i64 0],[]⟩ 8
   (by kernel_rfl) (by kernel_rfl) (by kernel_rfl) (x:=([.agg [.lit (.int .u64 0),.lit (.int .u64 0),.lit (.int .i64 0),.lit (.int .i64 0),.nil,.nil,.nil,.nil],.agg [.lit (.int .u64 0),.lit (.int .u64 0),.lit (.int .i64 0),.lit (.int .i64 0),.nil,.nil,.nil,.nil],.nil,.lit (.int .i64 0)],[],[])) (by kernel_rfl) rfl (by rfl)) ?_
 intro W base args ds gs before hval0 hW hcnd hkk _
 have hval:∀ (j:Nat) t v,Tryz.f3.params[j]? = some t -> args[j]? = some v -> Value.okWide Tryz.prog W .any base t v:=hval0
 have hW':=hW
 obtain ⟨p,q,hA0,hV,rfl,hfz,hnd⟩:=hW
 have hA:DataW.TrodAll enc Tryz.prog W 0 (fun _=>true) true Tryz.f3.params.toList args.toList ds p:=hA0
 rw [Tryz.params3] at hA hval
 obtain ⟨v0,vs1,d0,ds1,p0,q1,ha1,rfl,rfl,h0,hA⟩:=trodAll_cons hA
 obtain ⟨v1,vs2,d1,ds2,p1,q2,rfl,rfl,rfl,h1,hA⟩:=trodAll_cons hA
 obtain ⟨v2,vs3,d2,ds3,p2,q3,rfl,rfl,rfl,h2,hA⟩:=trodAll_cons hA
 obtain ⟨v3,vs4,d3,ds4,p3,q4,rfl,rfl,rfl,h3,hA⟩:=trodAll_cons hA
 obtain ⟨rfl,rfl,rfl⟩:=trodAll_nil hA
 have hargs:args = #[v0,v1,v2,v3]:=by apply Array.ext'; simpa using ha1
 subst hargs
 obtain ⟨rfl,rfl⟩:=trodVars_none hV
 have hsm:bulks [d0,d1,d2,d3] <= 1048576:=by simpa [Go.Proofs.YthkeklemhcfbcaaGreat.Rows.uptoSmall] using hkk
 obtain ⟨ca,rfl,hca⟩:=okWide_struct Tryz.underlying28 (hval 0 28 v0 rfl rfl)
 obtain ⟨cb,rfl,hcb⟩:=okWide_struct Tryz.underlying28 (hval 1 28 v1 rfl rfl)
 obtain ⟨sa,sn,sc,rfl⟩:=okWide_slice Tryz.underlying29 (hval 2 29 v2 rfl rfl)
 obtain ⟨cut,rfl,rfl,rfl,wb⟩:=open_int Tryz.underlying3 (hval 3 3 v3 rfl rfl) h3
 have hlt0:∀ x ∈ p0,x.block < W.heap.size:=fun x hx=>hW'.lt x (by simp [hx])
 have hlt1:∀ x ∈ p1,x.block < W.heap.size:=fun x hx=>hW'.lt x (by simp [hx])
 have hlt2:∀ x ∈ p2,x.block < W.heap.size:=fun x hx=>hW'.lt x (by simp [hx])
 have h0':=h0
 have h1':=h1
 have h2':=h2
 obtain ⟨f0,g0⟩:=h0
 obtain ⟨f1,g1⟩:=h1
 obtain ⟨f2,g2⟩:=h2
 obtain ⟨c,a1,a2⟩:=rd_Cfg (B:=1048576) _ _ _ g0 (Nat.le_trans (bulk_mem (by simp)) hsm)
 obtain ⟨d,b1,b2⟩:=rd_Cfg (B:=1048576) _ _ _ g1 (Nat.le_trans (bulk_mem (by simp)) hsm)
 obtain ⟨s,s1,s2⟩:=rd_u8s (B:=1048576) _ _ _ g2 (Nat.le_trans (bulk_mem (by simp)) hsm)
 refine (back_any (cut:=cut) a2 b2 s2 a1 b1 s1).mono fun e W' ⟨he,hb⟩=>?_
 subst he
 have k0:=Below.trod laidOut (by kernel_rfl) (of_decide_eq_true (by kernel_rfl)) h0' hb hlt0
 have k1:=Below.trod laidOut (by kernel_rfl) (of_decide_eq_true (by kernel_rfl)) h1' hb hlt1
 have k2:=Below.trod laidOut (by kernel_rfl) (of_decide_eq_true (by kernel_rfl)) h2' hb hlt2
 have kA:=trodAll_cons_mk k0 (trodAll_cons_mk k1 (trodAll_cons_mk k2 (trodAll_mk1 (shut_int Tryz.underlying3 wb))))
 exact ⟨_,rfl,_,_,_,[],_,[],hW',trodAll_mk1 (shut_bool Tryz.underlying4 true),kA,rfl,hb.frame _,fun h=>by cases h⟩
theorem proved:Go.Proofs.YthkeklemhcfbcaaGreat.Rows.ConfigBackUptoSaid :=
 OpenClaim.holds_of_cond 3 Tryz.f3 rfl rfl rfl rfl rfl rfl rfl ⟨rfl,rfl,rfl,rfl,rfl⟩ rfl rfl rfl rfl rfl named Tryz.func3 facts
  (of_decide_eq_true (by kernel_rfl)) (by unfold Func.isWrapper; first | (rw [if_pos (by decide +kernel)]; kernel_rfl) | (rw [if_neg (by decide +kernel)]; exact ⟨rfl,rfl⟩))
  (fun os started H enc _ F=>lifted os started H enc F)
end configBack
end Go.Proofs.YthkeklemhcfbcaaGreat
