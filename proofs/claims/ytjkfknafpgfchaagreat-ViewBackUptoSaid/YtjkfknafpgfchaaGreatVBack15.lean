/- ViewBack's row: what makes a view of another one makes it, also when it went as bytes; what makes a view of itself puts in nothing, and nothing goes; of bulk at most 1048576 together. -/
import Derived.Test.YtjkfknafpgfchaaGreatVm
import Derived.Test.YtjkfknafpgfchaaGreatRdx
import Derived.Test.YtjkfknafpgfchaaGreatLay
import Derived.Test.YtjkfknafpgfchaaGreatWf
import Derived.Test.YtjkfknafpgfchaaGreatKa
import Derived.Test.YtjkfknafpgfchaaGreatK17
import Derived.Test.YtjkfknafpgfchaaGreatFacts15
import Derived.Carry
set_option linter.unusedVariables false
set_option maxRecDepth 100000
namespace Go.Proofs.YtjkfknafpgfchaaGreat
open Go.ChangeShapes Go.WideShapes Go.ChangeAt Go.RowKit
def tq:Rh:=⟨fun _=>0,fun _=>False,fun _=>False,fun _=>False,fun _=>False⟩
theorem NJ (w:World):Rel w.heap.size tq ⟨[],0⟩ w where
 dom i h:=h.elim
 ln i h:=h.elim
 live i hi:=by simp at hi
 lo i h:=h.elim
 base:=Nat.le_refl _
 inj i j _ h:=h.elim
 mem i hi:=by simp at hi
 xB b h:=h.elim
 gB b h:=h.elim
theorem st0 {w:World} {b:Nat}:St tq w b ↔ b < w.heap.size:=⟨fun h=>h.1,fun h=>⟨h,fun i=>⟨fun hi=>hi.elim,fun hx=>hx⟩⟩⟩
theorem DL.vrs {w:World}:∀ {ds:List D} {cs:List Value},DL (· < w.heap.size) w ds cs -> VRs tq (St tq w) w (ds.map .d) cs /\ ∀ u ∈ cs,u.oneCell' = true
 | [],cs,h=>by simp only [DL] at h; subst h; exact ⟨by simp only [List.map_nil,VRs],by simp⟩
 | d :: ds,cs,h=>by
  simp only [DL] at h;obtain ⟨u,us,rfl,h1,h2⟩:=h;have ih:=DL.vrs h2;refine ⟨by simp only [List.map_cons,VRs]; exact ⟨u,us,rfl,by simp only [VR]; exact DR.mono (fun b hb=>st0.2 hb) (fun _ _=>rfl) h1,ih.1⟩,?_⟩;intro x hx;rcases List.mem_cons.1 hx with rfl | hx
  · exact h1.one
  · exact ih.2 x hx
theorem Qj {w:World} {ds:List D} {cs:Array Value} (h:DL (· < w.heap.size) w ds cs.toList):VR tq (St tq w) w (ag ds) (.agg cs):=by
 simp only [ag,VR];exact ⟨cs,rfl,h.vrs.1,h.vrs.2⟩
theorem dv5 {w:World} {d:D} {v:Value} (h:DL (· < w.heap.size) w [d] [v]):VR tq (St tq w) w (.d d) v:=by
 have:=h.vrs.1;simp only [List.map_cons,List.map_nil,VRs] at this;obtain ⟨u,us,e,h1,_⟩:=this;simp at e;rw [e.1]; exact h1
theorem own:ownKnob Tryz.prog.godebug = none:=by kernel_rfl
theorem mixed:Tryz.prog.follows .mixedOrders = true:=Checked.mixed Tryz.checked
theorem Fe:aL Tryz.prog (known 5 true):=Gu mixed (Tab.look_ok N7) Hq (by kernel_rfl) C9
theorem Dw {E:Calls'} (hE:aL Tryz.prog E) {T:FuncId -> Option QF} {val:FuncId -> Bool} (hT:kN Tryz.prog T) {f:FuncId} {args:List V} {W:World} {vs:Array Value} (hv:VRs tq (St tq W) W args vs.toList) (hs:Sm E T val f args ⟨[],0⟩ = some (bl true,⟨[],0⟩)) :
 Calls Tryz.prog f vs W fun e W'=>e = .returned (.bool true) /\ Below W.heap.size W W':=by
 obtain ⟨_,_,h3⟩:=jf (val:=val) mixed hE hT f args ⟨[],0⟩ _ _ hs;refine (h3 W.heap.size tq W vs (NJ W) hv).mono fun e W' ⟨v,ρ',k1,k2,k3,k4⟩=>?_;refine ⟨?_,k3.below⟩;rw [k1];simp only [VRx,VR,DR] at k4;simp [k4]
theorem KW:aL Tryz.prog (fun _ _ _=>none):=fun f args h r h' hm=>by cases hm
theorem N9:kN Tryz.prog TP:=eT (by
 simp only [bm0,List.mem_cons,List.not_mem_nil,or_false];rintro p (rfl | rfl | rfl)
 · exact ae8
 · exact OU
 · exact ah1)
theorem AR (vs:Array Value) (w:World):(callFunc 362 vs).run Tryz.prog w = .ok (.enter 362 vs) w :=
 bC Tryz.func362 rfl (by decide) vs w
theorem WB:aL Tryz.prog E1:=by
 intro f args h r h' hm;simp only [E1] at hm;split at hm
 · rename_i hf;have hf':f = 362:=Nat.eq_of_beq_eq_true hf;subst hf';exact ⟨AR,Es hm,fun B ρ w vs hR hv=>Jj KQ hR hv hm⟩
 · exact jf mixed KW wh f args h r h' hm
theorem RQ:aL Tryz.prog noE:=fun f args h r h' hm=>by cases hm
theorem NV:kN Tryz.prog TB:=eT (by
 simp only [bl7,List.mem_cons,List.not_mem_nil,or_false];rintro p (rfl | rfl | rfl | rfl | rfl | rfl)
 · exact YU
 · exact Cf
 · exact Ce
 · exact Cg
 · exact Ch
 · exact Ci)
theorem NZ:kN Tryz.prog TI:=eT (by
 simp only [bl9,List.mem_cons,List.not_mem_nil,or_false];rintro p (rfl | rfl | rfl | rfl | rfl | rfl | rfl | rfl | rfl | rfl | rfl | rfl | rfl | rfl | rfl | rfl | rfl | rfl | rfl | rfl | rfl | rfl | rfl | rfl | rfl | rfl | rfl | rfl | rfl | rfl | rfl | rfl | rfl | rfl | rfl | rfl | rfl | rfl | rfl | rfl | rfl | rfl | rfl | rfl | rfl | rfl | rfl | rfl | rfl | rfl | rfl | rfl | rfl | rfl | rfl | rfl | rfl | rfl | rfl | rfl | rfl | rfl | rfl | rfl | rfl | rfl | rfl | rfl | rfl | rfl | rfl | rfl | rfl | rfl | rfl | rfl | rfl | rfl | rfl | rfl | rfl | rfl | rfl | rfl | rfl | rfl | rfl | rfl | rfl | rfl)
 · exact cx6
 · exact cx8
 · exact Y0
 · exact cx7
 · exact Y9
 · exact Za
 · exact Zb
 · exact Zc
 · exact Y1
 · exact Y3
 · exact Y5
 · exact Y7
 · exact ZQ
 · exact ZU
 · exact ZW
 · exact ZY
 · exact ZT
 · exact ZV
 · exact ZX
 · exact ZZ
 · exact ZM
 · exact ZN
 · exact ZO
 · exact ZP
 · exact ac1
 · exact ac2
 · exact ac3
 · exact ac4
 · exact ab9
 · exact ac0
 · exact ZR
 · exact ac5
 · exact cx5
 · exact YZ
 · exact GM
 · exact GR
 · exact OB
 · exact OC
 · exact GX
 · exact Hd
 · exact Ho
 · exact Hl
 · exact GI
 · exact GJ
 · exact GL
 · exact Hm
 · exact ZC
 · exact ZE
 · exact ZF
 · exact ZK
 · exact ZG
 · exact ZH
 · exact ZI
 · exact ZJ
 · exact Y2
 · exact Y4
 · exact Y6
 · exact Y8
 · exact GN
 · exact GQ
 · exact GU
 · exact GV
 · exact GK
 · exact GZ
 · exact He
 · exact Hg
 · exact Ce
 · exact Cg
 · exact Ch
 · exact Ci
 · exact GY
 · exact Ha
 · exact Hf
 · exact Oy
 · exact Cf
 · exact Oo
 · exact Oz
 · exact OA
 · exact Zd
 · exact Z5
 · exact Z6
 · exact ac7
 · exact ac8
 · exact ac9
 · exact ad1
 · exact ad2
 · exact ad3
 · exact af2
 · exact af3
 · exact af4)
theorem rz:kN Tryz.prog TZ:=eT (by
 simp only [bm2,List.mem_cons,List.not_mem_nil,or_false];rintro p (rfl | rfl | rfl | rfl | rfl | rfl | rfl | rfl | rfl | rfl | rfl | rfl)
 · exact OD
 · exact OO
 · exact OV
 · exact OE
 · exact OP
 · exact OW
 · exact OG
 · exact OQ
 · exact OX
 · exact Z4
 · exact ac6
 · exact af1)
theorem NW:kN Tryz.prog TD:=eT (by
 simp only [bl8,List.mem_cons,List.not_mem_nil,or_false];rintro p (rfl | rfl | rfl | rfl | rfl | rfl | rfl | rfl | rfl | rfl | rfl | rfl | rfl | rfl | rfl | rfl | rfl | rfl | rfl | rfl | rfl | rfl | rfl | rfl | rfl | rfl | rfl | rfl | rfl | rfl | rfl | rfl | rfl | rfl | rfl | rfl | rfl | rfl | rfl | rfl | rfl | rfl | rfl | rfl | rfl | rfl | rfl | rfl | rfl)
 · exact aj8
 · exact RY
 · exact R3
 · exact R5
 · exact R7
 · exact RZ
 · exact R4
 · exact R6
 · exact Cf
 · exact Sz
 · exact SC
 · exact SH
 · exact SN
 · exact SA
 · exact SE
 · exact SI
 · exact SQ
 · exact SB
 · exact SG
 · exact SL
 · exact SS
 · exact GM
 · exact GR
 · exact OB
 · exact OC
 · exact GX
 · exact Hd
 · exact Ho
 · exact Hl
 · exact GI
 · exact GJ
 · exact GL
 · exact Hm
 · exact GN
 · exact GQ
 · exact GU
 · exact GV
 · exact GK
 · exact GZ
 · exact He
 · exact Hg
 · exact Ce
 · exact Cg
 · exact Ch
 · exact Ci
 · exact GY
 · exact Ha
 · exact Hf
 · exact Oy)
theorem Jn:kN Tryz.prog TRd:=eT (by
 simp only [Qg,List.mem_cons,List.not_mem_nil,or_false];rintro p (rfl | rfl | rfl | rfl | rfl | rfl | rfl | rfl | rfl | rfl | rfl | rfl | rfl | rfl | rfl | rfl | rfl | rfl | rfl | rfl | rfl | rfl | rfl | rfl | rfl | rfl | rfl | rfl | rfl | rfl | rfl | rfl | rfl | rfl | rfl | rfl | rfl | rfl | rfl | rfl | rfl | rfl | rfl | rfl | rfl | rfl | rfl | rfl)
 · exact R8
 · exact R9
 · exact Sa
 · exact Sb
 · exact Sc
 · exact Sd
 · exact SV
 · exact SX
 · exact SY
 · exact S9
 · exact Ta
 · exact Tc
 · exact Td
 · exact Te
 · exact Tf
 · exact Tj
 · exact Tk
 · exact Tm
 · exact Tn
 · exact Tp
 · exact Tq
 · exact Tt
 · exact Tu
 · exact Tv
 · exact Tw
 · exact Tx
 · exact Ty
 · exact Tz
 · exact TA
 · exact TC
 · exact TF
 · exact TG
 · exact TH
 · exact TJ
 · exact Sg
 · exact Si
 · exact Sj
 · exact Sk
 · exact Sn
 · exact Sq
 · exact Sr
 · exact Su
 · exact Sv
 · exact Sw
 · exact Sy
 · exact Tg
 · exact Ti
 · exact RX)
theorem NY:kN Tryz.prog TE:=eT (by
 simp only [List.mem_cons,List.not_mem_nil,or_false];rintro p rfl;exact RU)
theorem N8:kN Tryz.prog gY:=eT (by
 simp only [List.mem_cons,List.not_mem_nil,or_false];rintro p rfl;exact aj7)
theorem rA:aL Tryz.prog ET0:=fun f args h r h' hm=>jf mixed RQ wh f args h r h' hm
theorem WF:aL Tryz.prog Et:=by
 intro f args h r h' hm;simp only [Et] at hm;split at hm
 · exact jf mixed WB N9 f args h r h' hm
 · cases hm
theorem Ey {args:List V} {h:Hp} {r:V} {h':Hp} (hm:qd yI 146 args h = some (r,h')) :
 (∀ vs w,(callFunc 146 vs).run Tryz.prog w = .ok (.enter 146 vs) w) /\ LowOk h h' /\ ∀ B ρ w (vs:Array Value),Rel B ρ h w -> VRs ρ (St ρ w) w args vs.toList -> Calls Tryz.prog 146 vs w (je B ρ h w r h'):=by
 unfold qd at hm;split at hm
 · exact ⟨fun vs w=>bC Tryz.func146 rfl (by decide) vs w,kE hm,fun B ρ w vs hR hv=>mr yI NP Tryz.isAgg56 Tryz.sizeOf56 (fun vs w=>bC Tryz.func147 rfl (by decide) vs w) (by decide) Kh hR hv hm⟩
 · exact jf mixed rA rz 146 args h r h' hm
theorem EB {args:List V} {h:Hp} {r:V} {h':Hp} (hm:qd yK 151 args h = some (r,h')) :
 (∀ vs w,(callFunc 151 vs).run Tryz.prog w = .ok (.enter 151 vs) w) /\ LowOk h h' /\ ∀ B ρ w (vs:Array Value),Rel B ρ h w -> VRs ρ (St ρ w) w args vs.toList -> Calls Tryz.prog 151 vs w (je B ρ h w r h'):=by
 unfold qd at hm;split at hm
 · exact ⟨fun vs w=>bC Tryz.func151 rfl (by decide) vs w,kE hm,fun B ρ w vs hR hv=>mr yK NQ Tryz.isAgg58 Tryz.sizeOf58 (fun vs w=>bC Tryz.func152 rfl (by decide) vs w) (by decide) Ki hR hv hm⟩
 · exact jf mixed rA rz 151 args h r h' hm
theorem EC {args:List V} {h:Hp} {r:V} {h':Hp} (hm:qd yL 155 args h = some (r,h')) :
 (∀ vs w,(callFunc 155 vs).run Tryz.prog w = .ok (.enter 155 vs) w) /\ LowOk h h' /\ ∀ B ρ w (vs:Array Value),Rel B ρ h w -> VRs ρ (St ρ w) w args vs.toList -> Calls Tryz.prog 155 vs w (je B ρ h w r h'):=by
 unfold qd at hm;split at hm
 · exact ⟨fun vs w=>bC Tryz.func155 rfl (by decide) vs w,kE hm,fun B ρ w vs hR hv=>mr yL NR Tryz.isAgg60 Tryz.sizeOf60 (fun vs w=>bC Tryz.func156 rfl (by decide) vs w) (by decide) Kj hR hv hm⟩
 · exact jf mixed rA rz 155 args h r h' hm
theorem Ez {args:List V} {h:Hp} {r:V} {h':Hp} (hm:qd yJ 159 args h = some (r,h')) :
 (∀ vs w,(callFunc 159 vs).run Tryz.prog w = .ok (.enter 159 vs) w) /\ LowOk h h' /\ ∀ B ρ w (vs:Array Value),Rel B ρ h w -> VRs ρ (St ρ w) w args vs.toList -> Calls Tryz.prog 159 vs w (je B ρ h w r h'):=by
 unfold qd at hm;split at hm
 · exact ⟨fun vs w=>bC Tryz.func159 rfl (by decide) vs w,kE hm,fun B ρ w vs hR hv=>mr yJ NS Tryz.isAgg81 Tryz.sizeOf81 (fun vs w=>bC Tryz.func160 rfl (by decide) vs w) (by decide) Kk hR hv hm⟩
 · exact jf mixed rA rz 159 args h r h' hm
theorem WC:aL Tryz.prog EIC:=by
 intro f args h r h' hm;simp only [EIC] at hm;split at hm
 · exact jf mixed rA NV f args h r h' hm
 · split at hm
   · have hf':f = 146:=Nat.eq_of_beq_eq_true (by assumption);subst hf';exact Ey hm
   · have hf':f = 151:=Nat.eq_of_beq_eq_true (by assumption);subst hf';exact EB hm
   · have hf':f = 155:=Nat.eq_of_beq_eq_true (by assumption);subst hf';exact EC hm
   · have hf':f = 159:=Nat.eq_of_beq_eq_true (by assumption);subst hf';exact Ez hm
   · exact jf mixed WF wh f args h r h' hm
theorem uN:aL Tryz.prog EQ7:=fun f args h r h' hm=>jf mixed WC NZ f args h r h' hm
theorem JN:aL Tryz.prog EP:=by
 intro f args h r h' hm;simp only [EP] at hm;split at hm
 · exact Fe f args h r h' hm
 · exact jf mixed uN NW f args h r h' hm
 · exact jf mixed uN NY f args h r h' hm
 · exact jf mixed uN Jn f args h r h' hm
 · exact uN f args h r h' hm
namespace viewBack
theorem vB {v:Vw} (h:v.wf 1048576):v.ok /\ v.inb:=⟨Vw.wf.ok h (by decide),h.1,h.2.1.2,fun p hp=>Pod.wf.le (by decide) (h.2.2.1.2 p hp),fun p hp=>Svc.wf.le (by decide) (h.2.2.2.1.2 p hp),fun p hp=>Way.wf.le (h.2.2.2.2.1.2 p hp),fun p hp=>Pol.wf.le (by decide) (h.2.2.2.2.2.2 p hp)⟩
theorem Ff {W:World} {a b:Vw} (ha:a.wf 1048576) (hb:b.wf 1048576) {ca cb:Array Value} (h0:DL (· < W.heap.size) W a.c ca.toList) (h1:DL (· < W.heap.size) W b.c cb.toList) :
 Calls Tryz.prog 3 #[.agg ca,.agg cb] W fun e W'=>e = .returned (.bool true) /\ Below W.heap.size W W':=by
 refine Dw (E:=EP) JN N8 (val:=dV) (args:=[a.v,b.v]) ?_ (R15 Qn Qo a b (vB ha).1 (vB hb).1 (vB ha).2 (vB hb).2 ⟨[],0⟩);simp only [VRs];exact ⟨_,_,rfl,Qj h0,_,_,rfl,Qj h1,rfl⟩
theorem lifted (os:Os) (started:os.Started) (H:Type) (enc:TypeId × Value -> H) (F:Stop.Interp) :
 ReturnsInHanded {} Tryz.checked os 3 .any ((Go.Proofs.YtjkfknafpgfchaaGreat.Rows.OpenSpec.upto Go.Proofs.YtjkfknafpgfchaaGreat.Rows.viewBackSpec).pre6 enc Tryz.prog Tryz.f3 Go.Proofs.YtjkfknafpgfchaaGreat.Rows.viewBackUptoRow.domain false) (((Go.Proofs.YtjkfknafpgfchaaGreat.Rows.OpenSpec.upto Go.Proofs.YtjkfknafpgfchaaGreat.Rows.viewBackSpec).at F).post enc Tryz.prog Tryz.f3 false true false false):=by
 refine returnsInHanded_of_cond (C:=Tryz.checked) (s:=Go.Proofs.YtjkfknafpgfchaaGreat.Rows.OpenSpec.upto Go.Proofs.YtjkfknafpgfchaaGreat.Rows.viewBackSpec) (k:=Go.Proofs.YtjkfknafpgfchaaGreat.Rows.uptoSmall) rfl own started (by kernel_rfl) Tryz.func3
  (OpenSpec.witness (enc:=enc) (C:=Tryz.checked) (s:=Go.Proofs.YtjkfknafpgfchaaGreat.Rows.OpenSpec.upto Go.Proofs.YtjkfknafpgfchaaGreat.Rows.viewBackSpec) (k:=Go.Proofs.YtjkfknafpgfchaaGreat.Rows.uptoSmall) rfl false ⟨#[],#[.agg #[.int .u64 0,.slice none 0 0,.slice none 0 0,.slice none 0 0,.slice none 0 0,.slice none 0 0],.agg #[.int .u64 0,.slice none 0 0,.slice none 0 0,.slice none 0 0,.slice none 0 0,.slice none 0 0]],[]⟩ 8
   (by kernel_rfl) (by kernel_rfl) (by kernel_rfl) (x:=([.agg [.lit (.int .u64 0),.nil,.nil,.nil,.nil,.nil],.agg [.lit (.int .u64 0),.nil,.nil,.nil,.nil,.nil]],[],[])) (by kernel_rfl) rfl (by rfl)) ?_
 intro W base args ds gs before hval0 hW hcnd hkk _;have hval:∀ (j:Nat) t v,Tryz.f3.params[j]? = some t -> args[j]? = some v -> Value.okWide Tryz.prog W .any base t v:=hval0;have hW':=hW;obtain ⟨p,q,hA0,hV,rfl,hfz,hnd⟩:=hW;have hA:DataW.TrodAll enc Tryz.prog W 0 (fun _=>true) true Tryz.f3.params.toList args.toList ds p:=hA0;rw [Tryz.params3] at hA hval;obtain ⟨v0,vs1,d0,ds1,p0,q1,ha1,rfl,rfl,h0,hA⟩:=trodAll_cons hA;obtain ⟨v1,vs2,d1,ds2,p1,q2,rfl,rfl,rfl,h1,hA⟩:=trodAll_cons hA;obtain ⟨rfl,rfl,rfl⟩:=trodAll_nil hA;have hargs:args = #[v0,v1]:=by apply Array.ext'; simpa using ha1
 subst hargs;obtain ⟨rfl,rfl⟩:=trodVars_none hV;have hsm:bulks [d0,d1] <= 1048576:=by simpa [Go.Proofs.YtjkfknafpgfchaaGreat.Rows.uptoSmall] using hkk
 obtain ⟨ca,rfl,hca⟩:=okWide_struct Tryz.underlying29 (hval 0 29 v0 rfl rfl);obtain ⟨cb,rfl,hcb⟩:=okWide_struct Tryz.underlying29 (hval 1 29 v1 rfl rfl);have hlt0:∀ x ∈ p0,x.block < W.heap.size:=fun x hx=>hW'.lt x (by simp [hx]);have hlt1:∀ x ∈ p1,x.block < W.heap.size:=fun x hx=>hW'.lt x (by simp [hx]);have h0':=h0;have h1':=h1;obtain ⟨f0,g0⟩:=h0;obtain ⟨f1,g1⟩:=h1;obtain ⟨a,a1,a2⟩:=O6 (B:=1048576) _ _ _ g0 (Nat.le_trans (kQ (by simp)) hsm);obtain ⟨b,b1,b2⟩:=O6 (B:=1048576) _ _ _ g1 (Nat.le_trans (kQ (by simp)) hsm);refine (Ff a2 b2 a1 b1).mono fun e W' ⟨he,hb⟩=>?_;subst he;have k0:=Below.trod laidOut (by kernel_rfl) (of_decide_eq_true (by kernel_rfl)) h0' hb hlt0;have k1:=Below.trod laidOut (by kernel_rfl) (of_decide_eq_true (by kernel_rfl)) h1' hb hlt1;have kA:=trodAll_cons_mk k0 (trodAll_mk1 k1);exact ⟨_,rfl,_,_,_,[],_,[],hW',trodAll_mk1 (shut_bool Tryz.underlying4 true),kA,rfl,hb.frame _,fun h=>by cases h⟩
theorem proved:Go.Proofs.YtjkfknafpgfchaaGreat.Rows.ViewBackUptoSaid :=
 OpenClaim.holds_of_cond 3 Tryz.f3 rfl rfl rfl rfl rfl rfl rfl ⟨rfl,rfl,rfl,rfl,rfl⟩ rfl rfl rfl rfl rfl named Tryz.func3 facts
  (of_decide_eq_true (by kernel_rfl)) (by unfold Func.isWrapper; first | (rw [if_pos (by decide +kernel)]; kernel_rfl) | (rw [if_neg (by decide +kernel)]; exact ⟨rfl,rfl⟩))
  (fun os started H enc _ F=>lifted os started H enc F)
end viewBack
end Go.Proofs.YtjkfknafpgfchaaGreat
