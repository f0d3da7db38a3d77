/- ViewDiffs's row: whether any views, any deltas may be, are the same, what makes one of the other one, what is made by a delta, are the document's; all stays; of bulk at most 1048576 together. -/
import Derived.Test.YtllbjfmiilckiaaGreatCx
import Derived.Test.YtllbjfmiilckiaaGreatRdv
import Derived.Test.YtllbjfmiilckiaaGreatLay
import Derived.Test.YtllbjfmiilckiaaGreatLax
import Derived.Test.YtllbjfmiilckiaaGreatFacts3
import Derived.Carry
set_option linter.unusedVariables false
set_option maxRecDepth 100000
namespace Go.Proofs.YtllbjfmiilckiaaGreat
open Go.ChangeShapes Go.WideShapes Go.ChangeAt Go.RowKit
def uN:Rh:=⟨λ_=>0,λ_=>False,λ_=>False,λ_=>False,λ_=>False⟩
theorem Ku (w:World):Rel w.heap.size uN ⟨[],0⟩ w where
 dom i h:=h.elim
 ln i h:=h.elim
 live i hi:=by simp at hi
 lo i h:=h.elim
 base:=br _
 inj i j _ h:=h.elim
 mem i hi:=by simp at hi
 xB b h:=h.elim
 gB b h:=h.elim
theorem st0 {w:World}{b:Nat}:St uN w b↔b<w.heap.size:=⟨λh=>h.1,λh=>⟨h,λi=>⟨λhi=>hi.elim,λhx=>hx⟩⟩⟩
theorem DL.vrs {w:World}:∀ {ds:List D} {cs:List Value},DL (·<w.heap.size) w ds cs->VRs uN (St uN w) w (ds.map .d) cs/\∀ u∈cs,u.oneCell'=true
 | [],cs,h=>by simp only [DL] at h; subst h; exact ⟨by simp only [List.map_nil,VRs],by simp⟩
 | d::ds,cs,h=>by
  simp only [DL] at h;obtain ⟨u,us,rfl,h1,h2⟩:=h;have ih:=DL.vrs h2;refine ⟨by simp only [ct,VRs]; exact ⟨u,us,rfl,by simp only [VR]; exact DR.mono (λb hb=>st0.2 hb) (λ_ _=>rfl) h1,ih.1⟩,?_⟩;intro x hx;obtain rfl | hx:=List.mem_cons.1 hx
  . exact h1.one
  . exact ih.2 x hx
theorem Ie {w:World}{ds:List D}{cs:Array Value}(h:DL (·<w.heap.size) w ds cs.toList):VR uN (St uN w) w (ag ds) (.agg cs):=by
 simp only [ag,VR];exact ⟨cs,rfl,h.vrs.1,h.vrs.2⟩
theorem bo6 {w:World}{d:D}{v:Value}(h:DL (·<w.heap.size) w [d] [v]):VR uN (St uN w) w (.d d) v:=by
 have:=h.vrs.1;simp only [ct,List.map_nil,VRs] at this;obtain ⟨u,us,e,h1,_⟩:=this;simp at e;rw [e.1]; exact h1
theorem own:ownKnob Tryz.prog.godebug=none:=by kernel_rfl
theorem mixed:Tryz.prog.follows .mixedOrders=true:=Checked.mixed Tryz.checked
theorem Fg:aQ Tryz.prog (known 6 true):=Gg mixed (Tab.look_ok KO) Gw (by kernel_rfl) Dj
theorem DK {E:Calls'}(hE:aQ Tryz.prog E){T:FuncId->Option QF}{val:FuncId->Bool}(hT:jy Tryz.prog T){f:FuncId}{args:List V}{W:World}{vs:Array Value}(hv:VRs uN (St uN W) W args vs.toList)(hs:Sm E T val f args ⟨[],0⟩=some (bl true,⟨[],0⟩)) :
 Calls Tryz.prog f vs W λe W'=>e=.returned (.bool true)/\Below W.heap.size W W':=by
 obtain ⟨_,_,h3⟩:=ed (val:=val) mixed hE hT f args ⟨[],0⟩ _ _ hs;refine (h3 W.heap.size uN W vs (Ku W) hv).mono λe W' ⟨v,ρ',k1,k2,k3,k4⟩=>?_;refine ⟨?_,k3.below⟩;rw [k1];simp only [VRx,VR,DR] at k4;simp [k4]
theorem Jf:aQ Tryz.prog (λ_ _ _=>none):=λf args h r h' hm=>by cases hm
theorem KP:jy Tryz.prog TP:=di (oks (by kernel_rfl) (by decide +kernel))
theorem BH (vs:Array Value)(w:World):(callFunc 345 vs).run Tryz.prog w=.ok (.enter 345 vs) w :=
 bJ Tryz.func345 rfl (by decide) vs w
theorem Qf:aQ Tryz.prog E1:=by
 intro f args h r h' hm;simp only [E1] at hm;split at hm
 . rename_i hf;have hf':f=345:=Nat.eq_of_beq_eq_true hf;subst hf';exact ⟨BH,Ey hm,λB ρ w vs hR hv=>Hq I8 hR hv hm⟩
 . exact ed mixed Jf yf f args h r h' hm
theorem H5:jy Tryz.prog TVq:=di (oks (by kernel_rfl) (by decide +kernel))
theorem KQ:jy Tryz.prog TX:=di (oks (by kernel_rfl) (by decide +kernel))
theorem qc:jy Tryz.prog TI:=di (oks (by kernel_rfl) (by decide +kernel))
theorem qd:jy Tryz.prog TZy:=di (oks (by kernel_rfl) (by decide +kernel))
theorem HZ:jy Tryz.prog TSw:=di (oks (by kernel_rfl) (by decide +kernel))
theorem uV:jy Tryz.prog TDp:=di (oks (by kernel_rfl) (by decide +kernel))
theorem Af:jy Tryz.prog TDq:=di (oks (by kernel_rfl) (by decide +kernel))
theorem HY:jy Tryz.prog TSv:=di (oks (by kernel_rfl) (by decide +kernel))
theorem Hw:jy Tryz.prog TDi:=di (oks (by kernel_rfl) (by decide +kernel))
theorem Hu:jy Tryz.prog TDd:=di (oks (by kernel_rfl) (by decide +kernel))
theorem Hz:jy Tryz.prog TDs:=di (oks (by kernel_rfl) (by decide +kernel))
theorem Hy:jy Tryz.prog TDo:=di (oks (by kernel_rfl) (by decide +kernel))
theorem HV:jy Tryz.prog TL8:=di (oks (by kernel_rfl) (by decide +kernel))
theorem uz:aQ Tryz.prog noE:=λf args h r h' hm=>by cases hm
theorem qi:aQ Tryz.prog ET0:=λf args h r h' hm=>ed mixed uz yf f args h r h' hm
theorem Qi:aQ Tryz.prog Et:=by
 intro f args h r h' hm;simp only [Et] at hm;split at hm
 . exact ed mixed Qf KP f args h r h' hm
 . cases hm
theorem qj:aQ Tryz.prog ET5:=λf args h r h' hm=>ed mixed Qi yf f args h r h' hm
theorem wI:aQ Tryz.prog (EX1 ET5):=λf args h r h' hm=>ed mixed qj KQ f args h r h' hm
theorem ED {args:List V}{h:Hp}{r:V}{h':Hp}(hm:qU zU 147 args h=some (r,h')) :
 (∀ vs w,(callFunc 147 vs).run Tryz.prog w=.ok (.enter 147 vs) w)/\LowOk h h'/\∀ B ρ w (vs:Array Value),Rel B ρ h w->VRs ρ (St ρ w) w args vs.toList->Calls Tryz.prog 147 vs w (jR B ρ h w r h'):=by
 unfold qU at hm;split at hm
 . exact ⟨λvs w=>bJ Tryz.func147 rfl (by decide) vs w,lv hm,λB ρ w vs hR hv=>mU zU Kz Tryz.isAgg58 Tryz.sizeOf58 (λvs w=>bJ Tryz.func148 rfl (by decide) vs w) (by decide) IM hR hv hm⟩
 . exact ed mixed qi qd 147 args h r h' hm
theorem EF {args:List V}{h:Hp}{r:V}{h':Hp}(hm:qU zW 152 args h=some (r,h')) :
 (∀ vs w,(callFunc 152 vs).run Tryz.prog w=.ok (.enter 152 vs) w)/\LowOk h h'/\∀ B ρ w (vs:Array Value),Rel B ρ h w->VRs ρ (St ρ w) w args vs.toList->Calls Tryz.prog 152 vs w (jR B ρ h w r h'):=by
 unfold qU at hm;split at hm
 . exact ⟨λvs w=>bJ Tryz.func152 rfl (by decide) vs w,lv hm,λB ρ w vs hR hv=>mU zW KA Tryz.isAgg60 Tryz.sizeOf60 (λvs w=>bJ Tryz.func153 rfl (by decide) vs w) (by decide) IP hR hv hm⟩
 . exact ed mixed qi qd 152 args h r h' hm
theorem EG {args:List V}{h:Hp}{r:V}{h':Hp}(hm:qU zX 156 args h=some (r,h')) :
 (∀ vs w,(callFunc 156 vs).run Tryz.prog w=.ok (.enter 156 vs) w)/\LowOk h h'/\∀ B ρ w (vs:Array Value),Rel B ρ h w->VRs ρ (St ρ w) w args vs.toList->Calls Tryz.prog 156 vs w (jR B ρ h w r h'):=by
 unfold qU at hm;split at hm
 . exact ⟨λvs w=>bJ Tryz.func156 rfl (by decide) vs w,lv hm,λB ρ w vs hR hv=>mU zX KC Tryz.isAgg62 Tryz.sizeOf62 (λvs w=>bJ Tryz.func157 rfl (by decide) vs w) (by decide) IQ hR hv hm⟩
 . exact ed mixed qi qd 156 args h r h' hm
theorem EE {args:List V}{h:Hp}{r:V}{h':Hp}(hm:qU zV 160 args h=some (r,h')) :
 (∀ vs w,(callFunc 160 vs).run Tryz.prog w=.ok (.enter 160 vs) w)/\LowOk h h'/\∀ B ρ w (vs:Array Value),Rel B ρ h w->VRs ρ (St ρ w) w args vs.toList->Calls Tryz.prog 160 vs w (jR B ρ h w r h'):=by
 unfold qU at hm;split at hm
 . exact ⟨λvs w=>bJ Tryz.func160 rfl (by decide) vs w,lv hm,λB ρ w vs hR hv=>mU zV KD Tryz.isAgg71 Tryz.sizeOf71 (λvs w=>bJ Tryz.func161 rfl (by decide) vs w) (by decide) IR hR hv hm⟩
 . exact ed mixed qi qd 160 args h r h' hm
theorem LX:aQ Tryz.prog ES8:=by
 intro f args h r h' hm;simp only [ES8] at hm;split at hm
 . exact ed mixed qj qc f args h r h' hm
 . split at hm
   . have hf':f=147:=Nat.eq_of_beq_eq_true (by assumption);subst hf';exact ED hm
   . have hf':f=152:=Nat.eq_of_beq_eq_true (by assumption);subst hf';exact EF hm
   . have hf':f=156:=Nat.eq_of_beq_eq_true (by assumption);subst hf';exact EG hm
   . have hf':f=160:=Nat.eq_of_beq_eq_true (by assumption);subst hf';exact EE hm
   . exact qi f args h r h' hm
theorem LU:aQ Tryz.prog EF8:=by
 intro f args h r h' hm;simp only [EF8] at hm;split at hm
 . exact ed mixed qj qc f args h r h' hm
 . exact qi f args h r h' hm
theorem Ap:aQ Tryz.prog EP8:=by
 intro f args h r h' hm;simp only [EP8] at hm;split at hm
 . exact ed mixed uz qc f args h r h' hm
 . exact wI f args h r h' hm
theorem ES:aQ Tryz.prog EQ8:=by
 intro f args h r h' hm;simp only [EQ8] at hm;split at hm
 . exact ed mixed wI H5 f args h r h' hm
 . exact wI f args h r h' hm
theorem LV:aQ Tryz.prog EG8:=by
 intro f args h r h' hm;simp only [EG8] at hm;split at hm
 . exact ed mixed Ap uV f args h r h' hm
 . exact wI f args h r h' hm
 . exact qj f args h r h' hm
theorem LW:aQ Tryz.prog EH8:=by
 intro f args h r h' hm;simp only [EH8] at hm;split at hm
 . exact ed mixed uz qc f args h r h' hm
 . exact ed mixed ES Af f args h r h' hm
 . exact ed mixed Ap uV f args h r h' hm
theorem Qg:aQ Tryz.prog E8:=by
 intro f args h r h' hm;simp only [E8] at hm;split at hm
 . exact Fg f args h r h' hm
 . exact ed mixed uz HY f args h r h' hm
 . exact ed mixed LU Hw f args h r h' hm
 . exact ed mixed LV Hu f args h r h' hm
 . split at hm
   . exact ed mixed LW Hz f args h r h' hm
   . exact ed mixed uz Hy f args h r h' hm
   . exact ed mixed LX HZ f args h r h' hm
   . exact ed mixed ES Af f args h r h' hm
   . split at hm
     . exact ed mixed Ap uV f args h r h' hm
     . exact ed mixed qj qc f args h r h' hm
     . exact qj f args h r h' hm
def Ai (B:Nat)(n:Int):Prop:=Inr .u64 n
def Dlt.wf (B:Nat)(c:Dlt):Prop:=Inr .u64 c.epoch/\c.covers.wf B H7/\c.pods.wf B Pod.wf/\c.services.wf B Svc.wf/\c.bound.wf B Way.wf/\c.policies.wf B Pol.wf/\c.gonePods.wf B Ai/\c.goneServices.wf B Ai/\c.goneBound.wf B Ai/\c.gonePolicies.wf B Ai
theorem Dlt.wf.ok {B:Nat}{c:Dlt}(h:c.wf B)(hB:B<=big):c.ok:=by
 obtain ⟨h0,h1,h2,h3,h4,h5,h6,h7,h8,h9⟩:=h;exact ⟨Vw.wf.ok (c:=c.vw) ⟨h0,h1,h2,h3,h4,h5⟩ hB,h6.1.le hB,h7.1.le hB,h8.1.le hB,h9.1.le hB⟩
theorem Vw.wf.whole {v:Vw}(h:v.wf 1048576):WV v:=⟨Vw.wf.ok h (by decide),λq hq=>Pol.wf.le (by decide) (h.2.2.2.2.2.2 q hq)⟩
theorem Dlt.wf.whole {p:Dlt}(h:p.wf 1048576):WD p:=⟨Dlt.wf.ok h (by decide),λq hq=>Pol.wf.le (by decide) (h.2.2.2.2.2.1.2 q hq),ch h.2.2.1.1.1 (by decide),ch h.2.2.2.1.1.1 (by decide),ch h.2.2.2.2.1.1.1 (by decide),ch h.2.2.2.2.2.1.1.1 (by decide)⟩
section
variable {H:Type}{enc:TypeId×Value->H}{w:World}{spare:Nat->Bool}{held:Bool}{B:Nat}
theorem sM:Rd enc w spare held B 30 (λs=>[Sl.d ak s]) (λB s=>Sl.wf B Ai s) :=
 eu (z:=1) Tryz.underlying30 (by kernel_rfl) (by decide) (λ_=>rfl) (cB Tryz.underlying22)
theorem O8:Rd enc w spare held B 32 Dlt.c Dlt.wf:=by
 intro fuel cs y h hB;obtain ⟨xs,n,rfl,rfl,hl,hx,hf⟩:=DataW.trod_struct Tryz.underlying32 h;have hl:cs.length=10:=hl.trans (by kernel_rfl);have hx:xs.length=10:=hx;obtain ⟨x0,k0,o0⟩:=aH hf hB (cB (t:=22) Tryz.underlying22) 0 0 1 rfl (by kernel_rfl) (by omega);obtain ⟨x1,k1,o1⟩:=aH hf hB (CJ) 1 1 1 rfl (by kernel_rfl) (by omega);obtain ⟨x2,k2,o2⟩:=aH hf hB (xH) 2 2 1 rfl (by kernel_rfl) (by omega);obtain ⟨x3,k3,o3⟩:=aH hf hB (xJ) 3 3 1 rfl (by kernel_rfl) (by omega);obtain ⟨x4,k4,o4⟩:=aH hf hB (xK) 4 4 1 rfl (by kernel_rfl) (by omega);obtain ⟨x5,k5,o5⟩:=aH hf hB (xI) 5 5 1 rfl (by kernel_rfl) (by omega);obtain ⟨x6,k6,o6⟩:=aH hf hB (sM) 6 6 1 rfl (by kernel_rfl) (by omega);obtain ⟨x7,k7,o7⟩:=aH hf hB (sM) 7 7 1 rfl (by kernel_rfl) (by omega);obtain ⟨x8,k8,o8⟩:=aH hf hB (sM) 8 8 1 rfl (by kernel_rfl) (by omega);obtain ⟨x9,k9,o9⟩:=aH hf hB (sM) 9 9 1 rfl (by kernel_rfl) (by omega);refine ⟨⟨x0,x1,x2,x3,x4,x5,x6,x7,x8,x9⟩,?_,⟨o0,o1,o2,o3,o4,o5,o6,o7,o8,o9⟩⟩;show DL _ _ ([u64 x0]++([Sl.d bP x1]++([Sl.d Pod.c x2]++([Sl.d Svc.c x3]++([Sl.d Way.c x4]++([Sl.d Pol.c x5]++([Sl.d ak x6]++([Sl.d ak x7]++([Sl.d ak x8]++([Sl.d ak x9]++([]))))))))))) cs;have a10:DL (·<w.heap.size) w [] (cs.drop 10):=DL.nil (by omega);have a9:=DL.app (cs:=cs.drop 9) (n:=1) rfl k9 (by rw [bh]; exact a10)
 have a8:=DL.app (cs:=cs.drop 8) (n:=1) rfl k8 (by rw [bh]; exact a9);have a7:=DL.app (cs:=cs.drop 7) (n:=1) rfl k7 (by rw [bh]; exact a8);have a6:=DL.app (cs:=cs.drop 6) (n:=1) rfl k6 (by rw [bh]; exact a7);have a5:=DL.app (cs:=cs.drop 5) (n:=1) rfl k5 (by rw [bh]; exact a6);have a4:=DL.app (cs:=cs.drop 4) (n:=1) rfl k4 (by rw [bh]; exact a5);have a3:=DL.app (cs:=cs.drop 3) (n:=1) rfl k3 (by rw [bh]; exact a4);have a2:=DL.app (cs:=cs.drop 2) (n:=1) rfl k2 (by rw [bh]; exact a3);have a1:=DL.app (cs:=cs.drop 1) (n:=1) rfl k1 (by rw [bh]; exact a2);have a0:=DL.app (cs:=cs.drop 0) (n:=1) rfl k0 (by rw [bh]; exact a1);simpa using a0
end
namespace viewDiffs
theorem Dp {W:World}{a b:Vw}{d:Dlt}(ha:a.wf 1048576)(hb:b.wf 1048576)(hd:d.wf 1048576){ca cb cd:Array Value}(h0:DL (·<W.heap.size) W a.c ca.toList)(h1:DL (·<W.heap.size) W b.c cb.toList)(h2:DL (·<W.heap.size) W d.c cd.toList) :
 Calls Tryz.prog 3 #[.agg ca,.agg cb,.agg cd] W λe W'=>e=.returned (.bool true)/\Below W.heap.size W W':=by
 refine DK (E:=E8) Qg HV (val:=Aj) (args:=[a.v,b.v,d.v]) ?_ (R8 ha.whole hb.whole hd.whole ⟨[],0⟩);simp only [VRs];exact ⟨_,_,rfl,Ie h0,_,_,rfl,Ie h1,_,_,rfl,Ie h2,rfl⟩
theorem lifted (os:Os)(started:os.Started)(H:Type)(enc:TypeId×Value->H)(F:Stop.Interp) :
 ReturnsInHanded {} Tryz.checked os 3 .any ((Go.Proofs.YtllbjfmiilckiaaGreat.Rows.OpenSpec.upto Go.Proofs.YtllbjfmiilckiaaGreat.Rows.viewDiffsSpec).pre6 enc Tryz.prog Tryz.f3 Go.Proofs.YtllbjfmiilckiaaGreat.Rows.viewDiffsUptoRow.domain false) (((Go.Proofs.YtllbjfmiilckiaaGreat.Rows.OpenSpec.upto Go.Proofs.YtllbjfmiilckiaaGreat.Rows.viewDiffsSpec).at F).post enc Tryz.prog Tryz.f3 false true false false):=by
 refine returnsInHanded_of_cond (C:=Tryz.checked) (s:=Go.Proofs.YtllbjfmiilckiaaGreat.Rows.OpenSpec.upto Go.Proofs.YtllbjfmiilckiaaGreat.Rows.viewDiffsSpec) (k:=Go.Proofs.YtllbjfmiilckiaaGreat.Rows.uptoSmall) rfl own started (by kernel_rfl) Tryz.func3
  (OpenSpec.witness (enc:=enc) (C:=Tryz.checked) (s:=Go.Proofs.YtllbjfmiilckiaaGreat.Rows.OpenSpec.upto Go.Proofs.YtllbjfmiilckiaaGreat.Rows.viewDiffsSpec) (k:=Go.Proofs.YtllbjfmiilckiaaGreat.Rows.uptoSmall) rfl false ⟨#[],#[.agg #[.int .u64 0,.slice none 0 0,.slice none 0 0,.slice none 0 0,.slice none 0 0,.slice none 0 0],.agg #[.int .u64 0,.slice none 0 0,.slice none 0 0,.slice none 0 0,.slice none 0 0,.slice none 0 0],.agg #[.int .u64 0,.slice none 0 0,.slice none 0 0,.slice none 0 0,.slice none 0 0,.slice none 0 0,.slice none 0 0,.slice none 0 0,.slice none 0 0,.slice none 0 0]],[]⟩ 8
   (by kernel_rfl) (by kernel_rfl) (by kernel_rfl) (x:=([.agg [.lit (.int .u64 0),.nil,.nil,.nil,.nil,.nil],.agg [.lit (.int .u64 0),.nil,.nil,.nil,.nil,.nil],.agg [.lit (.int .u64 0),.nil,.nil,.nil,.nil,.nil,.nil,.nil,.nil,.nil]],[],[])) (by kernel_rfl) rfl (by rfl)) ?_
 intro W base args ds gs before hval0 hW hcnd hkk _;have hval:∀ (j:Nat) t v,Tryz.f3.params[j]?=some t->args[j]?=some v->Value.okWide Tryz.prog W .any base t v:=hval0;have hW':=hW;obtain ⟨p,q,hA0,hV,rfl,hfz,hnd⟩:=hW;have hA:DataW.TrodAll enc Tryz.prog W 0 (λ_=>true) true Tryz.f3.params.toList args.toList ds p:=hA0;rw [Tryz.params3] at hA hval;obtain ⟨v0,vs1,d0,ds1,p0,q1,ha1,rfl,rfl,h0,hA⟩:=trodAll_cons hA;obtain ⟨v1,vs2,d1,ds2,p1,q2,rfl,rfl,rfl,h1,hA⟩:=trodAll_cons hA;obtain ⟨v2,vs3,d2,ds3,p2,q3,rfl,rfl,rfl,h2,hA⟩:=trodAll_cons hA;obtain ⟨rfl,rfl,rfl⟩:=trodAll_nil hA;have hargs:args=#[v0,v1,v2]:=by apply Array.ext'; simpa using ha1
 subst hargs;obtain ⟨rfl,rfl⟩:=trodVars_none hV;have hsm:bulks [d0,d1,d2]<=1048576:=by simpa [Go.Proofs.YtllbjfmiilckiaaGreat.Rows.uptoSmall] using hkk
 obtain ⟨ca,rfl,hca⟩:=okWide_struct Tryz.underlying29 (hval 0 29 v0 rfl rfl);obtain ⟨cb,rfl,hcb⟩:=okWide_struct Tryz.underlying29 (hval 1 29 v1 rfl rfl);obtain ⟨cc,rfl,hcc⟩:=okWide_struct Tryz.underlying32 (hval 2 32 v2 rfl rfl);have hlt0:∀ x∈p0,x.block<W.heap.size:=λx hx=>hW'.lt x (by simp [hx]);have hlt1:∀ x∈p1,x.block<W.heap.size:=λx hx=>hW'.lt x (by simp [hx]);have hlt2:∀ x∈p2,x.block<W.heap.size:=λx hx=>hW'.lt x (by simp [hx]);have h0':=h0;have h1':=h1;have h2':=h2;obtain ⟨f0,g0⟩:=h0;obtain ⟨f1,g1⟩:=h1;obtain ⟨f2,g2⟩:=h2;obtain ⟨a,a1,a2⟩:=Ll (B:=1048576) _ _ _ g0 (cj (kw (by simp)) hsm);obtain ⟨b,b1,b2⟩:=Ll (B:=1048576) _ _ _ g1 (cj (kw (by simp)) hsm);obtain ⟨d,c1,c2⟩:=O8 (B:=1048576) _ _ _ g2 (cj (kw (by simp)) hsm);refine (Dp a2 b2 c2 a1 b1 c1).mono λe W' ⟨he,hb⟩=>?_;subst he;have k0:=Below.trod laidOut (by kernel_rfl) (of_decide_eq_true (by kernel_rfl)) h0' hb hlt0;have k1:=Below.trod laidOut (by kernel_rfl) (of_decide_eq_true (by kernel_rfl)) h1' hb hlt1;have k2:=Below.trod laidOut (by kernel_rfl) (of_decide_eq_true (by kernel_rfl)) h2' hb hlt2;have kA:=trodAll_cons_mk k0 (trodAll_cons_mk k1 (trodAll_mk1 k2));exact ⟨_,rfl,_,_,_,[],_,[],hW',trodAll_mk1 (shut_bool Tryz.underlying4 true),kA,rfl,hb.frame _,λh=>by cases h⟩
theorem proved:Go.Proofs.YtllbjfmiilckiaaGreat.Rows.ViewDiffsUptoSaid :=
 OpenClaim.holds_of_cond 3 Tryz.f3 rfl rfl rfl rfl rfl rfl rfl ⟨rfl,rfl,rfl,rfl,rfl⟩ rfl rfl rfl rfl rfl named Tryz.func3 facts
  (of_decide_eq_true (by kernel_rfl)) (by unfold Func.isWrapper; first | (rw [if_pos (by decide +kernel)]; kernel_rfl) | (rw [if_neg (by decide +kernel)]; exact ⟨rfl,rfl⟩))
  (λos started H enc _ F=>lifted os started H enc F)
end viewDiffs
