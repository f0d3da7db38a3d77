/- ConfigApplies's row: what any edit makes of any configuration is the document's, or the error; both stay; of bulk at most 1048576 together. -/
import Derived.Test.YtmcchclfpneglaaGreatYv
import Derived.Test.YtmcchclfpneglaaGreatCx
import Derived.Test.YtmcchclfpneglaaGreatLay
import Derived.Test.YtmcchclfpneglaaGreatRdx
import Derived.Test.YtmcchclfpneglaaGreatK12
import Derived.Test.YtmcchclfpneglaaGreatFacts5
import Derived.Carry
set_option linter.unusedVariables false
set_option maxRecDepth 100000
namespace Go.Proofs.YtmcchclfpneglaaGreat
open Go.ChangeShapes Go.WideShapes Go.ChangeAt Go.RowKit
def wT:Rh:=⟨fun _=>0,fun _=>False,fun _=>False,fun _=>False,fun _=>False⟩
theorem Mw (w:World):Rel w.heap.size wT ⟨[],0⟩ w where
 dom i h:=h.elim
 ln i h:=h.elim
 live i hi:=by simp at hi
 lo i h:=h.elim
 base:=bp _
 inj i j _ h:=h.elim
 mem i hi:=by simp at hi
 xB b h:=h.elim
 gB b h:=h.elim
theorem st0 {w:World}{b:Nat}:St wT w b↔b<w.heap.size:=⟨fun h=>h.1,fun h=>⟨h,fun i=>⟨fun hi=>hi.elim,fun hx=>hx⟩⟩⟩
theorem DL.vrs {w:World}:∀ {ds:List D} {cs:List Value},DL (·<w.heap.size) w ds cs->VRs wT (St wT w) w (ds.map .d) cs/\∀ u∈cs,u.oneCell'=true
 | [],cs,h=>by simp only [DL] at h; subst h; exact ⟨by simp only [List.map_nil,VRs],by simp⟩
 | d::ds,cs,h=>by
  simp only [DL] at h;obtain ⟨u,us,rfl,h1,h2⟩:=h;have ih:=DL.vrs h2;refine ⟨by simp only [cm,VRs]; exact ⟨u,us,rfl,by simp only [VR]; exact DR.mono (fun b hb=>st0.2 hb) (fun _ _=>rfl) h1,ih.1⟩,?_⟩;intro x hx;rcases List.mem_cons.1 hx with rfl | hx
  · exact h1.one
  · exact ih.2 x hx
theorem Nu {w:World}{ds:List D}{cs:Array Value}(h:DL (·<w.heap.size) w ds cs.toList):VR wT (St wT w) w (ag ds) (.agg cs):=by
 simp only [ag,VR];exact ⟨cs,rfl,h.vrs.1,h.vrs.2⟩
theorem bc6 {w:World}{d:D}{v:Value}(h:DL (·<w.heap.size) w [d] [v]):VR wT (St wT w) w (.d d) v:=by
 have:=h.vrs.1;simp only [cm,List.map_nil,VRs] at this;obtain ⟨u,us,e,h1,_⟩:=this;simp at e;rw [e.1]; exact h1
theorem own:ownKnob Tryz.prog.godebug=none:=by kernel_rfl
theorem mixed:Tryz.prog.follows .mixedOrders=true:=Checked.mixed Tryz.checked
theorem Hg:aQ Tryz.prog (known 6 true):=Iq mixed (Tab.look_ok MN) IK (by kernel_rfl) Fj
theorem FN {E:Calls'}(hE:aQ Tryz.prog E){T:FuncId->Option QF}{val:FuncId->Bool}(hT:mQ Tryz.prog T){f:FuncId}{args:List V}{W:World}{vs:Array Value}(hv:VRs wT (St wT W) W args vs.toList)(hs:Sm E T val f args ⟨[],0⟩=some (bl true,⟨[],0⟩)) :
 Calls Tryz.prog f vs W fun e W'=>e=.returned (.bool true)/\Below W.heap.size W W':=by
 obtain ⟨_,_,h3⟩:=o9 (val:=val) mixed hE hT f args ⟨[],0⟩ _ _ hs;refine (h3 W.heap.size wT W vs (Mw W) hv).mono fun e W' ⟨v,ρ',k1,k2,k3,k4⟩=>?_;refine ⟨?_,k3.below⟩;rw [k1];simp only [VRx,VR,DR] at k4;simp [k4]
theorem KU:aQ Tryz.prog (fun _ _ _=>none):=fun f args h r h' hm=>by cases hm
theorem MO:mQ Tryz.prog TP:=gW (oks (by kernel_rfl) (by decide +kernel))
theorem Dz (vs:Array Value)(w:World):(callFunc 242 vs).run Tryz.prog w=.ok (.enter 242 vs) w :=
 bR Tryz.func242 rfl (by decide) vs w
theorem Re:aQ Tryz.prog E1:=by
 intro f args h r h' hm;simp only [E1] at hm;split at hm
 · rename_i hf;have hf':f=242:=Nat.eq_of_beq_eq_true hf;subst hf';exact ⟨Dz,GA hm,fun B ρ w vs hR hv=>JI KJ hR hv hm⟩
 · exact o9 mixed KU ET f args h r h' hm
theorem MS:mQ Tryz.prog TX:=gW (oks (by kernel_rfl) (by decide +kernel))
theorem MU:mQ Tryz.prog TY:=gW (oks (by kernel_rfl) (by decide +kernel))
theorem MV:mQ Tryz.prog TZ:=gW (oks (by kernel_rfl) (by decide +kernel))
theorem MR:mQ Tryz.prog TV:=gW (oks (by kernel_rfl) (by decide +kernel))
theorem MM:mQ Tryz.prog TG:=gW (oks (by kernel_rfl) (by decide +kernel))
theorem MQ:mQ Tryz.prog TS:=gW (oks (by kernel_rfl) (by decide +kernel))
theorem MP:mQ Tryz.prog TQ:=gW (oks (by kernel_rfl) (by decide +kernel))
theorem OG:aQ Tryz.prog noE:=fun f args h r h' hm=>by cases hm
theorem Rf:aQ Tryz.prog Et:=by
 intro f args h r h' hm;simp only [Et] at hm;split at hm
 · exact o9 mixed Re MO f args h r h' hm
 · cases hm
theorem Ct:aQ Tryz.prog ET5:=fun f args h r h' hm=>o9 mixed Rf ET f args h r h' hm
theorem Cu:aQ Tryz.prog (EX1 ET5):=fun f args h r h' hm=>o9 mixed Ct MS f args h r h' hm
theorem NG:aQ Tryz.prog (EX2 ET5):=fun f args h r h' hm=>o9 mixed Cu MU f args h r h' hm
theorem NE:aQ Tryz.prog EG5:=by
 intro f args h r h' hm;simp only [EG5] at hm;split at hm
 · rename_i hf;have hf':f=147:=Nat.eq_of_beq_eq_true (by assumption);subst hf';exact ⟨fun vs w=>bR Tryz.func147 rfl (by decide) vs w,mJ hm,fun B ρ w vs hR hv=>oU yz MH Tryz.isAgg33 Tryz.sizeOf33 (fun vs w=>bR Tryz.func148 rfl (by decide) vs w) (by decide) Kv hR hv hm⟩
 · rename_i hf;have hf':f=100:=Nat.eq_of_beq_eq_true (by assumption);subst hf';exact ⟨fun vs w=>bR Tryz.func100 rfl (by decide) vs w,mJ hm,fun B ρ w vs hR hv=>oU yB ME Tryz.isAgg35 Tryz.sizeOf35 (fun vs w=>bR Tryz.func101 rfl (by decide) vs w) (by decide) Kr hR hv hm⟩
 · rename_i hf;have hf':f=107:=Nat.eq_of_beq_eq_true (by assumption);subst hf';exact ⟨fun vs w=>bR Tryz.func107 rfl (by decide) vs w,mJ hm,fun B ρ w vs hR hv=>oU yC MF Tryz.isAgg37 Tryz.sizeOf37 (fun vs w=>bR Tryz.func108 rfl (by decide) vs w) (by decide) Kt hR hv hm⟩
 · rename_i hf;have hf':f=112:=Nat.eq_of_beq_eq_true (by assumption);subst hf';exact ⟨fun vs w=>bR Tryz.func112 rfl (by decide) vs w,mJ hm,fun B ρ w vs hR hv=>oU yA MG Tryz.isAgg40 Tryz.sizeOf40 (fun vs w=>bR Tryz.func113 rfl (by decide) vs w) (by decide) Ku hR hv hm⟩
 · exact Ct f args h r h' hm
theorem NF:aQ Tryz.prog EQ5:=by
 intro f args h r h' hm;simp only [EQ5] at hm;split at hm
 · exact Hg f args h r h' hm
 · exact o9 mixed Cu MR f args h r h' hm
 · exact Cu f args h r h' hm
 · exact o9 mixed NE MM f args h r h' hm
 · exact o9 mixed NG MV f args h r h' hm
 · exact o9 mixed OG MQ f args h r h' hm
 · exact Ct f args h r h' hm
theorem Edt.wf.le {B B':Nat}(hB:B<=B'){x:Edt}(h:x.wf B):x.wf B':=⟨h.1,h.2.1,Pod.wf.le hB h.2.2.1,Svc.wf.le hB h.2.2.2.1,Way.wf.le h.2.2.2.2.1,Pol.wf.le hB h.2.2.2.2.2⟩
namespace configApplies
theorem Am {W:World}{c:Cfg}{x:Edt}(hc:c.wf 1048576)(hx:x.wf 1048576){cs es:Array Value}(h0:DL (·<W.heap.size) W c.c cs.toList)(h1:DL (·<W.heap.size) W x.c es.toList) :
 Calls Tryz.prog 3 #[.agg cs,.agg es] W fun e W'=>e=.returned (.bool true)/\Below W.heap.size W W':=by
 refine FN (E:=EQ5) NF MP (val:=valQ) (args:=[c.v,ag x.c]) ?_ (S5 c hc (Cfg.wf.le (by decide) hc) x hx (Edt.wf.le (by decide) hx) ⟨[],0⟩);simp only [VRs];exact ⟨_,_,rfl,Nu h0,_,_,rfl,Nu h1,rfl⟩
theorem lifted (os:Os)(started:os.Started)(H:Type)(enc:TypeId×Value->H)(F:Stop.Interp) :
 ReturnsInHanded {} Tryz.checked os 3 .any ((Go.Proofs.YtmcchclfpneglaaGreat.Rows.OpenSpec.upto Go.Proofs.YtmcchclfpneglaaGreat.Rows.configAppliesSpec).pre6 enc Tryz.prog Tryz.f3 Go.Proofs.YtmcchclfpneglaaGreat.Rows.configAppliesUptoRow.domain false) (((Go.Proofs.YtmcchclfpneglaaGreat.Rows.OpenSpec.upto Go.Proofs.YtmcchclfpneglaaGreat.Rows.configAppliesSpec).at F).post enc Tryz.prog Tryz.f3 false true false false):=by
 refine returnsInHanded_of_cond (C:=Tryz.checked) (s:=Go.Proofs.YtmcchclfpneglaaGreat.Rows.OpenSpec.upto Go.Proofs.YtmcchclfpneglaaGreat.Rows.configAppliesSpec) (k:=Go.Proofs.YtmcchclfpneglaaGreat.Rows.uptoSmall) rfl own started (by kernel_rfl) Tryz.func3
  (OpenSpec.witness (enc:=enc) (C:=Tryz.checked) (s:=Go.Proofs.YtmcchclfpneglaaGreat.Rows.OpenSpec.upto Go.Proofs.YtmcchclfpneglaaGreat.Rows.configAppliesSpec) (k:=Go.Proofs.YtmcchclfpneglaaGreat.Rows.uptoSmall) rfl false ⟨#[],#[.agg #[.int .u64 0,.int .u64 0,.int .i64 0,.int .i64 0,.slice none 0 0,.slice none 0 0,.slice none 0 0,.slice none 0 0],.agg #[.int .i64 0,.int .u64 0,.int .u64 0,.string ⟨#[]⟩,.string ⟨#[]⟩,.int .i64 0,.int .u32 0,.int .i64 0,.int .u64 0,.int .u64 0,.string ⟨#[]⟩,.int .u32 0,.int .i64 0,.int .u64 0,.int .u64 0,.int .i64 0,.int .u64 0,.string ⟨#[]⟩,.int .u64 0,.int .i64 0,.slice none 0 0]],[]⟩ 8
   (by kernel_rfl) (by kernel_rfl) (by kernel_rfl) (x:=([.agg [.lit (.int .u64 0),.lit (.int .u64 0),.lit (.int .i64 0),.lit (.int .i64 0),.nil,.nil,.nil,.nil],.agg [.lit (.int .i64 0),.lit (.int .u64 0),.agg [.lit (.int .u64 0),.agg [.lit (.string []),.lit (.string [])],.lit (.int .i64 0),.lit (.int .u32 0),.lit (.int .i64 0),.lit (.int .u64 0)],.agg [.lit (.int .u64 0),.lit (.string []),.lit (.int .u32 0),.lit (.int .i64 0),.lit (.int .u64 0)],.agg [.lit (.int .u64 0),.lit (.int .i64 0)],.agg [.lit (.int .u64 0),.lit (.string []),.lit (.int .u64 0),.lit (.int .i64 0),.nil]]],[],[])) (by kernel_rfl) rfl (by rfl)) ?_
 intro W base args ds gs before hval0 hW hcnd hkk _;have hval:∀ (j:Nat) t v,Tryz.f3.params[j]?=some t->args[j]?=some v->Value.okWide Tryz.prog W .any base t v:=hval0;have hW':=hW;obtain ⟨p,q,hA0,hV,rfl,hfz,hnd⟩:=hW;have hA:DataW.TrodAll enc Tryz.prog W 0 (fun _=>true) true Tryz.f3.params.toList args.toList ds p:=hA0;rw [Tryz.params3] at hA hval;obtain ⟨v0,vs1,d0,ds1,p0,q1,ha1,rfl,rfl,h0,hA⟩:=trodAll_cons hA;obtain ⟨v1,vs2,d1,ds2,p1,q2,rfl,rfl,rfl,h1,hA⟩:=trodAll_cons hA;obtain ⟨rfl,rfl,rfl⟩:=trodAll_nil hA;have hargs:args=#[v0,v1]:=by apply Array.ext'; simpa using ha1
 subst hargs;obtain ⟨rfl,rfl⟩:=trodVars_none hV;have hsm:bulks [d0,d1]<=1048576:=by simpa [Go.Proofs.YtmcchclfpneglaaGreat.Rows.uptoSmall] using hkk
 obtain ⟨cs,rfl,hcs⟩:=okWide_struct Tryz.underlying28 (hval 0 28 v0 rfl rfl);obtain ⟨es,rfl,hes⟩:=okWide_struct Tryz.underlying42 (hval 1 42 v1 rfl rfl);have hlt0:∀ x∈p0,x.block<W.heap.size:=fun x hx=>hW'.lt x (by simp [hx]);have hlt1:∀ x∈p1,x.block<W.heap.size:=fun x hx=>hW'.lt x (by simp [hx]);have h0':=h0;have h1':=h1;obtain ⟨f0,g0⟩:=h0;obtain ⟨f1,g1⟩:=h1;obtain ⟨c,hc1,hc2⟩:=Qp (B:=1048576) _ _ _ g0 (ce (mW (by simp)) hsm);obtain ⟨x,hx1,hx2⟩:=Qq (B:=1048576) _ _ _ g1 (ce (mW (by simp)) hsm);refine (Am hc2 hx2 hc1 hx1).mono fun e W' ⟨he,hb⟩=>?_;subst he;have k0:=Below.trod laidOut (by kernel_rfl) (of_decide_eq_true (by kernel_rfl)) h0' hb hlt0;have k1:=Below.trod laidOut (by kernel_rfl) (of_decide_eq_true (by kernel_rfl)) h1' hb hlt1;have kA:=trodAll_cons_mk k0 (trodAll_mk1 k1);exact ⟨_,rfl,_,_,_,[],_,[],hW',trodAll_mk1 (shut_bool Tryz.underlying4 true),kA,rfl,hb.frame _,fun h=>by cases h⟩
theorem proved:Go.Proofs.YtmcchclfpneglaaGreat.Rows.ConfigAppliesUptoSaid :=
 OpenClaim.holds_of_cond 3 Tryz.f3 rfl rfl rfl rfl rfl rfl rfl ⟨rfl,rfl,rfl,rfl,rfl⟩ rfl rfl rfl rfl rfl named Tryz.func3 facts
  (of_decide_eq_true (by kernel_rfl)) (by unfold Func.isWrapper; first | (rw [if_pos (by decide +kernel)]; kernel_rfl) | (rw [if_neg (by decide +kernel)]; exact ⟨rfl,rfl⟩))
  (fun os started H enc _ F=>lifted os started H enc F)
end configApplies
