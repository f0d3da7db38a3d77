/- ViewOf's row: the view of any configuration and any scope is the document's, or there is none; both stay, whatever is written over the view; of bulk at most 1048576 together. -/
import Derived.Test.YtinmplbccmfheaaGreatYt0
import Derived.Test.YtinmplbccmfheaaGreatRdv
import Derived.Test.YtinmplbccmfheaaGreatLay
import Derived.Test.YtinmplbccmfheaaGreatFacts11
import Derived.Carry
set_option linter.unusedVariables false
set_option maxRecDepth 100000
namespace Go.Proofs.YtinmplbccmfheaaGreat
open Go.ChangeShapes Go.WideShapes Go.ChangeAt Go.RowKit
def yo:Rh:=⟨λ_=>0,λ_=>False,λ_=>False,λ_=>False,λ_=>False⟩
theorem OV (w:World):Rel w.heap.size yo ⟨[],0⟩ w where
 dom i h:=h.elim
 ln i h:=h.elim
 live i hi:=by simp at hi
 lo i h:=h.elim
 base:=br _
 inj i j _ h:=h.elim
 mem i hi:=by simp at hi
 xB b h:=h.elim
 gB b h:=h.elim
theorem st0 {w:World}{b:Nat}:St yo w b↔b<w.heap.size:=⟨λh=>h.1,λh=>⟨h,λi=>⟨λhi=>hi.elim,λhx=>hx⟩⟩⟩
theorem DL.vrs {w:World}:∀ {ds:List D} {cs:List Value},DL (·<w.heap.size) w ds cs->VRs yo (St yo w) w (ds.map .d) cs/\∀ u∈cs,u.oneCell'=true
 | [],cs,h=>by simp only [DL] at h; subst h; exact ⟨by simp only [List.map_nil,VRs],by simp⟩
 | d::ds,cs,h=>by
  simp only [DL] at h;obtain ⟨u,us,rfl,h1,h2⟩:=h;have ih:=DL.vrs h2;refine ⟨by simp only [cn,VRs]; exact ⟨u,us,rfl,by simp only [VR]; exact DR.mono (λb hb=>st0.2 hb) (λ_ _=>rfl) h1,ih.1⟩,?_⟩;intro x hx;obtain rfl | hx:=List.mem_cons.1 hx
  . exact h1.one
  . exact ih.2 x hx
theorem Qg {w:World}{ds:List D}{cs:Array Value}(h:DL (·<w.heap.size) w ds cs.toList):VR yo (St yo w) w (ag ds) (.agg cs):=by
 simp only [ag,VR];exact ⟨cs,rfl,h.vrs.1,h.vrs.2⟩
theorem cj4 {w:World}{d:D}{v:Value}(h:DL (·<w.heap.size) w [d] [v]):VR yo (St yo w) w (.d d) v:=by
 have:=h.vrs.1;simp only [cn,List.map_nil,VRs] at this;obtain ⟨u,us,e,h1,_⟩:=this;simp at e;rw [e.1]; exact h1
theorem own:ownKnob Tryz.prog.godebug=none:=by kernel_rfl
theorem mixed:Tryz.prog.follows .mixedOrders=true:=Checked.mixed Tryz.checked
theorem I1:aR Tryz.prog (known 5 true):=JN mixed (Tab.look_ok O9) JX (by kernel_rfl) Gs
theorem GQ {E:Calls'}(hE:aR Tryz.prog E){T:FuncId->Option QF}{val:FuncId->Bool}(hT:mO Tryz.prog T){f:FuncId}{args:List V}{W:World}{vs:Array Value}(hv:VRs yo (St yo W) W args vs.toList)(hs:Sm E T val f args ⟨[],0⟩=some (bl true,⟨[],0⟩)) :
 Calls Tryz.prog f vs W λe W'=>e=.returned (.bool true)/\Below W.heap.size W W':=by
 obtain ⟨_,_,h3⟩:=kZ (val:=val) mixed hE hT f args ⟨[],0⟩ _ _ hs;refine (h3 W.heap.size yo W vs (OV W) hv).mono λe W' ⟨v,ρ',k1,k2,k3,k4⟩=>?_;refine ⟨?_,k3.below⟩;rw [k1];simp only [VRx,VR,DR] at k4;simp [k4]
theorem MQ:aR Tryz.prog (λ_ _ _=>none):=λf args h r h' hm=>by cases hm
theorem Pd:mO Tryz.prog TP:=gq (oks (by kernel_rfl) (by decide +kernel))
theorem EF (vs:Array Value)(w:World):(callFunc 280 vs).run Tryz.prog w=.ok (.enter 280 vs) w :=
 oG Tryz.func280 rfl (by decide) vs w
theorem UN:aR Tryz.prog E1:=by
 intro f args h r h' hm;simp only [E1] at hm;split at hm
 . rename_i hf;have hf':f=280:=Nat.eq_of_beq_eq_true hf;subst hf';exact ⟨EF,Ig hm,λB ρ w vs hR hv=>Lb MH hR hv hm⟩
 . exact kZ mixed MQ wW f args h r h' hm
theorem O8:mO Tryz.prog TJ:=gq (oks (by kernel_rfl) (by decide +kernel))
theorem O6:mO Tryz.prog TF:=gq (oks (by kernel_rfl) (by decide +kernel))
theorem O7:mO Tryz.prog TH:=gq (oks (by kernel_rfl) (by decide +kernel))
theorem Ll:mO Tryz.prog TSv:=gq (oks (by kernel_rfl) (by decide +kernel))
theorem Pg:mO Tryz.prog TV:=gq (oks (by kernel_rfl) (by decide +kernel))
theorem Ph:mO Tryz.prog TX:=gq (oks (by kernel_rfl) (by decide +kernel))
theorem Pe:mO Tryz.prog TS:=gq (oks (by kernel_rfl) (by decide +kernel))
theorem Pf:mO Tryz.prog TU:=gq (oks (by kernel_rfl) (by decide +kernel))
theorem Pb:mO Tryz.prog TL:=gq (oks (by kernel_rfl) (by decide +kernel))
theorem Az:aR Tryz.prog noE:=λf args h r h' hm=>by cases hm
theorem UO:aR Tryz.prog Es:=by
 intro f args h r h' hm;simp only [Es] at hm;split at hm
 . exact kZ mixed Az Pb f args h r h' hm
 . exact kZ mixed Az wW f args h r h' hm
theorem UR:aR Tryz.prog Eu:=by
 intro f args h r h' hm;simp only [Eu] at hm;split at hm
 . exact kZ mixed UO Pe f args h r h' hm
 . exact kZ mixed Az wW f args h r h' hm
theorem UQ:aR Tryz.prog Et:=by
 intro f args h r h' hm;simp only [Et] at hm;split at hm
 . exact kZ mixed UN Pd f args h r h' hm
 . cases hm
theorem zX:aR Tryz.prog ET5:=λf args h r h' hm=>kZ mixed UQ wW f args h r h' hm
theorem Dw:aR Tryz.prog (EX1 ET5):=λf args h r h' hm=>kZ mixed zX Ph f args h r h' hm
theorem Qn:aR Tryz.prog EV9:=by
 intro f args h r h' hm;simp only [EV9] at hm;split at hm
 . exact kZ mixed UR Pf f args h r h' hm
 . exact zX f args h r h' hm
theorem Qm:aR Tryz.prog EO9:=by
 intro f args h r h' hm;simp only [EO9] at hm;split at hm
 . exact Dw f args h r h' hm
 . exact zX f args h r h' hm
theorem Ql:aR Tryz.prog E11:=by
 intro f args h r h' hm;simp only [E11] at hm;split at hm
 . exact I1 f args h r h' hm
 . exact kZ mixed Qn O8 f args h r h' hm
 . exact kZ mixed Qm O6 f args h r h' hm
 . exact kZ mixed Az Ll f args h r h' hm
 . exact kZ mixed Dw Pg f args h r h' hm
 . exact Dw f args h r h' hm
 . exact zX f args h r h' hm
theorem TQ {H:Type}{enc:TypeId×Value->H}{w:World}{spare:Nat->Bool}{held:Bool}{B:Nat}:Rd enc w spare held B 31 Scp.c (λB s=>s.addrs.wf B Lr):=by
 intro fuel cs y h hB;obtain ⟨xs,n,rfl,rfl,hl,hx,hf⟩:=DataW.trod_struct Tryz.underlying31 h;have hl:cs.length=2:=hl.trans (by kernel_rfl);have hx:xs.length=2:=hx;obtain ⟨x0,k0,o0⟩:=aO hf hB (eD (t:=3) Tryz.underlying3) 0 0 1 rfl (by kernel_rfl) (by omega);obtain ⟨x1,k1,o1⟩:=aO hf hB (OT) 1 1 1 rfl (by kernel_rfl) (by omega);refine ⟨⟨x0,x1⟩,?_,o1⟩;show DL _ _ ([i64 x0]++([Sl.d aY x1]++[])) cs;have a2:DL (·<w.heap.size) w [] (cs.drop 2):=DL.nil (by omega);have a1:=DL.app (cs:=cs.drop 1) (n:=1) rfl k1 (by rw [bh]; exact a2);have a0:=DL.app (cs:=cs.drop 0) (n:=1) rfl k0 (by rw [bh]; exact a1);simpa using a0
namespace viewOf
theorem Rf {W:World}{c:Cfg}(hc:c.wf 1048576){s:Scp}(hn:s.addrs.wf 1048576 Lr){cs us:Array Value}(h0:DL (·<W.heap.size) W c.c cs.toList)(h1:DL (·<W.heap.size) W s.c us.toList) :
 Calls Tryz.prog 3 #[.agg cs,.agg us] W λe W'=>e=.returned (.bool true)/\Below W.heap.size W W':=by
 refine GQ (E:=E11) Ql O7 (val:=qz) (args:=[c.v,s.v]) ?_ (R11 c hc (Cfg.wf.le (by decide) hc) s (hn.1.le (by decide)) ⟨[],0⟩);simp only [VRs];exact ⟨_,_,rfl,Qg h0,_,_,rfl,Qg h1,rfl⟩
theorem lifted (os:Os)(started:os.Started)(H:Type)(enc:TypeId×Value->H)(F:Stop.Interp) :
 ReturnsInHanded {} Tryz.checked os 3 .any ((Go.Proofs.YtinmplbccmfheaaGreat.Rows.OpenSpec.upto Go.Proofs.YtinmplbccmfheaaGreat.Rows.viewOfSpec).pre6 enc Tryz.prog Tryz.f3 Go.Proofs.YtinmplbccmfheaaGreat.Rows.viewOfUptoRow.domain false) (((Go.Proofs.YtinmplbccmfheaaGreat.Rows.OpenSpec.upto Go.Proofs.YtinmplbccmfheaaGreat.Rows.viewOfSpec).at F).post enc Tryz.prog Tryz.f3 false true false false):=by
 refine returnsInHanded_of_cond (C:=Tryz.checked) (s:=Go.Proofs.YtinmplbccmfheaaGreat.Rows.OpenSpec.upto Go.Proofs.YtinmplbccmfheaaGreat.Rows.viewOfSpec) (k:=Go.Proofs.YtinmplbccmfheaaGreat.Rows.uptoSmall) rfl own started (by kernel_rfl) Tryz.func3
  (OpenSpec.witness (enc:=enc) (C:=Tryz.checked) (s:=Go.Proofs.YtinmplbccmfheaaGreat.Rows.OpenSpec.upto Go.Proofs.YtinmplbccmfheaaGreat.Rows.viewOfSpec) (k:=Go.Proofs.YtinmplbccmfheaaGreat.Rows.uptoSmall) rfl false ⟨#[],#[.agg #[.int .u64 0,.int .u64 0,.int .i64 0,.int .i64 0,.slice none 0 0,.slice none 0 0,.slice none 0 0,.slice none 0 0],.agg #[.int .i64 0,.slice none 0 0]],[]⟩ 8
   (by kernel_rfl) (by kernel_rfl) (by kernel_rfl) (x:=([.agg [.lit (.int .u64 0),.lit (.int .u64 0),.lit (.int .i64 0),.lit (.int .i64 0),.nil,.nil,.nil,.nil],.agg [.lit (.int .i64 0),.nil]],[],[])) (by kernel_rfl) rfl (by rfl)) ?_
 intro W base args ds gs before hval0 hW hcnd hkk _;have hval:∀ (j:Nat) t v,Tryz.f3.params[j]?=some t->args[j]?=some v->Value.okWide Tryz.prog W .any base t v:=hval0;have hW':=hW;obtain ⟨p,q,hA0,hV,rfl,hfz,hnd⟩:=hW;have hA:DataW.TrodAll enc Tryz.prog W 0 (λ_=>true) true Tryz.f3.params.toList args.toList ds p:=hA0;rw [Tryz.params3] at hA hval;obtain ⟨v0,vs1,d0,ds1,p0,q1,ha1,rfl,rfl,h0,hA⟩:=trodAll_cons hA;obtain ⟨v1,vs2,d1,ds2,p1,q2,rfl,rfl,rfl,h1,hA⟩:=trodAll_cons hA;obtain ⟨rfl,rfl,rfl⟩:=trodAll_nil hA;have hargs:args=#[v0,v1]:=by apply Array.ext'; simpa using ha1
 subst hargs;obtain ⟨rfl,rfl⟩:=trodVars_none hV;have hsm:bulks [d0,d1]<=1048576:=by simpa [Go.Proofs.YtinmplbccmfheaaGreat.Rows.uptoSmall] using hkk
 obtain ⟨cs,rfl,hcs⟩:=okWide_struct Tryz.underlying28 (hval 0 28 v0 rfl rfl);obtain ⟨us,rfl,hus⟩:=okWide_struct Tryz.underlying31 (hval 1 31 v1 rfl rfl);have hlt0:∀ x∈p0,x.block<W.heap.size:=λx hx=>hW'.lt x (by simp [hx]);have hlt1:∀ x∈p1,x.block<W.heap.size:=λx hx=>hW'.lt x (by simp [hx]);have h0':=h0;have h1':=h1;obtain ⟨f0,g0⟩:=h0;obtain ⟨f1,g1⟩:=h1;obtain ⟨c,hc1,hc2⟩:=TK (B:=1048576) _ _ _ g0 (cf (oD (by simp)) hsm);obtain ⟨l,hl1,hl2⟩:=TQ (B:=1048576) _ _ _ g1 (cf (oD (by simp)) hsm);refine (Rf hc2 hl2 hc1 hl1).mono λe W' ⟨he,hb⟩=>?_;subst he;have k0:=Below.trod laidOut (by kernel_rfl) (of_decide_eq_true (by kernel_rfl)) h0' hb hlt0;have k1:=Below.trod laidOut (by kernel_rfl) (of_decide_eq_true (by kernel_rfl)) h1' hb hlt1;have kA:=trodAll_cons_mk k0 (trodAll_mk1 k1);exact ⟨_,rfl,_,_,_,[],_,[],hW',trodAll_mk1 (shut_bool Tryz.underlying4 true),kA,rfl,hb.frame _,λh=>by cases h⟩
theorem proved:Go.Proofs.YtinmplbccmfheaaGreat.Rows.ViewOfUptoSaid :=
 OpenClaim.holds_of_cond 3 Tryz.f3 rfl rfl rfl rfl rfl rfl rfl ⟨rfl,rfl,rfl,rfl,rfl⟩ rfl rfl rfl rfl rfl named Tryz.func3 facts
  (of_decide_eq_true (by kernel_rfl)) (by unfold Func.isWrapper; first | (rw [if_pos (by decide +kernel)]; kernel_rfl) | (rw [if_neg (by decide +kernel)]; exact ⟨rfl,rfl⟩))
  (λos started H enc _ F=>lifted os started H enc F)
end viewOf
