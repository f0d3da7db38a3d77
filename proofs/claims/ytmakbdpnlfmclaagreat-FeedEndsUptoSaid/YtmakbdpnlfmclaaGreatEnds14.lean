/- FeedEnds's row: if a node answers each push good, and nothing changes any more, then, from wherever it is, within two answers it has what it is to have, and nothing more is sent; of bulk at most 1048576 together. -/
import Derived.Test.YtmakbdpnlfmclaaGreatCx
import Derived.Test.YtmakbdpnlfmclaaGreatRde
import Derived.Test.YtmakbdpnlfmclaaGreatLay
import Derived.Test.YtmakbdpnlfmclaaGreatLax
import Derived.Test.YtmakbdpnlfmclaaGreatK18
import Derived.Test.YtmakbdpnlfmclaaGreatFacts14
import Derived.Carry
set_option linter.unusedVariables false
set_option maxRecDepth 100000
namespace Go.Proofs.YtmakbdpnlfmclaaGreat
open Go.ChangeShapes Go.WideShapes Go.ChangeAt Go.RowKit
def wS:Rh:=⟨λ_=>0,λ_=>False,λ_=>False,λ_=>False,λ_=>False⟩
theorem Ph (w:World):Rel w.heap.size wS ⟨[],0⟩ w where
 dom i h:=h.elim
 ln i h:=h.elim
 live i hi:=by simp at hi
 lo i h:=h.elim
 base:=bp _
 inj i j _ h:=h.elim
 mem i hi:=by simp at hi
 xB b h:=h.elim
 gB b h:=h.elim
theorem st0 {w:World}{b:Nat}:St wS w b↔b<w.heap.size:=⟨λh=>h.1,λh=>⟨h,λi=>⟨λhi=>hi.elim,λhx=>hx⟩⟩⟩
theorem DL.vrs {w:World}:∀ {ds:List D} {cs:List Value},DL (·<w.heap.size) w ds cs->VRs wS (St wS w) w (ds.map .d) cs/\∀ u∈cs,u.oneCell'=true
 | [],cs,h=>by simp only [DL] at h; subst h; exact ⟨by simp only [List.map_nil,VRs],by simp⟩
 | d::ds,cs,h=>by
  simp only [DL] at h;obtain ⟨u,us,rfl,h1,h2⟩:=h;have ih:=DL.vrs h2;refine ⟨by simp only [co,VRs]; exact ⟨u,us,rfl,by simp only [VR]; exact DR.mono (λb hb=>st0.2 hb) (λ_ _=>rfl) h1,ih.1⟩,?_⟩;intro x hx;obtain rfl | hx:=List.mem_cons.1 hx
  . exact h1.one
  . exact ih.2 x hx
theorem as6 {w:World}{ds:List D}{cs:Array Value}(h:DL (·<w.heap.size) w ds cs.toList):VR wS (St wS w) w (ag ds) (.agg cs):=by
 simp only [ag,VR];exact ⟨cs,rfl,h.vrs.1,h.vrs.2⟩
theorem D6 {w:World}{d:D}{v:Value}(h:DL (·<w.heap.size) w [d] [v]):VR wS (St wS w) w (.d d) v:=by
 have:=h.vrs.1;simp only [co,List.map_nil,VRs] at this;obtain ⟨u,us,e,h1,_⟩:=this;simp at e;rw [e.1]; exact h1
theorem own:ownKnob Tryz.prog.godebug=none:=by kernel_rfl
theorem mixed:Tryz.prog.follows .mixedOrders=true:=Checked.mixed Tryz.checked
theorem I9:aO Tryz.prog (known 7 true):=J4 mixed (Tab.look_ok Py) Kh (by kernel_rfl) Gc
theorem Gv {E:Calls'}(hE:aO Tryz.prog E){T:FuncId->Option QF}{val:FuncId->Bool}(hT:jD Tryz.prog T){f:FuncId}{args:List V}{W:World}{vs:Array Value}(hv:VRs wS (St wS W) W args vs.toList)(hs:Sm E T val f args ⟨[],0⟩=some (bl true,⟨[],0⟩)) :
 Calls Tryz.prog f vs W λe W'=>e=.returned (.bool true)/\Below W.heap.size W W':=by
 obtain ⟨_,_,h3⟩:=ek (val:=val) mixed hE hT f args ⟨[],0⟩ _ _ hs;refine (h3 W.heap.size wS W vs (Ph W) hv).mono λe W' ⟨v,ρ',k1,k2,k3,k4⟩=>?_;refine ⟨?_,k3.below⟩;rw [k1];simp only [VRx,VR,DR] at k4;simp [k4]
theorem EZ:aO Tryz.prog (λ_ _ _=>none):=λf args h r h' hm=>by cases hm
theorem FL:jD Tryz.prog TP:=cu (oks (by kernel_rfl) (by decide +kernel))
theorem DD (vs:Array Value)(w:World):(callFunc 350 vs).run Tryz.prog w=.ok (.enter 350 vs) w :=
 aR Tryz.func350 rfl (by decide) vs w
theorem PY:aO Tryz.prog E1:=by
 intro f args h r h' hm;simp only [E1] at hm;split at hm
 . rename_i hf;have hf':f=350:=Nat.eq_of_beq_eq_true hf;subst hf';exact ⟨DD,Ib hm,λB ρ w vs hR hv=>LB Ns hR hv hm⟩
 . exact ek mixed EZ j6 f args h r h' hm
theorem FK:jD Tryz.prog TO:=cu (oks (by kernel_rfl) (by decide +kernel))
theorem PH:jD Tryz.prog TV:=cu (oks (by kernel_rfl) (by decide +kernel))
theorem PE:jD Tryz.prog TS:=cu (oks (by kernel_rfl) (by decide +kernel))
theorem PG:jD Tryz.prog TU:=cu (oks (by kernel_rfl) (by decide +kernel))
theorem Pz:jD Tryz.prog TL:=cu (oks (by kernel_rfl) (by decide +kernel))
theorem Pt:jD Tryz.prog TB:=cu (oks (by kernel_rfl) (by decide +kernel))
theorem Px:jD Tryz.prog TI:=cu (oks (by kernel_rfl) (by decide +kernel))
theorem Pv:jD Tryz.prog TD:=cu (oks (by kernel_rfl) (by decide +kernel))
theorem Pw:jD Tryz.prog TF:=cu (oks (by kernel_rfl) (by decide +kernel))
theorem uZ:jD Tryz.prog TZ:=cu (oks (by kernel_rfl) (by decide +kernel))
theorem PI:jD Tryz.prog TW:=cu (oks (by kernel_rfl) (by decide +kernel))
theorem PK:jD Tryz.prog TX:=cu (oks (by kernel_rfl) (by decide +kernel))
theorem LK:jD Tryz.prog TV8:=cu (oks (by kernel_rfl) (by decide +kernel))
theorem LH:jD Tryz.prog TD8:=cu (oks (by kernel_rfl) (by decide +kernel))
theorem LJ:jD Tryz.prog TN8:=cu (oks (by kernel_rfl) (by decide +kernel))
theorem Iq:jD Tryz.prog lY:=cu (oks (by kernel_rfl) (by decide +kernel))
theorem zq:aO Tryz.prog noE:=λf args h r h' hm=>by cases hm
theorem P5:aO Tryz.prog EO:=λf args h r h' hm=>ek mixed EZ j6 f args h r h' hm
theorem Wt:aO Tryz.prog Es:=by
 intro f args h r h' hm;simp only [Es] at hm;split at hm
 . exact ek mixed zq Pz f args h r h' hm
 . exact ek mixed zq j6 f args h r h' hm
theorem Wu:aO Tryz.prog Eu:=by
 intro f args h r h' hm;simp only [Eu] at hm;split at hm
 . exact ek mixed Wt PE f args h r h' hm
 . exact ek mixed zq j6 f args h r h' hm
theorem u7:aO Tryz.prog ET0:=λf args h r h' hm=>ek mixed zq j6 f args h r h' hm
theorem IJ:aO Tryz.prog Et:=by
 intro f args h r h' hm;simp only [Et] at hm;split at hm
 . exact ek mixed PY FL f args h r h' hm
 . cases hm
theorem Wq:aO Tryz.prog EV:=by
 intro f args h r h' hm;simp only [EV] at hm;split at hm
 . exact ek mixed Wu PG f args h r h' hm
 . exact ek mixed P5 FK f args h r h' hm
 . exact ek mixed IJ j6 f args h r h' hm
theorem Ws:aO Tryz.prog EW:=by
 intro f args h r h' hm;simp only [EW] at hm;split at hm
 . have hf':f=187:=Nat.eq_of_beq_eq_true (by assumption);subst hf';exact ⟨λvs w=>aR Tryz.func187 rfl (by decide) vs w,gG hm,λB ρ w vs hR hv=>iL Fy FI Tryz.isAgg54 Tryz.sizeOf54 (λvs w=>aR Tryz.func253 rfl (by decide) vs w) (by decide) Nb hR hv hm⟩
 . have hf':f=169:=Nat.eq_of_beq_eq_true (by assumption);subst hf';exact ⟨λvs w=>aR Tryz.func169 rfl (by decide) vs w,gG hm,λB ρ w vs hR hv=>iL FB FD Tryz.isAgg56 Tryz.sizeOf56 (λvs w=>aR Tryz.func170 rfl (by decide) vs w) (by decide) MV hR hv hm⟩
 . have hf':f=174:=Nat.eq_of_beq_eq_true (by assumption);subst hf';exact ⟨λvs w=>aR Tryz.func174 rfl (by decide) vs w,gG hm,λB ρ w vs hR hv=>iL FC FE Tryz.isAgg58 Tryz.sizeOf58 (λvs w=>aR Tryz.func175 rfl (by decide) vs w) (by decide) MW hR hv hm⟩
 . have hf':f=177:=Nat.eq_of_beq_eq_true (by assumption);subst hf';exact ⟨λvs w=>aR Tryz.func177 rfl (by decide) vs w,gG hm,λB ρ w vs hR hv=>iL Fz FH Tryz.isAgg61 Tryz.sizeOf61 (λvs w=>aR Tryz.func178 rfl (by decide) vs w) (by decide) MX hR hv hm⟩
 . cases hm
theorem Ih {args:List V}{h:Hp}{r:V}{h':Hp}(hm:ui BV 187 args h=some (r,h')) :
 (∀ vs w,(callFunc 187 vs).run Tryz.prog w=.ok (.enter 187 vs) w)/\LowOk h h'/\∀ B ρ w (vs:Array Value),Rel B ρ h w->VRs ρ (St ρ w) w args vs.toList->Calls Tryz.prog 187 vs w (kZ B ρ h w r h'):=by
 unfold ui at hm;split at hm
 . exact ⟨λvs w=>aR Tryz.func187 rfl (by decide) vs w,gG hm,λB ρ w vs hR hv=>iL BV FI Tryz.isAgg54 Tryz.sizeOf54 (λvs w=>aR Tryz.func188 rfl (by decide) vs w) (by decide) MZ hR hv hm⟩
 . exact ek mixed u7 uZ 187 args h r h' hm
theorem Ij {args:List V}{h:Hp}{r:V}{h':Hp}(hm:ui BZ 169 args h=some (r,h')) :
 (∀ vs w,(callFunc 169 vs).run Tryz.prog w=.ok (.enter 169 vs) w)/\LowOk h h'/\∀ B ρ w (vs:Array Value),Rel B ρ h w->VRs ρ (St ρ w) w args vs.toList->Calls Tryz.prog 169 vs w (kZ B ρ h w r h'):=by
 unfold ui at hm;split at hm
 . exact ⟨λvs w=>aR Tryz.func169 rfl (by decide) vs w,gG hm,λB ρ w vs hR hv=>iL BZ FD Tryz.isAgg56 Tryz.sizeOf56 (λvs w=>aR Tryz.func191 rfl (by decide) vs w) (by decide) M8 hR hv hm⟩
 . exact ek mixed u7 uZ 169 args h r h' hm
theorem Ik {args:List V}{h:Hp}{r:V}{h':Hp}(hm:ui Ca 174 args h=some (r,h')) :
 (∀ vs w,(callFunc 174 vs).run Tryz.prog w=.ok (.enter 174 vs) w)/\LowOk h h'/\∀ B ρ w (vs:Array Value),Rel B ρ h w->VRs ρ (St ρ w) w args vs.toList->Calls Tryz.prog 174 vs w (kZ B ρ h w r h'):=by
 unfold ui at hm;split at hm
 . exact ⟨λvs w=>aR Tryz.func174 rfl (by decide) vs w,gG hm,λB ρ w vs hR hv=>iL Ca FE Tryz.isAgg58 Tryz.sizeOf58 (λvs w=>aR Tryz.func195 rfl (by decide) vs w) (by decide) M9 hR hv hm⟩
 . exact ek mixed u7 uZ 174 args h r h' hm
theorem Ii {args:List V}{h:Hp}{r:V}{h':Hp}(hm:ui BX 177 args h=some (r,h')) :
 (∀ vs w,(callFunc 177 vs).run Tryz.prog w=.ok (.enter 177 vs) w)/\LowOk h h'/\∀ B ρ w (vs:Array Value),Rel B ρ h w->VRs ρ (St ρ w) w args vs.toList->Calls Tryz.prog 177 vs w (kZ B ρ h w r h'):=by
 unfold ui at hm;split at hm
 . exact ⟨λvs w=>aR Tryz.func177 rfl (by decide) vs w,gG hm,λB ρ w vs hR hv=>iL BX FH Tryz.isAgg61 Tryz.sizeOf61 (λvs w=>aR Tryz.func199 rfl (by decide) vs w) (by decide) Na hR hv hm⟩
 . exact ek mixed u7 uZ 177 args h r h' hm
theorem Wp:aO Tryz.prog EIC:=by
 intro f args h r h' hm;simp only [EIC] at hm;split at hm
 . exact ek mixed u7 Pt f args h r h' hm
 . split at hm
   . have hf':f=187:=Nat.eq_of_beq_eq_true (by assumption);subst hf';exact Ih hm
   . have hf':f=169:=Nat.eq_of_beq_eq_true (by assumption);subst hf';exact Ij hm
   . have hf':f=174:=Nat.eq_of_beq_eq_true (by assumption);subst hf';exact Ik hm
   . have hf':f=177:=Nat.eq_of_beq_eq_true (by assumption);subst hf';exact Ii hm
   . exact ek mixed IJ j6 f args h r h' hm
theorem yF:aO Tryz.prog EQ7:=λf args h r h' hm=>ek mixed Wp Px f args h r h' hm
theorem Wo:aO Tryz.prog EF:=by
 intro f args h r h' hm;simp only [EF] at hm;split at hm
 . exact ek mixed Wq PH f args h r h' hm
 . exact ek mixed yF Pv f args h r h' hm
 . exact yF f args h r h' hm
theorem IG:aO Tryz.prog ETT:=λf args h r h' hm=>ek mixed IJ j6 f args h r h' hm
theorem II:aO Tryz.prog EX8:=λf args h r h' hm=>ek mixed IG PK f args h r h' hm
theorem QU:aO Tryz.prog ED8:=by
 intro f args h r h' hm;simp only [ED8] at hm;split at hm
 . exact ek mixed II LK f args h r h' hm
 . exact II f args h r h' hm
theorem QT:aO Tryz.prog EA8:=by
 intro f args h r h' hm;simp only [EA8] at hm;split at hm
 . exact ek mixed PY FL f args h r h' hm
 . exact ek mixed P5 FK f args h r h' hm
 . exact ek mixed Ws PI f args h r h' hm
 . cases hm
theorem QS:aO Tryz.prog E14:=by
 intro f args h r h' hm;simp only [E14] at hm;split at hm
 . exact I9 f args h r h' hm
 . exact ek mixed QT j6 f args h r h' hm
 . exact ek mixed yF LJ f args h r h' hm
 . exact ek mixed QU LH f args h r h' hm
 . exact yF f args h r h' hm
 . exact IG f args h r h' hm
 . exact ek mixed Wo Pw f args h r h' hm
theorem Edt.wf.le {B B':Nat}(hB:B<=B'){x:Edt}(h:x.wf B):x.wf B':=⟨h.1,h.2.1,Pod.wf.le hB h.2.2.1,Svc.wf.le hB h.2.2.2.1,Way.wf.le h.2.2.2.2.1,Pol.wf.le hB h.2.2.2.2.2⟩
namespace feedEnds
theorem JA {W:World}{c:Cfg}{l:Sl Edt}{a m:Sl Int}(hc:c.wf 1048576)(hl:Sl.wf 1048576 Edt.wf l)(ha:Sl.wf 1048576 FN a)(hm:Sl.wf 1048576 FN m){cs:Array Value}{u v w:Value}(h0:DL (·<W.heap.size) W c.c cs.toList)(h1:DL (·<W.heap.size) W [l.d Edt.c] [u])(h2:DL (·<W.heap.size) W [Sl.d aV a] [v])(h3:DL (·<W.heap.size) W [Sl.d aV m] [w]) :
 Calls Tryz.prog 3 #[.agg cs,u,v,w] W λe W'=>e=.returned (.bool true)/\Below W.heap.size W W':=by
 refine Gv (E:=E14) QS Iq (val:=fV) (args:=[c.v,.d (l.d Edt.c),.d (a.d aV),.d (m.d aV)]) ?_ (R14 Wm c ⟨hc⟩ l (cf hl.1.1 (by decide)) (λe he=>⟨hl.2 e he,Edt.wf.le (by decide) (hl.2 e he)⟩) a m (ha.1.le (by decide)) (hm.1.le (by decide)) ⟨[],0⟩);simp only [VRs];exact ⟨_,_,rfl,as6 h0,_,_,rfl,D6 h1,_,_,rfl,D6 h2,_,_,rfl,D6 h3,rfl⟩
theorem lifted (os:Os)(started:os.Started)(H:Type)(enc:TypeId×Value->H)(F:Stop.Interp) :
 ReturnsInHanded {} Tryz.checked os 3 .any ((Go.Proofs.YtmakbdpnlfmclaaGreat.Rows.OpenSpec.upto Go.Proofs.YtmakbdpnlfmclaaGreat.Rows.feedEndsSpec).pre6 enc Tryz.prog Tryz.f3 Go.Proofs.YtmakbdpnlfmclaaGreat.Rows.feedEndsUptoRow.domain false) (((Go.Proofs.YtmakbdpnlfmclaaGreat.Rows.OpenSpec.upto Go.Proofs.YtmakbdpnlfmclaaGreat.Rows.feedEndsSpec).at F).post enc Tryz.prog Tryz.f3 false true false false):=by
 refine returnsInHanded_of_cond (C:=Tryz.checked) (s:=Go.Proofs.YtmakbdpnlfmclaaGreat.Rows.OpenSpec.upto Go.Proofs.YtmakbdpnlfmclaaGreat.Rows.feedEndsSpec) (k:=Go.Proofs.YtmakbdpnlfmclaaGreat.Rows.uptoSmall) rfl own started (by kernel_rfl) Tryz.func3
  (OpenSpec.witness (enc:=enc) (C:=Tryz.checked) (s:=Go.Proofs.YtmakbdpnlfmclaaGreat.Rows.OpenSpec.upto Go.Proofs.YtmakbdpnlfmclaaGreat.Rows.feedEndsSpec) (k:=Go.Proofs.YtmakbdpnlfmclaaGreat.Rows.uptoSmall) rfl false ⟨#[],#[.agg #[.int .u64 0,.int .u64 0,.int .i64 0,.int .i64 0,.slice none 0 0,.slice none 0 0,.slice none 0 0,.slice none 0 0],.slice none 0 0,.slice none 0 0,.slice none 0 0],[]⟩ 8
   (by kernel_rfl) (by kernel_rfl) (by kernel_rfl) (x:=([.agg [.lit (.int .u64 0),.lit (.int .u64 0),.lit (.int .i64 0),.lit (.int .i64 0),.nil,.nil,.nil,.nil],.nil,.nil,.nil],[],[])) (by kernel_rfl) rfl (by rfl)) ?_
 intro W base args ds gs before hval0 hW hcnd hkk _;have hval:∀ (j:Nat) t v,Tryz.f3.params[j]?=some t->args[j]?=some v->Value.okWide Tryz.prog W .any base t v:=hval0;have hW':=hW;obtain ⟨p,q,hA0,hV,rfl,hfz,hnd⟩:=hW;have hA:DataW.TrodAll enc Tryz.prog W 0 (λ_=>true) true Tryz.f3.params.toList args.toList ds p:=hA0;rw [Tryz.params3] at hA hval;obtain ⟨v0,vs1,d0,ds1,p0,q1,ha1,rfl,rfl,h0,hA⟩:=trodAll_cons hA;obtain ⟨v1,vs2,d1,ds2,p1,q2,rfl,rfl,rfl,h1,hA⟩:=trodAll_cons hA;obtain ⟨v2,vs3,d2,ds3,p2,q3,rfl,rfl,rfl,h2,hA⟩:=trodAll_cons hA;obtain ⟨v3,vs4,d3,ds4,p3,q4,rfl,rfl,rfl,h3,hA⟩:=trodAll_cons hA;obtain ⟨rfl,rfl,rfl⟩:=trodAll_nil hA;have hargs:args=#[v0,v1,v2,v3]:=by apply Array.ext'; simpa using ha1
 subst hargs;obtain ⟨rfl,rfl⟩:=trodVars_none hV;have hsm:bulks [d0,d1,d2,d3]<=1048576:=by simpa [Go.Proofs.YtmakbdpnlfmclaaGreat.Rows.uptoSmall] using hkk
 obtain ⟨ca,rfl,hca⟩:=okWide_struct Tryz.underlying28 (hval 0 28 v0 rfl rfl);obtain ⟨sa,sn,sc,rfl⟩:=okWide_slice Tryz.underlying29 (hval 1 29 v1 rfl rfl);obtain ⟨ta,tn,tc,rfl⟩:=okWide_slice Tryz.underlying30 (hval 2 30 v2 rfl rfl);obtain ⟨ua,un,uc,rfl⟩:=okWide_slice Tryz.underlying30 (hval 3 30 v3 rfl rfl);have hlt0:∀ x∈p0,x.block<W.heap.size:=λx hx=>hW'.lt x (by simp [hx]);have hlt1:∀ x∈p1,x.block<W.heap.size:=λx hx=>hW'.lt x (by simp [hx]);have hlt2:∀ x∈p2,x.block<W.heap.size:=λx hx=>hW'.lt x (by simp [hx]);have hlt3:∀ x∈p3,x.block<W.heap.size:=λx hx=>hW'.lt x (by simp [hx]);have h0':=h0;have h1':=h1;have h2':=h2;have h3':=h3;obtain ⟨f0,g0⟩:=h0;obtain ⟨f1,g1⟩:=h1;obtain ⟨f2,g2⟩:=h2;obtain ⟨f3,g3⟩:=h3;obtain ⟨c,a1,a2⟩:=Vm (B:=1048576) _ _ _ g0 (cg (kF (by simp)) hsm);obtain ⟨l,b1,b2⟩:=O9 (B:=1048576) _ _ _ g1 (cg (kF (by simp)) hsm);obtain ⟨s,s1,s2⟩:=zJ (B:=1048576) _ _ _ g2 (cg (kF (by simp)) hsm);obtain ⟨t,t1,t2⟩:=zJ (B:=1048576) _ _ _ g3 (cg (kF (by simp)) hsm);refine (JA a2 b2 s2 t2 a1 b1 s1 t1).mono λe W' ⟨he,hb⟩=>?_;subst he;have k0:=Below.trod laidOut (by kernel_rfl) (of_decide_eq_true (by kernel_rfl)) h0' hb hlt0;have k1:=Below.trod laidOut (by kernel_rfl) (of_decide_eq_true (by kernel_rfl)) h1' hb hlt1;have k2:=Below.trod laidOut (by kernel_rfl) (of_decide_eq_true (by kernel_rfl)) h2' hb hlt2
 have k3:=Below.trod laidOut (by kernel_rfl) (of_decide_eq_true (by kernel_rfl)) h3' hb hlt3;have kA:=trodAll_cons_mk k0 (trodAll_cons_mk k1 (trodAll_cons_mk k2 (trodAll_mk1 k3)));exact ⟨_,rfl,_,_,_,[],_,[],hW',trodAll_mk1 (shut_bool Tryz.underlying4 true),kA,rfl,hb.frame _,λh=>by cases h⟩
theorem proved:Go.Proofs.YtmakbdpnlfmclaaGreat.Rows.FeedEndsUptoSaid :=
 OpenClaim.holds_of_cond 3 Tryz.f3 rfl rfl rfl rfl rfl rfl rfl ⟨rfl,rfl,rfl,rfl,rfl⟩ rfl rfl rfl rfl rfl named Tryz.func3 facts
  (of_decide_eq_true (by kernel_rfl)) (by unfold Func.isWrapper; first | (rw [if_pos (by decide +kernel)]; kernel_rfl) | (rw [if_neg (by decide +kernel)]; exact ⟨rfl,rfl⟩))
  (λos started H enc _ F=>lifted os started H enc F)
end feedEnds
