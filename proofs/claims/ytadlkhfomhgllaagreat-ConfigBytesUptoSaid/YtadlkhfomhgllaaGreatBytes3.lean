/- ConfigBytes's row: whether any configuration may be, is the same as another one, its bytes, it on its own, that of any bytes, that which is begun with, are the document's; it stays; of bulk at most 1048576 together. -/
import Derived.Test.YtadlkhfomhgllaaGreatZc
import Derived.Test.YtadlkhfomhgllaaGreatLay
import Derived.Test.YtadlkhfomhgllaaGreatRdx
import Derived.Test.YtadlkhfomhgllaaGreatK12
import Derived.Test.YtadlkhfomhgllaaGreatFacts3
import Derived.Carry
set_option linter.unusedVariables false
set_option maxRecDepth 100000
namespace Go.Proofs.YtadlkhfomhgllaaGreat
open Go.ChangeShapes Go.WideShapes Go.ChangeAt Go.RowKit
def xy:Rh:=⟨λ_=>0,λ_=>False,λ_=>False,λ_=>False,λ_=>False⟩
theorem Oc (w:World):Rel w.heap.size xy ⟨[],0⟩ w where
 dom i h:=h.elim
 ln i h:=h.elim
 live i hi:=by simp at hi
 lo i h:=h.elim
 base:=bo _
 inj i j _ h:=h.elim
 mem i hi:=by simp at hi
 xB b h:=h.elim
 gB b h:=h.elim
theorem st0 {w:World}{b:Nat}:St xy w b↔b<w.heap.size:=⟨λh=>h.1,λh=>⟨h,λi=>⟨λhi=>hi.elim,λhx=>hx⟩⟩⟩
theorem DL.vrs {w:World}:∀ {ds:List D} {cs:List Value},DL (·<w.heap.size) w ds cs->VRs xy (St xy w) w (ds.map .d) cs/\∀ u∈cs,u.oneCell'=true
 | [],cs,h=>by simp only [DL] at h; subst h; exact ⟨by simp only [List.map_nil,VRs],by simp⟩
 | d::ds,cs,h=>by
  simp only [DL] at h;obtain ⟨u,us,rfl,h1,h2⟩:=h;have ih:=DL.vrs h2;refine ⟨by simp only [cr,VRs]; exact ⟨u,us,rfl,by simp only [VR]; exact DR.mono (λb hb=>st0.2 hb) (λ_ _=>rfl) h1,ih.1⟩,?_⟩;intro x hx;obtain rfl | hx:=List.mem_cons.1 hx
  . exact h1.one
  . exact ih.2 x hx
theorem PY {w:World}{ds:List D}{cs:Array Value}(h:DL (·<w.heap.size) w ds cs.toList):VR xy (St xy w) w (ag ds) (.agg cs):=by
 simp only [ag,VR];exact ⟨cs,rfl,h.vrs.1,h.vrs.2⟩
theorem Tv {w:World}{d:D}{v:Value}(h:DL (·<w.heap.size) w [d] [v]):VR xy (St xy w) w (.d d) v:=by
 have:=h.vrs.1;simp only [cr,List.map_nil,VRs] at this;obtain ⟨u,us,e,h1,_⟩:=this;simp at e;rw [e.1]; exact h1
theorem own:ownKnob Tryz.prog.godebug=none:=by kernel_rfl
theorem mixed:Tryz.prog.follows .mixedOrders=true:=Checked.mixed Tryz.checked
theorem Iu:aS Tryz.prog (known 5 true):=Jo mixed (Tab.look_ok Ol) Jz (by kernel_rfl) FN
theorem Gg {E:Calls'}(hE:aS Tryz.prog E){T:FuncId->Option QF}{val:FuncId->Bool}(hT:nG Tryz.prog T){f:FuncId}{args:List V}{W:World}{vs:Array Value}(hv:VRs xy (St xy W) W args vs.toList)(hs:Sm E T val f args ⟨[],0⟩=some (bl true,⟨[],0⟩)) :
 Calls Tryz.prog f vs W λe W'=>e=.returned (.bool true)/\Below W.heap.size W W':=by
 obtain ⟨_,_,h3⟩:=nJ (val:=val) mixed hE hT f args ⟨[],0⟩ _ _ hs;refine (h3 W.heap.size xy W vs (Oc W) hv).mono λe W' ⟨v,ρ',k1,k2,k3,k4⟩=>?_;refine ⟨?_,k3.below⟩;rw [k1];simp only [VRx,VR,DR] at k4;simp [k4]
theorem Mh:aS Tryz.prog (λ_ _ _=>none):=λf args h r h' hm=>by cases hm
theorem Om:nG Tryz.prog TP:=gM (oks (by kernel_rfl) (by decide +kernel))
theorem DX (vs:Array Value)(w:World):(callFunc 260 vs).run Tryz.prog w=.ok (.enter 260 vs) w :=
 nN Tryz.func260 rfl (by decide) vs w
theorem Ub:aS Tryz.prog E1:=by
 intro f args h r h' hm;simp only [E1] at hm;split at hm
 . rename_i hf;have hf':f=260:=Nat.eq_of_beq_eq_true hf;subst hf';exact ⟨DX,Hy hm,λB ρ w vs hR hv=>Kw L6 hR hv hm⟩
 . exact nJ mixed Mh Fj f args h r h' hm
theorem Ot:nG Tryz.prog TX:=gM (oks (by kernel_rfl) (by decide +kernel))
theorem Oq:nG Tryz.prog TV:=gM (oks (by kernel_rfl) (by decide +kernel))
theorem Oo:nG Tryz.prog TS:=gM (oks (by kernel_rfl) (by decide +kernel))
theorem Oj:nG Tryz.prog TA:=gM (oks (by kernel_rfl) (by decide +kernel))
theorem KI:nG Tryz.prog TRd:=gM (oks (by kernel_rfl) (by decide +kernel))
theorem KD:nG Tryz.prog TDr:=gM (oks (by kernel_rfl) (by decide +kernel))
theorem KF:nG Tryz.prog TO6:=gM (oks (by kernel_rfl) (by decide +kernel))
theorem KG:nG Tryz.prog TQ3:=gM (oks (by kernel_rfl) (by decide +kernel))
theorem Jy:aS Tryz.prog noE:=λf args h r h' hm=>by cases hm
theorem Ud:aS Tryz.prog Et:=by
 intro f args h r h' hm;simp only [Et] at hm;split at hm
 . exact nJ mixed Ub Om f args h r h' hm
 . cases hm
theorem zg:aS Tryz.prog ET6:=λf args h r h' hm=>nJ mixed Ud Fj f args h r h' hm
theorem CE:aS Tryz.prog (EX1 ET6):=λf args h r h' hm=>nJ mixed zg Ot f args h r h' hm
theorem P8:aS Tryz.prog EQ6:=by
 intro f args h r h' hm;simp only [EQ6] at hm;split at hm
 . exact Iu f args h r h' hm
 . exact nJ mixed CE Oq f args h r h' hm
 . exact CE f args h r h' hm
 . exact nJ mixed Jy Oj f args h r h' hm
 . exact nJ mixed zg KI f args h r h' hm
 . exact nJ mixed CE KD f args h r h' hm
 . exact nJ mixed zg KF f args h r h' hm
 . exact nJ mixed Jy Oo f args h r h' hm
 . exact zg f args h r h' hm
def Ov (B:Nat)(n:Int):Prop:=Inr .u8 n
section
variable {H:Type}{enc:TypeId×Value->H}{w:World}{spare:Nat->Bool}{held:Bool}{B:Nat}
theorem Tf:Rd enc w spare held B 29 (λs=>[Sl.d u8C s]) (λB s=>Sl.wf B Ov s) :=
 fT (z:=1) Tryz.underlying29 (by kernel_rfl) (by decide) (λ_=>rfl) (ed Tryz.underlying5)
end
theorem Ow {s:Sl Int}{B:Nat}(h:s.wf B Ov):byteL s.l:=λc hc=>by
 have k:=h.2 c hc;simp [Ov,Inr,Lit.wf,IntKind.min,IntKind.max,IntKind.bits,IntKind.signed] at k;omega
namespace configBytes
theorem FP {W:World}{c d:Cfg}{s:Sl Int}{a b:Int}(ha:Inr .i64 a)(hb:Inr .i64 b)(hc:c.wf 1048576)(hd:d.wf 1048576)(hs:s.wf 1048576 Ov){cs ds:Array Value}{v:Value}(h0:DL (·<W.heap.size) W c.c cs.toList)(h1:DL (·<W.heap.size) W d.c ds.toList)(h2:DL (·<W.heap.size) W [Sl.d u8C s] [v]) :
 Calls Tryz.prog 3 #[.agg cs,.agg ds,v,.int .i64 a,.int .i64 b] W λe W'=>e=.returned (.bool true)/\Below W.heap.size W W':=by
 refine Gg (E:=EQ6) P8 KG (val:=xO) (args:=[c.v,d.v,.d (Sl.d u8C s),.d (i64 a),.d (i64 b)]) ?_ (S3 c d hc (Cfg.wf.le (by decide) hc) (Cfg.wf.le (by decide) hd) (nl:=s.nl) (l:=s.l) (Ow hs) (ch hs.1.1 (by decide)) ha hb ⟨[],0⟩);simp only [VRs];exact ⟨_,_,rfl,PY h0,_,_,rfl,PY h1,_,_,rfl,Tv h2,_,_,rfl,by simp only [VR,DR],_,_,rfl,by simp only [VR,DR],rfl⟩
theorem lifted (os:Os)(started:os.Started)(H:Type)(enc:TypeId×Value->H)(F:Stop.Interp) :
 ReturnsInHanded {} Tryz.checked os 3 .any ((Go.Proofs.YtadlkhfomhgllaaGreat.Rows.OpenSpec.upto Go.Proofs.YtadlkhfomhgllaaGreat.Rows.configBytesSpec).pre6 enc Tryz.prog Tryz.f3 Go.Proofs.YtadlkhfomhgllaaGreat.Rows.configBytesUptoRow.domain false) (((Go.Proofs.YtadlkhfomhgllaaGreat.Rows.OpenSpec.upto Go.Proofs.YtadlkhfomhgllaaGreat.Rows.configBytesSpec).at F).post enc Tryz.prog Tryz.f3 false true false false):=by
 refine returnsInHanded_of_cond (C:=Tryz.checked) (s:=Go.Proofs.YtadlkhfomhgllaaGreat.Rows.OpenSpec.upto Go.Proofs.YtadlkhfomhgllaaGreat.Rows.configBytesSpec) (k:=Go.Proofs.YtadlkhfomhgllaaGreat.Rows.uptoSmall) rfl own started (by kernel_rfl) Tryz.func3
  (OpenSpec.witness (enc:=enc) (C:=Tryz.checked) (s:=Go.Proofs.YtadlkhfomhgllaaGreat.Rows.OpenSpec.upto Go.Proofs.YtadlkhfomhgllaaGreat.Rows.configBytesSpec) (k:=Go.Proofs.YtadlkhfomhgllaaGreat.Rows.uptoSmall) rfl false ⟨#[],#[.agg #[.int .u64 0,.int .u64 0,.int .i64 0,.int .i64 0,.slice none 0 0,.slice none 0 0,.slice none 0 0,.slice none 0 0],.agg #[.int .u64 0,.int .u64 0,.int .i64 0,.int .i64 0,.slice none 0 0,.slice none 0 0,.slice none 0 0,.slice none 0 0],.slice none 0 0,.int .i64 0,.int .i64 0],[]⟩ 8
   (by kernel_rfl) (by kernel_rfl) (by kernel_rfl) (x:=([.agg [.lit (.int .u64 0),.lit (.int .u64 0),.lit (.int .i64 0),.lit (.int .i64 0),.nil,.nil,.nil,.nil],.agg [.lit (.int .u64 0),.lit (.int .u64 0),.lit (.int .i64 0),.lit (.int .i64 0),.nil,.nil,.nil,.nil],.nil,.lit (.int .i64 0),.lit (.int .i64 0)],[],[])) (by kernel_rfl) rfl (by rfl)) ?_
 intro W base args ds gs before hval0 hW hcnd hkk _;have hval:∀ (j:Nat) t v,Tryz.f3.params[j]?=some t->args[j]?=some v->Value.okWide Tryz.prog W .any base t v:=hval0;have hW':=hW;obtain ⟨p,q,hA0,hV,rfl,hfz,hnd⟩:=hW;have hA:DataW.TrodAll enc Tryz.prog W 0 (λ_=>true) true Tryz.f3.params.toList args.toList ds p:=hA0;rw [Tryz.params3] at hA hval;obtain ⟨v0,vs1,d0,ds1,p0,q1,ha1,rfl,rfl,h0,hA⟩:=trodAll_cons hA;obtain ⟨v1,vs2,d1,ds2,p1,q2,rfl,rfl,rfl,h1,hA⟩:=trodAll_cons hA;obtain ⟨v2,vs3,d2,ds3,p2,q3,rfl,rfl,rfl,h2,hA⟩:=trodAll_cons hA;obtain ⟨v3,vs4,d3,ds4,p3,q4,rfl,rfl,rfl,h3,hA⟩:=trodAll_cons hA;obtain ⟨v4,vs5,d4,ds5,p4,q5,rfl,rfl,rfl,h4,hA⟩:=trodAll_cons hA;obtain ⟨rfl,rfl,rfl⟩:=trodAll_nil hA;have hargs:args=#[v0,v1,v2,v3,v4]:=by apply Array.ext'; simpa using ha1
 subst hargs;obtain ⟨rfl,rfl⟩:=trodVars_none hV;have hsm:bulks [d0,d1,d2,d3,d4]<=1048576:=by simpa [Go.Proofs.YtadlkhfomhgllaaGreat.Rows.uptoSmall] using hkk
 obtain ⟨ca,rfl,hca⟩:=okWide_struct Tryz.underlying28 (hval 0 28 v0 rfl rfl);obtain ⟨cb,rfl,hcb⟩:=okWide_struct Tryz.underlying28 (hval 1 28 v1 rfl rfl);obtain ⟨sa,sn,sc,rfl⟩:=okWide_slice Tryz.underlying29 (hval 2 29 v2 rfl rfl);obtain ⟨a,rfl,rfl,rfl,wa⟩:=open_int Tryz.underlying3 (hval 3 3 v3 rfl rfl) h3;obtain ⟨b,rfl,rfl,rfl,wb⟩:=open_int Tryz.underlying3 (hval 4 3 v4 rfl rfl) h4;have hlt0:∀ x∈p0,x.block<W.heap.size:=λx hx=>hW'.lt x (by simp [hx]);have hlt1:∀ x∈p1,x.block<W.heap.size:=λx hx=>hW'.lt x (by simp [hx]);have hlt2:∀ x∈p2,x.block<W.heap.size:=λx hx=>hW'.lt x (by simp [hx]);have h0':=h0;have h1':=h1;have h2':=h2;obtain ⟨f0,g0⟩:=h0;obtain ⟨f1,g1⟩:=h1;obtain ⟨f2,g2⟩:=h2;obtain ⟨c,a1,a2⟩:=J9 (B:=1048576) _ _ _ g0 (ch (lY (by simp)) hsm);obtain ⟨d,b1,b2⟩:=J9 (B:=1048576) _ _ _ g1 (ch (lY (by simp)) hsm);obtain ⟨s,s1,s2⟩:=Tf (B:=1048576) _ _ _ g2 (ch (lY (by simp)) hsm);refine (FP wa wb a2 b2 s2 a1 b1 s1).mono λe W' ⟨he,hb⟩=>?_;subst he;have k0:=Below.trod laidOut (by kernel_rfl) (of_decide_eq_true (by kernel_rfl)) h0' hb hlt0;have k1:=Below.trod laidOut (by kernel_rfl) (of_decide_eq_true (by kernel_rfl)) h1' hb hlt1;have k2:=Below.trod laidOut (by kernel_rfl) (of_decide_eq_true (by kernel_rfl)) h2' hb hlt2;have kA:=trodAll_cons_mk k0 (trodAll_cons_mk k1 (trodAll_cons_mk k2 (trodAll_cons_mk (shut_int Tryz.underlying3 wa) (trodAll_mk1 (shut_int Tryz.underlying3 wb)))))
 exact ⟨_,rfl,_,_,_,[],_,[],hW',trodAll_mk1 (shut_bool Tryz.underlying4 true),kA,rfl,hb.frame _,λh=>by cases h⟩
theorem proved:Go.Proofs.YtadlkhfomhgllaaGreat.Rows.ConfigBytesUptoSaid :=
 OpenClaim.holds_of_cond 3 Tryz.f3 rfl rfl rfl rfl rfl rfl rfl ⟨rfl,rfl,rfl,rfl,rfl⟩ rfl rfl rfl rfl rfl named Tryz.func3 facts
  (of_decide_eq_true (by kernel_rfl)) (by unfold Func.isWrapper; first | (rw [if_pos (by decide +kernel)]; kernel_rfl) | (rw [if_neg (by decide +kernel)]; exact ⟨rfl,rfl⟩))
  (λos started H enc _ F=>lifted os started H enc F)
end configBytes
