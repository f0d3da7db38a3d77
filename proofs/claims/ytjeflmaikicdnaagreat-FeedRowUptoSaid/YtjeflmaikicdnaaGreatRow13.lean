/- FeedRow's row: whatever is edited, asked, lost, doubled, turned round, whoever begins anew, pushes to one life are numbered, and stand upon the last one that was acknowledged, or upon nothing; whatever a node applied is the view of a scope that it asked for, at a configuration that there was, and its epochs do not fall in a life; of bulk at most 1048576 together. -/
import Derived.Test.YtjeflmaikicdnaaGreatCx
import Derived.Test.YtjeflmaikicdnaaGreatRde
import Derived.Test.YtjeflmaikicdnaaGreatLay
import Derived.Test.YtjeflmaikicdnaaGreatLax
import Derived.Test.YtjeflmaikicdnaaGreatK18
import Derived.Test.YtjeflmaikicdnaaGreatFacts13
import Derived.Carry
set_option linter.unusedVariables false
set_option maxRecDepth 100000
namespace Go.Proofs.YtjeflmaikicdnaaGreat
open Go.ChangeShapes Go.WideShapes Go.ChangeAt Go.RowKit
def xy:Rh:=⟨λ_=>0,λ_=>False,λ_=>False,λ_=>False,λ_=>False⟩
theorem Pt (w:World):Rel w.heap.size xy ⟨[],0⟩ w where
 dom i h:=h.elim
 ln i h:=h.elim
 live i hi:=by simp at hi
 lo i h:=h.elim
 base:=br _
 inj i j _ h:=h.elim
 mem i hi:=by simp at hi
 xB b h:=h.elim
 gB b h:=h.elim
theorem st0 {w:World}{b:Nat}:St xy w b↔b<w.heap.size:=⟨λh=>h.1,λh=>⟨h,λi=>⟨λhi=>hi.elim,λhx=>hx⟩⟩⟩
theorem DL.vrs {w:World}:∀ {ds:List D} {cs:List Value},DL (·<w.heap.size) w ds cs->VRs xy (St xy w) w (ds.map .d) cs/\∀ u∈cs,u.oneCell'=true
 | [],cs,h=>by simp only [DL] at h; subst h; exact ⟨by simp only [List.map_nil,VRs],by simp⟩
 | d::ds,cs,h=>by
  simp only [DL] at h;obtain ⟨u,us,rfl,h1,h2⟩:=h;have ih:=DL.vrs h2;refine ⟨by simp only [cq,VRs]; exact ⟨u,us,rfl,by simp only [VR]; exact DR.mono (λb hb=>st0.2 hb) (λ_ _=>rfl) h1,ih.1⟩,?_⟩;intro x hx;obtain rfl | hx:=List.mem_cons.1 hx
  . exact h1.one
  . exact ih.2 x hx
theorem at5 {w:World}{ds:List D}{cs:Array Value}(h:DL (·<w.heap.size) w ds cs.toList):VR xy (St xy w) w (ag ds) (.agg cs):=by
 simp only [ag,VR];exact ⟨cs,rfl,h.vrs.1,h.vrs.2⟩
theorem VS {w:World}{d:D}{v:Value}(h:DL (·<w.heap.size) w [d] [v]):VR xy (St xy w) w (.d d) v:=by
 have:=h.vrs.1;simp only [cq,List.map_nil,VRs] at this;obtain ⟨u,us,e,h1,_⟩:=this;simp at e;rw [e.1]; exact h1
theorem own:ownKnob Tryz.prog.godebug=none:=by kernel_rfl
theorem mixed:Tryz.prog.follows .mixedOrders=true:=Checked.mixed Tryz.checked
theorem Jq:aM Tryz.prog (known 7 true):=Kj mixed (Tab.look_ok PR) KF (by kernel_rfl) Gz
theorem GX {E:Calls'}(hE:aM Tryz.prog E){T:FuncId->Option QF}{val:FuncId->Bool}(hT:kz Tryz.prog T){f:FuncId}{args:List V}{W:World}{vs:Array Value}(hv:VRs xy (St xy W) W args vs.toList)(hs:Sm E T val f args ⟨[],0⟩=some (bl true,⟨[],0⟩)) :
 Calls Tryz.prog f vs W λe W'=>e=.returned (.bool true)/\Below W.heap.size W W':=by
 obtain ⟨_,_,h3⟩:=fC (val:=val) mixed hE hT f args ⟨[],0⟩ _ _ hs;refine (h3 W.heap.size xy W vs (Pt W) hv).mono λe W' ⟨v,ρ',k1,k2,k3,k4⟩=>?_;refine ⟨?_,k3.below⟩;rw [k1];simp only [VRx,VR,DR] at k4;simp [k4]
theorem FJ:aM Tryz.prog (λ_ _ _=>none):=λf args h r h' hm=>by cases hm
theorem Gj:kz Tryz.prog TP:=eu (oks (by kernel_rfl) (by decide +kernel))
theorem Ec (vs:Array Value)(w:World):(callFunc 343 vs).run Tryz.prog w=.ok (.enter 343 vs) w :=
 aQ Tryz.func343 rfl (by decide) vs w
theorem Qf:aM Tryz.prog E1:=by
 intro f args h r h' hm;simp only [E1] at hm;split at hm
 . rename_i hf;have hf':f=343:=Nat.eq_of_beq_eq_true hf;subst hf';exact ⟨Ec,IA hm,λB ρ w vs hR hv=>LY NF hR hv hm⟩
 . exact fC mixed FJ jY f args h r h' hm
theorem Gi:kz Tryz.prog TO:=eu (oks (by kernel_rfl) (by decide +kernel))
theorem PW:kz Tryz.prog TV:=eu (oks (by kernel_rfl) (by decide +kernel))
theorem PT:kz Tryz.prog TS:=eu (oks (by kernel_rfl) (by decide +kernel))
theorem PU:kz Tryz.prog TU:=eu (oks (by kernel_rfl) (by decide +kernel))
theorem PS:kz Tryz.prog TL:=eu (oks (by kernel_rfl) (by decide +kernel))
theorem PN:kz Tryz.prog TB:=eu (oks (by kernel_rfl) (by decide +kernel))
theorem PQ:kz Tryz.prog TI:=eu (oks (by kernel_rfl) (by decide +kernel))
theorem PO:kz Tryz.prog TD:=eu (oks (by kernel_rfl) (by decide +kernel))
theorem PP:kz Tryz.prog TF:=eu (oks (by kernel_rfl) (by decide +kernel))
theorem vL:kz Tryz.prog TZ:=eu (oks (by kernel_rfl) (by decide +kernel))
theorem PX:kz Tryz.prog TW:=eu (oks (by kernel_rfl) (by decide +kernel))
theorem L9:kz Tryz.prog TN8:=eu (oks (by kernel_rfl) (by decide +kernel))
theorem IR:kz Tryz.prog dM:=eu (oks (by kernel_rfl) (by decide +kernel))
theorem zN:aM Tryz.prog noE:=λf args h r h' hm=>by cases hm
theorem Qg:aM Tryz.prog EO:=λf args h r h' hm=>fC mixed FJ jY f args h r h' hm
theorem WE:aM Tryz.prog Es:=by
 intro f args h r h' hm;simp only [Es] at hm;split at hm
 . exact fC mixed zN PS f args h r h' hm
 . exact fC mixed zN jY f args h r h' hm
theorem WF:aM Tryz.prog Eu:=by
 intro f args h r h' hm;simp only [Eu] at hm;split at hm
 . exact fC mixed WE PT f args h r h' hm
 . exact fC mixed zN jY f args h r h' hm
theorem vM:aM Tryz.prog ET0:=λf args h r h' hm=>fC mixed zN jY f args h r h' hm
theorem I6:aM Tryz.prog Et:=by
 intro f args h r h' hm;simp only [Et] at hm;split at hm
 . exact fC mixed Qf Gj f args h r h' hm
 . cases hm
theorem WB:aM Tryz.prog EV:=by
 intro f args h r h' hm;simp only [EV] at hm;split at hm
 . exact fC mixed WF PU f args h r h' hm
 . exact fC mixed Qg Gi f args h r h' hm
 . exact fC mixed I6 jY f args h r h' hm
theorem WC:aM Tryz.prog EW:=by
 intro f args h r h' hm;simp only [EW] at hm;split at hm
 . have hf':f=173:=Nat.eq_of_beq_eq_true (by assumption);subst hf';exact ⟨λvs w=>aQ Tryz.func173 rfl (by decide) vs w,gG hm,λB ρ w vs hR hv=>iJ F8 Gg Tryz.isAgg51 Tryz.sizeOf51 (λvs w=>aQ Tryz.func224 rfl (by decide) vs w) (by decide) Nr hR hv hm⟩
 . have hf':f=147:=Nat.eq_of_beq_eq_true (by assumption);subst hf';exact ⟨λvs w=>aQ Tryz.func147 rfl (by decide) vs w,gG hm,λB ρ w vs hR hv=>iJ Ga Gc Tryz.isAgg53 Tryz.sizeOf53 (λvs w=>aQ Tryz.func148 rfl (by decide) vs w) (by decide) Ni hR hv hm⟩
 . have hf':f=154:=Nat.eq_of_beq_eq_true (by assumption);subst hf';exact ⟨λvs w=>aQ Tryz.func154 rfl (by decide) vs w,gG hm,λB ρ w vs hR hv=>iJ Gb Gd Tryz.isAgg55 Tryz.sizeOf55 (λvs w=>aQ Tryz.func155 rfl (by decide) vs w) (by decide) Nj hR hv hm⟩
 . have hf':f=159:=Nat.eq_of_beq_eq_true (by assumption);subst hf';exact ⟨λvs w=>aQ Tryz.func159 rfl (by decide) vs w,gG hm,λB ρ w vs hR hv=>iJ F9 Gf Tryz.isAgg58 Tryz.sizeOf58 (λvs w=>aQ Tryz.func160 rfl (by decide) vs w) (by decide) Nk hR hv hm⟩
 . cases hm
theorem IG {args:List V}{h:Hp}{r:V}{h':Hp}(hm:uw Cn 173 args h=some (r,h')) :
 (∀ vs w,(callFunc 173 vs).run Tryz.prog w=.ok (.enter 173 vs) w)/\LowOk h h'/\∀ B ρ w (vs:Array Value),Rel B ρ h w->VRs ρ (St ρ w) w args vs.toList->Calls Tryz.prog 173 vs w (kV B ρ h w r h'):=by
 unfold uw at hm;split at hm
 . exact ⟨λvs w=>aQ Tryz.func173 rfl (by decide) vs w,gG hm,λB ρ w vs hR hv=>iJ Cn Gg Tryz.isAgg51 Tryz.sizeOf51 (λvs w=>aQ Tryz.func174 rfl (by decide) vs w) (by decide) Nl hR hv hm⟩
 . exact fC mixed vM vL 173 args h r h' hm
theorem IJ {args:List V}{h:Hp}{r:V}{h':Hp}(hm:uw Cs 147 args h=some (r,h')) :
 (∀ vs w,(callFunc 147 vs).run Tryz.prog w=.ok (.enter 147 vs) w)/\LowOk h h'/\∀ B ρ w (vs:Array Value),Rel B ρ h w->VRs ρ (St ρ w) w args vs.toList->Calls Tryz.prog 147 vs w (kV B ρ h w r h'):=by
 unfold uw at hm;split at hm
 . exact ⟨λvs w=>aQ Tryz.func147 rfl (by decide) vs w,gG hm,λB ρ w vs hR hv=>iJ Cs Gc Tryz.isAgg53 Tryz.sizeOf53 (λvs w=>aQ Tryz.func177 rfl (by decide) vs w) (by decide) Nn hR hv hm⟩
 . exact fC mixed vM vL 147 args h r h' hm
theorem IK {args:List V}{h:Hp}{r:V}{h':Hp}(hm:uw Ct 154 args h=some (r,h')) :
 (∀ vs w,(callFunc 154 vs).run Tryz.prog w=.ok (.enter 154 vs) w)/\LowOk h h'/\∀ B ρ w (vs:Array Value),Rel B ρ h w->VRs ρ (St ρ w) w args vs.toList->Calls Tryz.prog 154 vs w (kV B ρ h w r h'):=by
 unfold uw at hm;split at hm
 . exact ⟨λvs w=>aQ Tryz.func154 rfl (by decide) vs w,gG hm,λB ρ w vs hR hv=>iJ Ct Gd Tryz.isAgg55 Tryz.sizeOf55 (λvs w=>aQ Tryz.func181 rfl (by decide) vs w) (by decide) Np hR hv hm⟩
 . exact fC mixed vM vL 154 args h r h' hm
theorem II {args:List V}{h:Hp}{r:V}{h':Hp}(hm:uw Cr 159 args h=some (r,h')) :
 (∀ vs w,(callFunc 159 vs).run Tryz.prog w=.ok (.enter 159 vs) w)/\LowOk h h'/\∀ B ρ w (vs:Array Value),Rel B ρ h w->VRs ρ (St ρ w) w args vs.toList->Calls Tryz.prog 159 vs w (kV B ρ h w r h'):=by
 unfold uw at hm;split at hm
 . exact ⟨λvs w=>aQ Tryz.func159 rfl (by decide) vs w,gG hm,λB ρ w vs hR hv=>iJ Cr Gf Tryz.isAgg58 Tryz.sizeOf58 (λvs w=>aQ Tryz.func185 rfl (by decide) vs w) (by decide) Nq hR hv hm⟩
 . exact fC mixed vM vL 159 args h r h' hm
theorem WA:aM Tryz.prog EIC:=by
 intro f args h r h' hm;simp only [EIC] at hm;split at hm
 . exact fC mixed vM PN f args h r h' hm
 . split at hm
   . have hf':f=173:=Nat.eq_of_beq_eq_true (by assumption);subst hf';exact IG hm
   . have hf':f=147:=Nat.eq_of_beq_eq_true (by assumption);subst hf';exact IJ hm
   . have hf':f=154:=Nat.eq_of_beq_eq_true (by assumption);subst hf';exact IK hm
   . have hf':f=159:=Nat.eq_of_beq_eq_true (by assumption);subst hf';exact II hm
   . exact fC mixed I6 jY f args h r h' hm
theorem yT:aM Tryz.prog EQ7:=λf args h r h' hm=>fC mixed WA PQ f args h r h' hm
theorem Wz:aM Tryz.prog EF:=by
 intro f args h r h' hm;simp only [EF] at hm;split at hm
 . exact fC mixed WB PW f args h r h' hm
 . exact fC mixed yT PO f args h r h' hm
 . exact yT f args h r h' hm
theorem QV:aM Tryz.prog ETT:=λf args h r h' hm=>fC mixed I6 jY f args h r h' hm
theorem QU:aM Tryz.prog EA8:=by
 intro f args h r h' hm;simp only [EA8] at hm;split at hm
 . exact fC mixed Qf Gj f args h r h' hm
 . exact fC mixed Qg Gi f args h r h' hm
 . exact fC mixed WC PX f args h r h' hm
 . cases hm
theorem QT:aM Tryz.prog E13:=by
 intro f args h r h' hm;simp only [E13] at hm;split at hm
 . exact Jq f args h r h' hm
 . exact fC mixed QU jY f args h r h' hm
 . exact fC mixed yT L9 f args h r h' hm
 . exact yT f args h r h' hm
 . exact QV f args h r h' hm
 . exact fC mixed Wz PP f args h r h' hm
theorem Edt.wf.le {B B':Nat}(hB:B<=B'){x:Edt}(h:x.wf B):x.wf B':=⟨h.1,h.2.1,Pod.wf.le hB h.2.2.1,Svc.wf.le hB h.2.2.2.1,Way.wf.le h.2.2.2.2.1,Pol.wf.le hB h.2.2.2.2.2⟩
def Evt.wf (B:Nat)(x:Evt):Prop:=Inr .i64 x.does/\Inr .i64 x.i/\x.edit.wf B/\x.addrs.wf B Mg
section
variable {H:Type}{enc:TypeId×Value->H}{w:World}{spare:Nat->Bool}{held:Bool}{B:Nat}
theorem Vt:Rd enc w spare held B 62 Evt.c Evt.wf:=by
 intro fuel cs y h hB;obtain ⟨xs,n,rfl,rfl,hl,hx,hf⟩:=DataW.trod_struct Tryz.underlying62 h;have hl:cs.length=24:=hl.trans (by kernel_rfl);have hx:xs.length=4:=hx;obtain ⟨x0,k0,o0⟩:=aF hf hB (dn (t:=3) Tryz.underlying3) 0 0 1 rfl (by kernel_rfl) (by omega);obtain ⟨x1,k1,o1⟩:=aF hf hB (dn (t:=3) Tryz.underlying3) 1 1 1 rfl (by kernel_rfl) (by omega);obtain ⟨x2,k2,o2⟩:=aF hf hB (Vs) 2 2 21 rfl (by kernel_rfl) (by omega);obtain ⟨x3,k3,o3⟩:=aF hf hB (FY) 3 23 1 rfl (by kernel_rfl) (by omega);refine ⟨⟨x0,x1,x2,x3⟩,?_,⟨o0,o1,o2,o3⟩⟩;show DL _ _ ([i64 x0]++([i64 x1]++(x2.c++([Sl.d bn x3]++[])))) cs;have a4:DL (·<w.heap.size) w [] (cs.drop 24):=DL.nil (by omega);have a3:=DL.app (cs:=cs.drop 23) (n:=1) rfl k3 (by rw [bh]; exact a4);have a2:=DL.app (cs:=cs.drop 2) (n:=21) rfl k2 (by rw [bh]; exact a3);have a1:=DL.app (cs:=cs.drop 1) (n:=1) rfl k1 (by rw [bh]; exact a2);have a0:=DL.app (cs:=cs.drop 0) (n:=1) rfl k0 (by rw [bh]; exact a1);simpa using a0
theorem Pm:Rd enc w spare held B 29 (λs=>[Sl.d Evt.c s]) (λB s=>Sl.wf B Evt.wf s) :=
 fH (z:=24) Tryz.underlying29 (by kernel_rfl) (by decide) (λ_=>rfl) (Vt)
end
namespace feedRow
theorem Pw {W:World}{c:Cfg}{L:Int}{l:Sl Evt}(hc:c.wf 1048576)(hl:Sl.wf 1048576 Evt.wf l){cs:Array Value}{u:Value}(h0:DL (·<W.heap.size) W c.c cs.toList)(h1:DL (·<W.heap.size) W [l.d Evt.c] [u]) :
 Calls Tryz.prog 3 #[.agg cs,.int .u64 L,u] W λe W'=>e=.returned (.bool true)/\Below W.heap.size W W':=by
 refine GX (E:=E13) QT IR (val:=aW) (args:=[c.v,.d (u64 L),.d (l.d Evt.c)]) ?_ (R13 Wx c ⟨hc⟩ L l (cg hl.1.1 (by decide)) (λx hx=>⟨(hl.2 x hx).2.2.1,Edt.wf.le (by decide) (hl.2 x hx).2.2.1,(hl.2 x hx).2.2.2.1.le (by decide)⟩) ⟨[],0⟩);simp only [VRs];exact ⟨_,_,rfl,at5 h0,_,_,rfl,by simp only [VR,DR],_,_,rfl,VS h1,rfl⟩
theorem lifted (os:Os)(started:os.Started)(H:Type)(enc:TypeId×Value->H)(F:Stop.Interp) :
 ReturnsInHanded {} Tryz.checked os 3 .any ((Go.Proofs.YtjeflmaikicdnaaGreat.Rows.OpenSpec.upto Go.Proofs.YtjeflmaikicdnaaGreat.Rows.feedRowSpec).pre6 enc Tryz.prog Tryz.f3 Go.Proofs.YtjeflmaikicdnaaGreat.Rows.feedRowUptoRow.domain false) (((Go.Proofs.YtjeflmaikicdnaaGreat.Rows.OpenSpec.upto Go.Proofs.YtjeflmaikicdnaaGreat.Rows.feedRowSpec).at F).post enc Tryz.prog Tryz.f3 false true false false):=by
 refine returnsInHanded_of_cond (C:=Tryz.checked) (s:=Go.Proofs.YtjeflmaikicdnaaGreat.Rows.OpenSpec.upto Go.Proofs.YtjeflmaikicdnaaGreat.Rows.feedRowSpec) (k:=Go.Proofs.YtjeflmaikicdnaaGreat.Rows.uptoSmall) rfl own started (by kernel_rfl) Tryz.func3
  (OpenSpec.witness (enc:=enc) (C:=Tryz.checked) (s:=Go.Proofs.YtjeflmaikicdnaaGreat.Rows.OpenSpec.upto Go.Proofs.YtjeflmaikicdnaaGreat.Rows.feedRowSpec) (k:=Go.Proofs.YtjeflmaikicdnaaGreat.Rows.uptoSmall) rfl false ⟨#[],#[.agg #[.int .u64 0,.int .u64 0,.int .i64 0,.int .i64 0,.slice none 0 0,.slice none 0 0,.slice none 0 0,.slice none 0 0],.int .u64 0,.slice none 0 0],[]⟩ 8
   (by kernel_rfl) (by kernel_rfl) (by kernel_rfl) (x:=([.agg [.lit (.int .u64 0),.lit (.int .u64 0),.lit (.int .i64 0),.lit (.int .i64 0),.nil,.nil,.nil,.nil],.lit (.int .u64 0),.nil],[],[])) (by kernel_rfl) rfl (by rfl)) ?_
 intro W base args ds gs before hval0 hW hcnd hkk _;have hval:∀ (j:Nat) t v,Tryz.f3.params[j]?=some t->args[j]?=some v->Value.okWide Tryz.prog W .any base t v:=hval0;have hW':=hW;obtain ⟨p,q,hA0,hV,rfl,hfz,hnd⟩:=hW;have hA:DataW.TrodAll enc Tryz.prog W 0 (λ_=>true) true Tryz.f3.params.toList args.toList ds p:=hA0;rw [Tryz.params3] at hA hval;obtain ⟨v0,vs1,d0,ds1,p0,q1,ha1,rfl,rfl,h0,hA⟩:=trodAll_cons hA;obtain ⟨v1,vs2,d1,ds2,p1,q2,rfl,rfl,rfl,h1,hA⟩:=trodAll_cons hA;obtain ⟨v2,vs3,d2,ds3,p2,q3,rfl,rfl,rfl,h2,hA⟩:=trodAll_cons hA;obtain ⟨rfl,rfl,rfl⟩:=trodAll_nil hA;have hargs:args=#[v0,v1,v2]:=by apply Array.ext'; simpa using ha1
 subst hargs;obtain ⟨rfl,rfl⟩:=trodVars_none hV;have hsm:bulks [d0,d1,d2]<=1048576:=by simpa [Go.Proofs.YtjeflmaikicdnaaGreat.Rows.uptoSmall] using hkk
 obtain ⟨ca,rfl,hca⟩:=okWide_struct Tryz.underlying28 (hval 0 28 v0 rfl rfl);obtain ⟨L,rfl,rfl,rfl,wb⟩:=open_int Tryz.underlying22 (hval 1 22 v1 rfl rfl) h1;obtain ⟨sa,sn,sc,rfl⟩:=okWide_slice Tryz.underlying29 (hval 2 29 v2 rfl rfl);have hlt0:∀ x∈p0,x.block<W.heap.size:=λx hx=>hW'.lt x (by simp [hx]);have hlt2:∀ x∈p2,x.block<W.heap.size:=λx hx=>hW'.lt x (by simp [hx]);have h0':=h0;have h2':=h2;obtain ⟨f0,g0⟩:=h0;obtain ⟨f2,g2⟩:=h2;obtain ⟨c,a1,a2⟩:=Vr (B:=1048576) _ _ _ g0 (ch (oH (by simp)) hsm);obtain ⟨l,b1,b2⟩:=Pm (B:=1048576) _ _ _ g2 (ch (oH (by simp)) hsm);refine (Pw a2 b2 a1 b1).mono λe W' ⟨he,hb⟩=>?_;subst he;have k0:=Below.trod laidOut (by kernel_rfl) (of_decide_eq_true (by kernel_rfl)) h0' hb hlt0;have k2:=Below.trod laidOut (by kernel_rfl) (of_decide_eq_true (by kernel_rfl)) h2' hb hlt2;have kA:=trodAll_cons_mk k0 (trodAll_cons_mk (shut_int Tryz.underlying22 wb) (trodAll_mk1 k2));exact ⟨_,rfl,_,_,_,[],_,[],hW',trodAll_mk1 (shut_bool Tryz.underlying4 true),kA,rfl,hb.frame _,λh=>by cases h⟩
theorem proved:Go.Proofs.YtjeflmaikicdnaaGreat.Rows.FeedRowUptoSaid :=
 OpenClaim.holds_of_cond 3 Tryz.f3 rfl rfl rfl rfl rfl rfl rfl ⟨rfl,rfl,rfl,rfl,rfl⟩ rfl rfl rfl rfl rfl named Tryz.func3 facts
  (of_decide_eq_true (by kernel_rfl)) (by unfold Func.isWrapper; first | (rw [if_pos (by decide +kernel)]; kernel_rfl) | (rw [if_neg (by decide +kernel)]; exact ⟨rfl,rfl⟩))
  (λos started H enc _ F=>lifted os started H enc F)
end feedRow
