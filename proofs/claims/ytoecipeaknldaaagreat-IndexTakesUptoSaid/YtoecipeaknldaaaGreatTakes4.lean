/- IndexTakes's row: what any push makes of any index, how it is answered, what is known of any address, any workload, are the document's; it stays; of bulk at most 1048576 together. -/
import Derived.Test.YtoecipeaknldaaaGreatCx
import Derived.Test.YtoecipeaknldaaaGreatRdv
import Derived.Test.YtoecipeaknldaaaGreatLay
import Derived.Test.YtoecipeaknldaaaGreatLax
import Derived.Test.YtoecipeaknldaaaGreatFacts4
import Derived.Carry
set_option linter.unusedVariables false
set_option maxRecDepth 100000
namespace Go.Proofs.YtoecipeaknldaaaGreat
open Go.ChangeShapes Go.WideShapes Go.ChangeAt Go.RowKit
def ve:Rh:=⟨λ_=>0,λ_=>False,λ_=>False,λ_=>False,λ_=>False⟩
theorem Km (w:World):Rel w.heap.size ve ⟨[],0⟩ w where
 dom i h:=h.elim
 ln i h:=h.elim
 live i hi:=by simp at hi
 lo i h:=h.elim
 base:=bp _
 inj i j _ h:=h.elim
 mem i hi:=by simp at hi
 xB b h:=h.elim
 gB b h:=h.elim
theorem st0 {w:World}{b:Nat}:St ve w b↔b<w.heap.size:=⟨λh=>h.1,λh=>⟨h,λi=>⟨λhi=>hi.elim,λhx=>hx⟩⟩⟩
theorem DL.vrs {w:World}:∀ {ds:List D} {cs:List Value},DL (·<w.heap.size) w ds cs->VRs ve (St ve w) w (ds.map .d) cs/\∀ u∈cs,u.oneCell'=true
 | [],cs,h=>by simp only [DL] at h; subst h; exact ⟨by simp only [List.map_nil,VRs],by simp⟩
 | d::ds,cs,h=>by
  simp only [DL] at h;obtain ⟨u,us,rfl,h1,h2⟩:=h;have ih:=DL.vrs h2;refine ⟨by simp only [cn,VRs]; exact ⟨u,us,rfl,by simp only [VR]; exact DR.mono (λb hb=>st0.2 hb) (λ_ _=>rfl) h1,ih.1⟩,?_⟩;intro x hx;obtain rfl | hx:=List.mem_cons.1 hx
  . exact h1.one
  . exact ih.2 x hx
theorem Lu {w:World}{ds:List D}{cs:Array Value}(h:DL (·<w.heap.size) w ds cs.toList):VR ve (St ve w) w (ag ds) (.agg cs):=by
 simp only [ag,VR];exact ⟨cs,rfl,h.vrs.1,h.vrs.2⟩
theorem ax4 {w:World}{d:D}{v:Value}(h:DL (·<w.heap.size) w [d] [v]):VR ve (St ve w) w (.d d) v:=by
 have:=h.vrs.1;simp only [cn,List.map_nil,VRs] at this;obtain ⟨u,us,e,h1,_⟩:=this;simp at e;rw [e.1]; exact h1
theorem own:ownKnob Tryz.prog.godebug=none:=by kernel_rfl
theorem mixed:Tryz.prog.follows .mixedOrders=true:=Checked.mixed Tryz.checked
theorem Fu:aP Tryz.prog (known 6 true):=Gj mixed (Tab.look_ok KF) Gx (by kernel_rfl) Dt
theorem DX {E:Calls'}(hE:aP Tryz.prog E){T:FuncId->Option QF}{val:FuncId->Bool}(hT:kN Tryz.prog T){f:FuncId}{args:List V}{W:World}{vs:Array Value}(hv:VRs ve (St ve W) W args vs.toList)(hs:Sm E T val f args ⟨[],0⟩=some (bl true,⟨[],0⟩)) :
 Calls Tryz.prog f vs W λe W'=>e=.returned (.bool true)/\Below W.heap.size W W':=by
 obtain ⟨_,_,h3⟩:=gT (val:=val) mixed hE hT f args ⟨[],0⟩ _ _ hs;refine (h3 W.heap.size ve W vs (Km W) hv).mono λe W' ⟨v,ρ',k1,k2,k3,k4⟩=>?_;refine ⟨?_,k3.below⟩;rw [k1];simp only [VRx,VR,DR] at k4;simp [k4]
theorem Jp:aP Tryz.prog (λ_ _ _=>none):=λf args h r h' hm=>by cases hm
theorem KG:kN Tryz.prog TP:=dZ (oks (by kernel_rfl) (by decide +kernel))
theorem BN (vs:Array Value)(w:World):(callFunc 252 vs).run Tryz.prog w=.ok (.enter 252 vs) w :=
 bM Tryz.func252 rfl (by decide) vs w
theorem Pv:aP Tryz.prog E1:=by
 intro f args h r h' hm;simp only [E1] at hm;split at hm
 . rename_i hf;have hf':f=252:=Nat.eq_of_beq_eq_true hf;subst hf';exact ⟨BN,EE hm,λB ρ w vs hR hv=>H6 Jh hR hv hm⟩
 . exact gT mixed Jp yF f args h r h' hm
theorem Ij:kN Tryz.prog TVq:=dZ (oks (by kernel_rfl) (by decide +kernel))
theorem KI:kN Tryz.prog TX:=dZ (oks (by kernel_rfl) (by decide +kernel))
theorem yE:kN Tryz.prog TI:=dZ (oks (by kernel_rfl) (by decide +kernel))
theorem qR:kN Tryz.prog TZy:=dZ (oks (by kernel_rfl) (by decide +kernel))
theorem Ii:kN Tryz.prog TSd:=dZ (oks (by kernel_rfl) (by decide +kernel))
theorem Ia:kN Tryz.prog TDp:=dZ (oks (by kernel_rfl) (by decide +kernel))
theorem Ib:kN Tryz.prog TDq:=dZ (oks (by kernel_rfl) (by decide +kernel))
theorem Ic:kN Tryz.prog TDr:=dZ (oks (by kernel_rfl) (by decide +kernel))
theorem Ie:kN Tryz.prog TDy:=dZ (oks (by kernel_rfl) (by decide +kernel))
theorem Ig:kN Tryz.prog TDz:=dZ (oks (by kernel_rfl) (by decide +kernel))
theorem Ih:kN Tryz.prog TL4:=dZ (oks (by kernel_rfl) (by decide +kernel))
theorem xG:aP Tryz.prog noE:=λf args h r h' hm=>by cases hm
theorem tZ:aP Tryz.prog ET0:=λf args h r h' hm=>gT mixed xG yF f args h r h' hm
theorem Pz:aP Tryz.prog Et:=by
 intro f args h r h' hm;simp only [Et] at hm;split at hm
 . exact gT mixed Pv KG f args h r h' hm
 . cases hm
theorem uf:aP Tryz.prog ET5:=λf args h r h' hm=>gT mixed Pz yF f args h r h' hm
theorem AL:aP Tryz.prog (EX1 ET5):=λf args h r h' hm=>gT mixed uf KI f args h r h' hm
theorem EI {args:List V}{h:Hp}{r:V}{h':Hp}(hm:rV Aj 97 args h=some (r,h')) :
 (∀ vs w,(callFunc 97 vs).run Tryz.prog w=.ok (.enter 97 vs) w)/\LowOk h h'/\∀ B ρ w (vs:Array Value),Rel B ρ h w->VRs ρ (St ρ w) w args vs.toList->Calls Tryz.prog 97 vs w (kF B ρ h w r h'):=by
 unfold rV at hm;split at hm
 . exact ⟨λvs w=>bM Tryz.func97 rfl (by decide) vs w,mf hm,λB ρ w vs hR hv=>nU Aj OP Tryz.isAgg50 Tryz.sizeOf50 (λvs w=>bM Tryz.func98 rfl (by decide) vs w) (by decide) MH hR hv hm⟩
 . exact gT mixed tZ qR 97 args h r h' hm
theorem EL {args:List V}{h:Hp}{r:V}{h':Hp}(hm:rV Al 104 args h=some (r,h')) :
 (∀ vs w,(callFunc 104 vs).run Tryz.prog w=.ok (.enter 104 vs) w)/\LowOk h h'/\∀ B ρ w (vs:Array Value),Rel B ρ h w->VRs ρ (St ρ w) w args vs.toList->Calls Tryz.prog 104 vs w (kF B ρ h w r h'):=by
 unfold rV at hm;split at hm
 . exact ⟨λvs w=>bM Tryz.func104 rfl (by decide) vs w,mf hm,λB ρ w vs hR hv=>nU Al Kt Tryz.isAgg52 Tryz.sizeOf52 (λvs w=>bM Tryz.func105 rfl (by decide) vs w) (by decide) IZ hR hv hm⟩
 . exact gT mixed tZ qR 104 args h r h' hm
theorem EM {args:List V}{h:Hp}{r:V}{h':Hp}(hm:rV Am 110 args h=some (r,h')) :
 (∀ vs w,(callFunc 110 vs).run Tryz.prog w=.ok (.enter 110 vs) w)/\LowOk h h'/\∀ B ρ w (vs:Array Value),Rel B ρ h w->VRs ρ (St ρ w) w args vs.toList->Calls Tryz.prog 110 vs w (kF B ρ h w r h'):=by
 unfold rV at hm;split at hm
 . exact ⟨λvs w=>bM Tryz.func110 rfl (by decide) vs w,mf hm,λB ρ w vs hR hv=>nU Am Ku Tryz.isAgg54 Tryz.sizeOf54 (λvs w=>bM Tryz.func111 rfl (by decide) vs w) (by decide) I1 hR hv hm⟩
 . exact gT mixed tZ qR 110 args h r h' hm
theorem EJ {args:List V}{h:Hp}{r:V}{h':Hp}(hm:rV Ak 117 args h=some (r,h')) :
 (∀ vs w,(callFunc 117 vs).run Tryz.prog w=.ok (.enter 117 vs) w)/\LowOk h h'/\∀ B ρ w (vs:Array Value),Rel B ρ h w->VRs ρ (St ρ w) w args vs.toList->Calls Tryz.prog 117 vs w (kF B ρ h w r h'):=by
 unfold rV at hm;split at hm
 . exact ⟨λvs w=>bM Tryz.func117 rfl (by decide) vs w,mf hm,λB ρ w vs hR hv=>nU Ak Kv Tryz.isAgg63 Tryz.sizeOf63 (λvs w=>bM Tryz.func118 rfl (by decide) vs w) (by decide) I4 hR hv hm⟩
 . exact gT mixed tZ qR 117 args h r h' hm
theorem LG:aP Tryz.prog ES4:=by
 intro f args h r h' hm;simp only [ES4] at hm;split at hm
 . exact gT mixed uf yE f args h r h' hm
 . split at hm
   . have hf':f=97:=Nat.eq_of_beq_eq_true (by assumption);subst hf';exact EI hm
   . have hf':f=104:=Nat.eq_of_beq_eq_true (by assumption);subst hf';exact EL hm
   . have hf':f=110:=Nat.eq_of_beq_eq_true (by assumption);subst hf';exact EM hm
   . have hf':f=117:=Nat.eq_of_beq_eq_true (by assumption);subst hf';exact EJ hm
   . exact tZ f args h r h' hm
theorem LB:aP Tryz.prog EP4:=by
 intro f args h r h' hm;simp only [EP4] at hm;split at hm
 . exact gT mixed xG yE f args h r h' hm
 . exact AL f args h r h' hm
theorem LD:aP Tryz.prog EQ4:=by
 intro f args h r h' hm;simp only [EQ4] at hm;split at hm
 . exact gT mixed AL Ij f args h r h' hm
 . exact gT mixed LB Ia f args h r h' hm
 . exact AL f args h r h' hm
theorem LF:aP Tryz.prog ER4:=by
 intro f args h r h' hm;simp only [ER4] at hm;split at hm
 . exact gT mixed xG yE f args h r h' hm
 . exact uf f args h r h' hm
theorem Pw:aP Tryz.prog E4:=by
 intro f args h r h' hm;simp only [E4] at hm;split at hm
 . exact Fu f args h r h' hm
 . exact gT mixed LG Ii f args h r h' hm
 . exact gT mixed uf Ie f args h r h' hm
 . exact gT mixed xG Ig f args h r h' hm
 . split at hm
   . exact gT mixed LF Ic f args h r h' hm
   . exact gT mixed LD Ib f args h r h' hm
   . exact uf f args h r h' hm
def AA (B:Nat)(n:Int):Prop:=Inr .u64 n
def Dlt.wf (B:Nat)(c:Dlt):Prop:=Inr .u64 c.epoch/\c.covers.wf B Dc/\c.pods.wf B Pod.wf/\c.services.wf B Svc.wf/\c.bound.wf B Way.wf/\c.policies.wf B Pol.wf/\c.gonePods.wf B AA/\c.goneServices.wf B AA/\c.goneBound.wf B AA/\c.gonePolicies.wf B AA
def Psh.wf (B:Nat)(p:Psh):Prop:=p.delta.wf B
def Idx.wf (B:Nat)(x:Idx):Prop:=x.addrs.wf B Dc/\x.view.wf B
theorem Dlt.wf.ok {B:Nat}{c:Dlt}(h:c.wf B)(hB:B<=big):c.ok:=by
 obtain ⟨h0,h1,h2,h3,h4,h5,h6,h7,h8,h9⟩:=h;exact ⟨Vw.wf.ok (c:=c.vw) ⟨h0,h1,h2,h3,h4,h5⟩ hB,h6.1.le hB,h7.1.le hB,h8.1.le hB,h9.1.le hB⟩
theorem Idx.wf.whole {x:Idx}(h:x.wf 1048576):Whole x:=⟨h.1.1.le (by decide),Vw.wf.ok h.2 (by decide),λq hq=>Pol.wf.le (by decide) (h.2.2.2.2.2.2.2 q hq)⟩
theorem Psh.wf.whole {p:Psh}(h:p.wf 1048576):WholeP p:=⟨Dlt.wf.ok h (by decide),λq hq=>Pol.wf.le (by decide) (h.2.2.2.2.2.1.2 q hq),ce h.2.2.1.1.1 (by decide),ce h.2.2.2.1.1.1 (by decide),ce h.2.2.2.2.1.1.1 (by decide),ce h.2.2.2.2.2.1.1.1 (by decide)⟩
section
variable {H:Type}{enc:TypeId×Value->H}{w:World}{spare:Nat->Bool}{held:Bool}{B:Nat}
theorem tT:Rd enc w spare held B 32 (λs=>[Sl.d aR s]) (λB s=>Sl.wf B AA s) :=
 eO (z:=1) Tryz.underlying32 (by kernel_rfl) (by decide) (λ_=>rfl) (bD Tryz.underlying22)
theorem Oz:Rd enc w spare held B 34 Dlt.c Dlt.wf:=by
 intro fuel cs y h hB;obtain ⟨xs,n,rfl,rfl,hl,hx,hf⟩:=DataW.trod_struct Tryz.underlying34 h;have hl:cs.length=10:=hl.trans (by kernel_rfl);have hx:xs.length=10:=hx;obtain ⟨x0,k0,o0⟩:=aC hf hB (bD (t:=22) Tryz.underlying22) 0 0 1 rfl (by kernel_rfl) (by omega);obtain ⟨x1,k1,o1⟩:=aC hf hB (yc) 1 1 1 rfl (by kernel_rfl) (by omega);obtain ⟨x2,k2,o2⟩:=aC hf hB (xW) 2 2 1 rfl (by kernel_rfl) (by omega);obtain ⟨x3,k3,o3⟩:=aC hf hB (xY) 3 3 1 rfl (by kernel_rfl) (by omega);obtain ⟨x4,k4,o4⟩:=aC hf hB (xZ) 4 4 1 rfl (by kernel_rfl) (by omega);obtain ⟨x5,k5,o5⟩:=aC hf hB (xX) 5 5 1 rfl (by kernel_rfl) (by omega);obtain ⟨x6,k6,o6⟩:=aC hf hB (tT) 6 6 1 rfl (by kernel_rfl) (by omega);obtain ⟨x7,k7,o7⟩:=aC hf hB (tT) 7 7 1 rfl (by kernel_rfl) (by omega);obtain ⟨x8,k8,o8⟩:=aC hf hB (tT) 8 8 1 rfl (by kernel_rfl) (by omega);obtain ⟨x9,k9,o9⟩:=aC hf hB (tT) 9 9 1 rfl (by kernel_rfl) (by omega);refine ⟨⟨x0,x1,x2,x3,x4,x5,x6,x7,x8,x9⟩,?_,⟨o0,o1,o2,o3,o4,o5,o6,o7,o8,o9⟩⟩;show DL _ _ ([u64 x0]++([Sl.d bz x1]++([Sl.d Pod.c x2]++([Sl.d Svc.c x3]++([Sl.d Way.c x4]++([Sl.d Pol.c x5]++([Sl.d aR x6]++([Sl.d aR x7]++([Sl.d aR x8]++([Sl.d aR x9]++([]))))))))))) cs;have a10:DL (·<w.heap.size) w [] (cs.drop 10):=DL.nil (by omega);have a9:=DL.app (cs:=cs.drop 9) (n:=1) rfl k9 (by rw [be]; exact a10)
 have a8:=DL.app (cs:=cs.drop 8) (n:=1) rfl k8 (by rw [be]; exact a9);have a7:=DL.app (cs:=cs.drop 7) (n:=1) rfl k7 (by rw [be]; exact a8);have a6:=DL.app (cs:=cs.drop 6) (n:=1) rfl k6 (by rw [be]; exact a7);have a5:=DL.app (cs:=cs.drop 5) (n:=1) rfl k5 (by rw [be]; exact a6);have a4:=DL.app (cs:=cs.drop 4) (n:=1) rfl k4 (by rw [be]; exact a5);have a3:=DL.app (cs:=cs.drop 3) (n:=1) rfl k3 (by rw [be]; exact a4);have a2:=DL.app (cs:=cs.drop 2) (n:=1) rfl k2 (by rw [be]; exact a3);have a1:=DL.app (cs:=cs.drop 1) (n:=1) rfl k1 (by rw [be]; exact a2);have a0:=DL.app (cs:=cs.drop 0) (n:=1) rfl k0 (by rw [be]; exact a1);simpa using a0
theorem OD:Rd enc w spare held B 36 Psh.c Psh.wf:=by
 intro fuel cs y h hB;obtain ⟨xs,n,rfl,rfl,hl,hx,hf⟩:=DataW.trod_struct Tryz.underlying36 h;have hl:cs.length=14:=hl.trans (by kernel_rfl);have hx:xs.length=5:=hx;obtain ⟨x0,k0,o0⟩:=aC hf hB (bD (t:=22) Tryz.underlying22) 0 0 1 rfl (by kernel_rfl) (by omega);obtain ⟨x1,k1,o1⟩:=aC hf hB (bD (t:=22) Tryz.underlying22) 1 1 1 rfl (by kernel_rfl) (by omega);obtain ⟨x2,k2,o2⟩:=aC hf hB (bD (t:=22) Tryz.underlying22) 2 2 1 rfl (by kernel_rfl) (by omega);obtain ⟨x3,k3,o3⟩:=aC hf hB (bD (t:=22) Tryz.underlying22) 3 3 1 rfl (by kernel_rfl) (by omega);obtain ⟨x4,k4,o4⟩:=aC hf hB (Oz) 4 4 10 rfl (by kernel_rfl) (by omega);refine ⟨⟨x0,x1,x2,x3,x4⟩,?_,o4⟩;show DL _ _ ([u64 x0]++([u64 x1]++([u64 x2]++([u64 x3]++(x4.c++([])))))) cs;have a5:DL (·<w.heap.size) w [] (cs.drop 14):=DL.nil (by omega);have a4:=DL.app (cs:=cs.drop 4) (n:=10) rfl k4 (by rw [be]; exact a5);have a3:=DL.app (cs:=cs.drop 3) (n:=1) rfl k3 (by rw [be]; exact a4);have a2:=DL.app (cs:=cs.drop 2) (n:=1) rfl k2 (by rw [be]; exact a3);have a1:=DL.app (cs:=cs.drop 1) (n:=1) rfl k1 (by rw [be]; exact a2);have a0:=DL.app (cs:=cs.drop 0) (n:=1) rfl k0 (by rw [be]; exact a1);simpa using a0
theorem OA:Rd enc w spare held B 31 Idx.c Idx.wf:=by
 intro fuel cs y h hB;obtain ⟨xs,n,rfl,rfl,hl,hx,hf⟩:=DataW.trod_struct Tryz.underlying31 h;have hl:cs.length=14:=hl.trans (by kernel_rfl);have hx:xs.length=9:=hx;obtain ⟨x0,k0,o0⟩:=aC hf hB (bD (t:=3) Tryz.underlying3) 0 0 1 rfl (by kernel_rfl) (by omega);obtain ⟨x1,k1,o1⟩:=aC hf hB (bD (t:=22) Tryz.underlying22) 1 1 1 rfl (by kernel_rfl) (by omega);obtain ⟨x2,k2,o2⟩:=aC hf hB (bD (t:=22) Tryz.underlying22) 2 2 1 rfl (by kernel_rfl) (by omega);obtain ⟨x3,k3,o3⟩:=aC hf hB (yc) 3 3 1 rfl (by kernel_rfl) (by omega);obtain ⟨x4,k4,o4⟩:=aC hf hB (bD (t:=22) Tryz.underlying22) 4 4 1 rfl (by kernel_rfl) (by omega);obtain ⟨x5,k5,o5⟩:=aC hf hB (bD (t:=22) Tryz.underlying22) 5 5 1 rfl (by kernel_rfl) (by omega);obtain ⟨x6,k6,o6⟩:=aC hf hB (bD (t:=22) Tryz.underlying22) 6 6 1 rfl (by kernel_rfl) (by omega);obtain ⟨x7,k7,o7⟩:=aC hf hB (Us) 7 7 6 rfl (by kernel_rfl) (by omega);obtain ⟨x8,k8,o8⟩:=aC hf hB (bD (t:=22) Tryz.underlying22) 8 13 1 rfl (by kernel_rfl) (by omega);refine ⟨⟨x0,x1,x2,x3,x4,x5,x6,x7,x8⟩,?_,⟨o3,o7⟩⟩;show DL _ _ ([i64 x0]++([u64 x1]++([u64 x2]++([Sl.d bz x3]++([u64 x4]++([u64 x5]++([u64 x6]++(x7.c++([u64 x8]++([])))))))))) cs;have a9:DL (·<w.heap.size) w [] (cs.drop 14):=DL.nil (by omega);have a8:=DL.app (cs:=cs.drop 13) (n:=1) rfl k8 (by rw [be]; exact a9);have a7:=DL.app (cs:=cs.drop 7) (n:=6) rfl k7 (by rw [be]; exact a8)
 have a6:=DL.app (cs:=cs.drop 6) (n:=1) rfl k6 (by rw [be]; exact a7);have a5:=DL.app (cs:=cs.drop 5) (n:=1) rfl k5 (by rw [be]; exact a6);have a4:=DL.app (cs:=cs.drop 4) (n:=1) rfl k4 (by rw [be]; exact a5);have a3:=DL.app (cs:=cs.drop 3) (n:=1) rfl k3 (by rw [be]; exact a4);have a2:=DL.app (cs:=cs.drop 2) (n:=1) rfl k2 (by rw [be]; exact a3);have a1:=DL.app (cs:=cs.drop 1) (n:=1) rfl k1 (by rw [be]; exact a2);have a0:=DL.app (cs:=cs.drop 0) (n:=1) rfl k0 (by rw [be]; exact a1);simpa using a0
end
namespace indexTakes
theorem ET {W:World}{x:Idx}{p:Psh}{n k:Int}(hx:x.wf 1048576)(hp:p.wf 1048576){cs us:Array Value}(h0:DL (·<W.heap.size) W x.c cs.toList)(h1:DL (·<W.heap.size) W p.c us.toList) :
 Calls Tryz.prog 3 #[.agg cs,.agg us,.int .u32 n,.int .u64 k] W λe W'=>e=.returned (.bool true)/\Below W.heap.size W W':=by
 refine DX (E:=E4) Pw Ih (val:=nZ) (args:=[x.v,ag p.c,.d (u32 n),.d (u64 k)]) ?_ (R4 hx.whole hp.whole n k ⟨[],0⟩);simp only [VRs];exact ⟨_,_,rfl,Lu h0,_,_,rfl,Lu h1,_,_,rfl,by simp only [VR,DR],_,_,rfl,by simp only [VR,DR],rfl⟩
theorem lifted (os:Os)(started:os.Started)(H:Type)(enc:TypeId×Value->H)(F:Stop.Interp) :
 ReturnsInHanded {} Tryz.checked os 3 .any ((Go.Proofs.YtoecipeaknldaaaGreat.Rows.OpenSpec.upto Go.Proofs.YtoecipeaknldaaaGreat.Rows.indexTakesSpec).pre6 enc Tryz.prog Tryz.f3 Go.Proofs.YtoecipeaknldaaaGreat.Rows.indexTakesUptoRow.domain false) (((Go.Proofs.YtoecipeaknldaaaGreat.Rows.OpenSpec.upto Go.Proofs.YtoecipeaknldaaaGreat.Rows.indexTakesSpec).at F).post enc Tryz.prog Tryz.f3 false true false false):=by
 refine returnsInHanded_of_cond (C:=Tryz.checked) (s:=Go.Proofs.YtoecipeaknldaaaGreat.Rows.OpenSpec.upto Go.Proofs.YtoecipeaknldaaaGreat.Rows.indexTakesSpec) (k:=Go.Proofs.YtoecipeaknldaaaGreat.Rows.uptoSmall) rfl own started (by kernel_rfl) Tryz.func3
  (OpenSpec.witness (enc:=enc) (C:=Tryz.checked) (s:=Go.Proofs.YtoecipeaknldaaaGreat.Rows.OpenSpec.upto Go.Proofs.YtoecipeaknldaaaGreat.Rows.indexTakesSpec) (k:=Go.Proofs.YtoecipeaknldaaaGreat.Rows.uptoSmall) rfl false ⟨#[],#[.agg #[.int .i64 0,.int .u64 0,.int .u64 0,.slice none 0 0,.int .u64 0,.int .u64 0,.int .u64 0,.int .u64 0,.slice none 0 0,.slice none 0 0,.slice none 0 0,.slice none 0 0,.slice none 0 0,.int .u64 0],.agg #[.int .u64 0,.int .u64 0,.int .u64 0,.int .u64 0,.int .u64 0,.slice none 0 0,.slice none 0 0,.slice none 0 0,.slice none 0 0,.slice none 0 0,.slice none 0 0,.slice none 0 0,.slice none 0 0,.slice none 0 0],.int .u32 0,.int .u64 0],[]⟩ 8
   (by kernel_rfl) (by kernel_rfl) (by kernel_rfl) (x:=([.agg [.lit (.int .i64 0),.lit (.int .u64 0),.lit (.int .u64 0),.nil,.lit (.int .u64 0),.lit (.int .u64 0),.lit (.int .u64 0),.agg [.lit (.int .u64 0),.nil,.nil,.nil,.nil,.nil],.lit (.int .u64 0)],.agg [.lit (.int .u64 0),.lit (.int .u64 0),.lit (.int .u64 0),.lit (.int .u64 0),.agg [.lit (.int .u64 0),.nil,.nil,.nil,.nil,.nil,.nil,.nil,.nil,.nil]],.lit (.int .u32 0),.lit (.int .u64 0)],[],[])) (by kernel_rfl) rfl (by rfl)) ?_
 intro W base args ds gs before hval0 hW hcnd hkk _;have hval:∀ (j:Nat) t v,Tryz.f3.params[j]?=some t->args[j]?=some v->Value.okWide Tryz.prog W .any base t v:=hval0;have hW':=hW;obtain ⟨p,q,hA0,hV,rfl,hfz,hnd⟩:=hW;have hA:DataW.TrodAll enc Tryz.prog W 0 (λ_=>true) true Tryz.f3.params.toList args.toList ds p:=hA0;rw [Tryz.params3] at hA hval;obtain ⟨v0,vs1,d0,ds1,p0,q1,ha1,rfl,rfl,h0,hA⟩:=trodAll_cons hA;obtain ⟨v1,vs2,d1,ds2,p1,q2,rfl,rfl,rfl,h1,hA⟩:=trodAll_cons hA;obtain ⟨v2,vs3,d2,ds3,p2,q3,rfl,rfl,rfl,h2,hA⟩:=trodAll_cons hA;obtain ⟨v3,vs4,d3,ds4,p3,q4,rfl,rfl,rfl,h3,hA⟩:=trodAll_cons hA;obtain ⟨rfl,rfl,rfl⟩:=trodAll_nil hA;have hargs:args=#[v0,v1,v2,v3]:=by apply Array.ext'; simpa using ha1
 subst hargs;obtain ⟨rfl,rfl⟩:=trodVars_none hV;have hsm:bulks [d0,d1,d2,d3]<=1048576:=by simpa [Go.Proofs.YtoecipeaknldaaaGreat.Rows.uptoSmall] using hkk
 obtain ⟨ca,rfl,hca⟩:=okWide_struct Tryz.underlying31 (hval 0 31 v0 rfl rfl);obtain ⟨ua,rfl,hua⟩:=okWide_struct Tryz.underlying36 (hval 1 36 v1 rfl rfl);obtain ⟨a,rfl,rfl,rfl,wa⟩:=open_int Tryz.underlying37 (hval 2 37 v2 rfl rfl) h2;obtain ⟨b,rfl,rfl,rfl,wb⟩:=open_int Tryz.underlying22 (hval 3 22 v3 rfl rfl) h3;have hlt0:∀ x∈p0,x.block<W.heap.size:=λx hx=>hW'.lt x (by simp [hx]);have hlt1:∀ x∈p1,x.block<W.heap.size:=λx hx=>hW'.lt x (by simp [hx]);have h0':=h0;have h1':=h1;obtain ⟨f0,g0⟩:=h0;obtain ⟨f1,g1⟩:=h1;obtain ⟨x,a1,a2⟩:=OA (B:=1048576) _ _ _ g0 (cf (mG (by simp)) hsm);obtain ⟨y,b1,b2⟩:=OD (B:=1048576) _ _ _ g1 (cf (mG (by simp)) hsm);refine (ET a2 b2 a1 b1).mono λe W' ⟨he,hb⟩=>?_;subst he;have k0:=Below.trod laidOut (by kernel_rfl) (of_decide_eq_true (by kernel_rfl)) h0' hb hlt0;have k1:=Below.trod laidOut (by kernel_rfl) (of_decide_eq_true (by kernel_rfl)) h1' hb hlt1;have kA:=trodAll_cons_mk k0 (trodAll_cons_mk k1 (trodAll_cons_mk (shut_int Tryz.underlying37 wa) (trodAll_mk1 (shut_int Tryz.underlying22 wb))));exact ⟨_,rfl,_,_,_,[],_,[],hW',trodAll_mk1 (shut_bool Tryz.underlying4 true),kA,rfl,hb.frame _,λh=>by cases h⟩
theorem proved:Go.Proofs.YtoecipeaknldaaaGreat.Rows.IndexTakesUptoSaid :=
 OpenClaim.holds_of_cond 3 Tryz.f3 rfl rfl rfl rfl rfl rfl rfl ⟨rfl,rfl,rfl,rfl,rfl⟩ rfl rfl rfl rfl rfl named Tryz.func3 facts
  (of_decide_eq_true (by kernel_rfl)) (by unfold Func.isWrapper; first | (rw [if_pos (by decide +kernel)]; kernel_rfl) | (rw [if_neg (by decide +kernel)]; exact ⟨rfl,rfl⟩))
  (λos started H enc _ F=>lifted os started H enc F)
end indexTakes
