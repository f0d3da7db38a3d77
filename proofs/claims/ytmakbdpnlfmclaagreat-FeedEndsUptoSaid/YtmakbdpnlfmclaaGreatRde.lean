/- An edit as an argument, read as data. -/
import Derived.Test.YtmakbdpnlfmclaaGreatRdx
import Derived.Test.YtmakbdpnlfmclaaGreatWe
set_option linter.unusedSimpArgs false
set_option maxRecDepth 100000
set_option linter.unusedVariables false
namespace Go.Proofs.YtmakbdpnlfmclaaGreat
section
open Go.ChangeShapes Go.WideShapes Go.ChangeAt Go.RowKit
section
variable {H:Type}{enc:TypeId×Value->H}{w:World}{spare:Nat->Bool}{held:Bool}{B:Nat}
theorem Vn:Rd enc w spare held B 63 Edt.c Edt.wf:=by
 intro fuel cs y h hB;obtain ⟨xs,n,rfl,rfl,hl,hx,hf⟩:=DataW.trod_struct Tryz.underlying63 h;have hl:cs.length=21:=hl.trans (by kernel_rfl);have hx:xs.length=6:=hx;obtain ⟨x0,k0,o0⟩:=aH hf hB (dw (t:=3) Tryz.underlying3) 0 0 1 rfl (by kernel_rfl) (by omega);obtain ⟨x1,k1,o1⟩:=aH hf hB (dw (t:=22) Tryz.underlying22) 1 1 1 rfl (by kernel_rfl) (by omega);obtain ⟨x2,k2,o2⟩:=aH hf hB (K8) 2 2 7 rfl (by kernel_rfl) (by omega);obtain ⟨x3,k3,o3⟩:=aH hf hB (Lb) 3 9 5 rfl (by kernel_rfl) (by omega);obtain ⟨x4,k4,o4⟩:=aH hf hB (Lc) 4 14 2 rfl (by kernel_rfl) (by omega);obtain ⟨x5,k5,o5⟩:=aH hf hB (K9) 5 16 5 rfl (by kernel_rfl) (by omega);refine ⟨⟨x0,x1,x2,x3,x4,x5⟩,?_,⟨o0,o1,o2,o3,o4,o5⟩⟩;show DL _ _ ([i64 x0]++([u64 x1]++(x2.c++(x3.c++(x4.c++(x5.c++[])))))) cs;have a6:DL (·<w.heap.size) w [] (cs.drop 21):=DL.nil (by omega);have a5:=DL.app (cs:=cs.drop 16) (n:=5) rfl k5 (by rw [be]; exact a6);have a4:=DL.app (cs:=cs.drop 14) (n:=2) rfl k4 (by rw [be]; exact a5);have a3:=DL.app (cs:=cs.drop 9) (n:=5) rfl k3 (by rw [be]; exact a4);have a2:=DL.app (cs:=cs.drop 2) (n:=7) rfl k2 (by rw [be]; exact a3);have a1:=DL.app (cs:=cs.drop 1) (n:=1) rfl k1 (by rw [be]; exact a2);have a0:=DL.app (cs:=cs.drop 0) (n:=1) rfl k0 (by rw [be]; exact a1);simpa using a0
theorem O9:Rd enc w spare held B 29 (λs=>[Sl.d Edt.c s]) (λB s=>Sl.wf B Edt.wf s) :=
 fD (z:=21) Tryz.underlying29 (by kernel_rfl) (by decide) (λ_=>rfl) (Vn)
end
end
section
open Go.ChangeShapes Go.WideShapes Go.ChangeAt Go.RowKit
def FN (B:Nat)(n:Int):Prop:=Inr .u32 n
def Vw.wf (B:Nat)(c:Vw):Prop:=Inr .u64 c.epoch/\c.covers.wf B FN/\c.pods.wf B Pod.wf/\c.services.wf B Svc.wf/\c.bound.wf B Way.wf/\c.policies.wf B Pol.wf
theorem Vw.wf.ok {B:Nat}{c:Vw}(h:c.wf B)(hB:B<=big):c.ok:=by
 refine ⟨h.2.1.1.le hB,?_⟩;have:c.cfg.fits B:=⟨h.2.2.1.1,h.2.2.2.1.1,h.2.2.2.2.1.1,h.2.2.2.2.2.1,λx hx=>(h.2.2.2.2.2.2 x hx).fits⟩;exact this.le hB
section
variable {H:Type}(enc:TypeId×Value->H)(w:World)(spare:Nat->Bool)(held:Bool)(B:Nat)
variable {enc w spare held B}
theorem zJ:Rd enc w spare held B 30 (λs=>[Sl.d aV s]) (λB s=>Sl.wf B FN s) :=
 fD (z:=1) Tryz.underlying30 (by kernel_rfl) (by decide) (λ_=>rfl) (dw Tryz.underlying52)
theorem ec5:Rd enc w spare held B 32 Vw.c Vw.wf:=by
 intro fuel cs y h hB;obtain ⟨xs,n,rfl,rfl,hl,hx,hf⟩:=DataW.trod_struct Tryz.underlying32 h;have hl:cs.length=6:=hl.trans (by kernel_rfl);have hx:xs.length=6:=hx;obtain ⟨x0,k0,o0⟩:=aH hf hB (dw (t:=22) Tryz.underlying22) 0 0 1 rfl (by kernel_rfl) (by omega);obtain ⟨x1,k1,o1⟩:=aH hf hB (zJ) 1 1 1 rfl (by kernel_rfl) (by omega);obtain ⟨x2,k2,o2⟩:=aH hf hB (Fj) 2 2 1 rfl (by kernel_rfl) (by omega);obtain ⟨x3,k3,o3⟩:=aH hf hB (Fq) 3 3 1 rfl (by kernel_rfl) (by omega);obtain ⟨x4,k4,o4⟩:=aH hf hB (Fs) 4 4 1 rfl (by kernel_rfl) (by omega);obtain ⟨x5,k5,o5⟩:=aH hf hB (Fp) 5 5 1 rfl (by kernel_rfl) (by omega);refine ⟨⟨x0,x1,x2,x3,x4,x5⟩,?_,⟨o0,o1,o2,o3,o4,o5⟩⟩;show DL _ _ ([u64 x0]++([Sl.d aV x1]++([Sl.d Pod.c x2]++([Sl.d Svc.c x3]++([Sl.d Way.c x4]++([Sl.d Pol.c x5]++[])))))) cs;have a6:DL (·<w.heap.size) w [] (cs.drop 6):=DL.nil (by omega);have a5:=DL.app (cs:=cs.drop 5) (n:=1) rfl k5 (by rw [be]; exact a6);have a4:=DL.app (cs:=cs.drop 4) (n:=1) rfl k4 (by rw [be]; exact a5);have a3:=DL.app (cs:=cs.drop 3) (n:=1) rfl k3 (by rw [be]; exact a4);have a2:=DL.app (cs:=cs.drop 2) (n:=1) rfl k2 (by rw [be]; exact a3);have a1:=DL.app (cs:=cs.drop 1) (n:=1) rfl k1 (by rw [be]; exact a2);have a0:=DL.app (cs:=cs.drop 0) (n:=1) rfl k0 (by rw [be]; exact a1);simpa using a0
end
end
