/- An edit as an argument, read as data. -/
import Derived.Test.YtjeflmaikicdnaaGreatRdx
import Derived.Test.YtjeflmaikicdnaaGreatAp
set_option linter.unusedSimpArgs false
set_option maxRecDepth 100000
set_option linter.unusedVariables false
namespace Go.Proofs.YtjeflmaikicdnaaGreat
section
open Go.ChangeShapes Go.WideShapes Go.ChangeAt Go.RowKit
section
variable {H:Type}{enc:TypeId×Value->H}{w:World}{spare:Nat->Bool}{held:Bool}{B:Nat}
theorem Vs:Rd enc w spare held B 60 Edt.c Edt.wf:=by
 intro fuel cs y h hB;obtain ⟨xs,n,rfl,rfl,hl,hx,hf⟩:=DataW.trod_struct Tryz.underlying60 h;have hl:cs.length=21:=hl.trans (by kernel_rfl);have hx:xs.length=6:=hx;obtain ⟨x0,k0,o0⟩:=aF hf hB (dn (t:=3) Tryz.underlying3) 0 0 1 rfl (by kernel_rfl) (by omega);obtain ⟨x1,k1,o1⟩:=aF hf hB (dn (t:=22) Tryz.underlying22) 1 1 1 rfl (by kernel_rfl) (by omega);obtain ⟨x2,k2,o2⟩:=aF hf hB (Ls) 2 2 7 rfl (by kernel_rfl) (by omega);obtain ⟨x3,k3,o3⟩:=aF hf hB (Lv) 3 9 5 rfl (by kernel_rfl) (by omega);obtain ⟨x4,k4,o4⟩:=aF hf hB (Lx) 4 14 2 rfl (by kernel_rfl) (by omega);obtain ⟨x5,k5,o5⟩:=aF hf hB (Lt) 5 16 5 rfl (by kernel_rfl) (by omega);refine ⟨⟨x0,x1,x2,x3,x4,x5⟩,?_,⟨o0,o1,o2,o3,o4,o5⟩⟩;show DL _ _ ([i64 x0]++([u64 x1]++(x2.c++(x3.c++(x4.c++(x5.c++[])))))) cs;have a6:DL (·<w.heap.size) w [] (cs.drop 21):=DL.nil (by omega);have a5:=DL.app (cs:=cs.drop 16) (n:=5) rfl k5 (by rw [bh]; exact a6);have a4:=DL.app (cs:=cs.drop 14) (n:=2) rfl k4 (by rw [bh]; exact a5);have a3:=DL.app (cs:=cs.drop 9) (n:=5) rfl k3 (by rw [bh]; exact a4);have a2:=DL.app (cs:=cs.drop 2) (n:=7) rfl k2 (by rw [bh]; exact a3);have a1:=DL.app (cs:=cs.drop 1) (n:=1) rfl k1 (by rw [bh]; exact a2);have a0:=DL.app (cs:=cs.drop 0) (n:=1) rfl k0 (by rw [bh]; exact a1);simpa using a0
end
end
section
open Go.ChangeShapes Go.WideShapes Go.ChangeAt Go.RowKit
def Mg (B:Nat)(n:Int):Prop:=Inr .u32 n
def Vw.wf (B:Nat)(c:Vw):Prop:=Inr .u64 c.epoch/\c.covers.wf B Mg/\c.pods.wf B Pod.wf/\c.services.wf B Svc.wf/\c.bound.wf B Way.wf/\c.policies.wf B Pol.wf
theorem Vw.wf.ok {B:Nat}{c:Vw}(h:c.wf B)(hB:B<=big):c.ok:=by
 refine ⟨h.2.1.1.le hB,?_⟩;have:c.cfg.fits B:=⟨h.2.2.1.1,h.2.2.2.1.1,h.2.2.2.2.1.1,h.2.2.2.2.2.1,λx hx=>(h.2.2.2.2.2.2 x hx).fits⟩;exact this.le hB
section
variable {H:Type}(enc:TypeId×Value->H)(w:World)(spare:Nat->Bool)(held:Bool)(B:Nat)
variable {enc w spare held B}
theorem FY:Rd enc w spare held B 30 (λs=>[Sl.d bn s]) (λB s=>Sl.wf B Mg s) :=
 fH (z:=1) Tryz.underlying30 (by kernel_rfl) (by decide) (λ_=>rfl) (dn Tryz.underlying49)
theorem eb3:Rd enc w spare held B 32 Vw.c Vw.wf:=by
 intro fuel cs y h hB;obtain ⟨xs,n,rfl,rfl,hl,hx,hf⟩:=DataW.trod_struct Tryz.underlying32 h;have hl:cs.length=6:=hl.trans (by kernel_rfl);have hx:xs.length=6:=hx;obtain ⟨x0,k0,o0⟩:=aF hf hB (dn (t:=22) Tryz.underlying22) 0 0 1 rfl (by kernel_rfl) (by omega);obtain ⟨x1,k1,o1⟩:=aF hf hB (FY) 1 1 1 rfl (by kernel_rfl) (by omega);obtain ⟨x2,k2,o2⟩:=aF hf hB (FU) 2 2 1 rfl (by kernel_rfl) (by omega);obtain ⟨x3,k3,o3⟩:=aF hf hB (FW) 3 3 1 rfl (by kernel_rfl) (by omega);obtain ⟨x4,k4,o4⟩:=aF hf hB (FX) 4 4 1 rfl (by kernel_rfl) (by omega);obtain ⟨x5,k5,o5⟩:=aF hf hB (FV) 5 5 1 rfl (by kernel_rfl) (by omega);refine ⟨⟨x0,x1,x2,x3,x4,x5⟩,?_,⟨o0,o1,o2,o3,o4,o5⟩⟩;show DL _ _ ([u64 x0]++([Sl.d bn x1]++([Sl.d Pod.c x2]++([Sl.d Svc.c x3]++([Sl.d Way.c x4]++([Sl.d Pol.c x5]++[])))))) cs;have a6:DL (·<w.heap.size) w [] (cs.drop 6):=DL.nil (by omega);have a5:=DL.app (cs:=cs.drop 5) (n:=1) rfl k5 (by rw [bh]; exact a6);have a4:=DL.app (cs:=cs.drop 4) (n:=1) rfl k4 (by rw [bh]; exact a5);have a3:=DL.app (cs:=cs.drop 3) (n:=1) rfl k3 (by rw [bh]; exact a4);have a2:=DL.app (cs:=cs.drop 2) (n:=1) rfl k2 (by rw [bh]; exact a3);have a1:=DL.app (cs:=cs.drop 1) (n:=1) rfl k1 (by rw [bh]; exact a2);have a0:=DL.app (cs:=cs.drop 0) (n:=1) rfl k0 (by rw [bh]; exact a1);simpa using a0
end
end
