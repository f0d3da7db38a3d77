/- Data such as an argument is read: numbers of their kinds, strings and rows not longer than so much. -/
import Derived.Test.YtjkfknafpgfchaaGreatGn
set_option linter.unusedVariables false
namespace Go.Proofs.YtjkfknafpgfchaaGreat
section
def Inr (k:IntKind) (n:Int):Prop:=(Lit.int k n).wf = true
def Pod.wf (B:Nat) (p:Pod):Prop:=Inr .u64 p.uid /\ p.ns.size <= B /\ p.sa.size <= B /\ Inr .i64 p.host /\ Inr .u32 p.addr /\ Inr .i64 p.port /\ Inr .u64 p.service
def Svc.wf (B:Nat) (p:Svc):Prop:=Inr .u64 p.id /\ p.ns.size <= B /\ Inr .u32 p.addr /\ Inr .i64 p.port /\ Inr .u64 p.way
def Way.wf (B:Nat) (p:Way):Prop:=Inr .u64 p.id /\ Inr .i64 p.node
def Term.wf (B:Nat) (p:Term):Prop:=Inr .i64 p.kind /\ p.text.size <= B
def Cidr.wf (B:Nat) (p:Cidr):Prop:=Inr .u32 p.addr /\ Inr .i64 p.bits
def Gr (B:Nat) (n:Int):Prop:=Inr .i64 n
def Sl.wf {α:Type} (B:Nat) (f:Nat -> α -> Prop) (s:Sl α):Prop:=fit B s /\ ∀ x ∈ s.l,f B x
def Source.wf (B:Nat) (p:Source):Prop:=p.names.wf B Term.wf /\ p.spaces.wf B Term.wf /\ p.nets.wf B Cidr.wf
def Target.wf (B:Nat) (p:Target):Prop:=p.ports.wf B Gr /\ p.methods.wf B Term.wf /\ p.paths.wf B Term.wf /\ p.hosts.wf B Term.wf
def When.wf (B:Nat) (p:When):Prop:=p.head.size <= B /\ p.terms.wf B Term.wf
def Rule.wf (B:Nat) (p:Rule):Prop:=p.frm.wf B Source.wf /\ p.to.wf B Target.wf /\ p.whn.wf B When.wf
def Pol.wf (B:Nat) (p:Pol):Prop:=Inr .u64 p.id /\ p.ns.size <= B /\ Inr .u64 p.service /\ Inr .i64 p.deny /\ p.rules.wf B Rule.wf
def Cfg.wf (B:Nat) (c:Cfg):Prop:=Inr .u64 c.epoch /\ Inr .u64 c.next /\ Inr .i64 c.hosts /\ Inr .i64 c.ways /\ c.pods.wf B Pod.wf /\ c.services.wf B Svc.wf /\ c.bound.wf B Way.wf /\ c.policies.wf B Pol.wf
theorem Source.wf.fits {B:Nat} {s:Source} (h:s.wf B):s.fits B:=⟨h.1.1,h.2.1.1,h.2.2.1⟩
theorem Target.wf.fits {B:Nat} {s:Target} (h:s.wf B):s.fits B:=⟨h.1.1,h.2.1.1,h.2.2.1.1,h.2.2.2.1⟩
theorem When.wf.fits {B:Nat} {s:When} (h:s.wf B):s.fits B:=h.2.1
theorem Rule.wf.fits {B:Nat} {s:Rule} (h:s.wf B):s.fits B:=⟨⟨h.1.1,fun x hx=>(h.1.2 x hx).fits⟩,⟨h.2.1.1,fun x hx=>(h.2.1.2 x hx).fits⟩,h.2.2.1,fun x hx=>(h.2.2.2 x hx).fits⟩
theorem Pol.wf.fits {B:Nat} {s:Pol} (h:s.wf B):s.fits B:=⟨h.2.2.2.2.1,fun x hx=>(h.2.2.2.2.2 x hx).fits⟩
theorem Cfg.wf.fits {B:Nat} {c:Cfg} (h:c.wf B):c.fits B:=⟨h.2.2.2.2.1.1,h.2.2.2.2.2.1.1,h.2.2.2.2.2.2.1.1,h.2.2.2.2.2.2.2.1,fun x hx=>(h.2.2.2.2.2.2.2.2 x hx).fits⟩
theorem fit.le {α:Type} {B B':Nat} {s:Sl α} (hB:B <= B') (h:fit B s):fit B' s:=⟨Nat.le_trans h.1 hB,h.2⟩
theorem Source.fits.le {B B':Nat} (hB:B <= B') {s:Source} (h:s.fits B):s.fits B':=⟨h.1.le hB,h.2.1.le hB,h.2.2.le hB⟩
theorem Target.fits.le {B B':Nat} (hB:B <= B') {s:Target} (h:s.fits B):s.fits B':=⟨h.1.le hB,h.2.1.le hB,h.2.2.1.le hB,h.2.2.2.le hB⟩
theorem When.fits.le {B B':Nat} (hB:B <= B') {s:When} (h:s.fits B):s.fits B':=fit.le hB h
theorem Rule.fits.le {B B':Nat} (hB:B <= B') {s:Rule} (h:s.fits B):s.fits B':=⟨⟨h.1.1.le hB,fun x hx=>(h.1.2 x hx).le hB⟩,⟨h.2.1.1.le hB,fun x hx=>(h.2.1.2 x hx).le hB⟩,h.2.2.1.le hB,fun x hx=>When.fits.le hB (h.2.2.2 x hx)⟩
theorem Pol.fits.le {B B':Nat} (hB:B <= B') {s:Pol} (h:s.fits B):s.fits B':=⟨h.1.le hB,fun x hx=>(h.2 x hx).le hB⟩
theorem Cfg.fits.le {B B':Nat} (hB:B <= B') {c:Cfg} (h:c.fits B):c.fits B':=⟨h.1.le hB,h.2.1.le hB,h.2.2.1.le hB,h.2.2.2.1.le hB,fun x hx=>(h.2.2.2.2 x hx).le hB⟩
theorem Cfg.wf.ok {B:Nat} {c:Cfg} (h:c.wf B) (hB:B <= big):c.ok:=h.fits.le hB
end
section
theorem Sl.wf.le {α:Type} {B B':Nat} (hB:B <= B') {f:Nat -> α -> Prop} (hf:∀ x,f B x -> f B' x) {s:Sl α} (h:s.wf B f):s.wf B' f:=⟨h.1.le hB,fun x hx=>hf x (h.2 x hx)⟩
section
variable {B B':Nat} (hB:B <= B')
include hB
theorem Pod.wf.le {x:Pod} (h:x.wf B):x.wf B':=⟨h.1,Nat.le_trans h.2.1 hB,Nat.le_trans h.2.2.1 hB,h.2.2.2⟩
theorem Svc.wf.le {x:Svc} (h:x.wf B):x.wf B':=⟨h.1,Nat.le_trans h.2.1 hB,h.2.2⟩
omit hB in
theorem Way.wf.le {x:Way} (h:x.wf B):x.wf B':=⟨h.1,h.2⟩
theorem Term.wf.le {x:Term} (h:x.wf B):x.wf B':=⟨h.1,Nat.le_trans h.2 hB⟩
omit hB in
theorem Cidr.wf.le {x:Cidr} (h:x.wf B):x.wf B':=⟨h.1,h.2⟩
theorem Source.wf.le {x:Source} (h:x.wf B):x.wf B':=⟨Sl.wf.le hB (fun _=>Term.wf.le hB) h.1,Sl.wf.le hB (fun _=>Term.wf.le hB) h.2.1,Sl.wf.le hB (fun _=>Cidr.wf.le) h.2.2⟩
theorem Target.wf.le {x:Target} (h:x.wf B):x.wf B':=⟨Sl.wf.le hB (fun _ h=>h) h.1,Sl.wf.le hB (fun _=>Term.wf.le hB) h.2.1,Sl.wf.le hB (fun _=>Term.wf.le hB) h.2.2.1,Sl.wf.le hB (fun _=>Term.wf.le hB) h.2.2.2⟩
theorem When.wf.le {x:When} (h:x.wf B):x.wf B':=⟨Nat.le_trans h.1 hB,Sl.wf.le hB (fun _=>Term.wf.le hB) h.2⟩
theorem Rule.wf.le {x:Rule} (h:x.wf B):x.wf B':=⟨Sl.wf.le hB (fun _=>Source.wf.le hB) h.1,Sl.wf.le hB (fun _=>Target.wf.le hB) h.2.1,Sl.wf.le hB (fun _=>When.wf.le hB) h.2.2⟩
theorem Pol.wf.le {x:Pol} (h:x.wf B):x.wf B':=⟨h.1,Nat.le_trans h.2.1 hB,h.2.2.1,h.2.2.2.1,Sl.wf.le hB (fun _=>Rule.wf.le hB) h.2.2.2.2⟩
theorem Cfg.wf.le {x:Cfg} (h:x.wf B):x.wf B':=⟨h.1,h.2.1,h.2.2.1,h.2.2.2.1,Sl.wf.le hB (fun _=>Pod.wf.le hB) h.2.2.2.2.1,Sl.wf.le hB (fun _=>Svc.wf.le hB) h.2.2.2.2.2.1,Sl.wf.le hB (fun _=>Way.wf.le) h.2.2.2.2.2.2.1,Sl.wf.le hB (fun _=>Pol.wf.le hB) h.2.2.2.2.2.2.2⟩
end
end
end Go.Proofs.YtjkfknafpgfchaaGreat
