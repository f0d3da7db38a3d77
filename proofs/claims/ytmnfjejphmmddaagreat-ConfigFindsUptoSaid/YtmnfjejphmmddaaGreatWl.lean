/-
  Data no longer than B is no longer than what is more.
-/
import Derived.Test.YtmnfjejphmmddaaGreatWf
set_option linter.unusedVariables false
namespace Go.Proofs.YtmnfjejphmmddaaGreat
theorem Sl.wf.le {α : Type} {B B' : Nat} (hB : B ≤ B') {f : Nat → α → Prop} (hf : ∀ x, f B x → f B' x) {s : Sl α} (h : s.wf B f) : s.wf B' f := ⟨h.1.le hB, fun x hx => hf x (h.2 x hx)⟩
section
variable {B B' : Nat} (hB : B ≤ B')
include hB
theorem Pod.wf.le {x : Pod} (h : x.wf B) : x.wf B' := ⟨h.1, Nat.le_trans h.2.1 hB, Nat.le_trans h.2.2.1 hB, h.2.2.2⟩
theorem Svc.wf.le {x : Svc} (h : x.wf B) : x.wf B' := ⟨h.1, Nat.le_trans h.2.1 hB, h.2.2⟩
omit hB in
theorem Way.wf.le {x : Way} (h : x.wf B) : x.wf B' := ⟨h.1, h.2⟩
theorem Term.wf.le {x : Term} (h : x.wf B) : x.wf B' := ⟨h.1, Nat.le_trans h.2 hB⟩
omit hB in
theorem Cidr.wf.le {x : Cidr} (h : x.wf B) : x.wf B' := ⟨h.1, h.2⟩
theorem Source.wf.le {x : Source} (h : x.wf B) : x.wf B' := ⟨Sl.wf.le hB (fun _ => Term.wf.le hB) h.1, Sl.wf.le hB (fun _ => Term.wf.le hB) h.2.1, Sl.wf.le hB (fun _ => Cidr.wf.le) h.2.2⟩
theorem Target.wf.le {x : Target} (h : x.wf B) : x.wf B' := ⟨Sl.wf.le hB (fun _ h => h) h.1, Sl.wf.le hB (fun _ => Term.wf.le hB) h.2.1, Sl.wf.le hB (fun _ => Term.wf.le hB) h.2.2.1, Sl.wf.le hB (fun _ => Term.wf.le hB) h.2.2.2⟩
theorem When.wf.le {x : When} (h : x.wf B) : x.wf B' := ⟨Nat.le_trans h.1 hB, Sl.wf.le hB (fun _ => Term.wf.le hB) h.2⟩
theorem Rule.wf.le {x : Rule} (h : x.wf B) : x.wf B' := ⟨Sl.wf.le hB (fun _ => Source.wf.le hB) h.1, Sl.wf.le hB (fun _ => Target.wf.le hB) h.2.1, Sl.wf.le hB (fun _ => When.wf.le hB) h.2.2⟩
theorem Pol.wf.le {x : Pol} (h : x.wf B) : x.wf B' := ⟨h.1, Nat.le_trans h.2.1 hB, h.2.2.1, h.2.2.2.1, Sl.wf.le hB (fun _ => Rule.wf.le hB) h.2.2.2.2⟩
theorem Cfg.wf.le {x : Cfg} (h : x.wf B) : x.wf B' := ⟨h.1, h.2.1, h.2.2.1, h.2.2.2.1, Sl.wf.le hB (fun _ => Pod.wf.le hB) h.2.2.2.2.1, Sl.wf.le hB (fun _ => Svc.wf.le hB) h.2.2.2.2.2.1, Sl.wf.le hB (fun _ => Way.wf.le) h.2.2.2.2.2.2.1, Sl.wf.le hB (fun _ => Pol.wf.le hB) h.2.2.2.2.2.2.2⟩
end
end Go.Proofs.YtmnfjejphmmddaaGreat
