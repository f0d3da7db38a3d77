/- What makes one row of another one, plain: what is put in, what goes. -/
import Derived.Test.YtegfnefobbgkjaaGreatIa
set_option maxRecDepth 100000
set_option linter.unusedVariables false
set_option linter.unusedSimpArgs false
namespace Go.Proofs.YtegfnefobbgkjaaGreat
section
variable {α:Type} {key:α -> Int}
def freshV (same:α -> α -> Bool) (a b:List α):List α:=b.filter fun x=>!a.any fun y=>same x y
def goneV (key:α -> Int) (a b:List α):List Int:=(a.filter fun x=>!b.any fun y=>key x == key y).map key
end
end Go.Proofs.YtegfnefobbgkjaaGreat
namespace Go.Proofs.YtegfnefobbgkjaaGreat
def diffV (a b:Vw) (n1 n2 n3 n4 m1 m2 m3 m4:Bool) (P:List Pol):Dlt :=
 ⟨b.epoch,b.covers,⟨n1,freshV Pod.eqB a.pods.l b.pods.l⟩,⟨n2,freshV Svc.eqB a.services.l b.services.l⟩,⟨n3,freshV Way.eqB a.bound.l b.bound.l⟩,⟨n4,P⟩,⟨m1,goneV Pod.uid a.pods.l b.pods.l⟩,⟨m2,goneV Svc.id a.services.l b.services.l⟩,⟨m3,goneV Way.id a.bound.l b.bound.l⟩,⟨m4,goneV Pol.id a.policies.l b.policies.l⟩⟩
end Go.Proofs.YtegfnefobbgkjaaGreat
namespace Go.Proofs.YtegfnefobbgkjaaGreat
def freshP (a b:Vw):List Pol:=(freshV Pol.same a.policies.l b.policies.l).map Pol.own
end Go.Proofs.YtegfnefobbgkjaaGreat
