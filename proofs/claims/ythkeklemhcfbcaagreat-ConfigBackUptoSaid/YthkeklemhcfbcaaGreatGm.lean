/- policy.mapped, at any width. -/
import Derived.Test.YthkeklemhcfbcaaGreatGd
set_option maxRecDepth 100000
set_option linter.unusedVariables false
set_option linter.unusedSimpArgs false
namespace Go.Proofs.YthkeklemhcfbcaaGreat
end Go.Proofs.YthkeklemhcfbcaaGreat
namespace Go.Proofs.YthkeklemhcfbcaaGreat
theorem bytes_toList (a:ByteArray):a.toList = a.data.toList:=by
 simp [ByteArray.toList_eq]
theorem eqS_iff {a b:ByteArray}:eqS a b = true ↔ a = b:=by
 simp only [eqS,beq_iff_eq,bytes_toList]
 constructor
 · intro h
   cases a; cases b
   simp at h
   rw [h]
 · rintro rfl; rfl
@[simp] theorem eqS_refl (a:ByteArray):eqS a a = true:=eqS_iff.2 rfl
def Pod.eqB (x y:Pod):Bool:=x.uid == y.uid && (eqS x.ns y.ns && (eqS x.sa y.sa && (x.host == y.host && (x.addr == y.addr && (x.port == y.port && (x.service == y.service && true))))))
def Svc.eqB (x y:Svc):Bool:=x.id == y.id && (eqS x.ns y.ns && (x.addr == y.addr && (x.port == y.port && (x.way == y.way && true))))
def Way.eqB (x y:Way):Bool:=x.id == y.id && (x.node == y.node && true)
def Term.eqB (x y:Term):Bool:=x.kind == y.kind && (eqS x.text y.text && true)
def Cidr.eqB (x y:Cidr):Bool:=x.addr == y.addr && (x.bits == y.bits && true)
theorem Pod.eqB_iff {x y:Pod}:x.eqB y = true ↔ x = y:=by
 cases x; cases y; simp [Pod.eqB,eqS_iff]
theorem Svc.eqB_iff {x y:Svc}:x.eqB y = true ↔ x = y:=by
 cases x; cases y; simp [Svc.eqB,eqS_iff]
theorem Way.eqB_iff {x y:Way}:x.eqB y = true ↔ x = y:=by
 cases x; cases y; simp [Way.eqB]
theorem Term.eqB_iff {x y:Term}:x.eqB y = true ↔ x = y:=by
 cases x; cases y; simp [Term.eqB,eqS_iff]
theorem Cidr.eqB_iff {x y:Cidr}:x.eqB y = true ↔ x = y:=by
 cases x; cases y; simp [Cidr.eqB]
section
variable {h:Hp} {n:Bool}
@[simp] theorem eqv_pod {x y:Pod}:eqv (.agg [(.i .u64),.s,.s,(.i .i64),(.i .u32),(.i .i64),(.i .u64)]) n (ag x.c) (ag y.c) h = some (.d (.bool (x.eqB y != n)),h):=by
 simp [eqv,valEq,ag,Pod.c,cellsEq,scEq,Pod.eqB,eqS]
@[simp] theorem eqv_svc {x y:Svc}:eqv (.agg [(.i .u64),.s,(.i .u32),(.i .i64),(.i .u64)]) n (ag x.c) (ag y.c) h = some (.d (.bool (x.eqB y != n)),h):=by
 simp [eqv,valEq,ag,Svc.c,cellsEq,scEq,Svc.eqB,eqS]
@[simp] theorem eqv_way {x y:Way}:eqv (.agg [(.i .u64),(.i .i64)]) n (ag x.c) (ag y.c) h = some (.d (.bool (x.eqB y != n)),h):=by
 simp [eqv,valEq,ag,Way.c,cellsEq,scEq,Way.eqB]
@[simp] theorem eqv_term {x y:Term}:eqv (.agg [(.i .i64),.s]) n (ag x.c) (ag y.c) h = some (.d (.bool (x.eqB y != n)),h):=by
 simp [eqv,valEq,ag,Term.c,cellsEq,scEq,Term.eqB,eqS]
@[simp] theorem eqv_cidr {x y:Cidr}:eqv (.agg [(.i .u32),(.i .i64)]) n (ag x.c) (ag y.c) h = some (.d (.bool (x.eqB y != n)),h):=by
 simp [eqv,valEq,ag,Cidr.c,cellsEq,scEq,Cidr.eqB]
end
def all2 {α β:Type} (f:α -> β -> Bool):List α -> List β -> Bool
 | [],[]=>true
 | x :: l,y :: m=>f x y && all2 f l m
 | _,_=>false
theorem all2_len {α β:Type} {f:α -> β -> Bool}:∀ {l:List α} {m:List β},all2 f l m = true -> l.length = m.length
 | [],[],_=>rfl
 | x :: l,y :: m,h=>by simp [all2] at h; simp [all2_len h.2]
 | [],y :: m,h=>by simp [all2] at h
 | x :: l,[],h=>by simp [all2] at h
theorem all2_ne {α β:Type} {f:α -> β -> Bool} {l:List α} {m:List β} (h:l.length ≠ m.length):all2 f l m = false:=by
 cases hx:all2 f l m with
 | false=>rfl
 | true=>exact absurd (all2_len hx) h
theorem all2_drop {α β:Type} {f:α -> β -> Bool} {l:List α} {m:List β} {i:Nat} (h1:i < l.length) (h2:i < m.length):all2 f (l.drop i) (m.drop i) = (f l[i] m[i] && all2 f (l.drop (i + 1)) (m.drop (i + 1))):=by
 rw [List.drop_eq_getElem_cons h1,List.drop_eq_getElem_cons h2]; rfl
def Source.same (a b:Source):Bool:=all2 Term.eqB a.names.l b.names.l && (all2 Term.eqB a.spaces.l b.spaces.l && all2 Cidr.eqB a.nets.l b.nets.l)
def Target.same (a b:Target):Bool:=all2 Term.eqB a.methods.l b.methods.l && (all2 Term.eqB a.paths.l b.paths.l && (all2 Term.eqB a.hosts.l b.hosts.l && all2 (fun x y:Int=>x == y) a.ports.l b.ports.l))
def When.same (a b:When):Bool:=eqS a.head b.head && all2 Term.eqB a.terms.l b.terms.l
def Rule.same (a b:Rule):Bool:=all2 Source.same a.frm.l b.frm.l && (all2 Target.same a.to.l b.to.l && all2 When.same a.whn.l b.whn.l)
def Pol.same (a b:Pol):Bool:=a.id == b.id && (eqS a.ns b.ns && (a.service == b.service && (a.deny == b.deny && all2 Rule.same a.rules.l b.rules.l)))
end Go.Proofs.YthkeklemhcfbcaaGreat
