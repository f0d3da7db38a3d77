/- policy.mapped, at any width. -/
import Derived.Test.YtjkfknafpgfchaaGreatGd
set_option maxRecDepth 100000
set_option linter.unusedVariables false
set_option linter.unusedSimpArgs false
namespace Go.Proofs.YtjkfknafpgfchaaGreat
section
section
variable {E:Calls'} {T:FuncId -> Option QF} {val:FuncId -> Bool}
def DC (z b:Nat) (zero:List V):QC:=(sr [op 11 (bt .lss 10 9)] (.seq (.cond (.t 11) .skip (.exit 0 [5])) (.seq (.block 1 (sr [op 12 (.idxA none z (.t 8) (.t 10)),op 13 (.load false z (.t 12)),op 7 (.new zero),⟨none,none,.store z (.t 7) (.t 13)⟩] (.reg none [mv 14 5,mv 15 1,op 16 (.load false z (.t 7)),op 17 (kt' 15 [.t 16]),op 18 (.buildS z 1 zero [(0,z,(.t 17))]),op 19 (.app z b (.t 14) (.t 18)),mv 5 19]))) (.reg none [op 20 (bc .add 10 1),mv 10 20]))))
def mapQ (z b:Nat) (zero:List V):QF:=⟨22,[.tmp 4],(sr [op 4 (.mov (.c zs0))] (sr [op 5 (.mov (.c zs0))] (.seq (sr [mv 8 0,op 9 (ln' 8),oc' 10 0] (.block 0 (.loop [1,5,8,9,10] (DC z b zero)))) (sr [mv 21 5,mv 4 21] (.ret [4])))))⟩
theorem GD {α:Type} {cells:α -> List D} {z by_:Nat} (hz:∀ x,(cells x).length = z) (hz0:0 < z) (hby:by_ <= 4096) {zero:List V} (hzero:zero.length = z) {s:Sl α} (hs:short s) {f:FuncId} {g:α -> α} {base:List Blk}
 (hf:∀ e ∈ s.l,∀ h,Sm E T val f [ag (cells e)] h = some (ag (cells (g e)),h)) :
 ∀ (m i:Nat) (acc:List (List D)) (bs:List Blk) (lo:Nat) (v:V),i + m = s.l.length -> acc.length <= i -> Acc base z acc bs v →
  ∃ bs' lo' v',Cd E T val (.loop [1,5,8,9,10] (DC z by_ zero)) [(1,.fn f []),(5,v),(8,.d (s.d cells)),(9,.d (.int .i64 s.l.length)),(10,.d (.int .i64 i))] ⟨bs,lo⟩ =
   some (.exit 0,[(5,v')],⟨bs',lo'⟩) /\ Acc base z (acc ++ ((s.l.drop i).map fun x=>cells (g x))) bs' v':=by
 intro m;have hlen:=hs.lt;have key:=ax (E:=E) (T:=T) (val:=val) [1,5,8,9,10] (DC z by_ zero);generalize Cd E T val (.loop [1,5,8,9,10] (DC z by_ zero)) = W at key ⊢
 induction m with
 | zero =>
  intro i acc bs lo v hi hai ha;have h0:s.l.drop i = []:=List.drop_eq_nil_of_le (by omega);refine ⟨bs,lo,v,?_,by simpa [h0] using ha⟩;rw [key];simp [DC,show ¬ ((i:Int) < s.l.length) from by omega]
 | succ m ih =>
  intro i acc bs lo v hi hai ha;have hlt:i < s.l.length:=by omega
  have hd:s.l.drop i = s.l[i] :: s.l.drop (i + 1):=List.drop_eq_getElem_cons hlt;have hg:s.l[i]? = some s.l[i]:=List.getElem?_eq_getElem hlt;have hcall:=hf _ (List.getElem_mem hlt);generalize s.l[i] = x at *;have hx:=fun h=>bi (z:=z) h hg (cells:=cells) (hz x);have hput:∀ y:α,put zero 0 ((cells y).map V.d) = some ((cells y).map .d):=by intro y; simp [put,hz,hzero]
  have hsubx:sub (cells x) 0 z = some (cells x):=bB (hz x);have hw:IntKind.wrap .i64 ((i:Int) + 1) = ((i + 1:Nat):Int):=by rw [wrap64] <;> omega
  have hnu:=ha.nu;have ha1:=ha.lay [.cells ((cells x).map .d),.cells ((cells (g x)).map .d)];have hbig:acc.length < big:=by have:=hs.1; omega
  obtain ⟨v1,bs1,lo1,k1,k2⟩:=ha1.app hz0 hby (e:=cells (g x)) (hz _) hbig (min lo bs.length) (r:=bs.length + 1) (cap:=some 1) (by simp);have hnu1:=k2.nu;obtain ⟨bs',lo',v',q1,q2⟩:=ih (i + 1) (acc ++ [cells (g x)]) bs1 lo1 v1 (by omega) (by simp; omega) k2;refine ⟨bs',lo',v',?_,by simpa [hd] using q2⟩;rw [key];simp [DC,hx,hput,hsubx,hcall,hw,hnu,hz,hz0,aA,k1,hnu1,show ((i:Int) < s.l.length) from by omega];simpa using q1
theorem BC {α:Type} {cells:α -> List D} {z by_ id:Nat} {zero:List V} (ht:T id = some (mapQ z by_ zero)) (hv:val id = true) (hz:∀ x,(cells x).length = z) (hz0:0 < z) (hby:by_ <= 4096) (hzero:zero.length = z) {s:Sl α} (hs:short s) {f:FuncId} {g:α -> α}
 (hf:∀ e ∈ s.l,∀ h,Sm E T val f [ag (cells e)] h = some (ag (cells (g e)),h)) (h:Hp) :
 Sm E T val id [.d (s.d cells),.fn f []] h = some (.d (Sl.d cells ⟨s.l.isEmpty,s.l.map g⟩),h):=by
 rw [bf ht hv];obtain ⟨bs',lo',v',q1,q2⟩:=GD (E:=E) (T:=T) (val:=val) hz hz0 hby hzero hs hf s.l.length 0 [] [] 0 _ (by omega) (by simp) (Acc.nil [] z);have hn:=q2.nu;have hfz:=(q2.frz lo').1;have hfr:frz h (.fn f []) = some (.fn f []):=rfl;have hl:qL false (.d (Sl.d cells s)) ⟨[],0⟩ = some (.d (i64 s.l.length),⟨[],0⟩):=by simp [Sl.d]
 have hfm:(s.l.map fun x=>cells (g x)).isEmpty = s.l.isEmpty:=by cases s.l <;> rfl
 simp at q1;simp [af,mapQ,hfr,hl];rw [aH];simp [q1,hn];simp only [List.nil_append,List.drop_zero] at hfz;rw [hfz];simp [hfm,Sl.d,cO]
end
end
section
theorem bv (a:ByteArray):a.toList = a.data.toList:=by
 simp [ByteArray.toList_eq]
theorem eqS_iff {a b:ByteArray}:eqS a b = true ↔ a = b:=by
 simp only [eqS,beq_iff_eq,bv];constructor
 · intro h;cases a; cases b;simp at h;rw [h]
 · rintro rfl; rfl
@[simp] theorem XP (a:ByteArray):eqS a a = true:=eqS_iff.2 rfl
def Pod.eqB (x y:Pod):Bool:=x.uid == y.uid && (eqS x.ns y.ns && (eqS x.sa y.sa && (x.host == y.host && (x.addr == y.addr && (x.port == y.port && (x.service == y.service && true))))))
def Svc.eqB (x y:Svc):Bool:=x.id == y.id && (eqS x.ns y.ns && (x.addr == y.addr && (x.port == y.port && (x.way == y.way && true))))
def Way.eqB (x y:Way):Bool:=x.id == y.id && (x.node == y.node && true)
def Term.eqB (x y:Term):Bool:=x.kind == y.kind && (eqS x.text y.text && true)
def Cidr.eqB (x y:Cidr):Bool:=x.addr == y.addr && (x.bits == y.bits && true)
theorem Pod.eqB_iff {x y:Pod}:x.eqB y = true ↔ x = y:=by
 cases x; cases y; simp [Pod.eqB,eqS_iff]
theorem Svc.eqB_iff {x y:Svc}:x.eqB y = true ↔ x = y:=by
 cases x; cases y; simp [Svc.eqB,eqS_iff]
theorem Way.eqB_iff {x y:Way}:x.eqB y = true ↔ x = y:=by
 cases x; cases y; simp [Way.eqB]
theorem Term.eqB_iff {x y:Term}:x.eqB y = true ↔ x = y:=by
 cases x; cases y; simp [Term.eqB,eqS_iff]
theorem Cidr.eqB_iff {x y:Cidr}:x.eqB y = true ↔ x = y:=by
 cases x; cases y; simp [Cidr.eqB]
section
variable {h:Hp} {n:Bool}
@[simp] theorem Kn {x y:Pod}:eqv (.agg [(.i .u64),.s,.s,(.i .i64),(.i .u32),(.i .i64),(.i .u64)]) n (ag x.c) (ag y.c) h = some (.d (.bool (x.eqB y != n)),h):=by
 simp [eqv,fu,ag,Pod.c,bn,kJ,Pod.eqB,eqS]
@[simp] theorem Ko {x y:Svc}:eqv (.agg [(.i .u64),.s,(.i .u32),(.i .i64),(.i .u64)]) n (ag x.c) (ag y.c) h = some (.d (.bool (x.eqB y != n)),h):=by
 simp [eqv,fu,ag,Svc.c,bn,kJ,Svc.eqB,eqS]
@[simp] theorem Kr {x y:Way}:eqv (.agg [(.i .u64),(.i .i64)]) n (ag x.c) (ag y.c) h = some (.d (.bool (x.eqB y != n)),h):=by
 simp [eqv,fu,ag,Way.c,bn,kJ,Way.eqB]
@[simp] theorem Gb {x y:Term}:eqv (.agg [(.i .i64),.s]) n (ag x.c) (ag y.c) h = some (.d (.bool (x.eqB y != n)),h):=by
 simp [eqv,fu,ag,Term.c,bn,kJ,Term.eqB,eqS]
@[simp] theorem Ga {x y:Cidr}:eqv (.agg [(.i .u32),(.i .i64)]) n (ag x.c) (ag y.c) h = some (.d (.bool (x.eqB y != n)),h):=by
 simp [eqv,fu,ag,Cidr.c,bn,kJ,Cidr.eqB]
end
def all2 {α β:Type} (f:α -> β -> Bool):List α -> List β -> Bool
 | [],[]=>true
 | x :: l,y :: m=>f x y && all2 f l m
 | _,_=>false
theorem wI {α β:Type} {f:α -> β -> Bool}:∀ {l:List α} {m:List β},all2 f l m = true -> l.length = m.length
 | [],[],_=>rfl
 | x :: l,y :: m,h=>by simp [all2] at h; simp [wI h.2]
 | [],y :: m,h=>by simp [all2] at h
 | x :: l,[],h=>by simp [all2] at h
theorem uS {α β:Type} {f:α -> β -> Bool} {l:List α} {m:List β} (h:l.length ≠ m.length):all2 f l m = false:=by
 cases hx:all2 f l m with
 | false=>rfl
 | true=>exact absurd (wI hx) h
theorem cZ {α:Type} {f:α -> α -> Bool} (hf:∀ x,f x x = true):∀ l:List α,all2 f l l = true
 | []=>rfl
 | x :: l=>by simp [all2,hf,cZ hf l]
theorem wJ {α β γ:Type} {f:α -> β -> Bool} (g:γ -> α):∀ (l:List γ) (m:List β),all2 f (l.map g) m = all2 (fun x y=>f (g x) y) l m
 | [],[]=>rfl
 | x :: l,y :: m=>by simp [all2,wJ g l m]
 | [],y :: m=>rfl
 | x :: l,[]=>rfl
theorem pF {α β:Type} {f:α -> β -> Bool} {l:List α} {m:List β} {i:Nat} (h1:i < l.length) (h2:i < m.length):all2 f (l.drop i) (m.drop i) = (f l[i] m[i] && all2 f (l.drop (i + 1)) (m.drop (i + 1))):=by
 rw [List.drop_eq_getElem_cons h1,List.drop_eq_getElem_cons h2]; rfl
def Source.same (a b:Source):Bool:=all2 Term.eqB a.names.l b.names.l && (all2 Term.eqB a.spaces.l b.spaces.l && all2 Cidr.eqB a.nets.l b.nets.l)
def Target.same (a b:Target):Bool:=all2 Term.eqB a.methods.l b.methods.l && (all2 Term.eqB a.paths.l b.paths.l && (all2 Term.eqB a.hosts.l b.hosts.l && all2 (fun x y:Int=>x == y) a.ports.l b.ports.l))
def When.same (a b:When):Bool:=eqS a.head b.head && all2 Term.eqB a.terms.l b.terms.l
def Rule.same (a b:Rule):Bool:=all2 Source.same a.frm.l b.frm.l && (all2 Target.same a.to.l b.to.l && all2 When.same a.whn.l b.whn.l)
def Pol.same (a b:Pol):Bool:=a.id == b.id && (eqS a.ns b.ns && (a.service == b.service && (a.deny == b.deny && all2 Rule.same a.rules.l b.rules.l)))
theorem nN (l:List Term):all2 Term.eqB l l = true:=cZ (fun _=>Term.eqB_iff.2 rfl) l
theorem Source.same_refl (a:Source):a.same a = true:=by simp [Source.same,nN,cZ (fun _=>Cidr.eqB_iff.2 rfl)]
theorem Target.same_refl (a:Target):a.same a = true:=by simp [Target.same,nN,cZ]
theorem When.same_refl (a:When):a.same a = true:=by simp [When.same,nN]
theorem Rule.same_refl (a:Rule):a.same a = true:=by simp [Rule.same,cZ Source.same_refl,cZ Target.same_refl,cZ When.same_refl]
theorem Pol.same_refl (a:Pol):a.same a = true:=by simp [Pol.same,cZ Rule.same_refl]
end
end Go.Proofs.YtjkfknafpgfchaaGreat
