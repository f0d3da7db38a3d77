/- Layer 16's functions: Pod, At, WayOf, service. -/
import Derived.Test.YtjkfknafpgfchaaGreatT8
import Derived.Test.YtjkfknafpgfchaaGreatGm
set_option maxRecDepth 100000
set_option linter.unusedVariables false
set_option linter.unusedSimpArgs false
namespace Go.Proofs.YtjkfknafpgfchaaGreat
section
variable {E:Calls'}
def wayT (c:Cfg) (n:Int):Option Way:=match c.services.l.find? (fun p=>p.id == n) with
 | none=>none
 | some s=>if s.way == 0 then none else c.bound.l.find? fun w=>w.id == s.way
def Gp (p:Pol) (ns:ByteArray) (service:Int):Bool:=(eqS p.ns ⟨#[]⟩ || eqS p.ns ns) && (p.service == 0 || p.service == service)
end
section
variable {E:Calls'}
def qE:List V:=[(.d (.int .u64 0)),(.d (.str ⟨#[]⟩)),(.d (.str ⟨#[]⟩)),(.d (.int .i64 0)),(.d (.int .u32 0)),(.d (.int .i64 0)),(.d (.int .u64 0))]
end
section
variable {E:Calls'}
theorem CY {s:Sl Term} (hs:short s) (h:Hp):Sm E TT ak 351 [.d (s.d Term.c)] h = some (.d (s.d Term.c),h) :=
 kL (z:=2) (b:=24) (zero:=[(.d (.int .i64 0)),(.d (.str ⟨#[]⟩))]) de6 dq1 (by decide) (by decide) (fun _=>rfl) hs h
theorem cb6 {s:Sl Cidr} (hs:short s) (h:Hp):Sm E TT ak 352 [.d (s.d Cidr.c)] h = some (.d (s.d Cidr.c),h) :=
 kL (z:=2) (b:=16) (zero:=[(.d (.int .u32 0)),(.d (.int .i64 0))]) de7 dq2 (by decide) (by decide) (fun _=>rfl) hs h
theorem cb7 {s:Sl Int} (hs:short s) (h:Hp):Sm E TT ak 353 [.d (s.d jJ)] h = some (.d (s.d jJ),h) :=
 kL (z:=1) (b:=8) (zero:=[(.d (.int .i64 0))]) de8 dq3 (by decide) (by decide) (fun _=>rfl) hs h
theorem ca6 (s:Source) (hs:s.fits big) (h:Hp):Sm E TT ak 266 [ag s.c] h = some (ag s.c,h):=by
 rw [bf dd0 do6];simp (decide:=true) [af,LY,aN,aD,CY hs.1,CY hs.2.1,cb6 hs.2.2];rfl
theorem ca9 (s:Target) (hs:s.fits big) (h:Hp):Sm E TT ak 268 [ag s.c] h = some (ag s.c,h):=by
 rw [bf dd3 do8];simp (decide:=true) [af,L6,aN,aD,cb7 hs.1,CY hs.2.1,CY hs.2.2.1,CY hs.2.2.2];rfl
@[simp] theorem When.p1 {x:When} {v:V}:put (x.c.map V.d) 1 [v] = some [.d (.str x.head),v]:=rfl
@[simp] theorem Pol.p4 {x:Pol} {v:V}:put (x.c.map V.d) 4 [v] = some [.d (u64 x.id),.d (.str x.ns),.d (u64 x.service),.d (i64 x.deny),v]:=rfl
theorem cb1 (s:When) (hs:s.fits big) (h:Hp):Sm E TT ak 270 [ag s.c] h = some (ag s.c,h):=by
 rw [bf dd5 dp0];simp [af,L9,CY hs];rfl
def sl0 (n:Nat):List V:=List.replicate n (.d (.slice true []))
theorem ca5 {s:Sl Source} (hs:short s) (hf:∀ x ∈ s.l,x.fits big) (h:Hp):Sm E TT ak 265 [.d (s.d Source.c),.fn 266 []] h = some (.d (Sl.d Source.c ⟨s.l.isEmpty,s.l⟩),h):=by
 have:=BC (E:=E) (T:=TT) (val:=ak) (cells:=Source.c) (z:=3) (by_:=72) (zero:=sl0 3) dc9 do5 (fun _=>rfl) (by decide) (by decide) rfl hs (f:=266) (g:=id) (fun e he h=>ca6 e (hf e he) h) h;simpa using this
theorem ca7 {s:Sl Target} (hs:short s) (hf:∀ x ∈ s.l,x.fits big) (h:Hp):Sm E TT ak 267 [.d (s.d Target.c),.fn 268 []] h = some (.d (Sl.d Target.c ⟨s.l.isEmpty,s.l⟩),h):=by
 have:=BC (E:=E) (T:=TT) (val:=ak) (cells:=Target.c) (z:=4) (by_:=96) (zero:=sl0 4) dd2 do7 (fun _=>rfl) (by decide) (by decide) rfl hs (f:=268) (g:=id) (fun e he h=>ca9 e (hf e he) h) h;simpa using this
theorem cb0 {s:Sl When} (hs:short s) (hf:∀ x ∈ s.l,x.fits big) (h:Hp):Sm E TT ak 269 [.d (s.d When.c),.fn 270 []] h = some (.d (Sl.d When.c ⟨s.l.isEmpty,s.l⟩),h):=by
 have:=BC (E:=E) (T:=TT) (val:=ak) (cells:=When.c) (z:=2) (by_:=40) (zero:=[(.d (.str ⟨#[]⟩)),(.d (.slice true []))]) dd4 do9 (fun _=>rfl) (by decide) (by decide) rfl hs (f:=270) (g:=id) (fun e he h=>cb1 e (hf e he) h) h;simpa using this
def Rule.own (r:Rule):Rule:=⟨⟨r.frm.l.isEmpty,r.frm.l⟩,⟨r.to.l.isEmpty,r.to.l⟩,⟨r.whn.l.isEmpty,r.whn.l⟩⟩
def Pol.own (p:Pol):Pol:={ p with rules:=⟨p.rules.l.isEmpty,p.rules.l.map Rule.own⟩ }
theorem bz9 (r:Rule) (hr:r.fits big) (h:Hp):Sm E TT ak 196 [ag r.c] h = some (ag r.own.c,h):=by
 rw [bf dc1 dn7];simp (decide:=true) [af,LF,aN,aD,ca5 hr.1.1 hr.1.2,ca7 hr.2.1.1 hr.2.1.2,cb0 hr.2.2.1 hr.2.2.2];rfl
theorem bz8 {s:Sl Rule} (hs:short s) (hf:∀ x ∈ s.l,x.fits big) (h:Hp):Sm E TT ak 195 [.d (s.d Rule.c),.fn 196 []] h = some (.d (Sl.d Rule.c ⟨s.l.isEmpty,s.l.map Rule.own⟩),h) :=
 BC (E:=E) (T:=TT) (val:=ak) (cells:=Rule.c) (z:=3) (by_:=72) (zero:=sl0 3) dc0 dn6 (fun _=>rfl) (by decide) (by decide) rfl hs (f:=196) (g:=Rule.own) (fun e he h=>bz9 e (hf e he) h) h
theorem bz5 (p:Pol) (hp:p.fits big) (h:Hp):Sm E TT ak 115 [ag p.c] h = some (ag p.own.c,h):=by
 rw [bf db5 dn1];simp [af,Ld,bz8 hp.1 hp.2];rfl
end
section
variable {E:Calls'}
theorem aK {i n:Nat} (h:i < n) (hn:n < 2 ^ 62):IntKind.wrap .i64 ((i:Int) + 1) = ((i + 1:Nat):Int):=by rw [wrap64] <;> omega
end
section
variable {E:Calls'}
theorem wK:∀ (l:List Rule),all2 Rule.same (l.map Rule.own) l = true
 | []=>rfl
 | r :: l=>by
  have h1:r.own.same r = true:=by
   have:=r.same_refl;simpa [Rule.same,Rule.own] using this
  simp [all2,h1,wK l]
theorem own_same (p:Pol):p.own.same p = true:=by
 simp [Pol.same,Pol.own,wK]
end
section
variable {E:Calls'}
end
section
variable {E:Calls'}
@[simp] theorem Wh (a b:Nat):(a < b \/ b <= a) ↔ True:=⟨fun _=>trivial,fun _=>Nat.lt_or_ge a b⟩
@[simp] theorem em' {p:Prop}:(¬ p \/ p) ↔ True:=⟨fun _=>trivial,fun _=>(Classical.em p).symm⟩
end
section
variable {E:Calls'}
theorem jM {n:Int}:∃ m,bJ .quo (.d (.int .i64 n)) (.d (.int .i64 64)) = some (.int .i64 m):=⟨_,by simp [bJ,dU]; rfl⟩
theorem bw7 {s:Sl Term} (hs:short s) (h:Hp):∀ (m i:Nat) (n:Int),i + m = s.l.length →
 ∃ n',Cd E TT ak (.loop [0,3,4] kr) [(0,.d (s.d Term.c)),(3,.d (i64 n)),(4,.d (i64 i))] h = some (.exit 0,[(3,.d (i64 n'))],h):=by
 have hlt:=hs.lt;intro m;have key:=ax (E:=E) (T:=TT) (val:=ak) [0,3,4] kr;generalize Cd E TT ak (.loop [0,3,4] kr) = W at key ⊢
 induction m with
 | zero =>
  intro i n hi;refine ⟨n,?_⟩;rw [key];simp [kr,show ¬ ((i:Int) < s.l.length) from by omega]
 | succ m ih =>
  intro i n hi;have hlt:i < s.l.length:=by omega
  have hx:=fun h=>bi (z:=2) h (List.getElem?_eq_getElem hlt) (cells:=Term.c) rfl;have hw:=aK hlt (by omega);by_cases hn:n <= 2000
  · generalize s.l[i] = x at *;obtain ⟨k,hq⟩:=jM (n:=x.text.size);obtain ⟨n',q1⟩:=ih (i + 1) (IntKind.wrap .i64 (n + k)) (by omega);refine ⟨n',?_⟩;rw [key];simp [kr,hx,hq,hw,hn,show ((i:Int) < s.l.length) from by omega];simpa using q1
  · refine ⟨n,?_⟩;rw [key];simp [kr,hn,show ((i:Int) < s.l.length) from by omega]
theorem CX {s:Sl Term} (hs:short s):∃ n':Int,∀ h,Sm E TT ak 161 [.d (s.d Term.c)] h = some (.d (i64 n'),h):=by
 obtain ⟨n',q1⟩:=bw7 (E:=E) hs ⟨[],0⟩ s.l.length 0 s.l.length (by omega);refine ⟨n',fun h=>?_⟩;rw [bf db6 dn2];simp at q1;simp [af,Lp];rw [aH];simp [q1]
def Tr.mute (t:Tr):Bool:=!t.big && t.wr.isEmpty && t.lo == t.hi
theorem fF {pr:List (List Nat)} {l:List Tr} (h:l.all Tr.mute = true):fA pr l = true:=by
 have hm:∀ t ∈ l,t.big = false /\ t.wr = [] /\ t.lo = t.hi:=by
  intro t ht;have:=List.all_eq_true.1 h t ht;simp only [Tr.mute,Bool.and_eq_true,Bool.not_eq_true',List.isEmpty_iff,beq_iff_eq] at this;exact ⟨this.1.1,this.1.2,this.2⟩
 simp only [fA,List.all_eq_true,List.mem_range,Bool.or_eq_true];intro i hi j hj;right;rw [List.getElem?_eq_getElem hi,List.getElem?_eq_getElem hj];obtain ⟨a1,a2,a3⟩:=hm _ (List.getElem_mem hi);obtain ⟨b1,b2,b3⟩:=hm _ (List.getElem_mem hj);simp only [Tr.spares,a1,b1,a2,a3,Bool.or_self,Bool.false_eq_true,if_false];split
 · simp
 · simp only [List.all_eq_true];intro b _;simp
theorem WO {r:Rule} (hr:r.fits big) {h:Hp} {q:Nat} {t1 t4:V} (hq:ah h.bs q = some (r.c.map .d)):∀ (m i:Nat) (n:Int),i + m = r.frm.l.length →
 ∃ n',Cd E TT ak (.loop [1,3,4,5,6] nH) [(1,t1),(3,.d (i64 n)),(4,t4),(5,.ptr q 0),(6,.d (i64 i))] h = some (.exit 2,[(1,t1),(3,.d (i64 n')),(4,t4),(5,.ptr q 0)],h):=by
 have hlt:=hr.1.1.lt;intro m;have key:=ax (E:=E) (T:=TT) (val:=ak) [1,3,4,5,6] nH;generalize Cd E TT ak (.loop [1,3,4,5,6] nH) = W at key ⊢
 induction m with
 | zero =>
  intro i n hi;refine ⟨n,?_⟩;rw [key];simp [nH,hq,show ¬ ((i:Int) < r.frm.l.length) from by omega]
 | succ m ih =>
  intro i n hi;have h1:i < r.frm.l.length:=by omega
  have hx:=fun h=>bi (z:=3) h (List.getElem?_eq_getElem h1) (cells:=Source.c) rfl;have hw:=aK h1 hlt;have hfx:=hr.1.2 _ (List.getElem_mem h1);by_cases hn:n <= 2000
  · generalize r.frm.l[i] = x at *;obtain ⟨k0,hk0⟩:=CX (E:=E) (s:=x.names) hfx.1;obtain ⟨k1,hk1⟩:=CX (E:=E) (s:=x.spaces) hfx.2.1;rw [key];simp [nH,hq,hx,aN,aD,fF,Tr.mute,hk0,hk1,hw,hn,show ((i:Int) < r.frm.l.length) from by omega];rw [show ((i:Int) + 1) = ((i + 1:Nat):Int) from by omega];exact ih (i + 1) _ (by omega)
  · refine ⟨n,?_⟩;rw [key];simp [nH,hq,hn,show ((i:Int) < r.frm.l.length) from by omega]
theorem WP {r:Rule} (hr:r.fits big) {h:Hp} {q:Nat} {t1 t4:V} (hq:ah h.bs q = some (r.c.map .d)):∀ (m i:Nat) (n:Int),i + m = r.to.l.length →
 ∃ n',Cd E TT ak (.loop [1,3,4,5,7] nI) [(1,t1),(3,.d (i64 n)),(4,t4),(5,.ptr q 0),(7,.d (i64 i))] h = some (.exit 4,[(1,t1),(3,.d (i64 n')),(4,t4),(5,.ptr q 0)],h):=by
 have hlt:=hr.2.1.1.lt;intro m;have key:=ax (E:=E) (T:=TT) (val:=ak) [1,3,4,5,7] nI;generalize Cd E TT ak (.loop [1,3,4,5,7] nI) = W at key ⊢
 induction m with
 | zero =>
  intro i n hi;refine ⟨n,?_⟩;rw [key];simp [nI,hq,show ¬ ((i:Int) < r.to.l.length) from by omega]
 | succ m ih =>
  intro i n hi;have h1:i < r.to.l.length:=by omega
  have hx:=fun h=>bi (z:=4) h (List.getElem?_eq_getElem h1) (cells:=Target.c) rfl;have hw:=aK h1 hlt;have hfx:=hr.2.1.2 _ (List.getElem_mem h1);by_cases hn:n <= 2000
  · generalize r.to.l[i] = x at *;obtain ⟨k0,hk0⟩:=CX (E:=E) (s:=x.methods) hfx.2.1;obtain ⟨k1,hk1⟩:=CX (E:=E) (s:=x.paths) hfx.2.2.1;obtain ⟨k2,hk2⟩:=CX (E:=E) (s:=x.hosts) hfx.2.2.2;rw [key];simp [nI,hq,hx,aN,aD,fF,Tr.mute,hk0,hk1,hk2,hw,hn,show ((i:Int) < r.to.l.length) from by omega];rw [show ((i:Int) + 1) = ((i + 1:Nat):Int) from by omega];exact ih (i + 1) _ (by omega)
  · refine ⟨n,?_⟩;rw [key];simp [nI,hq,hn,show ((i:Int) < r.to.l.length) from by omega]
theorem WQ {r:Rule} (hr:r.fits big) {h:Hp} {q:Nat} {t1 t4:V} (hq:ah h.bs q = some (r.c.map .d)):∀ (m i:Nat) (n:Int),i + m = r.whn.l.length →
 ∃ n',Cd E TT ak (.loop [1,3,4,5,8] nJ) [(1,t1),(3,.d (i64 n)),(4,t4),(5,.ptr q 0),(8,.d (i64 i))] h = some (.exit 6,[(1,t1),(3,.d (i64 n')),(4,t4)],h):=by
 have hlt:=hr.2.2.1.lt;intro m;have key:=ax (E:=E) (T:=TT) (val:=ak) [1,3,4,5,8] nJ;generalize Cd E TT ak (.loop [1,3,4,5,8] nJ) = W at key ⊢
 induction m with
 | zero =>
  intro i n hi;refine ⟨n,?_⟩;rw [key];simp [nJ,hq,show ¬ ((i:Int) < r.whn.l.length) from by omega]
 | succ m ih =>
  intro i n hi;have h1:i < r.whn.l.length:=by omega
  have hx:=fun h=>bi (z:=2) h (List.getElem?_eq_getElem h1) (cells:=When.c) rfl;have hw:=aK h1 hlt;have hfx:=hr.2.2.2 _ (List.getElem_mem h1);by_cases hn:n <= 2000
  · generalize r.whn.l[i] = x at *;obtain ⟨k0,hk0⟩:=CX (E:=E) (s:=x.terms) hfx;obtain ⟨w,hw2⟩:=jM (n:=x.head.size);rw [key];simp [nJ,hq,hx,aN,aD,fF,Tr.mute,hk0,hw,hn,hw2,show ((i:Int) < r.whn.l.length) from by omega];rw [show ((i:Int) + 1) = ((i + 1:Nat):Int) from by omega];exact ih (i + 1) _ (by omega)
  · refine ⟨n,?_⟩;rw [key];simp [nJ,hq,hn,show ((i:Int) < r.whn.l.length) from by omega]
end
section
variable {E:Calls'}
theorem WR {p:Pol} (hp:p.ok):∀ (m i:Nat) (n:Int) (J:List Blk),i + m = p.rules.l.length →
 ∃ n' J',Cd E TT ak (.loop [1,3,4] nK) [(1,.ptr 0 0),(3,.d (i64 n)),(4,.d (i64 i))] ⟨.cells (p.c.map .d) :: J,0⟩ = some (.exit 0,[(3,.d (i64 n'))],⟨.cells (p.c.map .d) :: J',0⟩):=by
 have hlt:=hp.1.lt;intro m;have key:=ax (E:=E) (T:=TT) (val:=ak) [1,3,4] nK;generalize Cd E TT ak (.loop [1,3,4] nK) = W at key ⊢
 induction m with
 | zero =>
  intro i n J hi;refine ⟨n,J,?_⟩;rw [key];simp [nK,show ¬ ((i:Int) < p.rules.l.length) from by omega]
 | succ m ih =>
  intro i n J hi;have h1:i < p.rules.l.length:=by omega
  have hx:=fun h=>bi (z:=3) h (List.getElem?_eq_getElem h1) (cells:=Rule.c) rfl;have hw:=aK h1 hlt;have hfx:=hp.2 _ (List.getElem_mem h1);by_cases hn:n <= 2000
  · generalize p.rules.l[i] = x at *;obtain ⟨n1,q1⟩:=WO (E:=E) hfx (h:=⟨.cells (p.c.map .d) :: (J ++ [.cells (x.c.map .d)]),0⟩) (q:=J.length + 1) (t1:=.ptr 0 0) (t4:=.d (i64 i)) (by simp) x.frm.l.length 0 (IntKind.wrap .i64 (n + IntKind.wrap .i64 (IntKind.wrap .i64 (IntKind.wrap .i64 (1 + (x.frm.l.length:Int)) + (x.to.l.length:Int)) + (x.whn.l.length:Int)))) (by omega);obtain ⟨n2,q2⟩:=WP (E:=E) hfx (h:=⟨.cells (p.c.map .d) :: (J ++ [.cells (x.c.map .d)]),0⟩) (q:=J.length + 1) (t1:=.ptr 0 0) (t4:=.d (i64 i)) (by simp) x.to.l.length 0 n1 (by omega);obtain ⟨n3,q3⟩:=WQ (E:=E) hfx (h:=⟨.cells (p.c.map .d) :: (J ++ [.cells (x.c.map .d)]),0⟩) (q:=J.length + 1) (t1:=.ptr 0 0) (t4:=.d (i64 i)) (by simp) x.whn.l.length 0 n2 (by omega);simp at q1 q2 q3;rw [key];simp [nK,hx,hn,show ((i:Int) < p.rules.l.length) from by omega];rw [aH];simp [q1];rw [aH];simp [q2];rw [aH];simp [q3,hw];rw [show ((i:Int) + 1) = ((i + 1:Nat):Int) from by omega];exact ih (i + 1) _ _ (by omega)
  · refine ⟨n,J,?_⟩;rw [key];simp [nK,hn,show ((i:Int) < p.rules.l.length) from by omega]
theorem S87 (p:Pol) (hp:p.ok):∃ n':Int,∀ h,Sm E TT ak 61 [ag p.c] h = some (.d (i64 n'),h):=by
 obtain ⟨k,hk⟩:=jM (n:=p.ns.size);obtain ⟨n',J',q1⟩:=WR (E:=E) hp p.rules.l.length 0 (IntKind.wrap .i64 (1 + k)) [] (by omega);refine ⟨n',fun h=>?_⟩;rw [bf t87 v87];simp at q1;simp [af,q87,hk];rw [aH];simp [q1]
theorem WL (c:Cfg) (hc:c.ok):∀ (m i:Nat) (n:Int),i + m = c.pods.l.length →
 ∃ n',Cd E TT ak (.loop [1,3,4] nD) [(1,.ptr 0 0),(3,.d (i64 n)),(4,.d (i64 i))] ⟨[.cells (c.c.map .d)],0⟩ = some (.exit 0,[(1,.ptr 0 0),(3,.d (i64 n'))],⟨[.cells (c.c.map .d)],0⟩):=by
 have hlt:=hc.1.lt;intro m;have key:=ax (E:=E) (T:=TT) (val:=ak) [1,3,4] nD;generalize Cd E TT ak (.loop [1,3,4] nD) = W at key ⊢
 induction m with
 | zero =>
  intro i n hi;refine ⟨n,?_⟩;rw [key];simp [nD,show ¬ ((i:Int) < c.pods.l.length) from by omega]
 | succ m ih =>
  intro i n hi;have h1:i < c.pods.l.length:=by omega
  have hx:=fun h=>bi (z:=7) h (List.getElem?_eq_getElem h1) (cells:=Pod.c) rfl;have hw:=aK h1 hlt;by_cases hn:n <= 2000
  · generalize c.pods.l[i] = x at *;obtain ⟨k,hk⟩:=jM (n:=IntKind.wrap .i64 ((x.ns.size:Int) + (x.sa.size:Int)));rw [key];simp [nD,hx,hk,hw,hn,show ((i:Int) < c.pods.l.length) from by omega];rw [show ((i:Int) + 1) = ((i + 1:Nat):Int) from by omega];exact ih (i + 1) _ (by omega)
  · refine ⟨n,?_⟩;rw [key];simp [nD,hn,show ((i:Int) < c.pods.l.length) from by omega]
theorem WM (c:Cfg) (hc:c.ok):∀ (m i:Nat) (n:Int),i + m = c.services.l.length →
 ∃ n',Cd E TT ak (.loop [1,3,5] nE) [(1,.ptr 0 0),(3,.d (i64 n)),(5,.d (i64 i))] ⟨[.cells (c.c.map .d)],0⟩ = some (.exit 2,[(1,.ptr 0 0),(3,.d (i64 n'))],⟨[.cells (c.c.map .d)],0⟩):=by
 have hlt:=hc.2.1.lt;intro m;have key:=ax (E:=E) (T:=TT) (val:=ak) [1,3,5] nE;generalize Cd E TT ak (.loop [1,3,5] nE) = W at key ⊢
 induction m with
 | zero =>
  intro i n hi;refine ⟨n,?_⟩;rw [key];simp [nE,show ¬ ((i:Int) < c.services.l.length) from by omega]
 | succ m ih =>
  intro i n hi;have h1:i < c.services.l.length:=by omega
  have hx:=fun h=>bi (z:=5) h (List.getElem?_eq_getElem h1) (cells:=Svc.c) rfl;have hw:=aK h1 hlt;by_cases hn:n <= 2000
  · generalize c.services.l[i] = x at *;obtain ⟨k,hk⟩:=jM (n:=x.ns.size);rw [key];simp [nE,hx,hk,hw,hn,show ((i:Int) < c.services.l.length) from by omega];rw [show ((i:Int) + 1) = ((i + 1:Nat):Int) from by omega];exact ih (i + 1) _ (by omega)
  · refine ⟨n,?_⟩;rw [key];simp [nE,hn,show ((i:Int) < c.services.l.length) from by omega]
theorem WN (c:Cfg) (hc:c.ok):∀ (m i:Nat) (n:Int),i + m = c.policies.l.length →
 ∃ n',Cd E TT ak (.loop [1,3,6] nG) [(1,.ptr 0 0),(3,.d (i64 n)),(6,.d (i64 i))] ⟨[.cells (c.c.map .d)],0⟩ = some (.exit 4,[(3,.d (i64 n'))],⟨[.cells (c.c.map .d)],0⟩):=by
 have hlt:=hc.2.2.2.1.lt;intro m;have key:=ax (E:=E) (T:=TT) (val:=ak) [1,3,6] nG;generalize Cd E TT ak (.loop [1,3,6] nG) = W at key ⊢
 induction m with
 | zero =>
  intro i n hi;refine ⟨n,?_⟩;rw [key];simp [nG,show ¬ ((i:Int) < c.policies.l.length) from by omega]
 | succ m ih =>
  intro i n hi;have h1:i < c.policies.l.length:=by omega
  have hx:=fun h=>bi (z:=5) h (List.getElem?_eq_getElem h1) (cells:=Pol.c) rfl;have hw:=aK h1 hlt;have hfx:=hc.2.2.2.2 _ (List.getElem_mem h1);by_cases hn:n <= 2000
  · generalize c.policies.l[i] = x at *;obtain ⟨k,hk⟩:=S87 (E:=E) x hfx;rw [key];simp [nG,hx,hk,hw,hn,show ((i:Int) < c.policies.l.length) from by omega];rw [show ((i:Int) + 1) = ((i + 1:Nat):Int) from by omega];exact ih (i + 1) _ (by omega)
  · refine ⟨n,?_⟩;rw [key];simp [nG,hn,show ((i:Int) < c.policies.l.length) from by omega]
theorem S31 (c:Cfg) (hc:c.ok):∃ b:Bool,∀ h,Sm E TT ak 12 [c.v] h = some (bl b,h):=by
 obtain ⟨n1,q1⟩:=WL (E:=E) c hc c.pods.l.length 0 (IntKind.wrap .i64 (IntKind.wrap .i64 ((c.pods.l.length:Int) + (c.services.l.length:Int)) + (c.bound.l.length:Int))) (by omega);obtain ⟨n2,q2⟩:=WM (E:=E) c hc c.services.l.length 0 n1 (by omega);obtain ⟨n3,q3⟩:=WN (E:=E) c hc c.policies.l.length 0 n2 (by omega);refine ⟨decide (2000 < n3),fun h=>?_⟩;rw [bf t31 v31];simp at q1 q2 q3;simp [af,q31];rw [aH];simp [q1];rw [aH];simp [q2];rw [aH];simp [q3]
end
section
variable {E:Calls'}
def di (n:Int):List D:=[u32 n]
structure Vw where
 epoch:Int
 covers:Sl Int
 pods:Sl Pod
 services:Sl Svc
 bound:Sl Way
 policies:Sl Pol
def Vw.c (x:Vw):List D:=[u64 x.epoch,x.covers.d di,x.pods.d Pod.c,x.services.d Svc.c,x.bound.d Way.c,x.policies.d Pol.c]
abbrev Vw.v (x:Vw):V:=ag x.c
def Vw.cfg (x:Vw):Cfg:=⟨0,0,0,0,x.pods,x.services,x.bound,x.policies⟩
abbrev Vw.ok (x:Vw):Prop:=short x.covers /\ x.cfg.ok
@[simp] theorem Vw.len {x:Vw}:x.c.length = 6:=(rfl)
@[simp] theorem Vw.all {x:Vw}:sub x.c 0 6 = some x.c:=(rfl)
@[simp] theorem Vw.s0_1 {x:Vw}:sub x.c 0 1 = some [u64 x.epoch]:=(rfl)
@[simp] theorem Vw.s1_1 {x:Vw}:sub x.c 1 1 = some [x.covers.d di]:=(rfl)
@[simp] theorem Vw.s2_1 {x:Vw}:sub x.c 2 1 = some [x.pods.d Pod.c]:=(rfl)
@[simp] theorem Vw.s3_1 {x:Vw}:sub x.c 3 1 = some [x.services.d Svc.c]:=(rfl)
@[simp] theorem Vw.s4_1 {x:Vw}:sub x.c 4 1 = some [x.bound.d Way.c]:=(rfl)
@[simp] theorem Vw.s5_1 {x:Vw}:sub x.c 5 1 = some [x.policies.d Pol.c]:=(rfl)
structure Fnd where
 kind:Int
 pod:Pod
 service:Svc
 way:Way
def Fnd.c (x:Fnd):List D:=i64 x.kind :: (x.pod.c ++ (x.service.c ++ x.way.c))
abbrev Fnd.v (x:Fnd):V:=ag x.c
def fnd0:Fnd:=⟨0,cz2,db4,way0⟩
@[simp] theorem Fnd.len {x:Fnd}:x.c.length = 15:=(rfl)
@[simp] theorem Fnd.all {x:Fnd}:sub x.c 0 15 = some x.c:=(rfl)
@[simp] theorem Fnd.s1_7 {x:Fnd}:sub x.c 1 7 = some x.pod.c:=(rfl)
@[simp] theorem Fnd.s7_1 {x:Fnd}:sub x.c 7 1 = some [u64 x.pod.service]:=(rfl)
@[simp] theorem Fnd.s8_5 {x:Fnd}:sub x.c 8 5 = some x.service.c:=(rfl)
@[simp] theorem dy4:[(V.d (.int .i64 0)),(.d (.int .u64 0)),(.d (.str ⟨#[]⟩)),(.d (.str ⟨#[]⟩)),(.d (.int .i64 0)),(.d (.int .u32 0)),(.d (.int .i64 0)),(.d (.int .u64 0)),(.d (.int .u64 0)),(.d (.str ⟨#[]⟩)),(.d (.int .u32 0)),(.d (.int .i64 0)),(.d (.int .u64 0)),(.d (.int .u64 0)),(.d (.int .i64 0))] = fnd0.c.map .d:=(rfl)
@[simp] theorem cg1 {x:Fnd} {k:Int}:put (x.c.map V.d) 0 [.d (i64 k)] = some ((Fnd.c { x with kind:=k }).map .d):=(rfl)
@[simp] theorem dy3 {x:Fnd} {k:Int}:V.d (.int .i64 k) :: (x.c.map V.d).tail = (Fnd.c { x with kind:=k }).map .d:=(rfl)
@[simp] theorem dy2 {x:Fnd}:(x.c.map V.d).drop 15 = []:=(rfl)
@[simp] theorem cg2 {x:Fnd} {p:Pod}:put (x.c.map V.d) 1 (p.c.map .d) = some ((Fnd.c { x with pod:=p }).map .d):=(rfl)
@[simp] theorem cg3 {x:Fnd} {p:Svc}:put (x.c.map V.d) 8 (p.c.map .d) = some ((Fnd.c { x with service:=p }).map .d):=(rfl)
@[simp] theorem bo2 {x:Fnd} {p:Way}:put (x.c.map V.d) 13 (p.c.map .d) = some ((Fnd.c { x with way:=p }).map .d):=(rfl)
@[simp] theorem bo3 {x y:Fnd}:put (x.c.map V.d) 0 (y.c.map .d) = some (y.c.map .d):=(rfl)
def Fnd.eqB (x y:Fnd):Bool:=x.kind == y.kind && (x.pod.uid == y.pod.uid && (eqS x.pod.ns y.pod.ns && (eqS x.pod.sa y.pod.sa && (x.pod.host == y.pod.host && (x.pod.addr == y.pod.addr && (x.pod.port == y.pod.port && (x.pod.service == y.pod.service && (x.service.id == y.service.id && (eqS x.service.ns y.service.ns && (x.service.addr == y.service.addr && (x.service.port == y.service.port && (x.service.way == y.service.way && (x.way.id == y.way.id && (x.way.node == y.way.node && true))))))))))))))
@[simp] theorem bn9 {h:Hp} {n:Bool} {x y:Fnd}:eqv (.agg [(.i .i64),(.i .u64),.s,.s,(.i .i64),(.i .u32),(.i .i64),(.i .u64),(.i .u64),.s,(.i .u32),(.i .i64),(.i .u64),(.i .u64),(.i .i64)]) n (ag x.c) (ag y.c) h = some (.d (.bool (x.eqB y != n)),h):=by
 simp [eqv,fu,ag,Fnd.c,Pod.c,Svc.c,Way.c,bn,kJ,Fnd.eqB,eqS]
@[simp] theorem Fnd.eqB_refl (x:Fnd):x.eqB x = true:=by simp [Fnd.eqB]
end
section
variable {E:Calls'}
@[simp] theorem Q7 {α:Type} (l:List α):l.find? (fun _=>false) = none:=by simp [List.find?_eq_none]
theorem bw8 {s:Sl Int} (hs:short s) (n:Int) (h:Hp):∀ (m i:Nat),i + m = s.l.length →
 Cd E TT ak (.loop [0,1,7,8] ku) [(0,.d (s.d di)),(1,.d (u32 n)),(7,.d (i64 s.l.length)),(8,.d (i64 i))] h =
  match (s.l.drop i).findIdx? (fun x=>x == n) with
  | some k=>some (.ret,[(4,.d (i64 (i + k:Nat)))],h)
  | none=>some (.exit 0,[],h):=by
 have hlt:=hs.lt;intro m;have key:=ax (E:=E) (T:=TT) (val:=ak) [0,1,7,8] ku;generalize Cd E TT ak (.loop [0,1,7,8] ku) = W at key ⊢
 induction m with
 | zero =>
  intro i hi;have h0:s.l.drop i = []:=List.drop_eq_nil_of_le (by omega);rw [key];simp [ku,h0,show ¬ ((i:Int) < s.l.length) from by omega]
 | succ m ih =>
  intro i hi;have h1:i < s.l.length:=by omega
  have hx:=fun h=>bi (z:=1) h (List.getElem?_eq_getElem h1) (cells:=di) rfl;have hw:=aK h1 hlt;have:=ih (i + 1) (by omega);rw [key,List.drop_eq_getElem_cons h1];generalize s.l[i] = x at *;by_cases hq:x = n
  · simp [ku,hx,hq,di,List.findIdx?_cons,show ((i:Int) < s.l.length) from by omega]
  · have hq':(x == n) = false:=by simpa using hq
    have hq2:¬ n = x:=fun h=>hq h.symm;simp [ku,hx,hq',hq,hq2,di,hw,List.findIdx?_cons,show ((i:Int) < s.l.length) from by omega];rw [show ((i:Int) + 1) = ((i + 1:Nat):Int) from by omega,this];cases hfi:(s.l.drop (i + 1)).findIdx? (fun p=>p == n) with
    | none=>rfl
    | some k=>simp; omega
theorem Xv {s:Sl Int} (hs:short s) (n:Int) (h:Hp):Sm E TT ak 169 [.d (s.d di),.d (u32 n)] h = some (.d (i64 (mE s.l fun x=>x == n)),h):=by
 rw [bf t232 v232];have k1:=fun h=>bw8 (E:=E) hs n h s.l.length 0 (by omega);simp at k1;simp [af,Il];rw [aH];simp [k1,mE];cases s.l.findIdx? (fun x=>x == n) with
 | none=>simp
 | some k=>simp
def iI (l:List Int) (n:Int):Bool:=(l.find? fun x=>x == n).isSome
theorem bz6 {s:Sl Int} (hs:short s) (n:Int) (h:Hp):Sm E TT ak 69 [.d (s.d di),.d (u32 n)] h = some (bl (iI s.l n),h):=by
 rw [bf t117 v117];rcases jN s.l (fun x=>x == n) with ⟨g1,g2⟩ | ⟨k,p,g1,g2,g3⟩
 · simp [af,D9,Xv hs,g2,iI,g1]
 · simp [af,D9,Xv hs,g2,iI,g1]
end
section
variable {E:Calls'}
end
section
section
variable {E:Calls'}
def mJ:List V:=[(.d (.int .u64 0)),(.d (.str ⟨#[]⟩)),(.d (.int .u64 0)),(.d (.int .i64 0)),(.d (.slice true []))]
end
end
section
variable {E:Calls'}
theorem Be {l:List Pol} {bs0:List Blk} {b:Nat} (hb:ah bs0 b = some (flat (l.map Pol.c))):Thin Pol.c 5 l bs0 b [] bs0 :=
 ⟨Nat.le_refl _,fun _ _ _=>rfl,by rw [hb]; simp⟩
theorem Jq {l m:List Pol} {bs0 bs:List Blk} {b:Nat} (h:Thin Pol.c 5 l bs0 b m bs) (hm:m.length = l.length):ah bs b = some (flat (m.map Pol.c)):=by
 have h1:=bD (cells:=Pol.c) (z:=5) (fun _=>rfl) l;rw [h.row,hm,List.drop_eq_nil_of_le (by rw [h1]; omega),List.append_nil]
end
section
variable {E:Calls'}
end
section
variable {E:Calls'}
theorem S70 (v:Vw) (hv:v.ok):∃ b:Bool,∀ h,Sm E TT ak 4 [v.v] h = some (bl b,h):=by
 obtain ⟨b,hb⟩:=S31 (E:=E) v.cfg hv.2;have h31:∀ h,Sm E TT ak 12 [.agg [.d (.int .u64 0),.d (.int .u64 0),.d (.int .i64 0),.d (.int .i64 0),.d (v.pods.d Pod.c),.d (v.services.d Svc.c),.d (v.bound.d Way.c),.d (v.policies.d Pol.c)]] h = some (bl b,h):=hb;by_cases hc:(v.covers.l.length:Int) > 1000
 · refine ⟨true,fun h=>?_⟩;rw [bf t70 v70];simp [af,q70,aA,put,h31,hc,aG]
 · refine ⟨b,fun h=>?_⟩;rw [bf t70 v70];simp [af,q70,aA,put,h31,hc,aG]
end
end Go.Proofs.YtjkfknafpgfchaaGreat
