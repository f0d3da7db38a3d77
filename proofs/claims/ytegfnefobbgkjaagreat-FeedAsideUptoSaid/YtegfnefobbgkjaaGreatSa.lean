/- Layer 16's functions: Pod, At, WayOf, service. -/
import Derived.Test.YtegfnefobbgkjaaGreatT8
import Derived.Test.YtegfnefobbgkjaaGreatGm
set_option maxRecDepth 100000
set_option linter.unusedVariables false
set_option linter.unusedSimpArgs false
namespace Go.Proofs.YtegfnefobbgkjaaGreat
variable {E:Calls'}
theorem S229 (p:Svc) (b:Int) (x:Nat) (h:Hp) (hp:getB h.bs x = some [.d (u64 b)]):Sm E TT valT 207 [p.v,.ptr x 0] h = some (bl (p.id == b),h):=by
 rw [Sm_ref t229 v229]
 simp [Bd_mk,q229,getB_of hp,V.under]
theorem S110 (p:Way) (s:Svc) (x:Nat) (h:Hp) (hp:getB h.bs x = some (s.c.map .d)):Sm E TT valT 128 [p.v,.ptr x 0] h = some (bl (p.id == s.way),h):=by
 rw [Sm_ref t110 v110]
 simp [Bd_mk,q110,getB_of hp,V.under,Way.c]
theorem S103_229 {s:Sl Svc} (hs:short s) {x:Nat} {n:Int} {h:Hp} (hp:getB h.bs x = some [.d (u64 n)]):Sm E TT valT 206 [.d (s.d Svc.c),.fn 207 [.ptr x 0]] h = some (.d (i64 (idxI s.l fun p=>p.id == n)),h) :=
 S_idx Svc.c (z:=5) t103 v103 (RowIs.of (cells:=Svc.c) (fun _=>rfl) _) hs.lt fun p _ lo=>S229 p n x _ hp
theorem S109_110 {s:Sl Way} (hs:short s) {x:Nat} {n:Svc} {h:Hp} (hp:getB h.bs x = some (n.c.map .d)):Sm E TT valT 127 [.d (s.d Way.c),.fn 128 [.ptr x 0]] h = some (.d (i64 (idxI s.l fun p=>p.id == n.way)),h) :=
 S_idx Way.c (z:=2) t109 v109 (RowIs.of (cells:=Way.c) (fun _=>rfl) _) hs.lt fun p _ lo=>S110 p n x _ hp
theorem S108 (c:Cfg) (hc:c.ok) (n:Int) (h:Hp):Sm E TT valT 126 [c.v,.d (u64 n)] h = some (.tup (match c.services.l.find? (fun p=>p.id == n) with | some p=>[p.v,bl true] | none=>[svc0.v,bl false]),h):=by
 rw [Sm_v t108 v108]
 rcases idx_cases c.services.l (fun p=>p.id == n) with ⟨h1,h2⟩ | ⟨k,p,h1,h2,h3⟩
 · simp [Bd_mk,q108,S103_229 hc.2.1,h1,h2,svc0]
   first | done | rfl
 · simp [Bd_mk,q108,S103_229 hc.2.1,h1,h2,idxv_sl (z:=5) _ h3 (cells:=Svc.c) rfl]
   first | done | rfl
def wayT (c:Cfg) (n:Int):Option Way:=match c.services.l.find? (fun p=>p.id == n) with
 | none=>none
 | some s=>if s.way == 0 then none else c.bound.l.find? fun w=>w.id == s.way
theorem S45 (c:Cfg) (hc:c.ok) (n:Int) (h:Hp):Sm E TT valT 56 [c.v,.d (u64 n)] h = some (.tup (match wayT c n with | some w=>[w.v,bl true] | none=>[way0.v,bl false]),h):=by
 rw [Sm_v t45 v45]
 have h108:=S108 (E:=E) c hc n
 have h109:=fun s h hp=>S109_110 (E:=E) hc.2.2.1 (x:=2) (n:=s) (h:=h) hp
 cases h1:c.services.l.find? (fun p=>p.id == n) with
 | none =>
  simp only [h1] at h108
  have h109:=h109 svc0
  generalize idxI c.bound.l _ = ix at h109
  simp [Bd_mk,q45,h108,h109,wayT,h1]
  rfl
 | some s =>
  simp only [h1] at h108
  have h109:=h109 s
  by_cases hw:s.way = 0
  · generalize idxI c.bound.l _ = ix at h109
    simp [Bd_mk,q45,h108,h109,wayT,h1,hw]
    rfl
  · rcases idx_cases c.bound.l (fun w=>w.id == s.way) with ⟨g1,g2⟩ | ⟨k,p,g1,g2,g3⟩
    · simp [Bd_mk,q45,h108,h109,wayT,h1,hw,g1,g2]
      rfl
    · simp [Bd_mk,q45,h108,h109,wayT,h1,hw,g1,g2,idxv_sl (z:=2) _ g3 (cells:=Way.c) rfl]
def holdsT (p:Pol) (ns:ByteArray) (service:Int):Bool:=(eqS p.ns ⟨#[]⟩ || eqS p.ns ns) && (p.service == 0 || p.service == service)
theorem S114 (p:Pol) (ns:ByteArray) (s:Int) (h:Hp):Sm E TT valT 141 [p.v,.d (.str ns),.d (u64 s)] h = some (bl (holdsT p ns s),h):=by
 rw [Sm_v t114 v114]
 cases h1:eqS p.ns ⟨#[]⟩ <;> cases h2:eqS p.ns ns <;> cases h3:p.service == 0 <;> cases h4:p.service == s <;>
  simp [Bd_mk,q114,holdsT,h1,h2,h3,h4]
theorem S52 (p:Pol) (x:Pod) (h:Hp):Sm E TT valT 76 [p.v,x.v] h = some (bl (holdsT p x.ns x.service),h):=by
 rw [Sm_v t52 v52]
 simp [Bd_mk,q52,S114]
end Go.Proofs.YtegfnefobbgkjaaGreat
namespace Go.Proofs.YtegfnefobbgkjaaGreat
variable {E:Calls'}
def pod0V:List V:=[(.d (.int .u64 0)),(.d (.str ⟨#[]⟩)),(.d (.str ⟨#[]⟩)),(.d (.int .i64 0)),(.d (.int .u32 0)),(.d (.int .i64 0)),(.d (.int .u64 0))]
end Go.Proofs.YtegfnefobbgkjaaGreat
namespace Go.Proofs.YtegfnefobbgkjaaGreat
variable {E:Calls'}
theorem S370 {s:Sl Term} (hs:short s) (h:Hp):Sm E TT valT 260 [.d (s.d Term.c)] h = some (.d (s.d Term.c),h) :=
 S_cloneV (z:=2) (b:=24) (zero:=[(.d (.int .i64 0)),(.d (.str ⟨#[]⟩))]) t370 v370 (by decide) (by decide) (fun _=>rfl) hs h
theorem S371 {s:Sl Cidr} (hs:short s) (h:Hp):Sm E TT valT 261 [.d (s.d Cidr.c)] h = some (.d (s.d Cidr.c),h) :=
 S_cloneV (z:=2) (b:=16) (zero:=[(.d (.int .u32 0)),(.d (.int .i64 0))]) t371 v371 (by decide) (by decide) (fun _=>rfl) hs h
theorem S372 {s:Sl Int} (hs:short s) (h:Hp):Sm E TT valT 262 [.d (s.d intC)] h = some (.d (s.d intC),h) :=
 S_cloneV (z:=1) (b:=8) (zero:=[(.d (.int .i64 0))]) t372 v372 (by decide) (by decide) (fun _=>rfl) hs h
theorem S322 (s:Source) (hs:s.fits big) (h:Hp):Sm E TT valT 227 [ag s.c] h = some (ag s.c,h):=by
 rw [Sm_v t322 v322]
 simp (decide:=true) [Bd_mk,q322,openA,opDE_call,S370 hs.1,S370 hs.2.1,S371 hs.2.2]
 rfl
theorem S324 (s:Target) (hs:s.fits big) (h:Hp):Sm E TT valT 229 [ag s.c] h = some (ag s.c,h):=by
 rw [Sm_v t324 v324]
 simp (decide:=true) [Bd_mk,q324,openA,opDE_call,S372 hs.1,S370 hs.2.1,S370 hs.2.2.1,S370 hs.2.2.2]
 rfl
@[simp] theorem When.p1 {x:When} {v:V}:put (x.c.map V.d) 1 [v] = some [.d (.str x.head),v]:=rfl
@[simp] theorem Pol.p4 {x:Pol} {v:V}:put (x.c.map V.d) 4 [v] = some [.d (u64 x.id),.d (.str x.ns),.d (u64 x.service),.d (i64 x.deny),v]:=rfl
theorem S326 (s:When) (hs:s.fits big) (h:Hp):Sm E TT valT 231 [ag s.c] h = some (ag s.c,h):=by
 rw [Sm_v t326 v326]
 simp [Bd_mk,q326,S370 hs]
 rfl
def sl0 (n:Nat):List V:=List.replicate n (.d (.slice true []))
theorem S321 {s:Sl Source} (hs:short s) (hf:∀ x ∈ s.l,x.fits big) (h:Hp):Sm E TT valT 226 [.d (s.d Source.c),.fn 227 []] h = some (.d (Sl.d Source.c ⟨s.l.isEmpty,s.l⟩),h):=by
 have:=S_map (E:=E) (T:=TT) (val:=valT) (cells:=Source.c) (z:=3) (by_:=72) (zero:=sl0 3) t321 v321 (fun _=>rfl) (by decide) (by decide) rfl hs (f:=227) (g:=id) (fun e he h=>S322 e (hf e he) h) h
 simpa using this
theorem S323 {s:Sl Target} (hs:short s) (hf:∀ x ∈ s.l,x.fits big) (h:Hp):Sm E TT valT 228 [.d (s.d Target.c),.fn 229 []] h = some (.d (Sl.d Target.c ⟨s.l.isEmpty,s.l⟩),h):=by
 have:=S_map (E:=E) (T:=TT) (val:=valT) (cells:=Target.c) (z:=4) (by_:=96) (zero:=sl0 4) t323 v323 (fun _=>rfl) (by decide) (by decide) rfl hs (f:=229) (g:=id) (fun e he h=>S324 e (hf e he) h) h
 simpa using this
theorem S325 {s:Sl When} (hs:short s) (hf:∀ x ∈ s.l,x.fits big) (h:Hp):Sm E TT valT 230 [.d (s.d When.c),.fn 231 []] h = some (.d (Sl.d When.c ⟨s.l.isEmpty,s.l⟩),h):=by
 have:=S_map (E:=E) (T:=TT) (val:=valT) (cells:=When.c) (z:=2) (by_:=40) (zero:=[(.d (.str ⟨#[]⟩)),(.d (.slice true []))]) t325 v325 (fun _=>rfl) (by decide) (by decide) rfl hs (f:=231) (g:=id) (fun e he h=>S326 e (hf e he) h) h
 simpa using this
def Rule.own (r:Rule):Rule:=⟨⟨r.frm.l.isEmpty,r.frm.l⟩,⟨r.to.l.isEmpty,r.to.l⟩,⟨r.whn.l.isEmpty,r.whn.l⟩⟩
def Pol.own (p:Pol):Pol:={ p with rules:=⟨p.rules.l.isEmpty,p.rules.l.map Rule.own⟩ }
theorem S231 (r:Rule) (hr:r.fits big) (h:Hp):Sm E TT valT 160 [ag r.c] h = some (ag r.own.c,h):=by
 rw [Sm_v t231 v231]
 simp (decide:=true) [Bd_mk,q231,openA,opDE_call,S321 hr.1.1 hr.1.2,S323 hr.2.1.1 hr.2.1.2,S325 hr.2.2.1 hr.2.2.2]
 rfl
theorem S230 {s:Sl Rule} (hs:short s) (hf:∀ x ∈ s.l,x.fits big) (h:Hp):Sm E TT valT 159 [.d (s.d Rule.c),.fn 160 []] h = some (.d (Sl.d Rule.c ⟨s.l.isEmpty,s.l.map Rule.own⟩),h) :=
 S_map (E:=E) (T:=TT) (val:=valT) (cells:=Rule.c) (z:=3) (by_:=72) (zero:=sl0 3) t230 v230 (fun _=>rfl) (by decide) (by decide) rfl hs (f:=160) (g:=Rule.own) (fun e he h=>S231 e (hf e he) h) h
theorem S113 (p:Pol) (hp:p.fits big) (h:Hp):Sm E TT valT 83 [ag p.c] h = some (ag p.own.c,h):=by
 rw [Sm_v t113 v113]
 simp [Bd_mk,q113,S230 hp.1 hp.2]
 rfl
end Go.Proofs.YtegfnefobbgkjaaGreat
namespace Go.Proofs.YtegfnefobbgkjaaGreat
variable {E:Calls'}
theorem int_next {i n:Nat} (h:i < n) (hn:n < 2 ^ 62):IntKind.wrap .i64 ((i:Int) + 1) = ((i + 1:Nat):Int):=by rw [wrap64] <;> omega
end Go.Proofs.YtegfnefobbgkjaaGreat
namespace Go.Proofs.YtegfnefobbgkjaaGreat
variable {E:Calls'}
end Go.Proofs.YtegfnefobbgkjaaGreat
namespace Go.Proofs.YtegfnefobbgkjaaGreat
variable {E:Calls'}
end Go.Proofs.YtegfnefobbgkjaaGreat
namespace Go.Proofs.YtegfnefobbgkjaaGreat
variable {E:Calls'}
@[simp] theorem lt_or_le' (a b:Nat):(a < b \/ b <= a) ↔ True:=⟨fun _=>trivial,fun _=>Nat.lt_or_ge a b⟩
end Go.Proofs.YtegfnefobbgkjaaGreat
namespace Go.Proofs.YtegfnefobbgkjaaGreat
variable {E:Calls'}
theorem bin_quo64 {n:Int}:∃ m,binD .quo (.d (.int .i64 n)) (.d (.int .i64 64)) = some (.int .i64 m):=⟨_,by simp [binD,binInt]; rfl⟩
theorem L185 {s:Sl Term} (hs:short s) (h:Hp):∀ (m i:Nat) (n:Int),i + m = s.l.length →
 ∃ n',Cd E TT valT (.loop [0,3,4] q185_b0) [(0,.d (s.d Term.c)),(3,.d (i64 n)),(4,.d (i64 i))] h = some (.exit 0,[(3,.d (i64 n'))],h):=by
 have hlt:=hs.lt
 intro m
 have key:=Cd_round (E:=E) (T:=TT) (val:=valT) [0,3,4] q185_b0
 generalize Cd E TT valT (.loop [0,3,4] q185_b0) = W at key ⊢
 induction m with
 | zero =>
  intro i n hi
  refine ⟨n,?_⟩
  rw [key]
  simp [q185_b0,show ¬ ((i:Int) < s.l.length) from by omega]
 | succ m ih =>
  intro i n hi
  have hlt:i < s.l.length:=by omega
  have hx:=fun h=>idxv_sl (z:=2) h (List.getElem?_eq_getElem hlt) (cells:=Term.c) rfl
  have hw:=int_next hlt (by omega)
  by_cases hn:n <= 2000
  · generalize s.l[i] = x at *
    obtain ⟨k,hq⟩:=bin_quo64 (n:=x.text.size)
    obtain ⟨n',q1⟩:=ih (i + 1) (IntKind.wrap .i64 (n + k)) (by omega)
    refine ⟨n',?_⟩
    rw [key]
    simp [q185_b0,hx,hq,hw,hn,show ((i:Int) < s.l.length) from by omega]
    simpa using q1
  · refine ⟨n,?_⟩
    rw [key]
    simp [q185_b0,hn,show ((i:Int) < s.l.length) from by omega]
theorem S185 {s:Sl Term} (hs:short s):∃ n':Int,∀ h,Sm E TT valT 26 [.d (s.d Term.c)] h = some (.d (i64 n'),h):=by
 obtain ⟨n',q1⟩:=L185 (E:=E) hs ⟨[],0⟩ s.l.length 0 s.l.length (by omega)
 refine ⟨n',fun h=>?_⟩
 rw [Sm_v t185 v185]
 simp at q1
 simp [Bd_mk,q185]
 rw [Cd_keep]
 simp [q1]
def Tr.mute (t:Tr):Bool:=!t.big && t.wr.isEmpty && t.lo == t.hi
theorem apartT_mute {pr:List (List Nat)} {l:List Tr} (h:l.all Tr.mute = true):apartT pr l = true:=by
 have hm:∀ t ∈ l,t.big = false /\ t.wr = [] /\ t.lo = t.hi:=by
  intro t ht
  have:=List.all_eq_true.1 h t ht
  simp only [Tr.mute,Bool.and_eq_true,Bool.not_eq_true',List.isEmpty_iff,beq_iff_eq] at this
  exact ⟨this.1.1,this.1.2,this.2⟩
 simp only [apartT,List.all_eq_true,List.mem_range,Bool.or_eq_true]
 intro i hi j hj
 right
 rw [List.getElem?_eq_getElem hi,List.getElem?_eq_getElem hj]
 obtain ⟨a1,a2,a3⟩:=hm _ (List.getElem_mem hi)
 obtain ⟨b1,b2,b3⟩:=hm _ (List.getElem_mem hj)
 simp only [Tr.spares,a1,b1,a2,a3,Bool.or_self,Bool.false_eq_true,if_false]
 split
 · simp
 · simp only [List.all_eq_true]
   intro b _
   simp
theorem L87_0 {r:Rule} (hr:r.fits big) {h:Hp} {q:Nat} {t1 t4:V} (hq:getB h.bs q = some (r.c.map .d)):∀ (m i:Nat) (n:Int),i + m = r.frm.l.length →
 ∃ n',Cd E TT valT (.loop [1,3,4,5,6] q87_b0) [(1,t1),(3,.d (i64 n)),(4,t4),(5,.ptr q 0),(6,.d (i64 i))] h = some (.exit 2,[(1,t1),(3,.d (i64 n')),(4,t4),(5,.ptr q 0)],h):=by
 have hlt:=hr.1.1.lt
 intro m
 have key:=Cd_round (E:=E) (T:=TT) (val:=valT) [1,3,4,5,6] q87_b0
 generalize Cd E TT valT (.loop [1,3,4,5,6] q87_b0) = W at key ⊢
 induction m with
 | zero =>
  intro i n hi
  refine ⟨n,?_⟩
  rw [key]
  simp [q87_b0,hq,show ¬ ((i:Int) < r.frm.l.length) from by omega]
 | succ m ih =>
  intro i n hi
  have h1:i < r.frm.l.length:=by omega
  have hx:=fun h=>idxv_sl (z:=3) h (List.getElem?_eq_getElem h1) (cells:=Source.c) rfl
  have hw:=int_next h1 hlt
  have hfx:=hr.1.2 _ (List.getElem_mem h1)
  by_cases hn:n <= 2000
  · generalize r.frm.l[i] = x at *
    obtain ⟨k0,hk0⟩:=S185 (E:=E) (s:=x.names) hfx.1
    obtain ⟨k1,hk1⟩:=S185 (E:=E) (s:=x.spaces) hfx.2.1
    rw [key]
    simp [q87_b0,hq,hx,openA,opDE_call,apartT_mute,Tr.mute,hk0,hk1,hw,hn,show ((i:Int) < r.frm.l.length) from by omega]
    rw [show ((i:Int) + 1) = ((i + 1:Nat):Int) from by omega]
    exact ih (i + 1) _ (by omega)
  · refine ⟨n,?_⟩
    rw [key]
    simp [q87_b0,hq,hn,show ((i:Int) < r.frm.l.length) from by omega]
theorem L87_1 {r:Rule} (hr:r.fits big) {h:Hp} {q:Nat} {t1 t4:V} (hq:getB h.bs q = some (r.c.map .d)):∀ (m i:Nat) (n:Int),i + m = r.to.l.length →
 ∃ n',Cd E TT valT (.loop [1,3,4,5,7] q87_b1) [(1,t1),(3,.d (i64 n)),(4,t4),(5,.ptr q 0),(7,.d (i64 i))] h = some (.exit 4,[(1,t1),(3,.d (i64 n')),(4,t4),(5,.ptr q 0)],h):=by
 have hlt:=hr.2.1.1.lt
 intro m
 have key:=Cd_round (E:=E) (T:=TT) (val:=valT) [1,3,4,5,7] q87_b1
 generalize Cd E TT valT (.loop [1,3,4,5,7] q87_b1) = W at key ⊢
 induction m with
 | zero =>
  intro i n hi
  refine ⟨n,?_⟩
  rw [key]
  simp [q87_b1,hq,show ¬ ((i:Int) < r.to.l.length) from by omega]
 | succ m ih =>
  intro i n hi
  have h1:i < r.to.l.length:=by omega
  have hx:=fun h=>idxv_sl (z:=4) h (List.getElem?_eq_getElem h1) (cells:=Target.c) rfl
  have hw:=int_next h1 hlt
  have hfx:=hr.2.1.2 _ (List.getElem_mem h1)
  by_cases hn:n <= 2000
  · generalize r.to.l[i] = x at *
    obtain ⟨k0,hk0⟩:=S185 (E:=E) (s:=x.methods) hfx.2.1
    obtain ⟨k1,hk1⟩:=S185 (E:=E) (s:=x.paths) hfx.2.2.1
    obtain ⟨k2,hk2⟩:=S185 (E:=E) (s:=x.hosts) hfx.2.2.2
    rw [key]
    simp [q87_b1,hq,hx,openA,opDE_call,apartT_mute,Tr.mute,hk0,hk1,hk2,hw,hn,show ((i:Int) < r.to.l.length) from by omega]
    rw [show ((i:Int) + 1) = ((i + 1:Nat):Int) from by omega]
    exact ih (i + 1) _ (by omega)
  · refine ⟨n,?_⟩
    rw [key]
    simp [q87_b1,hq,hn,show ((i:Int) < r.to.l.length) from by omega]
theorem L87_2 {r:Rule} (hr:r.fits big) {h:Hp} {q:Nat} {t1 t4:V} (hq:getB h.bs q = some (r.c.map .d)):∀ (m i:Nat) (n:Int),i + m = r.whn.l.length →
 ∃ n',Cd E TT valT (.loop [1,3,4,5,8] q87_b2) [(1,t1),(3,.d (i64 n)),(4,t4),(5,.ptr q 0),(8,.d (i64 i))] h = some (.exit 6,[(1,t1),(3,.d (i64 n')),(4,t4)],h):=by
 have hlt:=hr.2.2.1.lt
 intro m
 have key:=Cd_round (E:=E) (T:=TT) (val:=valT) [1,3,4,5,8] q87_b2
 generalize Cd E TT valT (.loop [1,3,4,5,8] q87_b2) = W at key ⊢
 induction m with
 | zero =>
  intro i n hi
  refine ⟨n,?_⟩
  rw [key]
  simp [q87_b2,hq,show ¬ ((i:Int) < r.whn.l.length) from by omega]
 | succ m ih =>
  intro i n hi
  have h1:i < r.whn.l.length:=by omega
  have hx:=fun h=>idxv_sl (z:=2) h (List.getElem?_eq_getElem h1) (cells:=When.c) rfl
  have hw:=int_next h1 hlt
  have hfx:=hr.2.2.2 _ (List.getElem_mem h1)
  by_cases hn:n <= 2000
  · generalize r.whn.l[i] = x at *
    obtain ⟨k0,hk0⟩:=S185 (E:=E) (s:=x.terms) hfx
    obtain ⟨w,hw2⟩:=bin_quo64 (n:=x.head.size)
    rw [key]
    simp [q87_b2,hq,hx,openA,opDE_call,apartT_mute,Tr.mute,hk0,hw,hn,hw2,show ((i:Int) < r.whn.l.length) from by omega]
    rw [show ((i:Int) + 1) = ((i + 1:Nat):Int) from by omega]
    exact ih (i + 1) _ (by omega)
  · refine ⟨n,?_⟩
    rw [key]
    simp [q87_b2,hq,hn,show ((i:Int) < r.whn.l.length) from by omega]
end Go.Proofs.YtegfnefobbgkjaaGreat
namespace Go.Proofs.YtegfnefobbgkjaaGreat
variable {E:Calls'}
theorem L87_3 {p:Pol} (hp:p.ok):∀ (m i:Nat) (n:Int) (J:List Blk),i + m = p.rules.l.length →
 ∃ n' J',Cd E TT valT (.loop [1,3,4] q87_b3) [(1,.ptr 0 0),(3,.d (i64 n)),(4,.d (i64 i))] ⟨.cells (p.c.map .d) :: J,0⟩ = some (.exit 0,[(3,.d (i64 n'))],⟨.cells (p.c.map .d) :: J',0⟩):=by
 have hlt:=hp.1.lt
 intro m
 have key:=Cd_round (E:=E) (T:=TT) (val:=valT) [1,3,4] q87_b3
 generalize Cd E TT valT (.loop [1,3,4] q87_b3) = W at key ⊢
 induction m with
 | zero =>
  intro i n J hi
  refine ⟨n,J,?_⟩
  rw [key]
  simp [q87_b3,show ¬ ((i:Int) < p.rules.l.length) from by omega]
 | succ m ih =>
  intro i n J hi
  have h1:i < p.rules.l.length:=by omega
  have hx:=fun h=>idxv_sl (z:=3) h (List.getElem?_eq_getElem h1) (cells:=Rule.c) rfl
  have hw:=int_next h1 hlt
  have hfx:=hp.2 _ (List.getElem_mem h1)
  by_cases hn:n <= 2000
  · generalize p.rules.l[i] = x at *
    obtain ⟨n1,q1⟩:=L87_0 (E:=E) hfx (h:=⟨.cells (p.c.map .d) :: (J ++ [.cells (x.c.map .d)]),0⟩) (q:=J.length + 1) (t1:=.ptr 0 0) (t4:=.d (i64 i)) (by simp) x.frm.l.length 0 (IntKind.wrap .i64 (n + IntKind.wrap .i64 (IntKind.wrap .i64 (IntKind.wrap .i64 (1 + (x.frm.l.length:Int)) + (x.to.l.length:Int)) + (x.whn.l.length:Int)))) (by omega)
    obtain ⟨n2,q2⟩:=L87_1 (E:=E) hfx (h:=⟨.cells (p.c.map .d) :: (J ++ [.cells (x.c.map .d)]),0⟩) (q:=J.length + 1) (t1:=.ptr 0 0) (t4:=.d (i64 i)) (by simp) x.to.l.length 0 n1 (by omega)
    obtain ⟨n3,q3⟩:=L87_2 (E:=E) hfx (h:=⟨.cells (p.c.map .d) :: (J ++ [.cells (x.c.map .d)]),0⟩) (q:=J.length + 1) (t1:=.ptr 0 0) (t4:=.d (i64 i)) (by simp) x.whn.l.length 0 n2 (by omega)
    simp at q1 q2 q3
    rw [key]
    simp [q87_b3,hx,hn,show ((i:Int) < p.rules.l.length) from by omega]
    rw [Cd_keep]
    simp [q1]
    rw [Cd_keep]
    simp [q2]
    rw [Cd_keep]
    simp [q3,hw]
    rw [show ((i:Int) + 1) = ((i + 1:Nat):Int) from by omega]
    exact ih (i + 1) _ _ (by omega)
  · refine ⟨n,J,?_⟩
    rw [key]
    simp [q87_b3,hn,show ((i:Int) < p.rules.l.length) from by omega]
theorem S87 (p:Pol) (hp:p.ok):∃ n':Int,∀ h,Sm E TT valT 13 [ag p.c] h = some (.d (i64 n'),h):=by
 obtain ⟨k,hk⟩:=bin_quo64 (n:=p.ns.size)
 obtain ⟨n',J',q1⟩:=L87_3 (E:=E) hp p.rules.l.length 0 (IntKind.wrap .i64 (1 + k)) [] (by omega)
 refine ⟨n',fun h=>?_⟩
 rw [Sm_v t87 v87]
 simp at q1
 simp [Bd_mk,q87,hk]
 rw [Cd_keep]
 simp [q1]
theorem L31_0 (c:Cfg) (hc:c.ok):∀ (m i:Nat) (n:Int),i + m = c.pods.l.length →
 ∃ n',Cd E TT valT (.loop [1,3,4] q31_b0) [(1,.ptr 0 0),(3,.d (i64 n)),(4,.d (i64 i))] ⟨[.cells (c.c.map .d)],0⟩ = some (.exit 0,[(1,.ptr 0 0),(3,.d (i64 n'))],⟨[.cells (c.c.map .d)],0⟩):=by
 have hlt:=hc.1.lt
 intro m
 have key:=Cd_round (E:=E) (T:=TT) (val:=valT) [1,3,4] q31_b0
 generalize Cd E TT valT (.loop [1,3,4] q31_b0) = W at key ⊢
 induction m with
 | zero =>
  intro i n hi
  refine ⟨n,?_⟩
  rw [key]
  simp [q31_b0,show ¬ ((i:Int) < c.pods.l.length) from by omega]
 | succ m ih =>
  intro i n hi
  have h1:i < c.pods.l.length:=by omega
  have hx:=fun h=>idxv_sl (z:=7) h (List.getElem?_eq_getElem h1) (cells:=Pod.c) rfl
  have hw:=int_next h1 hlt
  by_cases hn:n <= 2000
  · generalize c.pods.l[i] = x at *
    obtain ⟨k,hk⟩:=bin_quo64 (n:=IntKind.wrap .i64 ((x.ns.size:Int) + (x.sa.size:Int)))
    rw [key]
    simp [q31_b0,hx,hk,hw,hn,show ((i:Int) < c.pods.l.length) from by omega]
    rw [show ((i:Int) + 1) = ((i + 1:Nat):Int) from by omega]
    exact ih (i + 1) _ (by omega)
  · refine ⟨n,?_⟩
    rw [key]
    simp [q31_b0,hn,show ((i:Int) < c.pods.l.length) from by omega]
theorem L31_1 (c:Cfg) (hc:c.ok):∀ (m i:Nat) (n:Int),i + m = c.services.l.length →
 ∃ n',Cd E TT valT (.loop [1,3,5] q31_b1) [(1,.ptr 0 0),(3,.d (i64 n)),(5,.d (i64 i))] ⟨[.cells (c.c.map .d)],0⟩ = some (.exit 2,[(1,.ptr 0 0),(3,.d (i64 n'))],⟨[.cells (c.c.map .d)],0⟩):=by
 have hlt:=hc.2.1.lt
 intro m
 have key:=Cd_round (E:=E) (T:=TT) (val:=valT) [1,3,5] q31_b1
 generalize Cd E TT valT (.loop [1,3,5] q31_b1) = W at key ⊢
 induction m with
 | zero =>
  intro i n hi
  refine ⟨n,?_⟩
  rw [key]
  simp [q31_b1,show ¬ ((i:Int) < c.services.l.length) from by omega]
 | succ m ih =>
  intro i n hi
  have h1:i < c.services.l.length:=by omega
  have hx:=fun h=>idxv_sl (z:=5) h (List.getElem?_eq_getElem h1) (cells:=Svc.c) rfl
  have hw:=int_next h1 hlt
  by_cases hn:n <= 2000
  · generalize c.services.l[i] = x at *
    obtain ⟨k,hk⟩:=bin_quo64 (n:=x.ns.size)
    rw [key]
    simp [q31_b1,hx,hk,hw,hn,show ((i:Int) < c.services.l.length) from by omega]
    rw [show ((i:Int) + 1) = ((i + 1:Nat):Int) from by omega]
    exact ih (i + 1) _ (by omega)
  · refine ⟨n,?_⟩
    rw [key]
    simp [q31_b1,hn,show ((i:Int) < c.services.l.length) from by omega]
theorem L31_2 (c:Cfg) (hc:c.ok):∀ (m i:Nat) (n:Int),i + m = c.policies.l.length →
 ∃ n',Cd E TT valT (.loop [1,3,6] q31_b2) [(1,.ptr 0 0),(3,.d (i64 n)),(6,.d (i64 i))] ⟨[.cells (c.c.map .d)],0⟩ = some (.exit 4,[(3,.d (i64 n'))],⟨[.cells (c.c.map .d)],0⟩):=by
 have hlt:=hc.2.2.2.1.lt
 intro m
 have key:=Cd_round (E:=E) (T:=TT) (val:=valT) [1,3,6] q31_b2
 generalize Cd E TT valT (.loop [1,3,6] q31_b2) = W at key ⊢
 induction m with
 | zero =>
  intro i n hi
  refine ⟨n,?_⟩
  rw [key]
  simp [q31_b2,show ¬ ((i:Int) < c.policies.l.length) from by omega]
 | succ m ih =>
  intro i n hi
  have h1:i < c.policies.l.length:=by omega
  have hx:=fun h=>idxv_sl (z:=5) h (List.getElem?_eq_getElem h1) (cells:=Pol.c) rfl
  have hw:=int_next h1 hlt
  have hfx:=hc.2.2.2.2 _ (List.getElem_mem h1)
  by_cases hn:n <= 2000
  · generalize c.policies.l[i] = x at *
    obtain ⟨k,hk⟩:=S87 (E:=E) x hfx
    rw [key]
    simp [q31_b2,hx,hk,hw,hn,show ((i:Int) < c.policies.l.length) from by omega]
    rw [show ((i:Int) + 1) = ((i + 1:Nat):Int) from by omega]
    exact ih (i + 1) _ (by omega)
  · refine ⟨n,?_⟩
    rw [key]
    simp [q31_b2,hn,show ((i:Int) < c.policies.l.length) from by omega]
theorem S31 (c:Cfg) (hc:c.ok):∃ b:Bool,∀ h,Sm E TT valT 5 [c.v] h = some (bl b,h):=by
 obtain ⟨n1,q1⟩:=L31_0 (E:=E) c hc c.pods.l.length 0 (IntKind.wrap .i64 (IntKind.wrap .i64 ((c.pods.l.length:Int) + (c.services.l.length:Int)) + (c.bound.l.length:Int))) (by omega)
 obtain ⟨n2,q2⟩:=L31_1 (E:=E) c hc c.services.l.length 0 n1 (by omega)
 obtain ⟨n3,q3⟩:=L31_2 (E:=E) c hc c.policies.l.length 0 n2 (by omega)
 refine ⟨decide (2000 < n3),fun h=>?_⟩
 rw [Sm_v t31 v31]
 simp at q1 q2 q3
 simp [Bd_mk,q31]
 rw [Cd_keep]
 simp [q1]
 rw [Cd_keep]
 simp [q2]
 rw [Cd_keep]
 simp [q3]
end Go.Proofs.YtegfnefobbgkjaaGreat
