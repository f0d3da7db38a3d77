/- view.Encode. -/
import Derived.Test.YtjkfknafpgfchaaGreatR58
import Derived.Test.YtjkfknafpgfchaaGreatVp
import Derived.Test.YtjkfknafpgfchaaGreatRa
import Derived.Test.YtjkfknafpgfchaaGreatVq
import Derived.Test.YtjkfknafpgfchaaGreatYd
set_option maxRecDepth 100000
set_option linter.unusedVariables false
set_option linter.unusedSimpArgs false
namespace Go.Proofs.YtjkfknafpgfchaaGreat
section
def TE:FuncId -> Option QF:=jk [(8,M9)]
def bK (f:FuncId):Bool:=[8].any fun n=>Nat.beq n f
theorem XQ:TE 8 = some M9:=by kernel_rfl
theorem XV:bK 8 = true:=by kernel_rfl
theorem XR:TE 32 = none:=by kernel_rfl
theorem xc:TE 33 = none:=by kernel_rfl
theorem xe:TE 34 = none:=by kernel_rfl
theorem BN:TE 35 = none:=by kernel_rfl
theorem XT:TE 36 = none:=by kernel_rfl
theorem XU:TE 37 = none:=by kernel_rfl
theorem cf8:TE 31 = none:=by kernel_rfl
structure EncH (E E0:Calls'):Prop where
 h246:∀ args h,E 32 args h = Sm E0 TT ak 32 args h
 h247:∀ args h,E 33 args h = Sm E0 TT ak 33 args h
 h248:∀ args h,E 34 args h = Sm E0 TT ak 34 args h
 h249:∀ args h,E 35 args h = Sm E0 TT ak 35 args h
 h251:∀ args h,E 37 args h = Sm E0 TT ak 37 args h
 h250:∀ p:Pol,p.wf big -> aS p = true -> ∀ h,E 36 [ag p.c] h = some (.tup [.d (bytesD (gI p)),.d (i64 0)],h)
 h64:∀ d:Dlt,d.ok -> (∀ p ∈ d.policies.l,p.wf big) -> ∀ h,E 31 [d.v] h = some (bl (bR d),h)
variable {E E0:Calls'}
theorem D8 {p:Nat} {xs:List Int} {nl:Bool} (hxn:xs.length < 2 ^ 62):∀ (m i:Nat) (bs:List Blk) (lo:Nat) (l:List Int),i + m = xs.length -> Wr bs p l -> l.length + ((xs.drop i).flatMap aM).length <= big →
 ∃ bs' lo',Cd E0 TT ak (.loop [0,6,7,8] fU) [(0,.ptr p 0),(6,.d (Sl.d aY ⟨nl,xs⟩)),(7,.d (i64 xs.length)),(8,.d (i64 i))] ⟨bs,lo⟩ = some (.exit 0,[],⟨bs',lo'⟩) ∧
  (lo' = lo /\ xs.drop i = [] /\ bs' = bs \/ lo' <= p) /\ Wr bs' p (l ++ (xs.drop i).flatMap aM) /\ Fx p bs bs':=by
 intro m;have key:=ax (E:=E0) (T:=TT) (val:=ak) [0,6,7,8] fU;generalize Cd E0 TT ak (.loop [0,6,7,8] fU) = W at key ⊢
 induction m with
 | zero =>
  intro i bs lo l hi hW hl;have h0:xs.drop i = []:=List.drop_eq_nil_of_le (by omega);refine ⟨bs,lo,?_,.inl ⟨rfl,h0,rfl⟩,by simpa [h0] using hW,Fx.refl _ _⟩;rw [key];simp [fU,show ¬ ((i:Int) < xs.length) from by omega]
 | succ m ih =>
  intro i bs lo l hi hW hl;have hlt:i < xs.length:=by omega
  have hx:=fun h=>bi (z:=1) (s:=(⟨nl,xs⟩:Sl Int)) h (List.getElem?_eq_getElem hlt) (cells:=aY) rfl;have hd:xs.drop i = xs[i] :: xs.drop (i + 1):=List.drop_eq_getElem_cons hlt;rw [hd] at hl ⊢;simp only [List.flatMap_cons,List.length_append] at hl;generalize xs[i] = x at *;obtain ⟨b1,l1,a1,a2,a3,a4⟩:=mM (E:=E0) hW x (by omega) lo;obtain ⟨bs',lo',q1,q2,q3,q4⟩:=ih (i + 1) b1 l1 (l ++ aM x) (by omega) a3 (by rw [List.length_append]; omega);have hw:=aK hlt hxn;refine ⟨bs',lo',?_,.inr ?_,by simpa using q3,a4.trans q4⟩
  · rw [key];simp [fU,hx,aY,a1,hw,hlt,show ((i:Int) < xs.length) from by omega];simpa using q1
  · rcases q2 with ⟨rfl,_⟩ | q2
    · exact a2
    · exact q2
theorem Xr {p:Nat} {bs:List Blk} {l:List Int} (h:Wr bs p l) {xs:List Int} {nl:Bool} (hn:xs.length < 2 ^ 62) (hl:l.length + (xs.flatMap aM).length <= big) (lo:Nat):∃ bs' lo',Sm E0 TT ak 33 [.ptr p 0,.d (Sl.d aY ⟨nl,xs⟩)] ⟨bs,lo⟩ = some (.tup [],⟨bs',lo'⟩) /\ (lo <= p -> lo' <= p) /\ Wr bs' p (l ++ xs.flatMap aM) /\ Fx p bs bs':=by
 obtain ⟨bs',lo',k1,k2,k3,k4⟩:=D8 (E0:=E0) (nl:=nl) hn xs.length 0 bs bs.length l (by omega) h (by simpa using hl);have hlenv:∀ h,qL false (.d (Sl.d aY ⟨nl,xs⟩)) h = some (.d (i64 xs.length),h):=fun h=>by simp [Sl.d]
 generalize hS:Sl.d aY ⟨nl,xs⟩ = S at *;simp at k1;rcases k2 with ⟨rfl,hx,rfl⟩ | k2
 · refine ⟨bs',lo,?_,id,by simpa using k3,k4⟩;rw [aB t213 VZ];simp [af,Ae,hlenv];rw [aH];simp [k1,V.under,V.under.go,bE]
 · refine ⟨bs',min lo lo',?_,fun _=>by omega,by simpa using k3,k4⟩;rw [aB t213 VZ];simp [af,Ae,hlenv];rw [aH];simp [k1];exact dE k2 h.len
section
variable (H:EncH E E0)
include H
theorem FJ (c:Dlt) (hs:c.covers.l.length < 2 ^ 62) (hcv:∀ n ∈ c.covers.l,0 <= n /\ n <= 4294967295) {p:Nat}:∀ (m i:Nat) (bs:List Blk) (lo:Nat) (l:List Int),i + m = c.covers.l.length -> Wr bs p l -> l.length + ((c.covers.l.drop i).flatMap aM).length <= big →
 ∃ bs' lo',Cd E TE bK (.loop [1,4,33,34,35] mf) [(1,.ptr 0 0),(4,.ptr p 0),(33,.d (c.covers.d di)),(34,.d (i64 c.covers.l.length)),(35,.d (i64 i))] ⟨bs,lo⟩ = some (.exit 0,[(1,.ptr 0 0),(4,.ptr p 0)],⟨bs',lo'⟩) ∧
  (lo <= p -> lo' <= p) /\ Wr bs' p (l ++ (c.covers.l.drop i).flatMap aM) /\ Fx p bs bs':=by
 intro m;have w248:∀ args h,Sm E TE bK 34 args h = Sm E0 TT ak 34 args h:=fun args h=>(aJ xe).trans (H.h248 args h);have key:=ax (E:=E) (T:=TE) (val:=bK) [1,4,33,34,35] mf;generalize Cd E TE bK (.loop [1,4,33,34,35] mf) = W at key ⊢
 induction m with
 | zero =>
  intro i bs lo l hi hW hl;have h0:c.covers.l.drop i = []:=List.drop_eq_nil_of_le (by omega);refine ⟨bs,lo,?_,id,by simpa [h0] using hW,Fx.refl _ _⟩;rw [key];simp [mf,show ¬ ((i:Int) < c.covers.l.length) from by omega]
 | succ m ih =>
  intro i bs lo l hi hW hl;have hlt:i < c.covers.l.length:=by omega
  have hx:=fun h=>bi (z:=1) h (List.getElem?_eq_getElem hlt) (cells:=di) rfl;rw [List.drop_eq_getElem_cons hlt] at hl ⊢;rw [cK] at hl;generalize hce:c.covers.l[i] = e at *;have hwr:IntKind.wrap .u64 e = e:=by rw [wrap_u64]; have:=hcv e (hce ▸ List.getElem_mem hlt); omega
  obtain ⟨b1,l1,a1,a2,a3,a4⟩:=mM (E:=E0) hW e (by omega) lo;obtain ⟨bs',lo',q1,q2,q3,q4⟩:=ih (i + 1) b1 l1 (l ++ aM e) (by omega) a3 (by rw [List.length_append]; omega);have hw:=aK hlt hs;refine ⟨bs',lo',?_,fun _=>q2 a2,by simpa using q3,a4.trans q4⟩;rw [key];simp [mf,hx,di,hwr,w248,a1,hw,show ((i:Int) < c.covers.l.length) from by omega];simpa using q1
theorem Bi (c:Dlt) (hs:c.pods.l.length < 2 ^ 62) {p:Nat}:∀ (m i:Nat) (bs:List Blk) (lo:Nat) (l:List Int),i + m = c.pods.l.length -> Wr bs p l -> l.length + ((c.pods.l.drop i).flatMap nA).length <= big →
 ∃ bs' lo',Cd E TE bK (.loop [1,4,51,52,53] mg) [(1,.ptr 0 0),(4,.ptr p 0),(51,.d (c.pods.d Pod.c)),(52,.d (i64 c.pods.l.length)),(53,.d (i64 i))] ⟨bs,lo⟩ = some (.exit 2,[(1,.ptr 0 0),(4,.ptr p 0)],⟨bs',lo'⟩) ∧
  (lo <= p -> lo' <= p) /\ Wr bs' p (l ++ (c.pods.l.drop i).flatMap nA) /\ Fx p bs bs':=by
 intro m;have w247:∀ args h,Sm E TE bK 33 args h = Sm E0 TT ak 33 args h:=fun args h=>(aJ xc).trans (H.h247 args h);have w248:∀ args h,Sm E TE bK 34 args h = Sm E0 TT ak 34 args h:=fun args h=>(aJ xe).trans (H.h248 args h);have w249:∀ args h,Sm E TE bK 35 args h = Sm E0 TT ak 35 args h:=fun args h=>(aJ BN).trans (H.h249 args h);have key:=ax (E:=E) (T:=TE) (val:=bK) [1,4,51,52,53] mg;generalize Cd E TE bK (.loop [1,4,51,52,53] mg) = W at key ⊢
 induction m with
 | zero =>
  intro i bs lo l hi hW hl;have h0:c.pods.l.drop i = []:=List.drop_eq_nil_of_le (by omega);refine ⟨bs,lo,?_,id,by simpa [h0] using hW,Fx.refl _ _⟩;rw [key];simp [mg,show ¬ ((i:Int) < c.pods.l.length) from by omega]
 | succ m ih =>
  intro i bs lo l hi hW hl;have hlt:i < c.pods.l.length:=by omega
  have hx:=fun h=>bi (z:=7) h (List.getElem?_eq_getElem hlt) (cells:=Pod.c) rfl;rw [List.drop_eq_getElem_cons hlt] at hl ⊢;rw [cK] at hl;generalize c.pods.l[i] = e at *;have hl2:(nA e).length = ((aM e.uid)).length + ((eP e.ns).length + ((eP e.sa).length + ([IntKind.wrap .u64 e.host,IntKind.wrap .u64 e.addr,IntKind.wrap .u64 e.port,e.service].flatMap aM).length)):=by simp only [nA,List.length_append,List.flatMap_cons,List.flatMap_nil,List.length_nil,Nat.add_zero]
  obtain ⟨b1,l1,a1,a2,a3,a4⟩:=mM (E:=E0) (hW.lay [.cells (e.c.map .d)]) e.uid (by omega) (min lo bs.length);obtain ⟨f1,f2,f3⟩:=a4.new hW;obtain ⟨b2,l2,c1,c2,c3,c4⟩:=zf (E:=E0) a3 e.ns (by simp only [List.length_append]; omega) l1;obtain ⟨g1,g2⟩:=c4.2 _ _ f1 f2 f3;obtain ⟨b3,l3,d1,d2,d3,d4⟩:=zf (E:=E0) c3 e.sa (by simp only [List.length_append]; omega) l2;obtain ⟨k1,k2⟩:=d4.2 _ _ f1 g2 g1;have u2:=d3.fresh [.cells [.d (u64 (IntKind.wrap .u64 e.host)),.d (u64 (IntKind.wrap .u64 e.addr)),.d (u64 (IntKind.wrap .u64 e.port)),.d (u64 e.service)]];obtain ⟨b4,l4,e1,e2,e3,e4⟩:=EW (E:=E0) (d3.lay [.cells [.d (u64 (IntKind.wrap .u64 e.host)),.d (u64 (IntKind.wrap .u64 e.addr)),.d (u64 (IntKind.wrap .u64 e.port)),.d (u64 e.service)]]) (xs:=[IntKind.wrap .u64 e.host,IntKind.wrap .u64 e.addr,IntKind.wrap .u64 e.port,e.service]) (by simp) (by simp) (q:=b3.length) u2.1 (cap:=some 4) u2.2 (by simp) (by simp only [List.length_append]; omega) l3;have e3':Wr b4 p (l ++ nA e):=by simpa only [nA,List.append_assoc,List.flatMap_cons,List.flatMap_nil,List.append_nil] using e3
  obtain ⟨bs',lo',q1,q2,q3,q4⟩:=ih (i + 1) b4 l4 (l ++ nA e) (by omega) e3' (by rw [List.length_append]; omega);have hw:=aK hlt hs;refine ⟨bs',lo',?_,fun _=>q2 e2,by simpa using q3,(((((Fx.lay hW.len _).trans a4).trans c4).trans d4).trans ((Fx.lay d3.len _).trans e4)).trans q4⟩;simp at a1 c1 d1 e1;rw [key];simp [mg,hx,aA,w247,w248,w249,a1,f3,c1,g1,d1,k1,e1,hw,show ((i:Int) < c.pods.l.length) from by omega];simpa using q1
theorem Bn (c:Dlt) (hs:c.services.l.length < 2 ^ 62) {p:Nat}:∀ (m i:Nat) (bs:List Blk) (lo:Nat) (l:List Int),i + m = c.services.l.length -> Wr bs p l -> l.length + ((c.services.l.drop i).flatMap nM).length <= big →
 ∃ bs' lo',Cd E TE bK (.loop [1,4,93,94,95] mh) [(1,.ptr 0 0),(4,.ptr p 0),(93,.d (c.services.d Svc.c)),(94,.d (i64 c.services.l.length)),(95,.d (i64 i))] ⟨bs,lo⟩ = some (.exit 4,[(1,.ptr 0 0),(4,.ptr p 0)],⟨bs',lo'⟩) ∧
  (lo <= p -> lo' <= p) /\ Wr bs' p (l ++ (c.services.l.drop i).flatMap nM) /\ Fx p bs bs':=by
 intro m;have w247:∀ args h,Sm E TE bK 33 args h = Sm E0 TT ak 33 args h:=fun args h=>(aJ xc).trans (H.h247 args h);have w248:∀ args h,Sm E TE bK 34 args h = Sm E0 TT ak 34 args h:=fun args h=>(aJ xe).trans (H.h248 args h);have w249:∀ args h,Sm E TE bK 35 args h = Sm E0 TT ak 35 args h:=fun args h=>(aJ BN).trans (H.h249 args h);have key:=ax (E:=E) (T:=TE) (val:=bK) [1,4,93,94,95] mh;generalize Cd E TE bK (.loop [1,4,93,94,95] mh) = W at key ⊢
 induction m with
 | zero =>
  intro i bs lo l hi hW hl;have h0:c.services.l.drop i = []:=List.drop_eq_nil_of_le (by omega);refine ⟨bs,lo,?_,id,by simpa [h0] using hW,Fx.refl _ _⟩;rw [key];simp [mh,show ¬ ((i:Int) < c.services.l.length) from by omega]
 | succ m ih =>
  intro i bs lo l hi hW hl;have hlt:i < c.services.l.length:=by omega
  have hx:=fun h=>bi (z:=5) h (List.getElem?_eq_getElem hlt) (cells:=Svc.c) rfl;rw [List.drop_eq_getElem_cons hlt] at hl ⊢;rw [cK] at hl;generalize c.services.l[i] = e at *;have hl2:(nM e).length = ((aM e.id)).length + ((eP e.ns).length + ([IntKind.wrap .u64 e.addr,IntKind.wrap .u64 e.port,e.way].flatMap aM).length):=by simp only [nM,List.length_append,List.flatMap_cons,List.flatMap_nil,List.length_nil,Nat.add_zero]
  obtain ⟨b1,l1,a1,a2,a3,a4⟩:=mM (E:=E0) (hW.lay [.cells (e.c.map .d)]) e.id (by omega) (min lo bs.length);obtain ⟨f1,f2,f3⟩:=a4.new hW;obtain ⟨b2,l2,c1,c2,c3,c4⟩:=zf (E:=E0) a3 e.ns (by simp only [List.length_append]; omega) l1;obtain ⟨g1,g2⟩:=c4.2 _ _ f1 f2 f3;have u2:=c3.fresh [.cells [.d (u64 (IntKind.wrap .u64 e.addr)),.d (u64 (IntKind.wrap .u64 e.port)),.d (u64 e.way)]];obtain ⟨b4,l4,e1,e2,e3,e4⟩:=EW (E:=E0) (c3.lay [.cells [.d (u64 (IntKind.wrap .u64 e.addr)),.d (u64 (IntKind.wrap .u64 e.port)),.d (u64 e.way)]]) (xs:=[IntKind.wrap .u64 e.addr,IntKind.wrap .u64 e.port,e.way]) (by simp) (by simp) (q:=b2.length) u2.1 (cap:=some 3) u2.2 (by simp) (by simp only [List.length_append]; omega) l2;have e3':Wr b4 p (l ++ nM e):=by simpa only [nM,List.append_assoc,List.flatMap_cons,List.flatMap_nil,List.append_nil] using e3
  obtain ⟨bs',lo',q1,q2,q3,q4⟩:=ih (i + 1) b4 l4 (l ++ nM e) (by omega) e3' (by rw [List.length_append]; omega);have hw:=aK hlt hs;refine ⟨bs',lo',?_,fun _=>q2 e2,by simpa using q3,((((Fx.lay hW.len _).trans a4).trans c4).trans ((Fx.lay c3.len _).trans e4)).trans q4⟩;simp at a1 c1 e1;rw [key];simp [mh,hx,aA,w247,w248,w249,a1,f3,c1,g1,e1,hw,show ((i:Int) < c.services.l.length) from by omega];simpa using q1
theorem Bp (c:Dlt) (hs:c.bound.l.length < 2 ^ 62) {p:Nat}:∀ (m i:Nat) (bs:List Blk) (lo:Nat) (l:List Int),i + m = c.bound.l.length -> Wr bs p l -> l.length + ((c.bound.l.drop i).flatMap qN).length <= big →
 ∃ bs' lo',Cd E TE bK (.loop [1,4,126,127,128] mi) [(1,.ptr 0 0),(4,.ptr p 0),(126,.d (c.bound.d Way.c)),(127,.d (i64 c.bound.l.length)),(128,.d (i64 i))] ⟨bs,lo⟩ = some (.exit 6,[(1,.ptr 0 0),(4,.ptr p 0)],⟨bs',lo'⟩) ∧
  (lo <= p -> lo' <= p) /\ Wr bs' p (l ++ (c.bound.l.drop i).flatMap qN) /\ Fx p bs bs':=by
 intro m;have w247:∀ args h,Sm E TE bK 33 args h = Sm E0 TT ak 33 args h:=fun args h=>(aJ xc).trans (H.h247 args h);have key:=ax (E:=E) (T:=TE) (val:=bK) [1,4,126,127,128] mi;generalize Cd E TE bK (.loop [1,4,126,127,128] mi) = W at key ⊢
 induction m with
 | zero =>
  intro i bs lo l hi hW hl;have h0:c.bound.l.drop i = []:=List.drop_eq_nil_of_le (by omega);refine ⟨bs,lo,?_,id,by simpa [h0] using hW,Fx.refl _ _⟩;rw [key];simp [mi,show ¬ ((i:Int) < c.bound.l.length) from by omega]
 | succ m ih =>
  intro i bs lo l hi hW hl;have hlt:i < c.bound.l.length:=by omega
  have hx:=fun h=>bi (z:=2) h (List.getElem?_eq_getElem hlt) (cells:=Way.c) rfl;rw [List.drop_eq_getElem_cons hlt] at hl ⊢;rw [cK] at hl;generalize c.bound.l[i] = e at *;have u1:=hW.fresh1 (.cells (e.c.map .d)) [.cells [.d (u64 e.id),.d (u64 (IntKind.wrap .u64 e.node))]];obtain ⟨b1,l1,a1,a2,a3,a4⟩:=EW (E:=E0) (hW.lay (.cells (e.c.map .d) :: [.cells [.d (u64 e.id),.d (u64 (IntKind.wrap .u64 e.node))]])) (xs:=[e.id,IntKind.wrap .u64 e.node]) (by simp) (by simp) (q:=bs.length + 1) u1.1 (cap:=some 2) u1.2 (by simp) (by have:(qN e).length = ([e.id,IntKind.wrap .u64 e.node].flatMap aM).length:=rfl; omega) (min lo bs.length);obtain ⟨bs',lo',q1,q2,q3,q4⟩:=ih (i + 1) b1 l1 (l ++ qN e) (by omega) a3 (by rw [List.length_append]; omega);have hw:=aK hlt hs;refine ⟨bs',lo',?_,fun _=>q2 a2,by simpa using q3,((Fx.lay hW.len _).trans a4).trans q4⟩;simp at a1;rw [key];simp [mi,hx,aA,w247,a1,hw,show ((i:Int) < c.bound.l.length) from by omega];simpa using q1
theorem Bj (c:Dlt) (hs:c.policies.l.length < 2 ^ 62) (hwf:∀ p ∈ c.policies.l,p.wf big /\ aS p = true) {p:Nat}:∀ (m i:Nat) (bs:List Blk) (lo:Nat) (l:List Int),i + m = c.policies.l.length -> Wr bs p l -> l.length + ((c.policies.l.drop i).flatMap fH).length <= big →
 ∃ bs' lo',Cd E TE bK (.loop [1,4,148,149,150] mo) [(1,.ptr 0 0),(4,.ptr p 0),(148,.d (c.policies.d Pol.c)),(149,.d (i64 c.policies.l.length)),(150,.d (i64 i))] ⟨bs,lo⟩ = some (.exit 8,[(1,.ptr 0 0),(4,.ptr p 0)],⟨bs',lo'⟩) ∧
  (lo <= p -> lo' <= p) /\ Wr bs' p (l ++ (c.policies.l.drop i).flatMap fH) /\ Fx p bs bs':=by
 intro m;have w249:∀ args h,Sm E TE bK 35 args h = Sm E0 TT ak 35 args h:=fun args h=>(aJ BN).trans (H.h249 args h);have key:=ax (E:=E) (T:=TE) (val:=bK) [1,4,148,149,150] mo;generalize Cd E TE bK (.loop [1,4,148,149,150] mo) = W at key ⊢
 induction m with
 | zero =>
  intro i bs lo l hi hW hl;have h0:c.policies.l.drop i = []:=List.drop_eq_nil_of_le (by omega);refine ⟨bs,lo,?_,id,by simpa [h0] using hW,Fx.refl _ _⟩;rw [key];simp [mo,show ¬ ((i:Int) < c.policies.l.length) from by omega]
 | succ m ih =>
  intro i bs lo l hi hW hl;have hlt:i < c.policies.l.length:=by omega
  have hx:=fun h=>bi (z:=5) h (List.getElem?_eq_getElem hlt) (cells:=Pol.c) rfl;obtain ⟨hw1,hw2⟩:=hwf _ (List.getElem_mem hlt);rw [List.drop_eq_getElem_cons hlt] at hl ⊢;rw [cK] at hl;generalize c.policies.l[i] = e at *;have n1:∀ h,Sm E TE bK 36 [ag e.c] h = some (.tup [.d (bytesD (gI e)),.d (i64 0)],h):=fun h=>(aJ XT).trans (H.h250 e hw1 hw2 h);obtain ⟨b1,l1,a1,a2,a3,a4⟩:=zf (E:=E0) (hW.lay [.cells (e.c.map .d)]) (strOf (gI e)) (by have:(fH e).length = (eP (strOf (gI e))).length:=rfl; omega) (min lo bs.length);obtain ⟨bs',lo',q1,q2,q3,q4⟩:=ih (i + 1) b1 l1 (l ++ fH e) (by omega) a3 (by rw [List.length_append]; omega);have hw:=aK hlt hs;refine ⟨bs',lo',?_,fun _=>q2 a2,by simpa using q3,((Fx.lay hW.len _).trans a4).trans q4⟩;rw [key];simp [mo,hx,w249,n1,wU,a1,hw,show ((i:Int) < c.policies.l.length) from by omega];simpa using q1
theorem Dn (rows:List (Sl Int)) (hrs:rows.length < 2 ^ 62) (hs:∀ r ∈ rows,r.l.length <= big) {p q:Nat} (hq:q ≠ p) {cap:Option Nat}:∀ (m i:Nat) (bs:List Blk) (lo:Nat) (l:List Int),i + m = rows.length -> Wr bs p l -> gz bs p ≠ some q -> ah bs q = some (rows.map fun r=>V.d (r.d aY)) -> l.length + ((rows.drop i).flatMap fun r=>seqB aM r.l).length <= big →
 ∃ bs' lo',Cd E TE bK (.loop [4,172,173,174] mq) [(4,.ptr p 0),(172,.row q 0 rows.length cap 1),(173,.d (i64 rows.length)),(174,.d (i64 i))] ⟨bs,lo⟩ = some (.exit 10,[(4,.ptr p 0)],⟨bs',lo'⟩) ∧
  (lo <= p -> lo' <= p) /\ Wr bs' p (l ++ (rows.drop i).flatMap fun r=>seqB aM r.l) /\ Fx p bs bs':=by
 intro m;have w247:∀ args h,Sm E TE bK 33 args h = Sm E0 TT ak 33 args h:=fun args h=>(aJ xc).trans (H.h247 args h);have w248:∀ args h,Sm E TE bK 34 args h = Sm E0 TT ak 34 args h:=fun args h=>(aJ xe).trans (H.h248 args h);have key:=ax (E:=E) (T:=TE) (val:=bK) [4,172,173,174] mq;generalize Cd E TE bK (.loop [4,172,173,174] mq) = W at key ⊢
 induction m with
 | zero =>
  intro i bs lo l hi hW h1 h2 hl;have h0:rows.drop i = []:=List.drop_eq_nil_of_le (by omega);refine ⟨bs,lo,?_,id,by simpa [h0] using hW,Fx.refl _ _⟩;rw [key];simp [mq,show ¬ ((i:Int) < rows.length) from by omega]
 | succ m ih =>
  intro i bs lo l hi hW h1 h2 hl;have hlt:i < rows.length:=by omega
  have hd:rows.drop i = rows[i] :: rows.drop (i + 1):=List.drop_eq_getElem_cons hlt;have hix:=fun h=>kZ (b:=q) (o:=0) (z:=1) (cap:=cap) (kd:=.i64) (h:=h) hlt;simp only [Nat.mul_one,Nat.zero_add] at hix;have hsb:sub (rows.map fun r=>V.d (r.d aY)) i 1 = some [.d (rows[i].d aY)]:=by
   rw [gP,if_pos (by simp; omega),List.drop_eq_getElem_cons (by simpa using hlt)]; simp
  have hrl:=hs _ (List.getElem_mem hlt);rw [hd] at hl ⊢;simp only [List.flatMap_cons,List.length_append,seqB] at hl;generalize rows[i] = x at *;obtain ⟨nl,xs⟩:=x;simp only at hrl hl;have hbig:big < 2 ^ 62:=by decide
  obtain ⟨b1,l1,a1,a2,a3,a4⟩:=mM (E:=E0) hW (xs.length:Int) (by omega) lo;obtain ⟨f1,f2⟩:=a4.2 q _ hq h1 h2;obtain ⟨b2,l2,c1,c2,c3,c4⟩:=Xr (E0:=E0) (nl:=nl) a3 (xs:=xs) (by omega) (by rw [List.length_append]; omega) l1;obtain ⟨g1,g2⟩:=c4.2 q _ hq f2 f1;obtain ⟨bs',lo',q1,q2,q3,q4⟩:=ih (i + 1) b2 l2 (l ++ seqB aM xs) (by omega) (by simpa only [seqB,List.append_assoc] using c3) g2 g1 (by simp only [List.length_append,seqB]; omega);have hw:=aK hlt hrs;have hwx:IntKind.wrap .u64 (xs.length:Int) = xs.length:=wrapN hrl;refine ⟨bs',lo',?_,fun _=>q2 (c2 a2),by simpa using q3,(a4.trans c4).trans q4⟩;have hld:ldv ⟨bs,lo⟩ (.ptr q i) 1 true = some (.d (Sl.d aY ⟨nl,xs⟩),⟨bs,lo⟩):=by
   rw [fT,get_eq];show (match (match ah bs q with | some cs=>sub cs i 1 | none=>none) with | some cs=>_ | none=>none) = _;rw [h2]; simp only [hsb]; rfl
  have hlenv:∀ h,qL false (.d (Sl.d aY ⟨nl,xs⟩)) h = some (.d (i64 xs.length),h):=fun h=>by simp [Sl.d]
  generalize hS:Sl.d aY ⟨nl,xs⟩ = S at *;rw [key];simp [mq,hix,hld,hlenv,hwx,w247,w248,a1,c1,hw,hlt,show ((i:Int) < rows.length) from by omega,-fT];simpa using q1
theorem bu8 (d:Dlt) (hd:d.ok) (hwp:∀ p ∈ d.policies.l,p.wf big) (hm:bR d = true) (hcv:∀ n ∈ d.covers.l,0 <= n /\ n <= 4294967295) (hlen:(iw d).length <= big) (h:Hp):Sm E TE bK 8 [d.v] h = some (.tup [.d (bytesD (iw d)),.d (i64 0)],h):=by
 have hpm:∀ p ∈ d.policies.l,aS p = true:=by
  simp only [bR,Bool.and_eq_true] at hm;have hv:=hm.2;simp only [aW,Bool.and_eq_true,Bool.not_eq_true',List.any_eq_false] at hv;intro p hp;have:=hv.2.2.2 p hp;simpa using this
 obtain ⟨⟨v1,v2,v3,v4,v5,v6⟩,u1',u2',u3',u4'⟩:=id hd;have hbig:big < 2 ^ 62:=by decide
 have v1':d.covers.l.length <= big:=v1.1;have v2':d.pods.l.length <= big:=v2.1;have v3':d.services.l.length <= big:=v3.1;have v4':d.bound.l.length <= big:=v4.1;have v5':d.policies.l.length <= big:=v5.1;have w0:=wrapN (n:=d.covers.l.length) v1.1;have w1:=wrapN (n:=d.pods.l.length) v2.1;have w2:=wrapN (n:=d.services.l.length) v3.1;have w3:=wrapN (n:=d.bound.l.length) v4.1;have w4:=wrapN (n:=d.policies.l.length) v5.1;have w246:∀ args h,Sm E TE bK 32 args h = Sm E0 TT ak 32 args h:=fun args h=>(aJ XR).trans (H.h246 args h);have w247:∀ args h,Sm E TE bK 33 args h = Sm E0 TT ak 33 args h:=fun args h=>(aJ xc).trans (H.h247 args h);have w248:∀ args h,Sm E TE bK 34 args h = Sm E0 TT ak 34 args h:=fun args h=>(aJ xe).trans (H.h248 args h);have w249:∀ args h,Sm E TE bK 35 args h = Sm E0 TT ak 35 args h:=fun args h=>(aJ BN).trans (H.h249 args h);have w251:∀ args h,Sm E TE bK 37 args h = Sm E0 TT ak 37 args h:=fun args h=>(aJ XU).trans (H.h251 args h);have n64:∀ h,Sm E TE bK 31 [d.v] h = some (bl true,h):=fun h=>(aJ cf8).trans ((H.h64 d hd hwp h).trans (by rw [hm]));rw [bf XQ XV];have hlen0:=hlen;simp only [iw,seqB,List.length_append] at hlen;obtain ⟨lo0,m1⟩:=Xq (E:=E0) [.cells (d.c.map .d)] 0;have hW:=JF [.cells (d.c.map .d)];have hW0:gz ([.cells (d.c.map .d)] ++ [.cells [.d (.slice true [])]]) 1 ≠ some 0:=by simp [gz]
 have u1:=hW.fresh [.cells [.d (u64 d.epoch),.d (u64 d.covers.l.length)]];obtain ⟨b1,l1,a1,a2,a3,a4⟩:=EW (E:=E0) (hW.lay [.cells [.d (u64 d.epoch),.d (u64 d.covers.l.length)]]) (xs:=[d.epoch,(d.covers.l.length:Int)]) (by simp) (by simp) u1.1 (cap:=some 2) u1.2 (by simp) (by simp only [List.length_nil,List.flatMap_cons,List.flatMap_nil,List.length_append]; omega) lo0;obtain ⟨f1,f2⟩:=((Fx.lay hW.len _).trans a4).2 0 (d.c.map .d) (by simp) hW0 (by simp);have ha:([d.epoch,(d.covers.l.length:Int)].flatMap aM) = aM d.epoch ++ aM (d.covers.l.length:Int):=by simp
 rw [ha] at a3;obtain ⟨b2,l2,c1,c2,c3,c4⟩:=FJ H d (by omega) hcv d.covers.l.length 0 b1 l1 _ (by omega) a3 (by simp only [List.length_append,List.drop_zero,List.length_nil]; omega);obtain ⟨g1,g2⟩:=c4.2 _ _ (by simp) f2 f1;simp only [List.drop_zero] at c3;obtain ⟨b3,l3,i3,j3,y3,z3⟩:=mM (E:=E0) c3 (d.pods.l.length:Int) (by simp only [List.length_append,List.length_nil]; omega) l2;obtain ⟨g3a,g3b⟩:=z3.2 _ _ (by simp) g2 g1;obtain ⟨b4,l4,i4,j4,y4,z4⟩:=Bi H d (by omega) d.pods.l.length 0 b3 l3 _ (by omega) y3 (by simp only [List.length_append,List.drop_zero,List.length_nil]; omega);obtain ⟨g4a,g4b⟩:=z4.2 _ _ (by simp) g3b g3a;simp only [List.drop_zero] at y4;obtain ⟨b5,l5,i5,j5,y5,z5⟩:=mM (E:=E0) y4 (d.services.l.length:Int) (by simp only [List.length_append,List.length_nil]; omega) l4;obtain ⟨g5a,g5b⟩:=z5.2 _ _ (by simp) g4b g4a;obtain ⟨b6,l6,i6,j6,y6,z6⟩:=Bn H d (by omega) d.services.l.length 0 b5 l5 _ (by omega) y5 (by simp only [List.length_append,List.drop_zero,List.length_nil]; omega);obtain ⟨g6a,g6b⟩:=z6.2 _ _ (by simp) g5b g5a;simp only [List.drop_zero] at y6;obtain ⟨b7,l7,i7,j7,y7,z7⟩:=mM (E:=E0) y6 (d.bound.l.length:Int) (by simp only [List.length_append,List.length_nil]; omega) l6;obtain ⟨g7a,g7b⟩:=z7.2 _ _ (by simp) g6b g6a;obtain ⟨b8,l8,i8,j8,y8,z8⟩:=Bp H d (by omega) d.bound.l.length 0 b7 l7 _ (by omega) y7 (by simp only [List.length_append,List.drop_zero,List.length_nil]; omega);obtain ⟨g8a,g8b⟩:=z8.2 _ _ (by simp) g7b g7a
 simp only [List.drop_zero] at y8;obtain ⟨b9,l9,i9,j9,y9,z9⟩:=mM (E:=E0) y8 (d.policies.l.length:Int) (by simp only [List.length_append,List.length_nil]; omega) l8;obtain ⟨g9a,g9b⟩:=z9.2 _ _ (by simp) g8b g8a;obtain ⟨b10,l10,i10,j10,y10,z10⟩:=Bj H d (by omega) (fun p hp=>⟨hwp p hp,hpm p hp⟩) d.policies.l.length 0 b9 l9 _ (by omega) y9 (by simp only [List.length_append,List.drop_zero,List.length_nil]; omega);obtain ⟨g10a,g10b⟩:=z10.2 _ _ (by simp) g9b g9a;simp only [List.drop_zero] at y10;have hrow:(.cells [.d (d.gonePods.d aY),.d (d.goneServices.d aY),.d (d.goneBound.d aY),.d (d.gonePolicies.d aY)]:Blk) = .cells ([d.gonePods,d.goneServices,d.goneBound,d.gonePolicies].map fun r=>V.d (r.d aY)):=rfl;have u9:=y10.fresh [.cells [.d (d.gonePods.d aY),.d (d.goneServices.d aY),.d (d.goneBound.d aY),.d (d.gonePolicies.d aY)]];obtain ⟨b11,l11,i11,j11,y11,z11⟩:=Dn H [d.gonePods,d.goneServices,d.goneBound,d.gonePolicies] (by simp) (fun r hr=>by
  simp only [List.mem_cons,List.not_mem_nil,or_false] at hr;rcases hr with rfl | rfl | rfl | rfl
  · exact u1'.1
  · exact u2'.1
  · exact u3'.1
  · exact u4'.1) (p:=1) (q:=b10.length) u9.1 (cap:=some 4) 4 0 (b10 ++ [.cells [.d (d.gonePods.d aY),.d (d.goneServices.d aY),.d (d.goneBound.d aY),.d (d.gonePolicies.d aY)]]) l10 _ (by simp) (y10.lay _) u9.2 (by simp) (by simp only [List.length_append,List.drop_zero,List.length_nil,List.flatMap_cons,List.flatMap_nil,seqB]; omega)
 simp only [List.drop_zero] at y11;have hfin:([] ++ (aM d.epoch ++ aM (d.covers.l.length:Int)) ++ d.covers.l.flatMap aM ++ aM (d.pods.l.length:Int) ++ d.pods.l.flatMap nA ++ aM (d.services.l.length:Int) ++ d.services.l.flatMap nM ++ aM (d.bound.l.length:Int) ++ d.bound.l.flatMap qN ++ aM (d.policies.l.length:Int) ++ d.policies.l.flatMap fH ++ ([d.gonePods,d.goneServices,d.goneBound,d.gonePolicies].flatMap fun r=>seqB aM r.l)) = iw d:=by simp only [iw,seqB,List.nil_append,List.append_assoc,List.flatMap_cons,List.flatMap_nil,List.append_nil]
 rw [hfin] at y11;have hne:iw d ≠ []:=by
  simp [iw,yX]
 generalize iw d = L at *;obtain ⟨l12,r1⟩:=Xt (E:=E0) y11 hlen0 hne l11;have hfz:=qx (h:=⟨b11 ++ [.cells (L.map (iv .u8))],l12⟩) (k:=7) (b:=b11.length) (l:=L) (cap:=none) (by simp);simp at m1 a1 c1 f1 g1 i3 i4 i5 i6 i7 i8 i9 i10 i11 r1 g3a g4a g5a g6a g7a g8a g9a g10a;simp [af,M9,n64,w246,w247,w248,w249,w251,m1,aA,w0,a1,f1];rw [aH];simp [c1,g1,w248,w1,i3,g3a];rw [aH];simp [i4,g4a,w248,w2,i5,g5a];rw [aH];simp [i6,g6a,w248,w3,i7,g7a];rw [aH];simp [i8,g8a,w248,w4,i9,g9a];rw [aH];simp [i10,g10a,aA];rw [aH];simp [i11,w251,r1,hfz,frz,dD]
end
end
section
structure VBackH (E:Calls'):Prop where
 h62:∀ v:Vw,v.ok -> (∀ p ∈ v.policies.l,p.wf big) -> ∀ h,E 7 [v.v] h = some (bl (aW v),h)
 h102:∀ d:Dlt,d.ok -> (∀ p ∈ d.policies.l,p.wf big) -> bR d = true -> (∀ n ∈ d.covers.l,0 <= n /\ n <= 4294967295) -> (iw d).length <= big -> ∀ h,E 8 [d.v] h = some (.tup [.d (bytesD (iw d)),.d (i64 0)],h)
 h103:∀ (nl:Bool) (l:List Int),byteL l -> l.length <= big -> ∀ h,E 9 [.d (Sl.d u8C ⟨nl,l⟩)] h = some (match tT l with | some d=>.tup [ag d.c,.d (i64 0)] | none=>.tup [ag (Dlt.c ⟨0,⟨true,[]⟩,⟨true,[]⟩,⟨true,[]⟩,⟨true,[]⟩,⟨true,[]⟩,⟨true,[]⟩,⟨true,[]⟩,⟨true,[]⟩,⟨true,[]⟩⟩),.d (i64 2)],h)
def gY:FuncId -> Option QF:=jk [(3,r15)]
def dV (f:FuncId):Bool:=[3].any fun n=>Nat.beq n f
theorem cv3:gY 3 = some r15:=by kernel_rfl
theorem cv4:dV 3 = true:=by kernel_rfl
theorem Yu:gY 4 = none:=by kernel_rfl
theorem cv2:gY 5 = none:=by kernel_rfl
theorem RL:gY 6 = none:=by kernel_rfl
theorem Yv:gY 10 = none:=by kernel_rfl
theorem Yw:gY 11 = none:=by kernel_rfl
theorem Yx:gY 7 = none:=by kernel_rfl
theorem Yr:gY 8 = none:=by kernel_rfl
theorem Yt:gY 9 = none:=by kernel_rfl
theorem ChainH.put2 {E:Calls'} (H:ChainH E) {a b:Vw} (oa:a.ok) (wa:∀ p ∈ a.policies.l,p.wf big) (ob:b.ok) (wb:∀ p ∈ b.policies.l,p.wf big) (ma:aW a = true) (mb:aW b = true) (hd:dltOk (bL a b).can) :
 ∃ x:Vw,x.ok /\ x.nf = b.nf /\ ∀ h,E 10 [a.v,(bL a b).can.v] h = some (.tup [x.v,.d (i64 0)],h):=by
 obtain ⟨od,wd⟩:=hd.good;have md:bR (bL a b).can = true:=by rw [ul]; exact nY ma mb
 obtain ⟨n1,n2,n3,n4,k⟩:=H.h59 a (bL a b).can oa wa od wd ma md;obtain ⟨k1,k2,k3⟩:=k _ rfl;have hx:=(Lb a (bL a b) (n1:=n1) (n2:=n2) (n3:=n3) (n4:=n4) (m1:=n1) (m2:=n2) (m3:=n3) (m4:=n4)).trans (uE ma mb rfl (n1:=n1) (n2:=n2) (n3:=n3) (n4:=n4) (d:=bL a b) rfl);have mx:=jS b;rw [← hx,jS,mb] at mx;refine ⟨_,k1,hx,fun h=>?_⟩;rw [k3,mx]; rfl
theorem zG (a:Vw):(bL a a).pods.l = [] /\ (bL a a).services.l = [] /\ (bL a a).bound.l = [] /\ (bL a a).policies.l = [] /\ (bL a a).gonePods.l = [] /\ (bL a a).goneServices.l = [] /\ (bL a a).goneBound.l = [] /\ (bL a a).gonePolicies.l = [] :=
 ⟨ji (fun x=>Pod.eqB_iff.2 rfl) _,ji (fun x=>Svc.eqB_iff.2 rfl) _,ji (fun x=>Way.eqB_iff.2 rfl) _,by show dB a a = []; rw [dB,ji (fun x=>Pol.same_iff.2 rfl)]; rfl,jW _ _,jW _ _,jW _ _,jW _ _⟩
set_option maxHeartbeats 1000000 in
theorem R15 {E:Calls'} (H:ChainH E) (K:VBackH E) (a b:Vw) (oa:a.ok) (ob:b.ok) (ia:a.inb) (ib:b.inb) (h:Hp) :
 Sm E gY dV 3 [a.v,b.v] h = some (bl true,h):=by
 have wa:=ia.2.2.2.2.2;have wb:=ib.2.2.2.2.2;obtain ⟨ha,e1⟩:=H.h57 a oa;obtain ⟨hb,e2⟩:=H.h57 b ob;have f1:∀ h,Sm E gY dV 4 [a.v] h = some (bl ha,h):=fun h=>(aJ Yu).trans (e1 h);have f2:∀ h,Sm E gY dV 4 [b.v] h = some (bl hb,h):=fun h=>(aJ Yu).trans (e2 h);have f4:∀ h,Sm E gY dV 5 [] h = some (bl true,h):=fun h=>(aJ cv2).trans (H.h50 h);have f5:∀ h,Sm E gY dV 7 [a.v] h = some (bl (aW a),h):=fun h=>(aJ Yx).trans (K.h62 a oa wa h);have f6:∀ h,Sm E gY dV 7 [b.v] h = some (bl (aW b),h):=fun h=>(aJ Yx).trans (K.h62 b ob wb h);clear e1 e2;rw [bf cv3 cv4];cases ha
 case true=>simp (decide:=true) [af,r15,f1,f2,f4,aA,aG]
 cases hb
 case true=>simp (decide:=true) [af,r15,f1,f2,f4,aA,aG]
 by_cases hm:aW a = true /\ aW b = true
 · obtain ⟨ma,mb⟩:=hm;have hdo:dltOk (bL a b).can:=Ke ia ib ma mb;obtain ⟨od,wd⟩:=wX oa ob wb;have md:bR (bL a b) = true:=nY ma mb;have hL:=Kg hdo;have hLb:(iw (bL a b)).length <= big:=Nat.le_trans hL (by decide);have hby:=Dc hdo;have g1:∀ h,Sm E gY dV 6 [a.v,b.v] h = _:=fun h=>(aJ RL).trans (H.h58 a b oa wa ob wb ma mb h);have g2:∀ h,Sm E gY dV 6 [a.v,a.v] h = _:=fun h=>(aJ RL).trans (H.h58 a a oa wa oa wa ma ma h);have g3:∀ h,Sm E gY dV 8 [(bL a b).v] h = some (.tup [.d (bytesD (iw (bL a b))),.d (i64 0)],h):=fun h=>(aJ Yr).trans (K.h102 (bL a b) od wd md (fun n hn=>(ib.2.1 n hn).u32) hLb h);have g4:∀ h,Sm E gY dV 9 [.d (bytesD (iw (bL a b)))] h = some (.tup [ag (bL a b).can.c,.d (i64 0)],h):=fun h=>by
    have:=(aJ (E:=E) (T:=gY) (val:=dV) (args:=[.d (Sl.d u8C ⟨false,iw (bL a b)⟩)]) (h:=h) Yt).trans (K.h103 false (iw (bL a b)) hby hLb h);rw [FK md hdo] at this;exact this
   obtain ⟨x,ox,wx,nx,p1⟩:=H.put oa wa oa ob wb ma mb rfl;obtain ⟨y,oy,ny,p2⟩:=H.put2 oa wa ob wb ma mb hdo;have q1:∀ h,Sm E gY dV 10 [a.v,(bL a b).v] h = _:=fun h=>(aJ Yv).trans (p1 h);have q2:∀ h,Sm E gY dV 10 [a.v,(bL a b).can.v] h = _:=fun h=>(aJ Yv).trans (p2 h);have s1:∀ h,Sm E gY dV 11 [x.v,b.v] h = _:=fun h=>(aJ Yw).trans (H.h60 x b ox h);have s2:∀ h,Sm E gY dV 11 [y.v,b.v] h = _:=fun h=>(aJ Yw).trans (H.h60 y b oy h);rw [Vw.same_iff.2 nx] at s1;rw [Vw.same_iff.2 ny] at s2;obtain ⟨z1,z2,z3,z4,z5,z6,z7,z8⟩:=zG a;clear p1 p2 nx ny od wd md hdo hL hLb hby;generalize iw (bL a b) = L at *;generalize bytesD L = BL at *;generalize (bL a b).can = d2 at *;generalize bL a b = d1 at *;generalize bL a a = d3 at *;have u2:sub (d3.c.map V.d) 2 1 = some [.d (d3.pods.d Pod.c)]:=rfl;have u3:sub (d3.c.map V.d) 3 1 = some [.d (d3.services.d Svc.c)]:=rfl;have u4:sub (d3.c.map V.d) 4 1 = some [.d (d3.bound.d Way.c)]:=rfl;have u5:sub (d3.c.map V.d) 5 1 = some [.d (d3.policies.d Pol.c)]:=rfl;have u6:sub (d3.c.map V.d) 6 1 = some [.d (d3.gonePods.d aY)]:=rfl;have u7:sub (d3.c.map V.d) 7 1 = some [.d (d3.goneServices.d aY)]:=rfl;have u8:sub (d3.c.map V.d) 8 1 = some [.d (d3.goneBound.d aY)]:=rfl;have u9:sub (d3.c.map V.d) 9 1 = some [.d (d3.gonePolicies.d aY)]:=rfl
   simp (decide:=true) [af,r15,f1,f2,f4,g1,g2,g3,g4,q1,q2,s1,s2,aA,aG,show IntKind.wrap .i64 0 = 0 from by decide,u2,u3,u4,u5,u6,u7,u8,u9,z1,z2,z3,z4,z5,z6,z7,z8]
 · have hno:(aW a && aW b) = false:=by
    cases h1:aW a <;> cases h2:aW b <;> simp_all
   have g1:∀ h,Sm E gY dV 6 [a.v,b.v] h = some (.tup [ag dlt0.c,.d (i64 1)],h):=fun h=>(aJ RL).trans (H.h58n a b oa wa ob wb hno h);generalize dlt0 = d0 at *;cases h1:aW a with
   | false =>
    rw [h1] at f5;simp (decide:=true) [af,r15,f1,f2,f4,f5,g1,aA,aG]
   | true =>
    have h2:aW b = false:=by rw [h1] at hno; simpa using hno
    rw [h1] at f5;rw [h2] at f6;simp (decide:=true) [af,r15,f1,f2,f4,f5,f6,g1,aA,aG]
end
section
theorem Bv (t:Target) (ht:t.wf big) (h:Hp):Et 276 [ag t.c] h = some (bl (aU t),h):=Xz t ht h
theorem JP (x:Int) (h:Hp):EQ7 130 [.d (u64 x)] h = some (.d (i64 (dP x)),h):=(aJ (E:=EIC) (T:=TI) (val:=az) (f:=130) (by kernel_rfl)).trans (Xy (E:=Et) x h)
theorem JO (p:Pol) (hp:p.wf big) (h:Hp) (v:V) (hv:frz h v = some (ag p.c)):EQ7 125 [v] h = some (bl (aS p),h):=(aJ (E:=EIC) (T:=TI) (val:=az) (f:=125) (by kernel_rfl)).trans (CP (T:=TT) (val:=ak) bl6 bm4 (fun h=>Qu (E:=Et) Bv p hp h) hv)
theorem Qp (d:Dlt) (hd:d.ok) (hw:∀ p ∈ d.policies.l,p.wf big) (h:Hp) (v:V) (hv:frz h v = some (ag d.c)):EQ7 31 [v] h = some (bl (bR d),h):=CP (T:=TI) (val:=az) i164 Yn (fun h=>Qq (E:=EIC) EIC_put.h117 EIC_put.h263 d hd hw h) hv
theorem WE:EncH EQ7 Et where
 h246 args h:=aJ (E:=EIC) (T:=TI) (val:=az) (f:=32) (by kernel_rfl)
 h247 args h:=aJ (E:=EIC) (T:=TI) (val:=az) (f:=33) (by kernel_rfl)
 h248 args h:=aJ (E:=EIC) (T:=TI) (val:=az) (f:=34) (by kernel_rfl)
 h249 args h:=aJ (E:=EIC) (T:=TI) (val:=az) (f:=35) (by kernel_rfl)
 h251 args h:=aJ (E:=EIC) (T:=TI) (val:=az) (f:=37) (by kernel_rfl)
 h250 p hp hm h:=(aJ (E:=EIC) (T:=TI) (val:=az) (f:=36) (by kernel_rfl)).trans ((bz7 (E:=Et) Bv p hp h).trans (by rw [hm]; rfl))
 h64 d hd hw h:=Qq (E:=EIC) EIC_put.h117 EIC_put.h263 d hd hw h
noncomputable def EP:Calls':=fun f args h=>match Nat.beq f 5,Nat.beq f 6,Nat.beq f 8,Nat.beq f 9 with
 | true,_,_,_=>known 5 true f args h
 | _,true,_,_=>Sm EQ7 TD bA f args h
 | _,_,true,_=>Sm EQ7 TE bK f args h
 | _,_,_,true=>Sm EQ7 TRd aj f args h
 | _,_,_,_=>EQ7 f args h
theorem Qn:ChainH EP where
 h57 v hv:=by
  obtain ⟨b,k⟩:=S70 (E:=Et) v hv;exact ⟨b,fun h=>(aJ (E:=EIC) (T:=TI) (val:=az) (f:=4) (by kernel_rfl)).trans (k h)⟩
 h50 h:=by show known 5 true 5 [] h = _; simp [known]
 h58n a b oa wa ob wb hn h:=bu7 Od a b oa wa ob wb hn h
 h58 a b oa wa ob wb m1 m2 h:=D58 Od a b oa wa ob wb m1 m2 h
 h59 v d ov wv od wd m1 m2:=I80 (E:=EIC) EIC_put v ov wv d od wd m1 m2
 h60 a b oa h:=I82 (E:=EIC) a b oa h
theorem Qo:VBackH EP where
 h62 v hv hw h:=I75 (E:=EIC) EIC_put.h117 EIC_put.h263 v hv hw h
 h102 d hd hw hm hc hl h:=bu8 WE d hd hw hm hc hl h
 h103 nl l hb hl h:=bt9 (E:=EQ7) JP JO Qp hb hl h
end
end Go.Proofs.YtjkfknafpgfchaaGreat
