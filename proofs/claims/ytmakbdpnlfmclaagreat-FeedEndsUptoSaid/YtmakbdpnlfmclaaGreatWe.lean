/- How long bytes may get; policy.Encode. -/
import Derived.Test.YtmakbdpnlfmclaaGreatCg
set_option maxRecDepth 100000
set_option linter.unusedVariables false
set_option linter.unusedSimpArgs false
namespace Go.Proofs.YtmakbdpnlfmclaaGreat
open IntKind (wrap)
section
variable {E:Calls'}
theorem iA {α:Type}{f:α->List Int}{K:Nat}:∀ {l:List α},(∀ x∈l,(f x).length<=K)->(l.flatMap f).length<=l.length * K
 | [],_=>by simp
 | x::l,h=>by
  have h1:=h x (by simp);have h2:=iA (l:=l) λy hy=>h y (List.mem_cons_of_mem _ hy);rw [fe,ch,Nat.add_mul,Nat.one_mul];omega
theorem nR {α:Type}{f:α->List Int}{K n:Nat}{l:List α}(hn:l.length<=n)(h:∀ x∈l,(f x).length<=K):(seqB f l).length<=10+n * K:=by
 have h1:=iA h;have h2:=bq l.length;have h3:l.length * K<=n * K:=Nat.mul_le_mul_right K hn;simp only [seqB,am];omega
theorem EE {s:ByteArray}(h:eqS s ⟨#[]⟩=true):s.size=0:=by
 unfold eqS at h;have h1:s.toList=(⟨#[]⟩:ByteArray).toList:=eq_of_beq h;have h2:=lU s;rw [h1,bZ] at h2;exact h2.symm
theorem LM {t:Term}(h:ko t=true):(nV t).length<=75:=by
 have h1:=jq t.text;have h2:t.text.size<=64:=by
  simp only [ko,aq] at h;obtain ⟨_,h⟩:=h;split at h
  . have:=EE h; omega
  . simp only [aq,br] at h;omega
 simp only [nV,ch];omega
theorem LP {s:Sl Term}(h:bi s=true):(seqB nV s.l).length<=460:=by
 simp only [bi,aq,br,ck] at h;exact nR (n:=6) (K:=75) (by omega) λx hx=>LM (h.2 x hx)
theorem zL {ls:List (Sl Term)}{n:Nat}(hn:ls.length<=n)(h:ls.all bi=true):(mJ ls).length<=n * 460:=by
 have h1:=iA (f:=λs:Sl Term=>seqB nV s.l) (K:=460) (l:=ls) λx hx=>LP (ck.1 h x hx);have h3:ls.length * 460<=n * 460:=Nat.mul_le_mul_right _ hn;simp only [mJ];omega
theorem DJ {s:Source}(h:gL s=true):(jZ s).length<=960:=by
 have h0:([s.names,s.spaces].all bi&&mZ s.nets)=true:=h;rw [aq] at h0;have h1:=zL (n:=2) (by simp) h0.1;have h2:=h0.2;simp only [mZ,aq,br] at h2;have h3:=nR (n:=6) (K:=5) (f:=uw) (l:=s.nets.l) (by omega) λx _=>bp 5;simp only [jZ,am];omega
theorem DY {s:Target}(h:aZ s=true):(kg s).length<=1450:=by
 have h0:(([s.methods,s.paths,s.hosts].all bi)&&(decide ((s.ports.l.length:Int)<=6)&&s.ports.l.all ig)&&((vJ (bD s.ports.l):Int)==(s.ports.l.length:Int)))=true:=h;simp only [aq,br] at h0;have h1:=zL (ls:=[s.methods,s.paths,s.hosts]) (n:=3) (by simp) h0.1.1;have h3:=nR (n:=6) (K:=10) (f:=yf) (l:=s.ports.l) (by omega) λx _=>bq _;simp only [kg,am];omega
theorem Mg {s:When}(h:kw s=true):(sD s).length<=534:=by
 have h0:(ll s.head&&[s.terms].all bi&&decide ((s.terms.l.length:Int)>0))=true:=h;simp only [aq,br] at h0;have h1:=zL (ls:=[s.terms]) (n:=1) (by simp) h0.1.2;have h2:=jq s.head;have h3:=h0.1.1;simp only [ll,aq,br] at h3;simp only [sD,am];omega
theorem Lj {s:Rule}(h:iw s=true):(p9 s).length<=8862:=by
 simp only [iw,aq,br,ck] at h;have h1:=nR (n:=3) (K:=960) (f:=jZ) (l:=s.frm.l) (by omega) λx hx=>DJ (h.1.1.2 x hx);have h2:=nR (n:=3) (K:=1450) (f:=kg) (l:=s.to.l) (by omega) λx hx=>DY (h.1.2.2 x hx);have h3:=nR (n:=3) (K:=534) (f:=sD) (l:=s.whn.l) (by omega) λx hx=>Mg (h.2.2 x hx);simp only [p9,am];omega
def tF (p:Pol):List Int:=bY p.id++(jg p.ns++([p.service,wrap .u64 p.deny].flatMap bY++seqB p9 p.rules.l))
theorem rA {s:ByteArray}(h:bU s=true):s.size<=20:=by
 simp only [bU,aq,br] at h;omega
theorem zB {p:Pol}(h:bT p=true):(tF p).length<=53300:=by
 simp only [bT,aq,br,Bool.or_eq_true,ck] at h;have h1:=nR (n:=6) (K:=8862) (f:=p9) (l:=p.rules.l) (by omega) λx hx=>Lj (h.2.2 x hx);have h2:=jq p.ns;have h3:p.ns.size<=20:=by
  obtain hh | hh:=h.1.1.1.2
  . have:=EE hh; omega
  . exact rA hh
 have h4:=bq p.id;have h5:=bq p.service;have h6:=bq (wrap .u64 p.deny);simp only [tF,am,List.flatMap_cons,List.flatMap_nil,cj];omega
def bytesD (l:List Int):D:=.slice false (l.map λn=>[.int .u8 n])
theorem Cs (x:Int):bY x≠[]:=by
 intro h;have:=congrArg List.length h;rw [bY,uk] at this;simp at this
theorem uz {h:Hp}{k b:Nat}{l:List Int}{cap:Option Nat}(hb:ai h.bs b=some (l.map (iv .u8))):dataV h (k+1) (.row b 0 l.length cap 1)=some (bytesD l):=by
 have hf:∀ l:List Int,flat (l.map λn=>[D.int .u8 n])=l.map (iv .u8):=by
  intro l;simp only [flat]
  induction l with
  | nil=>rfl
  | cons x l ih=>simp only [co,List.flatten_cons,List.map_append,ih]; rfl
 exact bz (z:=1) (es:=l.map λn=>[D.int .u8 n]) (rest:=[]) (by simp) (by simp) (by rw [hf,List.append_nil]; exact hb)
section
variable (h385:∀ t:Target,t.wf big->∀ h,E 294 [ag t.c] h=some (bl (aZ t),h))
include h385
theorem bg4 (p:Pol)(hp:p.wf big)(h:Hp):Sm E TT ah 78 [ag p.c] h=some (.tup (if bT p then [.d (bytesD (tF p)),.d (i64 0)] else [.d (.slice true []),.d (i64 1)]),h):=by
 have n1:=λh=>Q5 h385 p hp h;rw [aN cv7 dn5];cases hm:bT p with
 | false =>
  simp only [hm] at n1;simp [aa,Oh,n1]
 | true =>
  simp only [hm] at n1;have hlen:=zB hm;have hbig:big=2 ^ 30:=rfl;simp only [tF,am] at hlen;obtain ⟨lo0,m1⟩:=Xo (E:=E) [.cells (p.c.map .d)] 0;have hW:=Mh [.cells (p.c.map .d)];have hW1:jr ([.cells (p.c.map .d)]++[.cells [.d (.slice true [])]]) 1≠some 0:=by simp [jr]
  obtain ⟨b1,l1,a1,a2,a3,a4⟩:=F7 (E:=E) hW p.id (by simp; omega) lo0;obtain ⟨f1,f2⟩:=a4.2 0 (p.c.map .d) (by simp) hW1 (by simp);obtain ⟨b2,l2,c1,c2,c3,c4⟩:=Cu (E:=E) a3 p.ns (by simp; omega) l1;obtain ⟨g1,g2⟩:=c4.2 _ _ (by simp) f2 f1;have hfr:=c3.fresh [.cells [.d (u64 p.service),.d (u64 (wrap .u64 p.deny))]];obtain ⟨b3,l3,d1,d2,d3,d4⟩:=xn (E:=E) (c3.lay [.cells [.d (u64 p.service),.d (u64 (wrap .u64 p.deny))]]) (xs:=[p.service,wrap .u64 p.deny]) (by simp) (by simp) (q:=b2.length) hfr.1 (cap:=some 2) hfr.2 (by simp) (by simp only [am,cj]; omega) l2;obtain ⟨k1,k2⟩:=((Fx.lay c3.len _).trans d4).2 _ _ (by simp) g2 g1;obtain ⟨b4,l4,e1,e2,e3,e4⟩:=sI (E:=E) (cells:=Rule.c) (zero:=sl0 3) (λ_=>rfl) (by decide) rfl dy2 dq3 (enc:=p9) (f:=157) hp.2.2.2.2.1 (λe he bs l h hl=>bi2 e ((hp.2.2.2.2.2 e he).fits) h hl) d3 (by simp only [am,cj]; omega) l3;have hfin:[]++bY p.id++jg p.ns++[p.service,wrap .u64 p.deny].flatMap bY++seqB p9 p.rules.l=tF p:=by simp [tF]
  rw [hfin] at e3;obtain ⟨l5,r1⟩:=Xp (E:=E) e3 (by have:=zB hm; omega) (by simp [tF,Cs]) l4;have hfz:=uz (h:=⟨b4++[.cells ((tF p).map (iv .u8))],l5⟩) (k:=7) (b:=b4.length) (l:=tF p) (cap:=none) (by simp);simp at a1 c1 d1 e1 r1 m1 f1 g1 k1;simp [aa,Oh,n1,m1,a1,f1,c1,g1,aC,d1,k1,e1,r1];simp [hfz]
end
end
section
variable {E:Calls'}
def uJ (p:Pod):List Int:=[p.uid].flatMap bY++(jg p.ns++(jg p.sa++[wrap .u64 p.host,wrap .u64 p.addr,wrap .u64 p.port,p.service].flatMap bY))
def uK (s:Svc):List Int:=[s.id].flatMap bY++(jg s.ns++[wrap .u64 s.addr,wrap .u64 s.port,s.way].flatMap bY)
def zY (w:Way):List Int:=[w.id,wrap .u64 w.node].flatMap bY
def strOf (l:List Int):ByteArray:=⟨(l.map λn=>UInt8.ofNat n.toNat).toArray⟩
def rM (p:Pol):List Int:=jg (strOf (tF p))
theorem Wr.fresh1 {p:Nat}{bs:List Blk}{l:List Int}(h:Wr bs p l)(a:Blk)(ys:List Blk):bs.length+1≠p/\jr (bs++(a::ys)) p≠some (bs.length+1):=by
 have hp:=h.len;refine ⟨by omega,?_⟩;rw [pg hp];intro hh;have:=h.row_lt hh;omega
theorem GU (c:Cfg)(hs:c.pods.l.length<2 ^ 62){p:Nat}:∀ (m i:Nat) (bs:List Blk) (lo:Nat) (l:List Int),i+m=c.pods.l.length->Wr bs p l->l.length+((c.pods.l.drop i).flatMap uJ).length<=big →
 ∃ bs' lo',Cd E TT ah (.loop [1,3,33,34,35] tO) [(1,.ptr 0 0),(3,.ptr p 0),(33,.d (c.pods.d Pod.c)),(34,.d (i64 c.pods.l.length)),(35,.d (i64 i))] ⟨bs,lo⟩=some (.exit 0,[(1,.ptr 0 0),(3,.ptr p 0)],⟨bs',lo'⟩) ∧
  (lo<=p->lo'<=p)/\Wr bs' p (l++(c.pods.l.drop i).flatMap uJ)/\Fx p bs bs':=by
 intro m;have key:=ak (E:=E) (T:=TT) (val:=ah) [1,3,33,34,35] tO;generalize Cd E TT ah (.loop [1,3,33,34,35] tO)=W at key ⊢
 induction m with
 | zero =>
  intro i bs lo l hi hW hl;have h0:c.pods.l.drop i=[]:=ba (by omega);refine ⟨bs,lo,?_,id,by simpa [h0] using hW,Fx.refl _ _⟩;rw [key];simp [tO,show ¬ ((i:Int)<c.pods.l.length) from by omega]
 | succ m ih =>
  intro i bs lo l hi hW hl;have hlt:i<c.pods.l.length:=by omega
  have hx:=λh=>aK (z:=7) h (ab hlt) (cells:=Pod.c) rfl;rw [aw hlt] at hl ⊢;rw [fe] at hl;generalize c.pods.l[i]=e at *;have hl2:(uJ e).length=([e.uid].flatMap bY).length+((jg e.ns).length+((jg e.sa).length+([wrap .u64 e.host,wrap .u64 e.addr,wrap .u64 e.port,e.service].flatMap bY).length)):=by simp only [uJ,am]
  have u1:=hW.fresh1 (.cells (e.c.map .d)) [.cells [.d (u64 e.uid)]];obtain ⟨b1,l1,a1,a2,a3,a4⟩:=xn (E:=E) (hW.lay (.cells (e.c.map .d)::[.cells [.d (u64 e.uid)]])) (xs:=[e.uid]) (by simp) (by simp) (q:=bs.length+1) u1.1 (cap:=some 1) u1.2 (by simp) (by omega) (min lo bs.length);obtain ⟨f1,f2,f3⟩:=a4.new hW;obtain ⟨b2,l2,c1,c2,c3,c4⟩:=Cu (E:=E) a3 e.ns (by simp only [am]; omega) l1;obtain ⟨g1,g2⟩:=c4.2 _ _ f1 f2 f3;obtain ⟨b3,l3,d1,d2,d3,d4⟩:=Cu (E:=E) c3 e.sa (by simp only [am]; omega) l2;obtain ⟨k1,k2⟩:=d4.2 _ _ f1 g2 g1;have u2:=d3.fresh [.cells [.d (u64 (wrap .u64 e.host)),.d (u64 (wrap .u64 e.addr)),.d (u64 (wrap .u64 e.port)),.d (u64 e.service)]];obtain ⟨b4,l4,e1,e2,e3,e4⟩:=xn (E:=E) (d3.lay [.cells [.d (u64 (wrap .u64 e.host)),.d (u64 (wrap .u64 e.addr)),.d (u64 (wrap .u64 e.port)),.d (u64 e.service)]]) (xs:=[wrap .u64 e.host,wrap .u64 e.addr,wrap .u64 e.port,e.service]) (by simp) (by simp) (q:=b3.length) u2.1 (cap:=some 4) u2.2 (by simp) (by simp only [am]; omega) l3;have e3':Wr b4 p (l++uJ e):=by simpa only [uJ,List.append_assoc] using e3
  obtain ⟨bs',lo',q1,q2,q3,q4⟩:=ih (i+1) b4 l4 (l++uJ e) (by omega) e3' (by rw [am]; omega);have hw:=aA hlt hs;refine ⟨bs',lo',?_,λ_=>q2 e2,by simpa using q3,(((((Fx.lay hW.len _).trans a4).trans c4).trans d4).trans ((Fx.lay d3.len _).trans e4)).trans q4⟩;simp at a1 c1 d1 e1;rw [key];simp [tO,hx,aC,a1,f3,c1,g1,d1,k1,e1,hw,show ((i:Int)<c.pods.l.length) from by omega];simpa using q1
theorem Io (c:Cfg)(hs:c.services.l.length<2 ^ 62){p:Nat}:∀ (m i:Nat) (bs:List Blk) (lo:Nat) (l:List Int),i+m=c.services.l.length->Wr bs p l->l.length+((c.services.l.drop i).flatMap uK).length<=big →
 ∃ bs' lo',Cd E TT ah (.loop [1,3,77,78,79] tQ) [(1,.ptr 0 0),(3,.ptr p 0),(77,.d (c.services.d Svc.c)),(78,.d (i64 c.services.l.length)),(79,.d (i64 i))] ⟨bs,lo⟩=some (.exit 2,[(1,.ptr 0 0),(3,.ptr p 0)],⟨bs',lo'⟩) ∧
  (lo<=p->lo'<=p)/\Wr bs' p (l++(c.services.l.drop i).flatMap uK)/\Fx p bs bs':=by
 intro m;have key:=ak (E:=E) (T:=TT) (val:=ah) [1,3,77,78,79] tQ;generalize Cd E TT ah (.loop [1,3,77,78,79] tQ)=W at key ⊢
 induction m with
 | zero =>
  intro i bs lo l hi hW hl;have h0:c.services.l.drop i=[]:=ba (by omega);refine ⟨bs,lo,?_,id,by simpa [h0] using hW,Fx.refl _ _⟩;rw [key];simp [tQ,show ¬ ((i:Int)<c.services.l.length) from by omega]
 | succ m ih =>
  intro i bs lo l hi hW hl;have hlt:i<c.services.l.length:=by omega
  have hx:=λh=>aK (z:=5) h (ab hlt) (cells:=Svc.c) rfl;rw [aw hlt] at hl ⊢;rw [fe] at hl;generalize c.services.l[i]=e at *;have hl2:(uK e).length=([e.id].flatMap bY).length+((jg e.ns).length+([wrap .u64 e.addr,wrap .u64 e.port,e.way].flatMap bY).length):=by simp only [uK,am]
  have u1:=hW.fresh1 (.cells (e.c.map .d)) [.cells [.d (u64 e.id)]];obtain ⟨b1,l1,a1,a2,a3,a4⟩:=xn (E:=E) (hW.lay (.cells (e.c.map .d)::[.cells [.d (u64 e.id)]])) (xs:=[e.id]) (by simp) (by simp) (q:=bs.length+1) u1.1 (cap:=some 1) u1.2 (by simp) (by omega) (min lo bs.length);obtain ⟨f1,f2,f3⟩:=a4.new hW;obtain ⟨b2,l2,c1,c2,c3,c4⟩:=Cu (E:=E) a3 e.ns (by simp only [am]; omega) l1;obtain ⟨g1,g2⟩:=c4.2 _ _ f1 f2 f3;have u2:=c3.fresh [.cells [.d (u64 (wrap .u64 e.addr)),.d (u64 (wrap .u64 e.port)),.d (u64 e.way)]];obtain ⟨b4,l4,e1,e2,e3,e4⟩:=xn (E:=E) (c3.lay [.cells [.d (u64 (wrap .u64 e.addr)),.d (u64 (wrap .u64 e.port)),.d (u64 e.way)]]) (xs:=[wrap .u64 e.addr,wrap .u64 e.port,e.way]) (by simp) (by simp) (q:=b2.length) u2.1 (cap:=some 3) u2.2 (by simp) (by simp only [am]; omega) l2;have e3':Wr b4 p (l++uK e):=by simpa only [uK,List.append_assoc] using e3
  obtain ⟨bs',lo',q1,q2,q3,q4⟩:=ih (i+1) b4 l4 (l++uK e) (by omega) e3' (by rw [am]; omega);have hw:=aA hlt hs;refine ⟨bs',lo',?_,λ_=>q2 e2,by simpa using q3,((((Fx.lay hW.len _).trans a4).trans c4).trans ((Fx.lay c3.len _).trans e4)).trans q4⟩;simp at a1 c1 e1;rw [key];simp [tQ,hx,aC,a1,f3,c1,g1,e1,hw,show ((i:Int)<c.services.l.length) from by omega];simpa using q1
theorem IA (c:Cfg)(hs:c.bound.l.length<2 ^ 62){p:Nat}:∀ (m i:Nat) (bs:List Blk) (lo:Nat) (l:List Int),i+m=c.bound.l.length->Wr bs p l->l.length+((c.bound.l.drop i).flatMap zY).length<=big →
 ∃ bs' lo',Cd E TT ah (.loop [1,3,112,113,114] tT) [(1,.ptr 0 0),(3,.ptr p 0),(112,.d (c.bound.d Way.c)),(113,.d (i64 c.bound.l.length)),(114,.d (i64 i))] ⟨bs,lo⟩=some (.exit 4,[(1,.ptr 0 0),(3,.ptr p 0)],⟨bs',lo'⟩) ∧
  (lo<=p->lo'<=p)/\Wr bs' p (l++(c.bound.l.drop i).flatMap zY)/\Fx p bs bs':=by
 intro m;have key:=ak (E:=E) (T:=TT) (val:=ah) [1,3,112,113,114] tT;generalize Cd E TT ah (.loop [1,3,112,113,114] tT)=W at key ⊢
 induction m with
 | zero =>
  intro i bs lo l hi hW hl;have h0:c.bound.l.drop i=[]:=ba (by omega);refine ⟨bs,lo,?_,id,by simpa [h0] using hW,Fx.refl _ _⟩;rw [key];simp [tT,show ¬ ((i:Int)<c.bound.l.length) from by omega]
 | succ m ih =>
  intro i bs lo l hi hW hl;have hlt:i<c.bound.l.length:=by omega
  have hx:=λh=>aK (z:=2) h (ab hlt) (cells:=Way.c) rfl;rw [aw hlt] at hl ⊢;rw [fe] at hl;generalize c.bound.l[i]=e at *;have u1:=hW.fresh1 (.cells (e.c.map .d)) [.cells [.d (u64 e.id),.d (u64 (wrap .u64 e.node))]];obtain ⟨b1,l1,a1,a2,a3,a4⟩:=xn (E:=E) (hW.lay (.cells (e.c.map .d)::[.cells [.d (u64 e.id),.d (u64 (wrap .u64 e.node))]])) (xs:=[e.id,wrap .u64 e.node]) (by simp) (by simp) (q:=bs.length+1) u1.1 (cap:=some 2) u1.2 (by simp) (by have:(zY e).length=([e.id,wrap .u64 e.node].flatMap bY).length:=rfl; omega) (min lo bs.length);obtain ⟨bs',lo',q1,q2,q3,q4⟩:=ih (i+1) b1 l1 (l++zY e) (by omega) a3 (by rw [am]; omega);have hw:=aA hlt hs;refine ⟨bs',lo',?_,λ_=>q2 a2,by simpa using q3,((Fx.lay hW.len _).trans a4).trans q4⟩;simp at a1;rw [key];simp [tT,hx,aC,a1,hw,show ((i:Int)<c.bound.l.length) from by omega];simpa using q1
def yV (x:V)(h:Hp):Option (V×Hp):=match x with
 | .d (.str _)=>none
 | v=>match aF h v 1 with
  | some (_,cs)=>match cs.mapM (λv=>match v with | .d (.int .u8 n)=>some (UInt8.ofNat n.toNat) | _=>none) with
   | some l=>some (.d (.str ⟨l.toArray⟩),h)
   | none=>none
  | none=>none
@[simp] theorem Te {C:Calls'}{ev:X->V}{h:Hp}{x:X}:opE C (.convBS x) ev h=yV (ev x) h:=(rfl)
theorem CL (l:List Int):(l.map λn=>[D.int .u8 n]).flatten.map V.d=l.map (iv .u8):=by
 induction l with
 | nil=>rfl
 | cons x l ih=>simp only [co,List.flatten_cons,List.map_append,ih]; rfl
theorem Jo {h:Hp}{l:List Int}:yV (.d (bytesD l)) h=some (.d (.str (strOf l)),h):=by
 have hall:((l.map λn=>[D.int .u8 n]).all λe=>e.length==1)=true:=by simp
 have hm:(l.map (iv .u8)).mapM (λv=>match v with | .d (.int .u8 n)=>some (UInt8.ofNat n.toNat) | _=>none)=some (l.map λn=>UInt8.ofNat n.toNat):=by
  induction l with
  | nil=>rfl
  | cons x l ih =>
   simp only [co,List.mapM_cons] at ih ⊢;rw [ih (by simp)];rfl
 simp only [yV,bytesD,aF,hall,if_true,CL,hm];rfl
section
variable (h385:∀ t:Target,t.wf big->∀ h,E 294 [ag t.c] h=some (bl (aZ t),h))
include h385
theorem GX (c:Cfg)(hs:c.policies.l.length<2 ^ 62)(hwf:∀ p∈c.policies.l,p.wf big/\bT p=true){p:Nat}:∀ (m i:Nat) (bs:List Blk) (lo:Nat) (l:List Int),i+m=c.policies.l.length->Wr bs p l->l.length+((c.policies.l.drop i).flatMap rM).length<=big →
 ∃ bs' lo',Cd E TT ah (.loop [3,135,136,137] tV) [(3,.ptr p 0),(135,.d (c.policies.d Pol.c)),(136,.d (i64 c.policies.l.length)),(137,.d (i64 i))] ⟨bs,lo⟩=some (.exit 6,[(3,.ptr p 0)],⟨bs',lo'⟩) ∧
  (lo<=p->lo'<=p)/\Wr bs' p (l++(c.policies.l.drop i).flatMap rM)/\Fx p bs bs':=by
 intro m;have key:=ak (E:=E) (T:=TT) (val:=ah) [3,135,136,137] tV;generalize Cd E TT ah (.loop [3,135,136,137] tV)=W at key ⊢
 induction m with
 | zero =>
  intro i bs lo l hi hW hl;have h0:c.policies.l.drop i=[]:=ba (by omega);refine ⟨bs,lo,?_,id,by simpa [h0] using hW,Fx.refl _ _⟩;rw [key];simp [tV,show ¬ ((i:Int)<c.policies.l.length) from by omega]
 | succ m ih =>
  intro i bs lo l hi hW hl;have hlt:i<c.policies.l.length:=by omega
  have hx:=λh=>aK (z:=5) h (ab hlt) (cells:=Pol.c) rfl;obtain ⟨hw1,hw2⟩:=hwf _ (bh hlt);rw [aw hlt] at hl ⊢;rw [fe] at hl;generalize c.policies.l[i]=e at *;have n1:=λh=>bg4 h385 e hw1 h;simp only [hw2,if_true] at n1;obtain ⟨b1,l1,a1,a2,a3,a4⟩:=Cu (E:=E) (hW.lay [.cells (e.c.map .d)]) (strOf (tF e)) (by have:(rM e).length=(jg (strOf (tF e))).length:=rfl; omega) (min lo bs.length);obtain ⟨bs',lo',q1,q2,q3,q4⟩:=ih (i+1) b1 l1 (l++rM e) (by omega) a3 (by rw [am]; omega);have hw:=aA hlt hs;refine ⟨bs',lo',?_,λ_=>q2 a2,by simpa using q3,((Fx.lay hW.len _).trans a4).trans q4⟩;rw [key];simp [tV,hx,n1,Jo,a1,hw,show ((i:Int)<c.policies.l.length) from by omega];simpa using q1
end
end
section
variable {E:Calls'}
def eO (c:Cfg):List Int:=[c.epoch,c.next,wrap .u64 c.hosts,wrap .u64 c.ways,(c.pods.l.length:Int)].flatMap bY++(c.pods.l.flatMap uJ++([(c.services.l.length:Int)].flatMap bY++(c.services.l.flatMap uK++([(c.bound.l.length:Int)].flatMap bY++(c.bound.l.flatMap zY++([(c.policies.l.length:Int)].flatMap bY++c.policies.l.flatMap rM))))))
theorem DT (l:List Int):(strOf l).size=l.length:=by
 show ((l.map λn=>UInt8.ofNat n.toNat).toArray).size=_;simp
theorem NE {p:Pod}(h1:p.ns.size<=20)(h2:p.sa.size<=20):(uJ p).length<=110:=by
 have a1:=bq p.uid;have a2:=jq p.ns;have a3:=jq p.sa;have a4:=bq (wrap .u64 p.host);have a5:=bq (wrap .u64 p.addr);have a6:=bq (wrap .u64 p.port);have a7:=bq p.service;simp only [uJ,am,List.flatMap_cons,List.flatMap_nil,cj];omega
theorem Ps {p:Svc}(h1:p.ns.size<=20):(uK p).length<=70:=by
 have a1:=bq p.id;have a2:=jq p.ns;have a5:=bq (wrap .u64 p.addr);have a6:=bq (wrap .u64 p.port);have a7:=bq p.way;simp only [uK,am,List.flatMap_cons,List.flatMap_nil,cj];omega
theorem PR {p:Way}:(zY p).length<=20:=by
 have a1:=bq p.id;have a5:=bq (wrap .u64 p.node);simp only [zY,am,List.flatMap_cons,List.flatMap_nil,cj];omega
theorem KA {p:Pol}(h:bT p=true):(rM p).length<=53310:=by
 have a2:=jq (strOf (tF p));rw [DT] at a2;have:=zB h;simp only [rM];omega
theorem qw {c:Cfg}(h:lu c=true):∀ p∈c.pods.l,p.ns.size<=20/\p.sa.size<=20:=by
 simp only [lu,aq,Bool.not_eq_true',List.any_eq_false] at h;intro p hp;have:=h.1 p hp;simp only [dJ,dK,Bool.or_eq_true,not_or,Bool.not_eq_true',Bool.not_eq_false,aq] at this;exact ⟨rA this.1.2.2.1,rA this.1.2.2.2⟩
theorem oU {c:Cfg}(h:fE c=true):∀ p∈c.services.l,p.ns.size<=20:=by
 simp only [fE,aq,Bool.not_eq_true',List.any_eq_false] at h;intro p hp;have:=h.1 p hp;simp only [qJ,Bool.or_eq_true,not_or,Bool.not_eq_true',Bool.not_eq_false] at this;exact rA this.2.1
theorem ic {c:Cfg}(h:dW c=true):∀ p∈c.policies.l,bT p=true:=by
 simp only [dW,aq,Bool.not_eq_true',List.any_eq_false] at h;intro p hp;have:=h.1 p hp;simp only [tC,Bool.or_eq_true,not_or,Bool.not_eq_true',Bool.not_eq_false] at this;exact this.2.1
theorem xK {c:Cfg}(h1:eQ c=true)(h2:tq c=true):(eO c).length<=700000:=by
 simp only [eQ,aq,br] at h1;simp only [tq,aq] at h2;have b1:=iA (K:=110) (f:=uJ) (l:=c.pods.l) λp hp=>NE (qw h2.1.1.1.1.2 p hp).1 (qw h2.1.1.1.1.2 p hp).2;have b2:=iA (K:=70) (f:=uK) (l:=c.services.l) λp hp=>Ps (oU h2.1.1.1.2 p hp);have b3:=iA (K:=20) (f:=zY) (l:=c.bound.l) λp hp=>PR;have b4:=iA (K:=53310) (f:=rM) (l:=c.policies.l) λp hp=>KA (ic h2.2 p hp);have a1:=bq c.epoch;have a2:=bq c.next;have a3:=bq (wrap .u64 c.hosts);have a4:=bq (wrap .u64 c.ways);have a5:=bq (c.pods.l.length:Int);have a6:=bq (c.services.l.length:Int);have a7:=bq (c.bound.l.length:Int);have a8:=bq (c.policies.l.length:Int);simp only [eO,am,List.flatMap_cons,List.flatMap_nil,cj];omega
theorem wrapN {n:Nat}(h:n<=2 ^ 30):wrap .u64 (n:Int)=n:=by
 simp [wrap,IntKind.bits,IntKind.signed];omega
section
variable (h385:∀ t:Target,t.wf big->∀ h,E 294 [ag t.c] h=some (bl (aZ t),h))
include h385
theorem bm8 (c:Cfg)(hc:c.wf big)(hpm:∀ p∈c.policies.l,bT p=true)(hlen:(eO c).length<=big)(h:Hp){a:V}(ha:frz h a=some (ag c.c)):Sm E TT ah 24 [a] h=some (.d (bytesD (eO c)),h):=by
 have hm:[a].mapM (frz h)=some [c.v]:=by simp [ha,Cfg.v]
 have hok:c.ok:=hc.ok (bp _);have w1:=wrapN (n:=c.pods.l.length) hok.1.1;have w2:=wrapN (n:=c.services.l.length) hok.2.1.1;have w3:=wrapN (n:=c.bound.l.length) hok.2.2.1.1;have w4:=wrapN (n:=c.policies.l.length) hok.2.2.2.1.1;rw [aN t94 v94,hm,w9];have hlen0:=hlen;simp only [eO,am] at hlen;obtain ⟨lo0,m1⟩:=Xo (E:=E) [.cells (c.c.map .d)] 0;have hW:=Mh [.cells (c.c.map .d)];have hW0:jr ([.cells (c.c.map .d)]++[.cells [.d (.slice true [])]]) 1≠some 0:=by simp [jr]
 have u1:=hW.fresh [.cells [.d (u64 c.epoch),.d (u64 c.next),.d (u64 (wrap .u64 c.hosts)),.d (u64 (wrap .u64 c.ways)),.d (u64 c.pods.l.length)]];obtain ⟨b1,l1,a1,a2,a3,a4⟩:=xn (E:=E) (hW.lay [.cells [.d (u64 c.epoch),.d (u64 c.next),.d (u64 (wrap .u64 c.hosts)),.d (u64 (wrap .u64 c.ways)),.d (u64 c.pods.l.length)]]) (xs:=[c.epoch,c.next,wrap .u64 c.hosts,wrap .u64 c.ways,(c.pods.l.length:Int)]) (by simp) (by simp) u1.1 (cap:=some 5) u1.2 (by simp) (by simp only [cj]; omega) lo0;obtain ⟨f1,f2⟩:=((Fx.lay hW.len _).trans a4).2 0 (c.c.map .d) (by simp) hW0 (by simp);obtain ⟨b2,l2,c1,c2,c3,c4⟩:=GU (E:=E) c hok.1.lt c.pods.l.length 0 b1 l1 _ (by omega) a3 (by simp only [am,List.drop_zero,cj]; omega);obtain ⟨g1,g2⟩:=c4.2 _ _ (by simp) f2 f1;simp only [List.drop_zero] at c3;have u2:=c3.fresh [.cells [.d (u64 c.services.l.length)]];obtain ⟨b3,l3,d1,d2,d3,d4⟩:=xn (E:=E) (c3.lay [.cells [.d (u64 c.services.l.length)]]) (xs:=[(c.services.l.length:Int)]) (by simp) (by simp) u2.1 (cap:=some 1) u2.2 (by simp) (by simp only [am,cj]; omega) l2;obtain ⟨g3,g4⟩:=((Fx.lay c3.len _).trans d4).2 _ _ (by simp) g2 g1;obtain ⟨b4,l4,e1,e2,e3,e4⟩:=Io (E:=E) c hok.2.1.lt c.services.l.length 0 b3 l3 _ (by omega) d3 (by simp only [am,List.drop_zero,cj]; omega);obtain ⟨g5,g6⟩:=e4.2 _ _ (by simp) g4 g3;simp only [List.drop_zero] at e3
 have u3:=e3.fresh [.cells [.d (u64 c.bound.l.length)]];obtain ⟨b5,l5,i1,i2,i3,i4⟩:=xn (E:=E) (e3.lay [.cells [.d (u64 c.bound.l.length)]]) (xs:=[(c.bound.l.length:Int)]) (by simp) (by simp) u3.1 (cap:=some 1) u3.2 (by simp) (by simp only [am,cj]; omega) l4;obtain ⟨g7,g8⟩:=((Fx.lay e3.len _).trans i4).2 _ _ (by simp) g6 g5;obtain ⟨b6,l6,j1,j2,j3,j4⟩:=IA (E:=E) c hok.2.2.1.lt c.bound.l.length 0 b5 l5 _ (by omega) i3 (by simp only [am,List.drop_zero,cj]; omega);obtain ⟨g9,g10⟩:=j4.2 _ _ (by simp) g8 g7;simp only [List.drop_zero] at j3;have u4:=j3.fresh [.cells [.d (u64 c.policies.l.length)]];obtain ⟨b7,l7,k1,k2,k3,k4⟩:=xn (E:=E) (j3.lay [.cells [.d (u64 c.policies.l.length)]]) (xs:=[(c.policies.l.length:Int)]) (by simp) (by simp) u4.1 (cap:=some 1) u4.2 (by simp) (by simp only [am,cj]; omega) l6;obtain ⟨g11,g12⟩:=((Fx.lay j3.len _).trans k4).2 _ _ (by simp) g10 g9;obtain ⟨b8,l8,n1,n2,n3,n4⟩:=GX h385 c hok.2.2.2.1.lt (λp hp=>⟨hc.2.2.2.2.2.2.2.2 p hp,hpm p hp⟩) c.policies.l.length 0 b7 l7 _ (by omega) k3 (by simp only [am,List.drop_zero,cj]; omega);simp only [List.drop_zero] at n3
 have hfin:([]++[c.epoch,c.next,wrap .u64 c.hosts,wrap .u64 c.ways,(c.pods.l.length:Int)].flatMap bY++c.pods.l.flatMap uJ++[(c.services.l.length:Int)].flatMap bY++c.services.l.flatMap uK++[(c.bound.l.length:Int)].flatMap bY++c.bound.l.flatMap zY++[(c.policies.l.length:Int)].flatMap bY++c.policies.l.flatMap rM)=eO c:=by simp only [eO,List.nil_append,List.append_assoc]
 rw [hfin] at n3;have hne:eO c≠[]:=by
  simp [eO,Cs]
 generalize eO c=L at *;obtain ⟨l9,r1⟩:=Xp (E:=E) n3 hlen0 hne l8;have how:ownR ⟨b8++[.cells (L.map (iv .u8))],l9⟩ (.row b8.length 0 L.length none 1)=true:=by
  have hg:Hp.get ⟨b8++[.cells (L.map (iv .u8))],l9⟩ b8.length=some (L.map (iv .u8)):=by simp [get_eq]
  simp only [ownR,xy,pU,hg,List.all_map,ck];intro x _;rfl
 have hfz:=uz (h:=⟨b8++[.cells (L.map (iv .u8))],l9⟩) (k:=7) (b:=b8.length) (l:=L) (cap:=none) (by simp);simp at a1 m1 c1 d1 e1 i1 j1 k1 n1 r1 f1 g1 g3 g5 g7 g9;simp [aa,q94,m1,aC,w1,a1,f1];rw [aj];simp [c1,g1,w2,aC,d1,g3];rw [aj];simp [e1,g5,w3,aC,i1,g7];rw [aj];simp [j1,g9,w4,aC,k1,g11];rw [aj];simp [n1,r1,hfz,frz,iY,how]
theorem S94 (c:Cfg)(hc:c.wf big)(hpm:∀ p∈c.policies.l,bT p=true)(hlen:(eO c).length<=big)(h:Hp):Sm E TT ah 24 [c.v] h=some (.d (bytesD (eO c)),h):=bm8 h385 c hc hpm hlen h (by simp [Cfg.v])
def bG (c:Cfg):Bool:=eQ c&&tq c&&decide (((eO c).length:Int)<=8192)
theorem S41 (c:Cfg)(hc:c.wf 1048576)(hcb:c.wf big)(h:Hp):Sm E TT ah 6 [c.v] h=some (bl (bG c),h):=by
 have n1:=λh=>S92 (E:=E) c h;have n2:=λh=>S93 h385 c hc hcb h;rw [aN t41 v41];cases h1:eQ c with
 | false =>
  simp only [h1] at n1;simp +decide [aa,q41,n1,au,bG,h1]
 | true =>
  simp only [h1] at n1;cases h2:tq c with
  | false =>
   simp only [h2] at n2;simp +decide [aa,q41,n1,n2,au,bG,h1,h2]
  | true =>
   simp only [h2] at n2;have hle:=xK h1 h2;have hp:dW c=true:=by
    simp only [tq,aq] at h2;exact h2.2
   have n3:=λh=>S94 h385 c hcb (ic hp) (cg hle (by decide)) h;have hl:sZ false (.d (bytesD (eO c))) ⟨[.cells (c.c.map .d)],0⟩=some (.d (i64 (eO c).length),⟨[.cells (c.c.map .d)],0⟩):=by
    simp [bytesD]
   generalize hL:bytesD (eO c)=L at *;simp +decide [aa,q41,n1,n2,n3,hl,au,bG,h1,h2]
end
end
section
theorem jJ:∀ {l:List Int},aU l=true->l.Pairwise (·<·)
 | [],_=>.nil
 | [x],_=>by simp
 | x::y::l,h=>by
  simp only [aU,aq,br] at h;have ih:=jJ h.2;refine List.pairwise_cons.2 ⟨λz hz=>?_,ih⟩;obtain rfl | hz:=List.mem_cons.1 hz
  . exact h.1
  . exact Int.lt_trans h.1 ((List.pairwise_cons.1 ih).1 z hz)
theorem lT {l:List Int}(h:aU l=true):l.Nodup:=(jJ h).imp λh=>by omega
theorem xP:∀ {l pre:List Int},dup pre l=false->l.Nodup/\∀ x∈l,x ∉ pre
 | [],_,_=>⟨.nil,by simp⟩
 | x::l,pre,h=>by
  simp only [dup,Bool.or_eq_false_iff,List.any_eq_false,beq_iff_eq] at h;obtain ⟨h1,h2⟩:=h;obtain ⟨h3,h4⟩:=xP h2;have hx:x ∉ pre:=λhh=>h1 x hh rfl;refine ⟨List.nodup_cons.2 ⟨λhh=>?_,h3⟩,λy hy=>?_⟩
  . exact h4 x hh (by simp)
  . obtain rfl | hy:=List.mem_cons.1 hy
    . exact hx
    . exact λhh=>h4 y hy (by simp [hh])
end
section
section
variable {E:Calls'}{T:FuncId->Option QF}{val:FuncId->Bool}
theorem Gj {ev:X->V}{zero xs:List V}{z:Nat}{x:X}(h0:zero.length=z)(hx:xs.length=z)(he:ev x=.agg xs):aC ev zero [(0,z,x)]=some xs:=by
 simp [aC,he,V.cells,hx,put,h0]
theorem MG {α:Type}{cells:α->List D}{z b cl clos del idx idf wo wi g srt p:Nat}{zero:List V}{key:α->Int}(tcl:T cl=some (cloneQ z b zero))(vcl:val cl=false)(tdel:T del=some (delQ z idx zero))(vdel:val del=false)(tidx:T idx=some (idxQ z))(vidx:val idx=false)
 (tc:T clos=some (woCQ z)) (vc:val clos=false) (two:T wo=some (woQ cl clos del)) (vwo:val wo=false) (twi:T wi=some (wiQ z b wo g srt zero)) (vwi:val wi=true) (tsrt:T srt=none) (hE:∀ args h,E srt args h=fU ⟨z,p,g,idf⟩ args h)
 (hz:∀ x,(cells x).length=z) (hz0:0<z) (hzero:zero.length=z) (hb:b<=4096) (hkey:∀ x,(cells x)[p]?=some (.int .u64 (key x))) {s:Sl α} (hs:short s) (hl:s.l.length<big) (hnd:(s.l.map key).Nodup) {x:α}
 (hid:∀ e,e∈s.l\/e=x->∀ h,Sm E T val idf [ag (cells e)] h=some (.d (u64 (key e)),h)) (h:Hp) :
 Sm E T val wi [.d (s.d cells),ag (cells x),.fn idf []] h=some (.d (.slice false ((kY key x s.l).map cells)),h):=by
 rw [aN twi vwi];have hfr:frz h (.fn idf [])=some (.fn idf []):=rfl;have hix:=hid x (.inr rfl);obtain ⟨r,bs1,lo1,w,k1,k2,k3,k4⟩:=IY (E:=E) (T:=T) (val:=val) tcl vcl tdel vdel tidx vidx tc vc two vwo hz hz0 hzero hb hs (λe he=>hid e (.inl he)) (key x) ⟨[.cells ((cells x).map .d),.cells [.fn idf []]],2⟩;simp only [ch,cj] at k2 k3;have hfl:(s.l.filter λe=>!(key e==key x)).length<=s.l.length:=List.length_filter_le _ _;have hndK:((s.l.filter λe=>!(key e==key x)).map key).Nodup:=List.Pairwise.sublist (List.Sublist.map key List.filter_sublist) hnd;have hxK:∀ e∈s.l.filter (λe=>!(key e==key x)),key e≠key x:=λe he=>by simpa using (List.mem_filter.1 he).2
 have hput:kY key x s.l=((s.l.filter λe=>!(key e==key x))++[x]).mergeSort λa b=>decide (key a<=key b):=rfl;generalize s.l.filter (λe=>!(key e==key x))=K at *;generalize kY key x s.l=PL at *;have hw:∀ e∈K.map cells,e.length=z:=by simp; intro a _; exact hz a
 have hwp:∀ e∈PL.map cells,e.length=z:=by simp; intro a _; exact hz a
 have hndL:((K++[x]).map key).Nodup:=by
  rw [List.map_append,List.nodup_append];refine ⟨hndK,by simp,?_⟩;intro a ha b hb hab;obtain ⟨e,he,rfl⟩:=cb.1 ha;simp at hb;exact hxK e he (hab.trans hb)
 have hsrc:ai (bs1++[.cells ((cells x).map .d)]) bs1.length=some ((cells x).map .d):=by rw [eG]; rfl
 obtain ⟨B,cap,bs2,rest2,f,a1,a2,a3,a4⟩:=I7 (bs:=bs1++[.cells ((cells x).map .d)]) (by_:=b) (K:=K.map cells) (v:=r) (x:=cells x) hw (hz x) hz0 hb (by simp; omega) hsrc (c:=some 1) (m:=2) (by
  obtain ⟨q1,q2,q3⟩ | ⟨B,q1,q2,q3,q4⟩ | ⟨B,rest,q,q1,q2,q3,q4,q5⟩:=k4
  . exact .inl ⟨by rw [q2]; rfl,q3⟩
  . exact .inr (.inl ⟨B,by rw [q1]; rfl,by simpa using q2,q3,az q4⟩)
  . exact .inr (.inr ⟨B,rest,q,by simpa using q1,by simpa using q2,az q3,q4,by simpa using q5⟩)) (by simp; omega)
 have hc:ai bs2 1=some [.fn idf []]:=by
  simp only [ai];rw [a4 1 (by decide),al (by omega),k3 1 (by decide)]; rfl
 have hs':=λlo2=>yu (g:=g) (idf:=idf) hz hkey (L:=K++[x]) hndL (by simp) (by simp; simp only [big] at hl; omega) (h:=⟨bs2,lo2⟩) (b:=B) (c:=1) (cap:=cap) (rest:=rest2) (by simpa using a3) hc (by omega);rw [← hput] at hs';have hsm:∀ lo2,Sm E T val srt [.row B 0 (K.length+1) cap z,.fn g [.ptr 1 0]] ⟨bs2,lo2⟩=some (.tup [],⟨bs2.set B (.cells (flat (PL.map cells)++rest2)),min lo2 B⟩):=by
  intro lo2;rw [aL tsrt,hE];simpa using hs' lo2
 have hbl:=aI a3;have hpl:PL.length=K.length+1:=by rw [hput]; simp
 have hdv:=λlo2=>bz (h:=⟨bs2.set B (.cells (flat (PL.map cells)++rest2)),lo2⟩) (k:=7) (b:=B) (n:=K.length+1) (cap:=cap) (z:=z) (es:=PL.map cells) (rest:=rest2) hwp (by simp [hpl]) (by simp [ai,hbl]);have hf1:∀ {ev:X->V} {t:X},ev t=ag (cells x)->aC ev zero [(0,z,t)]=some ((cells x).map .d):=λhe=>Gj hzero (by simp [hz x]) he;have hne:PL.map cells≠[]:=λhh=>by have:=congrArg List.length hh; simp [hpl] at this
 have hsub:=rZ (hz x);have hb10:ai bs1 0=some ((cells x).map .d):=by simp only [ai]; rw [k3 0 (by decide)]; rfl
 simp only [bx] at a1;have hty:V.under 2 (.tup [])=true:=rfl;have hbs:bs1.length=2->bs1=[.cells ((cells x).map .d),.cells [.fn idf []]]:=λhh=>by
  refine List.ext_getElem? λi=>?_;obtain hi | hi:=cn i 2
  . exact k3 i hi
  . rw [bb (by omega),bb (by simpa using hi)]
 have hnu:nu r=some r:=by
  obtain ⟨q1,q2,q3⟩ | ⟨B,q1,q2,q3,q4⟩ | ⟨B,rest,q,q1,q2,q3,q4,q5⟩:=k4<;>rw [‹r=_›]<;>rfl
 have hap:∀ (pr:List (List Nat)) (N:Nat) (bl:Bl) (bg:Bool),pr=[[],[],[],[1,2],[],[0,4,3,1,2],[5,0,4,3,1,2],[6,5,0,4,3,1,2],[6,5,0,4,3,1,2],[7,6,5,0,4,3,1,2],[8,9,7,6,5,0,4,3,1,2]] →
  bv pr [⟨false,false,[],[],2,2,0⟩,⟨false,false,[1],[],2,2,0⟩,⟨false,false,[0],[],2,2,0⟩,⟨true,false,[],[],2,2,0⟩,⟨false,false,[1],[],2,2,0⟩,⟨true,bg,[],[],2,N,bl⟩,
   ⟨false,false,[],[],N,N,0⟩,⟨false,false,[],[],N,N,0⟩,⟨false,false,[],[],N,N,0⟩,⟨false,false,[],[],N,N,0⟩,⟨false,false,[],[],N,N,0⟩]=true:=by
  rintro pr N bl bg rfl;exact qd 5 (by rfl) (by simp [Tr.mute])
 have hpf:dn (.fn idf [])=true:=rfl;by_cases c1:2<=lo1
 . by_cases c2:bs1.length=2
   . have:=hbs c2;subst this;simp only [ch,cj,List.cons_append,List.nil_append] at a1;simp +decide [wiQ,aa,ay,ae,hfr,hix,k1,c1,hsub,hb10,hf1,a1,hsm,hdv,hnu,hpf]
   . simp +decide [wiQ,aa,ay,ae,hfr,hix,k1,c1,c2,hsub,hb10,hf1,a1,hsm,hdv,hnu,hap,hpf]
 . simp +decide [wiQ,aa,ay,ae,hfr,hix,k1,c1,hsub,hb10,hf1,a1,hsm,hdv,hnu,hap,hpf]
end
end
section
def Vt:List V:=[(.d (.int .u64 0)),(.d (.str ⟨#[]⟩)),(.d (.int .u32 0)),(.d (.int .i64 0)),(.d (.int .u64 0))]
def VI:List V:=[(.d (.int .u64 0)),(.d (.int .i64 0))]
def KC:List V:=[(.d (.int .u64 0)),(.d (.str ⟨#[]⟩)),(.d (.int .u64 0)),(.d (.int .i64 0)),(.d (.slice true []))]
def Fy:SF:=⟨7,0,253,91⟩
def FB:SF:=⟨5,0,170,94⟩
def FC:SF:=⟨2,0,175,101⟩
def Fz:SF:=⟨5,0,178,106⟩
def EW:Calls':=λf args h=>match Nat.beq f 187,Nat.beq f 169,Nat.beq f 174,Nat.beq f 177 with
 | true,_,_,_=>fU Fy args h
 | _,true,_,_=>fU FB args h
 | _,_,true,_=>fU FC args h
 | _,_,_,true=>fU Fz args h
 | _,_,_,_=>none
def dh0:List (Nat×QF):=[(165,YX),(93,YM),(100,YO),(105,cm7),(90,NY),(99,NZ),(104,N7),(107,Uf),(166,Un),(173,Uo),(176,Uq),(179,Ur),(84,BF),(85,BG),(86,BH),(87,BI),(125,G8),(127,Hg),(130,Hl),(132,Hm),(167,G6),(200,G7),(120,G9),(213,Hr),(91,Dn),(94,Dp),(101,Dq),(106,He)]
def TW:FuncId->Option QF:=gM dh0
def sj (f:FuncId):Bool:=[165,93,100,105].any λn=>Nat.beq n f
section
variable {E:Calls'}
theorem bo3 (p:Pod)(h:Hp):Sm E TW sj 91 [ag p.c] h=some (.d (u64 p.uid),h):=by rw [ax (q:=Dn) (by kernel_rfl) (by kernel_rfl)]; simp [aa,Dn,V.under]
theorem bo5 (p:Svc)(h:Hp):Sm E TW sj 94 [ag p.c] h=some (.d (u64 p.id),h):=by rw [ax (q:=Dp) (by kernel_rfl) (by kernel_rfl)]; simp [aa,Dp,V.under]
theorem bo7 (p:Way)(h:Hp):Sm E TW sj 101 [ag p.c] h=some (.d (u64 p.id),h):=by rw [ax (q:=Dq) (by kernel_rfl) (by kernel_rfl)]; simp [aa,Dq,V.under]
theorem bo9 (p:Pol)(h:Hp):Sm E TW sj 106 [ag p.c] h=some (.d (u64 p.id),h):=by rw [ax (q:=He) (by kernel_rfl) (by kernel_rfl)]; simp [aa,He,V.under]
end
theorem bp0 (s:Sl Pod)(hs:short s)(hl:s.l.length<big)(hnd:(s.l.map Pod.uid).Nodup)(x:Pod)(h:Hp):Sm EW TW sj 165 [.d (s.d Pod.c),ag x.c,.fn 91 []] h=some (.d (.slice false ((kY Pod.uid x s.l).map Pod.c)),h) :=
 MG (E:=EW) (T:=TW) (val:=sj) (cells:=Pod.c) (key:=Pod.uid) (z:=7) (b:=72) (cl:=84) (clos:=166) (del:=125) (idx:=167) (idf:=91) (wo:=90) (wi:=165) (g:=253) (srt:=187) (p:=0) (zero:=nU)
  (by kernel_rfl) (by kernel_rfl) (by kernel_rfl) (by kernel_rfl) (by kernel_rfl) (by kernel_rfl) (by kernel_rfl) (by kernel_rfl) (by kernel_rfl) (by kernel_rfl) (by kernel_rfl) (by kernel_rfl) (by kernel_rfl) (λ_ _=>rfl) (λ_=>rfl) (by decide) rfl (by decide) (λ_=>rfl) hs hl hnd (λe _ h=>bo3 e h) h
theorem bo4 (s:Sl Svc)(hs:short s)(hl:s.l.length<big)(hnd:(s.l.map Svc.id).Nodup)(x:Svc)(h:Hp):Sm EW TW sj 93 [.d (s.d Svc.c),ag x.c,.fn 94 []] h=some (.d (.slice false ((kY Svc.id x s.l).map Svc.c)),h) :=
 MG (E:=EW) (T:=TW) (val:=sj) (cells:=Svc.c) (key:=Svc.id) (z:=5) (b:=48) (cl:=85) (clos:=173) (del:=127) (idx:=200) (idf:=94) (wo:=99) (wi:=93) (g:=170) (srt:=169) (p:=0) (zero:=Vt)
  (by kernel_rfl) (by kernel_rfl) (by kernel_rfl) (by kernel_rfl) (by kernel_rfl) (by kernel_rfl) (by kernel_rfl) (by kernel_rfl) (by kernel_rfl) (by kernel_rfl) (by kernel_rfl) (by kernel_rfl) (by kernel_rfl) (λ_ _=>rfl) (λ_=>rfl) (by decide) rfl (by decide) (λ_=>rfl) hs hl hnd (λe _ h=>bo5 e h) h
theorem bo6 (s:Sl Way)(hs:short s)(hl:s.l.length<big)(hnd:(s.l.map Way.id).Nodup)(x:Way)(h:Hp):Sm EW TW sj 100 [.d (s.d Way.c),ag x.c,.fn 101 []] h=some (.d (.slice false ((kY Way.id x s.l).map Way.c)),h) :=
 MG (E:=EW) (T:=TW) (val:=sj) (cells:=Way.c) (key:=Way.id) (z:=2) (b:=16) (cl:=86) (clos:=176) (del:=130) (idx:=120) (idf:=101) (wo:=104) (wi:=100) (g:=175) (srt:=174) (p:=0) (zero:=VI)
  (by kernel_rfl) (by kernel_rfl) (by kernel_rfl) (by kernel_rfl) (by kernel_rfl) (by kernel_rfl) (by kernel_rfl) (by kernel_rfl) (by kernel_rfl) (by kernel_rfl) (by kernel_rfl) (by kernel_rfl) (by kernel_rfl) (λ_ _=>rfl) (λ_=>rfl) (by decide) rfl (by decide) (λ_=>rfl) hs hl hnd (λe _ h=>bo7 e h) h
theorem bo8 (s:Sl Pol)(hs:short s)(hl:s.l.length<big)(hnd:(s.l.map Pol.id).Nodup)(x:Pol)(h:Hp):Sm EW TW sj 105 [.d (s.d Pol.c),ag x.c,.fn 106 []] h=some (.d (.slice false ((kY Pol.id x s.l).map Pol.c)),h) :=
 MG (E:=EW) (T:=TW) (val:=sj) (cells:=Pol.c) (key:=Pol.id) (z:=5) (b:=64) (cl:=87) (clos:=179) (del:=132) (idx:=213) (idf:=106) (wo:=107) (wi:=105) (g:=178) (srt:=177) (p:=0) (zero:=KC)
  (by kernel_rfl) (by kernel_rfl) (by kernel_rfl) (by kernel_rfl) (by kernel_rfl) (by kernel_rfl) (by kernel_rfl) (by kernel_rfl) (by kernel_rfl) (by kernel_rfl) (by kernel_rfl) (by kernel_rfl) (by kernel_rfl) (λ_ _=>rfl) (λ_=>rfl) (by decide) rfl (by decide) (λ_=>rfl) hs hl hnd (λe _ h=>bo9 e h) h
end
section
structure Edt where
 kind:Int
 id:Int
 pod:Pod
 svc:Svc
 way:Way
 pol:Pol
def Edt.c (e:Edt):List D:=[i64 e.kind,u64 e.id]++e.pod.c++e.svc.c++e.way.c++e.pol.c
@[simp] theorem Edt.len {x:Edt}:x.c.length=21:=(rfl)
@[simp] theorem Edt.all {x:Edt}:sub x.c 0 21=some x.c:=(rfl)
@[simp] theorem Edt.s0_1 {x:Edt}:sub x.c 0 1=some [i64 x.kind]:=(rfl)
@[simp] theorem Edt.s1_1 {x:Edt}:sub x.c 1 1=some [u64 x.id]:=(rfl)
@[simp] theorem Edt.s2_7 {x:Edt}:sub x.c 2 7=some x.pod.c:=(rfl)
@[simp] theorem Edt.s9_5 {x:Edt}:sub x.c 9 5=some x.svc.c:=(rfl)
@[simp] theorem Edt.s14_2 {x:Edt}:sub x.c 14 2=some x.way.c:=(rfl)
@[simp] theorem Edt.s16_5 {x:Edt}:sub x.c 16 5=some x.pol.c:=(rfl)
@[simp] theorem Edt.s5_1 {x:Edt}:sub x.c 5 1=some [i64 x.pod.host]:=(rfl)
@[simp] theorem Edt.s6_1 {x:Edt}:sub x.c 6 1=some [u32 x.pod.addr]:=(rfl)
theorem Cfg.p0 {x:Cfg}{n:Int}:put (x.c.map V.d) 0 [.d (u64 n)]=some (({ x with epoch:=n }:Cfg).c.map V.d):=(rfl)
theorem Cfg.p1 {x:Cfg}{n:Int}:put (x.c.map V.d) 1 [.d (u64 n)]=some (({ x with next:=n }:Cfg).c.map V.d):=(rfl)
theorem Cfg.p4 {x:Cfg}{s:Sl Pod}:put (x.c.map V.d) 4 [.d (s.d Pod.c)]=some (({ x with pods:=s }:Cfg).c.map V.d):=(rfl)
theorem Cfg.p5 {x:Cfg}{s:Sl Svc}:put (x.c.map V.d) 5 [.d (s.d Svc.c)]=some (({ x with services:=s }:Cfg).c.map V.d):=(rfl)
theorem Cfg.p6 {x:Cfg}{s:Sl Way}:put (x.c.map V.d) 6 [.d (s.d Way.c)]=some (({ x with bound:=s }:Cfg).c.map V.d):=(rfl)
theorem Cfg.p7 {x:Cfg}{s:Sl Pol}:put (x.c.map V.d) 7 [.d (s.d Pol.c)]=some (({ x with policies:=s }:Cfg).c.map V.d):=(rfl)
theorem Pod.p0 {x:Pod}{n:Int}:put (x.c.map V.d) 0 [.d (u64 n)]=some (({ x with uid:=n }:Pod).c.map V.d):=(rfl)
theorem Pod.p3 {x:Pod}{n:Int}:put (x.c.map V.d) 3 [.d (i64 n)]=some (({ x with host:=n }:Pod).c.map V.d):=(rfl)
theorem Pod.p4 {x:Pod}{n:Int}:put (x.c.map V.d) 4 [.d (u32 n)]=some (({ x with addr:=n }:Pod).c.map V.d):=(rfl)
section
variable {E:Calls'}
def outT {α:Type}(key:α->Int)(n:Int)(s:Sl α):Sl α:=⟨s.nl,s.l.filter λe=>!(key e==n)⟩
def jQ {α:Type}(key:α->Int)(n:Int)(s:Sl α):Bool:=decide ((s.l.filter λe=>!(key e==n)).length<s.l.length)
theorem be6 (s:Sl Pod)(hs:short s)(n:Int)(h:Hp):Sm E TT ah 90 [.d (s.d Pod.c),.d (u64 n),.fn 91 []] h=some (.tup [.d ((outT Pod.uid n s).d Pod.c),bl (jQ Pod.uid n s)],h) :=
 qO (cells:=Pod.c) (key:=Pod.uid) (zero:=nU) ct5 dl2 t105 v105 Vv VD cw8 do5 cu6 dm3 (λ_=>rfl) (by decide) rfl (by decide) hs (λe _ h=>Xk e h) n h
theorem bf2 (s:Sl Svc)(hs:short s)(n:Int)(h:Hp):Sm E TT ah 99 [.d (s.d Svc.c),.d (u64 n),.fn 94 []] h=some (.tup [.d ((outT Svc.id n s).d Svc.c),bl (jQ Svc.id n s)],h) :=
 qO (cells:=Svc.c) (key:=Svc.id) (zero:=Vt) (b:=48) cu2 dl9 cw3 do0 Vx PO cx0 do6 t198 v198 (λ_=>rfl) (by decide) rfl (by decide) hs (λe _ h=>Xl e h) n h
theorem bf6 (s:Sl Way)(hs:short s)(n:Int)(h:Hp):Sm E TT ah 104 [.d (s.d Way.c),.d (u64 n),.fn 101 []] h=some (.tup [.d ((outT Way.id n s).d Way.c),bl (jQ Way.id n s)],h) :=
 qO (cells:=Way.c) (key:=Way.id) (zero:=VI) (b:=16) cu3 dm0 cw5 do2 t109 v109 cx1 do7 t203 v203 (λ_=>rfl) (by decide) rfl (by decide) hs (λe _ h=>Xm e h) n h
theorem bf8 (s:Sl Pol)(hs:short s)(n:Int)(h:Hp):Sm E TT ah 107 [.d (s.d Pol.c),.d (u64 n),.fn 106 []] h=some (.tup [.d ((outT Pol.id n s).d Pol.c),bl (jQ Pol.id n s)],h) :=
 qO (cells:=Pol.c) (key:=Pol.id) (zero:=KC) (b:=64) cu4 dm1 cw6 do3 ai7 VE cx2 do8 t206 v206 (λ_=>rfl) (by decide) rfl (by decide) hs (λe _ h=>Xn e h) n h
theorem be9 (p:Pod)(e:Edt)(x:Nat)(h:Hp)(hp:ai h.bs x=some (e.c.map .d)):Sm E TT ah 96 [ag p.c,.ptr x 0] h=some (bl (p.service==e.id),h):=by
 rw [ax cu8 dm5];simp [aa,Ua,az hp,V.under]
theorem bf1 (p:Pol)(e:Edt)(x:Nat)(h:Hp)(hp:ai h.bs x=some (e.c.map .d)):Sm E TT ah 98 [ag p.c,.ptr x 0] h=some (bl (p.service==e.id),h):=by
 rw [ax cu9 dm6];simp [aa,Uc,az hp,V.under]
theorem bf5 (p:Svc)(e:Edt)(x:Nat)(h:Hp)(hp:ai h.bs x=some (e.c.map .d)):Sm E TT ah 103 [ag p.c,.ptr x 0] h=some (bl (p.way==e.id),h):=by
 rw [ax cv1 dm8];simp [aa,Ue,az hp,V.under]
theorem dh3:TT 129=some (anyQ 167):=cw4
theorem u194:TT 95=some (someQ 129):=t194
theorem be8 (s:Sl Pod)(hs:short s)(e:Edt)(x:Nat)(h:Hp)(hp:ai h.bs x=some (e.c.map .d)):Sm E TT ah 95 [.d (s.d Pod.c),.fn 96 [.ptr x 0]] h=some (bl (s.l.any λp=>p.service==e.id),h) :=
 fG u194 v194 rfl rfl (gU Pod.c (z:=7) Vv VD dh3 do1 (RowIs.of (cells:=Pod.c) (λ_=>rfl) _) hs.lt λp _ lo=>be9 p e x _ hp)
theorem bf0 (s:Sl Pol)(hs:short s)(e:Edt)(x:Nat)(h:Hp)(hp:ai h.bs x=some (e.c.map .d)):Sm E TT ah 97 [.d (s.d Pol.c),.fn 98 [.ptr x 0]] h=some (bl (s.l.any λp=>p.service==e.id),h) :=
 fG u196 v196 rfl rfl (gU Pol.c (z:=5) ak1 VE aj9 ak5 (RowIs.of (cells:=Pol.c) (λ_=>rfl) _) hs.lt λp _ lo=>bf1 p e x _ hp)
theorem bf4 (s:Sl Svc)(hs:short s)(e:Edt)(x:Nat)(h:Hp)(hp:ai h.bs x=some (e.c.map .d)):Sm E TT ah 102 [.d (s.d Svc.c),.fn 103 [.ptr x 0]] h=some (bl (s.l.any λp=>p.way==e.id),h) :=
 fG u201 v201 rfl rfl (gU Svc.c (z:=5) aj2 PO aj6 ak4 (RowIs.of (cells:=Svc.c) (λ_=>rfl) _) hs.lt λp _ lo=>bf5 p e x _ hp)
end
end
section
theorem n289:TT 165=none:=by kernel_rfl
theorem n192:TT 93=none:=by kernel_rfl
theorem n199:TT 100=none:=by kernel_rfl
theorem n204:TT 105=none:=by kernel_rfl
def El (E:Calls'):Prop:=∀ f,f=165\/f=93\/f=100\/f=105->∀ args h,E f args h=Sm EW TW sj f args h
section
variable {E:Calls'}(hE:El E)
include hE
theorem bg9 (s:Sl Pod)(hs:short s)(hl:s.l.length<big)(hnd:(s.l.map Pod.uid).Nodup)(x:Pod)(h:Hp):Sm E TT ah 165 [.d (s.d Pod.c),ag x.c,.fn 91 []] h=some (.d ((⟨false,kY Pod.uid x s.l⟩:Sl Pod).d Pod.c),h):=by
 rw [aL n289,hE _ (.inl rfl)]; exact bp0 s hs hl hnd x h
theorem be7 (s:Sl Svc)(hs:short s)(hl:s.l.length<big)(hnd:(s.l.map Svc.id).Nodup)(x:Svc)(h:Hp):Sm E TT ah 93 [.d (s.d Svc.c),ag x.c,.fn 94 []] h=some (.d ((⟨false,kY Svc.id x s.l⟩:Sl Svc).d Svc.c),h):=by
 rw [aL n192,hE _ (.inr (.inl rfl))]; exact bo4 s hs hl hnd x h
theorem bf3 (s:Sl Way)(hs:short s)(hl:s.l.length<big)(hnd:(s.l.map Way.id).Nodup)(x:Way)(h:Hp):Sm E TT ah 100 [.d (s.d Way.c),ag x.c,.fn 101 []] h=some (.d ((⟨false,kY Way.id x s.l⟩:Sl Way).d Way.c),h):=by
 rw [aL n199,hE _ (.inr (.inr (.inl rfl)))]; exact bo6 s hs hl hnd x h
theorem bf7 (s:Sl Pol)(hs:short s)(hl:s.l.length<big)(hnd:(s.l.map Pol.id).Nodup)(x:Pol)(h:Hp):Sm E TT ah 105 [.d (s.d Pol.c),ag x.c,.fn 106 []] h=some (.d ((⟨false,kY Pol.id x s.l⟩:Sl Pol).d Pol.c),h):=by
 rw [aL n204,hE _ (.inr (.inr (.inr rfl)))]; exact bo8 s hs hl hnd x h
def Ga (c:Cfg)(p:Pod):Cfg:={ c with next:=wrap .u64 (c.next+1),pods:=⟨false,kY Pod.uid { p with uid:=c.next } c.pods.l⟩ }
def Open (c:Cfg):Prop:=c.pods.l.length<big/\(c.pods.l.map Pod.uid).Nodup/\c.services.l.length<big/\(c.services.l.map Svc.id).Nodup/\c.bound.l.length<big/\(c.bound.l.map Way.id).Nodup/\c.policies.l.length<big/\(c.policies.l.map Pol.id).Nodup
theorem Xj (c:Cfg)(hc:c.ok)(ho:Open c)(p:Pod)(b:Nat)(h:Hp)(hb:ai h.bs b=some (c.c.map .d)) :
 Sm E TT ah 89 [.ptr b 0,ag p.c] h=some (.tup [],⟨h.bs.set b (.cells ((Ga c p).c.map .d))++[.cells (({ p with uid:=c.next }:Pod).c.map .d)],min h.low b⟩):=by
 rw [ax cu5 dm2];have hbl:=aI hb;have n1:=λh=>bg9 hE c.pods hc.1 ho.1 ho.2.1 { p with uid:=c.next } h;have e1:V.d (u64 c.next)::(List.map V.d p.c).tail=({ p with uid:=c.next }:Pod).c.map V.d:=rfl;have f1:∀ (cs:List V) (x:Blk),ai ((h.bs++[x]).set b (.cells cs)) b=some cs:=λcs x=>by simp [ai,hbl,Nat.lt_succ_of_lt hbl]
 have f2:∀ (cs x:List V),ai ((h.bs++[Blk.cells x]).set b (.cells cs)) h.bs.length=some x:=λcs x=>by
  simp only [ai]; rw [ac (by omega)]; simp
 have f4:∀ (x c':Blk),(h.bs++[x]).set b c'=h.bs.set b c'++[x]:=λx c'=>List.set_append_left _ _ hbl;simp [aa,NW,az hb,e1,Cfg.p1,Cfg.p4,f1,f2,ay,ae,n1];rw [if_pos (qd 9 (by rfl) (by simp [Tr.mute]))];simp [f4];rw [if_neg (by omega),show min h.low (min h.bs.length b)=min h.low b by omega];rfl
end
end
section
def bR (c:Cfg)(e:Edt):Cfg×Int :=
 if e.kind=1 then (Ga c e.pod,0)
 else if e.kind=2 then ({ c with pods:=outT Pod.uid e.id c.pods },if jQ Pod.uid e.id c.pods then 0 else 4)
 else if e.kind=3 then match c.pods.l.find? (λp=>p.uid==e.id) with
  | some p=>(Ga { c with pods:=outT Pod.uid e.id c.pods } { p with host:=e.pod.host,addr:=e.pod.addr },0)
  | none=>(c,4)
 else if e.kind=4 then ({ c with services:=⟨false,kY Svc.id e.svc c.services.l⟩ },0)
 else if e.kind=5 then ({ c with services:=outT Svc.id e.id c.services },if jQ Svc.id e.id c.services then (if (c.pods.l.any λp=>p.service==e.id)||(c.policies.l.any λp=>p.service==e.id) then 5 else 0) else 4)
 else if e.kind=6 then ({ c with bound:=⟨false,kY Way.id e.way c.bound.l⟩ },0)
 else if e.kind=7 then ({ c with bound:=outT Way.id e.id c.bound },if jQ Way.id e.id c.bound then (if (c.services.l.any λp=>p.way==e.id) then 5 else 0) else 4)
 else if e.kind=8 then ({ c with policies:=⟨false,kY Pol.id e.pol.own c.policies.l⟩ },0)
 else if e.kind=9 then ({ c with policies:=outT Pol.id e.id c.policies },if jQ Pol.id e.id c.policies then 0 else 4)
 else (c,1)
section
variable {E:Calls'}(hE:El E)
include hE
theorem S91 (c:Cfg)(hc:c.ok)(ho:Open c)(e:Edt)(he:e.pol.fits big)(x0 x1 x2:List V)(lo:Nat) :
 ∃ ys lo',Sm E TT ah 32 [.ptr 3 0,ag e.c] ⟨[.cells x0,.cells x1,.cells x2,.cells (c.c.map .d)],lo⟩=some (.d (i64 (bR c e).2),⟨.cells x0::.cells x1::.cells x2::.cells ((bR c e).1.c.map .d)::ys,lo'⟩):=by
 have a189:=λbs lo h2=>Xj hE c hc ho e.pod 3 ⟨bs,lo⟩ h2;have a190:=λh=>be6 (E:=E) c.pods hc.1 e.id h;have a42:=λh=>S42 (E:=E) c hc e.id h;have a192:=λh=>be7 hE c.services hc.2.1 ho.2.2.1 ho.2.2.2.1 e.svc h;have a199:=λh=>bf3 hE c.bound hc.2.2.1 ho.2.2.2.2.1 ho.2.2.2.2.2.1 e.way h;have a204:=λh=>bf7 hE c.policies hc.2.2.2.1 ho.2.2.2.2.2.2.1 ho.2.2.2.2.2.2.2 e.pol.own h;have a113:=λh=>Q3 (E:=E) e.pol he h;have a198:=λh=>bf2 (E:=E) c.services hc.2.1 e.id h;have a203:=λh=>bf6 (E:=E) c.bound hc.2.2.1 e.id h;have a206:=λh=>bf8 (E:=E) c.policies hc.2.2.2.1 e.id h;have a194:=λh hp=>be8 (E:=E) c.pods hc.1 e 4 h hp;have a196:=λh hp=>bf0 (E:=E) c.policies hc.2.2.2.1 e 4 h hp;have a201:=λh hp=>bf4 (E:=E) c.services hc.2.1 e 4 h hp;rw [ax t91 v91];by_cases k1:e.kind=1
 . have:bR c e=(Ga c e.pod,0):=by simp [bR,k1]
   rw [this];simp +decide [aa,q91,k1,a189,V.under]
 by_cases k2:e.kind=2
 . have:bR c e=({ c with pods:=outT Pod.uid e.id c.pods },if jQ Pod.uid e.id c.pods then 0 else 4):=by simp [bR,k2]
   rw [this];cases hq:jQ Pod.uid e.id c.pods<;>simp +decide [aa,q91,k2,a190,hq,Cfg.p4,ay,ae,V.under]
 by_cases k3:e.kind=3
 . cases hf:c.pods.l.find? (λp=>p.uid==e.id) with
   | none =>
    have:bR c e=(c,4):=by simp [bR,k3,hf]
    rw [this];simp +decide [aa,q91,k3,a42,hf,ay,ae,V.under,pod0]
   | some p =>
    have:bR c e=(Ga { c with pods:=outT Pod.uid e.id c.pods } { p with host:=e.pod.host,addr:=e.pod.addr },0):=by simp [bR,k3,hf]
    rw [this];have hc':({ c with pods:=outT Pod.uid e.id c.pods }:Cfg).ok:=⟨⟨cg (List.length_filter_le _ _) hc.1.1,λhn=>by have:=hc.1.2 hn; simp [outT,this]⟩,hc.2⟩;have ho':Open { c with pods:=outT Pod.uid e.id c.pods }:=⟨cf (List.length_filter_le _ _) ho.1,List.Pairwise.sublist (List.Sublist.map _ List.filter_sublist) ho.2.1,ho.2.2⟩;have b189:=λbs lo h2=>Xj hE _ hc' ho' { p with host:=e.pod.host,addr:=e.pod.addr } 3 ⟨bs,lo⟩ h2;have e4:put (({ p with host:=e.pod.host }:Pod).c.map V.d) 4 [.d (u32 e.pod.addr)]=some (({ p with host:=e.pod.host,addr:=e.pod.addr }:Pod).c.map V.d):=rfl;simp +decide [aa,q91,k3,a42,hf,a190,b189,Pod.p3,e4,Cfg.p4,ay,ae,V.under]
 by_cases k4:e.kind=4
 . have:bR c e=({ c with services:=⟨false,kY Svc.id e.svc c.services.l⟩ },0):=by simp [bR,k4]
   rw [this];simp +decide [aa,q91,k4,a192,Cfg.p5,ay,ae,V.under]
 by_cases k5:e.kind=5
 . have:bR c e=({ c with services:=outT Svc.id e.id c.services },if jQ Svc.id e.id c.services then (if (c.pods.l.any λp=>p.service==e.id)||(c.policies.l.any λp=>p.service==e.id) then 5 else 0) else 4):=by simp [bR,k5]
   rw [this];generalize (c.pods.l.any λp=>p.service==e.id)=A1 at *;generalize (c.policies.l.any λp=>p.service==e.id)=A2 at *;cases hq:jQ Svc.id e.id c.services<;>cases A1<;>cases A2<;>simp +decide [aa,q91,k5,a198,a194,a196,hq,Cfg.p5,ay,ae,V.under,au]
 by_cases k6:e.kind=6
 . have:bR c e=({ c with bound:=⟨false,kY Way.id e.way c.bound.l⟩ },0):=by simp [bR,k6]
   rw [this];simp +decide [aa,q91,k6,a199,Cfg.p6,ay,ae,V.under]
 by_cases k7:e.kind=7
 . have:bR c e=({ c with bound:=outT Way.id e.id c.bound },if jQ Way.id e.id c.bound then (if (c.services.l.any λp=>p.way==e.id) then 5 else 0) else 4):=by simp [bR,k7]
   rw [this];generalize (c.services.l.any λp=>p.way==e.id)=A1 at *;cases hq:jQ Way.id e.id c.bound<;>cases A1<;>simp +decide [aa,q91,k7,a203,a201,hq,Cfg.p6,ay,ae,V.under]
 by_cases k8:e.kind=8
 . have:bR c e=({ c with policies:=⟨false,kY Pol.id e.pol.own c.policies.l⟩ },0):=by simp [bR,k8]
   rw [this];simp +decide [aa,q91,k8,a204,a113,Cfg.p7,ay,ae,V.under]
 by_cases k9:e.kind=9
 . have:bR c e=({ c with policies:=outT Pol.id e.id c.policies },if jQ Pol.id e.id c.policies then 0 else 4):=by simp [bR,k9]
   rw [this];cases hq:jQ Pol.id e.id c.policies<;>simp +decide [aa,q91,k9,a206,hq,Cfg.p7,ay,ae,V.under]
 have:bR c e=(c,1):=by simp [bR,k1,k2,k3,k4,k5,k6,k7,k8,k9]
 rw [this];simp +decide [aa,q91,k1,k2,k3,k4,k5,k6,k7,k8,k9,V.under]
end
end
section
noncomputable def EO:Calls':=λf args h=>Sm (λ_ _ _=>none) TT ah f args h
def dg4:List (Nat×QF):=[(31,q90),(84,BF),(85,BG),(86,BH),(87,BI)]
def TO:FuncId->Option QF:=gM dg4
def ul (f:FuncId):Bool:=[31,84,85,86].any λn=>Nat.beq n f
theorem cl0:TO 88=none:=by kernel_rfl
theorem be0 (p:Pol)(hp:p.fits big)(h:Hp):Sm EO TO ul 88 [ag p.c] h=some (ag p.own.c,h):=by
 rw [aL cl0]; exact Q3 p hp h
theorem L90 {l:List Pol}(hl:l.length<2 ^ 62)(hf:∀ p∈l,p.ok){bs0:List Blk}{b:Nat}(hb0:b<bs0.length)(hb1:b≠0){Co:List V}(hco:bs0[0]?=some (.cells Co))(hco7:sub Co 7 1=some [.row b 0 l.length none 5]):∀ (m i:Nat) (kept:List Pol) (bs:List Blk) (lo:Nat),i+m=l.length->kept.length=i->Thin Pol.c 5 l bs0 b kept bs →
 ∃ bs' lo',Cd EO TO ul (.loop [1,2,22,23,24] nN) [(1,.ptr 0 0),(2,.ptr 1 0),(22,.row b 0 l.length none 5),(23,.d (i64 l.length)),(24,.d (i64 i))] ⟨bs,lo⟩=some (.exit 0,[(1,.ptr 0 0),(2,.ptr 1 0)],⟨bs',lo'⟩) ∧
  Thin Pol.c 5 l bs0 b (kept++(l.drop i).map Pol.own) bs':=by
 intro m;have key:=ak (E:=EO) (T:=TO) (val:=ul) [1,2,22,23,24] nN;generalize Cd EO TO ul (.loop [1,2,22,23,24] nN)=W at key ⊢
 induction m with
 | zero =>
  intro i kept bs lo hi hk ht;have h0:l.drop i=[]:=ba (by omega);refine ⟨bs,lo,?_,by simpa [h0] using ht⟩;rw [key];simp [nN,show ¬ ((i:Int)<l.length) from by omega]
 | succ m ih =>
  intro i kept bs lo hi hk ht;have hlt:i<l.length:=by omega
  have hd:l.drop i=l[i]::l.drop (i+1):=aw hlt;have hcz:∀ x:Pol,(Pol.c x).length=5:=λ_=>rfl;have hread:=ht.read hcz (j:=i) (by omega) hlt;have hrow:=ht.row;have hfx:=hf _ (bh hlt);generalize l[i]=x at *;have hix:∀ bs lo,iB none 5 (.row b 0 l.length none 5) (.d (.int .i64 i)) ⟨bs,lo⟩=some (.ptr b (i * 5),⟨bs,lo⟩):=by
   intro bs lo; simp only [iB]; rw [if_pos ⟨by omega,by omega,trivial⟩]; simp
  have hw:=aA hlt hl;have hcall:=λh=>be0 x hfx h;have hput:put KC 0 (x.c.map V.d)=some (x.c.map .d):=rfl;have ht1:=ht.lay (.cells (x.c.map .d));obtain ⟨cs,hcs,ht2⟩:=ht1.keep hcz (e:=x.own) (by omega);rw [hk] at hcs;have hrow1:=ht1.row;rw [hk] at hrow hread hrow1;have hc0:ai (bs++[Blk.cells (x.c.map V.d)]) 0=some Co:=by
   simp only [ai];rw [ht1.old 0 (Ne.symm hb1) (by omega),hco]
  have hset:∀ lo,Hp.set ⟨bs++[Blk.cells (x.c.map V.d)],lo⟩ b cs=⟨(bs++[Blk.cells (x.c.map V.d)]).set b (Blk.cells cs),min lo b⟩:=λ_=>rfl;obtain ⟨bs',lo',k1,k2⟩:=ih (i+1) (kept++[x.own]) _ (min (min lo bs.length) b) (by omega) (by simp; omega) ht2;refine ⟨bs',lo',?_,by simpa [hd] using k2⟩;generalize hB:(bs++[Blk.cells (x.c.map .d)]).set b (Blk.cells cs)=B at *;rw [key];have hpz:KC=[(.d (.int .u64 0)),(.d (.str ⟨#[]⟩)),(.d (.int .u64 0)),(.d (.int .i64 0)),(.d (.slice true []))]:=rfl;rw [hpz] at hput;simp [nN,hix,ldv,hrow,hread,hput,hcall,hrow1,hcs,hset,hc0,hco7,ay,ae,show ((i:Int)<l.length) from by omega];rw [if_pos (qd 6 (by rfl) (by simp [Tr.mute]))];simp [hw];simpa using k1
def Cfg.own (c:Cfg):Cfg:={ c with policies:=⟨c.policies.nl,c.policies.l.map Pol.own⟩ }
def Cq (c:Cfg)(v:V):List V:=[.d (u64 c.epoch),.d (u64 c.next),.d (i64 c.hosts),.d (i64 c.ways),.d (c.pods.d Pod.c),.d (c.services.d Svc.c),.d (c.bound.d Way.c),v]
theorem O90 (c:Cfg)(hc:c.ok)(h:Hp):Sm EO TO ul 31 [c.v] h=some (c.own.v,h):=by
 have c1:=λh=>dE (E:=EO) (T:=TO) (val:=ul) (cells:=Pod.c) (id:=84) (z:=7) (b:=72) (zero:=nU) (by kernel_rfl) (by kernel_rfl) (by decide) (by decide) (λ_=>rfl) hc.1 h;have c2:=λh=>dE (E:=EO) (T:=TO) (val:=ul) (cells:=Svc.c) (id:=85) (z:=5) (b:=48) (zero:=Vt) (by kernel_rfl) (by kernel_rfl) (by decide) (by decide) (λ_=>rfl) hc.2.1 h;have c3:=λh=>dE (E:=EO) (T:=TO) (val:=ul) (cells:=Way.c) (id:=86) (z:=2) (b:=16) (zero:=VI) (by kernel_rfl) (by kernel_rfl) (by decide) (by decide) (λ_=>rfl) hc.2.2.1 h;have c4:=λh=>iO (E:=EO) (T:=TO) (val:=ul) (id:=87) (z:=5) (b:=64) (zero:=KC) (by kernel_rfl) (by kernel_rfl) (by decide) (by decide) (nl:=c.policies.nl) (es:=c.policies.l.map Pol.c) (by simp) (by simpa using hc.2.2.2.1.1) h;have hp4:put (c.c.map V.d) 4 [.d (c.pods.d Pod.c)]=some (c.c.map V.d):=rfl;have hp5:put (c.c.map V.d) 5 [.d (c.services.d Svc.c)]=some (c.c.map V.d):=rfl;have hp6:put (c.c.map V.d) 6 [.d (c.bound.d Way.c)]=some (c.c.map V.d):=rfl;have hp7:∀ v,put (c.c.map V.d) 7 [v]=some (Cq c v):=λ_=>rfl;have hs7:∀ v,sub (Cq c v) 7 1=some [v]:=λ_=>rfl;have hs8:∀ v,sub (Cq c v) 0 8=some (Cq c v):=λ_=>rfl;have hcl:∀ v,(Cq c v).length=8:=λ_=>rfl;have hpz:∀ v (z:List V),z.length=8->put z 0 (Cq c v)=some (Cq c v):=λv z hz=>by simp [put,hz,hcl]
 have hcv:∀ h v l,dataV h 8 v=some (.slice c.policies.nl l)->l=(c.policies.l.map Pol.own).map Pol.c->eZ h (Cq c v)=some c.own.c:=λh v l hv hl=>by
  subst hl;simp only [Cq,ut];simp only [eZ,List.mapM_cons,List.mapM_nil,hv];rfl
 rw [aN (q:=q90) (by kernel_rfl) (by kernel_rfl)];have key:=ak (E:=EO) (T:=TO) (val:=ul) [1,2,22,23,24] nN;cases hnl:c.policies.nl with
 | true =>
  have hl:=hc.2.2.2.1.2 hnl;have hd:c.policies.d Pol.c=.slice true []:=by simp [Sl.d,hnl,hl]
  rw [hnl,hl] at c4;simp [bH] at c4;have hv:=hcv ⟨[.cells (Cq c (.d (.slice true []))),.cells (Cq c (.d (.slice true [])))],0⟩ (.d (.slice true [])) [] (by rw [hnl]; rfl) (by rw [hl]; rfl);simp +decide [aa,q90,hd,c1,c2,c3,c4,hp4,hp5,hp6,hp7,hs7,ay,ae];rw [aj];simp;rw [key];simp [nN,hs8,hpz,hcl,hv]
 | false =>
  rw [hnl] at c4;cases hll:c.policies.l with
  | nil =>
   rw [hll] at c4;simp [bH] at c4;have hd:c.policies.d Pol.c=.slice false []:=by simp [Sl.d,hnl,hll]
   have hr:=bz (h:=⟨[.cells (Cq c (.row 2 0 0 (some 0) 5)),.cells (Cq c (.row 2 0 0 (some 0) 5)),.cells []],0⟩) (k:=7) (b:=2) (n:=0) (cap:=some 0) (es:=[]) (z:=5) (rest:=[]) (by simp) rfl rfl;have hv:=hcv ⟨[.cells (Cq c (.row 2 0 0 (some 0) 5)),.cells (Cq c (.row 2 0 0 (some 0) 5)),.cells []],0⟩ (.row 2 0 0 (some 0) 5) [] (by rw [hnl]; exact hr) (by rw [hll]; rfl);simp +decide [aa,q90,hd,c1,c2,c3,c4,hp4,hp5,hp6,hp7,hs7,ay,ae];rw [aj];simp;rw [key];simp [nN,hs8,hpz,hcl,hv]
  | cons p l' =>
   have hd:c.policies.d Pol.c=.slice false (c.policies.l.map Pol.c):=by simp [Sl.d,hnl]
   have hc2:∀ bs lo,bH 5 false (c.policies.l.map Pol.c) bs lo=(.row (bs.length+1) 0 c.policies.l.length none 5,⟨bs++[.cells [],.cells (flat (c.policies.l.map Pol.c))],lo⟩):=λbs lo=>by
    rw [hll]; simp [bH]
   simp only [hc2] at c4;have hf:∀ p∈c.policies.l,p.ok:=hc.2.2.2.2;have hlen:c.policies.l.length<2 ^ 62:=hc.2.2.2.1.lt;clear hll hc2;generalize hPL:c.policies.l=l at *;have hT:∀ R:Blk,Thin Pol.c 5 l [.cells (Cq c (.row 3 0 l.length none 5)),R,.cells [],.cells (flat (l.map Pol.c))] 3 [] [.cells (Cq c (.row 3 0 l.length none 5)),R,.cells [],.cells (flat (l.map Pol.c))]:=λR=>⟨bp _,λ_ _ _=>rfl,by simp⟩;obtain ⟨bs',lo',k1,k2⟩:=L90 hlen hf (b:=3) (by simp) (by decide) (Co:=Cq c (.row 3 0 l.length none 5)) rfl rfl l.length 0 [] _ 0 (by omega) rfl (hT (.cells [(.d (.int .u64 0)),(.d (.int .u64 0)),(.d (.int .i64 0)),(.d (.int .i64 0)),(.d (.slice true [])),(.d (.slice true [])),(.d (.slice true [])),(.d (.slice true []))]));simp only [List.nil_append,List.drop_zero] at k2;have g0:ai bs' 0=some (Cq c (.row 3 0 l.length none 5)):=by simp only [ai]; rw [k2.old 0 (by decide) (by simp)]; rfl
   have g1:ai bs' 1=some [(.d (.int .u64 0)),(.d (.int .u64 0)),(.d (.int .i64 0)),(.d (.int .i64 0)),(.d (.slice true [])),(.d (.slice true [])),(.d (.slice true [])),(.d (.slice true []))]:=by simp only [ai]; rw [k2.old 1 (by decide) (by simp)]; rfl
   have hl1:1<bs'.length:=aI g1;have g3:=k2.row;have gs0:∀ cs,ai (bs'.set 1 (.cells cs)) 1=some cs:=λcs=>by simp [ai,hl1]
   have hr:=λcs lo=>bz (h:=⟨bs'.set 1 (.cells cs),lo⟩) (k:=7) (b:=3) (n:=l.length) (cap:=none) (es:=(l.map Pol.own).map Pol.c) (z:=5) (rest:=[]) (by simp) (by simp) (by
    simp only [ai];rw [ac (by decide)];simp only [ai] at g3;rw [g3];simp;have hfl:=bu (cells:=Pol.c) (z:=5) (λ_=>rfl) l;rw [hfl]; exact bp _)
   have hv:=λcs lo=>hcv ⟨bs'.set 1 (.cells cs),lo⟩ (.row 3 0 l.length none 5) _ (by rw [hnl]; exact hr cs lo) rfl;simp +decide [aa,q90,hd,c1,c2,c3,c4,hp4,hp5,hp6,hp7,hs7,ay,ae];rw [aj];simp at k1;simp [k1,g0,g1,gs0,hs8,hpz,hcl,hv]
end
section
theorem sV {α:Type}{B:Nat}{l:List α}(h:l.length<=B):fit B ⟨l.isEmpty,l⟩:=⟨h,λhh=>by simpa using hh⟩
theorem Rule.own_wf {B:Nat}{r:Rule}(h:r.wf B):r.own.wf B:=⟨⟨sV h.1.1.1,h.1.2⟩,⟨sV h.2.1.1.1,h.2.1.2⟩,⟨sV h.2.2.1.1,h.2.2.2⟩⟩
theorem Pol.own_wf {B:Nat}{p:Pol}(h:p.wf B):p.own.wf B:=by
 refine ⟨h.1,h.2.1,h.2.2.1,h.2.2.2.1,⟨?_,λhh=>by simpa [Pol.own] using hh⟩,λx hx=>?_⟩
 . simp only [Pol.own,bx]; exact h.2.2.2.2.1.1
 . obtain ⟨r,hr,rfl⟩:=cb.1 hx;exact Rule.own_wf (h.2.2.2.2.2 r hr)
theorem Cfg.own_wf {B:Nat}{c:Cfg}(h:c.wf B):c.own.wf B:=by
 obtain ⟨h1,h2,h3,h4,h5,h6,h7,h8⟩:=h;refine ⟨h1,h2,h3,h4,h5,h6,h7,⟨?_,λhh=>?_⟩,λx hx=>?_⟩
 . simp only [Cfg.own,bx]; exact h8.1.1
 . simp only [Cfg.own] at hh ⊢; rw [h8.1.2 hh]; rfl
 . obtain ⟨p,hp,rfl⟩:=cb.1 hx;exact Pol.own_wf (h8.2 p hp)
theorem KI {α:Type}{key:α->Int}{x y:α}{l:List α}(h:y∈kY key x l):y=x\/y∈l/\key y≠key x:=by
 have:=(List.mergeSort_perm _ _).mem_iff.1 h;simp only [List.mem_append,List.mem_filter,List.mem_singleton] at this;obtain ⟨a,b⟩ | h:=this
 . exact .inr ⟨a,by simpa using b⟩
 . exact .inl h
theorem KG {α:Type}{key:α->Int}{x:α}{l:List α}:(kY key x l).length<=l.length+1:=by
 unfold kY;rw [List.length_mergeSort,am];have:=List.length_filter_le (λe=>!(key e==key x)) l;simp only [List.length_singleton]; omega
theorem zC {α:Type}{B:Nat}{f:Nat->α->Prop}{key:α->Int}{x:α}{s:Sl α}(h:s.wf B f)(hx:f B x)(hl:s.l.length+1<=B):(⟨false,kY key x s.l⟩:Sl α).wf B f :=
 ⟨⟨cg KG hl,λh=>by cases h⟩,λy hy=>by obtain rfl | h':=KI hy; exact hx; exact h.2 y h'.1⟩
theorem zA {α:Type}{B:Nat}{f:Nat->α->Prop}{key:α->Int}{n:Int}{s:Sl α}(h:s.wf B f):(outT key n s).wf B f :=
 ⟨⟨cg (List.length_filter_le _ _) h.1.1,λhn=>by have:=h.1.2 hn; simp [outT,this]⟩,λy hy=>h.2 y (List.mem_filter.1 hy).1⟩
def Edt.wf (B:Nat)(e:Edt):Prop:=Inr .i64 e.kind/\Inr .u64 e.id/\e.pod.wf B/\e.svc.wf B/\e.way.wf B/\e.pol.wf B
theorem uT (n:Int):Inr .u64 (wrap .u64 n):=by
 simp only [Inr,wrap,IntKind.bits,IntKind.signed,Bool.false_and,bm,if_false];simp [Lit.wf,IntKind.min,IntKind.max,IntKind.bits,IntKind.signed] at *;omega
theorem Em {B:Nat}{c:Cfg}{p:Pod}(h:c.wf B)(hp:p.wf B)(hl:c.pods.l.length+1<=B):(Ga c p).wf B :=
 ⟨h.1,uT _,h.2.2.1,h.2.2.2.1,zC h.2.2.2.2.1 ⟨h.2.1,hp.2⟩ hl,h.2.2.2.2.2⟩
theorem uh {c:Cfg}(h:eQ c=true):c.pods.l.length<=16/\c.services.l.length<=6/\c.bound.l.length<=4/\c.policies.l.length<=12:=by
 simp only [eQ,aq,br] at h;omega
theorem vL {B:Nat}{c:Cfg}{e:Edt}(h:c.wf B)(he:e.wf B)(hB:17<=B)(hs:eQ c=true):(bR c e).1.wf B:=by
 obtain ⟨l1,l2,l3,l4⟩:=uh hs;obtain ⟨e1,e2,e3,e4,e5,e6⟩:=he;have ho:∀ n,({ c with pods:=outT Pod.uid n c.pods }:Cfg).wf B:=λn=>⟨h.1,h.2.1,h.2.2.1,h.2.2.2.1,zA h.2.2.2.2.1,h.2.2.2.2.2⟩;unfold bR;split
 . exact Em h e3 (by omega)
 split
 . exact ho _
 split
 . split
   . rename_i p hp;have hpw:=h.2.2.2.2.1.2 p (List.mem_of_find?_eq_some hp);refine Em (ho _) ⟨hpw.1,hpw.2.1,hpw.2.2.1,e3.2.2.2.1,e3.2.2.2.2.1,hpw.2.2.2.2.2⟩ ?_;have:=List.length_filter_le (λx=>!(Pod.uid x==e.id)) c.pods.l;simp only [outT]; omega
   . exact h
 split
 . exact ⟨h.1,h.2.1,h.2.2.1,h.2.2.2.1,h.2.2.2.2.1,zC h.2.2.2.2.2.1 e4 (by omega),h.2.2.2.2.2.2⟩
 split
 . exact ⟨h.1,h.2.1,h.2.2.1,h.2.2.2.1,h.2.2.2.2.1,zA h.2.2.2.2.2.1,h.2.2.2.2.2.2⟩
 split
 . exact ⟨h.1,h.2.1,h.2.2.1,h.2.2.2.1,h.2.2.2.2.1,h.2.2.2.2.2.1,zC h.2.2.2.2.2.2.1 e5 (by omega),h.2.2.2.2.2.2.2⟩
 split
 . exact ⟨h.1,h.2.1,h.2.2.1,h.2.2.2.1,h.2.2.2.2.1,h.2.2.2.2.2.1,zA h.2.2.2.2.2.2.1,h.2.2.2.2.2.2.2⟩
 split
 . exact ⟨h.1,h.2.1,h.2.2.1,h.2.2.2.1,h.2.2.2.2.1,h.2.2.2.2.2.1,h.2.2.2.2.2.2.1,zC h.2.2.2.2.2.2.2 (Pol.own_wf e6) (by omega)⟩
 split
 . exact ⟨h.1,h.2.1,h.2.2.1,h.2.2.2.1,h.2.2.2.2.1,h.2.2.2.2.2.1,h.2.2.2.2.2.2.1,zA h.2.2.2.2.2.2.2⟩
 . exact h
def cfg0:Cfg:=⟨0,0,0,0,⟨true,[]⟩,⟨true,[]⟩,⟨true,[]⟩,⟨true,[]⟩⟩
def oI (c d:Cfg):Bool:=decide (c.epoch>=4611686018427387903)||decide (d.next>4611686018427387904)||!eQ d
def iJ (d:Cfg):Cfg:={ d with epoch:=wrap .u64 (d.epoch+1) }
def eY (c:Cfg)(e:Edt):Cfg×Int :=
 if bG c=false then (cfg0,1)
 else if (bR c.own e).2≠0 then (cfg0,(bR c.own e).2)
 else if oI c (bR c.own e).1=true then (cfg0,3)
 else if tq (iJ (bR c.own e).1)=false then (cfg0,1)
 else if (eO (iJ (bR c.own e).1)).length>8192 then (cfg0,6)
 else (iJ (bR c.own e).1,0)
section
variable {E:Calls'}(hE:El E)(h385:∀ t:Target,t.wf big->∀ h,E 294 [ag t.c] h=some (bl (aZ t),h))(h90:∀ args h,E 31 args h=Sm EO TO ul 31 args h)
include hE h385 h90
omit hE h385 in
theorem S90 (c:Cfg)(hc:c.ok)(h:Hp):Sm E TT ah 31 [c.v] h=some (c.own.v,h):=by
 rw [aL (by kernel_rfl),h90]; exact O90 c hc h
omit hE h385 h90 in
theorem IK {c:Cfg}(h:bG c=true):Open c.own:=by
 have hf:=h;simp only [bG,aq] at hf;have hm:=hf.1.2;obtain ⟨l1,l2,l3,l4⟩:=uh hf.1.1;simp only [tq,aq,lu,fE,mr,dW] at hm;refine ⟨cf l1 (by decide),lT hm.1.1.1.1.2.2,cf l2 (by decide),lT hm.1.1.1.2.2,cf l3 (by decide),lT hm.1.2.2,?_,?_⟩
 . simp only [Cfg.own,bx]; exact cf l4 (by decide)
 . have:c.own.policies.l.map Pol.id=c.policies.l.map Pol.id:=by simp [Cfg.own,Pol.own]
   rw [this]; exact lT hm.2.2
theorem S36 (c:Cfg)(hc:c.wf 1048576)(hcb:c.wf big)(e:Edt)(he:e.wf 1048576)(heb:e.wf big)(h:Hp):Sm E TT ah 11 [c.v,ag e.c] h=some (.tup [ag (eY c e).1.c,.d (i64 (eY c e).2)],h):=by
 have n41:=λh=>S41 h385 c hc hcb h;rw [aN t36 v36];cases hm:bG c with
 | false =>
  simp only [hm] at n41;have:eY c e=(cfg0,1):=by simp [eY,hm]
  rw [this];simp +decide [aa,q36,n41,cfg0];rfl
 | true =>
  simp only [hm] at n41;have hsm:eQ c.own=true:=by
   simp only [bG,aq] at hm;have hso:eQ c.own=eQ c:=by unfold eQ; simp only [Cfg.own,bx]; rfl
   rw [hso]; exact hm.1.1
  have hok:=hc.ok (by decide);have n90:=λh=>S90 h90 c hok h;have ho:=IK hm;obtain ⟨ys,lo',n91⟩:=S91 hE c.own (Cfg.own_wf hcb |>.ok (bp _)) ho e (heb.2.2.2.2.2.fits) (c.c.map .d) (e.c.map .d) [(.d (.int .u64 0)),(.d (.int .u64 0)),(.d (.int .i64 0)),(.d (.int .i64 0)),(.d (.slice true [])),(.d (.slice true [])),(.d (.slice true [])),(.d (.slice true []))] 0;have w1:=vL (Cfg.own_wf hc) he (by decide) hsm;have w2:=vL (Cfg.own_wf hcb) heb (by decide) hsm;have hA:eY c e=(if (bR c.own e).2≠0 then (cfg0,(bR c.own e).2)
   else if oI c (bR c.own e).1=true then (cfg0,3)
   else if tq (iJ (bR c.own e).1)=false then (cfg0,1)
   else if (eO (iJ (bR c.own e).1)).length>8192 then (cfg0,6)
   else (iJ (bR c.own e).1,0)):=by simp [eY,hm]
  rw [hA];clear hA;generalize hd:(bR c.own e).1=d at *;generalize hf:(bR c.own e).2=f at *;have n92:=λh=>S92 (E:=E) d h;have wn1:(iJ d).wf 1048576:=⟨uT _,w1.2⟩;have wn2:(iJ d).wf big:=⟨uT _,w2.2⟩;have n93:=λh=>S93 h385 (iJ d) wn1 wn2 h;have hnx:put (d.c.map V.d) 0 [.d (.int .u64 (wrap .u64 (d.epoch+1)))]=some ((iJ d).c.map V.d):=rfl;have hz:ag [(.int .u64 0),(.int .u64 0),(.int .i64 0),(.int .i64 0),(.slice true []),(.slice true []),(.slice true []),(.slice true [])]=ag cfg0.c:=rfl;by_cases k1:f=0
  case neg =>
   by_cases a1:c.epoch>=4611686018427387903
   . simp +decide [aa,q36,n41,n90,n91,k1,hnx,a1,au,hz]
   . by_cases a2:d.next>4611686018427387904
     . simp +decide [aa,q36,n41,n90,n91,k1,hnx,a1,a2,au,hz]
     . simp +decide [aa,q36,n41,n90,n91,n92,k1,hnx,a1,a2,au,hz]
  subst k1;by_cases a1:c.epoch>=4611686018427387903
  . have hfu:oI c d=true:=by simp [oI,a1]
    simp +decide [aa,q36,n41,n90,n91,hfu,hnx,a1,au,hz]
  by_cases a2:d.next>4611686018427387904
  . have hfu:oI c d=true:=by simp [oI,a1,a2]
    simp +decide [aa,q36,n41,n90,n91,hfu,hnx,a1,a2,au,hz]
  cases a3:eQ d with
  | false =>
   simp only [a3] at n92;have hfu:oI c d=true:=by simp [oI,a1,a2,a3]
   simp +decide [aa,q36,n41,n90,n91,n92,hfu,hnx,a1,a2,au,hz]
  | true =>
   simp only [a3] at n92;have hfu:oI c d=false:=by simp [oI,a1,a2,a3]
   cases a4:tq (iJ d) with
   | false =>
    simp only [a4] at n93;simp +decide [aa,q36,n41,n90,n91,n92,n93,hfu,hnx,a1,a2,au,hz]
   | true =>
    simp only [a4] at n93;have a3':eQ (iJ d)=true:=a3;have hle:=xK a3' a4;have hp:dW (iJ d)=true:=by
     simp only [tq,aq] at a4;exact a4.2
    have n94:=λh=>S94 h385 (iJ d) wn2 (ic hp) (cg hle (by decide)) h;have hl:∀ h,sZ false (.d (bytesD (eO (iJ d)))) h=some (.d (i64 (eO (iJ d)).length),h):=λh=>by
     simp [bytesD]
    generalize hL:bytesD (eO (iJ d))=L at *;generalize (eO (iJ d)).length=k at *;by_cases a5:k>8192
    . have a5':((k:Int)>8192):=by omega
      simp +decide [aa,q36,n41,n90,n91,n92,n93,n94,hl,hfu,hnx,a1,a2,a5,a5',au,hz]
    . have a5':¬ ((k:Int)>8192):=by omega
      simp +decide [aa,q36,n41,n90,n91,n92,n93,n94,hl,hfu,hnx,a1,a2,a5,a5',au]
end
end
section
def Be (e:Edt):Cfg:=⟨0,0,0,0,⟨false,[e.pod]⟩,⟨false,[e.svc]⟩,⟨true,[]⟩,⟨false,[e.pol]⟩⟩
section
variable {E:Calls'}(h385:∀ t:Target,t.wf big->∀ h,E 294 [ag t.c] h=some (bl (aZ t),h))
theorem uH {h:Hp}{k b o n z:Nat}{cap:Option Nat}{d:D}(hd:dataV h (k+1) (.row b o n cap z)=some d):∃ l,d=.slice false l:=by
 simp only [dataV] at hd;split at hd
 . split at hd
   . split at hd
     . cases hd; exact ⟨_,rfl⟩
     . cases hd
   . cases hd
 . cases hd
theorem JN {h:Hp}{r:V}{b:Bool}(hr:frz h r=some (bl b)):r=bl b:=by
 cases r with
 | d x=>simpa using hr
 | row b' o n cap z =>
  exfalso;simp only [frz,iY] at hr;cases hd:dataV h 8 (.row b' o n cap z) with
  | none=>rw [hd] at hr; cases hr
  | some d =>
   rw [hd] at hr;obtain ⟨l,rfl⟩:=uH hd;cases hr
 | ptr b' o=>simp [frz,iY,dataV] at hr
 | eptr cs o=>simp [frz,iY,dataV] at hr
 | undef=>simp [frz,iY] at hr
 | fn f cs=>cases cs<;>simp [frz,iY] at hr
 | mfn f cs=>simp [frz,iY,dataV] at hr
 | agg cs =>
  simp only [frz,iY] at hr;split at hr<;>cases hr
 | tup vs =>
  simp only [frz] at hr;split at hr<;>cases hr
theorem PP {T:FuncId->Option QF}{val:FuncId->Bool}{f:FuncId}{q:QF}(ht:T f=some q)(hv:val f=true){l:List D}{b:Bool}(h0:∀ h,Sm E T val f [ag l] h=some (bl b,h)){a:V}{h:Hp}(ha:frz h a=some (ag l)):Sm E T val f [a] h=some (bl b,h):=by
 have h1:=h0 h;rw [aN ht hv] at h1 ⊢;simp only [List.mapM_cons,List.mapM_nil,JM,ha,Option.pure_def,Option.bind_eq_bind,Option.bind_some,w9,Iy] at h1 ⊢;cases hB:Bd E T val q [ag l] ⟨[],0⟩ with
 | none=>rw [hB] at h1; cases h1
 | some p =>
  obtain ⟨r,h'⟩:=p;rw [hB] at h1;simp only [LZ] at h1 ⊢;cases hr:frz h' r with
  | none=>rw [hr] at h1; cases h1
  | some r' =>
   rw [hr] at h1;have e1:r'=bl b:=by
    simp at h1; exact h1
   subst e1;have:=JN hr;subst this;simp [ownR,xy,pU]
theorem S32 (e:Edt)(he:e.wf big):∃ b:Bool,∀ h,Sm E TT ah 10 [ag e.c] h=some (bl b,h):=by
 have hf:(Be e).ok:=⟨⟨(by decide:1<=big),λh=>by cases h⟩,⟨(by decide:1<=big),λh=>by cases h⟩,⟨(by decide:0<=big),λ_=>rfl⟩,⟨(by decide:1<=big),λh=>by cases h⟩,by simp [Be]; exact he.2.2.2.2.2.fits⟩;obtain ⟨b,hb⟩:=S31 (E:=E) (Be e) hf;refine ⟨b,λh=>?_⟩;rw [aN t32 v32];have hp:=bz (h:=⟨[.cells (e.c.map .d),.cells (e.pod.c.map .d),.cells (e.svc.c.map .d),.cells (e.pol.c.map .d)],0⟩) (k:=7) (b:=1) (n:=1) (cap:=some 1) (es:=[e.pod.c]) (z:=7) (rest:=[]) (by simp) rfl (by simp [flat]);have hs:=bz (h:=⟨[.cells (e.c.map .d),.cells (e.pod.c.map .d),.cells (e.svc.c.map .d),.cells (e.pol.c.map .d)],0⟩) (k:=7) (b:=2) (n:=1) (cap:=some 1) (es:=[e.svc.c]) (z:=5) (rest:=[]) (by simp) rfl (by simp [flat]);have hq:=bz (h:=⟨[.cells (e.c.map .d),.cells (e.pod.c.map .d),.cells (e.svc.c.map .d),.cells (e.pol.c.map .d)],0⟩) (k:=7) (b:=3) (n:=1) (cap:=some 1) (es:=[e.pol.c]) (z:=5) (rest:=[]) (by simp) rfl (by simp [flat]);have hfz:frz ⟨[.cells (e.c.map .d),.cells (e.pod.c.map .d),.cells (e.svc.c.map .d),.cells (e.pol.c.map .d)],0⟩ (.agg [.d (.int .u64 0),.d (.int .u64 0),.d (.int .i64 0),.d (.int .i64 0),.row 1 0 1 (some 1) 7,.row 2 0 1 (some 1) 5,.d (.slice true []),.row 3 0 1 (some 1) 5])=some (ag (Be e).c):=by
  simp only [AP,eZ,List.mapM_cons,List.mapM_nil,hp,hs,hq];rfl
 have n31:=PP (E:=E) t31 v31 (l:=(Be e).c) hb hfz;simp +decide [aa,q32,aC,n31]
end
end
