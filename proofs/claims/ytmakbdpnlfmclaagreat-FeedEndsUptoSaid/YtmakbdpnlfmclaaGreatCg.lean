/- config.pods. -/
import Derived.Test.YtmakbdpnlfmclaaGreatSi
import Derived.KernelRfl
set_option maxRecDepth 100000
set_option linter.unusedVariables false
set_option linter.unusedSimpArgs false
namespace Go.Proofs.YtmakbdpnlfmclaaGreat
open IntKind (wrap)
section
variable {E:Calls'}
theorem Xk (p:Pod)(h:Hp):Sm E TT ah 91 [ag p.c] h=some (.d (u64 p.uid),h):=by rw [aN cu7 dm4]; simp [aa,Dn]
theorem Xl (p:Svc)(h:Hp):Sm E TT ah 94 [ag p.c] h=some (.d (u64 p.id),h):=by rw [aN t193 v193]; simp [aa,Dp]
theorem Xm (p:Way)(h:Hp):Sm E TT ah 101 [ag p.c] h=some (.d (u64 p.id),h):=by rw [aN cv0 dm7]; simp [aa,Dq]
theorem Xn (p:Pol)(h:Hp):Sm E TT ah 106 [ag p.c] h=some (.d (u64 p.id),h):=by rw [aN cv2 dm9]; simp [aa,He]
theorem dh4:TT 142=some (risQ 7):=cx5
theorem dh5:TT 148=some (risQ 5):=cy1
theorem dh6:TT 150=some (risQ 2):=cy3
theorem dh7:TT 153=some (risQ 5):=cy5
theorem bh2 (s:Sl Pod)(hs:short s)(h:Hp):Sm E TT ah 142 [.d (s.d Pod.c),.fn 91 []] h=some (bl (aU (s.l.map Pod.uid)),h):=uO dh4 dp1 (λ_=>rfl) hs.lt (λe _ h=>Xk e h) h
theorem bh7 (s:Sl Svc)(hs:short s)(h:Hp):Sm E TT ah 148 [.d (s.d Svc.c),.fn 94 []] h=some (bl (aU (s.l.map Svc.id)),h):=uO dh5 dp6 (λ_=>rfl) hs.lt (λe _ h=>Xl e h) h
theorem bh9 (s:Sl Way)(hs:short s)(h:Hp):Sm E TT ah 150 [.d (s.d Way.c),.fn 101 []] h=some (bl (aU (s.l.map Way.id)),h):=uO dh6 dp8 (λ_=>rfl) hs.lt (λe _ h=>Xm e h) h
theorem bi1 (s:Sl Pol)(hs:short s)(h:Hp):Sm E TT ah 153 [.d (s.d Pol.c),.fn 106 []] h=some (bl (aU (s.l.map Pol.id)),h):=uO dh7 dq0 (λ_=>rfl) hs.lt (λe _ h=>Xn e h) h
def Cj (c:Cfg)(n:Int):Option Svc:=c.services.l.find? λp=>p.id==n
theorem Qb (c:Cfg)(hc:c.ok)(n:Int)(h:Hp):Sm E TT ah 119 [c.v,.d (u64 n)] h=some (.tup (match Cj c n with | some p=>[p.v,bl true] | none=>[svc0.v,bl false]),h):=Xe c hc n h
def dK (c:Cfg)(p:Pod):Bool:=decide (p.uid<10)||(decide (p.uid>=c.next)||!(bU p.ns&&bU p.sa))
def dL (c:Cfg)(p:Pod):Bool:=decide (p.host<2)||(decide (p.host>wrap .i64 (c.hosts+1))||!ig p.port)
def eH (c:Cfg)(p:Pod):Bool:=!(p.service==0)&&(match Cj c p.service with | some s=>!eqS s.ns p.ns | none=>true)
def dJ (c:Cfg)(p:Pod):Bool:=dK c p||(dL c p||eH c p)
theorem cj0 (p:Pod)(hp:p.wf big)(h:Hp):Sm E TT ah 140 [.agg [.d (.str p.ns),.d (.str p.sa)]] h=some (bl (bU p.ns&&bU p.sa),h):=bh0 p.ns p.sa hp.2.1 hp.2.2.1 h
theorem Yk (n:Int)(h:Hp):Sm E TT ah 141 [.d (i64 n)] h=some (bl (ig n),h):=Xt n h
theorem bd1 (c:Cfg)(hc:c.wf big):∀ (m i:Nat) (bs:List Blk),i+m=c.pods.l.length->ai bs 0=some (c.c.map .d) →
 ∃ ys,Cd E TT ah (.loop [1,8,9,10] df) [(1,.ptr 0 0),(8,.d (c.pods.d Pod.c)),(9,.d (i64 c.pods.l.length)),(10,.d (i64 i))] ⟨bs,0⟩ =
  cond ((c.pods.l.drop i).any (dJ c)) (some (.ret,[(2,bl false)],⟨bs++ys,0⟩)) (some (.exit 0,[(1,.ptr 0 0)],⟨bs++ys,0⟩)):=by
 have hok:=hc.ok (bp _);have hlt:=hok.1.lt;intro m;have key:=ak (E:=E) (T:=TT) (val:=ah) [1,8,9,10] df;generalize Cd E TT ah (.loop [1,8,9,10] df)=W at key ⊢
 induction m with
 | zero =>
  intro i bs hi hb;refine ⟨[],?_⟩;rw [key,ba (by omega)];simp [df,show ¬ ((i:Int)<c.pods.l.length) from by omega]
 | succ m ih =>
  intro i bs hi hb;have h1:i<c.pods.l.length:=by omega
  have hx:=λh=>aK (z:=7) h (ab h1) (cells:=Pod.c) rfl;have hw:=aA h1 hlt;have hp:=hc.2.2.2.2.1.2 _ (bh h1);rw [key,aw h1];generalize c.pods.l[i]=p at *;have n1:=λh=>cj0 (E:=E) p hp h;have n2:=λh=>Yk (E:=E) p.port h;have n3:=λh=>Qb (E:=E) c hok p.service h;have hb2:=λys=>az (ys:=ys) hb;have h0:((i:Int)<c.pods.l.length):=by omega
  simp only [List.any_cons];cases hsv:Cj c p.service with
  | none =>
   simp only [hsv] at n3;obtain ⟨ys,q⟩:=ih (i+1) (bs++[.cells (p.c.map .d),.cells (svc0.c.map .d)]) (by omega) (hb2 _);generalize (List.drop (i+1) c.pods.l).any (dJ c)=R at q ⊢;generalize hnm:(bU p.ns&&bU p.sa)=nm at n1;generalize hpt:ig p.port=pt at n2;by_cases a1:p.uid<10
   case pos=>exact ⟨_,by simp +decide [df,hb2,hx,n3,h0,dJ,dK,dL,eH,hsv,a1]; rfl⟩
   by_cases a2:p.uid>=c.next
   case pos=>exact ⟨_,by simp +decide [df,hb2,hx,n3,h0,dJ,dK,dL,eH,hsv,a1,a2]; rfl⟩
   cases nm
   case false=>exact ⟨_,by simp +decide [df,hb2,hx,n1,n3,h0,dJ,dK,dL,eH,hsv,a1,a2,hnm]; rfl⟩
   by_cases b1:p.host<2
   case pos=>exact ⟨_,by simp +decide [df,hb2,hx,n1,n3,h0,dJ,dK,dL,eH,hsv,a1,a2,hnm,b1]; rfl⟩
   by_cases b2:p.host>wrap .i64 (c.hosts+1)
   case pos=>exact ⟨_,by simp +decide [df,hb2,hx,n1,n3,h0,dJ,dK,dL,eH,hsv,a1,a2,hnm,b1,b2]; rfl⟩
   cases pt
   case false=>exact ⟨_,by simp +decide [df,hb2,hx,n1,n2,n3,h0,dJ,dK,dL,eH,hsv,a1,a2,hnm,b1,b2,hpt]; rfl⟩
   by_cases c1:p.service=0
   case pos =>
    have n4:=n3;rw [c1] at n4;refine ⟨[.cells (p.c.map .d),.cells (svc0.c.map .d)]++ys,?_⟩;simp +decide [n4,df,hb2,hx,n1,n2,h0,dJ,dK,dL,eH,a1,a2,hnm,b1,b2,hpt,c1,hw];simpa using q
   exact ⟨_,by simp +decide [df,hb2,hx,n1,n2,n3,h0,dJ,dK,dL,eH,hsv,a1,a2,hnm,b1,b2,hpt,c1]; rfl⟩
  | some s =>
   simp only [hsv] at n3;obtain ⟨ys,q⟩:=ih (i+1) (bs++[.cells (p.c.map .d),.cells (s.c.map .d)]) (by omega) (hb2 _);generalize (List.drop (i+1) c.pods.l).any (dJ c)=R at q ⊢;generalize hnm:(bU p.ns&&bU p.sa)=nm at n1;generalize hpt:ig p.port=pt at n2;by_cases a1:p.uid<10
   case pos=>exact ⟨_,by simp +decide [df,hb2,hx,n3,h0,dJ,dK,dL,eH,hsv,a1]; rfl⟩
   by_cases a2:p.uid>=c.next
   case pos=>exact ⟨_,by simp +decide [df,hb2,hx,n3,h0,dJ,dK,dL,eH,hsv,a1,a2]; rfl⟩
   cases nm
   case false=>exact ⟨_,by simp +decide [df,hb2,hx,n1,n3,h0,dJ,dK,dL,eH,hsv,a1,a2,hnm]; rfl⟩
   by_cases b1:p.host<2
   case pos=>exact ⟨_,by simp +decide [df,hb2,hx,n1,n3,h0,dJ,dK,dL,eH,hsv,a1,a2,hnm,b1]; rfl⟩
   by_cases b2:p.host>wrap .i64 (c.hosts+1)
   case pos=>exact ⟨_,by simp +decide [df,hb2,hx,n1,n3,h0,dJ,dK,dL,eH,hsv,a1,a2,hnm,b1,b2]; rfl⟩
   cases pt
   case false=>exact ⟨_,by simp +decide [df,hb2,hx,n1,n2,n3,h0,dJ,dK,dL,eH,hsv,a1,a2,hnm,b1,b2,hpt]; rfl⟩
   by_cases c1:p.service=0
   case pos =>
    have n4:=n3;rw [c1] at n4;refine ⟨[.cells (p.c.map .d),.cells (s.c.map .d)]++ys,?_⟩;simp +decide [n4,df,hb2,hx,n1,n2,h0,dJ,dK,dL,eH,a1,a2,hnm,b1,b2,hpt,c1,hw];simpa using q
   cases c2:eqS s.ns p.ns
   case false=>exact ⟨_,by simp +decide [df,hb2,hx,n1,n2,n3,h0,dJ,dK,dL,eH,hsv,a1,a2,hnm,b1,b2,hpt,c1,c2]; rfl⟩
   refine ⟨[.cells (p.c.map .d),.cells (s.c.map .d)]++ys,?_⟩;simp +decide [df,hb2,hx,n1,n2,n3,h0,dJ,dK,dL,eH,hsv,a1,a2,hnm,b1,b2,hpt,c1,c2,hw];simpa using q
def lu (c:Cfg):Bool:=!c.pods.l.any (dJ c)&&aU (c.pods.l.map Pod.uid)
theorem bf9 (c:Cfg)(hc:c.wf big)(h:Hp):Sm E TT ah 70 [c.v] h=some (bl (lu c),h):=by
 have hok:=hc.ok (bp _);obtain ⟨ys,q⟩:=bd1 (E:=E) c hc c.pods.l.length 0 [.cells (c.c.map .d)] (by omega) (by simp);have n1:=λh=>bh2 (E:=E) c.pods hok.1 h;rw [aN cv3 dn0];simp [aa,N8];rw [aj];simp at q;simp [q];cases hA:c.pods.l.any (dJ c)<;>simp [lu,hA,n1]
end
section
variable {E:Calls'}
theorem ak0:TT 144=some (someQ 229):=cx7
theorem ak2:TT 229=some (anyQ 120):=cz7
theorem aj3:TT 120=some (idxQ 2):=t109
theorem u201:TT 102=some (someQ 122):=t201
theorem aj6:TT 122=some (anyQ 200):=cw1
theorem aj2:TT 200=some (idxQ 5):=Vx
theorem u196:TT 97=some (someQ 172):=t196
theorem aj9:TT 172=some (anyQ 213):=cw9
theorem bh5 (w:Way)(s:Svc){x:Nat}{h:Hp}(hb:ai h.bs x=some (s.c.map .d)):Sm E TT ah 145 [ag w.c,.ptr x 0] h=some (bl (w.id==s.way),h):=by
 rw [ax cx8 dp3];simp [aa,Oz,az hb,V.under]
theorem bh4 (l:Sl Way)(hl:short l)(s:Svc){x:Nat}{h:Hp}(hb:ai h.bs x=some (s.c.map .d)):Sm E TT ah 144 [.d (l.d Way.c),.fn 145 [.ptr x 0]] h=some (bl (l.l.any λw=>w.id==s.way),h) :=
 fG ak0 ak6 rfl rfl (gU Way.c (z:=2) aj3 v109 ak2 ak7 (RowIs.of (cells:=Way.c) (λ_=>rfl) _) hl.lt λe _ lo=>bh5 e s hb)
def iU (n:Int):Bool:=decide (n>=1)&&decide (n<=4611686018427387903)
theorem Yl (n:Int)(h:Hp):Sm E TT ah 146 [.d (u64 n)] h=some (bl (iU n),h):=bh6 n h
def qJ (c:Cfg)(s:Svc):Bool:=!iU s.id||(!bU s.ns||(!ig s.port||!((s.way==0)||c.bound.l.any λw=>w.id==s.way)))
theorem bh3 (c:Cfg)(hc:c.ok)(s:Svc)(hs:s.wf big){x:Nat}{h:Hp}(hb:ai h.bs x=some (c.c.map .d)):Sm E TT ah 143 [ag s.c,.ptr x 0] h=some (bl (qJ c s),h):=by
 rw [ax cx6 dp2];have n1:=λh=>Yl (E:=E) s.id h;have n2:=λh=>ME (E:=E) s.ns hs.2.1 h;have n3:=λh=>Yk (E:=E) s.port h;have n5:∀ lo,Sm E TT ah 144 [.d (c.bound.d Way.c),.fn 145 [.ptr h.bs.length 0]] ⟨h.bs++[.cells (s.c.map .d)],lo⟩=some (bl (c.bound.l.any λw=>w.id==s.way),⟨h.bs++[.cells (s.c.map .d)],lo⟩):=λlo=>bh4 c.bound hc.2.2.1 s (by simp);unfold qJ;generalize iU s.id=A at *;generalize bU s.ns=B at *;generalize ig s.port=C at *;generalize (c.bound.l.any λw=>w.id==s.way)=F at *;have hb2:=λys=>az (ys:=ys) hb;by_cases w0:s.way=0
 . cases A<;>cases B<;>cases C<;>simp +decide [aa,KY,n1,n2,n3,w0,V.under,au]
 . cases A<;>cases B<;>cases C<;>cases F<;>simp +decide [aa,KY,hb2,n1,n2,n3,n5,w0,V.under,au]
def fE (c:Cfg):Bool:=!c.services.l.any (qJ c)&&aU (c.services.l.map Svc.id)
theorem bg0 (c:Cfg)(hc:c.wf big)(h:Hp):Sm E TT ah 71 [c.v] h=some (bl (fE c),h):=by
 have hok:=hc.ok (bp _);have n1:=λh=>bh7 (E:=E) c.services hok.2.1 h;have n2:Sm E TT ah 102 [.d (c.services.d Svc.c),.fn 143 [.ptr 0 0]] ⟨[.cells (c.c.map .d)],0⟩=some (bl (c.services.l.any (qJ c)),⟨[.cells (c.c.map .d)],0⟩) :=
  fG u201 v201 rfl rfl (gU Svc.c (z:=5) aj2 PO aj6 ak4 (RowIs.of (cells:=Svc.c) (λ_=>rfl) _) hok.2.1.lt λe he lo=>bh3 c hok e (hc.2.2.2.2.2.1.2 e he) (by simp))
 rw [aN t208 v208];unfold fE;generalize c.services.l.any (qJ c)=A at *;cases A<;>simp +decide [aa,N9,n1,n2,au]
def tC (c:Cfg)(p:Pol):Bool:=decide (p.id<1)||(!bT p||(!(p.service==0)&&(Cj c p.service).isNone))
section
variable (h385:∀ t:Target,t.wf big->∀ h,E 294 [ag t.c] h=some (bl (aZ t),h))
include h385
theorem bi0 (c:Cfg)(hc:c.ok)(p:Pol)(hp:p.wf big){x:Nat}{h:Hp}(hb:ai h.bs x=some (c.c.map .d)):Sm E TT ah 151 [ag p.c,.ptr x 0] h=some (bl (tC c p),h):=by
 rw [ax cy4 dp9];have n1:=λh=>Q5 h385 p hp h;have n2:=λh=>Qb (E:=E) c hc p.service h;have hb2:=λys=>az (ys:=ys) hb;unfold tC;generalize bT p=A at *;cases hsv:Cj c p.service with
 | none =>
  simp only [hsv] at n2;by_cases a1:p.id<1
  case pos=>simp +decide [aa,BJ,hb2,n2,a1,V.under,au]
  by_cases a2:p.service=0
  . rw [a2] at n2;cases A<;>simp +decide [aa,BJ,hb2,n1,n2,a1,a2,V.under,au]
  . cases A<;>simp +decide [aa,BJ,hb2,n1,n2,a1,a2,V.under,au]
 | some s =>
  simp only [hsv] at n2;by_cases a1:p.id<1
  case pos=>simp +decide [aa,BJ,hb2,n2,a1,V.under,au]
  by_cases a2:p.service=0
  . rw [a2] at n2;cases A<;>simp +decide [aa,BJ,hb2,n1,n2,a1,a2,V.under,au]
  . cases A<;>simp +decide [aa,BJ,hb2,n1,n2,a1,a2,V.under,au]
def dW (c:Cfg):Bool:=!c.policies.l.any (tC c)&&aU (c.policies.l.map Pol.id)
theorem bg3 (c:Cfg)(hc:c.wf big)(h:Hp):Sm E TT ah 74 [c.v] h=some (bl (dW c),h):=by
 have hok:=hc.ok (bp _);have n1:=λh=>bi1 (E:=E) c.policies hok.2.2.2.1 h;have n2:Sm E TT ah 97 [.d (c.policies.d Pol.c),.fn 151 [.ptr 0 0]] ⟨[.cells (c.c.map .d)],0⟩=some (bl (c.policies.l.any (tC c)),⟨[.cells (c.c.map .d)],0⟩) :=
  fG u196 v196 rfl rfl (gU Pol.c (z:=5) ak1 VE aj9 ak5 (RowIs.of (cells:=Pol.c) (λ_=>rfl) _) hok.2.2.2.1.lt λe he lo=>bi0 h385 c hok e (hc.2.2.2.2.2.2.2.2 e he) (by simp))
 rw [aN cv5 dn2];unfold dW;generalize c.policies.l.any (tC c)=A at *;cases A<;>simp +decide [aa,Oc,n1,n2,au]
end
end
section
variable {E:Calls'}
theorem bh8 (w v:Way){x:Nat}{h:Hp}(hb:ai h.bs x=some (w.c.map .d)):Sm E TT ah 149 [ag v.c,.ptr x 0] h=some (bl (v.node==w.node),h):=by
 rw [ax cy2 dp7];simp [aa,Uv,az hb,V.under]
theorem Xu (l:Sl Way)(hl:l.l.length<2 ^ 62)(w:Way){x:Nat}{h:Hp}(hb:ai h.bs x=some (w.c.map .d)):Sm E TT ah 144 [.d (l.d Way.c),.fn 149 [.ptr x 0]] h=some (bl (l.l.any λv=>v.node==w.node),h) :=
 fG ak0 ak6 rfl rfl (gU Way.c (z:=2) aj3 v109 ak2 ak7 (RowIs.of (cells:=Way.c) (λ_=>rfl) _) hl λe _ lo=>bh8 w e hb)
def D7 (c:Cfg)(pre:List Way)(w:Way):Bool:=!iU w.id||(decide (w.node<wrap .i64 (c.hosts+2))||(decide (w.node>wrap .i64 (wrap .i64 (c.hosts+1)+c.ways))||pre.any λv=>v.node==w.node))
def kv (c:Cfg):List Way->List Way->Bool
 | _,[]=>false
 | pre,w::l=>D7 c pre w||kv c (pre++[w]) l
theorem Lx {h:Hp}{ev:X->V}{α:Type}{cells:α->List D}{z:Nat}(hz:∀ x,(cells x).length=z){s:Sl α}{x:X}{n:Nat}(hx:ev x=.d (i64 n))(hn:n<s.l.length):eD h ev .sl z (.d (s.d cells)) none (some x) none=some (.d (Sl.d cells ⟨s.nl,s.l.take n⟩)):=by
 simp only [eD,Sl.d,eu,hx,bx];rw [if_pos (by omega)];simp only [Int.toNat_natCast];have hh:((s.l.map cells).headD (List.replicate z .nilp)).length=z:=by
  cases s.l with
  | nil=>simp
  | cons a l=>simp [hz]
 rw [if_pos ⟨by omega,by omega,hh⟩];simp [List.map_take]
theorem bd2 (c:Cfg)(hc:c.wf big):∀ (m i:Nat) (bs:List Blk),i+m=c.bound.l.length->ai bs 0=some (c.c.map .d) →
 ∃ ys,Cd E TT ah (.loop [1,7,8,9] jA) [(1,.ptr 0 0),(7,.d (c.bound.d Way.c)),(8,.d (i64 c.bound.l.length)),(9,.d (i64 i))] ⟨bs,0⟩ =
  cond (kv c (c.bound.l.take i) (c.bound.l.drop i)) (some (.ret,[(2,bl false)],⟨bs++ys,0⟩)) (some (.exit 0,[(1,.ptr 0 0)],⟨bs++ys,0⟩)):=by
 have hok:=hc.ok (bp _);have hlt:=hok.2.2.1.lt;intro m;have key:=ak (E:=E) (T:=TT) (val:=ah) [1,7,8,9] jA;generalize Cd E TT ah (.loop [1,7,8,9] jA)=W at key ⊢
 induction m with
 | zero =>
  intro i bs hi hb;refine ⟨[],?_⟩;rw [key,ba (by omega)];simp [jA,kv,show ¬ ((i:Int)<c.bound.l.length) from by omega]
 | succ m ih =>
  intro i bs hi hb;have h1:i<c.bound.l.length:=by omega
  have hx:=λh=>aK (z:=2) h (ab h1) (cells:=Way.c) rfl;have hw:=aA h1 hlt;have htake:c.bound.l.take (i+1)=c.bound.l.take i++[c.bound.l[i]]:=by rw [List.take_add_one,ab h1]; rfl
  rw [key,aw h1];generalize c.bound.l[i]=w at *;have n1:=λh=>Yl (E:=E) w.id h;have hsl:=λ(h:Hp) (ev:X->V) (hx:ev (.t 16)=.d (i64 i))=>Lx (h:=h) (ev:=ev) (cells:=Way.c) (z:=2) (λ_=>rfl) (s:=c.bound) hx h1;have n2:Sm E TT ah 144 [.d (Sl.d Way.c ⟨c.bound.nl,c.bound.l.take i⟩),.fn 149 [.ptr bs.length 0]] ⟨bs++[.cells (w.c.map .d)],0⟩=some (bl ((c.bound.l.take i).any λv=>v.node==w.node),⟨bs++[.cells (w.c.map .d)],0⟩) :=
   Xu ⟨c.bound.nl,c.bound.l.take i⟩ (by simp only [List.length_take]; omega) w (by simp)
  have hb2:=λys=>az (ys:=ys) hb;have h0:((i:Int)<c.bound.l.length):=by omega
  obtain ⟨ys,q⟩:=ih (i+1) (bs++[.cells (w.c.map .d)]) (by omega) (hb2 _);rw [htake] at q;simp only [kv];generalize kv c (c.bound.l.take i++[w]) (c.bound.l.drop (i+1))=R at q ⊢;unfold D7;generalize iU w.id=A at *;generalize ((c.bound.l.take i).any λv=>v.node==w.node)=F at *;generalize hS:Sl.d Way.c ⟨c.bound.nl,c.bound.l.take i⟩=SS at *;cases A
  case false=>exact ⟨_,by simp +decide [jA,hb2,hx,n1,n2,hsl,h0,au]; rfl⟩
  by_cases b1:w.node<wrap .i64 (c.hosts+2)
  case pos=>exact ⟨_,by simp +decide [jA,hb2,hx,n1,n2,hsl,h0,au,b1]; rfl⟩
  by_cases b2:w.node>wrap .i64 (wrap .i64 (c.hosts+1)+c.ways)
  case pos=>exact ⟨_,by simp +decide [jA,hb2,hx,n1,n2,hsl,h0,au,b1,b2]; rfl⟩
  cases F
  case true=>exact ⟨_,by simp +decide [jA,hb2,hx,n1,n2,hsl,h0,au,b1,b2]; rfl⟩
  refine ⟨[.cells (w.c.map .d)]++ys,?_⟩;simp +decide [jA,hb2,hx,n1,n2,hsl,h0,au,b1,b2,hw];simpa using q
def mr (c:Cfg):Bool:=!kv c [] c.bound.l&&aU (c.bound.l.map Way.id)
theorem bg2 (c:Cfg)(hc:c.wf big)(h:Hp):Sm E TT ah 73 [c.v] h=some (bl (mr c),h):=by
 have hok:=hc.ok (bp _);obtain ⟨ys,q⟩:=bd2 (E:=E) c hc c.bound.l.length 0 [.cells (c.c.map .d)] (by omega) (by simp);have n1:=λh=>bh9 (E:=E) c.bound hok.2.2.1 h;rw [aN t210 v210];unfold mr;simp at q;generalize kv c [] c.bound.l=A at *;simp [aa,Ob];rw [aj];simp [q];cases A<;>simp [n1]
end
section
variable {E:Calls'}
structure Ar (c:Cfg) (acc:List Int) (bs:List Blk) (v:V):Prop where
 c0:ai bs 0=some (c.c.map .d)
 is:∃ b cap,0<b/\v=.row b 0 acc.length cap 1/\ai bs b=some (acc.map (iv .u32))/\(cap=none\/cap=some acc.length)
 ne:acc≠[]
theorem Ar.nu {c:Cfg}{acc:List Int}{bs:List Blk}{v:V}(h:Ar c acc bs v):Go.Proofs.YtmakbdpnlfmclaaGreat.nu v=some v:=by
 obtain ⟨b,cap,_,rfl,_⟩:=h.is; rfl
theorem Ar.lay {c:Cfg}{acc:List Int}{bs:List Blk}{v:V}(h:Ar c acc bs v)(ys:List Blk):Ar c acc (bs++ys) v:=by
 obtain ⟨b,cap,k1,k2,k3,k4⟩:=h.is;exact ⟨az h.c0,⟨b,cap,k1,k2,az k3,k4⟩,h.ne⟩
theorem Ar.app {c:Cfg}{acc:List Int}{bs:List Blk}{v:V}(h:Ar c acc bs v)(hl:acc.length<big)(lo:Nat){x:Int}{r:Nat}{cap:Option Nat}(hr:ai bs r=some [iv .u32 x]) :
 ∃ v' bs' lo',dZ ⟨bs,lo⟩ 1 4 v (.row r 0 1 cap 1)=some (v',⟨bs',lo'⟩)/\Ar c (acc++[x]) bs' v':=by
 obtain ⟨b,cp,k1,rfl,k3,k4⟩:=h.is;have hbl:=aI k3;have h0l:=aI h.c0;have hrc:aF ⟨bs,lo⟩ (.row r 0 1 cap 1) 1=some (1,[iv .u32 x]):=by
  simp only [aF,if_true,get_eq,hr]; rfl
 have hsub:sub (acc.map (iv .u32)) 0 (acc.length * 1)=some (acc.map (iv .u32)):=bL (by simp);have hroom:roomy (acc.length+1) 4=true:=by
  simp only [roomy,aq,br]; exact ⟨hl,by decide⟩
 have hpos:0<acc.length:=List.length_pos_iff.2 h.ne;have hcs:(acc.map (iv .u32))++[iv .u32 x]=(acc++[x]).map (iv .u32):=by simp
 obtain rfl | rfl:=k4
 . refine ⟨.row bs.length 0 (acc.length+1) none 1,bs.set b (.cells [])++[.cells ((acc++[x]).map (iv .u32))],min lo b,?_,⟨?_,?_,by simp⟩⟩
   . simp only [dZ,hrc,aD,get_eq,k3,hsub,hroom];simp [hpos,Hp.set]
   . refine az ?_;have:=h.c0;unfold ai at this ⊢;rw [ac (by omega)]; exact this
   . exact ⟨bs.length,none,by omega,by simp,by have:=eG (bs:=bs.set b (.cells [])) (ys:=[.cells ((acc++[x]).map (iv .u32))]); simp only [List.length_set] at this; rw [this]; rfl,.inl rfl⟩
 . refine ⟨.row bs.length 0 (acc.length+1) none 1,bs++[.cells ((acc++[x]).map (iv .u32))],lo,?_,⟨az h.c0,?_,by simp⟩⟩
   . simp only [dZ,hrc,aD,get_eq,k3,hsub,hroom];simp;intro hh; omega
   . exact ⟨bs.length,none,by omega,by simp,by rw [eG]; rfl,.inl rfl⟩
theorem WF (c:Cfg)(hc:c.ok)(hsm:c.pods.l.length<=2 ^ 20):∀ (m i:Nat) (acc:List Int) (bs:List Blk) (lo:Nat) (v:V),i+m=c.pods.l.length->acc.length=i+1->Ar c acc bs v →
 ∃ v' bs' lo',Cd E TT ah (.loop [1,3,15,16,17] pF) [(1,.ptr 0 0),(3,v),(15,.d (c.pods.d Pod.c)),(16,.d (i64 c.pods.l.length)),(17,.d (i64 i))] ⟨bs,lo⟩ =
  some (.exit 0,[(1,.ptr 0 0),(3,v')],⟨bs',lo'⟩)/\Ar c (acc++(c.pods.l.drop i).map Pod.addr) bs' v':=by
 have hlt:=hc.1.lt;intro m;have key:=ak (E:=E) (T:=TT) (val:=ah) [1,3,15,16,17] pF;generalize Cd E TT ah (.loop [1,3,15,16,17] pF)=W at key ⊢
 induction m with
 | zero =>
  intro i acc bs lo v hi ha hA;refine ⟨v,bs,lo,?_,by rw [ba (by omega)]; simpa using hA⟩;rw [key];simp [pF,show ¬ ((i:Int)<c.pods.l.length) from by omega]
 | succ m ih =>
  intro i acc bs lo v hi ha hA;have h1:i<c.pods.l.length:=by omega
  have hx:=λh=>aK (z:=7) h (ab h1) (cells:=Pod.c) rfl;have hw:=aA h1 hlt;have hnu:=hA.nu;rw [aw h1];generalize c.pods.l[i]=p at *;have hA2:=hA.lay [.cells (p.c.map .d),.cells [iv .u32 p.addr]];obtain ⟨v1,bs1,lo1,k1,k2⟩:=hA2.app (by show _<2 ^ 30; omega) (min lo bs.length) (x:=p.addr) (r:=bs.length+1) (cap:=some 1) (by simp);have hnu1:=k2.nu;obtain ⟨v',bs',lo',q1,q2⟩:=ih (i+1) (acc++[p.addr]) bs1 lo1 v1 (by omega) (by simp; omega) k2;refine ⟨v',bs',lo',?_,by simpa using q2⟩;rw [key];simp [iv] at k1;simp [pF,hx,hnu,aC,k1,hnu1,hw,show ((i:Int)<c.pods.l.length) from by omega];simpa using q1
theorem WG (c:Cfg)(hc:c.ok)(n:Nat)(hn:n<=2 ^ 20)(hsm:c.services.l.length<=2 ^ 20):∀ (m i:Nat) (acc:List Int) (bs:List Blk) (lo:Nat) (v:V),i+m=c.services.l.length->acc.length=n+i+1->Ar c acc bs v →
 ∃ v' bs' lo',Cd E TT ah (.loop [3,28,29,30] pG) [(3,v),(28,.d (c.services.d Svc.c)),(29,.d (i64 c.services.l.length)),(30,.d (i64 i))] ⟨bs,lo⟩ =
  some (.exit 2,[(3,v')],⟨bs',lo'⟩)/\Ar c (acc++(c.services.l.drop i).map Svc.addr) bs' v':=by
 have hlt:=hc.2.1.lt;intro m;have key:=ak (E:=E) (T:=TT) (val:=ah) [3,28,29,30] pG;generalize Cd E TT ah (.loop [3,28,29,30] pG)=W at key ⊢
 induction m with
 | zero =>
  intro i acc bs lo v hi ha hA;refine ⟨v,bs,lo,?_,by rw [ba (by omega)]; simpa using hA⟩;rw [key];simp [pG,show ¬ ((i:Int)<c.services.l.length) from by omega]
 | succ m ih =>
  intro i acc bs lo v hi ha hA;have h1:i<c.services.l.length:=by omega
  have hx:=λh=>aK (z:=5) h (ab h1) (cells:=Svc.c) rfl;have hw:=aA h1 hlt;have hnu:=hA.nu;rw [aw h1];generalize c.services.l[i]=p at *;have hA2:=hA.lay [.cells (p.c.map .d),.cells [iv .u32 p.addr]];obtain ⟨v1,bs1,lo1,k1,k2⟩:=hA2.app (by show _<2 ^ 30; omega) (min lo bs.length) (x:=p.addr) (r:=bs.length+1) (cap:=some 1) (by simp);have hnu1:=k2.nu;obtain ⟨v',bs',lo',q1,q2⟩:=ih (i+1) (acc++[p.addr]) bs1 lo1 v1 (by omega) (by simp; omega) k2;refine ⟨v',bs',lo',?_,by simpa using q2⟩;rw [key];simp [iv] at k1;simp [pG,hx,hnu,aC,k1,hnu1,hw,show ((i:Int)<c.services.l.length) from by omega];simpa using q1
theorem Li {bs:List Blk}{b lo:Nat}{l:List Int}(hb:ai bs b=some (l.map (iv .u32))){j:Nat}(hj:j<l.length):ldv ⟨bs,lo⟩ (.ptr b j) 1 true=some (.d (.int .u32 l[j]),⟨bs,lo⟩):=by
 have hs:sub (l.map (iv .u32)) j 1=some [iv .u32 l[j]]:=by
  rw [eT,if_pos (by simp; omega),aw (by simpa using hj)]; simp
 rw [aB,get_eq];show (match (match ai bs b with | some cs=>sub cs j 1 | none=>none) with | some cs=>_ | none=>none)=_;rw [hb];simp only [hs]; rfl
theorem WH {bs:List Blk}{b lo:Nat}{l:List Int}(hb:ai bs b=some (l.map (iv .u32)))(hl:l.length<2 ^ 62){cap:Option Nat}{i:Nat}(hi:i<l.length)(x:Int):∀ (m j:Nat),j+m=i →
 Cd E TT ah (.loop [3,8,10,40,41,42,49,50,51] nA) [(3,.row b 0 l.length cap 1),(8,.d (.bool false)),(10,.d (.int .u32 x)),(40,.row b 0 l.length cap 1),(41,.d (i64 l.length)),(42,.d (i64 i)),(49,.row b 0 i cap 1),(50,.d (i64 i)),(51,.d (i64 j))] ⟨bs,lo⟩ =
  cond (((l.take i).drop j).any λy=>x==y) (some (.exit 4,[(8,bl true)],⟨bs,lo⟩)) (some (.exit 6,[(3,.row b 0 l.length cap 1),(8,.d (.bool false)),(40,.row b 0 l.length cap 1),(41,.d (i64 l.length)),(42,.d (i64 i))],⟨bs,lo⟩)):=by
 intro m;have key:=ak (E:=E) (T:=TT) (val:=ah) [3,8,10,40,41,42,49,50,51] nA;generalize Cd E TT ah (.loop [3,8,10,40,41,42,49,50,51] nA)=W at key ⊢
 induction m with
 | zero =>
  intro j hj;rw [key,ba (by simp; omega)];simp [nA,show ¬ ((j:Int)<(i:Int)) from by omega]
 | succ m ih =>
  intro j hj;have h1:j<i:=by omega
  have hix:=λh=>gD (b:=b) (o:=0) (z:=1) (cap:=cap) (kd:=.i64) (h:=h) h1;have hld:=Li (lo:=lo) hb (show j<l.length by omega);have hw:=aA (show j<l.length by omega) hl;simp only [Nat.mul_one,Nat.zero_add] at hix;have q:=ih (j+1) (by omega);rw [key,aw (show j<(l.take i).length by simp; omega)];simp only [List.getElem_take,List.any_cons];generalize l[j]'(by omega)=y at *;generalize ((l.take i).drop (j+1)).any (λy=>x==y)=R at *;have h0:((j:Int)<(i:Int)):=by omega
  by_cases hxy:x=y
  . simp [nA,hix,hld,h0,hxy,-aB]
  . simp [nA,hix,hld,h0,hxy,hw,-aB];simpa using q
def dup:List Int->List Int->Bool
 | _,[]=>false
 | pre,x::l=>(pre.any λy=>x==y)||dup (pre++[x]) l
theorem WI {bs:List Blk}{b lo:Nat}{l:List Int}(hb:ai bs b=some (l.map (iv .u32)))(hl:l.length<2 ^ 62){cap:Option Nat}:∀ (m i:Nat),i+m=l.length →
 Cd E TT ah (.loop [3,8,40,41,42] pI) [(3,.row b 0 l.length cap 1),(8,.d (.bool false)),(40,.row b 0 l.length cap 1),(41,.d (i64 l.length)),(42,.d (i64 i))] ⟨bs,lo⟩ =
  some (.exit 4,[(8,bl (dup (l.take i) (l.drop i)))],⟨bs,lo⟩):=by
 intro m;have key:=ak (E:=E) (T:=TT) (val:=ah) [3,8,40,41,42] pI;generalize Cd E TT ah (.loop [3,8,40,41,42] pI)=W at key ⊢
 induction m with
 | zero =>
  intro i hi;rw [key,ba (by omega)];simp [pI,dup,show ¬ ((i:Int)<l.length) from by omega]
 | succ m ih =>
  intro i hi;have h1:i<l.length:=by omega
  have hix:=λh=>gD (b:=b) (o:=0) (z:=1) (cap:=cap) (kd:=.i64) (h:=h) h1;have hld:=Li (lo:=lo) hb h1;have hw:=aA h1 hl;simp only [Nat.mul_one,Nat.zero_add] at hix;have q:=ih (i+1) (by omega);have htake:l.take (i+1)=l.take i++[l[i]]:=by rw [List.take_add_one,ab h1]; rfl
  have hin:=WH (E:=E) (lo:=lo) hb hl (cap:=cap) h1 l[i] i 0 (by omega);have hsl:=λ(h:Hp) (ev:X->V) (hx:ev (.t 48)=.d (.int .i64 i))=>rW (h:=h) (ev:=ev) (x:=.t 48) (b:=b) (z:=1) (len:=l.length) (cap:=cap) (n:=i) hx (by omega);rw [htake] at q;rw [key,aw h1];simp only [dup];simp only [List.drop_zero] at hin;generalize l[i]=x at *;generalize ((l.take i).any λy=>x==y)=F at *;have h0:((i:Int)<l.length):=by omega
  simp at hin;simp [pI,hix,hld,h0,hsl,-aB];rw [aj];simp [hin];cases F
  . simp [hw];simpa using q
  . simp
theorem bg1 (c:Cfg)(hc:c.wf 1048576)(h:Hp):Sm E TT ah 72 [c.v] h=some (bl (!dup [] (0::(c.pods.l.map Pod.addr++c.services.l.map Svc.addr))),h):=by
 have hok:c.ok:=hc.ok (by decide);have f1:c.pods.l.length<=2 ^ 20:=hc.2.2.2.2.1.1.1;have f2:c.services.l.length<=2 ^ 20:=hc.2.2.2.2.2.1.1.1;have hA:Ar c [0] [.cells (c.c.map .d),.cells [iv .u32 0]] (.row 1 0 1 (some 1) 1):=⟨by simp,⟨1,some 1,by omega,rfl,by simp,.inr rfl⟩,by simp⟩;obtain ⟨v1,bs1,lo1,a1,a2⟩:=WF (E:=E) c hok f1 c.pods.l.length 0 [0] _ 0 _ (by omega) rfl hA;simp only [List.drop_zero] at a2;obtain ⟨v2,bs2,lo2,b1,b2⟩:=WG (E:=E) c hok c.pods.l.length f1 f2 c.services.l.length 0 _ bs1 lo1 v1 (by omega) (by simp) a2;simp only [List.drop_zero] at b2;have hl:([0]++c.pods.l.map Pod.addr++c.services.l.map Svc.addr)=0::(c.pods.l.map Pod.addr++c.services.l.map Svc.addr):=by simp
 rw [hl] at b2;have hlen:(0::(c.pods.l.map Pod.addr++c.services.l.map Svc.addr)).length<2 ^ 62:=by simp; omega
 generalize (0::(c.pods.l.map Pod.addr++c.services.l.map Svc.addr))=L at *;obtain ⟨b,cap,p1,rfl,p3,p4⟩:=b2.is;have d1:=WI (E:=E) (lo:=lo2) p3 hlen (cap:=cap) L.length 0 (by omega);have hc0:=a2.c0;rw [aN cv4 dn1];simp [iv] at a1;simp at b1 d1;simp [aa,Oa,aC];rw [aj];simp [a1,hc0];rw [aj];simp [b1];rw [aj];simp [d1]
def qP (c:Cfg):Bool:=!dup [] (0::(c.pods.l.map Pod.addr++c.services.l.map Svc.addr))
end
section
variable {E:Calls'}
def eQ (c:Cfg):Bool:=decide ((c.pods.l.length:Int)<=16)&&decide ((c.services.l.length:Int)<=6)&&decide ((c.bound.l.length:Int)<=4)&&decide ((c.policies.l.length:Int)<=12)
theorem S92 (c:Cfg)(h:Hp):Sm E TT ah 22 [c.v] h=some (bl (eQ c),h):=by
 unfold eQ;rw [aN t92 v92];by_cases a1:(c.pods.l.length:Int)<=16
 case neg=>simp +decide [aa,q92,au,a1]
 by_cases a2:(c.services.l.length:Int)<=6
 case neg=>simp +decide [aa,q92,au,a1,a2]
 by_cases a3:(c.bound.l.length:Int)<=4
 case neg=>simp +decide [aa,q92,au,a1,a2,a3]
 simp +decide [aa,q92,au,a1,a2,a3]
def lq (c:Cfg):Bool:=decide (c.epoch<=4611686018427387903)&&decide (c.next>=10)&&decide (c.next<=4611686018427387904)&&decide (c.hosts>=1)&&decide (c.hosts<=4)&&decide (c.ways>=0)&&decide (c.ways<=4)
def tq (c:Cfg):Bool:=lq c&&lu c&&fE c&&qP c&&mr c&&dW c
theorem S93 (h385:∀ t:Target,t.wf big->∀ h,E 294 [ag t.c] h=some (bl (aZ t),h))(c:Cfg)(hc:c.wf 1048576)(hcb:c.wf big)(h:Hp):Sm E TT ah 23 [c.v] h=some (bl (tq c),h):=by
 have n1:=λh=>bf9 (E:=E) c hcb h;have n2:=λh=>bg0 (E:=E) c hcb h;have n3:∀ h,Sm E TT ah 72 [c.v] h=some (bl (qP c),h):=λh=>bg1 (E:=E) c hc h;have n4:=λh=>bg2 (E:=E) c hcb h;have n5:=λh=>bg3 h385 c hcb h;unfold tq;generalize lu c=A at *;generalize fE c=B at *;generalize qP c=C at *;generalize mr c=D at *;generalize dW c=F at *;rw [aN t93 v93];by_cases a1:c.epoch<=4611686018427387903
 case neg=>simp +decide [aa,q93,au,lq,a1]
 by_cases a2:c.next>=10
 case neg=>simp +decide [aa,q93,au,lq,a1,a2]
 by_cases a3:c.next<=4611686018427387904
 case neg=>simp +decide [aa,q93,au,lq,a1,a2,a3]
 by_cases a4:c.hosts>=1
 case neg=>simp +decide [aa,q93,au,lq,a1,a2,a3,a4]
 by_cases a5:c.hosts<=4
 case neg=>simp +decide [aa,q93,au,lq,a1,a2,a3,a4,a5]
 by_cases a6:c.ways>=0
 case neg=>simp +decide [aa,q93,au,lq,a1,a2,a3,a4,a5,a6]
 by_cases a7:c.ways<=4
 case neg=>simp +decide [aa,q93,au,lq,a1,a2,a3,a4,a5,a6,a7]
 cases A
 case false=>simp +decide [aa,q93,au,lq,a1,a2,a3,a4,a5,a6,a7,n1]
 cases B
 case false=>simp +decide [aa,q93,au,lq,a1,a2,a3,a4,a5,a6,a7,n1,n2]
 cases C
 case false=>simp +decide [aa,q93,au,lq,a1,a2,a3,a4,a5,a6,a7,n1,n2,n3]
 cases D
 case false=>simp +decide [aa,q93,au,lq,a1,a2,a3,a4,a5,a6,a7,n1,n2,n3,n4]
 simp +decide [aa,q93,au,lq,a1,a2,a3,a4,a5,a6,a7,n1,n2,n3,n4,n5]
end
section
def EY (x:V)(h:Hp):Option (V×Hp):=match x with
 | .ptr b o=>some (.ptr b o,h)
 | .eptr cs o=>some (.eptr cs o,h)
 | .fn f cs=>some (.fn f cs,h)
 | .mfn f cs=>some (.mfn f cs,h)
 | _=>none
section
variable {C:Calls'}{ev:X->V}{h:Hp}
@[simp] theorem Ti {x:X}:opE C (.nilchk x) ev h=EY (ev x) h:=(rfl)
@[simp] theorem SX {b o:Nat}:EY (.ptr b o) h=some (.ptr b o,h):=(rfl)
@[simp] theorem av1 {b o:Nat}{neg:Bool}:eqv .ptr neg (.ptr b o) (.d .nilp) h=some (.d (.bool (false != neg)),h):=(rfl)
end
def jr (bs:List Blk)(p:Nat):Option Nat:=match ai bs p with
 | some [.row b _ _ _ _]=>some b
 | _=>none
def Wr (bs:List Blk)(p:Nat)(l:List Int):Prop :=
 (l=[]/\ai bs p=some [.d (.slice true [])])\/(l≠[]/\∃ b,b≠p/\ai bs p=some [.row b 0 l.length none 1]/\ai bs b=some (l.map (iv .u8)))
def Fx (p:Nat)(bs bs':List Blk):Prop:=bs.length<=bs'.length/\∀ x cs,x≠p->jr bs p≠some x->ai bs x=some cs->ai bs' x=some cs/\jr bs' p≠some x
theorem Fx.refl (p:Nat)(bs:List Blk):Fx p bs bs:=⟨bp _,λx cs _ h2 h3=>⟨h3,h2⟩⟩
theorem Fx.trans {p:Nat}{a b c:List Blk}(h:Fx p a b)(k:Fx p b c):Fx p a c :=
 ⟨cg h.1 k.1,λx cs h1 h2 h3=>k.2 x cs h1 (h.2 x cs h1 h2 h3).2 (h.2 x cs h1 h2 h3).1⟩
theorem Wr.len {bs:List Blk}{p:Nat}{l:List Int}(h:Wr bs p l):p<bs.length:=by
 obtain ⟨_,h⟩ | ⟨_,b,_,h,_⟩:=h<;>exact aI h
theorem Wr.row_lt {bs:List Blk}{p:Nat}{l:List Int}(h:Wr bs p l){x:Nat}(hx:jr bs p=some x):x<bs.length:=by
 obtain ⟨_,h⟩ | ⟨_,b,_,h,h2⟩:=h
 . simp [jr,h] at hx
 . simp only [jr,h,bd] at hx;subst hx; exact aI h2
theorem pg {bs:List Blk}{p:Nat}(h:p<bs.length)(ys:List Blk):jr (bs++ys) p=jr bs p:=by
 simp only [jr,EM h]
theorem Wr.lay {bs:List Blk}{p:Nat}{l:List Int}(h:Wr bs p l)(ys:List Blk):Wr (bs++ys) p l:=by
 obtain ⟨h1,h2⟩ | ⟨h1,b,h2,h3,h4⟩:=h
 . exact .inl ⟨h1,az h2⟩
 . exact .inr ⟨h1,b,h2,az h3,az h4⟩
theorem Fx.lay {p:Nat}{bs:List Blk}(h:p<bs.length)(ys:List Blk):Fx p bs (bs++ys) :=
 ⟨by simp,λx cs h1 h2 h3=>⟨az h3,by rw [pg h]; exact h2⟩⟩
theorem dm {bs:List Blk}{b x:Nat}{cs:List V}:ai (bs.set b (.cells cs)) x=if b=x then (if b<bs.length then some cs else none) else ai bs x:=by
 unfold ai;rw [List.getElem?_set];by_cases h:b=x
 . subst h;by_cases hb:b<bs.length<;>simp [hb]
 . simp [h]
theorem Wr.app {bs:List Blk}{p:Nat}{l:List Int}(h:Wr bs p l){x:V}{xs:List Int}{m lo:Nat}(hr:aF ⟨bs,lo⟩ x 1=some (m,xs.map (iv .u8)))(hm:m=xs.length)(hl:l.length+xs.length<=big) :
 ∃ v v' bs1 lo1,ai bs p=some [v]/\nu v=some v/\nu v'=some v'/\v'.cells=some [v']/\dZ ⟨bs,lo⟩ 1 1 v x=some (v',⟨bs1,lo1⟩)/\p<bs1.length/\ai bs1 p=some [v]/\Wr (bs1.set p (.cells [v'])) p (l++xs)/\Fx p bs (bs1.set p (.cells [v'])):=by
 subst hm;have hp:=h.len;have hroom:roomy (l.length+xs.length) 1=true:=by
  simp only [roomy,aq,br]; exact ⟨hl,by decide⟩
 obtain ⟨rfl,h2⟩ | ⟨h1,b,h2,h3,h4⟩:=h
 . by_cases hx:xs=[]
   . subst hx;refine ⟨.d (.slice true []),.d (.slice true []),bs,lo,h2,rfl,rfl,rfl,?_,hp,h2,.inl ⟨rfl,by simp [dm,hp]⟩,?_⟩
     . simp [dZ,hr,aD]
     . refine ⟨by simp,λy cs k1 k2 k3=>⟨by rw [dm,if_neg (Ne.symm k1)]; exact k3,?_⟩⟩;simp [jr,dm,hp]
   . have hx0:¬ xs.length=0:=by simpa using hx
     have hroom':roomy xs.length 1=true:=by simpa using hroom
     refine ⟨.d (.slice true []),.row bs.length 0 xs.length none 1,bs++[.cells (xs.map (iv .u8))],lo,h2,rfl,rfl,rfl,?_,by simp; omega,az h2,.inr ⟨by simpa using hx,bs.length,by omega,?_,?_⟩,?_⟩
     . simp [dZ,hr,aD,hx0,hroom']
     . rw [dm,if_pos rfl,if_pos (by simp; omega)]; simp
     . rw [dm,if_neg (by omega),eG]; simp
     . refine ⟨by simp,λy cs k1 k2 k3=>⟨by rw [dm,if_neg (Ne.symm k1)]; exact az k3,?_⟩⟩;have:=aI k3;simp [jr,dm];rw [if_pos (by omega)];simp; omega
 . have hbl:=aI h4;have hpos:0<l.length:=List.length_pos_iff.2 h1;by_cases hx:xs=[]
   . subst hx;refine ⟨.row b 0 l.length none 1,.row b 0 l.length none 1,bs,lo,h3,rfl,rfl,rfl,?_,hp,h3,.inr ⟨by simpa using h1,b,h2,?_,?_⟩,?_⟩
     . simp [dZ,hr,aD]
     . rw [dm,if_pos rfl,if_pos hp]; simp
     . rw [dm,if_neg (Ne.symm h2)]; simpa using h4
     . refine ⟨by simp,λy cs k1 k2 k3=>⟨by rw [dm,if_neg (Ne.symm k1)]; exact k3,?_⟩⟩;simp only [jr,h3] at k2;simpa [jr,dm,hp] using k2
   . have hx0:¬ xs.length=0:=by simpa using hx
     have hsub:sub (l.map (iv .u8)) 0 (l.length * 1)=some (l.map (iv .u8)):=bL (by simp);refine ⟨.row b 0 l.length none 1,.row bs.length 0 (l.length+xs.length) none 1,bs.set b (.cells [])++[.cells ((l++xs).map (iv .u8))],min lo b,h3,rfl,rfl,rfl,?_,by simp; omega,?_,.inr ⟨by simp [h1],bs.length,by omega,?_,?_⟩,?_⟩
     . simp only [dZ,hr,aD,get_eq,h4,hsub,hroom];simp [hx0,hpos,Hp.set]
     . refine az ?_;rw [dm,if_neg h2]; exact h3
     . rw [dm,if_pos rfl,if_pos (by simp; omega)]; simp
     . rw [dm,if_neg (by omega)];have:=eG (bs:=bs.set b (.cells [])) (ys:=[.cells ((l++xs).map (iv .u8))]);simp only [List.length_set] at this;rw [this]; rfl
     . refine ⟨by simp,λy cs k1 k2 k3=>?_⟩;simp only [jr,h3,ne_eq,bd] at k2;have:=aI k3;refine ⟨by rw [dm,if_neg (Ne.symm k1)]; exact az (by rw [dm,if_neg k2]; exact k3),?_⟩;simp [jr,dm];rw [if_pos (by omega)];simp; omega
section
variable {E:Calls'}
def jS (E:Calls')(f:FuncId)(args:List V)(p:Nat)(bs:List Blk)(l xs:List Int):Prop:=∀ lo,∃ bs' lo',Sm E TT ah f args ⟨bs,lo⟩=some (.tup [],⟨bs',lo'⟩)/\lo'<=p/\Wr bs' p (l++xs)/\Fx p bs bs'
theorem Xv {p:Nat}{bs:List Blk}{l xs:List Int}(h:Wr bs p l){x:V}(hnu:nu x=some x){m:Nat}(hr:∀ lo,aF ⟨bs,lo⟩ x 1=some (m,xs.map (iv .u8)))(hm:m=xs.length)(hl:l.length+xs.length<=big):jS E 155 [.ptr p 0,x] p bs l xs:=by
 intro lo;obtain ⟨v,v',bs1,lo1,k1,k2,k3,k4,k5,k6,k7,k8,k9⟩:=h.app (hr bs.length) hm hl;have hp:=h.len;refine ⟨_,min lo (min lo1 p),?_,by omega,k8,k9⟩;rw [ax cy7 dq2];simp [aa,OD,k1,k4,k5,k7,hnu,Hp.set];rw [if_neg (λhh=>by have:=hh.1; omega)];rfl
end
end
section
variable {E:Calls'}
def lenTab:ByteArray:=⟨#[0,1,2,2,3,3,3,3,4,4,4,4,4,4,4,4,5,5,5,5,5,5,5,5,5,5,5,5,5,5,5,5,6,6,6,6,6,6,6,6,6,6,6,6,6,6,6,6,6,6,6,6,6,6,6,6,6,6,6,6,6,6,6,6,7,7,7,7,7,7,7,7,7,7,7,7,7,7,7,7,7,7,7,7,7,7,7,7,7,7,7,7,7,7,7,7,7,7,7,7,7,7,7,7,7,7,7,7,7,7,7,7,7,7,7,7,7,7,7,7,7,7,7,7,7,7,7,7,8,8,8,8,8,8,8,8,8,8,8,8,8,8,8,8,8,8,8,8,8,8,8,8,8,8,8,8,8,8,8,8,8,8,8,8,8,8,8,8,8,8,8,8,8,8,8,8,8,8,8,8,8,8,8,8,8,8,8,8,8,8,8,8,8,8,8,8,8,8,8,8,8,8,8,8,8,8,8,8,8,8,8,8,8,8,8,8,8,8,8,8,8,8,8,8,8,8,8,8,8,8,8,8,8,8,8,8,8,8,8,8,8,8,8,8,8,8,8,8,8,8,8,8,8,8,8,8]⟩
def lenL:List UInt8:=lenTab.data.toList
theorem J8:lenL.length=256:=by decide +kernel
theorem Db:lenL.all (λb=>decide (b.toNat<=8))=true:=by decide +kernel
def lenT (i:Nat):Int:=match lenL[i]? with
 | some b=>b.toNat
 | none=>0
theorem zh (i:Nat):0<=lenT i/\lenT i<=8:=by
 unfold lenT;split
 . rename_i b hb;have:=ck.1 Db b (List.mem_of_getElem? hb);simp at this;omega
 . omega
theorem as7 (n:Int):0<=wrap .u8 n/\wrap .u8 n<256:=by
 simp [wrap,IntKind.bits,IntKind.signed];omega
theorem SL {n:Int}{h:Hp}:AR (.d (.str lenTab)) (.d (.int .u8 (wrap .u8 n))) h=some (.d (.int .u8 (lenT (wrap .u8 n).toNat)),h):=by
 obtain ⟨h0,h1⟩:=as7 n;generalize wrap .u8 n=m at *;have hlt:m.toNat<lenL.length:=by rw [J8]; omega
 have hb:lenTab.toList[m.toNat]?=some lenL[m.toNat]:=by rw [bZ]; exact ab hlt
 simp only [AR,if_pos h0,hb,lenT,ab hlt]
def mW (x:Int):Int:=if x>=4294967296 then x.fdiv 4294967296 else x
def nX (x:Int):Int:=if x>=65536 then x.fdiv 65536 else x
def sW (x:Int):Int:=if x>=256 then x.fdiv 256 else x
def bS (x:Int):Int:=(if x>=4294967296 then 32 else 0)+(if mW x>=65536 then 16 else 0)+(if nX (mW x)>=256 then 8 else 0)+lenT (wrap .u8 (sW (nX (mW x)))).toNat
theorem wh (x:Int):0<=bS x/\bS x<=64:=by
 have:=zh (wrap .u8 (sW (nX (mW x)))).toNat;unfold bS
 repeat' split
 all_goals omega
theorem SG (x:Int):(x>=4294967296/\bQ .shr (.d (.int .u64 x)) (.d (.int .u64 32))=some (.int .u64 (mW x)))\/(¬ x>=4294967296/\mW x=x):=by
 by_cases c:x>=4294967296
 . exact .inl ⟨c,by rw [lg (by decide),mW,if_pos c]; rfl⟩
 . exact .inr ⟨c,if_neg c⟩
theorem SH (x:Int):(x>=65536/\bQ .shr (.d (.int .u64 x)) (.d (.int .u64 16))=some (.int .u64 (nX x)))\/(¬ x>=65536/\nX x=x):=by
 by_cases c:x>=65536
 . exact .inl ⟨c,by rw [lg (by decide),nX,if_pos c]; rfl⟩
 . exact .inr ⟨c,if_neg c⟩
theorem SI (x:Int):(x>=256/\bQ .shr (.d (.int .u64 x)) (.d (.int .u64 8))=some (.int .u64 (sW x)))\/(¬ x>=256/\sW x=x):=by
 by_cases c:x>=256
 . exact .inl ⟨c,by rw [lg (by decide),sW,if_pos c]; rfl⟩
 . exact .inr ⟨c,if_neg c⟩
theorem Xx (x:Int)(h:Hp):Sm E TT ah 212 [.d (u64 x)] h=some (.d (i64 (bS x)),h):=by
 rw [aN cz6 dr1];have htab:(⟨#[0,1,2,2,3,3,3,3,4,4,4,4,4,4,4,4,5,5,5,5,5,5,5,5,5,5,5,5,5,5,5,5,6,6,6,6,6,6,6,6,6,6,6,6,6,6,6,6,6,6,6,6,6,6,6,6,6,6,6,6,6,6,6,6,7,7,7,7,7,7,7,7,7,7,7,7,7,7,7,7,7,7,7,7,7,7,7,7,7,7,7,7,7,7,7,7,7,7,7,7,7,7,7,7,7,7,7,7,7,7,7,7,7,7,7,7,7,7,7,7,7,7,7,7,7,7,7,7,8,8,8,8,8,8,8,8,8,8,8,8,8,8,8,8,8,8,8,8,8,8,8,8,8,8,8,8,8,8,8,8,8,8,8,8,8,8,8,8,8,8,8,8,8,8,8,8,8,8,8,8,8,8,8,8,8,8,8,8,8,8,8,8,8,8,8,8,8,8,8,8,8,8,8,8,8,8,8,8,8,8,8,8,8,8,8,8,8,8,8,8,8,8,8,8,8,8,8,8,8,8,8,8,8,8,8,8,8,8,8,8,8,8,8,8,8,8,8,8,8,8,8,8,8,8,8,8]⟩:ByteArray)=lenTab:=rfl;have hl:=zh (wrap .u8 (sW (nX (mW x)))).toNat;have hL:=λh=>SL (n:=sW (nX (mW x))) (h:=h);unfold bS;have hA:=SG x;have hB:=SH (mW x);have hC:=SI (nX (mW x));have hw:∀ n:Int,0<=n->n<=1000->wrap .i64 n=n:=λn h1 h2=>wrap64 (by omega) (by omega);have w16:=hw 16 (by omega) (by omega);have w40:=hw 40 (by omega) (by omega);have w48:=hw 48 (by omega) (by omega);have w56:=hw 56 (by omega) (by omega);have w24:=hw 24 (by omega) (by omega);have w8:=hw 8 (by omega) (by omega);generalize mW x=a at *;generalize nX a=b at *;generalize sW b=c at *;generalize lenT (wrap .u8 c).toNat=L at *;have wL:=hw L (by omega) (by omega);have v1:=hw (8+L) (by omega) (by omega);have v2:=hw (16+L) (by omega) (by omega);have v3:=hw (24+L) (by omega) (by omega);have v4:=hw (32+L) (by omega) (by omega);have v5:=hw (40+L) (by omega) (by omega)
 have v6:=hw (48+L) (by omega) (by omega);have v7:=hw (56+L) (by omega) (by omega);obtain ⟨a1,a2⟩ | ⟨a1,rfl⟩:=hA<;>obtain ⟨b1,b2⟩ | ⟨b1,rfl⟩:=hB<;>obtain ⟨c1,c2⟩ | ⟨c1,rfl⟩:=hC<;>simp [aa,OJ, *]
def xx (x:Int):Int:=if (bS x+6).tdiv 7>1 then (bS x+6).tdiv 7 else 1
theorem EN (x:Int):1<=xx x/\xx x<=10:=by
 have:=wh x;have h2:(bS x+6).tdiv 7=(bS x+6) / 7:=Int.tdiv_eq_ediv_of_nonneg (by omega);unfold xx;rw [h2];split<;>omega
theorem bj9 (x:Int)(h:Hp):Sm E TT ah 232 [.d (u64 x)] h=some (.d (i64 (xx x)),h):=by
 rw [aN da0 dr4];have hl:=wh x;have h1:=λh=>Xx (E:=E) x h;have hw:wrap .i64 (bS x+6)=bS x+6:=wrap64 (by omega) (by omega);have h2:(bS x+6).tdiv 7=(bS x+6) / 7:=Int.tdiv_eq_ediv_of_nonneg (by omega);have hq:bQ .quo (.d (.int .i64 (bS x+6))) (.d (.int .i64 7))=some (.int .i64 ((bS x+6).tdiv 7)):=by
  simp only [bQ,if_true,fH];rw [if_neg (by omega),wrap64]<;>omega
 simp [aa,OQ,h1,hw,hq,xx]
def orI (k:IntKind)(a b:Int):Int:=k.wrap ((BitVec.ofInt k.bits a ||| BitVec.ofInt k.bits b).toNat)
theorem Rv {k:IntKind}{a b:Int}:bQ .or (.d (.int k a)) (.d (.int k b))=some (.int k (orI k a b)):=by simp [bQ,fH,orI]
def wZ:Nat->Int->List Int
 | 0,x=>[wrap .u8 x]
 | k+1,x=>orI .u8 (wrap .u8 x) 128::wZ k (x.fdiv 128)
def bY (x:Int):List Int:=wZ ((xx x).toNat-1) x
theorem uk (k:Nat)(x:Int):(wZ k x).length=k+1:=by
 induction k generalizing x with
 | zero=>rfl
 | succ k ih=>simp [wZ,ih]
theorem bq (x:Int):(bY x).length<=10:=by
 have:=EN x;rw [bY,uk]; omega
theorem fI {bs bs':List Blk}{lo lo' p:Nat}{r:V}(h1:lo'<=p)(h2:p<bs.length):gm ⟨bs,lo⟩ (some (r,⟨bs',lo'⟩))=some (r,⟨bs',min lo lo'⟩):=by
 simp only [gm];rw [if_neg (λhh=>by have:=hh.1; omega)]
theorem Vl {bs:List Blk}{x:Int}{k:IntKind}(lo:Nat):aF ⟨bs++[.cells [.d (.int k x)]],lo⟩ (.row bs.length 0 1 (some 1) 1) 1=some (1,[iv k x]):=by
 simp only [aF,if_true,get_eq,eG];rfl
theorem wz {p:Nat}{bs:List Blk}{l:List Int}(h:Wr bs p l)(x:Int)(hl:l.length+1<=big):jS E 155 [.ptr p 0,.row bs.length 0 1 (some 1) 1] p (bs++[.cells [.d (.int .u8 x)]]) l [x] :=
 Xv (h.lay _) rfl (λlo=>Vl lo) rfl hl
theorem Iu {p:Nat}:∀ (m i:Nat) (x:Int) (bs:List Blk) (lo:Nat) (l:List Int) (G:Nat),i+m=G->G<=10->Wr bs p l->l.length+(m+1)<=big →
 ∃ bs' lo' y l',Cd E TT ah (.loop [0,1,6,7] pK) [(0,.ptr p 0),(1,.d (u64 x)),(6,.d (i64 G)),(7,.d (i64 i))] ⟨bs,lo⟩=some (.exit 0,[(0,.ptr p 0),(1,.d (u64 y))],⟨bs',lo'⟩) ∧
  l++wZ m x=l'++wZ 0 y/\l'.length=l.length+m/\Wr bs' p l'/\Fx p bs bs':=by
 intro m;have key:=ak (E:=E) (T:=TT) (val:=ah) [0,1,6,7] pK;generalize Cd E TT ah (.loop [0,1,6,7] pK)=W at key ⊢
 induction m with
 | zero =>
  intro i x bs lo l G hi hG hW hl;refine ⟨bs,lo,x,l,?_,rfl,rfl,hW,Fx.refl _ _⟩;rw [key];simp [pK,show ¬ ((i:Int)<G) from by omega]
 | succ m ih =>
  intro i x bs lo l G hi hG hW hl;have h1:=wz (E:=E) hW (orI .u8 (wrap .u8 x) 128) (by omega);obtain ⟨bs1,lo1,k1,k2,k3,k4⟩:=h1 lo;have hw:=aA (show i<G by omega) (show G<2 ^ 62 by omega);obtain ⟨bs',lo',y,l',q1,q2,q3,q4,q5⟩:=ih (i+1) (x.fdiv 128) bs1 lo1 (l++[orI .u8 (wrap .u8 x) 128]) G (by omega) hG k3 (by simp; omega);refine ⟨bs',lo',y,l',?_,by rw [← q2]; simp [wZ],by rw [q3]; simp; omega,q4,((Fx.lay hW.len _).trans k4).trans q5⟩;have hs:bQ .shr (.d (.int .u64 x)) (.d (.int .u64 7))=some (.int .u64 (x.fdiv 128)):=by rw [lg (by decide)]; rfl
  rw [key];simp [pK,Rv,aC,k1,hs,hw,show ((i:Int)<G) from by omega];simpa using q1
theorem F7 {p:Nat}{bs:List Blk}{l:List Int}(h:Wr bs p l)(x:Int)(hl:l.length+(bY x).length<=big):jS E 154 [.ptr p 0,.d (u64 x)] p bs l (bY x):=by
 intro lo;have hg:=EN x;rw [bY,uk] at hl;have hp:=h.len;obtain ⟨bs1,lo1,y,l1,q1,q2,q3,q4,q5⟩:=Iu (E:=E) ((xx x).toNat-1) 0 x bs bs.length l ((xx x).toNat-1) (by omega) (by omega) h (by omega);obtain ⟨bs2,lo2,k1,k2,k3,k4⟩:=wz (E:=E) q4 (wrap .u8 y) (by omega) lo1;have hS:=λh=>bj9 (E:=E) x h;have hw:wrap .i64 (xx x-1)=(((xx x).toNat-1:Nat):Int):=by rw [wrap64]<;>omega
 refine ⟨bs2,min lo lo2,?_,by omega,?_,(q5.trans (Fx.lay q4.len _)).trans k4⟩
 . rw [ax cy6 dq1];simp [aa,OC,hS,hw];rw [aj];simp at q1;simp [q1,aC,k1];exact fI k2 hp
 . rw [bY,q2]; exact k3
theorem XA {p:Nat}{bs:List Blk}{l:List Int}(h:Wr bs p l)(x:Int)(hl:l.length+1<=big):jS E 301 [.ptr p 0,.d (.int .u8 x)] p bs l [x]:=by
 intro lo;obtain ⟨bs1,lo1,k1,k2,k3,k4⟩:=wz (E:=E) h x hl bs.length;refine ⟨bs1,min lo lo1,?_,by omega,k3,(Fx.lay h.len _).trans k4⟩;rw [ax dc1 du0];simp [aa,U8,aC,k1];exact fI k2 h.len
def PM (x:Int):List Int:=[wrap .u8 x,wrap .u8 (x.fdiv 256),wrap .u8 (x.fdiv 65536),wrap .u8 (x.fdiv 16777216)]
theorem bl4 {p:Nat}{bs:List Blk}{l:List Int}(h:Wr bs p l)(x:Int)(hl:l.length+4<=big):jS E 300 [.ptr p 0,.d (u32 x)] p bs l (PM x):=by
 intro lo;have s0:bQ .shr (.d (.int .u32 x)) (.d (.int .i64 0))=some (.int .u32 x):=by rw [lg (by decide)]; simp
 have s1:bQ .shr (.d (.int .u32 x)) (.d (.int .i64 8))=some (.int .u32 (x.fdiv 256)):=by rw [lg (by decide)]; rfl
 have s2:bQ .shr (.d (.int .u32 x)) (.d (.int .i64 16))=some (.int .u32 (x.fdiv 65536)):=by rw [lg (by decide)]; rfl
 have s3:bQ .shr (.d (.int .u32 x)) (.d (.int .i64 24))=some (.int .u32 (x.fdiv 16777216)):=by rw [lg (by decide)]; rfl
 obtain ⟨b1,l1,a1,a2,a3,a4⟩:=wz (E:=E) h (wrap .u8 x) (by omega) bs.length;obtain ⟨b2,l2,c1,c2,c3,c4⟩:=wz (E:=E) a3 (wrap .u8 (x.fdiv 256)) (by simp; omega) l1;obtain ⟨b3,l3,d1,d2,d3,d4⟩:=wz (E:=E) c3 (wrap .u8 (x.fdiv 65536)) (by simp; omega) l2;obtain ⟨b4,l4,e1,e2,e3,e4⟩:=wz (E:=E) d3 (wrap .u8 (x.fdiv 16777216)) (by simp; omega) l3;refine ⟨b4,min lo l4,?_,by omega,by simpa [PM] using e3,((Fx.lay h.len _).trans a4).trans (((Fx.lay a3.len _).trans c4).trans (((Fx.lay c3.len _).trans d4).trans ((Fx.lay d3.len _).trans e4)))⟩;rw [ax dc0 dt9];have key:=ak (E:=E) (T:=TT) (val:=ah) [0,1,6,7] lQ;simp [aa,U7,aC];rw [aj];generalize Cd E TT ah (.loop [0,1,6,7] lQ)=W at key ⊢;simp;have w1:wrap .i64 1=1:=by decide
 have w2:wrap .i64 2=2:=by decide
 have w3:wrap .i64 3=3:=by decide
 have w4:wrap .i64 4=4:=by decide
 rw [key]; simp [lQ,opE,s0,aC,a1,w1];rw [key]; simp [lQ,opE,s1,aC,c1,w2];rw [key]; simp [lQ,opE,s2,aC,d1,w3];rw [key]; simp [lQ,opE,s3,aC,e1,w4];rw [key]; simp [lQ];exact fI e2 h.len
def Er (x:V)(h:Hp):Option (V×Hp):=match x with
 | .d (.str s)=>if s.size<=2 ^ 40 then some (.row h.size 0 s.size none 1,h.alloc (s.toList.map λb=>.d (.int .u8 b.toNat))) else none
 | _=>none
@[simp] theorem Tf {C:Calls'}{ev:X->V}{h:Hp}{x:X}:opE C (.convSB x) ev h=Er (ev x) h:=(rfl)
theorem Jq {h:Hp}{s:ByteArray}(hs:s.size<=2 ^ 40):Er (.d (.str s)) h=some (.row h.size 0 s.size none 1,h.alloc (s.toList.map λb=>.d (.int .u8 b.toNat))):=if_pos hs
def jg (s:ByteArray):List Int:=bY s.size++s.toList.map λb=>(b.toNat:Int)
theorem jq (s:ByteArray):(jg s).length<=10+s.size:=by
 have:=bq s.size;simp only [jg,am,bx,lU];omega
theorem Cu {p:Nat}{bs:List Blk}{l:List Int}(h:Wr bs p l)(s:ByteArray)(hl:l.length+(jg s).length<=big):jS E 77 [.ptr p 0,.d (.str s)] p bs l (jg s):=by
 intro lo;have hsz:s.toList.length=s.size:=lU s;simp only [jg,am,bx] at hl;have hs:s.size<=2 ^ 40:=cg (m:=2 ^ 30) (by rw [← hsz]; have:big=2 ^ 30:=rfl; omega) (by decide);obtain ⟨b1,l1,a1,a2,a3,a4⟩:=F7 (E:=E) h s.size (by omega) bs.length;have hrc:∀ lo,aF ⟨b1++[.cells (s.toList.map λb=>V.d (.int .u8 b.toNat))],lo⟩ (.row b1.length 0 s.size none 1) 1=some (s.size,(s.toList.map λb=>(b.toNat:Int)).map (iv .u8)):=by
  intro lo;have:sub (s.toList.map λb=>V.d (.int .u8 b.toNat)) 0 (s.size * 1)=some (s.toList.map λb=>V.d (.int .u8 b.toNat)):=bL (by simp [hsz]);simp only [aF,if_true,get_eq,eG,xS,this,List.map_map];rfl
 obtain ⟨b2,l2,c1,c2,c3,c4⟩:=Xv (E:=E) (a3.lay _) (x:=.row b1.length 0 s.size none 1) rfl hrc (by simp [hsz]) (by simp; omega) l1;refine ⟨b2,min lo l2,?_,by omega,by simpa [jg] using c3,(a4.trans (Fx.lay a3.len _)).trans c4⟩;have hw:wrap .u64 (s.size:Int)=s.size:=by
  simp [wrap,IntKind.bits,IntKind.signed];omega
 rw [ax cv6 dn4];simp [aa,Og,hw,a1,Jq hs,c1];exact fI c2 h.len
theorem KO {p:Nat}{xs:List Int}(hxn:xs.length<2 ^ 62){q:Nat}(hq:q≠p){cap:Option Nat}:∀ (m i:Nat) (bs:List Blk) (lo:Nat) (l:List Int),i+m=xs.length->Wr bs p l->jr bs p≠some q->ai bs q=some (xs.map λn=>V.d (u64 n))->l.length+((xs.drop i).flatMap bY).length<=big →
 ∃ bs' lo',Cd E TT ah (.loop [0,6,7,8] pJ) [(0,.ptr p 0),(6,.row q 0 xs.length cap 1),(7,.d (i64 xs.length)),(8,.d (i64 i))] ⟨bs,lo⟩=some (.exit 0,[],⟨bs',lo'⟩) ∧
  (lo'=lo/\xs.drop i=[]\/lo'<=p)/\Wr bs' p (l++(xs.drop i).flatMap bY)/\Fx p bs bs':=by
 intro m;have key:=ak (E:=E) (T:=TT) (val:=ah) [0,6,7,8] pJ;generalize Cd E TT ah (.loop [0,6,7,8] pJ)=W at key ⊢
 induction m with
 | zero =>
  intro i bs lo l hi hW h1 h2 hl;have h0:xs.drop i=[]:=ba (by omega);refine ⟨bs,lo,?_,.inl ⟨rfl,h0⟩,by simpa [h0] using hW,Fx.refl _ _⟩;rw [key];simp [pJ,show ¬ ((i:Int)<xs.length) from by omega]
 | succ m ih =>
  intro i bs lo l hi hW h1 h2 hl;have hlt:i<xs.length:=by omega
  have hd:xs.drop i=xs[i]::xs.drop (i+1):=aw hlt;have hix:=λh=>gD (b:=q) (o:=0) (z:=1) (cap:=cap) (kd:=.i64) (h:=h) hlt;simp only [Nat.mul_one,Nat.zero_add] at hix;have hs:sub (xs.map λn=>V.d (u64 n)) i 1=some [.d (u64 xs[i])]:=by
   rw [eT,if_pos (by simp; omega),aw (by simpa using hlt)]; simp
  rw [hd] at hl ⊢;simp only [List.flatMap_cons,am] at hl;generalize xs[i]=x at *;obtain ⟨b1,l1,a1,a2,a3,a4⟩:=F7 (E:=E) hW x (by omega) lo;obtain ⟨f1,f2⟩:=a4.2 q _ hq h1 h2;obtain ⟨bs',lo',q1,q2,q3,q4⟩:=ih (i+1) b1 l1 (l++bY x) (by omega) a3 f2 f1 (by rw [am]; omega);have hw:=aA hlt hxn;refine ⟨bs',lo',?_,.inr ?_,by simpa using q3,a4.trans q4⟩
  . have hld:ldv ⟨bs,lo⟩ (.ptr q i) 1 true=some (.d (u64 x),⟨bs,lo⟩):=by
     rw [aB,get_eq];show (match (match ai bs q with | some cs=>sub cs i 1 | none=>none) with | some cs=>_ | none=>none)=_;rw [h2]; simp only [hs]; rfl
    rw [key];simp [pJ,hix,hld,a1,hw,show ((i:Int)<xs.length) from by omega,-aB];simpa using q1
  . obtain ⟨rfl,_⟩ | q2:=q2
    . exact a2
    . exact q2
theorem xn {p:Nat}{bs:List Blk}{l:List Int}(h:Wr bs p l){xs:List Int}(hne:xs≠[])(hn:xs.length<2 ^ 62){q:Nat}(hq:q≠p){cap:Option Nat}(h1:jr bs p≠some q)(h2:ai bs q=some (xs.map λn=>V.d (u64 n)))(hl:l.length+(xs.flatMap bY).length<=big):jS E 76 [.ptr p 0,.row q 0 xs.length cap 1] p bs l (xs.flatMap bY):=by
 intro lo;obtain ⟨bs',lo',k1,k2,k3,k4⟩:=KO (E:=E) hn hq (cap:=cap) xs.length 0 bs bs.length l (by omega) h h1 h2 (by simpa using hl);have hle:lo'<=p:=by
  obtain ⟨_,hx⟩ | k2:=k2
  . exact absurd (by simpa using hx) hne
  . exact k2
 refine ⟨bs',min lo lo',?_,by omega,by simpa using k3,k4⟩;rw [ax t213 dn3];simp [aa,Oe];rw [aj];simp at k1;simp [k1];exact fI hle h.len
theorem Xo (bs:List Blk)(lo:Nat):∃ lo',Sm E TT ah 75 [] ⟨bs,lo⟩=some (.ptr bs.length 0,⟨bs++[.cells [.d (.slice true [])]],lo'⟩):=by
 refine ⟨min lo bs.length,?_⟩;rw [ax t212 v212];simp [aa,Od,V.under]
theorem Mh (bs:List Blk):Wr (bs++[.cells [.d (.slice true [])]]) bs.length []:=.inl ⟨rfl,by simp⟩
theorem Xp {p:Nat}{bs:List Blk}{l:List Int}(h:Wr bs p l)(hl:l.length<=big)(hne:l≠[])(lo:Nat):∃ lo',Sm E TT ah 79 [.ptr p 0] ⟨bs,lo⟩=some (.row bs.length 0 l.length none 1,⟨bs++[.cells (l.map (iv .u8))],lo'⟩):=by
 obtain ⟨h1,_⟩ | ⟨_,b,h2,h3,h4⟩:=h
 . exact absurd h1 hne
 . have hl0:¬ l.length=0:=by simpa using hne
   have hroom:roomy l.length 1=true:=by
    simp only [roomy,aq,br]; exact ⟨hl,by decide⟩
   have hsub:sub (l.map (iv .u8)) 0 (l.length * 1)=some (l.map (iv .u8)):=bL (by simp);have hap:dZ ⟨bs,bs.length⟩ 1 1 (.d (.slice true [])) (.row b 0 l.length none 1)=some (.row bs.length 0 l.length none 1,⟨bs++[.cells (l.map (iv .u8))],bs.length⟩):=by
    simp only [dZ,aF,if_true,get_eq,h4,hsub,Option.map_some,aD,hl0,if_false,hroom];simp
   refine ⟨min lo bs.length,?_⟩;rw [ax cv8 dn6];simp [aa,Oi,h3,hap,V.under]
end
section
variable {E:Calls'}
def seqB {α:Type}(enc:α->List Int)(l:List α):List Int:=bY l.length++l.flatMap enc
theorem fe {α:Type}(enc:α->List Int)(x:α)(l:List α):((x::l).flatMap enc).length=(enc x).length+(l.flatMap enc).length:=by simp
theorem IC {α:Type}{cells:α->List D}{z:Nat}{zero:List V}(hz:∀ x,(cells x).length=z)(hz0:0<z)(hzero:zero.length=z){enc:α->List Int}{p:Nat}{f:FuncId}{s:Sl α}(hs:s.l.length<2 ^ 62)
 (hf:∀ e∈s.l,∀ bs l,Wr bs p l->l.length+(enc e).length<=big->jS E f [.ptr p 0,ag (cells e)] p bs l (enc e)):∀ (m i:Nat) (bs:List Blk) (lo:Nat) (l:List Int),i+m=s.l.length->Wr bs p l->l.length+((s.l.drop i).flatMap enc).length<=big →
 ∃ bs' lo',Cd E TT ah (.loop [0,2,13,14,15] (yB z zero)) [(0,.ptr p 0),(2,.fn f []),(13,.d (s.d cells)),(14,.d (i64 s.l.length)),(15,.d (i64 i))] ⟨bs,lo⟩=some (.exit 0,[],⟨bs',lo'⟩) ∧
  (lo<=p->lo'<=p)/\Wr bs' p (l++(s.l.drop i).flatMap enc)/\Fx p bs bs':=by
 intro m;have key:=ak (E:=E) (T:=TT) (val:=ah) [0,2,13,14,15] (yB z zero);generalize Cd E TT ah (.loop [0,2,13,14,15] (yB z zero))=W at key ⊢
 induction m with
 | zero =>
  intro i bs lo l hi hW hl;have h0:s.l.drop i=[]:=ba (by omega);refine ⟨bs,lo,?_,id,by simpa [h0] using hW,Fx.refl _ _⟩;rw [key];simp [yB,show ¬ ((i:Int)<s.l.length) from by omega]
 | succ m ih =>
  intro i bs lo l hi hW hl;have hlt:i<s.l.length:=by omega
  have hx:=λh=>aK (z:=z) h (ab hlt) (cells:=cells) (hz _);have hmem:=bh hlt;rw [aw hlt] at hl ⊢;rw [fe] at hl;generalize s.l[i]=e at *;obtain ⟨b1,l1,a1,a2,a3,a4⟩:=hf e hmem (bs++[.cells ((cells e).map .d)]) l (hW.lay _) (by omega) (min lo bs.length);obtain ⟨bs',lo',q1,q2,q3,q4⟩:=ih (i+1) b1 l1 (l++enc e) (by omega) a3 (by rw [am]; omega);have hw:=aA hlt hs;refine ⟨bs',lo',?_,λ_=>q2 a2,by simpa using q3,((Fx.lay hW.len _).trans a4).trans q4⟩;have hsub:=bL (hz e);have hput:put zero 0 ((cells e).map V.d)=some ((cells e).map .d):=by simp [put,hz,hzero]
  rw [key];simp [yB,hx,hsub,hput,hz,hz0,a1,hw,show ((i:Int)<s.l.length) from by omega,-BD];simpa using q1
theorem sI {α:Type}{cells:α->List D}{z:Nat}{zero:List V}(hz:∀ x,(cells x).length=z)(hz0:0<z)(hzero:zero.length=z){id:FuncId}(ht:TT id=some (wputQ z zero))(hv:ah id=false){enc:α->List Int}{p:Nat}{f:FuncId}{s:Sl α}(hs:short s)
 (hf:∀ e∈s.l,∀ bs l,Wr bs p l->l.length+(enc e).length<=big->jS E f [.ptr p 0,ag (cells e)] p bs l (enc e)) {bs:List Blk} {l:List Int} (h:Wr bs p l) (hl:l.length+(seqB enc s.l).length<=big):jS E id [.ptr p 0,.d (s.d cells),.fn f []] p bs l (seqB enc s.l):=by
 intro lo;simp only [seqB,am] at hl;obtain ⟨b1,l1,a1,a2,a3,a4⟩:=F7 (E:=E) h s.l.length (by omega) bs.length;obtain ⟨b2,l2,k1,k2,k3,k4⟩:=IC (E:=E) (zero:=zero) hz hz0 hzero hs.lt hf s.l.length 0 b1 l1 (l++bY s.l.length) (by omega) a3 (by rw [am,List.drop_zero]; omega);refine ⟨b2,min lo l2,?_,by have:=k2 a2; omega,by simpa [seqB] using k3,a4.trans k4⟩;have hb:s.l.length<=big:=hs.1;have hbig:big=2 ^ 30:=rfl;have hw:wrap .u64 (s.l.length:Int)=s.l.length:=by
  simp [wrap,IntKind.bits,IntKind.signed];omega
 rw [ax ht hv];simp [aa,wputQ,hw,a1];rw [aj];simp at k1;simp [k1];exact fI (k2 a2) h.len
theorem D9 {α:Type}{cell:α->D}{enc:α->List Int}{p:Nat}{f:FuncId}{s:Sl α}(hs:s.l.length<2 ^ 62)
 (hf:∀ e∈s.l,∀ bs l,Wr bs p l->l.length+(enc e).length<=big->jS E f [.ptr p 0,.d (cell e)] p bs l (enc e)):∀ (m i:Nat) (bs:List Blk) (lo:Nat) (l:List Int),i+m=s.l.length->Wr bs p l->l.length+((s.l.drop i).flatMap enc).length<=big →
 ∃ bs' lo',Cd E TT ah (.loop [0,2,13,14,15] um) [(0,.ptr p 0),(2,.fn f []),(13,.d (s.d λx=>[cell x])),(14,.d (i64 s.l.length)),(15,.d (i64 i))] ⟨bs,lo⟩=some (.exit 0,[],⟨bs',lo'⟩) ∧
  (lo<=p->lo'<=p)/\Wr bs' p (l++(s.l.drop i).flatMap enc)/\Fx p bs bs':=by
 intro m;have key:=ak (E:=E) (T:=TT) (val:=ah) [0,2,13,14,15] um;generalize Cd E TT ah (.loop [0,2,13,14,15] um)=W at key ⊢
 induction m with
 | zero =>
  intro i bs lo l hi hW hl;have h0:s.l.drop i=[]:=ba (by omega);refine ⟨bs,lo,?_,id,by simpa [h0] using hW,Fx.refl _ _⟩;rw [key];simp [um,show ¬ ((i:Int)<s.l.length) from by omega]
 | succ m ih =>
  intro i bs lo l hi hW hl;have hlt:i<s.l.length:=by omega
  have hx:=λh=>aK (z:=1) h (ab hlt) (cells:=λx=>[cell x]) rfl;have hmem:=bh hlt;rw [aw hlt] at hl ⊢;rw [fe] at hl;generalize s.l[i]=e at *;obtain ⟨b1,l1,a1,a2,a3,a4⟩:=hf e hmem bs l hW (by omega) lo;obtain ⟨bs',lo',q1,q2,q3,q4⟩:=ih (i+1) b1 l1 (l++enc e) (by omega) a3 (by rw [am]; omega);have hw:=aA hlt hs;refine ⟨bs',lo',?_,λ_=>q2 a2,by simpa using q3,a4.trans q4⟩;rw [key];simp [um,hx,a1,hw,show ((i:Int)<s.l.length) from by omega];simpa using q1
theorem MH {α:Type}{cell:α->D}{id:FuncId}(ht:TT id=some wput1Q)(hv:ah id=false){enc:α->List Int}{p:Nat}{f:FuncId}{s:Sl α}(hs:short s)
 (hf:∀ e∈s.l,∀ bs l,Wr bs p l->l.length+(enc e).length<=big->jS E f [.ptr p 0,.d (cell e)] p bs l (enc e)) {bs:List Blk} {l:List Int} (h:Wr bs p l) (hl:l.length+(seqB enc s.l).length<=big):jS E id [.ptr p 0,.d (s.d λx=>[cell x]),.fn f []] p bs l (seqB enc s.l):=by
 intro lo;simp only [seqB,am] at hl;obtain ⟨b1,l1,a1,a2,a3,a4⟩:=F7 (E:=E) h s.l.length (by omega) bs.length;obtain ⟨b2,l2,k1,k2,k3,k4⟩:=D9 (E:=E) hs.lt hf s.l.length 0 b1 l1 (l++bY s.l.length) (by omega) a3 (by rw [am,List.drop_zero]; omega);refine ⟨b2,min lo l2,?_,by have:=k2 a2; omega,by simpa [seqB] using k3,a4.trans k4⟩;have hb:s.l.length<=big:=hs.1;have hbig:big=2 ^ 30:=rfl;have hw:wrap .u64 (s.l.length:Int)=s.l.length:=by
  simp [wrap,IntKind.bits,IntKind.signed];omega
 rw [ax ht hv];simp [aa,wput1Q,hw,a1];rw [aj];simp at k1;simp [k1];exact fI (k2 a2) h.len
end
section
variable {E:Calls'}
theorem Fx.new {p:Nat}{bs bs':List Blk}{l:List Int}{cs:List V}{ys:List Blk}(h:Wr bs p l)(k:Fx p (bs++(.cells cs::ys)) bs'):bs.length≠p/\jr bs' p≠some bs.length/\ai bs' bs.length=some cs:=by
 have hp:=h.len;have h1:jr (bs++(.cells cs::ys)) p≠some bs.length:=by
  rw [pg hp];intro hh;exact Nat.lt_irrefl _ (h.row_lt hh)
 obtain ⟨a,b⟩:=k.2 bs.length cs (by omega) h1 (by simp);exact ⟨by omega,b,a⟩
theorem Wr.fresh {p:Nat}{bs:List Blk}{l:List Int}(h:Wr bs p l)(ys:List Blk):bs.length≠p/\jr (bs++ys) p≠some bs.length:=by
 have hp:=h.len;refine ⟨by omega,?_⟩;rw [pg hp];intro hh;exact Nat.lt_irrefl _ (h.row_lt hh)
def nV (t:Term):List Int:=wrap .u8 t.kind::jg t.text
theorem bm1 (t:Term){p:Nat}{bs:List Blk}{l:List Int}(h:Wr bs p l)(hl:l.length+(nV t).length<=big):jS E 357 [.ptr p 0,ag t.c] p bs l (nV t):=by
 intro lo;simp only [nV,ch] at hl;obtain ⟨b1,l1,a1,a2,a3,a4⟩:=XA (E:=E) (h.lay [.cells (t.c.map .d)]) (wrap .u8 t.kind) (by omega) bs.length;obtain ⟨f1,f2,f3⟩:=a4.new h;obtain ⟨b2,l2,c1,c2,c3,c4⟩:=Cu (E:=E) a3 t.text (by simp; omega) l1;refine ⟨b2,min lo l2,?_,by omega,by simpa [nV] using c3,((Fx.lay h.len _).trans a4).trans c4⟩;rw [ax dd8 dv6];simp [aa,Vd,a1,f3,c1];exact fI c2 h.len
def uw (c:Cidr):List Int:=PM c.addr++[wrap .u8 c.bits]
theorem bl3 (t:Cidr){p:Nat}{bs:List Blk}{l:List Int}(h:Wr bs p l)(hl:l.length+(uw t).length<=big):jS E 299 [.ptr p 0,ag t.c] p bs l (uw t):=by
 intro lo;have h5:(uw t).length=5:=rfl;obtain ⟨b1,l1,a1,a2,a3,a4⟩:=bl4 (E:=E) (h.lay [.cells (t.c.map .d)]) t.addr (by omega) bs.length;obtain ⟨f1,f2,f3⟩:=a4.new h;obtain ⟨b2,l2,c1,c2,c3,c4⟩:=XA (E:=E) a3 (wrap .u8 t.bits) (by simp [PM]; omega) l1;refine ⟨b2,min lo l2,?_,by omega,by simpa [uw] using c3,((Fx.lay h.len _).trans a4).trans c4⟩;rw [ax db9 dt8];simp [aa,U6,a1,f3,c1];exact fI c2 h.len
def yf (n:Int):List Int:=bY (wrap .u64 n)
theorem bl6 (n:Int){p:Nat}{bs:List Blk}{l:List Int}(h:Wr bs p l)(hl:l.length+(yf n).length<=big):jS E 303 [.ptr p 0,.d (i64 n)] p bs l (yf n):=by
 intro lo;obtain ⟨b1,l1,a1,a2,a3,a4⟩:=F7 (E:=E) h (wrap .u64 n) hl bs.length;refine ⟨b1,min lo l1,?_,by omega,a3,a4⟩;rw [ax dc3 du2];simp [aa,U9,a1];exact fI a2 h.len
theorem dy8:TT 356=some (wputQ 2 [(.d (.int .i64 0)),(.d (.str ⟨#[]⟩))]):=dd7
theorem dy6:TT 298=some (wputQ 2 [(.d (.int .u32 0)),(.d (.int .i64 0))]):=db8
theorem dy7:TT 302=some wput1Q:=dc2
theorem dy3:TT 233=some (wputQ 3 (sl0 3)):=da1
theorem dy4:TT 235=some (wputQ 4 (sl0 4)):=da3
theorem dy5:TT 237=some (wputQ 2 [(.d (.str ⟨#[]⟩)),(.d (.slice true []))]):=da5
theorem dy2:TT 156=some (wputQ 3 (sl0 3)):=cy8
theorem bm0 {s:Sl Term}(hs:short s){p:Nat}{bs:List Blk}{l:List Int}(h:Wr bs p l)(hl:l.length+(seqB nV s.l).length<=big):jS E 356 [.ptr p 0,.d (s.d Term.c),.fn 357 []] p bs l (seqB nV s.l) :=
 sI (z:=2) (cells:=Term.c) (λ_=>rfl) (by decide) rfl dy8 dv5 hs (λe _ bs l h hl=>bm1 e h hl) h hl
theorem bl2 {s:Sl Cidr}(hs:short s){p:Nat}{bs:List Blk}{l:List Int}(h:Wr bs p l)(hl:l.length+(seqB uw s.l).length<=big):jS E 298 [.ptr p 0,.d (s.d Cidr.c),.fn 299 []] p bs l (seqB uw s.l) :=
 sI (z:=2) (cells:=Cidr.c) (λ_=>rfl) (by decide) rfl dy6 dt7 hs (λe _ bs l h hl=>bl3 e h hl) h hl
theorem bl5 {s:Sl Int}(hs:short s){p:Nat}{bs:List Blk}{l:List Int}(h:Wr bs p l)(hl:l.length+(seqB yf s.l).length<=big):jS E 302 [.ptr p 0,.d (s.d jU),.fn 303 []] p bs l (seqB yf s.l) :=
 MH (cell:=λn=>i64 n) dy7 du1 hs (λe _ bs l h hl=>bl6 e h hl) h hl
def mJ (ls:List (Sl Term)):List Int:=ls.flatMap λs=>seqB nV s.l
theorem HZ {p:Nat}{xs:List (Sl Term)}(hxn:xs.length<2 ^ 62)(hsh:∀ s∈xs,short s){q:Nat}(hq:q≠p){cap:Option Nat}:∀ (m i:Nat) (bs:List Blk) (lo:Nat) (l:List Int),i+m=xs.length->Wr bs p l->jr bs p≠some q->ai bs q=some (xs.map λs=>V.d (s.d Term.c))->l.length+(mJ (xs.drop i)).length<=big →
 ∃ bs' lo',Cd E TT ah (.loop [0,6,7,8] pQ) [(0,.ptr p 0),(6,.row q 0 xs.length cap 1),(7,.d (i64 xs.length)),(8,.d (i64 i))] ⟨bs,lo⟩=some (.exit 0,[],⟨bs',lo'⟩) ∧
  (lo'=lo/\xs.drop i=[]\/lo'<=p)/\Wr bs' p (l++mJ (xs.drop i))/\Fx p bs bs':=by
 intro m;have key:=ak (E:=E) (T:=TT) (val:=ah) [0,6,7,8] pQ;generalize Cd E TT ah (.loop [0,6,7,8] pQ)=W at key ⊢
 induction m with
 | zero =>
  intro i bs lo l hi hW h1 h2 hl;have h0:xs.drop i=[]:=ba (by omega);refine ⟨bs,lo,?_,.inl ⟨rfl,h0⟩,by simpa [h0,mJ] using hW,Fx.refl _ _⟩;rw [key];simp [pQ,show ¬ ((i:Int)<xs.length) from by omega]
 | succ m ih =>
  intro i bs lo l hi hW h1 h2 hl;have hlt:i<xs.length:=by omega
  have hd:xs.drop i=xs[i]::xs.drop (i+1):=aw hlt;have hix:=λh=>gD (b:=q) (o:=0) (z:=1) (cap:=cap) (kd:=.i64) (h:=h) hlt;simp only [Nat.mul_one,Nat.zero_add] at hix;have hs:sub (xs.map λs=>V.d (s.d Term.c)) i 1=some [.d (xs[i].d Term.c)]:=by
   rw [eT,if_pos (by simp; omega),aw (by simpa using hlt)]; simp
  have hx:=hsh _ (bh hlt);rw [hd] at hl ⊢;simp only [mJ,List.flatMap_cons,am] at hl;generalize xs[i]=x at *;obtain ⟨b1,l1,a1,a2,a3,a4⟩:=bm0 (E:=E) hx hW (by omega) lo;obtain ⟨f1,f2⟩:=a4.2 q _ hq h1 h2;obtain ⟨bs',lo',q1,q2,q3,q4⟩:=ih (i+1) b1 l1 (l++seqB nV x.l) (by omega) a3 f2 f1 (by rw [am,mJ]; omega);have hw:=aA hlt hxn;refine ⟨bs',lo',?_,.inr ?_,by simpa [mJ] using q3,a4.trans q4⟩
  . have hld:ldv ⟨bs,lo⟩ (.ptr q i) 1 true=some (.d (x.d Term.c),⟨bs,lo⟩):=by
     rw [aB,get_eq];show (match (match ai bs q with | some cs=>sub cs i 1 | none=>none) with | some cs=>_ | none=>none)=_;rw [h2]; simp only [hs]; rfl
    rw [key];simp [pQ,hix,hld,a1,hw,show ((i:Int)<xs.length) from by omega,-aB];simpa using q1
  . obtain ⟨rfl,_⟩ | q2:=q2
    . exact a2
    . exact q2
theorem Q8 {p:Nat}{bs:List Blk}{l:List Int}(h:Wr bs p l){xs:List (Sl Term)}(hne:xs≠[])(hn:xs.length<2 ^ 62)(hsh:∀ s∈xs,short s){q:Nat}(hq:q≠p){cap:Option Nat}{n:Nat}(hnn:n=xs.length)(h1:jr bs p≠some q)(h2:ai bs q=some (xs.map λs=>V.d (s.d Term.c)))(hl:l.length+(mJ xs).length<=big):jS E 297 [.ptr p 0,.row q 0 n cap 1] p bs l (mJ xs):=by
 intro lo;subst hnn;obtain ⟨bs',lo',k1,k2,k3,k4⟩:=HZ (E:=E) hn hsh hq (cap:=cap) xs.length 0 bs bs.length l (by omega) h h1 h2 (by simpa using hl);have hle:lo'<=p:=by
  obtain ⟨_,hx⟩ | k2:=k2
  . exact absurd (by simpa using hx) hne
  . exact k2
 refine ⟨bs',min lo lo',?_,by omega,by simpa using k3,k4⟩;rw [ax db7 dt6];simp [aa,U5];rw [aj];simp at k1;simp [k1];exact fI hle h.len
def jZ (s:Source):List Int:=mJ [s.names,s.spaces]++seqB uw s.nets.l
theorem bk0 (t:Source)(ht:t.fits big){p:Nat}{bs:List Blk}{l:List Int}(h:Wr bs p l)(hl:l.length+(jZ t).length<=big):jS E 234 [.ptr p 0,ag t.c] p bs l (jZ t):=by
 intro lo;simp only [jZ,am] at hl;have hW2:=h.lay [.cells (t.c.map .d),.cells [.d (t.names.d Term.c),.d (t.spaces.d Term.c)]];have hfr:bs.length+1≠p/\jr (bs++[.cells (t.c.map .d),.cells [.d (t.names.d Term.c),.d (t.spaces.d Term.c)]]) p≠some (bs.length+1):=by
  have:=h.len;refine ⟨by omega,?_⟩;rw [pg this];intro hh;have:=h.row_lt hh;omega
 obtain ⟨b1,l1,a1,a2,a3,a4⟩:=Q8 (E:=E) hW2 (xs:=[t.names,t.spaces]) (by simp) (by simp) (by
  intro s hs;simp only [List.mem_cons,List.not_mem_nil,or_false] at hs;obtain rfl | rfl:=hs
  . exact ht.1
  . exact ht.2.1) (q:=bs.length+1) hfr.1 (cap:=some 2) (n:=2) rfl hfr.2 (by simp) (by omega) bs.length
 obtain ⟨f1,f2,f3⟩:=a4.new h;obtain ⟨b2,l2,c1,c2,c3,c4⟩:=bl2 (E:=E) ht.2.2 a3 (by rw [am]; omega) l1;refine ⟨b2,min lo l2,?_,by omega,by simpa [jZ] using c3,((Fx.lay h.len _).trans a4).trans c4⟩;rw [ax da2 dr6];simp [aa,UR,aC,a1,f3,c1];exact fI c2 h.len
def kg (t:Target):List Int:=seqB yf t.ports.l++mJ [t.methods,t.paths,t.hosts]
theorem bk3 (t:Target)(ht:t.fits big){p:Nat}{bs:List Blk}{l:List Int}(h:Wr bs p l)(hl:l.length+(kg t).length<=big):jS E 236 [.ptr p 0,ag t.c] p bs l (kg t):=by
 intro lo;simp only [kg,am] at hl;obtain ⟨b1,l1,a1,a2,a3,a4⟩:=bl5 (E:=E) ht.1 (h.lay [.cells (t.c.map .d)]) (by omega) bs.length;obtain ⟨f1,f2,f3⟩:=a4.new h;have hfr:=a3.fresh [.cells [.d (t.methods.d Term.c),.d (t.paths.d Term.c),.d (t.hosts.d Term.c)]];obtain ⟨b2,l2,c1,c2,c3,c4⟩:=Q8 (E:=E) (a3.lay [.cells [.d (t.methods.d Term.c),.d (t.paths.d Term.c),.d (t.hosts.d Term.c)]]) (xs:=[t.methods,t.paths,t.hosts]) (by simp) (by simp) (by
  intro s hs;simp only [List.mem_cons,List.not_mem_nil,or_false] at hs;obtain rfl | rfl | rfl:=hs
  . exact ht.2.1
  . exact ht.2.2.1
  . exact ht.2.2.2) (q:=b1.length) hfr.1 (cap:=some 3) (n:=3) rfl hfr.2 (by simp) (by rw [am]; omega) l1
 refine ⟨b2,min lo l2,?_,by omega,by simpa [kg] using c3,((Fx.lay h.len _).trans a4).trans ((Fx.lay a3.len _).trans c4)⟩;rw [ax da4 dr8];simp [aa,UT,aC,a1,f3,c1];exact fI c2 h.len
def sD (w:When):List Int:=jg w.head++mJ [w.terms]
theorem bk4 (t:When)(ht:t.fits big){p:Nat}{bs:List Blk}{l:List Int}(h:Wr bs p l)(hl:l.length+(sD t).length<=big):jS E 238 [.ptr p 0,ag t.c] p bs l (sD t):=by
 intro lo;simp only [sD,am] at hl;obtain ⟨b1,l1,a1,a2,a3,a4⟩:=Cu (E:=E) (h.lay [.cells (t.c.map .d)]) t.head (by omega) bs.length;obtain ⟨f1,f2,f3⟩:=a4.new h;have hfr:=a3.fresh [.cells [.d (t.terms.d Term.c)]];obtain ⟨b2,l2,c1,c2,c3,c4⟩:=Q8 (E:=E) (a3.lay [.cells [.d (t.terms.d Term.c)]]) (xs:=[t.terms]) (by simp) (by simp) (by
  intro s hs;simp only [List.mem_cons,List.not_mem_nil,or_false] at hs;subst hs;exact ht) (q:=b1.length) hfr.1 (cap:=some 1) (n:=1) rfl hfr.2 (by simp) (by rw [am]; omega) l1
 refine ⟨b2,min lo l2,?_,by omega,by simpa [sD] using c3,((Fx.lay h.len _).trans a4).trans ((Fx.lay a3.len _).trans c4)⟩;rw [ax da6 ds5];simp [aa,UU,aC,a1,f3,c1];exact fI c2 h.len
def p9 (r:Rule):List Int:=seqB jZ r.frm.l++(seqB kg r.to.l++seqB sD r.whn.l)
theorem bi2 (t:Rule)(ht:t.fits big){p:Nat}{bs:List Blk}{l:List Int}(h:Wr bs p l)(hl:l.length+(p9 t).length<=big):jS E 157 [.ptr p 0,ag t.c] p bs l (p9 t):=by
 intro lo;simp only [p9,am] at hl;obtain ⟨b1,l1,a1,a2,a3,a4⟩:=sI (E:=E) (cells:=Source.c) (zero:=sl0 3) (λ_=>rfl) (by decide) rfl dy3 dr5 (enc:=jZ) (f:=234) ht.1.1 (λe he bs l h hl=>bk0 e (ht.1.2 e he) h hl) (h.lay [.cells (t.c.map .d)]) (by omega) bs.length;obtain ⟨f1,f2,f3⟩:=a4.new h;obtain ⟨b2,l2,c1,c2,c3,c4⟩:=sI (E:=E) (cells:=Target.c) (zero:=sl0 4) (λ_=>rfl) (by decide) rfl dy4 dr7 (enc:=kg) (f:=236) ht.2.1.1 (λe he bs l h hl=>bk3 e (ht.2.1.2 e he) h hl) a3 (by rw [am]; omega) l1;obtain ⟨g1,g2⟩:=c4.2 _ _ f1 f2 f3;obtain ⟨b3,l3,d1,d2,d3,d4⟩:=sI (E:=E) (cells:=When.c) (zero:=[(.d (.str ⟨#[]⟩)),(.d (.slice true []))]) (λ_=>rfl) (by decide) rfl dy5 dr9 (enc:=sD) (f:=238) ht.2.2.1 (λe he bs l h hl=>bk4 e (ht.2.2.2 e he) h hl) c3 (by rw [am,am]; omega) l2;refine ⟨b3,min lo l3,?_,by omega,by simpa [p9] using d3,(((Fx.lay h.len _).trans a4).trans c4).trans d4⟩;rw [ax cy9 dq4];simp [aa,Uy,a1,f3,c1,g1,d1];exact fI d2 h.len
end
