/- config.rises, config.some: at any width. -/
import Derived.Test.YtinmplbccmfheaaGreatCp
set_option maxRecDepth 100000
set_option linter.unusedVariables false
set_option linter.unusedSimpArgs false
namespace Go.Proofs.YtinmplbccmfheaaGreat
open IntKind (wrap)
section
def bQ:List Int->Bool
 | x::y::l=>decide (x<y)&&bQ (y::l)
 | _=>true
theorem vQ {l:List Int}{i:Nat}(h:i+1<l.length):bQ (l.drop i)=(decide (l[i]<l[i+1])&&bQ (l.drop (i+1))):=by
 rw [ba (show i<l.length by omega),ba h];simp only [bQ]
theorem yu {l:List Int}{i:Nat}(h:l.length<=i+1):bQ (l.drop i)=true:=by
 have:(l.drop i).length<=1:=by simp only [List.length_drop]; omega
 match l.drop i,this with
 | [],_=>rfl
 | [_],_=>rfl
 | _::_::_,h=>simp at h
theorem wz {α:Type}{cells:α->List D}{z:Nat}(hz:∀ x,(cells x).length=z){s:Sl α}{i:Nat}(hi:i<s.l.length){kd:IntKind}{h:Hp}:eP none z (.d (s.d cells)) (.d (.int kd i)) h=some (.eptr (cells s.l[i]) 0,h):=by
 simp [eP,Sl.d,hi,hz]
section
variable {E:Calls'}{T:FuncId->Option QF}{val:FuncId->Bool}
theorem KQ {α:Type}{cells:α->List D}{z:Nat}(hz:∀ x,(cells x).length=z){s:Sl α}(hs:s.l.length<2 ^ 62){f:FuncId}{g:α->Int}(hf:∀ e∈s.l,∀ h,Sm E T val f [ag (cells e)] h=some (.d (u64 (g e)),h)):∀ (m i:Nat),i+m=s.l.length->1<=i →
 Cd E T val (.loop [0,1,7,8] (yt z)) [(0,.d (s.d cells)),(1,.fn f []),(7,.d (i64 s.l.length)),(8,.d (i64 i))] ⟨[],0⟩ =
  if bQ ((s.l.map g).drop (i-1)) then some (.exit 0,[],⟨[],0⟩) else some (.ret,[(4,bl false)],⟨[],0⟩):=by
 intro m;have key:=ay (E:=E) (T:=T) (val:=val) [0,1,7,8] (yt z);generalize Cd E T val (.loop [0,1,7,8] (yt z))=W at key ⊢
 induction m with
 | zero =>
  intro i hi h1;rw [key,yu (by simp; omega)];simp [yt,show ¬ ((i:Int)<s.l.length) from by omega]
 | succ m ih =>
  intro i hi h1;have hlt:i<s.l.length:=by omega
  have hd:=vQ (l:=s.l.map g) (i:=i-1) (by simp; omega);have hs1:i-1+1=i:=by omega
  simp only [hs1,List.getElem_map] at hd;have hp1:=λh=>wz (cells:=cells) hz hlt (kd:=.i64) (h:=h);have hp0:=λh=>wz (cells:=cells) hz (show i-1<s.l.length by omega) (kd:=.i64) (h:=h);have c1:=hf _ (bj hlt);have c0:=hf _ (bj (show i-1<s.l.length by omega));have hw:=ax hlt hs;have hwm:wrap .i64 ((i:Int)-1)=((i-1:Nat):Int):=by rw [wrap64]<;>omega
  have hpos:0<i:=h1;have hih:=ih (i+1) (by omega) (by omega);simp only [show i+1-1=i by omega] at hih;rw [key,hd];generalize s.l[i]=y at *;generalize s.l[i-1]=x at *;have hsx:=bN (hz x);have hsy:=bN (hz y);by_cases hg:g x<g y
  . simp +decide [yt,hp1,hp0,hsx,hsy,hwm,hw,hpos,c0,c1,hlt,hg,ai,aa,az,show ¬ (g x>=g y) from by omega];simpa using hih
  . simp +decide [yt,hp1,hp0,hsx,hsy,hwm,hw,hpos,c0,c1,hlt,hg,ai,aa,az,show g x>=g y from by omega]
theorem vX {α:Type}{cells:α->List D}{z:Nat}{id:FuncId}(ht:T id=some (risQ z))(hv:val id=true)(hz:∀ x,(cells x).length=z){s:Sl α}(hs:s.l.length<2 ^ 62){f:FuncId}{g:α->Int}(hf:∀ e∈s.l,∀ h,Sm E T val f [ag (cells e)] h=some (.d (u64 (g e)),h))(h:Hp) :
 Sm E T val id [.d (s.d cells),.fn f []] h=some (bl (bQ (s.l.map g)),h):=by
 rw [aU ht hv];have hfr:frz h (.fn f [])=some (.fn f []):=rfl;have key:=ay (E:=E) (T:=T) (val:=val) [0,1,7,8] (yt z);have hl:=KQ (E:=E) (T:=T) (val:=val) hz hs hf;simp [af,risQ,hfr];rw [aj];simp only [xJ,zA];simp;generalize Cd E T val (.loop [0,1,7,8] (yt z))=W at key hl ⊢;by_cases h0:s.l=[]
 . rw [key];simp [yt,h0,bQ,gY]
 . have hpos:0<s.l.length:=List.length_pos_iff.2 h0;have h1:=hl (s.l.length-1) 1 (by omega) (by omega);simp at h1;have hp1:=λh=>wz (cells:=cells) hz hpos (kd:=.i64) (h:=h);rw [key];have hw:=ax hpos hs;simp at hw;simp +decide [yt,ai,az,hpos,hw,h1];cases bQ (s.l.map g)<;>simp [gY]
theorem oq {con id:FuncId}(ht:T id=some (someQ con))(hv:val id=false){v:V}{f:FuncId}{caps:List V}{b:Bool}{h:Hp}(hnu:nu v=some v)(hok:okV v=true)(hc:Sm E T val con [v,.fn f caps] ⟨h.bs,h.bs.length⟩=some (bl b,⟨h.bs,h.bs.length⟩)) :
 Sm E T val id [v,.fn f caps] h=some (bl b,h):=by
 rw [aJ ht hv];simp [someQ,af,hnu,hok,hc,V.under]
end
end
section
variable {E:Calls'}
theorem an1 (p:Pod)(h:Hp):Sm E TT au 139 [ag p.c] h=some (.d (u64 p.uid),h):=by rw [aU bi4 bz3]; simp [af,NE]
theorem an2 (p:Svc)(h:Hp):Sm E TT au 142 [ag p.c] h=some (.d (u64 p.id),h):=by rw [aU t193 v193]; simp [af,NF]
theorem an3 (p:Way)(h:Hp):Sm E TT au 149 [ag p.c] h=some (.d (u64 p.id),h):=by rw [aU bi5 bz4]; simp [af,NG]
theorem an4 (p:Pol)(h:Hp):Sm E TT au 154 [ag p.c] h=some (.d (u64 p.id),h):=by rw [aU bi6 bz5]; simp [af,R6]
theorem bu9:TT 158=some (risQ 7):=bk0
theorem bv0:TT 164=some (risQ 5):=bk8
theorem bv1:TT 166=some (risQ 2):=bl0
theorem bv2:TT 169=some (risQ 5):=bl2
theorem ap3 (s:Sl Pod)(hs:short s)(h:Hp):Sm E TT au 158 [.d (s.d Pod.c),.fn 139 []] h=some (bl (bQ (s.l.map Pod.uid)),h):=vX bu9 cb1 (λ_=>rfl) hs.lt (λe _ h=>an1 e h) h
theorem ap8 (s:Sl Svc)(hs:short s)(h:Hp):Sm E TT au 164 [.d (s.d Svc.c),.fn 142 []] h=some (bl (bQ (s.l.map Svc.id)),h):=vX bv0 cb6 (λ_=>rfl) hs.lt (λe _ h=>an2 e h) h
theorem aq0 (s:Sl Way)(hs:short s)(h:Hp):Sm E TT au 166 [.d (s.d Way.c),.fn 149 []] h=some (bl (bQ (s.l.map Way.id)),h):=vX bv1 cb8 (λ_=>rfl) hs.lt (λe _ h=>an3 e h) h
theorem aq2 (s:Sl Pol)(hs:short s)(h:Hp):Sm E TT au 169 [.d (s.d Pol.c),.fn 154 []] h=some (bl (bQ (s.l.map Pol.id)),h):=vX bv2 cc0 (λ_=>rfl) hs.lt (λe _ h=>an4 e h) h
def mJ (c:Cfg)(n:Int):Option Svc:=c.services.l.find? λp=>p.id==n
theorem Pw (c:Cfg)(hc:c.ok)(n:Int)(h:Hp):Sm E TT au 75 [c.v,.d (u64 n)] h=some (.tup (match mJ c n with | some p=>[p.v,bl true] | none=>[svc0.v,bl false]),h):=VE c hc n h
def bi (c:Cfg)(p:Pod):Bool:=decide (p.uid<10)||(decide (p.uid>=c.next)||!(bf p.ns&&bf p.sa))
def bn (c:Cfg)(p:Pod):Bool:=decide (p.host<2)||(decide (p.host>wrap .i64 (c.hosts+1))||!eu p.port)
def bq (c:Cfg)(p:Pod):Bool:=!(p.service==0)&&(match mJ c p.service with | some s=>!eqS s.ns p.ns | none=>true)
def bA (c:Cfg)(p:Pod):Bool:=bi c p||(bn c p||bq c p)
theorem ba3 (p:Pod)(hp:p.wf big)(h:Hp):Sm E TT au 156 [.agg [.d (.str p.ns),.d (.str p.sa)]] h=some (bl (bf p.ns&&bf p.sa),h):=ap2 p.ns p.sa hp.2.1 hp.2.2.1 h
theorem Yd (n:Int)(h:Hp):Sm E TT au 157 [.d (i64 n)] h=some (bl (eu n),h):=VO n h
theorem aj1 (c:Cfg)(hc:c.wf big):∀ (m i:Nat) (bs:List Blk),i+m=c.pods.l.length->ah bs 0=some (c.c.map .d) →
 ∃ ys,Cd E TT au (.loop [1,8,9,10] dm) [(1,.ptr 0 0),(8,.d (c.pods.d Pod.c)),(9,.d (i64 c.pods.l.length)),(10,.d (i64 i))] ⟨bs,0⟩ =
  cond ((c.pods.l.drop i).any (bA c)) (some (.ret,[(2,bl false)],⟨bs++ys,0⟩)) (some (.exit 0,[(1,.ptr 0 0)],⟨bs++ys,0⟩)):=by
 have hok:=hc.ok (br _);have hlt:=hok.1.lt;intro m;have key:=ay (E:=E) (T:=TT) (val:=au) [1,8,9,10] dm;generalize Cd E TT au (.loop [1,8,9,10] dm)=W at key ⊢
 induction m with
 | zero =>
  intro i bs hi hb;refine ⟨[],?_⟩;rw [key,bb (by omega)];simp [dm,show ¬ ((i:Int)<c.pods.l.length) from by omega]
 | succ m ih =>
  intro i bs hi hb;have h1:i<c.pods.l.length:=by omega
  have hx:=λh=>aA (z:=7) h (ac h1) (cells:=Pod.c) rfl;have hw:=ax h1 hlt;have hp:=hc.2.2.2.2.1.2 _ (bj h1);rw [key,ba h1];generalize c.pods.l[i]=p at *;have n1:=λh=>ba3 (E:=E) p hp h;have n2:=λh=>Yd (E:=E) p.port h;have n3:=λh=>Pw (E:=E) c hok p.service h;have hb2:=λys=>av (ys:=ys) hb;have h0:((i:Int)<c.pods.l.length):=by omega
  simp only [List.any_cons];cases hsv:mJ c p.service with
  | none =>
   simp only [hsv] at n3;obtain ⟨ys,q⟩:=ih (i+1) (bs++[.cells (p.c.map .d),.cells (svc0.c.map .d)]) (by omega) (hb2 _);generalize (List.drop (i+1) c.pods.l).any (bA c)=R at q ⊢;generalize hnm:(bf p.ns&&bf p.sa)=nm at n1;generalize hpt:eu p.port=pt at n2;by_cases a1:p.uid<10
   case pos=>exact ⟨_,by simp +decide [dm,hb,hb2,hx,n1,n2,n3,h0,ai,aa,az,bA,bi,bn,bq,hsv,a1]; rfl⟩
   by_cases a2:p.uid>=c.next
   case pos=>exact ⟨_,by simp +decide [dm,hb,hb2,hx,n1,n2,n3,h0,ai,aa,az,bA,bi,bn,bq,hsv,a1,a2]; rfl⟩
   cases nm
   case false=>exact ⟨_,by simp +decide [dm,hb,hb2,hx,n1,n2,n3,h0,ai,aa,az,bA,bi,bn,bq,hsv,a1,a2,hnm]; rfl⟩
   by_cases b1:p.host<2
   case pos=>exact ⟨_,by simp +decide [dm,hb,hb2,hx,n1,n2,n3,h0,ai,aa,az,bA,bi,bn,bq,hsv,a1,a2,hnm,b1]; rfl⟩
   by_cases b2:p.host>wrap .i64 (c.hosts+1)
   case pos=>exact ⟨_,by simp +decide [dm,hb,hb2,hx,n1,n2,n3,h0,ai,aa,az,bA,bi,bn,bq,hsv,a1,a2,hnm,b1,b2]; rfl⟩
   cases pt
   case false=>exact ⟨_,by simp +decide [dm,hb,hb2,hx,n1,n2,n3,h0,ai,aa,az,bA,bi,bn,bq,hsv,a1,a2,hnm,b1,b2,hpt]; rfl⟩
   by_cases c1:p.service=0
   case pos =>
    have n4:=n3;rw [c1] at n4;refine ⟨[.cells (p.c.map .d),.cells (svc0.c.map .d)]++ys,?_⟩;simp +decide [n4,dm,hb,hb2,hx,n1,n2,n3,h0,ai,aa,az,bA,bi,bn,bq,hsv,a1,a2,hnm,b1,b2,hpt,c1,hw];simpa using q
   exact ⟨_,by simp +decide [dm,hb,hb2,hx,n1,n2,n3,h0,ai,aa,az,bA,bi,bn,bq,hsv,a1,a2,hnm,b1,b2,hpt,c1]; rfl⟩
  | some s =>
   simp only [hsv] at n3;obtain ⟨ys,q⟩:=ih (i+1) (bs++[.cells (p.c.map .d),.cells (s.c.map .d)]) (by omega) (hb2 _);generalize (List.drop (i+1) c.pods.l).any (bA c)=R at q ⊢;generalize hnm:(bf p.ns&&bf p.sa)=nm at n1;generalize hpt:eu p.port=pt at n2;by_cases a1:p.uid<10
   case pos=>exact ⟨_,by simp +decide [dm,hb,hb2,hx,n1,n2,n3,h0,ai,aa,az,bA,bi,bn,bq,hsv,a1]; rfl⟩
   by_cases a2:p.uid>=c.next
   case pos=>exact ⟨_,by simp +decide [dm,hb,hb2,hx,n1,n2,n3,h0,ai,aa,az,bA,bi,bn,bq,hsv,a1,a2]; rfl⟩
   cases nm
   case false=>exact ⟨_,by simp +decide [dm,hb,hb2,hx,n1,n2,n3,h0,ai,aa,az,bA,bi,bn,bq,hsv,a1,a2,hnm]; rfl⟩
   by_cases b1:p.host<2
   case pos=>exact ⟨_,by simp +decide [dm,hb,hb2,hx,n1,n2,n3,h0,ai,aa,az,bA,bi,bn,bq,hsv,a1,a2,hnm,b1]; rfl⟩
   by_cases b2:p.host>wrap .i64 (c.hosts+1)
   case pos=>exact ⟨_,by simp +decide [dm,hb,hb2,hx,n1,n2,n3,h0,ai,aa,az,bA,bi,bn,bq,hsv,a1,a2,hnm,b1,b2]; rfl⟩
   cases pt
   case false=>exact ⟨_,by simp +decide [dm,hb,hb2,hx,n1,n2,n3,h0,ai,aa,az,bA,bi,bn,bq,hsv,a1,a2,hnm,b1,b2,hpt]; rfl⟩
   by_cases c1:p.service=0
   case pos =>
    have n4:=n3;rw [c1] at n4;refine ⟨[.cells (p.c.map .d),.cells (s.c.map .d)]++ys,?_⟩;simp +decide [n4,dm,hb,hb2,hx,n1,n2,n3,h0,ai,aa,az,bA,bi,bn,bq,hsv,a1,a2,hnm,b1,b2,hpt,c1,hw];simpa using q
   cases c2:eqS s.ns p.ns
   case false=>exact ⟨_,by simp +decide [dm,hb,hb2,hx,n1,n2,n3,h0,ai,aa,az,bA,bi,bn,bq,hsv,a1,a2,hnm,b1,b2,hpt,c1,c2]; rfl⟩
   refine ⟨[.cells (p.c.map .d),.cells (s.c.map .d)]++ys,?_⟩;simp +decide [dm,hb,hb2,hx,n1,n2,n3,h0,ai,aa,az,bA,bi,bn,bq,hsv,a1,a2,hnm,b1,b2,hpt,c1,c2,hw];simpa using q
def gV (c:Cfg):Bool:=!c.pods.l.any (bA c)&&bQ (c.pods.l.map Pod.uid)
theorem an5 (c:Cfg)(hc:c.wf big)(h:Hp):Sm E TT au 101 [c.v] h=some (bl (gV c),h):=by
 have hok:=hc.ok (br _);obtain ⟨ys,q⟩:=aj1 (E:=E) c hc c.pods.l.length 0 [.cells (c.c.map .d)] (by omega) (by simp);have n1:=λh=>ap3 (E:=E) c.pods hok.1 h;rw [aU bi7 bz6];simp [af,NH];rw [aj];simp at q;simp [q];cases hA:c.pods.l.any (bA c)<;>simp [gV,hA,n1]
end
section
variable {E:Calls'}
theorem aa0:TT 160=some (someQ 207):=bk4
theorem aa1:TT 207=some (anyQ 76):=bm5
theorem Z5:TT 76=some (idxQ 2):=t109
theorem u201:TT 150=some (someQ 78):=t201
theorem bu7:TT 78=some (anyQ 61):=bj4
theorem bu6:TT 61=some (idxQ 5):=ZM
theorem u196:TT 145=some (someQ 199):=t196
theorem bu8:TT 199=some (anyQ 125):=bj7
theorem bv3:TT 125=some (idxQ 5):=bm4
theorem ap6 (w:Way)(s:Svc){x:Nat}{h:Hp}(hb:ah h.bs x=some (s.c.map .d)):Sm E TT au 161 [ag w.c,.ptr x 0] h=some (bl (w.id==s.way),h):=by
 rw [aJ bk5 cb3];simp [af,N8,av hb,V.under]
theorem ap5 (l:Sl Way)(hl:short l)(s:Svc){x:Nat}{h:Hp}(hb:ah h.bs x=some (s.c.map .d)):Sm E TT au 160 [.d (l.d Way.c),.fn 161 [.ptr x 0]] h=some (bl (l.l.any λw=>w.id==s.way),h) :=
 oq aa0 aa8 rfl rfl (S_any Way.c (z:=2) Z5 v109 aa1 aa9 (RowIs.of (cells:=Way.c) (λ_=>rfl) _) hl.lt λe _ lo=>ap6 e s hb)
def dx (n:Int):Bool:=decide (n>=1)&&decide (n<=4611686018427387903)
theorem Ye (n:Int)(h:Hp):Sm E TT au 162 [.d (u64 n)] h=some (bl (dx n),h):=ap7 n h
def fH (c:Cfg)(s:Svc):Bool:=!dx s.id||(!bf s.ns||(!eu s.port||!((s.way==0)||c.bound.l.any λw=>w.id==s.way)))
theorem ap4 (c:Cfg)(hc:c.ok)(s:Svc)(hs:s.wf big){x:Nat}{h:Hp}(hb:ah h.bs x=some (c.c.map .d)):Sm E TT au 159 [ag s.c,.ptr x 0] h=some (bl (fH c s),h):=by
 rw [aJ bk3 cb2];have n1:=λh=>Ye (E:=E) s.id h;have n2:=λh=>LW (E:=E) s.ns hs.2.1 h;have n3:=λh=>Yd (E:=E) s.port h;have n5:∀ lo,Sm E TT au 160 [.d (c.bound.d Way.c),.fn 161 [.ptr h.bs.length 0]] ⟨h.bs++[.cells (s.c.map .d)],lo⟩=some (bl (c.bound.l.any λw=>w.id==s.way),⟨h.bs++[.cells (s.c.map .d)],lo⟩):=λlo=>ap5 c.bound hc.2.2.1 s (by simp);unfold fH;generalize dx s.id=A at *;generalize bf s.ns=B at *;generalize eu s.port=C at *;generalize (c.bound.l.any λw=>w.id==s.way)=F at *;have hb2:=λys=>av (ys:=ys) hb;by_cases w0:s.way=0
 . cases A<;>cases B<;>cases C<;>simp +decide [af,Kv,hb,hb2,n1,n2,n3,w0,ai,aa,az,V.under,aB]
 . cases A<;>cases B<;>cases C<;>cases F<;>simp +decide [af,Kv,hb,hb2,n1,n2,n3,n5,w0,ai,aa,az,V.under,aB]
def bU (c:Cfg):Bool:=!c.services.l.any (fH c)&&bQ (c.services.l.map Svc.id)
theorem an6 (c:Cfg)(hc:c.wf big)(h:Hp):Sm E TT au 102 [c.v] h=some (bl (bU c),h):=by
 have hok:=hc.ok (br _);have n1:=λh=>ap8 (E:=E) c.services hok.2.1 h;have n2:Sm E TT au 150 [.d (c.services.d Svc.c),.fn 159 [.ptr 0 0]] ⟨[.cells (c.c.map .d)],0⟩=some (bl (c.services.l.any (fH c)),⟨[.cells (c.c.map .d)],0⟩) :=
  oq u201 v201 rfl rfl (S_any Svc.c (z:=5) bu6 aa3 bu7 ca4 (RowIs.of (cells:=Svc.c) (λ_=>rfl) _) hok.2.1.lt λe he lo=>ap4 c hok e (hc.2.2.2.2.2.1.2 e he) (by simp))
 rw [aU t208 v208];unfold bU;generalize c.services.l.any (fH c)=A at *;cases A<;>simp +decide [af,NI,n1,n2,ai,aa,az,aB]
def fG (c:Cfg)(p:Pol):Bool:=decide (p.id<1)||(!fB p||(!(p.service==0)&&(mJ c p.service).isNone))
section
variable (h385:∀ t:Target,t.wf big->∀ h,E 233 [ag t.c] h=some (bl (aS t),h))
include h385
theorem aq1 (c:Cfg)(hc:c.ok)(p:Pol)(hp:p.wf big){x:Nat}{h:Hp}(hb:ah h.bs x=some (c.c.map .d)):Sm E TT au 167 [ag p.c,.ptr x 0] h=some (bl (fG c p),h):=by
 rw [aJ bl1 cb9];have n1:=λh=>VN h385 p hp h;have n2:=λh=>Pw (E:=E) c hc p.service h;have hb2:=λys=>av (ys:=ys) hb;unfold fG;generalize fB p=A at *;cases hsv:mJ c p.service with
 | none =>
  simp only [hsv] at n2;by_cases a1:p.id<1
  case pos=>simp +decide [af,CU,hb,hb2,n1,n2,a1,ai,aa,az,V.under,aB]
  by_cases a2:p.service=0
  . rw [a2] at n2;cases A<;>simp +decide [af,CU,hb,hb2,n1,n2,a1,a2,ai,aa,az,V.under,aB]
  . cases A<;>simp +decide [af,CU,hb,hb2,n1,n2,a1,a2,ai,aa,az,V.under,aB]
 | some s =>
  simp only [hsv] at n2;by_cases a1:p.id<1
  case pos=>simp +decide [af,CU,hb,hb2,n1,n2,a1,ai,aa,az,V.under,aB]
  by_cases a2:p.service=0
  . rw [a2] at n2;cases A<;>simp +decide [af,CU,hb,hb2,n1,n2,a1,a2,ai,aa,az,V.under,aB]
  . cases A<;>simp +decide [af,CU,hb,hb2,n1,n2,a1,a2,ai,aa,az,V.under,aB]
def bP (c:Cfg):Bool:=!c.policies.l.any (fG c)&&bQ (c.policies.l.map Pol.id)
theorem an9 (c:Cfg)(hc:c.wf big)(h:Hp):Sm E TT au 105 [c.v] h=some (bl (bP c),h):=by
 have hok:=hc.ok (br _);have n1:=λh=>aq2 (E:=E) c.policies hok.2.2.2.1 h;have n2:Sm E TT au 145 [.d (c.policies.d Pol.c),.fn 167 [.ptr 0 0]] ⟨[.cells (c.c.map .d)],0⟩=some (bl (c.policies.l.any (fG c)),⟨[.cells (c.c.map .d)],0⟩) :=
  oq u196 v196 rfl rfl (S_any Pol.c (z:=5) bv3 cd2 bu8 ca7 (RowIs.of (cells:=Pol.c) (λ_=>rfl) _) hok.2.2.2.1.lt λe he lo=>aq1 h385 c hok e (hc.2.2.2.2.2.2.2.2 e he) (by simp))
 rw [aU bi9 bz8];unfold bP;generalize c.policies.l.any (fG c)=A at *;cases A<;>simp +decide [af,NL,n1,n2,ai,aa,az,aB]
end
end
section
variable {E:Calls'}
theorem ap9 (w v:Way){x:Nat}{h:Hp}(hb:ah h.bs x=some (w.c.map .d)):Sm E TT au 165 [ag v.c,.ptr x 0] h=some (bl (v.node==w.node),h):=by
 rw [aJ bk9 cb7];simp [af,Su,av hb,V.under]
theorem VP (l:Sl Way)(hl:l.l.length<2 ^ 62)(w:Way){x:Nat}{h:Hp}(hb:ah h.bs x=some (w.c.map .d)):Sm E TT au 160 [.d (l.d Way.c),.fn 165 [.ptr x 0]] h=some (bl (l.l.any λv=>v.node==w.node),h) :=
 oq aa0 aa8 rfl rfl (S_any Way.c (z:=2) Z5 v109 aa1 aa9 (RowIs.of (cells:=Way.c) (λ_=>rfl) _) hl λe _ lo=>ap9 w e hb)
def iM (c:Cfg)(pre:List Way)(w:Way):Bool:=!dx w.id||(decide (w.node<wrap .i64 (c.hosts+2))||(decide (w.node>wrap .i64 (wrap .i64 (c.hosts+1)+c.ways))||pre.any λv=>v.node==w.node))
def iH (c:Cfg):List Way->List Way->Bool
 | _,[]=>false
 | pre,w::l=>iM c pre w||iH c (pre++[w]) l
theorem K9 {h:Hp}{ev:X->V}{α:Type}{cells:α->List D}{z:Nat}(hz:∀ x,(cells x).length=z){s:Sl α}{x:X}{n:Nat}(hx:ev x=.d (i64 n))(hn:n<s.l.length):dH h ev .sl z (.d (s.d cells)) none (some x) none=some (.d (Sl.d cells ⟨s.nl,s.l.take n⟩)):=by
 simp only [dH,Sl.d,dL,hx,b9];rw [if_pos (by omega)];simp only [Int.toNat_natCast];have hh:((s.l.map cells).headD (List.replicate z .nilp)).length=z:=by
  cases s.l with
  | nil=>simp
  | cons a l=>simp [hz]
 rw [if_pos ⟨by omega,by omega,hh⟩];simp [List.map_take]
theorem aj2 (c:Cfg)(hc:c.wf big):∀ (m i:Nat) (bs:List Blk),i+m=c.bound.l.length->ah bs 0=some (c.c.map .d) →
 ∃ ys,Cd E TT au (.loop [1,7,8,9] jJ) [(1,.ptr 0 0),(7,.d (c.bound.d Way.c)),(8,.d (i64 c.bound.l.length)),(9,.d (i64 i))] ⟨bs,0⟩ =
  cond (iH c (c.bound.l.take i) (c.bound.l.drop i)) (some (.ret,[(2,bl false)],⟨bs++ys,0⟩)) (some (.exit 0,[(1,.ptr 0 0)],⟨bs++ys,0⟩)):=by
 have hok:=hc.ok (br _);have hlt:=hok.2.2.1.lt;intro m;have key:=ay (E:=E) (T:=TT) (val:=au) [1,7,8,9] jJ;generalize Cd E TT au (.loop [1,7,8,9] jJ)=W at key ⊢
 induction m with
 | zero =>
  intro i bs hi hb;refine ⟨[],?_⟩;rw [key,bb (by omega)];simp [jJ,iH,show ¬ ((i:Int)<c.bound.l.length) from by omega]
 | succ m ih =>
  intro i bs hi hb;have h1:i<c.bound.l.length:=by omega
  have hx:=λh=>aA (z:=2) h (ac h1) (cells:=Way.c) rfl;have hw:=ax h1 hlt;have htake:c.bound.l.take (i+1)=c.bound.l.take i++[c.bound.l[i]]:=by rw [List.take_add_one,ac h1]; rfl
  have hwf:=hc.2.2.2.2.2.2.1.2 _ (bj h1);rw [key,ba h1];generalize c.bound.l[i]=w at *;have n1:=λh=>Ye (E:=E) w.id h;have hsl:=λ(h:Hp) (ev:X->V) (hx:ev (.t 16)=.d (i64 i))=>K9 (h:=h) (ev:=ev) (cells:=Way.c) (z:=2) (λ_=>rfl) (s:=c.bound) hx h1;have n2:Sm E TT au 160 [.d (Sl.d Way.c ⟨c.bound.nl,c.bound.l.take i⟩),.fn 165 [.ptr bs.length 0]] ⟨bs++[.cells (w.c.map .d)],0⟩=some (bl ((c.bound.l.take i).any λv=>v.node==w.node),⟨bs++[.cells (w.c.map .d)],0⟩) :=
   VP ⟨c.bound.nl,c.bound.l.take i⟩ (by simp only [List.length_take]; omega) w (by simp)
  have hb2:=λys=>av (ys:=ys) hb;have h0:((i:Int)<c.bound.l.length):=by omega
  obtain ⟨ys,q⟩:=ih (i+1) (bs++[.cells (w.c.map .d)]) (by omega) (hb2 _);rw [htake] at q;simp only [iH];generalize iH c (c.bound.l.take i++[w]) (c.bound.l.drop (i+1))=R at q ⊢;unfold iM;generalize dx w.id=A at *;generalize ((c.bound.l.take i).any λv=>v.node==w.node)=F at *;generalize hS:Sl.d Way.c ⟨c.bound.nl,c.bound.l.take i⟩=SS at *;cases A
  case false=>exact ⟨_,by simp +decide [jJ,hb,hb2,hx,n1,n2,hsl,h0,ai,aa,az,aB]; rfl⟩
  by_cases b1:w.node<wrap .i64 (c.hosts+2)
  case pos=>exact ⟨_,by simp +decide [jJ,hb,hb2,hx,n1,n2,hsl,h0,ai,aa,az,aB,b1]; rfl⟩
  by_cases b2:w.node>wrap .i64 (wrap .i64 (c.hosts+1)+c.ways)
  case pos=>exact ⟨_,by simp +decide [jJ,hb,hb2,hx,n1,n2,hsl,h0,ai,aa,az,aB,b1,b2]; rfl⟩
  cases F
  case true=>exact ⟨_,by simp +decide [jJ,hb,hb2,hx,n1,n2,hsl,h0,ai,aa,az,aB,b1,b2]; rfl⟩
  refine ⟨[.cells (w.c.map .d)]++ys,?_⟩;simp +decide [jJ,hb,hb2,hx,n1,n2,hsl,h0,ai,aa,az,aB,b1,b2,hw];simpa using q
def fF (c:Cfg):Bool:=!iH c [] c.bound.l&&bQ (c.bound.l.map Way.id)
theorem an8 (c:Cfg)(hc:c.wf big)(h:Hp):Sm E TT au 104 [c.v] h=some (bl (fF c),h):=by
 have hok:=hc.ok (br _);obtain ⟨ys,q⟩:=aj2 (E:=E) c hc c.bound.l.length 0 [.cells (c.c.map .d)] (by omega) (by simp);have n1:=λh=>aq0 (E:=E) c.bound hok.2.2.1 h;rw [aU t210 v210];unfold fF;simp at q;generalize iH c [] c.bound.l=A at *;simp [af,NK];rw [aj];simp [q];cases A<;>simp [n1]
end
section
variable {E:Calls'}
structure Ar (c:Cfg) (acc:List Int) (bs:List Blk) (v:V):Prop where
 c0:ah bs 0=some (c.c.map .d)
 is:∃ b cap,0<b/\v=.row b 0 acc.length cap 1/\ah bs b=some (acc.map (iv .u32))/\(cap=none\/cap=some acc.length)
 ne:acc≠[]
theorem Ar.nu {c:Cfg}{acc:List Int}{bs:List Blk}{v:V}(h:Ar c acc bs v):Go.Proofs.YtinmplbccmfheaaGreat.nu v=some v:=by
 obtain ⟨b,cap,_,rfl,_⟩:=h.is; rfl
theorem Ar.lay {c:Cfg}{acc:List Int}{bs:List Blk}{v:V}(h:Ar c acc bs v)(ys:List Blk):Ar c acc (bs++ys) v:=by
 obtain ⟨b,cap,k1,k2,k3,k4⟩:=h.is;exact ⟨av h.c0,⟨b,cap,k1,k2,av k3,k4⟩,h.ne⟩
theorem Ar.app {c:Cfg}{acc:List Int}{bs:List Blk}{v:V}(h:Ar c acc bs v)(hl:acc.length<big)(lo:Nat){x:Int}{r:Nat}{cap:Option Nat}(hr:ah bs r=some [iv .u32 x]) :
 ∃ v' bs' lo',d9 ⟨bs,lo⟩ 1 4 v (.row r 0 1 cap 1)=some (v',⟨bs',lo'⟩)/\Ar c (acc++[x]) bs' v':=by
 obtain ⟨b,cp,k1,rfl,k3,k4⟩:=h.is;have hbl:=aK k3;have h0l:=aK h.c0;have hrc:aH ⟨bs,lo⟩ (.row r 0 1 cap 1) 1=some (1,[iv .u32 x]):=by
  simp only [aH,if_true,get_eq,hr]; rfl
 have hsub:sub (acc.map (iv .u32)) 0 (acc.length * 1)=some (acc.map (iv .u32)):=bN (by simp);have hroom:roomy (acc.length+1) 4=true:=by
  simp only [roomy,aE,bw]; exact ⟨hl,by decide⟩
 have hpos:0<acc.length:=List.length_pos_iff.2 h.ne;have hcs:(acc.map (iv .u32))++[iv .u32 x]=(acc++[x]).map (iv .u32):=by simp
 obtain rfl | rfl:=k4
 . refine ⟨.row bs.length 0 (acc.length+1) none 1,bs.set b (.cells [])++[.cells ((acc++[x]).map (iv .u32))],min lo b,?_,⟨?_,?_,by simp⟩⟩
   . simp only [d9,hrc,aI,get_eq,k3,hsub,hroom];simp [hpos,Hp.set]
   . refine av ?_;have:=h.c0;unfold ah at this ⊢;rw [am (by omega)]; exact this
   . exact ⟨bs.length,none,by omega,by simp,by have:=dU (bs:=bs.set b (.cells [])) (ys:=[.cells ((acc++[x]).map (iv .u32))]); simp only [List.length_set] at this; rw [this]; rfl,.inl rfl⟩
 . refine ⟨.row bs.length 0 (acc.length+1) none 1,bs++[.cells ((acc++[x]).map (iv .u32))],lo,?_,⟨av h.c0,?_,by simp⟩⟩
   . simp only [d9,hrc,aI,get_eq,k3,hsub,hroom];simp;intro hh; omega
   . exact ⟨bs.length,none,by omega,by simp,by rw [dU]; rfl,.inl rfl⟩
theorem UX (c:Cfg)(hc:c.ok)(hsm:c.pods.l.length<=2 ^ 20):∀ (m i:Nat) (acc:List Int) (bs:List Blk) (lo:Nat) (v:V),i+m=c.pods.l.length->acc.length=i+1->Ar c acc bs v →
 ∃ v' bs' lo',Cd E TT au (.loop [1,3,15,16,17] pW) [(1,.ptr 0 0),(3,v),(15,.d (c.pods.d Pod.c)),(16,.d (i64 c.pods.l.length)),(17,.d (i64 i))] ⟨bs,lo⟩ =
  some (.exit 0,[(1,.ptr 0 0),(3,v')],⟨bs',lo'⟩)/\Ar c (acc++(c.pods.l.drop i).map Pod.addr) bs' v':=by
 have hlt:=hc.1.lt;intro m;have key:=ay (E:=E) (T:=TT) (val:=au) [1,3,15,16,17] pW;generalize Cd E TT au (.loop [1,3,15,16,17] pW)=W at key ⊢
 induction m with
 | zero =>
  intro i acc bs lo v hi ha hA;refine ⟨v,bs,lo,?_,by rw [bb (by omega)]; simpa using hA⟩;rw [key];simp [pW,show ¬ ((i:Int)<c.pods.l.length) from by omega]
 | succ m ih =>
  intro i acc bs lo v hi ha hA;have h1:i<c.pods.l.length:=by omega
  have hx:=λh=>aA (z:=7) h (ac h1) (cells:=Pod.c) rfl;have hw:=ax h1 hlt;have hnu:=hA.nu;rw [ba h1];generalize c.pods.l[i]=p at *;have hA2:=hA.lay [.cells (p.c.map .d),.cells [iv .u32 p.addr]];obtain ⟨v1,bs1,lo1,k1,k2⟩:=hA2.app (by show _<2 ^ 30; omega) (min lo bs.length) (x:=p.addr) (r:=bs.length+1) (cap:=some 1) (by simp);have hnu1:=k2.nu;obtain ⟨v',bs',lo',q1,q2⟩:=ih (i+1) (acc++[p.addr]) bs1 lo1 v1 (by omega) (by simp; omega) k2;refine ⟨v',bs',lo',?_,by simpa using q2⟩;rw [key];simp [iv] at k1;simp [pW,hx,hnu,aL,k1,hnu1,hw,show ((i:Int)<c.pods.l.length) from by omega];simpa using q1
theorem UY (c:Cfg)(hc:c.ok)(n:Nat)(hn:n<=2 ^ 20)(hsm:c.services.l.length<=2 ^ 20):∀ (m i:Nat) (acc:List Int) (bs:List Blk) (lo:Nat) (v:V),i+m=c.services.l.length->acc.length=n+i+1->Ar c acc bs v →
 ∃ v' bs' lo',Cd E TT au (.loop [3,28,29,30] pX) [(3,v),(28,.d (c.services.d Svc.c)),(29,.d (i64 c.services.l.length)),(30,.d (i64 i))] ⟨bs,lo⟩ =
  some (.exit 2,[(3,v')],⟨bs',lo'⟩)/\Ar c (acc++(c.services.l.drop i).map Svc.addr) bs' v':=by
 have hlt:=hc.2.1.lt;intro m;have key:=ay (E:=E) (T:=TT) (val:=au) [3,28,29,30] pX;generalize Cd E TT au (.loop [3,28,29,30] pX)=W at key ⊢
 induction m with
 | zero =>
  intro i acc bs lo v hi ha hA;refine ⟨v,bs,lo,?_,by rw [bb (by omega)]; simpa using hA⟩;rw [key];simp [pX,show ¬ ((i:Int)<c.services.l.length) from by omega]
 | succ m ih =>
  intro i acc bs lo v hi ha hA;have h1:i<c.services.l.length:=by omega
  have hx:=λh=>aA (z:=5) h (ac h1) (cells:=Svc.c) rfl;have hw:=ax h1 hlt;have hnu:=hA.nu;rw [ba h1];generalize c.services.l[i]=p at *;have hA2:=hA.lay [.cells (p.c.map .d),.cells [iv .u32 p.addr]];obtain ⟨v1,bs1,lo1,k1,k2⟩:=hA2.app (by show _<2 ^ 30; omega) (min lo bs.length) (x:=p.addr) (r:=bs.length+1) (cap:=some 1) (by simp);have hnu1:=k2.nu;obtain ⟨v',bs',lo',q1,q2⟩:=ih (i+1) (acc++[p.addr]) bs1 lo1 v1 (by omega) (by simp; omega) k2;refine ⟨v',bs',lo',?_,by simpa using q2⟩;rw [key];simp [iv] at k1;simp [pX,hx,hnu,aL,k1,hnu1,hw,show ((i:Int)<c.services.l.length) from by omega];simpa using q1
theorem AV {bs:List Blk}{b lo:Nat}{l:List Int}(hb:ah bs b=some (l.map (iv .u32))){j:Nat}(hj:j<l.length):ldv ⟨bs,lo⟩ (.ptr b j) 1 true=some (.d (.int .u32 l[j]),⟨bs,lo⟩):=by
 have hs:sub (l.map (iv .u32)) j 1=some [iv .u32 l[j]]:=by
  rw [eG,if_pos (by simp; omega),ba (by simpa using hj)]; simp
 rw [aG,get_eq];show (match (match ah bs b with | some cs=>sub cs j 1 | none=>none) with | some cs=>_ | none=>none)=_;rw [hb];simp only [hs]; rfl
theorem UZ {bs:List Blk}{b lo:Nat}{l:List Int}(hb:ah bs b=some (l.map (iv .u32)))(hl:l.length<2 ^ 62){cap:Option Nat}{i:Nat}(hi:i<l.length)(x:Int):∀ (m j:Nat),j+m=i →
 Cd E TT au (.loop [3,8,10,40,41,42,49,50,51] nD) [(3,.row b 0 l.length cap 1),(8,.d (.bool false)),(10,.d (.int .u32 x)),(40,.row b 0 l.length cap 1),(41,.d (i64 l.length)),(42,.d (i64 i)),(49,.row b 0 i cap 1),(50,.d (i64 i)),(51,.d (i64 j))] ⟨bs,lo⟩ =
  cond (((l.take i).drop j).any λy=>x==y) (some (.exit 4,[(8,bl true)],⟨bs,lo⟩)) (some (.exit 6,[(3,.row b 0 l.length cap 1),(8,.d (.bool false)),(40,.row b 0 l.length cap 1),(41,.d (i64 l.length)),(42,.d (i64 i))],⟨bs,lo⟩)):=by
 intro m;have key:=ay (E:=E) (T:=TT) (val:=au) [3,8,10,40,41,42,49,50,51] nD;generalize Cd E TT au (.loop [3,8,10,40,41,42,49,50,51] nD)=W at key ⊢
 induction m with
 | zero =>
  intro j hj;rw [key,bb (by simp; omega)];simp [nD,show ¬ ((j:Int)<(i:Int)) from by omega]
 | succ m ih =>
  intro j hj;have h1:j<i:=by omega
  have hix:=λh=>fQ (b:=b) (o:=0) (z:=1) (cap:=cap) (kd:=.i64) (h:=h) h1;have hld:=AV (lo:=lo) hb (show j<l.length by omega);have hw:=ax (show j<l.length by omega) hl;simp only [Nat.mul_one,Nat.zero_add] at hix;have q:=ih (j+1) (by omega);rw [key,ba (show j<(l.take i).length by simp; omega)];simp only [List.getElem_take,List.any_cons];generalize l[j]'(by omega)=y at *;generalize ((l.take i).drop (j+1)).any (λy=>x==y)=R at *;have h0:((j:Int)<(i:Int)):=by omega
  by_cases hxy:x=y
  . simp [nD,hix,hld,h0,h1,hxy,-aG]
  . simp [nD,hix,hld,h0,h1,hxy,hw,-aG];simpa using q
def dup:List Int->List Int->Bool
 | _,[]=>false
 | pre,x::l=>(pre.any λy=>x==y)||dup (pre++[x]) l
theorem U0 {bs:List Blk}{b lo:Nat}{l:List Int}(hb:ah bs b=some (l.map (iv .u32)))(hl:l.length<2 ^ 62){cap:Option Nat}:∀ (m i:Nat),i+m=l.length →
 Cd E TT au (.loop [3,8,40,41,42] pY) [(3,.row b 0 l.length cap 1),(8,.d (.bool false)),(40,.row b 0 l.length cap 1),(41,.d (i64 l.length)),(42,.d (i64 i))] ⟨bs,lo⟩ =
  some (.exit 4,[(8,bl (dup (l.take i) (l.drop i)))],⟨bs,lo⟩):=by
 intro m;have key:=ay (E:=E) (T:=TT) (val:=au) [3,8,40,41,42] pY;generalize Cd E TT au (.loop [3,8,40,41,42] pY)=W at key ⊢
 induction m with
 | zero =>
  intro i hi;rw [key,bb (by omega)];simp [pY,dup,show ¬ ((i:Int)<l.length) from by omega]
 | succ m ih =>
  intro i hi;have h1:i<l.length:=by omega
  have hix:=λh=>fQ (b:=b) (o:=0) (z:=1) (cap:=cap) (kd:=.i64) (h:=h) h1;have hld:=AV (lo:=lo) hb h1;have hw:=ax h1 hl;simp only [Nat.mul_one,Nat.zero_add] at hix;have q:=ih (i+1) (by omega);have htake:l.take (i+1)=l.take i++[l[i]]:=by rw [List.take_add_one,ac h1]; rfl
  have hin:=UZ (E:=E) (lo:=lo) hb hl (cap:=cap) h1 l[i] i 0 (by omega);have hsl:=λ(h:Hp) (ev:X->V) (hx:ev (.t 48)=.d (.int .i64 i))=>pF (h:=h) (ev:=ev) (x:=.t 48) (b:=b) (z:=1) (len:=l.length) (cap:=cap) (n:=i) hx (by omega);rw [htake] at q;rw [key,ba h1];simp only [dup];simp only [List.drop_zero] at hin;generalize l[i]=x at *;generalize ((l.take i).any λy=>x==y)=F at *;have h0:((i:Int)<l.length):=by omega
  simp at hin;simp [pY,hix,hld,h0,h1,hsl,-aG];rw [aj];simp [hin];cases F
  . simp [hw];simpa using q
  . simp
theorem an7 (c:Cfg)(hc:c.wf 1048576)(h:Hp):Sm E TT au 103 [c.v] h=some (bl (!dup [] (0::(c.pods.l.map Pod.addr++c.services.l.map Svc.addr))),h):=by
 have hok:c.ok:=hc.ok (by decide);have f1:c.pods.l.length<=2 ^ 20:=hc.2.2.2.2.1.1.1;have f2:c.services.l.length<=2 ^ 20:=hc.2.2.2.2.2.1.1.1;have hA:Ar c [0] [.cells (c.c.map .d),.cells [iv .u32 0]] (.row 1 0 1 (some 1) 1):=⟨by simp,⟨1,some 1,by omega,rfl,by simp,.inr rfl⟩,by simp⟩;obtain ⟨v1,bs1,lo1,a1,a2⟩:=UX (E:=E) c hok f1 c.pods.l.length 0 [0] _ 0 _ (by omega) rfl hA;simp only [List.drop_zero] at a2;obtain ⟨v2,bs2,lo2,b1,b2⟩:=UY (E:=E) c hok c.pods.l.length f1 f2 c.services.l.length 0 _ bs1 lo1 v1 (by omega) (by simp) a2;simp only [List.drop_zero] at b2;have hl:([0]++c.pods.l.map Pod.addr++c.services.l.map Svc.addr)=0::(c.pods.l.map Pod.addr++c.services.l.map Svc.addr):=by simp
 rw [hl] at b2;have hlen:(0::(c.pods.l.map Pod.addr++c.services.l.map Svc.addr)).length<2 ^ 62:=by simp; omega
 generalize (0::(c.pods.l.map Pod.addr++c.services.l.map Svc.addr))=L at *;obtain ⟨b,cap,p1,rfl,p3,p4⟩:=b2.is;have d1:=U0 (E:=E) (lo:=lo2) p3 hlen (cap:=cap) L.length 0 (by omega);have hc0:=a2.c0;have hnu:=a2.nu;rw [aU bi8 bz7];simp [iv] at a1;simp at b1 d1;simp [af,NJ,aL];rw [aj];simp [a1,hc0,hnu];rw [aj];simp [b1];rw [aj];simp [d1]
def jN (c:Cfg):Bool:=!dup [] (0::(c.pods.l.map Pod.addr++c.services.l.map Svc.addr))
end
section
variable {E:Calls'}
def kg (c:Cfg):Bool:=decide ((c.pods.l.length:Int)<=16)&&decide ((c.services.l.length:Int)<=6)&&decide ((c.bound.l.length:Int)<=4)&&decide ((c.policies.l.length:Int)<=12)
theorem S92 (c:Cfg)(h:Hp):Sm E TT au 66 [c.v] h=some (bl (kg c),h):=by
 unfold kg;rw [aU t92 v92];by_cases a1:(c.pods.l.length:Int)<=16
 case neg=>simp +decide [af,q92,ai,aa,az,aB,a1]
 by_cases a2:(c.services.l.length:Int)<=6
 case neg=>simp +decide [af,q92,ai,aa,az,aB,a1,a2]
 by_cases a3:(c.bound.l.length:Int)<=4
 case neg=>simp +decide [af,q92,ai,aa,az,aB,a1,a2,a3]
 simp +decide [af,q92,ai,aa,az,aB,a1,a2,a3]
def kw (c:Cfg):Bool:=decide (c.epoch<=4611686018427387903)&&decide (c.next>=10)&&decide (c.next<=4611686018427387904)&&decide (c.hosts>=1)&&decide (c.hosts<=4)&&decide (c.ways>=0)&&decide (c.ways<=4)
def oU (c:Cfg):Bool:=kw c&&gV c&&bU c&&jN c&&fF c&&bP c
theorem S93 (h385:∀ t:Target,t.wf big->∀ h,E 233 [ag t.c] h=some (bl (aS t),h))(c:Cfg)(hc:c.wf 1048576)(hcb:c.wf big)(h:Hp):Sm E TT au 67 [c.v] h=some (bl (oU c),h):=by
 have n1:=λh=>an5 (E:=E) c hcb h;have n2:=λh=>an6 (E:=E) c hcb h;have n3:∀ h,Sm E TT au 103 [c.v] h=some (bl (jN c),h):=λh=>an7 (E:=E) c hc h;have n4:=λh=>an8 (E:=E) c hcb h;have n5:=λh=>an9 h385 c hcb h;unfold oU;generalize gV c=A at *;generalize bU c=B at *;generalize jN c=C at *;generalize fF c=D at *;generalize bP c=F at *;rw [aU t93 v93];by_cases a1:c.epoch<=4611686018427387903
 case neg=>simp +decide [af,q93,ai,aa,az,aB,kw,a1]
 by_cases a2:c.next>=10
 case neg=>simp +decide [af,q93,ai,aa,az,aB,kw,a1,a2]
 by_cases a3:c.next<=4611686018427387904
 case neg=>simp +decide [af,q93,ai,aa,az,aB,kw,a1,a2,a3]
 by_cases a4:c.hosts>=1
 case neg=>simp +decide [af,q93,ai,aa,az,aB,kw,a1,a2,a3,a4]
 by_cases a5:c.hosts<=4
 case neg=>simp +decide [af,q93,ai,aa,az,aB,kw,a1,a2,a3,a4,a5]
 by_cases a6:c.ways>=0
 case neg=>simp +decide [af,q93,ai,aa,az,aB,kw,a1,a2,a3,a4,a5,a6]
 by_cases a7:c.ways<=4
 case neg=>simp +decide [af,q93,ai,aa,az,aB,kw,a1,a2,a3,a4,a5,a6,a7]
 cases A
 case false=>simp +decide [af,q93,ai,aa,az,aB,kw,a1,a2,a3,a4,a5,a6,a7,n1]
 cases B
 case false=>simp +decide [af,q93,ai,aa,az,aB,kw,a1,a2,a3,a4,a5,a6,a7,n1,n2]
 cases C
 case false=>simp +decide [af,q93,ai,aa,az,aB,kw,a1,a2,a3,a4,a5,a6,a7,n1,n2,n3]
 cases D
 case false=>simp +decide [af,q93,ai,aa,az,aB,kw,a1,a2,a3,a4,a5,a6,a7,n1,n2,n3,n4]
 simp +decide [af,q93,ai,aa,az,aB,kw,a1,a2,a3,a4,a5,a6,a7,n1,n2,n3,n4,n5]
end
section
section
variable {E:Calls'}{T:FuncId->Option QF}{val:FuncId->Bool}
theorem pM {keep:List Nat}{body:QC}{α:Type}(l:List α)(q:Nat->α->Bool)(env:Nat->EA)(I:Hp->Prop)(R X:Ex×EA)
 (hr:∀ i x,l[i]?=some x->i<l.length->∀ h,I h->∃ h',I h'/\∀ W:EA->Hp->fM,dK keep W (Cd E T val body (bT keep (env i)) h)=cond (q i x) (W (env (i+1)) h') (some (R.1,R.2,h')))
 (he:∀ h,I h->∀ W:EA->Hp->fM,dK keep W (Cd E T val body (bT keep (env l.length)) h)=some (X.1,X.2,h)) (h:Hp) (hI:I h) :
 ∃ h',I h'/\Cd E T val (.loop keep body) (env 0) h=some (cond (fO q 0 l) (X.1,X.2,h') (R.1,R.2,h')):=by
 have:∀ (m i:Nat) (h:Hp),i+m=l.length->I h->∃ h',I h'/\Cd E T val (.loop keep body) (env i) h=some (cond (fO q i (l.drop i)) (X.1,X.2,h') (R.1,R.2,h')):=by
  intro m;have key:=ay (E:=E) (T:=T) (val:=val) keep body;generalize Cd E T val (.loop keep body)=W at key ⊢
  induction m with
  | zero =>
   intro i h hi hI;refine ⟨h,hI,?_⟩;rw [key,show i=l.length by omega,he h hI W,List.drop_length];rfl
  | succ m ih =>
   intro i h hi hI;have hlt:i<l.length:=by omega
   obtain ⟨h1,hI1,k1⟩:=hr i _ (ac hlt) hlt h hI;rw [key,k1 W,ba hlt,fO];cases hq:q i l[i] with
   | false=>exact ⟨h1,hI1,rfl⟩
   | true =>
    obtain ⟨h2,hI2,k2⟩:=ih (i+1) h1 (by omega) hI1;exact ⟨h2,hI2,by simpa using k2⟩
 simpa using this l.length 0 h (by omega) hI
end
def dZ {α:Type}(f:α->Int)(l:List α)(i:Nat)(x:α):Bool:=match i with
 | 0=>true
 | j+1=>match l[j]? with
  | some y=>decide (f y<f x)
  | none=>true
theorem oz {α:Type}(p q:Nat->α->Bool):∀ (l:List α) (i:Nat),fO (λi x=>p i x&&q i x) i l=(fO p i l&&fO q i l)
 | [],_=>rfl
 | x::l,i=>by
  simp only [fO,oz p q l];cases p i x<;>cases q i x<;>cases fO p (i+1) l<;>rfl
theorem pK {α:Type}(f:α->Int)(l:List α):fO (dZ f l) 0 l=bQ (l.map f):=by
 have:∀ (m:List α) (j:Nat) (x:α),l.drop j=x::m->fO (dZ f l) (j+1) m=bQ ((x::m).map f):=by
  intro m
  induction m with
  | nil=>intro j x _; rfl
  | cons y m ih =>
   intro j x h;have hj:j<l.length:=by
    obtain h1 | h1:=cm j l.length
    . exact h1
    . rw [bb h1] at h; cases h
   rw [ba hj] at h;have h1:=(List.cons.inj h).1;have h2:=(List.cons.inj h).2;rw [fO,ih (j+1) y h2];simp only [cn,bQ,dZ,ac hj,h1]
 cases l with
 | nil=>rfl
 | cons x m=>simpa [fO,dZ] using this m 0 x rfl
theorem rQ {α:Type}(p:α->Bool):∀ (l:List α) (i:Nat),fO (λ_ x=>!p x) i l=!l.any p
 | [],_=>rfl
 | x::l,i=>by rw [fO,rQ p l,List.any_cons,Bool.not_or]
theorem pU {α:Type}{f:α->Int}{l:List α}{i:Nat}{x:α}(h:¬ (i:Int)>0):dZ f l i x=true:=by
 obtain rfl:i=0:=by omega
 rfl
theorem wE {α:Type}{l:List α}{i:Nat}(hl:l.length<2 ^ 62)(hi:i<l.length)(h0:(i:Int)>0):∃ y j,i=j+1/\l[j]?=some y/\wrap .i64 ((i:Int)-1)=(j:Int):=by
 cases i with
 | zero=>simp at h0
 | succ j =>
  refine ⟨l[j],j,rfl,ac (by omega),?_⟩;have e:(((j+1:Nat):Int)-1)=(j:Int):=by omega
  rw [e];rw [wrap64]<;>omega
variable {E:Calls'}
theorem cn9:TX 187=some SA:=by kernel_rfl
theorem ck9:aP 187=true:=by kernel_rfl
theorem VS (n:Int)(h:Hp):Sm E TX aP 187 [.d (i64 n)] h=some (bl (eu n),h):=by
 rw [aU cn9 ck9,eu];by_cases c1:n>=1<;>simp [af,SA,aB,c1]
theorem cm8:TX 49=none:=by kernel_rfl
theorem x112:TX 134=none:=by kernel_rfl
theorem ba4 (p:Pod)(hp:p.wf big)(h:Hp):Sm E TX aP 186 [.agg [.d (.str p.ns),.d (.str p.sa)]] h=some (bl (bf p.ns&&bf p.sa),h):=aq4 p.ns p.sa hp.2.1 hp.2.2.1 h
def eX (c:Cfg)(i:Nat)(p:Pod):Bool:=dZ Pod.uid c.pods.l i p&&!bA c p
def gT (c:Cfg)(i:Nat)(p:Svc):Bool:=dZ Svc.id c.services.l i p&&!fH c p
def jc (c:Cfg)(i:Nat)(p:Pol):Bool:=dZ Pol.id c.policies.l i p&&!fG c p
def FindX (E:Calls')(c:Cfg):Prop:=(∀ n h,E 49 [c.v,.d (u64 n)] h=some (.d (i64 (ib c.services.l λp=>p.id==n)),h))/\∀ n h,E 134 [c.v,.d (u64 n)] h=some (.d (i64 (ib c.bound.l λp=>p.id==n)),h)
theorem FindX.s {c:Cfg}(hE:FindX E c)(n:Int)(h:Hp):Sm E TX aP 49 [c.v,.d (u64 n)] h=some (.d (i64 (ib c.services.l λp=>p.id==n)),h):=by rw [bB cm8]; exact hE.1 n h
theorem FindX.w {c:Cfg}(hE:FindX E c)(n:Int)(h:Hp):Sm E TX aP 134 [c.v,.d (u64 n)] h=some (.d (i64 (ib c.bound.l λp=>p.id==n)),h):=by rw [bB x112]; exact hE.2 n h
theorem aj3 (c:Cfg)(hc:c.wf big)(hE:FindX E c):∃ h',(∃ bs,h'=⟨bs,0⟩/\ah bs 0=some (c.c.map .d))/\Cd E TX aP (.loop [1,3] dn) [(1,.ptr 0 0),(3,.d (i64 ((0:Nat):Int)))] ⟨[.cells (c.c.map .d)],0⟩=some (cond (fO (eX c) 0 c.pods.l) (.exit 0,[],h') (.ret,[(2,bl false)],h')):=by
 have hok:=hc.ok (br _);have hl:c.pods.l.length<2 ^ 62:=hok.1.lt;refine pM c.pods.l (eX c) (λi=>[(1,.ptr 0 0),(3,.d (i64 i))]) (λh=>∃ bs,h=⟨bs,0⟩/\ah bs 0=some (c.c.map .d)) (.ret,[(2,bl false)]) (.exit 0,[]) (λi x hx hi h hI=>?_) (λh hI W=>?_) _ ⟨_,rfl,by simp⟩
 . obtain ⟨bs,rfl,hb⟩:=hI;have hn:=λh=>aA (z:=7) h hx (cells:=Pod.c) rfl;have hw:=ax hi hl;have h0:((i:Int)<c.pods.l.length):=by omega
   have hb2:=λys=>av (ys:=ys) hb;refine ⟨⟨bs++[.cells (x.c.map .d)],0⟩,⟨_,rfl,av hb⟩,λW=>?_⟩;have hp:=hc.2.2.2.2.1.2 x (cc hx);have n1:=λh=>ba4 (E:=E) x hp h;have n2:=λh=>VS (E:=E) x.port h;have n3:=λh=>hE.s x.service h;generalize hnm:(bf x.ns&&bf x.sa)=nm at n1;generalize hpt:eu x.port=pt at n2;by_cases a1:x.uid<10
   case pos=>simp +decide [dn,hb,hb2,hn,n1,n2,n3,h0,ai,aa,az,ae,Tr.mute,eX,bA,bi,bn,bq,a1]
   by_cases a2:x.uid>=c.next
   case pos=>simp +decide [dn,hb,hb2,hn,n1,n2,n3,h0,ai,aa,az,ae,Tr.mute,eX,bA,bi,bn,bq,a1,a2]
   by_cases a0:(i:Int)>0
   case pos =>
    have a0n:(0<i)=True:=by simp; omega
    obtain ⟨y,j,hij,hy,hj⟩:=wE hl hi a0;have hp:=λh=>aA (z:=7) h hy (cells:=Pod.c) rfl;have hk:dZ Pod.uid c.pods.l i x=decide (y.uid<x.uid):=by subst hij; simp only [dZ,hy]
    by_cases a01:x.uid<=y.uid
    case pos=>simp +decide [dn,hb,hb2,hn,n1,n2,n3,h0,ai,aa,az,ae,Tr.mute,eX,bA,bi,bn,bq,a1,a2,a0,a0n,hj,hp,hk,a01,show ¬ (y.uid<x.uid) from by omega]
    cases nm
    case false=>simp +decide [dn,hb,hb2,hn,n1,n2,n3,h0,ai,aa,az,ae,Tr.mute,eX,bA,bi,bn,bq,a1,a2,a0,a0n,hj,hp,hk,a01,show (y.uid<x.uid) from by omega,hnm]
    by_cases b1:x.host<2
    case pos=>simp +decide [dn,hb,hb2,hn,n1,n2,n3,h0,ai,aa,az,ae,Tr.mute,eX,bA,bi,bn,bq,a1,a2,a0,a0n,hj,hp,hk,a01,show (y.uid<x.uid) from by omega,hnm,b1]
    by_cases b2:x.host>wrap .i64 (c.hosts+1)
    case pos=>simp +decide [dn,hb,hb2,hn,n1,n2,n3,h0,ai,aa,az,ae,Tr.mute,eX,bA,bi,bn,bq,a1,a2,a0,a0n,hj,hp,hk,a01,show (y.uid<x.uid) from by omega,hnm,b1,b2]
    cases pt
    case false=>simp +decide [dn,hb,hb2,hn,n1,n2,n3,h0,ai,aa,az,ae,Tr.mute,eX,bA,bi,bn,bq,a1,a2,a0,a0n,hj,hp,hk,a01,show (y.uid<x.uid) from by omega,hnm,b1,b2,hpt]
    by_cases c1:x.service=0
    case pos=>simp +decide [dn,hb,hb2,hn,n1,n2,n3,h0,ai,aa,az,ae,Tr.mute,eX,bA,bi,bn,bq,a1,a2,a0,a0n,hj,hp,hk,a01,show (y.uid<x.uid) from by omega,hnm,b1,b2,hpt,c1,hw]
    obtain ⟨e1,e2⟩ | ⟨k,s,e1,e2,e3⟩:=dE c.services.l (λp=>p.id==x.service)
    . have hsv:mJ c x.service=none:=e1;rw [e2] at n3;simp +decide [dn,hb,hb2,hn,n1,n2,n3,h0,ai,aa,az,ae,Tr.mute,eX,bA,bi,bn,bq,a1,a2,a0,a0n,hj,hp,hk,a01,show (y.uid<x.uid) from by omega,hnm,b1,b2,hpt,c1,hsv]
    . have hsv:mJ c x.service=some s:=e1;rw [e2] at n3;have hs:=λh=>aA (z:=5) h e3 (cells:=Svc.c) rfl;cases c2:eqS s.ns x.ns
      case false=>simp +decide [dn,hb,hb2,hn,n1,n2,n3,h0,ai,aa,az,ae,Tr.mute,eX,bA,bi,bn,bq,a1,a2,a0,a0n,hj,hp,hk,a01,show (y.uid<x.uid) from by omega,hnm,b1,b2,hpt,c1,hsv,hs,c2]
      simp +decide [dn,hb,hb2,hn,n1,n2,n3,h0,ai,aa,az,ae,Tr.mute,eX,bA,bi,bn,bq,a1,a2,a0,a0n,hj,hp,hk,a01,show (y.uid<x.uid) from by omega,hnm,b1,b2,hpt,c1,hsv,hs,c2,hw]
   have hk:dZ Pod.uid c.pods.l i x=true:=pU a0;have a0n:(0<i)=False:=by simp; omega
   cases nm
   case false=>simp +decide [dn,hb,hb2,hn,n1,n2,n3,h0,ai,aa,az,ae,Tr.mute,eX,bA,bi,bn,bq,a1,a2,a0,a0n,hk,hnm]
   by_cases b1:x.host<2
   case pos=>simp +decide [dn,hb,hb2,hn,n1,n2,n3,h0,ai,aa,az,ae,Tr.mute,eX,bA,bi,bn,bq,a1,a2,a0,a0n,hk,hnm,b1]
   by_cases b2:x.host>wrap .i64 (c.hosts+1)
   case pos=>simp +decide [dn,hb,hb2,hn,n1,n2,n3,h0,ai,aa,az,ae,Tr.mute,eX,bA,bi,bn,bq,a1,a2,a0,a0n,hk,hnm,b1,b2]
   cases pt
   case false=>simp +decide [dn,hb,hb2,hn,n1,n2,n3,h0,ai,aa,az,ae,Tr.mute,eX,bA,bi,bn,bq,a1,a2,a0,a0n,hk,hnm,b1,b2,hpt]
   by_cases c1:x.service=0
   case pos=>simp +decide [dn,hb,hb2,hn,n1,n2,n3,h0,ai,aa,az,ae,Tr.mute,eX,bA,bi,bn,bq,a1,a2,a0,a0n,hk,hnm,b1,b2,hpt,c1,hw]
   obtain ⟨e1,e2⟩ | ⟨k,s,e1,e2,e3⟩:=dE c.services.l (λp=>p.id==x.service)
   . have hsv:mJ c x.service=none:=e1;rw [e2] at n3;simp +decide [dn,hb,hb2,hn,n1,n2,n3,h0,ai,aa,az,ae,Tr.mute,eX,bA,bi,bn,bq,a1,a2,a0,a0n,hk,hnm,b1,b2,hpt,c1,hsv]
   . have hsv:mJ c x.service=some s:=e1;rw [e2] at n3;have hs:=λh=>aA (z:=5) h e3 (cells:=Svc.c) rfl;cases c2:eqS s.ns x.ns
     case false=>simp +decide [dn,hb,hb2,hn,n1,n2,n3,h0,ai,aa,az,ae,Tr.mute,eX,bA,bi,bn,bq,a1,a2,a0,a0n,hk,hnm,b1,b2,hpt,c1,hsv,hs,c2]
     simp +decide [dn,hb,hb2,hn,n1,n2,n3,h0,ai,aa,az,ae,Tr.mute,eX,bA,bi,bn,bq,a1,a2,a0,a0n,hk,hnm,b1,b2,hpt,c1,hsv,hs,c2,hw]
 . obtain ⟨bs,rfl,hb⟩:=hI;simp [dn,hb]
theorem aj4 (c:Cfg)(hc:c.wf big)(hE:FindX E c):∃ h',(∃ bs,h'=⟨bs,0⟩/\ah bs 0=some (c.c.map .d))/\Cd E TX aP (.loop [1,3] fJ) [(1,.ptr 0 0),(3,.d (i64 ((0:Nat):Int)))] ⟨[.cells (c.c.map .d)],0⟩=some (cond (fO (gT c) 0 c.services.l) (.exit 0,[],h') (.ret,[(2,bl false)],h')):=by
 have hok:=hc.ok (br _);have hl:c.services.l.length<2 ^ 62:=hok.2.1.lt;refine pM c.services.l (gT c) (λi=>[(1,.ptr 0 0),(3,.d (i64 i))]) (λh=>∃ bs,h=⟨bs,0⟩/\ah bs 0=some (c.c.map .d)) (.ret,[(2,bl false)]) (.exit 0,[]) (λi x hx hi h hI=>?_) (λh hI W=>?_) _ ⟨_,rfl,by simp⟩
 . obtain ⟨bs,rfl,hb⟩:=hI;have hn:=λh=>aA (z:=5) h hx (cells:=Svc.c) rfl;have hw:=ax hi hl;have h0:((i:Int)<c.services.l.length):=by omega
   have hb2:=λys=>av (ys:=ys) hb;refine ⟨⟨bs++[.cells (x.c.map .d)],0⟩,⟨_,rfl,av hb⟩,λW=>?_⟩;have hp:=hc.2.2.2.2.2.1.2 x (cc hx);have n1:=λh=>LX (E:=E) x.ns hp.2.1 h;have n2:=λh=>VS (E:=E) x.port h;have n3:=λh=>hE.w x.way h;generalize hnm:bf x.ns=nm at n1;generalize hpt:eu x.port=pt at n2;by_cases a1:x.id<1
   case pos=>simp +decide [fJ,hb,hb2,hn,n1,n2,n3,h0,ai,aa,az,ae,Tr.mute,gT,fH,dx,a1,show ¬ (x.id>=1) from by omega]
   by_cases a2:x.id>4611686018427387903
   case pos=>simp +decide [fJ,hb,hb2,hn,n1,n2,n3,h0,ai,aa,az,ae,Tr.mute,gT,fH,dx,a1,show (x.id>=1) from by omega,a2,show ¬ (x.id<=4611686018427387903) from by omega]
   by_cases a0:(i:Int)>0
   case pos =>
    have a0n:(0<i)=True:=by simp; omega
    obtain ⟨y,j,hij,hy,hj⟩:=wE hl hi a0;have hp:=λh=>aA (z:=5) h hy (cells:=Svc.c) rfl;have hk:dZ Svc.id c.services.l i x=decide (y.id<x.id):=by subst hij; simp only [dZ,hy]
    by_cases a01:x.id<=y.id
    case pos=>simp +decide [fJ,hb,hb2,hn,n1,n2,n3,h0,ai,aa,az,ae,Tr.mute,gT,fH,dx,a1,show (x.id>=1) from by omega,a2,show (x.id<=4611686018427387903) from by omega,a0,a0n,hj,hp,hk,a01,show ¬ (y.id<x.id) from by omega]
    cases nm
    case false=>simp +decide [fJ,hb,hb2,hn,n1,n2,n3,h0,ai,aa,az,ae,Tr.mute,gT,fH,dx,a1,show (x.id>=1) from by omega,a2,show (x.id<=4611686018427387903) from by omega,a0,a0n,hj,hp,hk,a01,show (y.id<x.id) from by omega,hnm]
    cases pt
    case false=>simp +decide [fJ,hb,hb2,hn,n1,n2,n3,h0,ai,aa,az,ae,Tr.mute,gT,fH,dx,a1,show (x.id>=1) from by omega,a2,show (x.id<=4611686018427387903) from by omega,a0,a0n,hj,hp,hk,a01,show (y.id<x.id) from by omega,hnm,hpt]
    by_cases c1:x.way=0
    case pos=>simp +decide [fJ,hb,hb2,hn,n1,n2,n3,h0,ai,aa,az,ae,Tr.mute,gT,fH,dx,a1,show (x.id>=1) from by omega,a2,show (x.id<=4611686018427387903) from by omega,a0,a0n,hj,hp,hk,a01,show (y.id<x.id) from by omega,hnm,hpt,c1,hw]
    by_cases c2:ib c.bound.l (λw=>w.id==x.way)<0
    case pos =>
     have hay:(c.bound.l.any λw=>w.id==x.way)=false:=by rw [← kL]; simp; omega
     simp +decide [fJ,hb,hb2,hn,n1,n2,n3,h0,ai,aa,az,ae,Tr.mute,gT,fH,dx,a1,show (x.id>=1) from by omega,a2,show (x.id<=4611686018427387903) from by omega,a0,a0n,hj,hp,hk,a01,show (y.id<x.id) from by omega,hnm,hpt,c1,c2,hay]
    have hay:(c.bound.l.any λw=>w.id==x.way)=true:=by rw [← kL]; simp; omega
    simp +decide [fJ,hb,hb2,hn,n1,n2,n3,h0,ai,aa,az,ae,Tr.mute,gT,fH,dx,a1,show (x.id>=1) from by omega,a2,show (x.id<=4611686018427387903) from by omega,a0,a0n,hj,hp,hk,a01,show (y.id<x.id) from by omega,hnm,hpt,c1,c2,hay,hw]
   have hk:dZ Svc.id c.services.l i x=true:=pU a0;have a0n:(0<i)=False:=by simp; omega
   cases nm
   case false=>simp +decide [fJ,hb,hb2,hn,n1,n2,n3,h0,ai,aa,az,ae,Tr.mute,gT,fH,dx,a1,show (x.id>=1) from by omega,a2,show (x.id<=4611686018427387903) from by omega,a0,a0n,hk,hnm]
   cases pt
   case false=>simp +decide [fJ,hb,hb2,hn,n1,n2,n3,h0,ai,aa,az,ae,Tr.mute,gT,fH,dx,a1,show (x.id>=1) from by omega,a2,show (x.id<=4611686018427387903) from by omega,a0,a0n,hk,hnm,hpt]
   by_cases c1:x.way=0
   case pos=>simp +decide [fJ,hb,hb2,hn,n1,n2,n3,h0,ai,aa,az,ae,Tr.mute,gT,fH,dx,a1,show (x.id>=1) from by omega,a2,show (x.id<=4611686018427387903) from by omega,a0,a0n,hk,hnm,hpt,c1,hw]
   by_cases c2:ib c.bound.l (λw=>w.id==x.way)<0
   case pos =>
    have hay:(c.bound.l.any λw=>w.id==x.way)=false:=by rw [← kL]; simp; omega
    simp +decide [fJ,hb,hb2,hn,n1,n2,n3,h0,ai,aa,az,ae,Tr.mute,gT,fH,dx,a1,show (x.id>=1) from by omega,a2,show (x.id<=4611686018427387903) from by omega,a0,a0n,hk,hnm,hpt,c1,c2,hay]
   have hay:(c.bound.l.any λw=>w.id==x.way)=true:=by rw [← kL]; simp; omega
   simp +decide [fJ,hb,hb2,hn,n1,n2,n3,h0,ai,aa,az,ae,Tr.mute,gT,fH,dx,a1,show (x.id>=1) from by omega,a2,show (x.id<=4611686018427387903) from by omega,a0,a0n,hk,hnm,hpt,c1,c2,hay,hw]
 . obtain ⟨bs,rfl,hb⟩:=hI;simp [fJ,hb]
theorem aj6 (c:Cfg)(hc:c.wf big)(hE:FindX E c):∃ h',(∃ bs,h'=⟨bs,0⟩/\ah bs 0=some (c.c.map .d))/\Cd E TX aP (.loop [1,3] gW) [(1,.ptr 0 0),(3,.d (i64 ((0:Nat):Int)))] ⟨[.cells (c.c.map .d)],0⟩=some (cond (fO (jc c) 0 c.policies.l) (.exit 0,[],h') (.ret,[(2,bl false)],h')):=by
 have hok:=hc.ok (br _);have hl:c.policies.l.length<2 ^ 62:=hok.2.2.2.1.lt;refine pM c.policies.l (jc c) (λi=>[(1,.ptr 0 0),(3,.d (i64 i))]) (λh=>∃ bs,h=⟨bs,0⟩/\ah bs 0=some (c.c.map .d)) (.ret,[(2,bl false)]) (.exit 0,[]) (λi x hx hi h hI=>?_) (λh hI W=>?_) _ ⟨_,rfl,by simp⟩
 . obtain ⟨bs,rfl,hb⟩:=hI;have hn:=λh=>aA (z:=5) h hx (cells:=Pol.c) rfl;have hw:=ax hi hl;have h0:((i:Int)<c.policies.l.length):=by omega
   have hb2:=λys=>av (ys:=ys) hb;refine ⟨⟨bs++[.cells (x.c.map .d)],0⟩,⟨_,rfl,av hb⟩,λW=>?_⟩;have hp:=hc.2.2.2.2.2.2.2.2 x (cc hx);have n1:=λh=>ap1 (E:=E) x hp h;have n3:=λh=>hE.s x.service h;generalize hnm:fB x=nm at n1;by_cases a1:x.id<1
   case pos=>simp +decide [gW,hb,hb2,hn,n1,n3,h0,ai,aa,az,ae,Tr.mute,jc,fG,a1]
   by_cases a0:(i:Int)>0
   case pos =>
    have a0n:(0<i)=True:=by simp; omega
    obtain ⟨y,j,hij,hy,hj⟩:=wE hl hi a0;have hp:=λh=>aA (z:=5) h hy (cells:=Pol.c) rfl;have hk:dZ Pol.id c.policies.l i x=decide (y.id<x.id):=by subst hij; simp only [dZ,hy]
    by_cases a01:x.id<=y.id
    case pos=>simp +decide [gW,hb,hb2,hn,n1,n3,h0,ai,aa,az,ae,Tr.mute,jc,fG,a1,a0,a0n,hj,hp,hk,a01,show ¬ (y.id<x.id) from by omega]
    cases nm
    case false=>simp +decide [gW,hb,hb2,hn,n1,n3,h0,ai,aa,az,ae,Tr.mute,jc,fG,a1,a0,a0n,hj,hp,hk,a01,show (y.id<x.id) from by omega,hnm]
    by_cases c1:x.service=0
    case pos=>simp +decide [gW,hb,hb2,hn,n1,n3,h0,ai,aa,az,ae,Tr.mute,jc,fG,a1,a0,a0n,hj,hp,hk,a01,show (y.id<x.id) from by omega,hnm,c1,hw]
    obtain ⟨e1,e2⟩ | ⟨k,s,e1,e2,e3⟩:=dE c.services.l (λp=>p.id==x.service)
    . have hsv:mJ c x.service=none:=e1;rw [e2] at n3;simp +decide [gW,hb,hb2,hn,n1,n3,h0,ai,aa,az,ae,Tr.mute,jc,fG,a1,a0,a0n,hj,hp,hk,a01,show (y.id<x.id) from by omega,hnm,c1,hsv]
    . have hsv:mJ c x.service=some s:=e1;rw [e2] at n3;simp +decide [gW,hb,hb2,hn,n1,n3,h0,ai,aa,az,ae,Tr.mute,jc,fG,a1,a0,a0n,hj,hp,hk,a01,show (y.id<x.id) from by omega,hnm,c1,hsv,hw]
   have hk:dZ Pol.id c.policies.l i x=true:=pU a0;have a0n:(0<i)=False:=by simp; omega
   cases nm
   case false=>simp +decide [gW,hb,hb2,hn,n1,n3,h0,ai,aa,az,ae,Tr.mute,jc,fG,a1,a0,a0n,hk,hnm]
   by_cases c1:x.service=0
   case pos=>simp +decide [gW,hb,hb2,hn,n1,n3,h0,ai,aa,az,ae,Tr.mute,jc,fG,a1,a0,a0n,hk,hnm,c1,hw]
   obtain ⟨e1,e2⟩ | ⟨k,s,e1,e2,e3⟩:=dE c.services.l (λp=>p.id==x.service)
   . have hsv:mJ c x.service=none:=e1;rw [e2] at n3;simp +decide [gW,hb,hb2,hn,n1,n3,h0,ai,aa,az,ae,Tr.mute,jc,fG,a1,a0,a0n,hk,hnm,c1,hsv]
   . have hsv:mJ c x.service=some s:=e1;rw [e2] at n3;simp +decide [gW,hb,hb2,hn,n1,n3,h0,ai,aa,az,ae,Tr.mute,jc,fG,a1,a0,a0n,hk,hnm,c1,hsv,hw]
 . obtain ⟨bs,rfl,hb⟩:=hI;simp [gW,hb]
theorem cm9:TX 126=some R7:=by kernel_rfl
theorem cj6:aP 126=true:=by kernel_rfl
theorem ao1 (c:Cfg)(hc:c.wf big)(hE:FindX E c)(h:Hp):Sm E TX aP 126 [c.v] h=some (bl (gV c),h):=by
 obtain ⟨h',⟨bs,rfl,hb⟩,k1⟩:=aj3 c hc hE;have he:fO (eX c) 0 c.pods.l=gV c:=by
  have:eX c=λi x=>dZ Pod.uid c.pods.l i x&&(λ_ x=>!bA c x) i x:=rfl;rw [this,oz,pK,rQ,gV,Bool.and_comm]
 rw [he] at k1;rw [aU cm9 cj6];simp at k1;simp [af,R7];rw [aj];simp [k1];cases gV c<;>simp
theorem cn0:TX 127=some R8:=by kernel_rfl
theorem cj7:aP 127=true:=by kernel_rfl
theorem ao2 (c:Cfg)(hc:c.wf big)(hE:FindX E c)(h:Hp):Sm E TX aP 127 [c.v] h=some (bl (bU c),h):=by
 obtain ⟨h',⟨bs,rfl,hb⟩,k1⟩:=aj4 c hc hE;have he:fO (gT c) 0 c.services.l=bU c:=by
  have:gT c=λi x=>dZ Svc.id c.services.l i x&&(λ_ x=>!fH c x) i x:=rfl;rw [this,oz,pK,rQ,bU,Bool.and_comm]
 rw [he] at k1;rw [aU cn0 cj7];simp at k1;simp [af,R8];rw [aj];simp [k1];cases bU c<;>simp
theorem cn3:TX 130=some Sb:=by kernel_rfl
theorem ck0:aP 130=true:=by kernel_rfl
theorem ao5 (c:Cfg)(hc:c.wf big)(hE:FindX E c)(h:Hp):Sm E TX aP 130 [c.v] h=some (bl (bP c),h):=by
 obtain ⟨h',⟨bs,rfl,hb⟩,k1⟩:=aj6 c hc hE;have he:fO (jc c) 0 c.policies.l=bP c:=by
  have:jc c=λi x=>dZ Pol.id c.policies.l i x&&(λ_ x=>!fG c x) i x:=rfl;rw [this,oz,pK,rQ,bP,Bool.and_comm]
 rw [he] at k1;rw [aU cn3 ck0];simp at k1;simp [af,Sb];rw [aj];simp [k1];cases bP c<;>simp
end
section
variable {E:Calls'}
theorem U1 (c:Cfg)(hc:c.ok)(hsm:c.pods.l.length<=2 ^ 20):∀ (m i:Nat) (acc:List Int) (bs:List Blk) (lo:Nat) (v:V),i+m=c.pods.l.length->acc.length=i+1->Ar c acc bs v →
 ∃ v' bs' lo',Cd E TX aP (.loop [1,3,4] p9) [(1,.ptr 0 0),(3,v),(4,.d (i64 i))] ⟨bs,lo⟩ =
  some (.exit 0,[(1,.ptr 0 0),(3,v')],⟨bs',lo'⟩)/\Ar c (acc++(c.pods.l.drop i).map Pod.addr) bs' v':=by
 have hlt:=hc.1.lt;intro m;have key:=ay (E:=E) (T:=TX) (val:=aP) [1,3,4] p9;generalize Cd E TX aP (.loop [1,3,4] p9)=W at key ⊢
 induction m with
 | zero =>
  intro i acc bs lo v hi ha hA;refine ⟨v,bs,lo,?_,by rw [bb (by omega)]; simpa using hA⟩;rw [key];simp [p9,hA.c0,show ¬ ((i:Int)<c.pods.l.length) from by omega]
 | succ m ih =>
  intro i acc bs lo v hi ha hA;have h1:i<c.pods.l.length:=by omega
  have hx:=λh=>aA (z:=7) h (ac h1) (cells:=Pod.c) rfl;have hw:=ax h1 hlt;have hnu:=hA.nu;rw [ba h1];generalize c.pods.l[i]=p at *;have hA2:=hA.lay [.cells [iv .u32 p.addr]];obtain ⟨v1,bs1,lo1,k1,k2⟩:=hA2.app (by show _<2 ^ 30; omega) lo (x:=p.addr) (r:=bs.length) (cap:=some 1) (by simp);have hnu1:=k2.nu;obtain ⟨v',bs',lo',q1,q2⟩:=ih (i+1) (acc++[p.addr]) bs1 lo1 v1 (by omega) (by simp; omega) k2;refine ⟨v',bs',lo',?_,by simpa using q2⟩;rw [key];simp [iv] at k1;simp [p9,hA.c0,hx,hnu,aL,k1,hnu1,hw,show ((i:Int)<c.pods.l.length) from by omega];simpa using q1
theorem U2 (c:Cfg)(hc:c.ok)(n:Nat)(hn:n<=2 ^ 20)(hsm:c.services.l.length<=2 ^ 20):∀ (m i:Nat) (acc:List Int) (bs:List Blk) (lo:Nat) (v:V),i+m=c.services.l.length->acc.length=n+i+1->Ar c acc bs v →
 ∃ v' bs' lo',Cd E TX aP (.loop [1,3,5] qa) [(1,.ptr 0 0),(3,v),(5,.d (i64 i))] ⟨bs,lo⟩ =
  some (.exit 2,[(3,v')],⟨bs',lo'⟩)/\Ar c (acc++(c.services.l.drop i).map Svc.addr) bs' v':=by
 have hlt:=hc.2.1.lt;intro m;have key:=ay (E:=E) (T:=TX) (val:=aP) [1,3,5] qa;generalize Cd E TX aP (.loop [1,3,5] qa)=W at key ⊢
 induction m with
 | zero =>
  intro i acc bs lo v hi ha hA;refine ⟨v,bs,lo,?_,by rw [bb (by omega)]; simpa using hA⟩;rw [key];simp [qa,hA.c0,show ¬ ((i:Int)<c.services.l.length) from by omega]
 | succ m ih =>
  intro i acc bs lo v hi ha hA;have h1:i<c.services.l.length:=by omega
  have hx:=λh=>aA (z:=5) h (ac h1) (cells:=Svc.c) rfl;have hw:=ax h1 hlt;have hnu:=hA.nu;rw [ba h1];generalize c.services.l[i]=p at *;have hA2:=hA.lay [.cells [iv .u32 p.addr]];obtain ⟨v1,bs1,lo1,k1,k2⟩:=hA2.app (by show _<2 ^ 30; omega) lo (x:=p.addr) (r:=bs.length) (cap:=some 1) (by simp);have hnu1:=k2.nu;obtain ⟨v',bs',lo',q1,q2⟩:=ih (i+1) (acc++[p.addr]) bs1 lo1 v1 (by omega) (by simp; omega) k2;refine ⟨v',bs',lo',?_,by simpa using q2⟩;rw [key];simp [iv] at k1;simp [qa,hA.c0,hx,hnu,aL,k1,hnu1,hw,show ((i:Int)<c.services.l.length) from by omega];simpa using q1
section
variable {bs:List Blk}{b lo:Nat}{l:List Int}(hb:ah bs b=some (l.map (iv .u32)))(hl:l.length<2 ^ 62){cap:Option Nat}
include hb hl
theorem U3 {i:Nat}{x:Int}(hx:l[i]?=some x)(hi:i<l.length):Cd E TX aP (.loop [3,6,7] sV) [(3,.row b 0 l.length cap 1),(6,.d (i64 i)),(7,.d (i64 ((0:Nat):Int)))] ⟨bs,lo⟩=some (cond ((l.take i).all λy=>!(y==x)) (.exit 6,[(3,.row b 0 l.length cap 1),(6,.d (i64 i))],⟨bs,lo⟩) (.ret,[(2,bl false)],⟨bs,lo⟩)):=by
 have hlen:(l.take i).length=i:=by simp; omega
 have hix:=λh=>fQ (b:=b) (o:=0) (z:=1) (cap:=cap) (kd:=.i64) (h:=h) hi;have hld:=AV (lo:=lo) hb hi;have hxi:l[i]=x:=by rw [ac hi] at hx; exact co hx
 rw [hxi] at hld;simp only [Nat.mul_one,Nat.zero_add] at hix;refine cZ (l.take i) (λy=>!(y==x)) (λk=>[(3,.row b 0 l.length cap 1),(6,.d (i64 i)),(7,.d (i64 k))]) _ _ _ (λk y hy hk W=>?_) (λW=>?_)
 . have hki:k<i:=by omega
   have hkl:k<l.length:=by omega
   have hy':l[k]=y:=by rw [List.getElem?_take,if_pos hki,ac hkl] at hy; exact co hy
   have hjx:=λh=>fQ (b:=b) (o:=0) (z:=1) (cap:=cap) (kd:=.i64) (h:=h) hkl;have hjd:=AV (lo:=lo) hb hkl;rw [hy'] at hjd;simp only [Nat.mul_one,Nat.zero_add] at hjx;have hw:=ax hki (Nat.lt_trans hi hl);have h0:((k:Int)<(i:Int)):=by omega
   by_cases he:y=x
   . subst he;simp [sV,hix,hld,hjx,hjd,h0,hw,-aG]
   . simp [sV,hix,hld,hjx,hjd,h0,hw,he,-aG]
 . simp only [hlen];simp [sV]
theorem U4:Cd E TX aP (.loop [3,6] wG) [(3,.row b 0 l.length cap 1),(6,.d (i64 ((0:Nat):Int)))] ⟨bs,lo⟩=some (cond (fO (λi x=>(l.take i).all λy=>!(y==x)) 0 l) (.exit 4,[],⟨bs,lo⟩) (.ret,[(2,bl false)],⟨bs,lo⟩)):=by
 refine pO l _ (λi=>[(3,.row b 0 l.length cap 1),(6,.d (i64 i))]) _ _ _ (λi x hx hi W=>?_) (λW=>?_)
 . have k:=U3 (E:=E) (lo:=lo) hb hl (cap:=cap) hx hi;have hw:=ax hi hl;have h0:((i:Int)<l.length):=by omega
   generalize ((l.take i).all λy=>!(y==x))=G at *;simp only [Int.natCast_zero] at k;simp [wG,h0];rw [aj];simp [k];cases G<;>simp [hw]
 . simp [wG]
end
theorem Bz {L:List Int}:∀ (m pre:List Int),L=pre++m->fO (λi x=>(L.take i).all λy=>!(y==x)) pre.length m=!dup pre m
 | [],_,_=>rfl
 | x::m,pre,h=>by
  have ih:=Bz (L:=L) m (pre++[x]) (by simp [h]);have ht:L.take pre.length=pre:=by rw [h]; simp
  rw [aw] at ih;rw [fO,dup,Bool.not_or,← ih,ht]
  congr 1
  rw [List.not_any_eq_all_not]
  congr 1
  funext y;rw [Bool.eq_iff_iff];simp only [Bool.not_eq_true',beq_eq_false_iff_ne];exact ⟨Ne.symm,Ne.symm⟩
theorem cn1:TX 128=some R9:=by kernel_rfl
theorem cj8:aP 128=true:=by kernel_rfl
theorem ao3 (c:Cfg)(hc:c.wf 1048576)(h:Hp):Sm E TX aP 128 [c.v] h=some (bl (jN c),h):=by
 have hok:c.ok:=hc.ok (by decide);have f1:c.pods.l.length<=2 ^ 20:=hc.2.2.2.2.1.1.1;have f2:c.services.l.length<=2 ^ 20:=hc.2.2.2.2.2.1.1.1;have hA:Ar c [0] [.cells (c.c.map .d),.cells [iv .u32 0]] (.row 1 0 1 (some 1) 1):=⟨by simp,⟨1,some 1,by omega,rfl,by simp,.inr rfl⟩,by simp⟩;obtain ⟨v1,bs1,lo1,a1,a2⟩:=U1 (E:=E) c hok f1 c.pods.l.length 0 [0] _ 0 _ (by omega) rfl hA;simp only [List.drop_zero] at a2;obtain ⟨v2,bs2,lo2,b1,b2⟩:=U2 (E:=E) c hok c.pods.l.length f1 f2 c.services.l.length 0 _ bs1 lo1 v1 (by omega) (by simp) a2;simp only [List.drop_zero] at b2;have hl:([0]++c.pods.l.map Pod.addr++c.services.l.map Svc.addr)=0::(c.pods.l.map Pod.addr++c.services.l.map Svc.addr):=by simp
 rw [hl] at b2;have hlen:(0::(c.pods.l.map Pod.addr++c.services.l.map Svc.addr)).length<2 ^ 62:=by simp; omega
 unfold jN;generalize (0::(c.pods.l.map Pod.addr++c.services.l.map Svc.addr))=L at *;obtain ⟨b,cap,p1,rfl,p3,p4⟩:=b2.is;have d1:=U4 (E:=E) (lo:=lo2) p3 hlen (cap:=cap);have hnu:=a2.nu;have hnu2:=b2.nu;have hd:=Bz (L:=L) L [] rfl;simp only [ch] at hd;rw [hd] at d1;generalize (!dup [] L)=G at *;rw [aU cn1 cj8];simp [iv] at a1;simp at b1 d1;simp [af,R9,aL];rw [aj];simp [a1,hnu];rw [aj];simp [b1,hnu2];rw [aj];simp [d1];cases G<;>simp
def jF (c:Cfg)(i:Nat)(w:Way):Bool:=dZ Way.id c.bound.l i w&&!iM c (c.bound.l.take i) w
theorem Gf (c:Cfg):∀ (m pre:List Way),c.bound.l=pre++m->fO (λi x=>!iM c (c.bound.l.take i) x) pre.length m=!iH c pre m
 | [],_,_=>rfl
 | x::m,pre,h=>by
  have ih:=Gf c m (pre++[x]) (by simp [h]);have ht:c.bound.l.take pre.length=pre:=by rw [h]; simp
  rw [aw] at ih;rw [fO,iH,Bool.not_or,← ih,ht];rfl
theorem aj5 (c:Cfg)(hok:c.ok){bs:List Blk}(hb:ah bs 0=some (c.c.map .d)){i:Nat}{x:Way}(hx:c.bound.l[i]?=some x)(hi:i<c.bound.l.length) :
 Cd E TX aP (.loop [1,3,4,5] wH) [(1,.ptr 0 0),(3,.d (i64 i)),(4,.ptr bs.length 0),(5,.d (i64 ((0:Nat):Int)))] ⟨bs++[.cells (x.c.map .d)],0⟩ =
  some (cond ((c.bound.l.take i).all λy=>!(y.node==x.node)) (.exit 2,[(1,.ptr 0 0),(3,.d (i64 i))],⟨bs++[.cells (x.c.map .d)],0⟩) (.ret,[(2,bl false)],⟨bs++[.cells (x.c.map .d)],0⟩)):=by
 have hlen:(c.bound.l.take i).length=i:=by simp; omega
 have hb2:=λys=>av (ys:=ys) hb;refine cZ (c.bound.l.take i) (λy=>!(y.node==x.node)) (λk=>[(1,.ptr 0 0),(3,.d (i64 i)),(4,.ptr bs.length 0),(5,.d (i64 k))]) _ _ _ (λk y hy hk W=>?_) (λW=>?_)
 . have hki:k<i:=by omega
   have hy':c.bound.l[k]?=some y:=by rw [List.getElem?_take] at hy; simpa [hki] using hy
   have hn:=λh=>aA (z:=2) h hy' (cells:=Way.c) rfl;have hw:=ax hki (Nat.lt_trans hi hok.2.2.1.lt);have h0:((k:Int)<(i:Int)):=by omega
   by_cases he:y.node=x.node<;>simp [wH,hb2,hn,h0,hw,he]
 . simp only [hlen];simp [wH]
theorem cn2:TX 129=some Sa:=by kernel_rfl
theorem cj9:aP 129=true:=by kernel_rfl
theorem al3 (c:Cfg)(hc:c.wf big):∃ h',(∃ bs,h'=⟨bs,0⟩/\ah bs 0=some (c.c.map .d))/\Cd E TX aP (.loop [1,3] iE) [(1,.ptr 0 0),(3,.d (i64 ((0:Nat):Int)))] ⟨[.cells (c.c.map .d)],0⟩=some (cond (fO (jF c) 0 c.bound.l) (.exit 0,[],h') (.ret,[(2,bl false)],h')):=by
 have hok:=hc.ok (br _);have hl:c.bound.l.length<2 ^ 62:=hok.2.2.1.lt;refine pM c.bound.l (jF c) (λi=>[(1,.ptr 0 0),(3,.d (i64 i))]) (λh=>∃ bs,h=⟨bs,0⟩/\ah bs 0=some (c.c.map .d)) (.ret,[(2,bl false)]) (.exit 0,[]) (λi x hx hi h hI=>?_) (λh hI W=>?_) _ ⟨_,rfl,by simp⟩
 . obtain ⟨bs,rfl,hb⟩:=hI;have hn:=λh=>aA (z:=2) h hx (cells:=Way.c) rfl;have hw:=ax hi hl;have h0:((i:Int)<c.bound.l.length):=by omega
   have hb2:=λys=>av (ys:=ys) hb;have k:=aj5 (E:=E) c hok hb hx hi;refine ⟨⟨bs++[.cells (x.c.map .d)],0⟩,⟨_,rfl,av hb⟩,λW=>?_⟩;have hA:((c.bound.l.take i).any λv=>v.node==x.node)=!((c.bound.l.take i).all λy=>!(y.node==x.node)):=by
    rw [List.not_all_eq_any_not]; congr 1; funext y; rw [Bool.not_not]
   generalize ((c.bound.l.take i).all λy=>!(y.node==x.node))=G at *;simp only [Int.natCast_zero] at k;by_cases a1:x.id<1
   case pos=>simp [iE,hb,hb2,hn,h0,jF,iM,dx,a1,show ¬ (x.id>=1) from by omega]
   by_cases a2:x.id>4611686018427387903
   case pos=>simp [iE,hb,hb2,hn,h0,jF,iM,dx,a1,show x.id>=1 from by omega,a2,show ¬ (x.id<=4611686018427387903) from by omega]
   by_cases a0:(i:Int)>0
   case pos =>
    have a0n:(0<i)=True:=by simp; omega
    obtain ⟨y,j,hij,hy,hj⟩:=wE hl hi a0;have hp:=λh=>aA (z:=2) h hy (cells:=Way.c) rfl;have hk:dZ Way.id c.bound.l i x=decide (y.id<x.id):=by subst hij; simp only [dZ,hy]
    by_cases a01:x.id<=y.id
    case pos=>simp [iE,hb,hb2,hn,h0,jF,iM,dx,a1,show x.id>=1 from by omega,a2,show x.id<=4611686018427387903 from by omega,a0,a0n,hj,hp,hk,a01,show ¬ (y.id<x.id) from by omega]
    by_cases b1:x.node<wrap .i64 (c.hosts+2)
    case pos=>simp [iE,hb,hb2,hn,h0,jF,iM,dx,a1,show x.id>=1 from by omega,a2,show x.id<=4611686018427387903 from by omega,a0,a0n,hj,hp,hk,a01,show (y.id<x.id) from by omega,b1]
    by_cases b2:x.node>wrap .i64 (wrap .i64 (c.hosts+1)+c.ways)
    case pos=>simp [iE,hb,hb2,hn,h0,jF,iM,dx,a1,show x.id>=1 from by omega,a2,show x.id<=4611686018427387903 from by omega,a0,a0n,hj,hp,hk,a01,show (y.id<x.id) from by omega,b1,b2]
    simp [iE,hb,hb2,hn,h0,jF,iM,dx,a1,show x.id>=1 from by omega,a2,show x.id<=4611686018427387903 from by omega,a0,a0n,hj,hp,hk,a01,show (y.id<x.id) from by omega,b1,b2];rw [aj];simp [k,hA];cases G<;>simp [hw]
   have hk:dZ Way.id c.bound.l i x=true:=pU a0;have a0n:(0<i)=False:=by simp; omega
   by_cases b1:x.node<wrap .i64 (c.hosts+2)
   case pos=>simp [iE,hb,hb2,hn,h0,jF,iM,dx,a1,show x.id>=1 from by omega,a2,show x.id<=4611686018427387903 from by omega,a0,a0n,hk,b1]
   by_cases b2:x.node>wrap .i64 (wrap .i64 (c.hosts+1)+c.ways)
   case pos=>simp [iE,hb,hb2,hn,h0,jF,iM,dx,a1,show x.id>=1 from by omega,a2,show x.id<=4611686018427387903 from by omega,a0,a0n,hk,b1,b2]
   simp [iE,hb,hb2,hn,h0,jF,iM,dx,a1,show x.id>=1 from by omega,a2,show x.id<=4611686018427387903 from by omega,a0,a0n,hk,b1,b2];rw [aj];simp [k,hA];cases G<;>simp [hw]
 . obtain ⟨bs,rfl,hb⟩:=hI;simp [iE,hb]
theorem ao4 (c:Cfg)(hc:c.wf big)(h:Hp):Sm E TX aP 129 [c.v] h=some (bl (fF c),h):=by
 obtain ⟨h',⟨bs,rfl,hb⟩,k1⟩:=al3 (E:=E) c hc;have he:fO (jF c) 0 c.bound.l=fF c:=by
  have:jF c=λi x=>dZ Way.id c.bound.l i x&&(λi x=>!iM c (c.bound.l.take i) x) i x:=rfl;have h2:=Gf c c.bound.l [] rfl;simp only [ch] at h2;rw [this,oz,pK,h2,fF,Bool.and_comm]
 rw [he] at k1;rw [aU cn2 cj9];simp at k1;simp [af,Sa];rw [aj];simp [k1];cases fF c<;>simp
theorem x97:TX 91=some q97:=by kernel_rfl
theorem w97:aP 91=true:=by kernel_rfl
theorem S97 (c:Cfg)(h:Hp):Sm E TX aP 91 [c.v] h=some (bl (kg c),h):=by
 unfold kg;rw [aU x97 w97];by_cases a1:(c.pods.l.length:Int)<=16
 case neg=>simp [af,q97,aB,a1]
 by_cases a2:(c.services.l.length:Int)<=6
 case neg=>simp [af,q97,aB,a1,a2]
 by_cases a3:(c.bound.l.length:Int)<=4
 case neg=>simp [af,q97,aB,a1,a2,a3]
 simp [af,q97,aB,a1,a2,a3]
theorem x98:TX 92=some q98:=by kernel_rfl
theorem w98:aP 92=true:=by kernel_rfl
theorem S98 (c:Cfg)(hc:c.wf 1048576)(hcb:c.wf big)(hE:FindX E c)(h:Hp):Sm E TX aP 92 [c.v] h=some (bl (oU c),h):=by
 have n1:=λh=>ao1 c hcb hE h;have n2:=λh=>ao2 c hcb hE h;have n3:=λh=>ao3 (E:=E) c hc h;have n4:=λh=>ao4 (E:=E) c hcb h;have n5:=λh=>ao5 c hcb hE h;unfold oU kw;generalize gV c=A at *;generalize bU c=B at *;generalize jN c=C at *;generalize fF c=D at *;generalize bP c=F at *;rw [aU x98 w98];by_cases a1:c.epoch>4611686018427387903
 case pos=>simp +decide [af,q98,ai,aa,az,aB,a1,show ¬ (c.epoch<=4611686018427387903) from by omega]
 by_cases a2:c.next<10
 case pos=>simp +decide [af,q98,ai,aa,az,aB,a1,show c.epoch<=4611686018427387903 from by omega,a2,show ¬ (c.next>=10) from by omega]
 by_cases a3:c.next>4611686018427387904
 case pos=>simp +decide [af,q98,ai,aa,az,aB,a1,show c.epoch<=4611686018427387903 from by omega,a2,show c.next>=10 from by omega,a3,show ¬ (c.next<=4611686018427387904) from by omega]
 by_cases a4:c.hosts<1
 case pos=>simp +decide [af,q98,ai,aa,az,aB,a1,show c.epoch<=4611686018427387903 from by omega,a2,show c.next>=10 from by omega,a3,show c.next<=4611686018427387904 from by omega,a4,show ¬ (c.hosts>=1) from by omega]
 by_cases a5:c.hosts>4
 case pos=>simp +decide [af,q98,ai,aa,az,aB,a1,show c.epoch<=4611686018427387903 from by omega,a2,show c.next>=10 from by omega,a3,show c.next<=4611686018427387904 from by omega,a4,show c.hosts>=1 from by omega,a5,show ¬ (c.hosts<=4) from by omega]
 by_cases a6:c.ways<0
 case pos=>simp +decide [af,q98,ai,aa,az,aB,a1,show c.epoch<=4611686018427387903 from by omega,a2,show c.next>=10 from by omega,a3,show c.next<=4611686018427387904 from by omega,a4,show c.hosts>=1 from by omega,a5,show c.hosts<=4 from by omega,a6,show ¬ (c.ways>=0) from by omega]
 by_cases a7:c.ways>4
 case pos=>simp +decide [af,q98,ai,aa,az,aB,a1,show c.epoch<=4611686018427387903 from by omega,a2,show c.next>=10 from by omega,a3,show c.next<=4611686018427387904 from by omega,a4,show c.hosts>=1 from by omega,a5,show c.hosts<=4 from by omega,a6,show c.ways>=0 from by omega,a7,show ¬ (c.ways<=4) from by omega]
 cases A
 case false=>simp +decide [af,q98,ai,aa,az,aB,a1,show c.epoch<=4611686018427387903 from by omega,a2,show c.next>=10 from by omega,a3,show c.next<=4611686018427387904 from by omega,a4,show c.hosts>=1 from by omega,a5,show c.hosts<=4 from by omega,a6,show c.ways>=0 from by omega,a7,show c.ways<=4 from by omega,n1]
 cases B
 case false=>simp +decide [af,q98,ai,aa,az,aB,a1,show c.epoch<=4611686018427387903 from by omega,a2,show c.next>=10 from by omega,a3,show c.next<=4611686018427387904 from by omega,a4,show c.hosts>=1 from by omega,a5,show c.hosts<=4 from by omega,a6,show c.ways>=0 from by omega,a7,show c.ways<=4 from by omega,n1,n2]
 cases C
 case false=>simp +decide [af,q98,ai,aa,az,aB,a1,show c.epoch<=4611686018427387903 from by omega,a2,show c.next>=10 from by omega,a3,show c.next<=4611686018427387904 from by omega,a4,show c.hosts>=1 from by omega,a5,show c.hosts<=4 from by omega,a6,show c.ways>=0 from by omega,a7,show c.ways<=4 from by omega,n1,n2,n3]
 cases D
 case false=>simp +decide [af,q98,ai,aa,az,aB,a1,show c.epoch<=4611686018427387903 from by omega,a2,show c.next>=10 from by omega,a3,show c.next<=4611686018427387904 from by omega,a4,show c.hosts>=1 from by omega,a5,show c.hosts<=4 from by omega,a6,show c.ways>=0 from by omega,a7,show c.ways<=4 from by omega,n1,n2,n3,n4]
 simp +decide [af,q98,ai,aa,az,aB,a1,show c.epoch<=4611686018427387903 from by omega,a2,show c.next>=10 from by omega,a3,show c.next<=4611686018427387904 from by omega,a4,show c.hosts>=1 from by omega,a5,show c.hosts<=4 from by omega,a6,show c.ways>=0 from by omega,a7,show c.ways<=4 from by omega,n1,n2,n3,n4,n5]
end
