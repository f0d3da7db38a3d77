/- view.Of: its other closures. -/
import Derived.Test.YtjeflmaikicdnaaGreatAp
import Derived.Sort.Defs
import Derived.KernelRfl
import Derived.Sort.LotC
set_option maxRecDepth 100000
set_option linter.unusedVariables false
set_option linter.unusedSimpArgs false
namespace Go.Proofs.YtjeflmaikicdnaaGreat
open IntKind (wrap)
section
theorem RowIs.lay {bs:List Blk}{v:V}{z:Nat}{es:List (List D)}(h:RowIs bs v z es)(ys:List Blk):RowIs (bs++ys) v z es:=by
 refine ⟨h.1,?_⟩;obtain h1 | ⟨b,o,cap,cs,h1,h2,h3⟩:=h.2
 . exact .inl h1
 . exact .inr ⟨b,o,cap,cs,h1,ak h2,h3⟩
section
variable {E:Calls'}(h45:∀ c:Cfg,c.ok->∀ n h,E 91 [c.v,.d (u64 n)] h=some (.tup (match xK c n with | some w=>[w.v,bl true] | none=>[way0.v,bl false]),h))
 (h117:∀ s:Sl Int,short s->∀ n h,E 89 [.d (s.d bn),.d (u32 n)] h=some (bl (fU s.l n),h))
 (h52:∀ (p:Pol) (x:Pod) h,E 111 [p.v,x.v] h=some (bl (mY p x.ns x.service),h))
variable {c:Cfg}{s:Scp}
include h45 in
theorem XF {h:Hp}(hE:OfE c s h.bs)(hc:c.ok)(p:Pod):Sm E TV aX 95 [ag p.c,.ptr 1 0,.ptr 6 0,.ptr 5 0] h=some (bl (DI c s.node p),h):=by
 have m:∀ ys lo,Sm E TV aX 92 [ag p.c,.fn 90 [.ptr 0 0,.ptr 3 0],.ptr 0 0] ⟨h.bs++ys,lo⟩=some (bl (yB c p (kT c s.node)),⟨h.bs++ys,lo⟩):=λys lo =>
  XE (h:=⟨h.bs++ys,lo⟩) (hE.lay ys) hc λx _ zs lo2=>Rq h45 (h:=⟨h.bs++ys++zs,lo2⟩) ((hE.lay ys).lay zs) hc x
 rw [av am1 aq1];unfold DI;cases e:(p.host==s.node)<;>simp +decide [aa,NW,ak hE.b1,ak hE.b5,ak hE.b6,e,m,ai,V.under]
include h117 in
theorem bo1 {h:Hp}(hE:OfE c s h.bs)(hs:short s.addrs)(x:Svc):Sm E TV aX 100 [ag x.c,.ptr 4 0] h=some (bl (fU s.addrs.l x.addr),h):=by
 have m:=λys lo=>Rp (E:=E) h117 (h:=⟨h.bs++ys,lo⟩) (hE.lay ys) hs x.addr;rw [av am7 aq5];simp [aa,TH,ak hE.b4,m,V.under]
include h45 h117 in
theorem bo0 {h:Hp}(hE:OfE c s h.bs)(hc:c.ok)(hs:short s.addrs)(p:Pod):Sm E TV aX 99 [ag p.c,.ptr 7 0,.ptr 4 0,.ptr 6 0] h=some (bl (xe c s p),h):=by
 have m1:=λys lo=>XF (E:=E) h45 (h:=⟨h.bs++ys,lo⟩) (hE.lay ys) hc p;have m2:=λys lo=>Rp (E:=E) h117 (h:=⟨h.bs++ys,lo⟩) (hE.lay ys) hs p.addr;have m3:∀ ys lo,Sm E TV aX 92 [ag p.c,.fn 100 [.ptr 4 0],.ptr 0 0] ⟨h.bs++ys,lo⟩=some (bl (yB c p λx=>fU s.addrs.l x.addr),⟨h.bs++ys,lo⟩):=λys lo =>
  XE (h:=⟨h.bs++ys,lo⟩) (hE.lay ys) hc λx _ zs lo2=>bo1 h117 (h:=⟨h.bs++ys++zs,lo2⟩) ((hE.lay ys).lay zs) hs x
 rw [av am6 aq4];unfold xe;cases e1:DI c s.node p<;>cases e2:fU s.addrs.l p.addr<;>simp +decide [aa,NY,ak hE.b4,ak hE.b6,ak hE.b7,e1,e2,m1,m2,m3,ai,V.under]
theorem bo3 {h:Hp}{x:Svc}{P:Nat}(hP:au h.bs P=some (x.c.map .d))(p:Pod):Sm E TV aX 104 [ag p.c,.ptr P 0] h=some (bl (p.service==x.id),h):=by
 rw [av an0 aq8];simp +decide [aa,N7,ak hP,V.under]
def aO (e:Int)(v1 v2 v3 v4 v5:V):List V:=[.d (u64 e),v1,v2,v3,v4,v5]
include h45 h117 in
theorem bo2 {h:Hp}(hE:OfE c s h.bs)(hc:c.ok)(hs:short s.addrs){e:Int}{v1 v2 v3 v4 v5:V}{D:Nat}(hD:au h.bs D=some (aO e v1 v2 v3 v4 v5)){l:List Pod}(hl:l.length<2 ^ 62)(hr:RowIs h.bs v2 7 (l.map Pod.c))(x:Svc) :
 Sm E TV aX 102 [ag x.c,.ptr 4 0,.ptr 5 0,.ptr D 0] h=some (bl (fU s.addrs.l x.addr||(kT c s.node x||l.any λp=>p.service==x.id)),h):=by
 have m1:=λys lo=>Rp (E:=E) h117 (h:=⟨h.bs++ys,lo⟩) (hE.lay ys) hs x.addr;have m2:=λys lo=>Rq (E:=E) h45 (h:=⟨h.bs++ys,lo⟩) (hE.lay ys) hc x;have m3:∀ lo,Sm E TV aX 103 [v2,.fn 104 [.ptr h.bs.length 0]] ⟨h.bs++[.cells (x.c.map .d)],lo⟩=some (bl (l.any λp=>p.service==x.id),⟨h.bs++[.cells (x.c.map .d)],lo⟩):=λlo =>
  fK (E:=E) (T:=TV) (val:=aX) QI QM hr.ok hr.okv (gP (E:=E) Pod.c (z:=7) Mk Mm QK QO (hr.lay _) hl λe he lo2=>bo3 (by simp) e)
 rw [av am9 aq7];have hd:sub (aO e v1 v2 v3 v4 v5) 2 1=some [v2]:=rfl;cases e1:fU s.addrs.l x.addr<;>cases e2:kT c s.node x<;>simp +decide [aa,NZ,ak hE.b4,ak hE.b5,ak hD,hd,e1,e2,m1,m2,m3,ai,V.under,hr.okv]
theorem bo5 {h:Hp}{w:Way}{P:Nat}(hP:au h.bs P=some (w.c.map .d))(x:Svc):Sm E TV aX 107 [ag x.c,.ptr P 0] h=some (bl (x.way==w.id),h):=by
 rw [av an3 ar1];simp +decide [aa,N9,ak hP,V.under]
theorem bo4 {h:Hp}(hE:OfE c s h.bs){e:Int}{v1 v2 v3 v4 v5:V}{D:Nat}(hD:au h.bs D=some (aO e v1 v2 v3 v4 v5)){l:List Svc}(hl:l.length<2 ^ 62)(hr:RowIs h.bs v3 5 (l.map Svc.c))(w:Way) :
 Sm E TV aX 106 [ag w.c,.ptr 3 0,.ptr D 0] h=some (bl (w.node==s.node||l.any λx=>x.way==w.id),h):=by
 have m1:=λys lo=>XD (E:=E) (h:=⟨h.bs++ys,lo⟩) (hE.lay ys) w;have m3:∀ lo,Sm E TV aX 93 [v3,.fn 107 [.ptr h.bs.length 0]] ⟨h.bs++[.cells (w.c.map .d)],lo⟩=some (bl (l.any λx=>x.way==w.id),⟨h.bs++[.cells (w.c.map .d)],lo⟩):=λlo =>
  fK (E:=E) (T:=TV) (val:=aX) QH QL hr.ok hr.okv (gP (E:=E) Svc.c (z:=5) Ml Mo QJ QN (hr.lay _) hl λe he lo2=>bo5 (by simp) e)
 rw [av an2 ar0];have hd:sub (aO e v1 v2 v3 v4 v5) 3 1=some [v3]:=rfl;cases e1:(w.node==s.node)<;>simp +decide [aa,N8,ak hE.b3,ak hD,hd,e1,m1,m3,ai,V.under,hr.okv]
include h45 h52 in
theorem bo7 {h:Hp}(hE:OfE c s h.bs)(hc:c.ok){p:Pol}{P:Nat}(hP:au h.bs P=some (p.c.map .d))(x:Pod):Sm E TV aX 110 [ag x.c,.ptr 7 0,.ptr P 0] h=some (bl (DI c s.node x&&mY p x.ns x.service),h):=by
 have m1:=λys lo=>XF (E:=E) h45 (h:=⟨h.bs++ys,lo⟩) (hE.lay ys) hc x;have m2:∀ h,Sm E TV aX 111 [ag p.c,ag x.c] h=some (bl (mY p x.ns x.service),h):=λh=>by rw [aG dw5]; exact h52 p x h
 rw [av an6 ar4];cases e1:DI c s.node x<;>simp +decide [aa,TR,ak hE.b7,ak hP,e1,m1,m2,ai,V.under]
include h45 h52 in
theorem bo6 {h:Hp}(hE:OfE c s h.bs)(hc:c.ok)(p:Pol):Sm E TV aX 109 [ag p.c,.ptr 0 0,.ptr 7 0] h=some (bl (xg c s.node p),h):=by
 have m3:∀ lo,Sm E TV aX 103 [.d (c.pods.d Pod.c),.fn 110 [.ptr 7 0,.ptr h.bs.length 0]] ⟨h.bs++[.cells (p.c.map .d)],lo⟩=some (bl (xg c s.node p),⟨h.bs++[.cells (p.c.map .d)],lo⟩):=λlo =>
  fK (E:=E) (T:=TV) (val:=aX) QI QM rfl rfl (gP (E:=E) Pod.c (z:=7) Mk Mm QK QO (RowIs.of (cells:=Pod.c) (λ_=>rfl) _) hc.1.lt λe he lo2=>by
  have k:=bo7 (E:=E) h45 h52 (s:=s) (p:=p) (P:=h.bs.length) (h:=⟨h.bs++[.cells (p.c.map .d)],lo2⟩) (hE.lay [.cells (p.c.map .d)]) hc (by simp) e;exact k)
 rw [av an5 ar3];simp +decide [aa,TQ,ak hE.b0,m3,V.under]
end
end
section
abbrev Scp.v (x:Scp):V:=ag x.c
section
variable {E:Calls'}
theorem bp0 (a:Int)(h:Hp):Sm E TV aX 165 [.d (u32 a)] h=some (.d (u32 a),h):=by
 rw [av ao9 as9];simp [aa,Ie,V.under]
theorem zG {s:Sl Int}{i:Nat}(hi:i<s.l.length){kd:IntKind}{h:Hp}:iL none 1 (.d (s.d bn)) (.d (.int kd i)) h=some (.eptr (bn s.l[i]) 0,h) :=
 mZ (cells:=bn) (λ_=>rfl) hi
theorem be0 {s:Sl Int}(hs:s.l.length<2 ^ 62)(most:Int):∀ (m i:Nat),i+m=s.l.length->1<=i →
 Cd E TV aX (.loop [0,1,2,9,10] dI) [(0,.d (s.d bn)),(1,.d (i64 most)),(2,.fn 165 []),(9,.d (i64 s.l.length)),(10,.d (i64 i))] ⟨[],0⟩ =
  if aU (s.l.drop (i-1)) then some (.exit 0,[(0,.d (s.d bn)),(1,.d (i64 most))],⟨[],0⟩) else some (.ret,[(6,bl false)],⟨[],0⟩):=by
 intro m;have key:=ax (E:=E) (T:=TV) (val:=aX) [0,1,2,9,10] dI;generalize Cd E TV aX (.loop [0,1,2,9,10] dI)=W at key ⊢
 induction m with
 | zero =>
  intro i hi h1;rw [key,kM (by omega)];simp [dI,show ¬ ((i:Int)<s.l.length) from by omega]
 | succ m ih =>
  intro i hi h1;have hlt:i<s.l.length:=by omega
  have hd:=jH (l:=s.l) (i:=i-1) (by omega);have hs1:i-1+1=i:=by omega
  simp only [hs1] at hd;have hp1:=λh=>zG hlt (kd:=.i64) (h:=h);have hp0:=λh=>zG (show i-1<s.l.length by omega) (kd:=.i64) (h:=h);have c1:=bp0 (E:=E);have hw:=aI hlt hs;have hwm:wrap .i64 ((i:Int)-1)=((i-1:Nat):Int):=by rw [wrap64]<;>omega
  have hpos:0<i:=h1;have hih:=ih (i+1) (by omega) (by omega);simp only [show i+1-1=i by omega] at hih;rw [key,hd];generalize s.l[i]=y at *;generalize s.l[i-1]=x at *;by_cases hg:x<y
  . simp +decide [dI,hp1,hp0,bn,hwm,hw,hpos,c1,hlt,hg,aA,ae,show ¬ (x>=y) from by omega];simpa using hih
  . simp +decide [dI,hp1,hp0,bn,hwm,hpos,c1,hlt,hg,aA,ae,show x>=y from by omega]
theorem bo9 {s:Sl Int}(hs:s.l.length<2 ^ 62)(most:Int)(h:Hp):Sm E TV aX 164 [.d (s.d bn),.d (i64 most),.fn 165 []] h=some (bl (aU s.l&&decide ((s.l.length:Int)<=most)),h):=by
 rw [aN ao8 as8];have hfr:frz h (.fn 165 [])=some (.fn 165 []):=rfl;have key:=ax (E:=E) (T:=TV) (val:=aX) [0,1,2,9,10] dI;have hl:=be0 (E:=E) hs most;simp [aa,DX,hfr];rw [aj];simp only [jh,kv];simp;generalize Cd E TV aX (.loop [0,1,2,9,10] dI)=W at key hl ⊢;by_cases h0:s.l=[]
 . rw [key];simp [dI,h0,aU,dK]
 . have hpos:0<s.l.length:=List.length_pos_iff.2 h0;have h1:=hl (s.l.length-1) 1 (by omega) (by omega);simp at h1;rw [key];have hw:=aI hpos hs;simp at hw;simp +decide [dI,aA,bA,hpos,hw,h1];cases aU s.l<;>simp [dK]
variable (h117:∀ s:Sl Int,short s->∀ n h,E 89 [.d (s.d bn),.d (u32 n)] h=some (bl (fU s.l n),h))
include h117
theorem bo8 {s:Sl Int}(hs:short s)(most:Int)(h:Hp):Sm E TV aX 75 [.d (s.d bn),.d (i64 most)] h=some (bl (gI s.l most),h):=by
 have m:∀ h,Sm E TV aX 89 [.d (s.d bn),.d (u32 0)] h=some (bl (fU s.l 0),h):=λh=>by rw [aG QG]; exact h117 _ hs 0 h
 rw [aN an7 ar5];cases e:(aU s.l&&decide ((s.l.length:Int)<=most))<;>simp +decide [aa,DN,bo9 hs.lt most,m,e,gI,ai]
theorem V67 {s:Scp}(hs:short s.addrs)(h:Hp):Sm E TV aX 30 [s.v] h=some (bl (bW s),h):=by
 rw [aN dw6 dw8];have hv:=λh=>bo8 (E:=E) h117 hs 32 h;unfold bW;by_cases e1:s.node>=2<;>by_cases e2:s.node<=9<;>simp +decide [aa,q67,hv,e1,e2,ai]
end
end
section
open Go.Sort (swp)
def zsV (kd:IntKind)(d:Array Int):List V:=d.toList.map (iv kd)
theorem Qc {kd:IntKind}{d:Array Int}:(zsV kd d).length=d.size:=by simp [zsV]
theorem VX {kd:IntKind}{d:Array Int}{i:Nat}(h:i<d.size):(zsV kd d)[i]?=some (iv kd d[i]!):=by
 simp [zsV,h,getElem!_pos]
theorem Qd {kd:IntKind}{d:Array Int}{i:Nat}{x:Int}:(zsV kd d).set i (iv kd x)=zsV kd (d.setIfInBounds i x):=by
 simp [zsV]
abbrev Mz (kd:IntKind) (bs:List Blk) (b:Nat) (d:Array Int) (lo:Nat):Hp:=Mr bs b (zsV kd d) lo
section
variable {kd:IntKind}{bs:List Blk}{b lo:Nat}{d:Array Int}
theorem bH (hb:b<bs.length){i:Nat}(hi:i<d.size):ldv (Mz kd bs b d lo) (.ptr b i) 1 true=some (.d (.int kd d[i]!),Mz kd bs b d lo):=rq hb (VX hi)
theorem Qj (hb:b<bs.length){i:Nat}{x:Int}(hi:i<d.size):stv (Mz kd bs b d lo) (.ptr b i) (.d (.int kd x)) 1=some (.undef,Mz kd bs b (d.setIfInBounds i x) (min lo b)):=by
 have:=I9 (lo:=lo) hb (k:=i) (x:=.int kd x) (cur:=zsV kd d) (by rw [Qc]; exact hi);rw [this];have h2:=Qd (kd:=kd) (d:=d) (i:=i) (x:=x);rw [iv] at h2;rw [h2]
end
def Kz (b lo:Nat)(d:Array Int)(lo':Nat)(d':Array Int):Prop:=(lo'<=b)\/(d'=d/\lo'=lo)
theorem Kz.refl {b lo:Nat}{d:Array Int}:Kz b lo d lo d:=.inr ⟨rfl,rfl⟩
theorem Kz.trans {b lo lo' lo'':Nat}{d d' d'':Array Int}(h:Kz b lo d lo' d')(k:Kz b lo' d' lo'' d''):Kz b lo d lo'' d'':=by
 obtain k | ⟨rfl,rfl⟩:=k
 . exact .inl k
 . exact h
theorem cB {d:Array Int}{i j:Nat}:(swp d i j).size=d.size:=by simp [swp]
theorem fA {kd:IntKind}{bs:List Blk}{b lo:Nat}{d:Array Int}(hb:b<bs.length){i j:Nat}(hi:i<d.size)(hj:j<d.size) :
 stv (Mz kd bs b d lo) (.ptr b i) (.d (.int kd d[j]!)) 1=some (.undef,Mz kd bs b (d.setIfInBounds i d[j]!) (min lo b)) ∧
 ∀ lo,stv (Mz kd bs b (d.setIfInBounds i d[j]!) lo) (.ptr b j) (.d (.int kd d[i]!)) 1=some (.undef,Mz kd bs b (swp d i j) (min lo b)) :=
 ⟨Qj hb hi,λlo=>Qj hb (by simpa using hj)⟩
theorem kX {kd:IntKind}{bs:List Blk}{b lo lo':Nat}{d d':Array Int}{r:V}(hb:b<bs.length)(hr:r.under bs.length=true)(hk:Kz b bs.length d lo' d') :
 ∃ lo2,fQ (Mz kd bs b d lo) (some (r,Mz kd bs b d' lo'))=some (r,Mz kd bs b d' lo2)/\Kz b lo d lo2 d':=by
 have hl:(Mz kd bs b d lo).bs.length=bs.length:=by simp [Mz,Mr]
 rw [gY];obtain hk | ⟨rfl,rfl⟩:=hk
 . rw [if_neg (λhh=>by have:=hh.1; rw [hl] at this; simp only [Mz,Mr] at this; omega)];exact ⟨min lo lo',rfl,.inl (by omega)⟩
 . rw [if_pos ⟨by rw [hl]; exact br _,by rw [hl]; exact hr⟩];exact ⟨lo,rfl,.refl⟩
end
section
open Go.Sort (swp ltInt insInner insOuter insertionSort)
def df7:List (Nat×QF):=[(196,H9),(258,Lj),(259,UC),(260,UD),(261,Ce),(262,UE),(263,UF),(265,UH),(266,OW),(326,UW),(329,UZ),(330,U0),(364,Pd),(327,UX),(328,UY)]
def TS:FuncId->Option QF:=iW df7
def aR (f:FuncId):Bool:=[327].any λn=>Nat.beq n f
theorem aj0:TS 258=some Lj:=by kernel_rfl
theorem at7:aR 258=false:=by kernel_rfl
theorem cr3:TS 264=none:=by kernel_rfl
section
variable {E:Calls'}(h334:∀ x y h,E 264 [.d (u32 x),.d (u32 y)] h=some (bl (ltInt x y),h))
include h334
theorem tu (x y:Int)(h:Hp):Sm E TS aR 264 [.d (u32 x),.d (u32 y)] h=some (bl (ltInt x y),h):=by rw [aG cr3]; exact h334 x y h
theorem NC {bs:List Blk}{b:Nat}(hb:b<bs.length){n a:Nat}(hn:n<2 ^ 62)(ha:a<=n){cap:Option Nat}(t2 t6:V):∀ (m:Nat) (d:Array Int) (lo:Nat),m<n->d.size=n →
 ∃ lo',Cd E TS aR (.loop [0,1,2,6,7] lg) [(0,.row b 0 n cap 1),(1,.d (i64 a)),(2,t2),(6,t6),(7,.d (i64 m))] (Mz .u32 bs b d lo) =
  some (.exit 2,[(0,.row b 0 n cap 1),(1,.d (i64 a)),(2,t2),(6,t6)],Mz .u32 bs b (insInner ltInt a m d) lo')/\Kz b lo d lo' (insInner ltInt a m d)/\(insInner ltInt a m d).size=n:=by
 intro m;have key:=ax (E:=E) (T:=TS) (val:=aR) [0,1,2,6,7] lg;generalize Cd E TS aR (.loop [0,1,2,6,7] lg)=W at key ⊢
 induction m with
 | zero =>
  intro d lo hm hd;refine ⟨lo,?_,.refl,hd⟩;rw [key];simp +decide [lg,aA,bA,ay,Tr.mute,insInner,show ¬ ((a:Int)<0) from by omega]
 | succ m ih =>
  intro d lo hm hd;have hw1:wrap .i64 (((m+1:Nat):Int)-1)=(m:Int):=by rw [wrap64]<;>omega
  have ix1:=λh=>gD (b:=b) (o:=0) (z:=1) (cap:=cap) (kd:=.i64) (h:=h) (show m+1<n by omega);have ix0:=λh=>gD (b:=b) (o:=0) (z:=1) (cap:=cap) (kd:=.i64) (h:=h) (show m<n by omega);simp only [Nat.zero_add,Nat.mul_one] at ix1 ix0;have l1:=bH (kd:=.u32) (lo:=lo) hb (d:=d) (i:=m+1) (by omega);have l0:=bH (kd:=.u32) (lo:=lo) hb (d:=d) (i:=m) (by omega);obtain ⟨st1,st2⟩:=fA (kd:=.u32) (lo:=lo) hb (d:=d) (i:=m+1) (j:=m) (by omega) (by omega);have q:=ih (swp d (m+1) m) (min (min lo b) b) (by omega) (by rw [cB]; exact hd);have c:=λh=>tu h334 d[m+1]! d[m]! h;simp only [insInner];generalize hx:d[m+1]! = x at *;generalize hy:d[m]! = y at *;generalize d.setIfInBounds (m+1) y=d1 at *;generalize swp d (m+1) m=d2 at *;generalize hk:m+1=k at *;rw [key];generalize hM:Mz .u32 bs b d lo=M0 at *;generalize hM1:Mz .u32 bs b d1=M1 at *;by_cases c1:k>a
  . by_cases c2:ltInt x y=true
    . obtain ⟨lo',q1,q2,q3⟩:=q;refine ⟨lo',?_,?_,?_⟩
      . simp +decide [lg,aA,ae,ay,Tr.mute,ix1,ix0,l1,l0,c,c1,c2,hw1,st1,st2,-aC,-aL];simpa using q1
      . have:Kz b lo d (min (min lo b) b) d2:=.inl (by omega);simpa [c1,c2] using this.trans q2
      . simpa [c1,c2] using q3
    . refine ⟨lo,?_,?_,?_⟩
      . simp +decide [lg,aA,ae,ay,Tr.mute,ix1,ix0,l1,l0,c,c1,c2,hw1,hM,-aC,-aL]
      . simpa [c1,c2] using Kz.refl
      . simpa [c1,c2] using hd
  . refine ⟨lo,?_,?_,?_⟩
    . simp +decide [lg,aA,bA,ay,Tr.mute,c1,hM,-aC,-aL]
    . simpa [c1] using Kz.refl
    . simpa [c1] using hd
theorem Kh {bs:List Blk}{b:Nat}(hb:b<bs.length){n a e:Nat}(hn:n<2 ^ 62)(ha:a<=n)(he:e<=n){cap:Option Nat}:∀ (m i:Nat) (d:Array Int) (lo:Nat),i+m=e\/(m=0/\e<=i)->i<2 ^ 62->d.size=n →
 ∃ lo',Cd E TS aR (.loop [0,1,2,6] nL) [(0,.row b 0 n cap 1),(1,.d (i64 a)),(2,.d (i64 e)),(6,.d (i64 i))] (Mz .u32 bs b d lo) =
  some (.exit 0,[],Mz .u32 bs b (insOuter ltInt a e i d) lo')/\Kz b lo d lo' (insOuter ltInt a e i d)/\(insOuter ltInt a e i d).size=n:=by
 intro m;have key:=ax (E:=E) (T:=TS) (val:=aR) [0,1,2,6] nL;have hin:=NC h334 hb hn ha (cap:=cap) (.d (i64 e));generalize Cd E TS aR (.loop [0,1,2,6] nL)=W at key ⊢
 induction m with
 | zero =>
  intro i d lo hi hi2 hd;have hu:insOuter ltInt a e i d=d:=by rw [insOuter,if_neg (by omega)]
  rw [hu];refine ⟨lo,?_,.refl,hd⟩;rw [key];simp [nL,show ¬ ((i:Int)<(e:Int)) from by omega]
 | succ m ih =>
  intro i d lo hi hi2 hd;have hlt:i<e:=by omega
  have hu:insOuter ltInt a e i d=insOuter ltInt a e (i+1) (insInner ltInt a i d):=by rw [insOuter,if_pos hlt]
  rw [hu];obtain ⟨lo1,a1,a2,a3⟩:=hin (.d (i64 i)) i d lo (by omega) hd;obtain ⟨lo',q1,q2,q3⟩:=ih (i+1) (insInner ltInt a i d) lo1 (by omega) (by omega) a3;have hw:wrap .i64 ((i:Int)+1)=((i+1:Nat):Int):=by rw [wrap64]<;>omega
  refine ⟨lo',?_,a2.trans q2,q3⟩;generalize insOuter ltInt a e (i+1) (insInner ltInt a i d)=D at *;generalize insInner ltInt a i d=d1 at *;generalize Mz .u32 bs b d lo=M0 at *;generalize Mz .u32 bs b d1 lo1=M1 at *;rw [key];simp [nL,show ((i:Int)<(e:Int)) from by omega];rw [aj];try simp at a1
  simp [a1,hw];simpa using q1
theorem bj5 {bs:List Blk}{b:Nat}(hb:b<bs.length){n a e:Nat}(hn:n<2 ^ 61)(ha:a<=n)(he:e<=n){cap:Option Nat}(d:Array Int)(lo:Nat)(hd:d.size=n) :
 ∃ lo',Sm E TS aR 258 [.row b 0 n cap 1,.d (i64 a),.d (i64 e)] (Mz .u32 bs b d lo)=some (.tup [],Mz .u32 bs b (insertionSort ltInt d a e) lo')/\Kz b lo d lo' (insertionSort ltInt d a e)/\(insertionSort ltInt d a e).size=n:=by
 have hw:wrap .i64 ((a:Int)+1)=((a+1:Nat):Int):=by rw [wrap64]<;>omega
 obtain ⟨lo1,q1,q2,q3⟩:=Kh h334 hb (by omega) ha he (cap:=cap) (e-(a+1)) (a+1) d (Mz .u32 bs b d lo).bs.length (by omega) (by omega) hd;have hl:(Mz .u32 bs b d lo).bs.length=bs.length:=by simp [Mz,Mr]
 rw [hl] at q1 q2;obtain ⟨lo2,r1,r2⟩:=kX (kd:=.u32) (lo:=lo) (r:=.tup []) hb rfl q2;refine ⟨lo2,?_,r2,q3⟩;have hM:(⟨(Mz .u32 bs b d lo).bs,bs.length⟩:Hp)=Mz .u32 bs b d bs.length:=rfl;rw [av aj0 at7,hl,hM];refine Eq.trans ?_ r1
 congr 1
 generalize Mz .u32 bs b (insOuter ltInt a e (a+1) d) lo1=M1 at *;generalize Mz .u32 bs b d bs.length=M0 at *;simp [aa,Lj,hw];rw [aj];simp at q1;simp [q1];rfl
end
end
section
open Go.Sort (swp ltInt siftDown heapBuild heapPop heapSort)
@[simp] theorem au8 {k:IntKind}{a b:Int}:bR .mul (.d (.int k a)) (.d (.int k b))=some (.int k (k.wrap (a * b))):=by simp [bR,eZ]
theorem cr5:TS 326=some UW:=by kernel_rfl
theorem dy3:aR 326=false:=by kernel_rfl
theorem cq8:TS 259=some UC:=by kernel_rfl
theorem dx7:aR 259=false:=by kernel_rfl
theorem xJ {x y:Nat}{k:Nat}(h:x+y=k)(hk:k<2 ^ 62):wrap .i64 ((x:Int)+(y:Int))=(k:Int):=by rw [wrap64]<;>omega
theorem gX {x:Nat}{k:Nat}(h:x+1=k)(hk:k<2 ^ 62):wrap .i64 ((x:Int)+1)=(k:Int):=by rw [wrap64]<;>omega
theorem gM {x:Nat}{k:Nat}(h:x=k+1)(hk:k<2 ^ 62):wrap .i64 ((x:Int)-1)=(k:Int):=by rw [wrap64]<;>omega
theorem uU {x y:Nat}{k:Nat}(h:x=k+y)(hk:x<2 ^ 62):wrap .i64 ((x:Int)-(y:Int))=(k:Int):=by rw [wrap64]<;>omega
theorem ixz {b n i:Nat}{cap:Option Nat}{h:Hp}(hi:i<n):iL none 1 (.row b 0 n cap 1) (.d (.int .i64 i)) h=some (.ptr b i,h):=by
 have:=gD (b:=b) (o:=0) (z:=1) (cap:=cap) (kd:=.i64) (h:=h) hi;simpa using this
section
variable {E:Calls'}(h334:∀ x y h,E 264 [.d (u32 x),.d (u32 y)] h=some (bl (ltInt x y),h))
include h334
theorem Iw {bs:List Blk}{b:Nat}(hb:b<bs.length){n hi fi:Nat}(hn:n<2 ^ 60)(hf:fi+hi<=n){cap:Option Nat}:∀ (m root:Nat) (d:Array Int) (lo:Nat),hi-root<=m->root<=hi->d.size=n →
 ∃ lo' ex,(ex=Ex.exit 0\/ex=Ex.ret)/\Cd E TS aR (.loop [0,2,3,8] ig) [(0,.row b 0 n cap 1),(2,.d (i64 hi)),(3,.d (i64 fi)),(8,.d (i64 root))] (Mz .u32 bs b d lo) =
  some (ex,[],Mz .u32 bs b (siftDown ltInt hi fi root d) lo')/\Kz b lo d lo' (siftDown ltInt hi fi root d)/\(siftDown ltInt hi fi root d).size=n:=by
 intro m;have key:=ax (E:=E) (T:=TS) (val:=aR) [0,2,3,8] ig;generalize Cd E TS aR (.loop [0,2,3,8] ig)=W at key ⊢
 induction m with
 | zero =>
  intro root d lo hm hr hd;have hu:siftDown ltInt hi fi root d=d:=by rw [siftDown,dif_pos (by omega)]
  rw [hu];refine ⟨lo,.exit 0,.inl rfl,?_,.refl,hd⟩;have hw1:wrap .i64 (2 * (root:Int))=2 * (root:Int):=by rw [wrap64]<;>omega
  have hw2:wrap .i64 (2 * (root:Int)+1)=2 * (root:Int)+1:=by rw [wrap64]<;>omega
  rw [key];simp +decide [ig,hw1,hw2,show ((2:Int) * (root:Int)+1>=hi) from by omega]
 | succ m ih =>
  intro root d lo hm hr hd;have hw1:wrap .i64 (2 * (root:Int))=2 * (root:Int):=by rw [wrap64]<;>omega
  by_cases hlt:2 * root+1>=hi
  . have hu:siftDown ltInt hi fi root d=d:=by rw [siftDown,dif_pos hlt]
    rw [hu];refine ⟨lo,.exit 0,.inl rfl,?_,.refl,hd⟩;have hw2:wrap .i64 (2 * (root:Int)+1)=2 * (root:Int)+1:=by rw [wrap64]<;>omega
    rw [key];simp +decide [ig,hw1,hw2,show ((2:Int) * (root:Int)+1>=hi) from by omega]
  rw [siftDown,dif_neg hlt];obtain ⟨c,hc⟩:∃ c,c=2 * root+1:=⟨_,rfl⟩;have hw2:wrap .i64 (2 * (root:Int)+1)=(c:Int):=by rw [wrap64]<;>omega
  obtain ⟨k,hk⟩:∃ k,k=c+1:=⟨_,rfl⟩;have wk:=gX (x:=c) hk.symm (by omega);obtain ⟨fr,hfr⟩:∃ k,k=fi+root:=⟨_,rfl⟩;obtain ⟨fc,hfc⟩:∃ k,k=fi+c:=⟨_,rfl⟩;obtain ⟨fk,hfk⟩:∃ j,j=fi+k:=⟨_,rfl⟩;have wfr:=xJ (x:=fi) (y:=root) hfr.symm (by omega);have wfc:=xJ (x:=fi) (y:=c) hfc.symm (by omega);have wfk:=xJ (x:=fi) (y:=k) hfk.symm (by omega);have wfk2:=gX (x:=fc) (k:=fk) (by omega) (by omega);rw [show fi+(2 * root+1)+1=fk by omega,show 2 * root+1+1=k by omega,show fi+k=fk by omega,show 2 * root+1=c by omega,show fi+c=fc by omega,show fi+root=fr by omega];have ixr:=λh=>ixz (b:=b) (n:=n) (cap:=cap) (h:=h) (i:=fr) (by omega);have ixc:=λh=>ixz (b:=b) (n:=n) (cap:=cap) (h:=h) (i:=fc) (by omega);have lr:=bH (kd:=.u32) (lo:=lo) hb (d:=d) (i:=fr) (by omega);have lc:=bH (kd:=.u32) (lo:=lo) hb (d:=d) (i:=fc) (by omega);have cz:=λx y h=>tu h334 x y h;have hcl:¬ (c:Int)>=hi:=by omega
  by_cases hkh:k<hi
  . have ixk:=λh=>ixz (b:=b) (n:=n) (cap:=cap) (h:=h) (i:=fk) (by omega);have lk:=bH (kd:=.u32) (lo:=lo) hb (d:=d) (i:=fk) (by omega);have hkl:(k:Int)<hi:=by omega
    by_cases c1:ltInt d[fc]! d[fk]! = true
    . rw [if_pos (by simp [hkh,c1])];by_cases c2:ltInt d[fr]! d[fk]! = true
      . rw [if_neg (by simp [c2]),dif_pos hkh];obtain ⟨st1,st2⟩:=fA (kd:=.u32) (lo:=lo) hb (d:=d) (i:=fr) (j:=fk) (by omega) (by omega);obtain ⟨lo',ex,hex,q1,q2,q3⟩:=ih k (swp d fr fk) (min (min lo b) b) (by omega) (by omega) (by rw [cB]; exact hd);have hK:Kz b lo d (min (min lo b) b) (swp d fr fk):=.inl (by omega);refine ⟨lo',ex,hex,?_,hK.trans q2,q3⟩;generalize siftDown ltInt hi fi k (swp d fr fk)=D at *;generalize d[fr]! = x at *;generalize d[fk]! = y at *;generalize d[fc]! = z at *;generalize d.setIfInBounds fr y=d1 at *;generalize swp d fr fk=d2 at *;generalize Mz .u32 bs b d lo=M0 at *;rw [key];generalize hM1:Mz .u32 bs b d1=M1 at *;simp +decide [ig,aA,ae,ay,Tr.mute,hw1,hw2,wk,wfr,wfc,wfk,wfk2,ixr,ixc,ixk,lr,lc,lk,cz,c1,c2,hcl,hkl,st1,st2,-aC,-aL];simpa using q1
      . rw [if_pos (by simp [c2])];refine ⟨lo,.ret,.inr rfl,?_,.refl,hd⟩;generalize d[fr]! = x at *;generalize d[fk]! = y at *;generalize d[fc]! = z at *;generalize Mz .u32 bs b d lo=M0 at *;rw [key];simp +decide [ig,aA,ae,ay,Tr.mute,hw1,hw2,wk,wfr,wfc,wfk,wfk2,ixr,ixc,ixk,lr,lc,lk,cz,c1,c2,hcl,hkl,-aC,-aL]
    . rw [if_neg (by simp [c1])];by_cases c2:ltInt d[fr]! d[fc]! = true
      . rw [if_neg (by simp [c2])];obtain ⟨st1,st2⟩:=fA (kd:=.u32) (lo:=lo) hb (d:=d) (i:=fr) (j:=fc) (by omega) (by omega);obtain ⟨lo',ex,hex,q1,q2,q3⟩:=ih c (swp d fr fc) (min (min lo b) b) (by omega) (by omega) (by rw [cB]; exact hd);have hK:Kz b lo d (min (min lo b) b) (swp d fr fc):=.inl (by omega);refine ⟨lo',ex,hex,?_,hK.trans q2,q3⟩;generalize siftDown ltInt hi fi c (swp d fr fc)=D at *;generalize d[fr]! = x at *;generalize d[fk]! = y at *;generalize d[fc]! = z at *;generalize d.setIfInBounds fr z=d1 at *;generalize swp d fr fc=d2 at *;generalize Mz .u32 bs b d lo=M0 at *;rw [key];generalize hM1:Mz .u32 bs b d1=M1 at *;simp +decide [ig,aA,ae,ay,Tr.mute,hw1,hw2,wk,wfr,wfc,wfk2,ixr,ixc,ixk,lr,lc,lk,cz,c1,c2,hcl,hkl,st1,st2,-aC,-aL];simpa using q1
      . rw [if_pos (by simp [c2])];refine ⟨lo,.ret,.inr rfl,?_,.refl,hd⟩;generalize d[fr]! = x at *;generalize d[fk]! = y at *;generalize d[fc]! = z at *;generalize Mz .u32 bs b d lo=M0 at *;rw [key];simp +decide [ig,aA,ae,ay,Tr.mute,hw1,hw2,wk,wfr,wfc,wfk2,ixr,ixc,ixk,lr,lc,lk,cz,c1,c2,hcl,hkl,-aC,-aL]
  . rw [if_neg (by simp [hkh])];have hkl:¬ (k:Int)<hi:=by omega
    by_cases c2:ltInt d[fr]! d[fc]! = true
    . rw [if_neg (by simp [c2])];obtain ⟨st1,st2⟩:=fA (kd:=.u32) (lo:=lo) hb (d:=d) (i:=fr) (j:=fc) (by omega) (by omega);obtain ⟨lo',ex,hex,q1,q2,q3⟩:=ih c (swp d fr fc) (min (min lo b) b) (by omega) (by omega) (by rw [cB]; exact hd);have hK:Kz b lo d (min (min lo b) b) (swp d fr fc):=.inl (by omega);refine ⟨lo',ex,hex,?_,hK.trans q2,q3⟩;generalize siftDown ltInt hi fi c (swp d fr fc)=D at *;generalize d[fr]! = x at *;generalize d[fc]! = z at *;generalize d.setIfInBounds fr z=d1 at *;generalize swp d fr fc=d2 at *;generalize Mz .u32 bs b d lo=M0 at *;rw [key];generalize hM1:Mz .u32 bs b d1=M1 at *;simp +decide [ig,aA,ae,bA,ay,Tr.mute,hw1,hw2,wk,wfr,wfc,ixr,ixc,lr,lc,cz,c2,hcl,hkl,st1,st2,-aC,-aL];simpa using q1
    . rw [if_pos (by simp [c2])];refine ⟨lo,.ret,.inr rfl,?_,.refl,hd⟩;generalize d[fr]! = x at *;generalize d[fc]! = z at *;generalize Mz .u32 bs b d lo=M0 at *;rw [key];simp +decide [ig,aA,ae,bA,ay,Tr.mute,hw1,hw2,wk,wfr,wfc,ixr,ixc,lr,lc,cz,c2,hcl,hkl,-aC,-aL]
theorem Xx {bs:List Blk}{b:Nat}(hb:b<bs.length){n hi fi root:Nat}(hn:n<2 ^ 60)(hf:fi+hi<=n)(hr:root<=hi){cap:Option Nat}(d:Array Int)(lo:Nat)(hd:d.size=n) :
 ∃ lo',Sm E TS aR 326 [.row b 0 n cap 1,.d (i64 root),.d (i64 hi),.d (i64 fi)] (Mz .u32 bs b d lo)=some (.tup [],Mz .u32 bs b (siftDown ltInt hi fi root d) lo')/\Kz b lo d lo' (siftDown ltInt hi fi root d)/\(siftDown ltInt hi fi root d).size=n:=by
 obtain ⟨lo1,ex,hex,q1,q2,q3⟩:=Iw h334 hb hn hf (cap:=cap) (hi-root) root d bs.length (br _) hr hd;have hl:(Mz .u32 bs b d lo).bs.length=bs.length:=by simp [Mz,Mr]
 obtain ⟨lo2,r1,r2⟩:=kX (kd:=.u32) (lo:=lo) (r:=.tup []) hb rfl q2;refine ⟨lo2,?_,r2,q3⟩;have hM:(⟨(Mz .u32 bs b d lo).bs,bs.length⟩:Hp)=Mz .u32 bs b d bs.length:=rfl;rw [av cr5 dy3,hl,hM];refine Eq.trans ?_ r1
 congr 1
 generalize Mz .u32 bs b (siftDown ltInt hi fi root d) lo1=M1 at *;generalize Mz .u32 bs b d bs.length=M0 at *;simp [aa,UW];rw [aj];try simp at q1
 obtain rfl | rfl:=hex<;>(simp [q1]; rfl)
end
end
section
open Go.Sort (swp ltInt siftDown heapBuild heapPop heapSort reverseLoop reverseRange)
theorem cr1:TS 262=some UE:=by kernel_rfl
theorem dy0:aR 262=false:=by kernel_rfl
theorem QP {k:Nat}(hk:k<2 ^ 62):wrap .i64 ((k:Int)-1)=(k:Int)-1:=by rw [wrap64]<;>omega
theorem sD {x y z:Nat}(hy:0<y)(hz:x / y=z)(hx:x<2 ^ 62):bR .quo (.d (.int .i64 x)) (.d (.int .i64 y))=some (.int .i64 z):=by
 have hle:x / y<=x:=Nat.div_le_self x y;have h1:(x:Int).tdiv (y:Int)=(z:Int):=by
  rw [Int.tdiv_eq_ediv_of_nonneg (by omega),← hz];exact (Int.natCast_ediv x y).symm
 simp only [bR,if_true,eZ];rw [if_neg (by omega),h1,wrap64]<;>omega
section
variable {E:Calls'}(h334:∀ x y h,E 264 [.d (u32 x),.d (u32 y)] h=some (bl (ltInt x y),h))
include h334
theorem NA {bs:List Blk}{b:Nat}(hb:b<bs.length){n hi fi:Nat}(hn:n<2 ^ 60)(hf:fi+hi<=n){cap:Option Nat}(t7:V):∀ (k:Nat) (d:Array Int) (lo:Nat),k<=hi+1->d.size=n →
 ∃ lo',Cd E TS aR (.loop [0,6,7,8,9] qa) [(0,.row b 0 n cap 1),(6,.d (i64 fi)),(7,t7),(8,.d (i64 hi)),(9,.d (i64 ((k:Int)-1)))] (Mz .u32 bs b d lo) =
  some (.exit 0,[(0,.row b 0 n cap 1),(6,.d (i64 fi)),(7,t7),(8,.d (i64 hi))],Mz .u32 bs b (heapBuild ltInt hi fi k d) lo')/\Kz b lo d lo' (heapBuild ltInt hi fi k d)/\(heapBuild ltInt hi fi k d).size=n:=by
 intro k;have key:=ax (E:=E) (T:=TS) (val:=aR) [0,6,7,8,9] qa;generalize Cd E TS aR (.loop [0,6,7,8,9] qa)=W at key ⊢
 induction k with
 | zero =>
  intro d lo hk hd;refine ⟨lo,?_,.refl,hd⟩;rw [key];simp +decide [qa,heapBuild]
 | succ k ih =>
  intro d lo hk hd;obtain ⟨lo1,a1,a2,a3⟩:=Xx h334 hb hn hf (root:=k) (by omega) (cap:=cap) d lo hd;obtain ⟨lo',q1,q2,q3⟩:=ih (siftDown ltInt hi fi k d) lo1 (by omega) a3;have hw:=QP (k:=k) (by omega);have hkk:((k+1:Nat):Int)-1=(k:Int):=by omega
  rw [hkk];refine ⟨lo',?_,a2.trans q2,q3⟩;show W _ _=some (_,_,Mz .u32 bs b (heapBuild ltInt hi fi k (siftDown ltInt hi fi k d)) lo');generalize heapBuild ltInt hi fi k (siftDown ltInt hi fi k d)=D at *;generalize siftDown ltInt hi fi k d=d1 at *;generalize Mz .u32 bs b d1 lo1=M1 at *;generalize Mz .u32 bs b d lo=M0 at *;rw [key];simp [qa,a1,hw,show ((k:Int)>=0) from by omega];simpa using q1
theorem NB {bs:List Blk}{b:Nat}(hb:b<bs.length){n fi:Nat}(hn:n<2 ^ 60){cap:Option Nat}:∀ (k:Nat) (d:Array Int) (lo:Nat),fi+k<=n->d.size=n →
 ∃ lo',Cd E TS aR (.loop [0,6,7,10] qb) [(0,.row b 0 n cap 1),(6,.d (i64 fi)),(7,.d (i64 0)),(10,.d (i64 ((k:Int)-1)))] (Mz .u32 bs b d lo) =
  some (.exit 2,[],Mz .u32 bs b (heapPop ltInt fi k d) lo')/\Kz b lo d lo' (heapPop ltInt fi k d)/\(heapPop ltInt fi k d).size=n:=by
 intro k;have key:=ax (E:=E) (T:=TS) (val:=aR) [0,6,7,10] qb;generalize Cd E TS aR (.loop [0,6,7,10] qb)=W at key ⊢
 induction k with
 | zero =>
  intro d lo hk hd;refine ⟨lo,?_,.refl,hd⟩;rw [key];simp +decide [qb,heapPop]
 | succ k ih =>
  intro d lo hk hd;obtain ⟨fk,hfk⟩:∃ j,j=fi+k:=⟨_,rfl⟩;have wfk:=xJ (x:=fi) (y:=k) hfk.symm (by omega);have ixf:=λh=>ixz (b:=b) (n:=n) (cap:=cap) (h:=h) (i:=fi) (by omega);have ixk:=λh=>ixz (b:=b) (n:=n) (cap:=cap) (h:=h) (i:=fk) (by omega);have lf:=bH (kd:=.u32) (lo:=lo) hb (d:=d) (i:=fi) (by omega);have lk:=bH (kd:=.u32) (lo:=lo) hb (d:=d) (i:=fk) (by omega);obtain ⟨st1,st2⟩:=fA (kd:=.u32) (lo:=lo) hb (d:=d) (i:=fi) (j:=fk) (by omega) (by omega);have a:=λlo=>Xx h334 hb hn (hi:=k) (fi:=fi) (root:=0) (by omega) (Nat.zero_le _) (cap:=cap) (swp d fi fk) lo (by rw [cB]; exact hd);obtain ⟨lo1,a1,a2,a3⟩:=a (min lo b);obtain ⟨lo',q1,q2,q3⟩:=ih (siftDown ltInt k fi 0 (swp d fi fk)) lo1 (by omega) a3;have hw:=QP (k:=k) (by omega);have hkk:((k+1:Nat):Int)-1=(k:Int):=by omega
  have hK:Kz b lo d (min lo b) (swp d fi fk):=.inl (by omega);rw [hkk];simp only [heapPop];rw [← hfk];refine ⟨lo',?_,hK.trans (a2.trans q2),q3⟩;generalize heapPop ltInt fi k (siftDown ltInt k fi 0 (swp d fi fk))=D at *;generalize siftDown ltInt k fi 0 (swp d fi fk)=d2 at *;generalize d[fi]! = x at *;generalize d[fk]! = y at *;generalize d.setIfInBounds fi y=d1 at *;generalize swp d fi fk=d3 at *;generalize Mz .u32 bs b d lo=M0 at *;generalize Mz .u32 bs b d2 lo1=M2 at *;rw [key];generalize hM1:Mz .u32 bs b d1=M1 at *;simp at a1;simp +decide [qb,ixf,ixk,lf,lk,st1,st2,a1,hw,wfk,show ((k:Int)>=0) from by omega,-aC,-aL];simpa using q1
theorem bj6 {bs:List Blk}{b:Nat}(hb:b<bs.length){n a e:Nat}(hn:n<2 ^ 60)(ha:a<e)(he:e<=n){cap:Option Nat}(d:Array Int)(lo:Nat)(hd:d.size=n) :
 ∃ lo',Sm E TS aR 259 [.row b 0 n cap 1,.d (i64 a),.d (i64 e)] (Mz .u32 bs b d lo)=some (.tup [],Mz .u32 bs b (heapSort ltInt d a e) lo')/\Kz b lo d lo' (heapSort ltInt d a e)/\(heapSort ltInt d a e).size=n:=by
 obtain ⟨hi,hhi⟩:∃ j,j=e-a:=⟨_,rfl⟩;obtain ⟨h1,hh1⟩:∃ j,hi=j+1:=⟨hi-1,by omega⟩;obtain ⟨m,hm⟩:∃ j,h1 / 2=j:=⟨_,rfl⟩;have w1:=uU (x:=e) (y:=a) (k:=hi) (by omega) (by omega);have w2:=gM (x:=hi) (k:=h1) hh1 (by omega);have w3:bR .quo (.d (.int .i64 h1)) (.d (.int .i64 2))=some (.int .i64 m):=sD (x:=h1) (y:=2) (z:=m) (by decide) hm (by omega);obtain ⟨lo1,a1,a2,a3⟩:=NA h334 hb hn (hi:=hi) (fi:=a) (by omega) (cap:=cap) (.d (i64 0)) (m+1) d bs.length (by omega) hd;obtain ⟨lo2,c1,c2,c3⟩:=NB h334 hb hn (fi:=a) (cap:=cap) hi (heapBuild ltInt hi a (m+1) d) lo1 (by omega) a3;have hS:heapSort ltInt d a e=heapPop ltInt a hi (heapBuild ltInt hi a (m+1) d):=by
  unfold heapSort;rw [← hhi,show (hi-1) / 2+1=m+1 by omega]
 have hl:(Mz .u32 bs b d lo).bs.length=bs.length:=by simp [Mz,Mr]
 rw [hS];obtain ⟨lo3,r1,r2⟩:=kX (kd:=.u32) (lo:=lo) (r:=.tup []) hb rfl (a2.trans c2);refine ⟨lo3,?_,r2,c3⟩;have hM:(⟨(Mz .u32 bs b d lo).bs,bs.length⟩:Hp)=Mz .u32 bs b d bs.length:=rfl;rw [av cq8 dx7,hl,hM];refine Eq.trans ?_ r1
 congr 1
 generalize heapPop ltInt a hi (heapBuild ltInt hi a (m+1) d)=D at *;generalize heapBuild ltInt hi a (m+1) d=d1 at *;generalize Mz .u32 bs b D lo2=M2 at *;generalize Mz .u32 bs b d1 lo1=M1 at *;generalize Mz .u32 bs b d bs.length=M0 at *;rw [show ((m+1:Nat):Int)-1=(m:Int) by omega] at a1;rw [show ((hi:Nat):Int)-1=(h1:Int) by omega] at c1;simp [aa,UC,w1,w2,w3];rw [aj];try simp at a1 c1
 simp [a1,w2];rw [aj];simp [c1];rfl
omit h334 in
theorem LB {bs:List Blk}{b:Nat}(hb:b<bs.length){n:Nat}(hn:n<2 ^ 60){cap:Option Nat}:∀ (m i j:Nat) (d:Array Int) (lo:Nat),j-i<=m->j<n->d.size=n →
 ∃ lo',Cd E TS aR (.loop [0,6,7] nM) [(0,.row b 0 n cap 1),(6,.d (i64 i)),(7,.d (i64 j))] (Mz .u32 bs b d lo) =
  some (.exit 0,[],Mz .u32 bs b (reverseLoop i j d) lo')/\Kz b lo d lo' (reverseLoop i j d)/\(reverseLoop i j d).size=n:=by
 intro m;have key:=ax (E:=E) (T:=TS) (val:=aR) [0,6,7] nM;generalize Cd E TS aR (.loop [0,6,7] nM)=W at key ⊢
 induction m with
 | zero =>
  intro i j d lo hm hj hd;have hu:reverseLoop i j d=d:=by rw [reverseLoop,if_neg (by omega)]
  rw [hu];refine ⟨lo,?_,.refl,hd⟩;rw [key];simp +decide [nM,show ¬ ((i:Int)<(j:Int)) from by omega]
 | succ m ih =>
  intro i j d lo hm hj hd;by_cases hlt:i<j
  . have hu:reverseLoop i j d=reverseLoop (i+1) (j-1) (swp d i j):=by rw [reverseLoop,if_pos hlt]
    rw [hu];obtain ⟨j1,hj1⟩:∃ k,j=k+1:=⟨j-1,by omega⟩;have wi:=gX (x:=i) (k:=i+1) rfl (by omega);have wj:=gM (x:=j) (k:=j1) hj1 (by omega);have ixi:=λh=>ixz (b:=b) (n:=n) (cap:=cap) (h:=h) (i:=i) (by omega);have ixj:=λh=>ixz (b:=b) (n:=n) (cap:=cap) (h:=h) (i:=j) (by omega);have li:=bH (kd:=.u32) (lo:=lo) hb (d:=d) (i:=i) (by omega);have lj:=bH (kd:=.u32) (lo:=lo) hb (d:=d) (i:=j) (by omega);obtain ⟨st1,st2⟩:=fA (kd:=.u32) (lo:=lo) hb (d:=d) (i:=i) (j:=j) (by omega) (by omega);rw [show j-1=j1 by omega];obtain ⟨lo',q1,q2,q3⟩:=ih (i+1) j1 (swp d i j) (min (min lo b) b) (by omega) (by omega) (by rw [cB]; exact hd);have hK:Kz b lo d (min (min lo b) b) (swp d i j):=.inl (by omega);refine ⟨lo',?_,hK.trans q2,q3⟩;generalize reverseLoop (i+1) j1 (swp d i j)=D at *;generalize d[i]! = x at *;generalize d[j]! = y at *;generalize d.setIfInBounds i y=d1 at *;generalize swp d i j=d3 at *;generalize Mz .u32 bs b d lo=M0 at *;rw [key];generalize hM1:Mz .u32 bs b d1=M1 at *;generalize hi1:i+1=i1 at *;simp +decide [nM,ixi,ixj,li,lj,st1,st2,wi,wj,show ((i:Int)<(j:Int)) from by omega,-aC,-aL];simpa using q1
  . have hu:reverseLoop i j d=d:=by rw [reverseLoop,if_neg hlt]
    rw [hu];refine ⟨lo,?_,.refl,hd⟩;rw [key];simp +decide [nM,show ¬ ((i:Int)<(j:Int)) from by omega]
omit h334 in
theorem bj9 {bs:List Blk}{b:Nat}(hb:b<bs.length){n a e:Nat}(hn:n<2 ^ 60)(ha:a<e)(he:e<=n){cap:Option Nat}(d:Array Int)(lo:Nat)(hd:d.size=n) :
 ∃ lo',Sm E TS aR 262 [.row b 0 n cap 1,.d (i64 a),.d (i64 e)] (Mz .u32 bs b d lo)=some (.tup [],Mz .u32 bs b (reverseRange d a e) lo')/\Kz b lo d lo' (reverseRange d a e)/\(reverseRange d a e).size=n:=by
 obtain ⟨e1,he1⟩:∃ k,e=k+1:=⟨e-1,by omega⟩;have we:=gM (x:=e) (k:=e1) he1 (by omega);obtain ⟨lo1,q1,q2,q3⟩:=LB (E:=E) hb hn (cap:=cap) (e1-a) a e1 d bs.length (br _) (by omega) hd;have hS:reverseRange d a e=reverseLoop a e1 d:=by unfold reverseRange; rw [show e-1=e1 by omega]
 rw [hS];have hl:(Mz .u32 bs b d lo).bs.length=bs.length:=by simp [Mz,Mr]
 obtain ⟨lo2,r1,r2⟩:=kX (kd:=.u32) (lo:=lo) (r:=.tup []) hb rfl q2;refine ⟨lo2,?_,r2,q3⟩;have hM:(⟨(Mz .u32 bs b d lo).bs,bs.length⟩:Hp)=Mz .u32 bs b d bs.length:=rfl;rw [av cr1 dy0,hl,hM];refine Eq.trans ?_ r1
 congr 1
 generalize Mz .u32 bs b (reverseLoop a e1 d) lo1=M1 at *;generalize Mz .u32 bs b d bs.length=M0 at *;simp [aa,UE,we];rw [aj];try simp at q1
 simp [q1];rfl
end
end
section
open Go.Sort (swp ltInt order2 median medianAdjacent choosePivot Hint)
theorem aj2:TS 364=some Pd:=by kernel_rfl
theorem au1:aR 364=false:=by kernel_rfl
theorem cr9:TS 330=some U0:=by kernel_rfl
theorem dy7:aR 330=false:=by kernel_rfl
theorem cr8:TS 329=some UZ:=by kernel_rfl
theorem dy6:aR 329=false:=by kernel_rfl
theorem cr0:TS 261=some Ce:=by kernel_rfl
theorem dx9:aR 261=false:=by kernel_rfl
abbrev Mn (bs:List Blk) (b:Nat) (d:Array Int) (s:Nat) (lo:Nat):Hp:=Mz .u32 (bs++[.cells [.d (i64 s)]]) b d lo
theorem yV {bs:List Blk}{b:Nat}{d:Array Int}{s lo:Nat}:(Mn bs b d s lo).bs.length=bs.length+1:=by simp [Mn,Mz,Mr]
theorem I8 {bs:List Blk}{b:Nat}(hb:b<bs.length){d:Array Int}{s lo:Nat}:au (Mn bs b d s lo).bs bs.length=some [.d (i64 s)]:=by
 simp only [Mn,Mz,Mr,au];rw [ac (by omega)];simp
theorem Qi {bs:List Blk}{b:Nat}(hb:b<bs.length){d:Array Int}{s lo:Nat}:ldv (Mn bs b d s lo) (.ptr bs.length 0) 1 true=some (.d (i64 s),Mn bs b d s lo):=by
 have h:=I8 hb (d:=d) (s:=s) (lo:=lo);generalize Mn bs b d s lo=M at *;simp [h]
theorem WZ {bs:List Blk}{b:Nat}(hb:b<bs.length){d:Array Int}{s t lo:Nat}:stv (Mn bs b d s lo) (.ptr bs.length 0) (.d (i64 t)) 1=some (.undef,Mn bs b d t (min lo bs.length)):=by
 have h:=I8 hb (d:=d) (s:=s) (lo:=lo);have hs:(Mn bs b d s lo).set bs.length [.d (i64 t)]=Mn bs b d t (min lo bs.length):=by
  simp only [Mn,Mz,Mr,Hp.set]
  congr 1
  rw [List.set_comm _ _ (by omega)]
  congr 1
  simp
 rw [← hs];generalize Mn bs b d s lo=M at *;simp [h]
def Ks (c lo s lo' s':Nat):Prop:=(lo'=lo/\s'=s)\/lo'=min lo c
theorem Ks.trans {c lo s lo' s' lo'' s'':Nat}(h:Ks c lo s lo' s')(k:Ks c lo' s' lo'' s''):Ks c lo s lo'' s'':=by
 unfold Ks at *;obtain ⟨rfl,rfl⟩ | rfl:=h<;>obtain ⟨rfl,rfl⟩ | rfl:=k
 . exact .inl ⟨rfl,rfl⟩
 . exact .inr rfl
 . exact .inr rfl
 . exact .inr (by omega)
theorem uZ {bs:List Blk}{b:Nat}{d:Array Int}{s s' lo lo':Nat}{r:V}(hr:r.under (bs.length+1)=true)(hk:Ks bs.length (bs.length+1) s lo' s') :
 ∃ lo2,fQ (Mn bs b d s lo) (some (r,Mn bs b d s' lo'))=some (r,Mn bs b d s' lo2)/\Ks bs.length lo s lo2 s':=by
 have hl:=yV (bs:=bs) (b:=b) (d:=d) (s:=s) (lo:=lo);rw [gY,hl];obtain ⟨rfl,rfl⟩ | rfl:=hk
 . rw [if_pos ⟨br _,hr⟩];exact ⟨lo,rfl,.inl ⟨rfl,rfl⟩⟩
 . rw [if_neg (λhh=>by have:=hh.1; simp only [Mn,Mz,Mr] at this; omega)];exact ⟨min lo (min (bs.length+1) bs.length),rfl,.inr (by omega)⟩
theorem tX {d:Array Int}{x y s n:Nat}(hx:x<n)(hy:y<n):(order2 ltInt d x y s).1<n/\(order2 ltInt d x y s).2.1<n/\(order2 ltInt d x y s).2.2<=s+1:=by
 unfold order2;split
 . exact ⟨hy,hx,br _⟩
 . exact ⟨hx,hy,Nat.le_succ _⟩
section
variable {E:Calls'}(h334:∀ x y h,E 264 [.d (u32 x),.d (u32 y)] h=some (bl (ltInt x y),h))
include h334
theorem Rc {bs:List Blk}{b:Nat}(hb:b<bs.length){n x y s:Nat}(hn:n<2 ^ 60)(hx:x<n)(hy:y<n)(hs:s<2 ^ 60){cap:Option Nat}(d:Array Int)(lo:Nat)(hd:d.size=n) :
 ∃ lo',Sm E TS aR 364 [.row b 0 n cap 1,.d (i64 x),.d (i64 y),.ptr bs.length 0] (Mn bs b d s lo) =
  some (.tup [.d (i64 (order2 ltInt d x y s).1),.d (i64 (order2 ltInt d x y s).2.1)],Mn bs b d (order2 ltInt d x y s).2.2 lo')/\Ks bs.length lo s lo' (order2 ltInt d x y s).2.2:=by
 have hbl:b<(bs++[Blk.cells [.d (i64 s)]]).length:=by simp; omega
 have hl:=yV (bs:=bs) (b:=b) (d:=d) (s:=s) (lo:=lo);have hM:(⟨(Mn bs b d s lo).bs,bs.length+1⟩:Hp)=Mn bs b d s (bs.length+1):=rfl;have ixx:=λh=>ixz (b:=b) (n:=n) (cap:=cap) (h:=h) (i:=x) hx;have ixy:=λh=>ixz (b:=b) (n:=n) (cap:=cap) (h:=h) (i:=y) hy;have lx:ldv (Mn bs b d s (bs.length+1)) (.ptr b x) 1 true=some (.d (.int .u32 d[x]!),Mn bs b d s (bs.length+1)):=bH (kd:=.u32) hbl (d:=d) (i:=x) (by omega);have ly:ldv (Mn bs b d s (bs.length+1)) (.ptr b y) 1 true=some (.d (.int .u32 d[y]!),Mn bs b d s (bs.length+1)):=bH (kd:=.u32) hbl (d:=d) (i:=y) (by omega);obtain ⟨s1,hs1⟩:∃ j,s+1=j:=⟨_,rfl⟩;have ls:=Qi hb (d:=d) (s:=s) (lo:=bs.length+1);have ss:=WZ hb (d:=d) (s:=s) (t:=s1) (lo:=bs.length+1);have ws:=gX (x:=s) (k:=s1) hs1 (by omega);have c:=λh=>tu h334 d[y]! d[x]! h;unfold order2;rw [hs1];generalize d[x]! = X at *;generalize d[y]! = Y at *;cases hc:ltInt Y X with
 | true =>
  obtain ⟨lo2,r1,r2⟩:=uZ (bs:=bs) (b:=b) (d:=d) (s:=s) (s':=s1) (lo:=lo) (r:=.tup [.d (i64 y),.d (i64 x)]) rfl (.inr rfl:Ks bs.length (bs.length+1) s (min (bs.length+1) bs.length) s1);refine ⟨lo2,?_,r2⟩;rw [av aj2 au1,hl,hM];refine Eq.trans ?_ r1
  congr 1
  generalize Mn bs b d s (bs.length+1)=M1 at *;generalize Mn bs b d s1 (min (bs.length+1) bs.length)=M2 at *;simp +decide [aa,Pd,ixx,ixy,lx,ly,ls,ss,ws,c,hc,aA,ae,ay,Tr.mute,bf,-aC,-aL]
 | false =>
  obtain ⟨lo2,r1,r2⟩:=uZ (bs:=bs) (b:=b) (d:=d) (s:=s) (s':=s) (lo:=lo) (r:=.tup [.d (i64 x),.d (i64 y)]) rfl (.inl ⟨rfl,rfl⟩:Ks bs.length (bs.length+1) s (bs.length+1) s);refine ⟨lo2,?_,r2⟩;rw [av aj2 au1,hl,hM];refine Eq.trans ?_ r1
  congr 1
  generalize Mn bs b d s (bs.length+1)=M1 at *;simp +decide [aa,Pd,ixx,ixy,lx,ly,c,hc,aA,ae,ay,Tr.mute,bf,-aC,-aL]
theorem Ra {bs:List Blk}{b:Nat}(hb:b<bs.length){n x y z s:Nat}(hn:n<2 ^ 60)(hx:x<n)(hy:y<n)(hz:z<n)(hs:s<2 ^ 50){cap:Option Nat}(d:Array Int)(lo:Nat)(hd:d.size=n) :
 ∃ lo',Sm E TS aR 330 [.row b 0 n cap 1,.d (i64 x),.d (i64 y),.d (i64 z),.ptr bs.length 0] (Mn bs b d s lo) =
  some (.d (i64 (median ltInt d x y z s).1),Mn bs b d (median ltInt d x y z s).2 lo')/\Ks bs.length lo s lo' (median ltInt d x y z s).2/\(median ltInt d x y z s).1<n/\(median ltInt d x y z s).2<=s+3:=by
 have hl:=yV (bs:=bs) (b:=b) (d:=d) (s:=s) (lo:=lo);have hM:(⟨(Mn bs b d s lo).bs,bs.length+1⟩:Hp)=Mn bs b d s (bs.length+1):=rfl;unfold median;simp only;obtain ⟨p1,p2,p3⟩:=tX (d:=d) (s:=s) hx hy;obtain ⟨lo1,a1,a2⟩:=Rc h334 hb hn hx hy (by omega) (cap:=cap) d (bs.length+1) hd (s:=s);generalize order2 ltInt d x y s=r1 at *;obtain ⟨u1,u2,u3⟩:=r1;simp only at *;obtain ⟨e1,e2,e3⟩:=tX (d:=d) (s:=u3) p2 hz;obtain ⟨lo2,c1,c2⟩:=Rc h334 hb hn p2 hz (by omega) (cap:=cap) d lo1 hd (s:=u3);generalize order2 ltInt d u2 z u3=r2 at *;obtain ⟨w1,w2,w3⟩:=r2;simp only at *;obtain ⟨g1,g2,g3⟩:=tX (d:=d) (s:=w3) p1 e1;obtain ⟨lo3,i1,i2⟩:=Rc h334 hb hn p1 e1 (by omega) (cap:=cap) d lo2 hd (s:=w3);generalize order2 ltInt d u1 w1 w3=r3 at *;obtain ⟨v1,v2,v3⟩:=r3;simp only at *;obtain ⟨lo4,r1,r2⟩:=uZ (bs:=bs) (b:=b) (d:=d) (s:=s) (s':=v3) (lo:=lo) (r:=.d (i64 v2)) rfl (a2.trans (c2.trans i2));refine ⟨lo4,?_,r2,g2,by omega⟩;rw [av cr9 dy7,hl,hM];refine Eq.trans ?_ r1
 congr 1
 generalize Mn bs b d s (bs.length+1)=M1 at *;generalize Mn bs b d u3 lo1=M2 at *;generalize Mn bs b d w3 lo2=M3 at *;generalize Mn bs b d v3 lo3=M4 at *;simp [aa,U0,a1,c1,i1,bf]
theorem Q9 {bs:List Blk}{b:Nat}(hb:b<bs.length){n x s:Nat}(hn:n<2 ^ 60)(h0:0<x)(hx:x+1<n)(hs:s<2 ^ 50){cap:Option Nat}(d:Array Int)(lo:Nat)(hd:d.size=n) :
 ∃ lo',Sm E TS aR 329 [.row b 0 n cap 1,.d (i64 x),.ptr bs.length 0] (Mn bs b d s lo) =
  some (.d (i64 (medianAdjacent ltInt d x s).1),Mn bs b d (medianAdjacent ltInt d x s).2 lo')/\Ks bs.length lo s lo' (medianAdjacent ltInt d x s).2/\(medianAdjacent ltInt d x s).1<n/\(medianAdjacent ltInt d x s).2<=s+3:=by
 have hl:=yV (bs:=bs) (b:=b) (d:=d) (s:=s) (lo:=lo);have hM:(⟨(Mn bs b d s lo).bs,bs.length+1⟩:Hp)=Mn bs b d s (bs.length+1):=rfl;unfold medianAdjacent;obtain ⟨x0,hx0⟩:∃ j,x=j+1:=⟨x-1,by omega⟩;obtain ⟨x1,hx1⟩:∃ j,x+1=j:=⟨_,rfl⟩;have w0:=gM (x:=x) (k:=x0) hx0 (by omega);have w1:=gX (x:=x) (k:=x1) hx1 (by omega);rw [show x-1=x0 by omega,hx1];obtain ⟨lo1,a1,a2,a3,a4⟩:=Ra h334 hb hn (x:=x0) (y:=x) (z:=x1) (by omega) (by omega) (by omega) hs (cap:=cap) d (bs.length+1) hd;generalize median ltInt d x0 x x1 s=r at *;obtain ⟨v2,v3⟩:=r;simp only at *;obtain ⟨lo4,r1,r2⟩:=uZ (bs:=bs) (b:=b) (d:=d) (s:=s) (s':=v3) (lo:=lo) (r:=.d (i64 v2)) rfl a2;refine ⟨lo4,?_,r2,a3,a4⟩;rw [av cr8 dy6,hl,hM];refine Eq.trans ?_ r1
 congr 1
 generalize Mn bs b d s (bs.length+1)=M1 at *;generalize Mn bs b d v3 lo1=M2 at *;simp [aa,UZ,a1,w0,w1,bf]
end
end
section
open Go.Sort (swp ltInt order2 median medianAdjacent choosePivot Hint)
def jb:Hint->Int
 | .unknown=>0
 | .increasing=>1
 | .decreasing=>2
theorem P9 {x y:Nat}{k:Nat}(h:x * y=k)(hk:k<2 ^ 62):wrap .i64 ((x:Int) * (y:Int))=(k:Int):=by
 have:(x:Int) * (y:Int)=(k:Int):=by rw [← h]; exact (Int.natCast_mul x y).symm
 rw [this,wrap64]<;>omega
section
variable {E:Calls'}(h334:∀ x y h,E 264 [.d (u32 x),.d (u32 y)] h=some (bl (ltInt x y),h))
include h334
theorem bj8 {bs:List Blk}{b:Nat}(hb:b<bs.length){n a e:Nat}(hn:n<2 ^ 60)(ha:a+12<e)(he:e<=n){cap:Option Nat}(d:Array Int)(lo:Nat)(hd:d.size=n) :
 Sm E TS aR 261 [.row b 0 n cap 1,.d (i64 a),.d (i64 e)] (Mz .u32 bs b d lo)=some (.tup [.d (i64 (choosePivot ltInt d a e).1),.d (i64 (jb (choosePivot ltInt d a e).2))],Mz .u32 bs b d lo):=by
 have hl:(Mz .u32 bs b d lo).bs.length=bs.length:=by simp [Mz,Mr]
 have hM:(⟨(Mz .u32 bs b d lo).bs,bs.length⟩:Hp)=Mz .u32 bs b d bs.length:=rfl;obtain ⟨l,hl1⟩:∃ j,e-a=j:=⟨_,rfl⟩;obtain ⟨q,hq⟩:∃ j,l / 4=j:=⟨_,rfl⟩;obtain ⟨q2,hq2⟩:∃ j,q * 2=j:=⟨_,rfl⟩;obtain ⟨q3,hq3⟩:∃ j,q * 3=j:=⟨_,rfl⟩;obtain ⟨i,hi⟩:∃ j,a+q=j:=⟨_,rfl⟩;obtain ⟨j,hj⟩:∃ j,a+q2=j:=⟨_,rfl⟩;obtain ⟨k,hk⟩:∃ j,a+q3=j:=⟨_,rfl⟩;have wl:=uU (x:=e) (y:=a) (k:=l) (by omega) (by omega);have wq:bR .quo (.d (.int .i64 l)) (.d (.int .i64 4))=some (.int .i64 q):=sD (x:=l) (y:=4) (z:=q) (by decide) hq (by omega);have w1:wrap .i64 (q:Int)=(q:Int):=by rw [wrap64]<;>omega
 have w2:wrap .i64 ((q:Int) * 2)=(q2:Int):=P9 (x:=q) (y:=2) hq2 (by omega);have w3:wrap .i64 ((q:Int) * 3)=(q3:Int):=P9 (x:=q) (y:=3) hq3 (by omega);have wi:=xJ (x:=a) (y:=q) hi (by omega);have wj:=xJ (x:=a) (y:=q2) hj (by omega);have wk:=xJ (x:=a) (y:=q3) hk (by omega);have h8:(l:Int)>=8:=by omega
 have hnew:(Mz .u32 bs b d bs.length).alloc [.d (.int .i64 0)]=Mn bs b d 0 bs.length:=by
  simp only [Mn,Mz,Mr,Hp.alloc]
  congr 1
  rw [List.set_append_left _ _ (by simpa using hb)];rfl
 have hMn:∀ s,ldv (Mn bs b d s bs.length) (.ptr bs.length 0) 1 true=some (.d (i64 s),Mn bs b d s bs.length):=λs=>Qi hb;have hMl:∀ s,(Mn bs b d s bs.length).low=bs.length:=λs=>rfl;have hlen0:(Mz .u32 bs b d bs.length).bs.length=bs.length:=by simp [Mz,Mr]
 have hbr:∀ s v w,fQ (Mz .u32 bs b d lo) (some (.tup [.d v,.d w],Mn bs b d s bs.length))=some (.tup [.d v,.d w],Mz .u32 bs b d lo):=λs v w=>by
  rw [gY,hl,hMl,if_pos ⟨br _,rfl⟩]
 rw [av cr0 dx9,hl,hM];unfold choosePivot;simp only [hl1,hq,Nat.mul_one,hq2,hq3,hi,hj,hk];rw [if_pos (show l>=8 by omega)];by_cases h50:l>=50
 . have h50':(l:Int)>=50:=by omega
   rw [if_pos h50];have Ksl:∀ {s s' lo'},Ks bs.length bs.length s lo' s'->lo'=bs.length:=λh=>by unfold Ks at h; omega
   obtain ⟨lo1,a1,a2,a3,a4⟩:=Q9 h334 hb hn (x:=i) (by omega) (by omega) (s:=0) (by omega) (cap:=cap) d bs.length hd;obtain rfl:=Ksl a2;generalize medianAdjacent ltInt d i 0=ri at *;obtain ⟨i1,s1⟩:=ri;simp only at *;obtain ⟨lo2,b1,b2,b3,b4⟩:=Q9 h334 hb hn (x:=j) (by omega) (by omega) (s:=s1) (by omega) (cap:=cap) d bs.length hd;obtain rfl:=Ksl b2;generalize medianAdjacent ltInt d j s1=rj at *;obtain ⟨j1,s2⟩:=rj;simp only at *;obtain ⟨lo3,c1,c2,c3,c4⟩:=Q9 h334 hb hn (x:=k) (by omega) (by omega) (s:=s2) (by omega) (cap:=cap) d bs.length hd;obtain rfl:=Ksl c2;generalize medianAdjacent ltInt d k s2=rk at *;obtain ⟨k1,s3⟩:=rk;simp only at *;obtain ⟨lo4,d1,d2,d3,d4⟩:=Ra h334 hb hn (x:=i1) (y:=j1) (z:=k1) a3 b3 c3 (s:=s3) (by omega) (cap:=cap) d bs.length hd;obtain rfl:=Ksl d2;generalize median ltInt d i1 j1 k1 s3=r at *;obtain ⟨m,s4⟩:=r;simp only at *;have hld:=hMn s4;have hbr:=hbr s4;generalize Mz .u32 bs b d bs.length=M0 at *;generalize Mn bs b d 0 bs.length=N0 at *;generalize Mn bs b d s1 bs.length=N1 at *;generalize Mn bs b d s2 bs.length=N2 at *;generalize Mn bs b d s3 bs.length=N3 at *;generalize Mn bs b d s4 bs.length=N4 at *;by_cases e0:s4=0
   . simp only [e0,if_true,jb];refine Eq.trans ?_ (hbr _ _)
     congr 1
     simp +decide [aa,Ce,wl,wq,w1,w2,w3,wi,wj,wk,h8,h50',hlen0,hnew,a1,b1,c1,d1,hld,e0,bf,-aC]
   . have e0':¬ (s4:Int)=0:=by omega
     by_cases e1:s4=12
     . simp only [e1,if_true,jb];refine Eq.trans ?_ (hbr _ _)
       congr 1
       subst e1;simp +decide [aa,Ce,wl,wq,w1,w2,w3,wi,wj,wk,h8,h50',hlen0,hnew,a1,b1,c1,d1,hld,bf,-aC]
     . have e1':¬ (s4:Int)=12:=by omega
       simp only [e0,e1,if_false,jb];refine Eq.trans ?_ (hbr _ _)
       congr 1
       simp +decide [aa,Ce,wl,wq,w1,w2,w3,wi,wj,wk,h8,h50',hlen0,hnew,a1,b1,c1,d1,hld,e1',e0,bf,-aC]
 . have h50':¬ (l:Int)>=50:=by omega
   rw [if_neg h50];have Ksl:∀ {s s' lo'},Ks bs.length bs.length s lo' s'->lo'=bs.length:=λh=>by unfold Ks at h; omega
   obtain ⟨lo4,d1,d2,d3,d4⟩:=Ra h334 hb hn (x:=i) (y:=j) (z:=k) (by omega) (by omega) (by omega) (s:=0) (by omega) (cap:=cap) d bs.length hd;obtain rfl:=Ksl d2;generalize median ltInt d i j k 0=r at *;obtain ⟨m,s4⟩:=r;simp only at *;have hld:=hMn s4;have hbr:=hbr s4;generalize Mz .u32 bs b d bs.length=M0 at *;generalize Mn bs b d 0 bs.length=N0 at *;generalize Mn bs b d s4 bs.length=N4 at *;by_cases e0:s4=0
   . simp only [e0,if_true,jb];refine Eq.trans ?_ (hbr _ _)
     congr 1
     simp +decide [aa,Ce,wl,wq,w1,w2,w3,wi,wj,wk,h8,h50',hlen0,hnew,d1,hld,e0,bf,-aC]
   . have e0':¬ (s4:Int)=0:=by omega
     by_cases e1:s4=12
     . simp only [e1,if_true,jb];refine Eq.trans ?_ (hbr _ _)
       congr 1
       subst e1;simp +decide [aa,Ce,wl,wq,w1,w2,w3,wi,wj,wk,h8,h50',hlen0,hnew,d1,hld,bf,-aC]
     . have e1':¬ (s4:Int)=12:=by omega
       simp only [e0,e1,if_false,jb];refine Eq.trans ?_ (hbr _ _)
       congr 1
       simp +decide [aa,Ce,wl,wq,w1,w2,w3,wi,wj,wk,h8,h50',hlen0,hnew,d1,hld,e1',e0,bf,-aC]
end
end
section
open Go.Sort (swp ltInt scanUp scanDown partLoop partEqLoop partition partitionEqual)
theorem aj1:TS 266=some OW:=by kernel_rfl
theorem au0:aR 266=false:=by kernel_rfl
theorem cr4:TS 265=some UH:=by kernel_rfl
theorem dy2:aR 265=false:=by kernel_rfl
section
variable {E:Calls'}(h334:∀ x y h,E 264 [.d (u32 x),.d (u32 y)] h=some (bl (ltInt x y),h))
include h334
theorem P5 {bs:List Blk}{b:Nat}(hb:b<bs.length){n a j:Nat}(hn:n<2 ^ 60)(ha:a<n)(hj:j<n){cap:Option Nat}(d:Array Int)(lo:Nat)(hd:d.size=n):∀ (m i:Nat),j+1-i<=m->i<=j+1 →
 Cd E TS aR (.loop [0,1,10,11] lC) [(0,.row b 0 n cap 1),(1,.d (i64 a)),(10,.d (i64 i)),(11,.d (i64 j))] (Mz .u32 bs b d lo)=some (.exit 0,[(0,.row b 0 n cap 1),(1,.d (i64 a)),(10,.d (i64 (scanUp (λx=>ltInt x d[a]!) d j i))),(11,.d (i64 j))],Mz .u32 bs b d lo):=by
 intro m;have key:=ax (E:=E) (T:=TS) (val:=aR) [0,1,10,11] lC;generalize Cd E TS aR (.loop [0,1,10,11] lC)=W at key ⊢
 induction m with
 | zero =>
  intro i hm hi;rw [scanUp,if_neg (by simp; omega),key];simp +decide [lC,aA,bA,ay,Tr.mute,show ¬ ((i:Int)<=(j:Int)) from by omega]
 | succ m ih =>
  intro i hm hi;by_cases hij:i<=j
  . have hij':(i:Int)<=(j:Int):=by omega
    have ixi:=λh=>ixz (b:=b) (n:=n) (cap:=cap) (h:=h) (i:=i) (by omega);have ixa:=λh=>ixz (b:=b) (n:=n) (cap:=cap) (h:=h) (i:=a) ha;have li:=bH (kd:=.u32) (lo:=lo) hb (d:=d) (i:=i) (by omega);have la:=bH (kd:=.u32) (lo:=lo) hb (d:=d) (i:=a) (by omega);have c:=λx y h=>tu h334 x y h;obtain ⟨i1,hi1⟩:∃ k,i+1=k:=⟨_,rfl⟩;have wi:=gX (x:=i) (k:=i1) hi1 (by omega);have q:=ih i1 (by omega) (by omega);rw [scanUp,hi1];generalize scanUp (λx=>ltInt x d[a]!) d j i1=R at *;generalize d[a]! = A at *;generalize d[i]! = X at *;generalize Mz .u32 bs b d lo=M0 at *;rw [key];cases hc:ltInt X A with
    | true =>
     simp +decide [lC,aA,ae,ay,Tr.mute,ixi,ixa,li,la,c,hij,hij',hc,wi,-aC,-aL];try simpa using q
    | false =>
     simp +decide [lC,aA,ae,ay,Tr.mute,ixi,ixa,li,la,c,hij,hij',hc,-aC,-aL];try simpa using q
  . rw [scanUp,if_neg (by simp; omega),key];simp +decide [lC,aA,bA,ay,Tr.mute,show ¬ ((i:Int)<=(j:Int)) from by omega]
theorem Nh {bs:List Blk}{b:Nat}(hb:b<bs.length){n a i:Nat}(hn:n<2 ^ 60)(ha:a<n)(hi:0<i){cap:Option Nat}(d:Array Int)(lo:Nat)(hd:d.size=n):∀ (j:Nat),j<n →
 Cd E TS aR (.loop [0,1,10,11] lD) [(0,.row b 0 n cap 1),(1,.d (i64 a)),(10,.d (i64 i)),(11,.d (i64 j))] (Mz .u32 bs b d lo)=some (.exit 2,[(0,.row b 0 n cap 1),(1,.d (i64 a)),(10,.d (i64 i)),(11,.d (i64 (scanDown (λx=>!ltInt x d[a]!) d i j)))],Mz .u32 bs b d lo):=by
 intro j;have key:=ax (E:=E) (T:=TS) (val:=aR) [0,1,10,11] lD;generalize Cd E TS aR (.loop [0,1,10,11] lD)=W at key ⊢
 induction j with
 | zero =>
  intro hj;rw [key];simp +decide [lD,aA,bA,ay,Tr.mute,scanDown,show ¬ i=0 from by omega]
 | succ j ih =>
  intro hj;obtain ⟨j1,hj1⟩:∃ k,j+1=k:=⟨_,rfl⟩;have wj:=gM (x:=j1) (k:=j) hj1.symm (by omega);have q:=ih (by omega);rw [scanDown,hj1];by_cases hij:i<=j1
  . have hij':(i:Int)<=(j1:Int):=by omega
    have ixj:=λh=>ixz (b:=b) (n:=n) (cap:=cap) (h:=h) (i:=j1) (by omega);have ixa:=λh=>ixz (b:=b) (n:=n) (cap:=cap) (h:=h) (i:=a) ha;have lj:=bH (kd:=.u32) (lo:=lo) hb (d:=d) (i:=j1) (by omega);have la:=bH (kd:=.u32) (lo:=lo) hb (d:=d) (i:=a) (by omega);have c:=λx y h=>tu h334 x y h;generalize scanDown (λx=>!ltInt x d[a]!) d i j=R at *;generalize d[a]! = A at *;generalize d[j1]! = X at *;generalize Mz .u32 bs b d lo=M0 at *;rw [key];cases hc:ltInt X A with
    | true =>
     simp +decide [lD,aA,ae,ay,Tr.mute,ixj,ixa,lj,la,c,hij,hij',hc,-aC,-aL];try simpa using q
    | false =>
     simp +decide [lD,aA,ae,ay,Tr.mute,ixj,ixa,lj,la,c,hij,hij',hc,wj,-aC,-aL];try simpa using q
  . have hij':¬ (i:Int)<=(j1:Int):=by omega
    rw [if_neg (by simp [hij]),key];simp +decide [lD,aA,bA,ay,Tr.mute,hij']
theorem Gm {bs:List Blk}{b:Nat}(hb:b<bs.length){n a j:Nat}(hn:n<2 ^ 60)(ha:a<n)(hj:j<n){cap:Option Nat}(d:Array Int)(lo:Nat)(hd:d.size=n):∀ (m i:Nat),j+1-i<=m->i<=j+1 →
 Cd E TS aR (.loop [0,1,10,11] lG) [(0,.row b 0 n cap 1),(1,.d (i64 a)),(10,.d (i64 i)),(11,.d (i64 j))] (Mz .u32 bs b d lo)=some (.exit 6,[(0,.row b 0 n cap 1),(1,.d (i64 a)),(10,.d (i64 (scanUp (λx=>ltInt x d[a]!) d j i))),(11,.d (i64 j))],Mz .u32 bs b d lo):=by
 intro m;have key:=ax (E:=E) (T:=TS) (val:=aR) [0,1,10,11] lG;generalize Cd E TS aR (.loop [0,1,10,11] lG)=W at key ⊢
 induction m with
 | zero =>
  intro i hm hi;rw [scanUp,if_neg (by simp; omega),key];simp +decide [lG,aA,bA,ay,Tr.mute,show ¬ ((i:Int)<=(j:Int)) from by omega]
 | succ m ih =>
  intro i hm hi;by_cases hij:i<=j
  . have hij':(i:Int)<=(j:Int):=by omega
    have ixi:=λh=>ixz (b:=b) (n:=n) (cap:=cap) (h:=h) (i:=i) (by omega);have ixa:=λh=>ixz (b:=b) (n:=n) (cap:=cap) (h:=h) (i:=a) ha;have li:=bH (kd:=.u32) (lo:=lo) hb (d:=d) (i:=i) (by omega);have la:=bH (kd:=.u32) (lo:=lo) hb (d:=d) (i:=a) (by omega);have c:=λx y h=>tu h334 x y h;obtain ⟨i1,hi1⟩:∃ k,i+1=k:=⟨_,rfl⟩;have wi:=gX (x:=i) (k:=i1) hi1 (by omega);have q:=ih i1 (by omega) (by omega);rw [scanUp,hi1];generalize scanUp (λx=>ltInt x d[a]!) d j i1=R at *;generalize d[a]! = A at *;generalize d[i]! = X at *;generalize Mz .u32 bs b d lo=M0 at *;rw [key];cases hc:ltInt X A with
    | true =>
     simp +decide [lG,aA,ae,ay,Tr.mute,ixi,ixa,li,la,c,hij,hij',hc,wi,-aC,-aL];try simpa using q
    | false =>
     simp +decide [lG,aA,ae,ay,Tr.mute,ixi,ixa,li,la,c,hij,hij',hc,-aC,-aL];try simpa using q
  . rw [scanUp,if_neg (by simp; omega),key];simp +decide [lG,aA,bA,ay,Tr.mute,show ¬ ((i:Int)<=(j:Int)) from by omega]
theorem E8 {bs:List Blk}{b:Nat}(hb:b<bs.length){n a i:Nat}(hn:n<2 ^ 60)(ha:a<n)(hi:0<i){cap:Option Nat}(d:Array Int)(lo:Nat)(hd:d.size=n):∀ (j:Nat),j<n →
 Cd E TS aR (.loop [0,1,10,11] lH) [(0,.row b 0 n cap 1),(1,.d (i64 a)),(10,.d (i64 i)),(11,.d (i64 j))] (Mz .u32 bs b d lo)=some (.exit 8,[(0,.row b 0 n cap 1),(1,.d (i64 a)),(10,.d (i64 i)),(11,.d (i64 (scanDown (λx=>!ltInt x d[a]!) d i j)))],Mz .u32 bs b d lo):=by
 intro j;have key:=ax (E:=E) (T:=TS) (val:=aR) [0,1,10,11] lH;generalize Cd E TS aR (.loop [0,1,10,11] lH)=W at key ⊢
 induction j with
 | zero =>
  intro hj;rw [key];simp +decide [lH,aA,bA,ay,Tr.mute,scanDown,show ¬ i=0 from by omega]
 | succ j ih =>
  intro hj;obtain ⟨j1,hj1⟩:∃ k,j+1=k:=⟨_,rfl⟩;have wj:=gM (x:=j1) (k:=j) hj1.symm (by omega);have q:=ih (by omega);rw [scanDown,hj1];by_cases hij:i<=j1
  . have hij':(i:Int)<=(j1:Int):=by omega
    have ixj:=λh=>ixz (b:=b) (n:=n) (cap:=cap) (h:=h) (i:=j1) (by omega);have ixa:=λh=>ixz (b:=b) (n:=n) (cap:=cap) (h:=h) (i:=a) ha;have lj:=bH (kd:=.u32) (lo:=lo) hb (d:=d) (i:=j1) (by omega);have la:=bH (kd:=.u32) (lo:=lo) hb (d:=d) (i:=a) (by omega);have c:=λx y h=>tu h334 x y h;generalize scanDown (λx=>!ltInt x d[a]!) d i j=R at *;generalize d[a]! = A at *;generalize d[j1]! = X at *;generalize Mz .u32 bs b d lo=M0 at *;rw [key];cases hc:ltInt X A with
    | true =>
     simp +decide [lH,aA,ae,ay,Tr.mute,ixj,ixa,lj,la,c,hij,hij',hc,-aC,-aL];try simpa using q
    | false =>
     simp +decide [lH,aA,ae,ay,Tr.mute,ixj,ixa,lj,la,c,hij,hij',hc,wj,-aC,-aL];try simpa using q
  . have hij':¬ (i:Int)<=(j1:Int):=by omega
    rw [if_neg (by simp [hij]),key];simp +decide [lH,aA,bA,ay,Tr.mute,hij']
theorem Gl {bs:List Blk}{b:Nat}(hb:b<bs.length){n a j:Nat}(hn:n<2 ^ 60)(ha:a<n)(hj:j<n){cap:Option Nat}(d:Array Int)(lo:Nat)(hd:d.size=n):∀ (m i:Nat),j+1-i<=m->i<=j+1 →
 Cd E TS aR (.loop [0,1,9,10] lu) [(0,.row b 0 n cap 1),(1,.d (i64 a)),(9,.d (i64 i)),(10,.d (i64 j))] (Mz .u32 bs b d lo)=some (.exit 2,[(0,.row b 0 n cap 1),(1,.d (i64 a)),(9,.d (i64 (scanUp (λx=>!ltInt d[a]! x) d j i))),(10,.d (i64 j))],Mz .u32 bs b d lo):=by
 intro m;have key:=ax (E:=E) (T:=TS) (val:=aR) [0,1,9,10] lu;generalize Cd E TS aR (.loop [0,1,9,10] lu)=W at key ⊢
 induction m with
 | zero =>
  intro i hm hi;rw [scanUp,if_neg (by simp; omega),key];simp +decide [lu,aA,bA,ay,Tr.mute,show ¬ ((i:Int)<=(j:Int)) from by omega]
 | succ m ih =>
  intro i hm hi;by_cases hij:i<=j
  . have hij':(i:Int)<=(j:Int):=by omega
    have ixi:=λh=>ixz (b:=b) (n:=n) (cap:=cap) (h:=h) (i:=i) (by omega);have ixa:=λh=>ixz (b:=b) (n:=n) (cap:=cap) (h:=h) (i:=a) ha;have li:=bH (kd:=.u32) (lo:=lo) hb (d:=d) (i:=i) (by omega);have la:=bH (kd:=.u32) (lo:=lo) hb (d:=d) (i:=a) (by omega);have c:=λx y h=>tu h334 x y h;obtain ⟨i1,hi1⟩:∃ k,i+1=k:=⟨_,rfl⟩;have wi:=gX (x:=i) (k:=i1) hi1 (by omega);have q:=ih i1 (by omega) (by omega);rw [scanUp,hi1];generalize scanUp (λx=>!ltInt d[a]! x) d j i1=R at *;generalize d[a]! = A at *;generalize d[i]! = X at *;generalize Mz .u32 bs b d lo=M0 at *;rw [key];cases hc:ltInt A X with
    | true =>
     simp +decide [lu,aA,ae,ay,Tr.mute,ixi,ixa,li,la,c,hij,hij',hc,-aC,-aL];try simpa using q
    | false =>
     simp +decide [lu,aA,ae,ay,Tr.mute,ixi,ixa,li,la,c,hij,hij',hc,wi,-aC,-aL];try simpa using q
  . rw [scanUp,if_neg (by simp; omega),key];simp +decide [lu,aA,bA,ay,Tr.mute,show ¬ ((i:Int)<=(j:Int)) from by omega]
theorem E5 {bs:List Blk}{b:Nat}(hb:b<bs.length){n a i:Nat}(hn:n<2 ^ 60)(ha:a<n)(hi:0<i){cap:Option Nat}(d:Array Int)(lo:Nat)(hd:d.size=n):∀ (j:Nat),j<n →
 Cd E TS aR (.loop [0,1,9,10] lv) [(0,.row b 0 n cap 1),(1,.d (i64 a)),(9,.d (i64 i)),(10,.d (i64 j))] (Mz .u32 bs b d lo)=some (.exit 4,[(0,.row b 0 n cap 1),(1,.d (i64 a)),(9,.d (i64 i)),(10,.d (i64 (scanDown (λx=>ltInt d[a]! x) d i j)))],Mz .u32 bs b d lo):=by
 intro j;have key:=ax (E:=E) (T:=TS) (val:=aR) [0,1,9,10] lv;generalize Cd E TS aR (.loop [0,1,9,10] lv)=W at key ⊢
 induction j with
 | zero =>
  intro hj;rw [key];simp +decide [lv,aA,bA,ay,Tr.mute,scanDown,show ¬ i=0 from by omega]
 | succ j ih =>
  intro hj;obtain ⟨j1,hj1⟩:∃ k,j+1=k:=⟨_,rfl⟩;have wj:=gM (x:=j1) (k:=j) hj1.symm (by omega);have q:=ih (by omega);rw [scanDown,hj1];by_cases hij:i<=j1
  . have hij':(i:Int)<=(j1:Int):=by omega
    have ixj:=λh=>ixz (b:=b) (n:=n) (cap:=cap) (h:=h) (i:=j1) (by omega);have ixa:=λh=>ixz (b:=b) (n:=n) (cap:=cap) (h:=h) (i:=a) ha;have lj:=bH (kd:=.u32) (lo:=lo) hb (d:=d) (i:=j1) (by omega);have la:=bH (kd:=.u32) (lo:=lo) hb (d:=d) (i:=a) (by omega);have c:=λx y h=>tu h334 x y h;generalize scanDown (λx=>ltInt d[a]! x) d i j=R at *;generalize d[a]! = A at *;generalize d[j1]! = X at *;generalize Mz .u32 bs b d lo=M0 at *;rw [key];cases hc:ltInt A X with
    | true =>
     simp +decide [lv,aA,ae,ay,Tr.mute,ixj,ixa,lj,la,c,hij,hij',hc,wj,-aC,-aL];try simpa using q
    | false =>
     simp +decide [lv,aA,ae,ay,Tr.mute,ixj,ixa,lj,la,c,hij,hij',hc,-aC,-aL];try simpa using q
  . have hij':¬ (i:Int)<=(j1:Int):=by omega
    rw [if_neg (by simp [hij]),key];simp +decide [lv,aA,bA,ay,Tr.mute,hij']
end
end
