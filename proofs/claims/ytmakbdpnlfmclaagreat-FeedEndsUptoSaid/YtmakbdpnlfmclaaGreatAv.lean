/- What config.Apply makes: plain facts. -/
import Derived.Test.YtmakbdpnlfmclaaGreatWe
import Derived.KernelRfl
import Derived.Sort.Defs
set_option maxRecDepth 100000
set_option linter.unusedVariables false
set_option linter.unusedSimpArgs false
namespace Go.Proofs.YtmakbdpnlfmclaaGreat
open IntKind (wrap)
section
theorem Aj {c:Cfg}{e:Edt}(h:(eY c e).2=0):bG c=true/\bG (eY c e).1=true/\(eY c e).1=iJ (bR c.own e).1/\c.epoch<4611686018427387903:=by
 unfold eY at h ⊢;split at h
 . cases h
 rename_i h1;split at h
 . rename_i h2; exact absurd h h2
 rename_i h2;split at h
 . cases h
 rename_i h3;split at h
 . cases h
 rename_i h4;split at h
 . cases h
 rename_i h5;rw [if_neg h1,if_neg h2,if_neg h3,if_neg h4,if_neg h5];simp only [oI,Bool.or_eq_true,not_or,br,Bool.not_eq_true',Bool.not_eq_false] at h3;refine ⟨by simpa using h1,?_,rfl,by omega⟩;have hs:eQ (iJ (bR c.own e).1)=true:=h3.2;simp only [bG,hs,Bool.true_and,aq,br];exact ⟨by simpa using h4,by omega⟩
end
section
section
variable {E:Calls'}{T:FuncId->Option QF}{val:FuncId->Bool}
theorem JH {α:Type}{cells:α->List D}{z:Nat}(hz:∀ x,(cells x).length=z)(hz0:0<z){k:EQ}{p:α->α->Bool}{s t:Sl α}(hl:s.l.length=t.l.length)(hs:s.l.length<2 ^ 62)
 (he:∀ x y h,eqv k true (ag (cells x)) (ag (cells y)) h=some (.d (.bool (p x y != true)),h)) (h:Hp):∀ (m i:Nat),i+m=s.l.length →
   Cd E T val (.loop [0,1,12,13] (CX z k)) [(0,.d (s.d cells)),(1,.d (t.d cells)),(12,.d (i64 s.l.length)),(13,.d (i64 i))] h =
    if all2 p (s.l.drop i) (t.l.drop i) then some (.exit 0,[],h) else some (.ret,[(4,bl false)],h):=by
 intro m;have key:=ak (E:=E) (T:=T) (val:=val) [0,1,12,13] (CX z k);generalize Cd E T val (.loop [0,1,12,13] (CX z k))=W at key ⊢
 induction m with
 | zero =>
  intro i hi;rw [key,ba (by omega),ba (by omega)];simp [CX,all2,show ¬ ((i:Int)<s.l.length) from by omega]
 | succ m ih =>
  intro i hi;have h1:i<s.l.length:=by omega
  have h2:i<t.l.length:=by omega
  have hx:=λh=>aK (z:=z) h (ab h1) (hz _);have hy:=λh=>aK (z:=z) h (ab h2) (hz _);have hw:=aA h1 hs;have:=ih (i+1) (by omega);rw [key,fO h1 h2];generalize s.l[i]=x at *;generalize t.l[i]=y at *;have sx:=bL (hz x);have sy:=bL (hz y);cases hq:p x y with
  | false=>simp [CX,hx,hy,sx,sy,he,hq,show ((i:Int)<s.l.length) from by omega]
  | true =>
   simp [CX,hx,hy,sx,sy,he,hq,hw,show ((i:Int)<s.l.length) from by omega];simpa using this
theorem Ae {α:Type}{cells:α->List D}{z:Nat}{id:FuncId}(hz:∀ x,(cells x).length=z)(hz0:0<z){k:EQ}{p:α->α->Bool}(ht:T id=some (eqlQ z k))(hv:val id=true){s t:Sl α}(hs:s.l.length<2 ^ 62)
 (he:∀ x y h,eqv k true (ag (cells x)) (ag (cells y)) h=some (.d (.bool (p x y != true)),h)) (h:Hp):Sm E T val id [.d (s.d cells),.d (t.d cells)] h=some (bl (all2 p s.l t.l),h):=by
 rw [aN ht hv];by_cases hl:s.l.length=t.l.length
 . have k1:=λh=>JH (E:=E) (T:=T) (val:=val) hz hz0 hl hs he h s.l.length 0 (by omega);simp [hl] at k1;simp [aa,eqlQ,hl];rw [aj];simp [k1];cases all2 p s.l t.l<;>simp
 . have hl':¬ ((s.l.length:Int)=t.l.length):=by omega
   rw [fZ hl];simp [aa,eqlQ,hl']
theorem Gi {α:Type}{cell:α->D}{k:EQ}{p:α->α->Bool}{s t:Sl α}(hl:s.l.length=t.l.length)(hs:s.l.length<2 ^ 62)
 (he:∀ x y h,eqv k true (.d (cell x)) (.d (cell y)) h=some (.d (.bool (p x y != true)),h)) (h:Hp):∀ (m i:Nat),i+m=s.l.length →
   Cd E T val (.loop [0,1,12,13] (vO k)) [(0,.d (s.d λx=>[cell x])),(1,.d (t.d λx=>[cell x])),(12,.d (i64 s.l.length)),(13,.d (i64 i))] h =
    if all2 p (s.l.drop i) (t.l.drop i) then some (.exit 0,[],h) else some (.ret,[(4,bl false)],h):=by
 intro m;have key:=ak (E:=E) (T:=T) (val:=val) [0,1,12,13] (vO k);generalize Cd E T val (.loop [0,1,12,13] (vO k))=W at key ⊢
 induction m with
 | zero =>
  intro i hi;rw [key,ba (by omega),ba (by omega)];simp [vO,all2,show ¬ ((i:Int)<s.l.length) from by omega]
 | succ m ih =>
  intro i hi;have h1:i<s.l.length:=by omega
  have h2:i<t.l.length:=by omega
  have hx:=λh=>aK (z:=1) h (ab h1) (cells:=λx=>[cell x]) rfl;have hy:=λh=>aK (z:=1) h (ab h2) (cells:=λx=>[cell x]) rfl;have hw:=aA h1 hs;have:=ih (i+1) (by omega);rw [key,fO h1 h2];generalize s.l[i]=x at *;generalize t.l[i]=y at *;cases hq:p x y with
  | false=>simp [vO,hx,hy,he,hq,show ((i:Int)<s.l.length) from by omega]
  | true =>
   simp [vO,hx,hy,he,hq,hw,show ((i:Int)<s.l.length) from by omega];simpa using this
theorem IW {α:Type}{cell:α->D}{id:FuncId}{k:EQ}{p:α->α->Bool}(ht:T id=some (eql1Q k))(hv:val id=true){s t:Sl α}(hs:s.l.length<2 ^ 62)
 (he:∀ x y h,eqv k true (.d (cell x)) (.d (cell y)) h=some (.d (.bool (p x y != true)),h)) (h:Hp):Sm E T val id [.d (s.d λx=>[cell x]),.d (t.d λx=>[cell x])] h=some (bl (all2 p s.l t.l),h):=by
 rw [aN ht hv];by_cases hl:s.l.length=t.l.length
 . have k1:=λh=>Gi (E:=E) (T:=T) (val:=val) hl hs he h s.l.length 0 (by omega);simp [hl] at k1;simp [aa,eql1Q,hl];rw [aj];simp [k1];cases all2 p s.l t.l<;>simp
 . have hl':¬ ((s.l.length:Int)=t.l.length):=by omega
   rw [fZ hl];simp [aa,eql1Q,hl']
theorem JE {α:Type}{cells:α->List D}{z:Nat}{zero:List V}(hz:∀ x,(cells x).length=z)(hz0:0<z)(hzero:zero.length=z){f:FuncId}{p:α->α->Bool}{s t:Sl α}(hl:s.l.length=t.l.length)(hs:s.l.length<2 ^ 62)
 (hf:∀ x∈s.l,∀ y∈t.l,∀ h,Sm E T val f [ag (cells x),ag (cells y)] h=some (bl (p x y),h)):∀ (m i:Nat) (bs:List Blk) (lo:Nat),i+m=s.l.length->lo=0 →
   ∃ bs',Cd E T val (.loop [1,2,15,16,17] (CW z zero)) [(1,.d (t.d cells)),(2,.fn f []),(15,.d (s.d cells)),(16,.d (i64 s.l.length)),(17,.d (i64 i))] ⟨bs,lo⟩ =
    if all2 p (s.l.drop i) (t.l.drop i) then some (.exit 0,[],⟨bs',0⟩) else some (.ret,[(6,bl false)],⟨bs',0⟩):=by
 intro m;have key:=ak (E:=E) (T:=T) (val:=val) [1,2,15,16,17] (CW z zero);generalize Cd E T val (.loop [1,2,15,16,17] (CW z zero))=W at key ⊢
 induction m with
 | zero =>
  rintro i bs lo hi rfl;refine ⟨bs,?_⟩;rw [key,ba (by omega),ba (by omega)];simp [CW,all2,show ¬ ((i:Int)<s.l.length) from by omega]
 | succ m ih =>
  rintro i bs lo hi rfl;have h1:i<s.l.length:=by omega
  have h2:i<t.l.length:=by omega
  have hx:=λh=>aK (z:=z) h (ab h1) (hz _);have hy:=λh=>aK (z:=z) h (ab h2) (hz _);have hw:=aA h1 hs;have hc:=hf _ (bh h1) _ (bh h2);rw [key,fO h1 h2];generalize s.l[i]=x at *;generalize t.l[i]=y at *;have sx:=bL (hz x);have sy:=bL (hz y);have px:put zero 0 ((cells x).map V.d)=some ((cells x).map .d):=by simp [put,hz,hzero]
  have py:put zero 0 ((cells y).map V.d)=some ((cells y).map .d):=by simp [put,hz,hzero]
  cases hq:p x y with
  | false =>
   refine ⟨bs++[.cells ((cells x).map .d),.cells ((cells y).map .d)],?_⟩;simp [CW,hx,hy,sx,sy,px,py,hc,hq,hz0,hz,show ((i:Int)<s.l.length) from by omega]
  | true =>
   obtain ⟨bs',q⟩:=ih (i+1) (bs++[.cells ((cells x).map .d),.cells ((cells y).map .d)]) 0 (by omega) rfl;refine ⟨bs',?_⟩;simp [CW,hx,hy,sx,sy,px,py,hc,hq,hw,hz0,hz,show ((i:Int)<s.l.length) from by omega];simpa using q
theorem Ad {α:Type}{cells:α->List D}{z:Nat}{zero:List V}{id:FuncId}(hz:∀ x,(cells x).length=z)(hz0:0<z)(hzero:zero.length=z){f:FuncId}{p:α->α->Bool}(ht:T id=some (eqfQ z zero))(hv:val id=true){s t:Sl α}(hs:s.l.length<2 ^ 62)
 (hf:∀ x∈s.l,∀ y∈t.l,∀ h,Sm E T val f [ag (cells x),ag (cells y)] h=some (bl (p x y),h)) (h:Hp):Sm E T val id [.d (s.d cells),.d (t.d cells),.fn f []] h=some (bl (all2 p s.l t.l),h):=by
 rw [aN ht hv];have hfr:frz h (.fn f [])=some (.fn f []):=rfl;by_cases hl:s.l.length=t.l.length
 . obtain ⟨bs',k1⟩:=JE (E:=E) (T:=T) (val:=val) hz hz0 hzero hl hs hf s.l.length 0 [] 0 (by omega) rfl;simp [hl] at k1;simp [aa,eqfQ,hl,hfr];rw [aj];simp [k1];cases all2 p s.l t.l<;>simp [dn,ownR,xy,pU]
 . have hl':¬ ((s.l.length:Int)=t.l.length):=by omega
   rw [fZ hl];simp [aa,eqfQ,hl',hfr,dn,ownR,xy,pU]
end
def Cfg.same (a b:Cfg):Bool:=a.epoch==b.epoch&&a.next==b.next&&a.hosts==b.hosts&&a.ways==b.ways&&(all2 Pod.eqB a.pods.l b.pods.l&&(all2 Svc.eqB a.services.l b.services.l&&(all2 Way.eqB a.bound.l b.bound.l&&all2 Pol.same a.policies.l b.policies.l)))
end
section
def Lg (n:Int)(x:Int):Prop:=0<=n/\x<2 ^ n.toNat/\(1<=x->2 ^ n.toNat<=2 * x)
theorem Nt:((List.range 256).all λi=>decide ((i:Int)<2 ^ (lenT i).toNat)&&(decide (i=0)||decide ((2:Int) ^ (lenT i).toNat<=2 * i)))=true:=by decide +kernel
theorem Ec {x:Int}(h0:0<=x)(h1:x<256):Lg (lenT (wrap .u8 x).toNat) x:=by
 have hw:wrap .u8 x=x:=by simp [wrap,IntKind.bits,IntKind.signed]; omega
 rw [hw];have:=ck.1 Nt x.toNat (List.mem_range.2 (by omega));simp only [aq,Bool.or_eq_true,br] at this;have hx:((x.toNat:Nat):Int)=x:=by omega
 rw [hx] at this;exact ⟨(zh _).1,this.1,λh=>by obtain h2 | h2:=this.2<;>omega⟩
theorem ve {n x K:Int}(k:Nat)(hK:K=2 ^ k)(hK0:0<K)(hx:K<=x)(h:Lg n (x.fdiv K)):Lg ((k:Int)+n) x:=by
 obtain ⟨h0,h1,h2⟩:=h;have e:((k:Int)+n).toNat=k+n.toNat:=by omega
 rw [Int.fdiv_eq_ediv_of_nonneg _ (by omega)] at h1 h2;have hp:(2:Int) ^ (k+n.toNat)=K * 2 ^ n.toNat:=by rw [Int.pow_add,← hK]
 have hd:=Int.mul_ediv_add_emod x K;have hm:=Int.emod_nonneg x (show K≠0 by omega);have hl:=Int.emod_lt_of_pos x hK0;have hq:1<=x / K:=by
  have:=(Int.le_ediv_iff_mul_le hK0 (a:=1) (b:=x)).2 (by omega);exact this
 refine ⟨by omega,?_,λ_=>?_⟩
 . rw [e,hp];have:=(Int.ediv_lt_iff_lt_mul hK0).1 h1;rw [Int.mul_comm]; exact this
 . rw [e,hp];have h3:=Int.mul_le_mul_of_nonneg_left (h2 hq) (Int.le_of_lt hK0);have h4:K * (2 * (x / K))=2 * (K * (x / K)):=by rw [Int.mul_left_comm]
   omega
theorem Ba {x:Int}(h0:0<=x)(h1:x<2 ^ 64):Lg (bS x) x:=by
 have hb:∀ y,0<=y->y<65536->Lg ((if y>=256 then 8 else 0)+lenT (wrap .u8 (sW y)).toNat) y:=by
  intro y a b;by_cases c:y>=256
  . rw [if_pos c,sW,if_pos c];have hd:y.fdiv 256=y / 256:=Int.fdiv_eq_ediv_of_nonneg _ (by omega);exact ve (K:=256) 8 (by decide) (by omega) c (Ec (by rw [hd]; omega) (by rw [hd]; omega))
  . rw [if_neg c,sW,if_neg c,Int.zero_add];exact Ec a (by omega)
 have ha:∀ y,0<=y->y<4294967296->Lg ((if y>=65536 then 16 else 0)+((if nX y>=256 then 8 else 0)+lenT (wrap .u8 (sW (nX y))).toNat)) y:=by
  intro y a b;by_cases c:y>=65536
  . have hB:nX y=y.fdiv 65536:=by rw [nX,if_pos c]
    rw [if_pos c,hB];have hd:y.fdiv 65536=y / 65536:=Int.fdiv_eq_ediv_of_nonneg _ (by omega);exact ve (K:=65536) 16 (by decide) (by omega) c (hb _ (by rw [hd]; omega) (by rw [hd]; omega))
  . have hB:nX y=y:=by rw [nX,if_neg c]
    rw [if_neg c,hB,Int.zero_add];exact hb _ a (by omega)
 have hz:bS x=(if x>=4294967296 then 32 else 0)+((if mW x>=65536 then 16 else 0)+((if nX (mW x)>=256 then 8 else 0)+lenT (wrap .u8 (sW (nX (mW x)))).toNat)):=by
  unfold bS; omega
 rw [hz];by_cases c:x>=4294967296
 . have hA:mW x=x.fdiv 4294967296:=by rw [mW,if_pos c]
   rw [if_pos c,hA];have hd:x.fdiv 4294967296=x / 4294967296:=Int.fdiv_eq_ediv_of_nonneg _ (by omega);exact ve (K:=4294967296) 32 (by decide) (by omega) c (ha _ (by rw [hd]; omega) (by rw [hd]; omega))
 . have hA:mW x=x:=by rw [mW,if_neg c]
   rw [if_neg c,hA,Int.zero_add];exact ha _ h0 (by omega)
theorem wM (p:Pol):bT p.own=bT p:=by
 have:(p.rules.l.map Rule.own).all iw=p.rules.l.all iw:=by rw [List.all_map]; rfl
 simp only [bT,Pol.own,bx,this];rfl
theorem Pol.own_same (p:Pol):Pol.same p.own p=true:=by
 have:all2 Rule.same (p.rules.l.map Rule.own) p.rules.l=true:=by
  rw [Ag]; exact dY Rule.same_refl _
 simp [Pol.same,Pol.own,this]
theorem Cfg.same_refl (a:Cfg):a.same a=true:=by
 simp [Cfg.same,dY (λ_=>Pod.eqB_iff.2 rfl),dY (λ_=>Svc.eqB_iff.2 rfl),dY (λ_=>Way.eqB_iff.2 rfl),dY Pol.same_refl]
end
section
end
section
structure Scp where
 node:Int
 addrs:Sl Int
def kX (c:Cfg)(node:Int)(x:Svc):Bool:=match xe c x.id with
 | some w=>w.node==node
 | none=>false
def xV (c:Cfg)(p:Pod)(so:Svc->Bool):Bool:=c.services.l.any λx=>x.id==p.service&&so x
def Di (c:Cfg)(node:Int)(p:Pod):Bool:=p.host==node||xV c p (kX c node)
def wJ (c:Cfg)(s:Scp)(p:Pod):Bool:=Di c s.node p||(fM s.addrs.l p.addr||xV c p λx=>fM s.addrs.l x.addr)
def ng (c:Cfg)(s:Scp):List Pod:=c.pods.l.filter (wJ c s)
def Ck (c:Cfg)(s:Scp)(x:Svc):Bool:=fM s.addrs.l x.addr||(kX c s.node x||(ng c s).any λp=>p.service==x.id)
def ni (c:Cfg)(s:Scp):List Svc:=c.services.l.filter (Ck c s)
def FU (c:Cfg)(s:Scp)(w:Way):Bool:=w.node==s.node||(ni c s).any λx=>x.way==w.id
def wD (c:Cfg)(s:Scp):List Way:=c.bound.l.filter (FU c s)
def wK (c:Cfg)(node:Int)(p:Pol):Bool:=c.pods.l.any λx=>Di c node x&&mU p x.ns x.service
def zx (c:Cfg)(node:Int):List Pol:=(c.policies.l.map Pol.own).filter (wK c node)
def ofT (c:Cfg)(s:Scp)(cov:Sl Int):Vw:=⟨c.epoch,cov,⟨c.pods.nl,ng c s⟩,⟨c.services.nl,ni c s⟩,⟨c.bound.nl,wD c s⟩,⟨c.policies.nl,zx c s.node⟩⟩
def Cov (c:Cfg)(s:Scp)(cov:Sl Int):Prop:=∀ a,a∈cov.l↔a∈s.addrs.l\/∃ x∈c.services.l,kX c s.node x=true/\x.addr=a
theorem hasT_iff {l:List Int}{n:Int}:fM l n=true↔n∈l:=by
 simp [fM,List.find?_isSome]
end
section
def cmpL:List Int->List Int
 | []=>[]
 | [x]=>[x]
 | x::y::l=>if x=y then cmpL (y::l) else x::cmpL (y::l)
theorem cmpL_mem {x:Int}:∀ {l:List Int},x∈cmpL l↔x∈l
 | []=>by simp [cmpL]
 | [y]=>by simp [cmpL]
 | y::z::l=>by
  have ih:=cmpL_mem (x:=x) (l:=z::l);rw [cmpL];split
  . rename_i h; subst h;rw [ih]; simp
  . rw [List.mem_cons,ih,List.mem_cons (b:=y)]
theorem xN:∀ {l:List Int},l.Pairwise (·<=·)->(cmpL l).Pairwise (·<·)
 | [],_=>.nil
 | [y],_=>by simp [cmpL]
 | y::z::l,h=>by
  obtain ⟨h1,h2⟩:=List.pairwise_cons.1 h;have ih:=xN h2;rw [cmpL];split
  . exact ih
  . rename_i hne;refine List.pairwise_cons.2 ⟨λw hw=>?_,ih⟩;have h3:=h1 z (by simp);obtain rfl | h4:=List.mem_cons.1 (cmpL_mem.1 hw)
    . omega
    . have:=(List.pairwise_cons.1 h2).1 w h4; omega
theorem vI:∀ l:List Int,(cmpL l).length<=l.length
 | []=>by simp [cmpL]
 | [y]=>by simp [cmpL]
 | y::z::l=>by
  have ih:=vI (z::l);rw [cmpL];split<;>simp only [ch] at ih ⊢<;>omega
theorem Ie {x:Int}{l:List Int}:x∈bD l↔x∈l:=(List.mergeSort_perm _ _).mem_iff
theorem LC (l:List Int):(bD l).Pairwise (·<=·):=by
 have:=List.pairwise_mergeSort (le:=λa b:Int=>decide (a<=b)) (by intro a b c h1 h2; simp at *; omega) (by intro a b; simp; omega) l;exact this.imp (by intro a b h; simpa using h)
def eB (c:Cfg)(s:Scp):List Int:=cmpL (bD (s.addrs.l++(c.services.l.filter (kX c s.node)).map Svc.addr))
theorem Gh {c:Cfg}{s:Scp}{nl:Bool}:Cov c s ⟨nl,eB c s⟩:=by
 intro a;show a∈eB c s↔_;rw [eB,cmpL_mem,Ie,List.mem_append,cb];constructor
 . rintro (h | ⟨x,h1,h2⟩)
   . exact .inl h
   . exact .inr ⟨x,(List.mem_filter.1 h1).1,(List.mem_filter.1 h1).2,h2⟩
 . rintro (h | ⟨x,h1,h2,h3⟩)
   . exact .inl h
   . exact .inr ⟨x,List.mem_filter.2 ⟨h1,h2⟩,h3⟩
def gI (l:List Int)(most:Int):Bool:=(aU l&&decide ((l.length:Int)<=most))&&!fM l 0
def bJ (s:Scp):Bool:=decide (s.node>=2)&&(decide (s.node<=9)&&gI s.addrs.l 32)
theorem kJ:∀ {l:List Int},l.Pairwise (·<·)->aU l=true
 | [],_=>rfl
 | [x],_=>rfl
 | x::y::l,h=>by
  obtain ⟨h1,h2⟩:=List.pairwise_cons.1 h;simp only [aU,aq,br];exact ⟨h1 y (by simp),kJ h2⟩
theorem jX {α:Type}{key:α->Int}{p:α->Bool}{l:List α}(h:aU (l.map key)=true):aU ((l.filter p).map key)=true :=
 kJ (List.Pairwise.sublist (List.Sublist.map _ List.filter_sublist) (jJ h))
def kr (p:Pod):Bool:=decide ((p.ns.size:Int)>64)||(decide ((p.sa.size:Int)>64)||(decide (p.host<0)||(decide (p.host>9)||(decide (p.port<0)||decide (p.port>65535)))))
def ku (p:Svc):Bool:=decide ((p.ns.size:Int)>64)||(decide (p.port<0)||decide (p.port>65535))
def jC (p:Way):Bool:=decide (p.node<0)||decide (p.node>9)
def gT {α:Type}(key:α->Int)(l:List α)(most:Int):Bool:=aU (l.map key)&&decide ((l.length:Int)<=most)
def GH (v:Vw):Bool:=v.pods.l.any kr||(v.services.l.any ku||v.bound.l.any jC)
def nS (v:Vw):Bool:=!GH v&&(gT Pod.uid v.pods.l 16&&(gT Svc.id v.services.l 6&&(gT Way.id v.bound.l 4&&gT Pol.id v.policies.l 12)))
def bf (v:Vw):Bool:=decide (v.epoch<=4611686018427387903)&&(gI v.covers.l 38&&(nS v&&!v.policies.l.any λp=>!bT p))
theorem SQ {c:Cfg}{s:Scp}{nl:Bool}(h:bG c=true)(hs:bJ s=true):bf (ofT c s ⟨nl,eB c s⟩)=true:=by
 have hc:=h;simp only [bG,aq] at h;obtain ⟨⟨hsm,hm⟩,_⟩:=h;obtain ⟨l1,l2,l3,l4⟩:=uh hsm;simp only [tq,aq] at hm;obtain ⟨⟨⟨⟨⟨hn,hp⟩,hv⟩,ha⟩,hb⟩,hpo⟩:=hm;simp only [lq,aq,br] at hn;have hp1:=hp; have hv1:=hv;simp only [lu,aq,Bool.not_eq_true',List.any_eq_false] at hp;simp only [fE,aq,Bool.not_eq_true',List.any_eq_false] at hv;simp only [mr,aq,Bool.not_eq_true'] at hb;simp only [bJ,gI,aq,br,Bool.not_eq_true'] at hs;have hmh:wrap .i64 (c.hosts+1)=c.hosts+1:=wrap64 (by omega) (by omega);have hmw:wrap .i64 (c.hosts+1+c.ways)=c.hosts+1+c.ways:=wrap64 (by omega) (by omega);have hmw2:wrap .i64 (c.hosts+2)=c.hosts+2:=wrap64 (by omega) (by omega);have hways:∀ {l pre:List Way},kv c pre l=false->∀ w∈l,jC w=false:=by
  intro l
  induction l with
  | nil=>intro pre _ w hw; simp at hw
  | cons x l ih =>
   intro pre hb w hw;simp only [kv,Bool.or_eq_false_iff] at hb;obtain rfl | hw:=List.mem_cons.1 hw
   . have:=hb.1;simp only [D7,Bool.or_eq_false_iff,decide_eq_false_iff_not,hmh,hmw,hmw2] at this;simp only [jC,Bool.or_eq_false_iff,decide_eq_false_iff_not];omega
   . exact ih hb.2 w hw
 have hcl:(eB c s).length<=38:=by
  have h1:=vI (bD (s.addrs.l++(c.services.l.filter (kX c s.node)).map Svc.addr));have h2:(bD (s.addrs.l++(c.services.l.filter (kX c s.node)).map Svc.addr)).length=s.addrs.l.length+(c.services.l.filter (kX c s.node)).length:=by
   rw [bD,List.length_mergeSort,am,bx]
  have h3:=List.length_filter_le (kX c s.node) c.services.l;have:(eB c s).length=(cmpL (bD (s.addrs.l++(c.services.l.filter (kX c s.node)).map Svc.addr))).length:=rfl;omega
 have hc0:fM (eB c s) 0=false:=by
  cases hh:fM (eB c s) 0 with
  | false=>rfl
  | true =>
   obtain h0 | ⟨x,h1,_,h2⟩:=(Gh (nl:=nl) 0).1 (hasT_iff.1 hh)
   . rw [hasT_iff.2 h0] at hs; simp at hs
   . simp only [qP,Bool.not_eq_true'] at ha;have:=(List.nodup_cons.1 (xP ha).1).1;exact absurd (List.mem_append.2 (.inr (cb.2 ⟨x,h1,h2⟩))) this
 have e1:=xN (LC (s.addrs.l++(c.services.l.filter (kX c s.node)).map Svc.addr));have q1:(ng c s).any kr=false:=by
  rw [List.any_eq_false];intro p hp';have hpm:=(List.mem_filter.1 hp').1;have k1:=hp.1 p hpm;have k2:=qw hp1 p hpm;simp only [dJ,dL,Bool.or_eq_true,not_or,br,Bool.not_eq_true',Bool.not_eq_false,ig,aq,hmh] at k1;simp only [kr,Bool.or_eq_true,not_or,br];omega
 have q2:(ni c s).any ku=false:=by
  rw [List.any_eq_false];intro p hp';have hpm:=(List.mem_filter.1 hp').1;have k1:=hv.1 p hpm;have k2:=oU hv1 p hpm;simp only [qJ,Bool.or_eq_true,not_or,Bool.not_eq_true',Bool.not_eq_false,ig,aq,br] at k1;simp only [ku,Bool.or_eq_true,not_or,br];omega
 have q3:(wD c s).any jC=false:=by
  rw [List.any_eq_false];intro p hp';simp [hways hb.1 p (List.mem_filter.1 hp').1]
 have q4:((zx c s.node).any λp=>!bT p)=false:=by
  rw [List.any_eq_false];intro p hp';obtain ⟨q,hq,rfl⟩:=cb.1 (List.mem_filter.1 hp').1;simp [wM,ic hpo q hq]
 simp only [dW,aq] at hpo;have r4:aU ((c.policies.l.map Pol.own).map Pol.id)=true:=by
  rw [List.map_map]; exact hpo.2
 have g1:=List.length_filter_le (wJ c s) c.pods.l;have g2:=List.length_filter_le (Ck c s) c.services.l;have g3:=List.length_filter_le (FU c s) c.bound.l;have g4:=List.length_filter_le (wK c s.node) (c.policies.l.map Pol.own);rw [bx] at g4;have f1:aU ((ng c s).map Pod.uid)=true:=jX hp.2;have f2:aU ((ni c s).map Svc.id)=true:=jX hv.2;have f3:aU ((wD c s).map Way.id)=true:=jX hb.2;have f4:aU ((zx c s.node).map Pol.id)=true:=jX r4;have e2:aU (eB c s)=true:=kJ e1;simp only [bf,ofT,nS,GH,gT,gI,e2,hc0,q1,q2,q3,q4,f1,f2,f3,f4,Bool.not_false,Bool.or_self,Bool.true_and,Bool.and_true,aq];simp only [ng,ni,wD,zx] at *;refine ⟨decide_eq_true ?_,decide_eq_true ?_,decide_eq_true ?_,decide_eq_true ?_,decide_eq_true ?_,decide_eq_true ?_⟩<;>omega
end
section
def dg9:List (Nat×QF):=[(15,q64),(27,q67),(167,G6),(200,G7),(125,G8),(84,BF),(120,G9),(35,NH),(36,NI),(38,KS),(40,TA),(41,TC),(42,TE),(43,NJ),(29,KT),(46,TG),(47,NK),(48,TH),(49,TJ),(50,NL),(51,TK),(52,NM),(53,TM),(54,NN),(55,NP),(56,TN),(57,TQ),(58,TR),(82,Dl),(85,BG),(86,BH),(87,BI),(122,KV),(126,Uh),(127,Hg),(128,Ui),(129,KW),(130,Hl),(131,Uj),(132,Hm),(133,YQ),(160,Dr),(161,Ho),(213,Hr)]
def TV:FuncId->Option QF:=gM dg9
def aX (f:FuncId):Bool:=[15,27,82,160].any λn=>Nat.beq n f
theorem ao7:TV 15=some (q64):=by kernel_rfl
theorem as5:aX 15=true:=by kernel_rfl
theorem dx8:TV 27=some (q67):=by kernel_rfl
theorem dy0:aX 27=true:=by kernel_rfl
theorem L6:TV 167=some (idxQ 7):=by kernel_rfl
theorem Ma:aX 167=false:=by kernel_rfl
theorem L8:TV 200=some (idxQ 5):=by kernel_rfl
theorem Mc:aX 200=false:=by kernel_rfl
theorem ak8:TV 125=some (delQ 7 167 [(.d (.int .u64 0)),(.d (.str ⟨#[]⟩)),(.d (.str ⟨#[]⟩)),(.d (.int .i64 0)),(.d (.int .u32 0)),(.d (.int .i64 0)),(.d (.int .u64 0))]):=by kernel_rfl
theorem ao8:aX 125=false:=by kernel_rfl
theorem ak9:TV 84=some (cloneQ 7 72 [(.d (.int .u64 0)),(.d (.str ⟨#[]⟩)),(.d (.str ⟨#[]⟩)),(.d (.int .i64 0)),(.d (.int .u32 0)),(.d (.int .i64 0)),(.d (.int .u64 0))]):=by kernel_rfl
theorem ao9:aX 84=false:=by kernel_rfl
theorem al0:TV 120=some (idxQ 2):=by kernel_rfl
theorem ap0:aX 120=false:=by kernel_rfl
theorem al1:TV 35=some (NH):=by kernel_rfl
theorem ap1:aX 35=false:=by kernel_rfl
theorem al2:TV 36=some (NI):=by kernel_rfl
theorem ap2:aX 36=false:=by kernel_rfl
theorem al3:TV 38=some (KS):=by kernel_rfl
theorem ap3:aX 38=false:=by kernel_rfl
theorem al4:TV 40=some (TA):=by kernel_rfl
theorem ap4:aX 40=false:=by kernel_rfl
theorem QG:TV 41=some (someQ 122):=by kernel_rfl
theorem QK:aX 41=false:=by kernel_rfl
theorem al5:TV 42=some (TE):=by kernel_rfl
theorem ap5:aX 42=false:=by kernel_rfl
theorem al6:TV 43=some (NJ):=by kernel_rfl
theorem ap6:aX 43=false:=by kernel_rfl
theorem al7:TV 29=some (cloneQ 1 4 [(.d (.int .u32 0))]):=by kernel_rfl
theorem ap7:aX 29=false:=by kernel_rfl
theorem am0:TV 46=some (keepQ 84 126 125):=by kernel_rfl
theorem ap8:aX 46=false:=by kernel_rfl
theorem am1:TV 47=some (NK):=by kernel_rfl
theorem ap9:aX 47=false:=by kernel_rfl
theorem am2:TV 48=some (TH):=by kernel_rfl
theorem aq0:aX 48=false:=by kernel_rfl
theorem am3:TV 49=some (keepQ 85 128 127):=by kernel_rfl
theorem aq1:aX 49=false:=by kernel_rfl
theorem am4:TV 50=some (NL):=by kernel_rfl
theorem aq2:aX 50=false:=by kernel_rfl
theorem QH:TV 51=some (someQ 129):=by kernel_rfl
theorem QL:aX 51=false:=by kernel_rfl
theorem am5:TV 52=some (NM):=by kernel_rfl
theorem aq3:aX 52=false:=by kernel_rfl
theorem am6:TV 53=some (keepQ 86 131 130):=by kernel_rfl
theorem aq4:aX 53=false:=by kernel_rfl
theorem am7:TV 54=some (NN):=by kernel_rfl
theorem aq5:aX 54=false:=by kernel_rfl
theorem am8:TV 55=some (NP):=by kernel_rfl
theorem aq6:aX 55=false:=by kernel_rfl
theorem am9:TV 56=some (keepQ 87 133 132):=by kernel_rfl
theorem aq7:aX 56=false:=by kernel_rfl
theorem an0:TV 57=some (TQ):=by kernel_rfl
theorem aq8:aX 57=false:=by kernel_rfl
theorem an1:TV 58=some (TR):=by kernel_rfl
theorem aq9:aX 58=false:=by kernel_rfl
theorem an2:TV 82=some (Dl):=by kernel_rfl
theorem ar0:aX 82=true:=by kernel_rfl
theorem an3:TV 85=some (cloneQ 5 48 [(.d (.int .u64 0)),(.d (.str ⟨#[]⟩)),(.d (.int .u32 0)),(.d (.int .i64 0)),(.d (.int .u64 0))]):=by kernel_rfl
theorem ar1:aX 85=false:=by kernel_rfl
theorem an4:TV 86=some (cloneQ 2 16 [(.d (.int .u64 0)),(.d (.int .i64 0))]):=by kernel_rfl
theorem ar2:aX 86=false:=by kernel_rfl
theorem an5:TV 87=some (cloneQ 5 64 [(.d (.int .u64 0)),(.d (.str ⟨#[]⟩)),(.d (.int .u64 0)),(.d (.int .i64 0)),(.d (.slice true []))]):=by kernel_rfl
theorem ar3:aX 87=false:=by kernel_rfl
theorem QI:TV 122=some (anyQ 200):=by kernel_rfl
theorem QM:aX 122=false:=by kernel_rfl
theorem an6:TV 126=some (notQ 7):=by kernel_rfl
theorem ar4:aX 126=false:=by kernel_rfl
theorem an7:TV 127=some (delQ 5 200 [(.d (.int .u64 0)),(.d (.str ⟨#[]⟩)),(.d (.int .u32 0)),(.d (.int .i64 0)),(.d (.int .u64 0))]):=by kernel_rfl
theorem ar5:aX 127=false:=by kernel_rfl
theorem an8:TV 128=some (notQ 5):=by kernel_rfl
theorem ar6:aX 128=false:=by kernel_rfl
theorem QJ:TV 129=some (anyQ 167):=by kernel_rfl
theorem QN:aX 129=false:=by kernel_rfl
theorem an9:TV 130=some (delQ 2 120 [(.d (.int .u64 0)),(.d (.int .i64 0))]):=by kernel_rfl
theorem ar7:aX 130=false:=by kernel_rfl
theorem ao0:TV 131=some (notQ 2):=by kernel_rfl
theorem ar8:aX 131=false:=by kernel_rfl
theorem ao1:TV 132=some (delQ 5 213 [(.d (.int .u64 0)),(.d (.str ⟨#[]⟩)),(.d (.int .u64 0)),(.d (.int .i64 0)),(.d (.slice true []))]):=by kernel_rfl
theorem ar9:aX 132=false:=by kernel_rfl
theorem ao2:TV 133=some (notQ 5):=by kernel_rfl
theorem as0:aX 133=false:=by kernel_rfl
theorem ao3:TV 160=some (Dr):=by kernel_rfl
theorem as2:aX 160=true:=by kernel_rfl
theorem ao4:TV 161=some (Ho):=by kernel_rfl
theorem as3:aX 161=false:=by kernel_rfl
theorem ao5:TV 213=some (idxQ 5):=by kernel_rfl
theorem as4:aX 213=false:=by kernel_rfl
theorem ao6:TV 6=none:=by kernel_rfl
theorem dx6:TV 39=none:=by kernel_rfl
theorem dx7:TV 59=none:=by kernel_rfl
theorem dx9:TV 31=none:=by kernel_rfl
theorem QE:TV 37=none:=by kernel_rfl
theorem al8:TV 44=none:=by kernel_rfl
theorem al9:TV 45=none:=by kernel_rfl
def Scp.c (x:Scp):List D:=[i64 x.node,x.addrs.d aV]
@[simp] theorem Scp.len {x:Scp}:x.c.length=2:=(rfl)
@[simp] theorem Scp.all {x:Scp}:sub x.c 0 2=some x.c:=(rfl)
@[simp] theorem Scp.s0_1 {x:Scp}:sub x.c 0 1=some [i64 x.node]:=(rfl)
@[simp] theorem Scp.s1_1 {x:Scp}:sub x.c 1 1=some [x.addrs.d aV]:=(rfl)
theorem JW {bs ys:List Blk}:ai (bs++ys) (bs.length+1)=ai ys 1:=by
 unfold ai; rw [bk (by omega)]; simp
structure OfE (c:Cfg) (s:Scp) (bs:List Blk):Prop where
 b0:ai bs 0=some (c.c.map .d)
 b1:ai bs 1=some (s.c.map .d)
 b3:ai bs 3=some [.fn 35 [.ptr 1 0]]
 b4:ai bs 4=some [.fn 36 [.ptr 1 0]]
 b5:ai bs 5=some [.fn 38 [.ptr 0 0,.ptr 3 0]]
 b6:ai bs 6=some [.fn 40 [.ptr 0 0]]
 b7:ai bs 7=some [.fn 43 [.ptr 1 0,.ptr 6 0,.ptr 5 0]]
theorem OfE.lay {c:Cfg}{s:Scp}{bs:List Blk}(h:OfE c s bs)(ys:List Blk):OfE c s (bs++ys) :=
 ⟨az h.b0,az h.b1,az h.b3,az h.b4,az h.b5,az h.b6,az h.b7⟩
theorem OfE.like {c:Cfg}{s:Scp}{bs bs':List Blk}(h:OfE c s bs)(ho:∀ x,x<8->bs'[x]?=bs[x]?):OfE c s bs':=by
 have g:∀ x cs,x<8->ai bs x=some cs->ai bs' x=some cs:=λx cs hx hg=>by
  unfold ai at hg ⊢; rw [ho x hx]; exact hg
 exact ⟨g _ _ (by decide) h.b0,g _ _ (by decide) h.b1,g _ _ (by decide) h.b3,g _ _ (by decide) h.b4,g _ _ (by decide) h.b5,g _ _ (by decide) h.b6,g _ _ (by decide) h.b7⟩
section
variable {E:Calls'}(h45:∀ c:Cfg,c.ok->∀ n h,E 39 [c.v,.d (u64 n)] h=some (.tup (match xe c n with | some w=>[w.v,bl true] | none=>[way0.v,bl false]),h))
 (h117:∀ s:Sl Int,short s->∀ n h,E 37 [.d (s.d aV),.d (u32 n)] h=some (bl (fM s.l n),h))
 (h52:∀ (p:Pol) (x:Pod) h,E 59 [p.v,x.v] h=some (bl (mU p x.ns x.service),h))
variable {c:Cfg}{s:Scp}
theorem XE {h:Hp}(hE:OfE c s h.bs)(w:Way):Sm E TV aX 35 [ag w.c,.ptr 1 0] h=some (bl (w.node==s.node),h):=by
 rw [ax al1 ap1];simp [aa,NH,az hE.b1,V.under,Way.c]
include h117 in
theorem Rm {h:Hp}(hE:OfE c s h.bs)(hs:short s.addrs)(a:Int):Sm E TV aX 36 [.d (u32 a),.ptr 1 0] h=some (bl (fM s.addrs.l a),h):=by
 have m:∀ h,Sm E TV aX 37 [.d (s.addrs.d aV),.d (u32 a)] h=some (bl (fM s.addrs.l a),h):=λh=>by rw [aL QE]; exact h117 _ hs a h
 rw [ax al2 ap2];simp [aa,NI,hE.b1,m,V.under]
include h45 in
theorem Rn {h:Hp}(hE:OfE c s h.bs)(hc:c.ok)(x:Svc):Sm E TV aX 38 [ag x.c,.ptr 0 0,.ptr 3 0] h=some (bl (kX c s.node x),h):=by
 have m:=h45 c hc x.id;have mm:∀ h,Sm E TV aX 39 [c.v,.d (u64 x.id)] h=E 39 [c.v,.d (u64 x.id)] h:=λh=>by rw [aL dx6]
 have k:=λw ys lo=>XE (E:=E) (h:=⟨h.bs++ys,lo⟩) (hE.lay ys) w;rw [ax al3 ap3];unfold kX;cases hx:xe c x.id with
 | none =>
  rw [hx] at m;simp +decide [aa,KS,az hE.b0,mm,m,au,V.under]
 | some w =>
  rw [hx] at m;simp +decide [aa,KS,az hE.b0,az hE.b3,mm,m,k,au,V.under]
theorem bm9 {h:Hp}{x:Svc}{p:Pod}{P Q:Nat}{f:FuncId}{caps:List V}{so:Svc->Bool}(hP:ai h.bs P=some (p.c.map .d))(hQ:ai h.bs Q=some [.fn f caps])
 (hso:∀ ys lo,Sm E TV aX f (ag x.c::caps) ⟨h.bs++ys,lo⟩=some (bl (so x),⟨h.bs++ys,lo⟩)):Sm E TV aX 42 [ag x.c,.ptr P 0,.ptr Q 0] h=some (bl (x.id==p.service&&so x),h):=by
 rw [ax al5 ap5];cases e:(x.id==p.service)<;>simp +decide [aa,TE,az hP,az hQ,hso,e,au,V.under]
theorem XF {h:Hp}(hE:OfE c s h.bs)(hc:c.ok){p:Pod}{f:FuncId}{caps:List V}{so:Svc->Bool}
 (hso:∀ x∈c.services.l,∀ ys lo,Sm E TV aX f (ag x.c::caps) ⟨h.bs++ys,lo⟩=some (bl (so x),⟨h.bs++ys,lo⟩)):Sm E TV aX 40 [ag p.c,.fn f caps,.ptr 0 0] h=some (bl (xV c p so),h):=by
 rw [ax al4 ap4];have hany:∀ lo,Sm E TV aX 41 [.d (c.services.d Svc.c),.fn 42 [.ptr h.bs.length 0,.ptr (h.bs.length+1) 0]] ⟨h.bs++[.cells (p.c.map .d),.cells [.fn f caps]],lo⟩=some (bl (xV c p so),⟨h.bs++[.cells (p.c.map .d),.cells [.fn f caps]],lo⟩):=λlo =>
  fG (E:=E) (T:=TV) (val:=aX) QG QK rfl rfl (gU (E:=E) Svc.c (z:=5) L8 Mc QI QM (RowIs.of (cells:=Svc.c) (λ_=>rfl) _) hc.2.1.lt λe he lo2=>bm9 (p:=p) (f:=f) (caps:=caps) (so:=so) (by simp) (by simp [JW]) (λys lo3=>by
   have:=hso e he ([.cells (p.c.map .d),.cells [.fn f caps]]++ys) lo3;simpa using this))
 simp +decide [aa,TA,az hE.b0,hany,V.under]
end
end
section
theorem RowIs.lay {bs:List Blk}{v:V}{z:Nat}{es:List (List D)}(h:RowIs bs v z es)(ys:List Blk):RowIs (bs++ys) v z es:=by
 refine ⟨h.1,?_⟩;obtain h1 | ⟨b,o,cap,cs,h1,h2,h3⟩:=h.2
 . exact .inl h1
 . exact .inr ⟨b,o,cap,cs,h1,az h2,h3⟩
section
variable {E:Calls'}(h45:∀ c:Cfg,c.ok->∀ n h,E 39 [c.v,.d (u64 n)] h=some (.tup (match xe c n with | some w=>[w.v,bl true] | none=>[way0.v,bl false]),h))
 (h117:∀ s:Sl Int,short s->∀ n h,E 37 [.d (s.d aV),.d (u32 n)] h=some (bl (fM s.l n),h))
 (h52:∀ (p:Pol) (x:Pod) h,E 59 [p.v,x.v] h=some (bl (mU p x.ns x.service),h))
variable {c:Cfg}{s:Scp}
include h45 in
theorem XG {h:Hp}(hE:OfE c s h.bs)(hc:c.ok)(p:Pod):Sm E TV aX 43 [ag p.c,.ptr 1 0,.ptr 6 0,.ptr 5 0] h=some (bl (Di c s.node p),h):=by
 have m:∀ ys lo,Sm E TV aX 40 [ag p.c,.fn 38 [.ptr 0 0,.ptr 3 0],.ptr 0 0] ⟨h.bs++ys,lo⟩=some (bl (xV c p (kX c s.node)),⟨h.bs++ys,lo⟩):=λys lo =>
  XF (h:=⟨h.bs++ys,lo⟩) (hE.lay ys) hc λx _ zs lo2=>Rn h45 (h:=⟨h.bs++ys++zs,lo2⟩) ((hE.lay ys).lay zs) hc x
 rw [ax al6 ap6];unfold Di;cases e:(p.host==s.node)<;>simp +decide [aa,NJ,az hE.b1,az hE.b5,az hE.b6,e,m,au,V.under]
include h117 in
theorem bn1 {h:Hp}(hE:OfE c s h.bs)(hs:short s.addrs)(x:Svc):Sm E TV aX 48 [ag x.c,.ptr 4 0] h=some (bl (fM s.addrs.l x.addr),h):=by
 have m:=λys lo=>Rm (E:=E) h117 (h:=⟨h.bs++ys,lo⟩) (hE.lay ys) hs x.addr;rw [ax am2 aq0];simp [aa,TH,az hE.b4,m,V.under]
include h45 h117 in
theorem bn0 {h:Hp}(hE:OfE c s h.bs)(hc:c.ok)(hs:short s.addrs)(p:Pod):Sm E TV aX 47 [ag p.c,.ptr 7 0,.ptr 4 0,.ptr 6 0] h=some (bl (wJ c s p),h):=by
 have m1:=λys lo=>XG (E:=E) h45 (h:=⟨h.bs++ys,lo⟩) (hE.lay ys) hc p;have m2:=λys lo=>Rm (E:=E) h117 (h:=⟨h.bs++ys,lo⟩) (hE.lay ys) hs p.addr;have m3:∀ ys lo,Sm E TV aX 40 [ag p.c,.fn 48 [.ptr 4 0],.ptr 0 0] ⟨h.bs++ys,lo⟩=some (bl (xV c p λx=>fM s.addrs.l x.addr),⟨h.bs++ys,lo⟩):=λys lo =>
  XF (h:=⟨h.bs++ys,lo⟩) (hE.lay ys) hc λx _ zs lo2=>bn1 h117 (h:=⟨h.bs++ys++zs,lo2⟩) ((hE.lay ys).lay zs) hs x
 rw [ax am1 ap9];unfold wJ;cases e1:Di c s.node p<;>cases e2:fM s.addrs.l p.addr<;>simp +decide [aa,NK,az hE.b4,az hE.b6,az hE.b7,e1,e2,m1,m2,m3,au,V.under]
theorem bn3 {h:Hp}{x:Svc}{P:Nat}(hP:ai h.bs P=some (x.c.map .d))(p:Pod):Sm E TV aX 52 [ag p.c,.ptr P 0] h=some (bl (p.service==x.id),h):=by
 rw [ax am5 aq3];simp +decide [aa,NM,az hP,V.under]
def aP (e:Int)(v1 v2 v3 v4 v5:V):List V:=[.d (u64 e),v1,v2,v3,v4,v5]
include h45 h117 in
theorem bn2 {h:Hp}(hE:OfE c s h.bs)(hc:c.ok)(hs:short s.addrs){e:Int}{v1 v2 v3 v4 v5:V}{D:Nat}(hD:ai h.bs D=some (aP e v1 v2 v3 v4 v5)){l:List Pod}(hl:l.length<2 ^ 62)(hr:RowIs h.bs v2 7 (l.map Pod.c))(x:Svc) :
 Sm E TV aX 50 [ag x.c,.ptr 4 0,.ptr 5 0,.ptr D 0] h=some (bl (fM s.addrs.l x.addr||(kX c s.node x||l.any λp=>p.service==x.id)),h):=by
 have m1:=λys lo=>Rm (E:=E) h117 (h:=⟨h.bs++ys,lo⟩) (hE.lay ys) hs x.addr;have m2:=λys lo=>Rn (E:=E) h45 (h:=⟨h.bs++ys,lo⟩) (hE.lay ys) hc x;have m3:∀ lo,Sm E TV aX 51 [v2,.fn 52 [.ptr h.bs.length 0]] ⟨h.bs++[.cells (x.c.map .d)],lo⟩=some (bl (l.any λp=>p.service==x.id),⟨h.bs++[.cells (x.c.map .d)],lo⟩):=λlo =>
  fG (E:=E) (T:=TV) (val:=aX) QH QL hr.ok hr.okv (gU (E:=E) Pod.c (z:=7) L6 Ma QJ QN (hr.lay _) hl λe he lo2=>bn3 (by simp) e)
 rw [ax am4 aq2];have hd:sub (aP e v1 v2 v3 v4 v5) 2 1=some [v2]:=rfl;cases e1:fM s.addrs.l x.addr<;>cases e2:kX c s.node x<;>simp +decide [aa,NL,az hE.b4,az hE.b5,az hD,hd,e1,e2,m1,m2,m3,au,V.under,hr.okv]
theorem bn5 {h:Hp}{w:Way}{P:Nat}(hP:ai h.bs P=some (w.c.map .d))(x:Svc):Sm E TV aX 55 [ag x.c,.ptr P 0] h=some (bl (x.way==w.id),h):=by
 rw [ax am8 aq6];simp +decide [aa,NP,az hP,V.under]
theorem bn4 {h:Hp}(hE:OfE c s h.bs){e:Int}{v1 v2 v3 v4 v5:V}{D:Nat}(hD:ai h.bs D=some (aP e v1 v2 v3 v4 v5)){l:List Svc}(hl:l.length<2 ^ 62)(hr:RowIs h.bs v3 5 (l.map Svc.c))(w:Way) :
 Sm E TV aX 54 [ag w.c,.ptr 3 0,.ptr D 0] h=some (bl (w.node==s.node||l.any λx=>x.way==w.id),h):=by
 have m1:=λys lo=>XE (E:=E) (h:=⟨h.bs++ys,lo⟩) (hE.lay ys) w;have m3:∀ lo,Sm E TV aX 41 [v3,.fn 55 [.ptr h.bs.length 0]] ⟨h.bs++[.cells (w.c.map .d)],lo⟩=some (bl (l.any λx=>x.way==w.id),⟨h.bs++[.cells (w.c.map .d)],lo⟩):=λlo =>
  fG (E:=E) (T:=TV) (val:=aX) QG QK hr.ok hr.okv (gU (E:=E) Svc.c (z:=5) L8 Mc QI QM (hr.lay _) hl λe he lo2=>bn5 (by simp) e)
 rw [ax am7 aq5];have hd:sub (aP e v1 v2 v3 v4 v5) 3 1=some [v3]:=rfl;cases e1:(w.node==s.node)<;>simp +decide [aa,NN,az hE.b3,az hD,hd,e1,m1,m3,au,V.under,hr.okv]
include h45 h52 in
theorem bn7 {h:Hp}(hE:OfE c s h.bs)(hc:c.ok){p:Pol}{P:Nat}(hP:ai h.bs P=some (p.c.map .d))(x:Pod):Sm E TV aX 58 [ag x.c,.ptr 7 0,.ptr P 0] h=some (bl (Di c s.node x&&mU p x.ns x.service),h):=by
 have m1:=λys lo=>XG (E:=E) h45 (h:=⟨h.bs++ys,lo⟩) (hE.lay ys) hc x;have m2:∀ h,Sm E TV aX 59 [ag p.c,ag x.c] h=some (bl (mU p x.ns x.service),h):=λh=>by rw [aL dx7]; exact h52 p x h
 rw [ax an1 aq9];cases e1:Di c s.node x<;>simp +decide [aa,TR,az hE.b7,az hP,e1,m1,m2,au,V.under]
include h45 h52 in
theorem bn6 {h:Hp}(hE:OfE c s h.bs)(hc:c.ok)(p:Pol):Sm E TV aX 57 [ag p.c,.ptr 0 0,.ptr 7 0] h=some (bl (wK c s.node p),h):=by
 have m3:∀ lo,Sm E TV aX 51 [.d (c.pods.d Pod.c),.fn 58 [.ptr 7 0,.ptr h.bs.length 0]] ⟨h.bs++[.cells (p.c.map .d)],lo⟩=some (bl (wK c s.node p),⟨h.bs++[.cells (p.c.map .d)],lo⟩):=λlo =>
  fG (E:=E) (T:=TV) (val:=aX) QH QL rfl rfl (gU (E:=E) Pod.c (z:=7) L6 Ma QJ QN (RowIs.of (cells:=Pod.c) (λ_=>rfl) _) hc.1.lt λe he lo2=>by
  have k:=bn7 (E:=E) h45 h52 (s:=s) (p:=p) (P:=h.bs.length) (h:=⟨h.bs++[.cells (p.c.map .d)],lo2⟩) (hE.lay [.cells (p.c.map .d)]) hc (by simp) e;exact k)
 rw [ax an0 aq8];simp +decide [aa,TQ,az hE.b0,m3,V.under]
end
end
section
abbrev Scp.v (x:Scp):V:=ag x.c
section
variable {E:Calls'}
theorem bo0 (a:Int)(h:Hp):Sm E TV aX 161 [.d (u32 a)] h=some (.d (u32 a),h):=by
 rw [ax ao4 as3];simp [aa,Ho,V.under]
theorem zf {s:Sl Int}{i:Nat}(hi:i<s.l.length){kd:IntKind}{h:Hp}:iB none 1 (.d (s.d aV)) (.d (.int kd i)) h=some (.eptr (aV s.l[i]) 0,h) :=
 mV (cells:=aV) (λ_=>rfl) hi
theorem bd4 {s:Sl Int}(hs:s.l.length<2 ^ 62)(most:Int):∀ (m i:Nat),i+m=s.l.length->1<=i →
 Cd E TV aX (.loop [0,1,2,9,10] di) [(0,.d (s.d aV)),(1,.d (i64 most)),(2,.fn 161 []),(9,.d (i64 s.l.length)),(10,.d (i64 i))] ⟨[],0⟩ =
  if aU (s.l.drop (i-1)) then some (.exit 0,[(0,.d (s.d aV)),(1,.d (i64 most))],⟨[],0⟩) else some (.ret,[(6,bl false)],⟨[],0⟩):=by
 intro m;have key:=ak (E:=E) (T:=TV) (val:=aX) [0,1,2,9,10] di;generalize Cd E TV aX (.loop [0,1,2,9,10] di)=W at key ⊢
 induction m with
 | zero =>
  intro i hi h1;rw [key,kQ (by omega)];simp [di,show ¬ ((i:Int)<s.l.length) from by omega]
 | succ m ih =>
  intro i hi h1;have hlt:i<s.l.length:=by omega
  have hd:=jI (l:=s.l) (i:=i-1) (by omega);have hs1:i-1+1=i:=by omega
  simp only [hs1] at hd;have hp1:=λh=>zf hlt (kd:=.i64) (h:=h);have hp0:=λh=>zf (show i-1<s.l.length by omega) (kd:=.i64) (h:=h);have c1:=bo0 (E:=E);have hw:=aA hlt hs;have hwm:wrap .i64 ((i:Int)-1)=((i-1:Nat):Int):=by rw [wrap64]<;>omega
  have hpos:0<i:=h1;have hih:=ih (i+1) (by omega) (by omega);simp only [show i+1-1=i by omega] at hih;rw [key,hd];generalize s.l[i]=y at *;generalize s.l[i-1]=x at *;by_cases hg:x<y
  . simp +decide [di,hp1,hp0,aV,hwm,hw,hpos,c1,hlt,hg,ay,ae,show ¬ (x>=y) from by omega];simpa using hih
  . simp +decide [di,hp1,hp0,aV,hwm,hpos,c1,hlt,hg,ay,ae,show x>=y from by omega]
theorem bn9 {s:Sl Int}(hs:s.l.length<2 ^ 62)(most:Int)(h:Hp):Sm E TV aX 160 [.d (s.d aV),.d (i64 most),.fn 161 []] h=some (bl (aU s.l&&decide ((s.l.length:Int)<=most)),h):=by
 rw [aN ao3 as2];have hfr:frz h (.fn 161 [])=some (.fn 161 []):=rfl;have key:=ak (E:=E) (T:=TV) (val:=aX) [0,1,2,9,10] di;have hl:=bd4 (E:=E) hs most;simp [aa,Dr,hfr];rw [aj];simp only [ji,kz];simp;generalize Cd E TV aX (.loop [0,1,2,9,10] di)=W at key hl ⊢;by_cases h0:s.l=[]
 . rw [key];simp [di,h0,aU,dn]
 . have hpos:0<s.l.length:=List.length_pos_iff.2 h0;have h1:=hl (s.l.length-1) 1 (by omega) (by omega);simp at h1;rw [key];have hw:=aA hpos hs;simp at hw;simp +decide [di,ay,bM,hpos,hw,h1];cases aU s.l<;>simp [dn]
variable (h117:∀ s:Sl Int,short s->∀ n h,E 37 [.d (s.d aV),.d (u32 n)] h=some (bl (fM s.l n),h))
include h117
theorem bn8 {s:Sl Int}(hs:short s)(most:Int)(h:Hp):Sm E TV aX 82 [.d (s.d aV),.d (i64 most)] h=some (bl (gI s.l most),h):=by
 have m:∀ h,Sm E TV aX 37 [.d (s.d aV),.d (u32 0)] h=some (bl (fM s.l 0),h):=λh=>by rw [aL QE]; exact h117 _ hs 0 h
 rw [aN an2 ar0];cases e:(aU s.l&&decide ((s.l.length:Int)<=most))<;>simp +decide [aa,Dl,bn9 hs.lt most,m,e,gI,au]
theorem V67 {s:Scp}(hs:short s.addrs)(h:Hp):Sm E TV aX 27 [s.v] h=some (bl (bJ s),h):=by
 rw [aN dx8 dy0];have hv:=λh=>bn8 (E:=E) h117 hs 32 h;unfold bJ;by_cases e1:s.node>=2<;>by_cases e2:s.node<=9<;>simp +decide [aa,q67,hv,e1,e2,au]
end
end
section
open Go.Sort (swp)
def zsV (kd:IntKind)(d:Array Int):List V:=d.toList.map (iv kd)
theorem PU {kd:IntKind}{d:Array Int}:(zsV kd d).length=d.size:=by simp [zsV]
theorem VM {kd:IntKind}{d:Array Int}{i:Nat}(h:i<d.size):(zsV kd d)[i]?=some (iv kd d[i]!):=by
 simp [zsV,h,getElem!_pos]
theorem PW {kd:IntKind}{d:Array Int}{i:Nat}{x:Int}:(zsV kd d).set i (iv kd x)=zsV kd (d.setIfInBounds i x):=by
 simp [zsV]
abbrev Mz (kd:IntKind) (bs:List Blk) (b:Nat) (d:Array Int) (lo:Nat):Hp:=Mr bs b (zsV kd d) lo
section
variable {kd:IntKind}{bs:List Blk}{b lo:Nat}{d:Array Int}
theorem bC (hb:b<bs.length){i:Nat}(hi:i<d.size):ldv (Mz kd bs b d lo) (.ptr b i) 1 true=some (.d (.int kd d[i]!),Mz kd bs b d lo):=qN hb (VM hi)
theorem Qa (hb:b<bs.length){i:Nat}{x:Int}(hi:i<d.size):stv (Mz kd bs b d lo) (.ptr b i) (.d (.int kd x)) 1=some (.undef,Mz kd bs b (d.setIfInBounds i x) (min lo b)):=by
 have:=IM (lo:=lo) hb (k:=i) (x:=.int kd x) (cur:=zsV kd d) (by rw [PU]; exact hi);rw [this];have h2:=PW (kd:=kd) (d:=d) (i:=i) (x:=x);rw [iv] at h2;rw [h2]
end
def Kz (b lo:Nat)(d:Array Int)(lo':Nat)(d':Array Int):Prop:=(lo'<=b)\/(d'=d/\lo'=lo)
theorem Kz.refl {b lo:Nat}{d:Array Int}:Kz b lo d lo d:=.inr ⟨rfl,rfl⟩
theorem Kz.trans {b lo lo' lo'':Nat}{d d' d'':Array Int}(h:Kz b lo d lo' d')(k:Kz b lo' d' lo'' d''):Kz b lo d lo'' d'':=by
 obtain k | ⟨rfl,rfl⟩:=k
 . exact .inl k
 . exact h
theorem bV {d:Array Int}{i j:Nat}:(swp d i j).size=d.size:=by simp [swp]
theorem eX {kd:IntKind}{bs:List Blk}{b lo:Nat}{d:Array Int}(hb:b<bs.length){i j:Nat}(hi:i<d.size)(hj:j<d.size) :
 stv (Mz kd bs b d lo) (.ptr b i) (.d (.int kd d[j]!)) 1=some (.undef,Mz kd bs b (d.setIfInBounds i d[j]!) (min lo b)) ∧
 ∀ lo,stv (Mz kd bs b (d.setIfInBounds i d[j]!) lo) (.ptr b j) (.d (.int kd d[i]!)) 1=some (.undef,Mz kd bs b (swp d i j) (min lo b)) :=
 ⟨Qa hb hi,λlo=>Qa hb (by simpa using hj)⟩
theorem lh {kd:IntKind}{bs:List Blk}{b lo lo':Nat}{d d':Array Int}{r:V}(hb:b<bs.length)(hr:r.under bs.length=true)(hk:Kz b bs.length d lo' d') :
 ∃ lo2,gm (Mz kd bs b d lo) (some (r,Mz kd bs b d' lo'))=some (r,Mz kd bs b d' lo2)/\Kz b lo d lo2 d':=by
 have hl:(Mz kd bs b d lo).bs.length=bs.length:=by simp [Mz,Mr]
 rw [iQ];obtain hk | ⟨rfl,rfl⟩:=hk
 . rw [if_neg (λhh=>by have:=hh.1; rw [hl] at this; simp only [Mz,Mr] at this; omega)];exact ⟨min lo lo',rfl,.inl (by omega)⟩
 . rw [if_pos ⟨by rw [hl]; exact bp _,by rw [hl]; exact hr⟩];exact ⟨lo,rfl,.refl⟩
end
section
open Go.Sort (swp ltInt insInner insOuter insertionSort)
def dg6:List (Nat×QF):=[(123,Hf),(202,KZ),(203,UC),(204,UD),(205,BK),(206,UE),(207,UF),(209,UH),(210,OI),(266,UW),(269,UZ),(270,U0),(339,O0),(267,UX),(268,UY)]
def TS:FuncId->Option QF:=gM dg6
def aS (f:FuncId):Bool:=[267].any λn=>Nat.beq n f
theorem ai2:TS 202=some KZ:=by kernel_rfl
theorem as8:aS 202=false:=by kernel_rfl
theorem cr8:TS 208=none:=by kernel_rfl
section
variable {E:Calls'}(h334:∀ x y h,E 208 [.d (u32 x),.d (u32 y)] h=some (bl (ltInt x y),h))
include h334
theorem sJ (x y:Int)(h:Hp):Sm E TS aS 208 [.d (u32 x),.d (u32 y)] h=some (bl (ltInt x y),h):=by rw [aL cr8]; exact h334 x y h
theorem Np {bs:List Blk}{b:Nat}(hb:b<bs.length){n a:Nat}(hn:n<2 ^ 62)(ha:a<=n){cap:Option Nat}(t2 t6:V):∀ (m:Nat) (d:Array Int) (lo:Nat),m<n->d.size=n →
 ∃ lo',Cd E TS aS (.loop [0,1,2,6,7] lC) [(0,.row b 0 n cap 1),(1,.d (i64 a)),(2,t2),(6,t6),(7,.d (i64 m))] (Mz .u32 bs b d lo) =
  some (.exit 2,[(0,.row b 0 n cap 1),(1,.d (i64 a)),(2,t2),(6,t6)],Mz .u32 bs b (insInner ltInt a m d) lo')/\Kz b lo d lo' (insInner ltInt a m d)/\(insInner ltInt a m d).size=n:=by
 intro m;have key:=ak (E:=E) (T:=TS) (val:=aS) [0,1,2,6,7] lC;generalize Cd E TS aS (.loop [0,1,2,6,7] lC)=W at key ⊢
 induction m with
 | zero =>
  intro d lo hm hd;refine ⟨lo,?_,.refl,hd⟩;rw [key];simp +decide [lC,ay,bM,av,Tr.mute,insInner,show ¬ ((a:Int)<0) from by omega]
 | succ m ih =>
  intro d lo hm hd;have hw1:wrap .i64 (((m+1:Nat):Int)-1)=(m:Int):=by rw [wrap64]<;>omega
  have ix1:=λh=>gD (b:=b) (o:=0) (z:=1) (cap:=cap) (kd:=.i64) (h:=h) (show m+1<n by omega);have ix0:=λh=>gD (b:=b) (o:=0) (z:=1) (cap:=cap) (kd:=.i64) (h:=h) (show m<n by omega);simp only [Nat.zero_add,Nat.mul_one] at ix1 ix0;have l1:=bC (kd:=.u32) (lo:=lo) hb (d:=d) (i:=m+1) (by omega);have l0:=bC (kd:=.u32) (lo:=lo) hb (d:=d) (i:=m) (by omega);obtain ⟨st1,st2⟩:=eX (kd:=.u32) (lo:=lo) hb (d:=d) (i:=m+1) (j:=m) (by omega) (by omega);have q:=ih (swp d (m+1) m) (min (min lo b) b) (by omega) (by rw [bV]; exact hd);have c:=λh=>sJ h334 d[m+1]! d[m]! h;simp only [insInner];generalize hx:d[m+1]! = x at *;generalize hy:d[m]! = y at *;generalize d.setIfInBounds (m+1) y=d1 at *;generalize swp d (m+1) m=d2 at *;generalize hk:m+1=k at *;rw [key];generalize hM:Mz .u32 bs b d lo=M0 at *;generalize hM1:Mz .u32 bs b d1=M1 at *;by_cases c1:k>a
  . by_cases c2:ltInt x y=true
    . obtain ⟨lo',q1,q2,q3⟩:=q;refine ⟨lo',?_,?_,?_⟩
      . simp +decide [lC,ay,ae,av,Tr.mute,ix1,ix0,l1,l0,c,c1,c2,hw1,st1,st2,-aB,-aM];simpa using q1
      . have:Kz b lo d (min (min lo b) b) d2:=.inl (by omega);simpa [c1,c2] using this.trans q2
      . simpa [c1,c2] using q3
    . refine ⟨lo,?_,?_,?_⟩
      . simp +decide [lC,ay,ae,av,Tr.mute,ix1,ix0,l1,l0,c,c1,c2,hw1,hM,-aB,-aM]
      . simpa [c1,c2] using Kz.refl
      . simpa [c1,c2] using hd
  . refine ⟨lo,?_,?_,?_⟩
    . simp +decide [lC,ay,bM,av,Tr.mute,c1,hM,-aB,-aM]
    . simpa [c1] using Kz.refl
    . simpa [c1] using hd
theorem JZ {bs:List Blk}{b:Nat}(hb:b<bs.length){n a e:Nat}(hn:n<2 ^ 62)(ha:a<=n)(he:e<=n){cap:Option Nat}:∀ (m i:Nat) (d:Array Int) (lo:Nat),i+m=e\/(m=0/\e<=i)->i<2 ^ 62->d.size=n →
 ∃ lo',Cd E TS aS (.loop [0,1,2,6] nG) [(0,.row b 0 n cap 1),(1,.d (i64 a)),(2,.d (i64 e)),(6,.d (i64 i))] (Mz .u32 bs b d lo) =
  some (.exit 0,[],Mz .u32 bs b (insOuter ltInt a e i d) lo')/\Kz b lo d lo' (insOuter ltInt a e i d)/\(insOuter ltInt a e i d).size=n:=by
 intro m;have key:=ak (E:=E) (T:=TS) (val:=aS) [0,1,2,6] nG;have hin:=Np h334 hb hn ha (cap:=cap) (.d (i64 e));generalize Cd E TS aS (.loop [0,1,2,6] nG)=W at key ⊢
 induction m with
 | zero =>
  intro i d lo hi hi2 hd;have hu:insOuter ltInt a e i d=d:=by rw [insOuter,if_neg (by omega)]
  rw [hu];refine ⟨lo,?_,.refl,hd⟩;rw [key];simp [nG,show ¬ ((i:Int)<(e:Int)) from by omega]
 | succ m ih =>
  intro i d lo hi hi2 hd;have hlt:i<e:=by omega
  have hu:insOuter ltInt a e i d=insOuter ltInt a e (i+1) (insInner ltInt a i d):=by rw [insOuter,if_pos hlt]
  rw [hu];obtain ⟨lo1,a1,a2,a3⟩:=hin (.d (i64 i)) i d lo (by omega) hd;obtain ⟨lo',q1,q2,q3⟩:=ih (i+1) (insInner ltInt a i d) lo1 (by omega) (by omega) a3;have hw:wrap .i64 ((i:Int)+1)=((i+1:Nat):Int):=by rw [wrap64]<;>omega
  refine ⟨lo',?_,a2.trans q2,q3⟩;generalize insOuter ltInt a e (i+1) (insInner ltInt a i d)=D at *;generalize insInner ltInt a i d=d1 at *;generalize Mz .u32 bs b d lo=M0 at *;generalize Mz .u32 bs b d1 lo1=M1 at *;rw [key];simp [nG,show ((i:Int)<(e:Int)) from by omega];rw [aj];try simp at a1
  simp [a1,hw];simpa using q1
theorem bi9 {bs:List Blk}{b:Nat}(hb:b<bs.length){n a e:Nat}(hn:n<2 ^ 61)(ha:a<=n)(he:e<=n){cap:Option Nat}(d:Array Int)(lo:Nat)(hd:d.size=n) :
 ∃ lo',Sm E TS aS 202 [.row b 0 n cap 1,.d (i64 a),.d (i64 e)] (Mz .u32 bs b d lo)=some (.tup [],Mz .u32 bs b (insertionSort ltInt d a e) lo')/\Kz b lo d lo' (insertionSort ltInt d a e)/\(insertionSort ltInt d a e).size=n:=by
 have hw:wrap .i64 ((a:Int)+1)=((a+1:Nat):Int):=by rw [wrap64]<;>omega
 obtain ⟨lo1,q1,q2,q3⟩:=JZ h334 hb (by omega) ha he (cap:=cap) (e-(a+1)) (a+1) d (Mz .u32 bs b d lo).bs.length (by omega) (by omega) hd;have hl:(Mz .u32 bs b d lo).bs.length=bs.length:=by simp [Mz,Mr]
 rw [hl] at q1 q2;obtain ⟨lo2,r1,r2⟩:=lh (kd:=.u32) (lo:=lo) (r:=.tup []) hb rfl q2;refine ⟨lo2,?_,r2,q3⟩;have hM:(⟨(Mz .u32 bs b d lo).bs,bs.length⟩:Hp)=Mz .u32 bs b d bs.length:=rfl;rw [ax ai2 as8,hl,hM];refine Eq.trans ?_ r1
 congr 1
 generalize Mz .u32 bs b (insOuter ltInt a e (a+1) d) lo1=M1 at *;generalize Mz .u32 bs b d bs.length=M0 at *;simp [aa,KZ,hw];rw [aj];simp at q1;simp [q1];rfl
end
end
section
open Go.Sort (swp ltInt siftDown heapBuild heapPop heapSort)
@[simp] theorem au2 {k:IntKind}{a b:Int}:bQ .mul (.d (.int k a)) (.d (.int k b))=some (.int k (k.wrap (a * b))):=by simp [bQ,fH]
theorem cs3:TS 266=some UW:=by kernel_rfl
theorem dz5:aS 266=false:=by kernel_rfl
theorem cr3:TS 203=some UC:=by kernel_rfl
theorem dy9:aS 203=false:=by kernel_rfl
theorem xc {x y:Nat}{k:Nat}(h:x+y=k)(hk:k<2 ^ 62):wrap .i64 ((x:Int)+(y:Int))=(k:Int):=by rw [wrap64]<;>omega
theorem ib {x:Nat}{k:Nat}(h:x+1=k)(hk:k<2 ^ 62):wrap .i64 ((x:Int)+1)=(k:Int):=by rw [wrap64]<;>omega
theorem gN {x:Nat}{k:Nat}(h:x=k+1)(hk:k<2 ^ 62):wrap .i64 ((x:Int)-1)=(k:Int):=by rw [wrap64]<;>omega
theorem uL {x y:Nat}{k:Nat}(h:x=k+y)(hk:x<2 ^ 62):wrap .i64 ((x:Int)-(y:Int))=(k:Int):=by rw [wrap64]<;>omega
theorem ixz {b n i:Nat}{cap:Option Nat}{h:Hp}(hi:i<n):iB none 1 (.row b 0 n cap 1) (.d (.int .i64 i)) h=some (.ptr b i,h):=by
 have:=gD (b:=b) (o:=0) (z:=1) (cap:=cap) (kd:=.i64) (h:=h) hi;simpa using this
section
variable {E:Calls'}(h334:∀ x y h,E 208 [.d (u32 x),.d (u32 y)] h=some (bl (ltInt x y),h))
include h334
theorem H8 {bs:List Blk}{b:Nat}(hb:b<bs.length){n hi fi:Nat}(hn:n<2 ^ 60)(hf:fi+hi<=n){cap:Option Nat}:∀ (m root:Nat) (d:Array Int) (lo:Nat),hi-root<=m->root<=hi->d.size=n →
 ∃ lo' ex,(ex=Ex.exit 0\/ex=Ex.ret)/\Cd E TS aS (.loop [0,2,3,8] iq) [(0,.row b 0 n cap 1),(2,.d (i64 hi)),(3,.d (i64 fi)),(8,.d (i64 root))] (Mz .u32 bs b d lo) =
  some (ex,[],Mz .u32 bs b (siftDown ltInt hi fi root d) lo')/\Kz b lo d lo' (siftDown ltInt hi fi root d)/\(siftDown ltInt hi fi root d).size=n:=by
 intro m;have key:=ak (E:=E) (T:=TS) (val:=aS) [0,2,3,8] iq;generalize Cd E TS aS (.loop [0,2,3,8] iq)=W at key ⊢
 induction m with
 | zero =>
  intro root d lo hm hr hd;have hu:siftDown ltInt hi fi root d=d:=by rw [siftDown,dif_pos (by omega)]
  rw [hu];refine ⟨lo,.exit 0,.inl rfl,?_,.refl,hd⟩;have hw1:wrap .i64 (2 * (root:Int))=2 * (root:Int):=by rw [wrap64]<;>omega
  have hw2:wrap .i64 (2 * (root:Int)+1)=2 * (root:Int)+1:=by rw [wrap64]<;>omega
  rw [key];simp +decide [iq,hw1,hw2,show ((2:Int) * (root:Int)+1>=hi) from by omega]
 | succ m ih =>
  intro root d lo hm hr hd;have hw1:wrap .i64 (2 * (root:Int))=2 * (root:Int):=by rw [wrap64]<;>omega
  by_cases hlt:2 * root+1>=hi
  . have hu:siftDown ltInt hi fi root d=d:=by rw [siftDown,dif_pos hlt]
    rw [hu];refine ⟨lo,.exit 0,.inl rfl,?_,.refl,hd⟩;have hw2:wrap .i64 (2 * (root:Int)+1)=2 * (root:Int)+1:=by rw [wrap64]<;>omega
    rw [key];simp +decide [iq,hw1,hw2,show ((2:Int) * (root:Int)+1>=hi) from by omega]
  rw [siftDown,dif_neg hlt];obtain ⟨c,hc⟩:∃ c,c=2 * root+1:=⟨_,rfl⟩;have hw2:wrap .i64 (2 * (root:Int)+1)=(c:Int):=by rw [wrap64]<;>omega
  obtain ⟨k,hk⟩:∃ k,k=c+1:=⟨_,rfl⟩;have wk:=ib (x:=c) hk.symm (by omega);obtain ⟨fr,hfr⟩:∃ k,k=fi+root:=⟨_,rfl⟩;obtain ⟨fc,hfc⟩:∃ k,k=fi+c:=⟨_,rfl⟩;obtain ⟨fk,hfk⟩:∃ j,j=fi+k:=⟨_,rfl⟩;have wfr:=xc (x:=fi) (y:=root) hfr.symm (by omega);have wfc:=xc (x:=fi) (y:=c) hfc.symm (by omega);have wfk:=xc (x:=fi) (y:=k) hfk.symm (by omega);have wfk2:=ib (x:=fc) (k:=fk) (by omega) (by omega);rw [show fi+(2 * root+1)+1=fk by omega,show 2 * root+1+1=k by omega,show fi+k=fk by omega,show 2 * root+1=c by omega,show fi+c=fc by omega,show fi+root=fr by omega];have ixr:=λh=>ixz (b:=b) (n:=n) (cap:=cap) (h:=h) (i:=fr) (by omega);have ixc:=λh=>ixz (b:=b) (n:=n) (cap:=cap) (h:=h) (i:=fc) (by omega);have lr:=bC (kd:=.u32) (lo:=lo) hb (d:=d) (i:=fr) (by omega);have lc:=bC (kd:=.u32) (lo:=lo) hb (d:=d) (i:=fc) (by omega);have cz:=λx y h=>sJ h334 x y h;have hcl:¬ (c:Int)>=hi:=by omega
  by_cases hkh:k<hi
  . have ixk:=λh=>ixz (b:=b) (n:=n) (cap:=cap) (h:=h) (i:=fk) (by omega);have lk:=bC (kd:=.u32) (lo:=lo) hb (d:=d) (i:=fk) (by omega);have hkl:(k:Int)<hi:=by omega
    by_cases c1:ltInt d[fc]! d[fk]! = true
    . rw [if_pos (by simp [hkh,c1])];by_cases c2:ltInt d[fr]! d[fk]! = true
      . rw [if_neg (by simp [c2]),dif_pos hkh];obtain ⟨st1,st2⟩:=eX (kd:=.u32) (lo:=lo) hb (d:=d) (i:=fr) (j:=fk) (by omega) (by omega);obtain ⟨lo',ex,hex,q1,q2,q3⟩:=ih k (swp d fr fk) (min (min lo b) b) (by omega) (by omega) (by rw [bV]; exact hd);have hK:Kz b lo d (min (min lo b) b) (swp d fr fk):=.inl (by omega);refine ⟨lo',ex,hex,?_,hK.trans q2,q3⟩;generalize siftDown ltInt hi fi k (swp d fr fk)=D at *;generalize d[fr]! = x at *;generalize d[fk]! = y at *;generalize d[fc]! = z at *;generalize d.setIfInBounds fr y=d1 at *;generalize swp d fr fk=d2 at *;generalize Mz .u32 bs b d lo=M0 at *;rw [key];generalize hM1:Mz .u32 bs b d1=M1 at *;simp +decide [iq,ay,ae,av,Tr.mute,hw1,hw2,wk,wfr,wfc,wfk,wfk2,ixr,ixc,ixk,lr,lc,lk,cz,c1,c2,hcl,hkl,st1,st2,-aB,-aM];simpa using q1
      . rw [if_pos (by simp [c2])];refine ⟨lo,.ret,.inr rfl,?_,.refl,hd⟩;generalize d[fr]! = x at *;generalize d[fk]! = y at *;generalize d[fc]! = z at *;generalize Mz .u32 bs b d lo=M0 at *;rw [key];simp +decide [iq,ay,ae,av,Tr.mute,hw1,hw2,wk,wfr,wfc,wfk,wfk2,ixr,ixc,ixk,lr,lc,lk,cz,c1,c2,hcl,hkl,-aB,-aM]
    . rw [if_neg (by simp [c1])];by_cases c2:ltInt d[fr]! d[fc]! = true
      . rw [if_neg (by simp [c2])];obtain ⟨st1,st2⟩:=eX (kd:=.u32) (lo:=lo) hb (d:=d) (i:=fr) (j:=fc) (by omega) (by omega);obtain ⟨lo',ex,hex,q1,q2,q3⟩:=ih c (swp d fr fc) (min (min lo b) b) (by omega) (by omega) (by rw [bV]; exact hd);have hK:Kz b lo d (min (min lo b) b) (swp d fr fc):=.inl (by omega);refine ⟨lo',ex,hex,?_,hK.trans q2,q3⟩;generalize siftDown ltInt hi fi c (swp d fr fc)=D at *;generalize d[fr]! = x at *;generalize d[fk]! = y at *;generalize d[fc]! = z at *;generalize d.setIfInBounds fr z=d1 at *;generalize swp d fr fc=d2 at *;generalize Mz .u32 bs b d lo=M0 at *;rw [key];generalize hM1:Mz .u32 bs b d1=M1 at *;simp +decide [iq,ay,ae,av,Tr.mute,hw1,hw2,wk,wfr,wfc,wfk2,ixr,ixc,ixk,lr,lc,lk,cz,c1,c2,hcl,hkl,st1,st2,-aB,-aM];simpa using q1
      . rw [if_pos (by simp [c2])];refine ⟨lo,.ret,.inr rfl,?_,.refl,hd⟩;generalize d[fr]! = x at *;generalize d[fk]! = y at *;generalize d[fc]! = z at *;generalize Mz .u32 bs b d lo=M0 at *;rw [key];simp +decide [iq,ay,ae,av,Tr.mute,hw1,hw2,wk,wfr,wfc,wfk2,ixr,ixc,ixk,lr,lc,lk,cz,c1,c2,hcl,hkl,-aB,-aM]
  . rw [if_neg (by simp [hkh])];have hkl:¬ (k:Int)<hi:=by omega
    by_cases c2:ltInt d[fr]! d[fc]! = true
    . rw [if_neg (by simp [c2])];obtain ⟨st1,st2⟩:=eX (kd:=.u32) (lo:=lo) hb (d:=d) (i:=fr) (j:=fc) (by omega) (by omega);obtain ⟨lo',ex,hex,q1,q2,q3⟩:=ih c (swp d fr fc) (min (min lo b) b) (by omega) (by omega) (by rw [bV]; exact hd);have hK:Kz b lo d (min (min lo b) b) (swp d fr fc):=.inl (by omega);refine ⟨lo',ex,hex,?_,hK.trans q2,q3⟩;generalize siftDown ltInt hi fi c (swp d fr fc)=D at *;generalize d[fr]! = x at *;generalize d[fc]! = z at *;generalize d.setIfInBounds fr z=d1 at *;generalize swp d fr fc=d2 at *;generalize Mz .u32 bs b d lo=M0 at *;rw [key];generalize hM1:Mz .u32 bs b d1=M1 at *;simp +decide [iq,ay,ae,bM,av,Tr.mute,hw1,hw2,wk,wfr,wfc,ixr,ixc,lr,lc,cz,c2,hcl,hkl,st1,st2,-aB,-aM];simpa using q1
    . rw [if_pos (by simp [c2])];refine ⟨lo,.ret,.inr rfl,?_,.refl,hd⟩;generalize d[fr]! = x at *;generalize d[fc]! = z at *;generalize Mz .u32 bs b d lo=M0 at *;rw [key];simp +decide [iq,ay,ae,bM,av,Tr.mute,hw1,hw2,wk,wfr,wfc,ixr,ixc,lr,lc,cz,c2,hcl,hkl,-aB,-aM]
theorem Xy {bs:List Blk}{b:Nat}(hb:b<bs.length){n hi fi root:Nat}(hn:n<2 ^ 60)(hf:fi+hi<=n)(hr:root<=hi){cap:Option Nat}(d:Array Int)(lo:Nat)(hd:d.size=n) :
 ∃ lo',Sm E TS aS 266 [.row b 0 n cap 1,.d (i64 root),.d (i64 hi),.d (i64 fi)] (Mz .u32 bs b d lo)=some (.tup [],Mz .u32 bs b (siftDown ltInt hi fi root d) lo')/\Kz b lo d lo' (siftDown ltInt hi fi root d)/\(siftDown ltInt hi fi root d).size=n:=by
 obtain ⟨lo1,ex,hex,q1,q2,q3⟩:=H8 h334 hb hn hf (cap:=cap) (hi-root) root d bs.length (bp _) hr hd;have hl:(Mz .u32 bs b d lo).bs.length=bs.length:=by simp [Mz,Mr]
 obtain ⟨lo2,r1,r2⟩:=lh (kd:=.u32) (lo:=lo) (r:=.tup []) hb rfl q2;refine ⟨lo2,?_,r2,q3⟩;have hM:(⟨(Mz .u32 bs b d lo).bs,bs.length⟩:Hp)=Mz .u32 bs b d bs.length:=rfl;rw [ax cs3 dz5,hl,hM];refine Eq.trans ?_ r1
 congr 1
 generalize Mz .u32 bs b (siftDown ltInt hi fi root d) lo1=M1 at *;generalize Mz .u32 bs b d bs.length=M0 at *;simp [aa,UW];rw [aj];try simp at q1
 obtain rfl | rfl:=hex<;>(simp [q1]; rfl)
end
end
section
open Go.Sort (swp ltInt siftDown heapBuild heapPop heapSort reverseLoop reverseRange)
theorem cr6:TS 206=some UE:=by kernel_rfl
theorem dz2:aS 206=false:=by kernel_rfl
theorem QO {k:Nat}(hk:k<2 ^ 62):wrap .i64 ((k:Int)-1)=(k:Int)-1:=by rw [wrap64]<;>omega
theorem rR {x y z:Nat}(hy:0<y)(hz:x / y=z)(hx:x<2 ^ 62):bQ .quo (.d (.int .i64 x)) (.d (.int .i64 y))=some (.int .i64 z):=by
 have hle:x / y<=x:=Nat.div_le_self x y;have h1:(x:Int).tdiv (y:Int)=(z:Int):=by
  rw [Int.tdiv_eq_ediv_of_nonneg (by omega),← hz];exact (Int.natCast_ediv x y).symm
 simp only [bQ,if_true,fH];rw [if_neg (by omega),h1,wrap64]<;>omega
section
variable {E:Calls'}(h334:∀ x y h,E 208 [.d (u32 x),.d (u32 y)] h=some (bl (ltInt x y),h))
include h334
theorem Nl {bs:List Blk}{b:Nat}(hb:b<bs.length){n hi fi:Nat}(hn:n<2 ^ 60)(hf:fi+hi<=n){cap:Option Nat}(t7:V):∀ (k:Nat) (d:Array Int) (lo:Nat),k<=hi+1->d.size=n →
 ∃ lo',Cd E TS aS (.loop [0,6,7,8,9] pM) [(0,.row b 0 n cap 1),(6,.d (i64 fi)),(7,t7),(8,.d (i64 hi)),(9,.d (i64 ((k:Int)-1)))] (Mz .u32 bs b d lo) =
  some (.exit 0,[(0,.row b 0 n cap 1),(6,.d (i64 fi)),(7,t7),(8,.d (i64 hi))],Mz .u32 bs b (heapBuild ltInt hi fi k d) lo')/\Kz b lo d lo' (heapBuild ltInt hi fi k d)/\(heapBuild ltInt hi fi k d).size=n:=by
 intro k;have key:=ak (E:=E) (T:=TS) (val:=aS) [0,6,7,8,9] pM;generalize Cd E TS aS (.loop [0,6,7,8,9] pM)=W at key ⊢
 induction k with
 | zero =>
  intro d lo hk hd;refine ⟨lo,?_,.refl,hd⟩;rw [key];simp +decide [pM,heapBuild]
 | succ k ih =>
  intro d lo hk hd;obtain ⟨lo1,a1,a2,a3⟩:=Xy h334 hb hn hf (root:=k) (by omega) (cap:=cap) d lo hd;obtain ⟨lo',q1,q2,q3⟩:=ih (siftDown ltInt hi fi k d) lo1 (by omega) a3;have hw:=QO (k:=k) (by omega);have hkk:((k+1:Nat):Int)-1=(k:Int):=by omega
  rw [hkk];refine ⟨lo',?_,a2.trans q2,q3⟩;show W _ _=some (_,_,Mz .u32 bs b (heapBuild ltInt hi fi k (siftDown ltInt hi fi k d)) lo');generalize heapBuild ltInt hi fi k (siftDown ltInt hi fi k d)=D at *;generalize siftDown ltInt hi fi k d=d1 at *;generalize Mz .u32 bs b d1 lo1=M1 at *;generalize Mz .u32 bs b d lo=M0 at *;rw [key];simp [pM,a1,hw,show ((k:Int)>=0) from by omega];simpa using q1
theorem Nn {bs:List Blk}{b:Nat}(hb:b<bs.length){n fi:Nat}(hn:n<2 ^ 60){cap:Option Nat}:∀ (k:Nat) (d:Array Int) (lo:Nat),fi+k<=n->d.size=n →
 ∃ lo',Cd E TS aS (.loop [0,6,7,10] pO) [(0,.row b 0 n cap 1),(6,.d (i64 fi)),(7,.d (i64 0)),(10,.d (i64 ((k:Int)-1)))] (Mz .u32 bs b d lo) =
  some (.exit 2,[],Mz .u32 bs b (heapPop ltInt fi k d) lo')/\Kz b lo d lo' (heapPop ltInt fi k d)/\(heapPop ltInt fi k d).size=n:=by
 intro k;have key:=ak (E:=E) (T:=TS) (val:=aS) [0,6,7,10] pO;generalize Cd E TS aS (.loop [0,6,7,10] pO)=W at key ⊢
 induction k with
 | zero =>
  intro d lo hk hd;refine ⟨lo,?_,.refl,hd⟩;rw [key];simp +decide [pO,heapPop]
 | succ k ih =>
  intro d lo hk hd;obtain ⟨fk,hfk⟩:∃ j,j=fi+k:=⟨_,rfl⟩;have wfk:=xc (x:=fi) (y:=k) hfk.symm (by omega);have ixf:=λh=>ixz (b:=b) (n:=n) (cap:=cap) (h:=h) (i:=fi) (by omega);have ixk:=λh=>ixz (b:=b) (n:=n) (cap:=cap) (h:=h) (i:=fk) (by omega);have lf:=bC (kd:=.u32) (lo:=lo) hb (d:=d) (i:=fi) (by omega);have lk:=bC (kd:=.u32) (lo:=lo) hb (d:=d) (i:=fk) (by omega);obtain ⟨st1,st2⟩:=eX (kd:=.u32) (lo:=lo) hb (d:=d) (i:=fi) (j:=fk) (by omega) (by omega);have a:=λlo=>Xy h334 hb hn (hi:=k) (fi:=fi) (root:=0) (by omega) (Nat.zero_le _) (cap:=cap) (swp d fi fk) lo (by rw [bV]; exact hd);obtain ⟨lo1,a1,a2,a3⟩:=a (min lo b);obtain ⟨lo',q1,q2,q3⟩:=ih (siftDown ltInt k fi 0 (swp d fi fk)) lo1 (by omega) a3;have hw:=QO (k:=k) (by omega);have hkk:((k+1:Nat):Int)-1=(k:Int):=by omega
  have hK:Kz b lo d (min lo b) (swp d fi fk):=.inl (by omega);rw [hkk];simp only [heapPop];rw [← hfk];refine ⟨lo',?_,hK.trans (a2.trans q2),q3⟩;generalize heapPop ltInt fi k (siftDown ltInt k fi 0 (swp d fi fk))=D at *;generalize siftDown ltInt k fi 0 (swp d fi fk)=d2 at *;generalize d[fi]! = x at *;generalize d[fk]! = y at *;generalize d.setIfInBounds fi y=d1 at *;generalize swp d fi fk=d3 at *;generalize Mz .u32 bs b d lo=M0 at *;generalize Mz .u32 bs b d2 lo1=M2 at *;rw [key];generalize hM1:Mz .u32 bs b d1=M1 at *;simp at a1;simp +decide [pO,ixf,ixk,lf,lk,st1,st2,a1,hw,wfk,show ((k:Int)>=0) from by omega,-aB,-aM];simpa using q1
theorem bj0 {bs:List Blk}{b:Nat}(hb:b<bs.length){n a e:Nat}(hn:n<2 ^ 60)(ha:a<e)(he:e<=n){cap:Option Nat}(d:Array Int)(lo:Nat)(hd:d.size=n) :
 ∃ lo',Sm E TS aS 203 [.row b 0 n cap 1,.d (i64 a),.d (i64 e)] (Mz .u32 bs b d lo)=some (.tup [],Mz .u32 bs b (heapSort ltInt d a e) lo')/\Kz b lo d lo' (heapSort ltInt d a e)/\(heapSort ltInt d a e).size=n:=by
 obtain ⟨hi,hhi⟩:∃ j,j=e-a:=⟨_,rfl⟩;obtain ⟨h1,hh1⟩:∃ j,hi=j+1:=⟨hi-1,by omega⟩;obtain ⟨m,hm⟩:∃ j,h1 / 2=j:=⟨_,rfl⟩;have w1:=uL (x:=e) (y:=a) (k:=hi) (by omega) (by omega);have w2:=gN (x:=hi) (k:=h1) hh1 (by omega);have w3:bQ .quo (.d (.int .i64 h1)) (.d (.int .i64 2))=some (.int .i64 m):=rR (x:=h1) (y:=2) (z:=m) (by decide) hm (by omega);obtain ⟨lo1,a1,a2,a3⟩:=Nl h334 hb hn (hi:=hi) (fi:=a) (by omega) (cap:=cap) (.d (i64 0)) (m+1) d bs.length (by omega) hd;obtain ⟨lo2,c1,c2,c3⟩:=Nn h334 hb hn (fi:=a) (cap:=cap) hi (heapBuild ltInt hi a (m+1) d) lo1 (by omega) a3;have hS:heapSort ltInt d a e=heapPop ltInt a hi (heapBuild ltInt hi a (m+1) d):=by
  unfold heapSort;rw [← hhi,show (hi-1) / 2+1=m+1 by omega]
 have hl:(Mz .u32 bs b d lo).bs.length=bs.length:=by simp [Mz,Mr]
 rw [hS];obtain ⟨lo3,r1,r2⟩:=lh (kd:=.u32) (lo:=lo) (r:=.tup []) hb rfl (a2.trans c2);refine ⟨lo3,?_,r2,c3⟩;have hM:(⟨(Mz .u32 bs b d lo).bs,bs.length⟩:Hp)=Mz .u32 bs b d bs.length:=rfl;rw [ax cr3 dy9,hl,hM];refine Eq.trans ?_ r1
 congr 1
 generalize heapPop ltInt a hi (heapBuild ltInt hi a (m+1) d)=D at *;generalize heapBuild ltInt hi a (m+1) d=d1 at *;generalize Mz .u32 bs b D lo2=M2 at *;generalize Mz .u32 bs b d1 lo1=M1 at *;generalize Mz .u32 bs b d bs.length=M0 at *;rw [show ((m+1:Nat):Int)-1=(m:Int) by omega] at a1;rw [show ((hi:Nat):Int)-1=(h1:Int) by omega] at c1;simp [aa,UC,w1,w2,w3];rw [aj];try simp at a1 c1
 simp [a1,w2];rw [aj];simp [c1];rfl
omit h334 in
theorem Le {bs:List Blk}{b:Nat}(hb:b<bs.length){n:Nat}(hn:n<2 ^ 60){cap:Option Nat}:∀ (m i j:Nat) (d:Array Int) (lo:Nat),j-i<=m->j<n->d.size=n →
 ∃ lo',Cd E TS aS (.loop [0,6,7] nH) [(0,.row b 0 n cap 1),(6,.d (i64 i)),(7,.d (i64 j))] (Mz .u32 bs b d lo) =
  some (.exit 0,[],Mz .u32 bs b (reverseLoop i j d) lo')/\Kz b lo d lo' (reverseLoop i j d)/\(reverseLoop i j d).size=n:=by
 intro m;have key:=ak (E:=E) (T:=TS) (val:=aS) [0,6,7] nH;generalize Cd E TS aS (.loop [0,6,7] nH)=W at key ⊢
 induction m with
 | zero =>
  intro i j d lo hm hj hd;have hu:reverseLoop i j d=d:=by rw [reverseLoop,if_neg (by omega)]
  rw [hu];refine ⟨lo,?_,.refl,hd⟩;rw [key];simp +decide [nH,show ¬ ((i:Int)<(j:Int)) from by omega]
 | succ m ih =>
  intro i j d lo hm hj hd;by_cases hlt:i<j
  . have hu:reverseLoop i j d=reverseLoop (i+1) (j-1) (swp d i j):=by rw [reverseLoop,if_pos hlt]
    rw [hu];obtain ⟨j1,hj1⟩:∃ k,j=k+1:=⟨j-1,by omega⟩;have wi:=ib (x:=i) (k:=i+1) rfl (by omega);have wj:=gN (x:=j) (k:=j1) hj1 (by omega);have ixi:=λh=>ixz (b:=b) (n:=n) (cap:=cap) (h:=h) (i:=i) (by omega);have ixj:=λh=>ixz (b:=b) (n:=n) (cap:=cap) (h:=h) (i:=j) (by omega);have li:=bC (kd:=.u32) (lo:=lo) hb (d:=d) (i:=i) (by omega);have lj:=bC (kd:=.u32) (lo:=lo) hb (d:=d) (i:=j) (by omega);obtain ⟨st1,st2⟩:=eX (kd:=.u32) (lo:=lo) hb (d:=d) (i:=i) (j:=j) (by omega) (by omega);rw [show j-1=j1 by omega];obtain ⟨lo',q1,q2,q3⟩:=ih (i+1) j1 (swp d i j) (min (min lo b) b) (by omega) (by omega) (by rw [bV]; exact hd);have hK:Kz b lo d (min (min lo b) b) (swp d i j):=.inl (by omega);refine ⟨lo',?_,hK.trans q2,q3⟩;generalize reverseLoop (i+1) j1 (swp d i j)=D at *;generalize d[i]! = x at *;generalize d[j]! = y at *;generalize d.setIfInBounds i y=d1 at *;generalize swp d i j=d3 at *;generalize Mz .u32 bs b d lo=M0 at *;rw [key];generalize hM1:Mz .u32 bs b d1=M1 at *;generalize hi1:i+1=i1 at *;simp +decide [nH,ixi,ixj,li,lj,st1,st2,wi,wj,show ((i:Int)<(j:Int)) from by omega,-aB,-aM];simpa using q1
  . have hu:reverseLoop i j d=d:=by rw [reverseLoop,if_neg hlt]
    rw [hu];refine ⟨lo,?_,.refl,hd⟩;rw [key];simp +decide [nH,show ¬ ((i:Int)<(j:Int)) from by omega]
omit h334 in
theorem bj3 {bs:List Blk}{b:Nat}(hb:b<bs.length){n a e:Nat}(hn:n<2 ^ 60)(ha:a<e)(he:e<=n){cap:Option Nat}(d:Array Int)(lo:Nat)(hd:d.size=n) :
 ∃ lo',Sm E TS aS 206 [.row b 0 n cap 1,.d (i64 a),.d (i64 e)] (Mz .u32 bs b d lo)=some (.tup [],Mz .u32 bs b (reverseRange d a e) lo')/\Kz b lo d lo' (reverseRange d a e)/\(reverseRange d a e).size=n:=by
 obtain ⟨e1,he1⟩:∃ k,e=k+1:=⟨e-1,by omega⟩;have we:=gN (x:=e) (k:=e1) he1 (by omega);obtain ⟨lo1,q1,q2,q3⟩:=Le (E:=E) hb hn (cap:=cap) (e1-a) a e1 d bs.length (bp _) (by omega) hd;have hS:reverseRange d a e=reverseLoop a e1 d:=by unfold reverseRange; rw [show e-1=e1 by omega]
 rw [hS];have hl:(Mz .u32 bs b d lo).bs.length=bs.length:=by simp [Mz,Mr]
 obtain ⟨lo2,r1,r2⟩:=lh (kd:=.u32) (lo:=lo) (r:=.tup []) hb rfl q2;refine ⟨lo2,?_,r2,q3⟩;have hM:(⟨(Mz .u32 bs b d lo).bs,bs.length⟩:Hp)=Mz .u32 bs b d bs.length:=rfl;rw [ax cr6 dz2,hl,hM];refine Eq.trans ?_ r1
 congr 1
 generalize Mz .u32 bs b (reverseLoop a e1 d) lo1=M1 at *;generalize Mz .u32 bs b d bs.length=M0 at *;simp [aa,UE,we];rw [aj];try simp at q1
 simp [q1];rfl
end
end
