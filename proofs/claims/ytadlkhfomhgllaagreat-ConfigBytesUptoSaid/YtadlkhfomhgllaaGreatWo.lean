/- config.without, config.with: at any width. -/
import Derived.Test.YtadlkhfomhgllaaGreatCf
set_option maxRecDepth 100000
set_option linter.unusedVariables false
set_option linter.unusedSimpArgs false
namespace Go.Proofs.YtadlkhfomhgllaaGreat
open IntKind (wrap)
section
end
section
end
section
end
section
def Yy:List V:=[(.d (.int .u64 0)),(.d (.str ⟨#[]⟩)),(.d (.int .u32 0)),(.d (.int .i64 0)),(.d (.int .u64 0))]
def Y0:List V:=[(.d (.int .u64 0)),(.d (.int .i64 0))]
def WI:List V:=[(.d (.int .u64 0)),(.d (.str ⟨#[]⟩)),(.d (.int .u64 0)),(.d (.int .i64 0)),(.d (.slice true []))]
end
section
structure Edt where
 kind:Int
 id:Int
 pod:Pod
 svc:Svc
 way:Way
 pol:Pol
def Edt.c (e:Edt):List D:=[i64 e.kind,u64 e.id]++e.pod.c++e.svc.c++e.way.c++e.pol.c
@[simp] theorem Edt.len {x:Edt}:x.c.length=21:=(rfl)
@[simp] theorem Edt.all {x:Edt}:sub x.c 0 21=some x.c:=(rfl)
@[simp] theorem Edt.s0_1 {x:Edt}:sub x.c 0 1=some [i64 x.kind]:=(rfl)
@[simp] theorem Edt.s1_1 {x:Edt}:sub x.c 1 1=some [u64 x.id]:=(rfl)
@[simp] theorem Edt.s2_7 {x:Edt}:sub x.c 2 7=some x.pod.c:=(rfl)
@[simp] theorem Edt.s9_5 {x:Edt}:sub x.c 9 5=some x.svc.c:=(rfl)
@[simp] theorem Edt.s14_2 {x:Edt}:sub x.c 14 2=some x.way.c:=(rfl)
@[simp] theorem Edt.s16_5 {x:Edt}:sub x.c 16 5=some x.pol.c:=(rfl)
@[simp] theorem Edt.s5_1 {x:Edt}:sub x.c 5 1=some [i64 x.pod.host]:=(rfl)
@[simp] theorem Edt.s6_1 {x:Edt}:sub x.c 6 1=some [u32 x.pod.addr]:=(rfl)
theorem Cfg.p0 {x:Cfg}{n:Int}:put (x.c.map V.d) 0 [.d (u64 n)]=some (({ x with epoch:=n }:Cfg).c.map V.d):=(rfl)
theorem Cfg.p1 {x:Cfg}{n:Int}:put (x.c.map V.d) 1 [.d (u64 n)]=some (({ x with next:=n }:Cfg).c.map V.d):=(rfl)
theorem Cfg.p4 {x:Cfg}{s:Sl Pod}:put (x.c.map V.d) 4 [.d (s.d Pod.c)]=some (({ x with pods:=s }:Cfg).c.map V.d):=(rfl)
theorem Cfg.p5 {x:Cfg}{s:Sl Svc}:put (x.c.map V.d) 5 [.d (s.d Svc.c)]=some (({ x with services:=s }:Cfg).c.map V.d):=(rfl)
theorem Cfg.p6 {x:Cfg}{s:Sl Way}:put (x.c.map V.d) 6 [.d (s.d Way.c)]=some (({ x with bound:=s }:Cfg).c.map V.d):=(rfl)
theorem Cfg.p7 {x:Cfg}{s:Sl Pol}:put (x.c.map V.d) 7 [.d (s.d Pol.c)]=some (({ x with policies:=s }:Cfg).c.map V.d):=(rfl)
theorem Pod.p0 {x:Pod}{n:Int}:put (x.c.map V.d) 0 [.d (u64 n)]=some (({ x with uid:=n }:Pod).c.map V.d):=(rfl)
theorem Pod.p3 {x:Pod}{n:Int}:put (x.c.map V.d) 3 [.d (i64 n)]=some (({ x with host:=n }:Pod).c.map V.d):=(rfl)
theorem Pod.p4 {x:Pod}{n:Int}:put (x.c.map V.d) 4 [.d (u32 n)]=some (({ x with addr:=n }:Pod).c.map V.d):=(rfl)
end
section
end
section
end
section
def Cfg.own (c:Cfg):Cfg:={ c with policies:=⟨c.policies.nl,c.policies.l.map Pol.own⟩ }
end
section
def Edt.wf (B:Nat)(e:Edt):Prop:=Inr .i64 e.kind/\Inr .u64 e.id/\e.pod.wf B/\e.svc.wf B/\e.way.wf B/\e.pol.wf B
def cfg0:Cfg:=⟨0,0,0,0,⟨true,[]⟩,⟨true,[]⟩,⟨true,[]⟩,⟨true,[]⟩⟩
end
section
def bQ (hosts ways:Int):Cfg:=⟨1,10,hosts,ways,⟨true,[]⟩,⟨true,[]⟩,⟨true,[]⟩,⟨true,[]⟩⟩
def lT (hosts ways:Int):Cfg×Int:=if kP (bQ hosts ways)=true then (bQ hosts ways,0) else (cfg0,1)
section
variable {E:Calls'}(h385:∀ t:Target,t.wf big->∀ h,E 222 [ag t.c] h=some (bl (aT t),h))
theorem lW {B:Nat}{a b:Int}(ha:Inr .i64 a)(hb:Inr .i64 b):(bQ a b).wf B :=
 ⟨(by unfold Inr; decide:Inr .u64 1),(by unfold Inr; decide:Inr .u64 10),ha,hb,⟨⟨Nat.zero_le _,λ_=>rfl⟩,by simp [bQ]⟩,⟨⟨Nat.zero_le _,λ_=>rfl⟩,by simp [bQ]⟩,⟨⟨Nat.zero_le _,λ_=>rfl⟩,by simp [bQ]⟩,⟨⟨Nat.zero_le _,λ_=>rfl⟩,by simp [bQ]⟩⟩
include h385 in
theorem S40 (a b:Int)(ha:Inr .i64 a)(hb:Inr .i64 b)(h:Hp):Sm E TT aj 17 [.d (i64 a),.d (i64 b)] h=some (.tup [ag (lT a b).1.c,.d (i64 (lT a b).2)],h):=by
 have n93:=λh=>S93 h385 (bQ a b) (lW ha hb) (lW ha hb) h;have hcm:[V.d (.int .u64 1),V.d (.int .u64 10),V.d (i64 a),V.d (i64 b),V.d (.slice true []),V.d (.slice true []),V.d (.slice true []),V.d (.slice true [])]=(bQ a b).c.map V.d:=rfl;have hz:ag [(.int .u64 0),(.int .u64 0),(.int .i64 0),(.int .i64 0),(.slice true []),(.slice true []),(.slice true []),(.slice true [])]=ag cfg0.c:=rfl;rw [aY t40 v40];cases hm:kP (bQ a b) with
 | false =>
  simp only [hm] at n93;have:lT a b=(cfg0,1):=by simp [lT,hm]
  rw [this];simp +decide [ae,q40,az,hcm,n93,hz]
 | true =>
  simp only [hm] at n93;have:lT a b=(bQ a b,0):=by simp [lT,hm]
  rw [this];simp +decide [ae,q40,az,hcm,n93]
theorem nD {h:Hp}{k b o n z:Nat}{cap:Option Nat}{d:D}(hd:dataV h (k+1) (.row b o n cap z)=some d):∃ l,d=.slice false l:=by
 simp only [dataV] at hd;split at hd
 . split at hd
   . split at hd
     . cases hd; exact ⟨_,rfl⟩
     . cases hd
   . cases hd
 . cases hd
theorem Bj {h:Hp}{r:V}{b:Bool}(hr:frz h r=some (bl b)):r=bl b:=by
 cases r with
 | d x=>simpa using hr
 | row b' o n cap z =>
  exfalso;simp only [frz,dh] at hr;cases hd:dataV h 8 (.row b' o n cap z) with
  | none=>rw [hd] at hr; cases hr
  | some d =>
   rw [hd] at hr;obtain ⟨l,rfl⟩:=nD hd;cases hr
 | ptr b' o=>simp [frz,dh,dataV] at hr
 | eptr cs o=>simp [frz,dh,dataV] at hr
 | undef=>simp [frz,dh] at hr
 | fn f cs=>cases cs<;>simp [frz,dh] at hr
 | mfn f cs=>simp [frz,dh,dataV] at hr
 | agg cs =>
  simp only [frz,dh] at hr;split at hr<;>cases hr
 | tup vs =>
  simp only [frz] at hr;split at hr<;>cases hr
theorem vP {T:FuncId->Option QF}{val:FuncId->Bool}{f:FuncId}{q:QF}(ht:T f=some q)(hv:val f=true){l:List D}{b:Bool}(h0:∀ h,Sm E T val f [ag l] h=some (bl b,h)){a:V}{h:Hp}(ha:frz h a=some (ag l)):Sm E T val f [a] h=some (bl b,h):=by
 have h1:=h0 h;rw [aY ht hv] at h1 ⊢;simp only [List.mapM_cons,List.mapM_nil,qp,ha,Option.pure_def,Option.bind_eq_bind,Option.bind_some,qQ,Cx] at h1 ⊢;cases hB:Bd E T val q [ag l] ⟨[],0⟩ with
 | none=>rw [hB] at h1; cases h1
 | some p =>
  obtain ⟨r,h'⟩:=p;rw [hB] at h1;simp only [El] at h1 ⊢;cases hr:frz h' r with
  | none=>rw [hr] at h1; cases h1
  | some r' =>
   rw [hr] at h1;have e1:r'=bl b:=by
    simp at h1; exact h1
   subst e1;have:=Bj hr;subst this;simp [ownR,rV,lS]
end
end
section
end
section
section
variable {E:Calls'}{T:FuncId->Option QF}{val:FuncId->Bool}
theorem Jc {α:Type}{cells:α->List D}{z:Nat}(hz:∀ x,(cells x).length=z)(hz0:0<z){k:EQ}{p:α->α->Bool}{s t:Sl α}(hl:s.l.length=t.l.length)(hs:s.l.length<2 ^ 62)
 (he:∀ x y h,eqv k true (ag (cells x)) (ag (cells y)) h=some (.d (.bool (p x y != true)),h)) (h:Hp):∀ (m i:Nat),i+m=s.l.length →
   Cd E T val (.loop [0,1,12,13] (De z k)) [(0,.d (s.d cells)),(1,.d (t.d cells)),(12,.d (i64 s.l.length)),(13,.d (i64 i))] h =
    if all2 p (s.l.drop i) (t.l.drop i) then some (.exit 0,[],h) else some (.ret,[(4,bl false)],h):=by
 intro m;have key:=aB (E:=E) (T:=T) (val:=val) [0,1,12,13] (De z k);generalize Cd E T val (.loop [0,1,12,13] (De z k))=W at key ⊢
 induction m with
 | zero =>
  intro i hi;rw [key,aw (by omega),aw (by omega)];simp [De,all2,show ¬ ((i:Int)<s.l.length) from by omega]
 | succ m ih =>
  intro i hi;have h1:i<s.l.length:=by omega
  have h2:i<t.l.length:=by omega
  have hx:=λh=>aA (z:=z) h (ab h1) (hz _);have hy:=λh=>aA (z:=z) h (ab h2) (hz _);have hw:=ax h1 hs;have:=ih (i+1) (by omega);rw [key,fU h1 h2];generalize s.l[i]=x at *;generalize t.l[i]=y at *;have sx:=bB (hz x);have sy:=bB (hz y);cases hq:p x y with
  | false=>simp [De,hx,hy,sx,sy,he,hq,show ((i:Int)<s.l.length) from by omega]
  | true =>
   simp [De,hx,hy,sx,sy,he,hq,hw,show ((i:Int)<s.l.length) from by omega];simpa using this
theorem Ap {α:Type}{cells:α->List D}{z:Nat}{id:FuncId}(hz:∀ x,(cells x).length=z)(hz0:0<z){k:EQ}{p:α->α->Bool}(ht:T id=some (eqlQ z k))(hv:val id=true){s t:Sl α}(hs:s.l.length<2 ^ 62)
 (he:∀ x y h,eqv k true (ag (cells x)) (ag (cells y)) h=some (.d (.bool (p x y != true)),h)) (h:Hp):Sm E T val id [.d (s.d cells),.d (t.d cells)] h=some (bl (all2 p s.l t.l),h):=by
 rw [aY ht hv];by_cases hl:s.l.length=t.l.length
 . have k1:=λh=>Jc (E:=E) (T:=T) (val:=val) hz hz0 hl hs he h s.l.length 0 (by omega);simp [hl] at k1;simp [ae,eqlQ,hl];rw [ai];simp [k1];cases all2 p s.l t.l<;>simp
 . have hl':¬ ((s.l.length:Int)=t.l.length):=by omega
   rw [gq hl];simp [ae,eqlQ,hl']
theorem FV {α:Type}{cell:α->D}{k:EQ}{p:α->α->Bool}{s t:Sl α}(hl:s.l.length=t.l.length)(hs:s.l.length<2 ^ 62)
 (he:∀ x y h,eqv k true (.d (cell x)) (.d (cell y)) h=some (.d (.bool (p x y != true)),h)) (h:Hp):∀ (m i:Nat),i+m=s.l.length →
   Cd E T val (.loop [0,1,12,13] (wG k)) [(0,.d (s.d λx=>[cell x])),(1,.d (t.d λx=>[cell x])),(12,.d (i64 s.l.length)),(13,.d (i64 i))] h =
    if all2 p (s.l.drop i) (t.l.drop i) then some (.exit 0,[],h) else some (.ret,[(4,bl false)],h):=by
 intro m;have key:=aB (E:=E) (T:=T) (val:=val) [0,1,12,13] (wG k);generalize Cd E T val (.loop [0,1,12,13] (wG k))=W at key ⊢
 induction m with
 | zero =>
  intro i hi;rw [key,aw (by omega),aw (by omega)];simp [wG,all2,show ¬ ((i:Int)<s.l.length) from by omega]
 | succ m ih =>
  intro i hi;have h1:i<s.l.length:=by omega
  have h2:i<t.l.length:=by omega
  have hx:=λh=>aA (z:=1) h (ab h1) (cells:=λx=>[cell x]) rfl;have hy:=λh=>aA (z:=1) h (ab h2) (cells:=λx=>[cell x]) rfl;have hw:=ax h1 hs;have:=ih (i+1) (by omega);rw [key,fU h1 h2];generalize s.l[i]=x at *;generalize t.l[i]=y at *;cases hq:p x y with
  | false=>simp [wG,hx,hy,he,hq,show ((i:Int)<s.l.length) from by omega]
  | true =>
   simp [wG,hx,hy,he,hq,hw,show ((i:Int)<s.l.length) from by omega];simpa using this
theorem Qn {α:Type}{cell:α->D}{id:FuncId}{k:EQ}{p:α->α->Bool}(ht:T id=some (eql1Q k))(hv:val id=true){s t:Sl α}(hs:s.l.length<2 ^ 62)
 (he:∀ x y h,eqv k true (.d (cell x)) (.d (cell y)) h=some (.d (.bool (p x y != true)),h)) (h:Hp):Sm E T val id [.d (s.d λx=>[cell x]),.d (t.d λx=>[cell x])] h=some (bl (all2 p s.l t.l),h):=by
 rw [aY ht hv];by_cases hl:s.l.length=t.l.length
 . have k1:=λh=>FV (E:=E) (T:=T) (val:=val) hl hs he h s.l.length 0 (by omega);simp [hl] at k1;simp [ae,eql1Q,hl];rw [ai];simp [k1];cases all2 p s.l t.l<;>simp
 . have hl':¬ ((s.l.length:Int)=t.l.length):=by omega
   rw [gq hl];simp [ae,eql1Q,hl']
theorem I9 {α:Type}{cells:α->List D}{z:Nat}{zero:List V}(hz:∀ x,(cells x).length=z)(hz0:0<z)(hzero:zero.length=z){f:FuncId}{p:α->α->Bool}{s t:Sl α}(hl:s.l.length=t.l.length)(hs:s.l.length<2 ^ 62)
 (hf:∀ x∈s.l,∀ y∈t.l,∀ h,Sm E T val f [ag (cells x),ag (cells y)] h=some (bl (p x y),h)):∀ (m i:Nat) (bs:List Blk) (lo:Nat),i+m=s.l.length->lo=0 →
   ∃ bs',Cd E T val (.loop [1,2,15,16,17] (Dc z zero)) [(1,.d (t.d cells)),(2,.fn f []),(15,.d (s.d cells)),(16,.d (i64 s.l.length)),(17,.d (i64 i))] ⟨bs,lo⟩ =
    if all2 p (s.l.drop i) (t.l.drop i) then some (.exit 0,[],⟨bs',0⟩) else some (.ret,[(6,bl false)],⟨bs',0⟩):=by
 intro m;have key:=aB (E:=E) (T:=T) (val:=val) [1,2,15,16,17] (Dc z zero);generalize Cd E T val (.loop [1,2,15,16,17] (Dc z zero))=W at key ⊢
 induction m with
 | zero =>
  rintro i bs lo hi rfl;refine ⟨bs,?_⟩;rw [key,aw (by omega),aw (by omega)];simp [Dc,all2,show ¬ ((i:Int)<s.l.length) from by omega]
 | succ m ih =>
  rintro i bs lo hi rfl;have h1:i<s.l.length:=by omega
  have h2:i<t.l.length:=by omega
  have hx:=λh=>aA (z:=z) h (ab h1) (hz _);have hy:=λh=>aA (z:=z) h (ab h2) (hz _);have hw:=ax h1 hs;have hc:=hf _ (bd h1) _ (bd h2);rw [key,fU h1 h2];generalize s.l[i]=x at *;generalize t.l[i]=y at *;have sx:=bB (hz x);have sy:=bB (hz y);have px:put zero 0 ((cells x).map V.d)=some ((cells x).map .d):=by simp [put,hz,hzero]
  have py:put zero 0 ((cells y).map V.d)=some ((cells y).map .d):=by simp [put,hz,hzero]
  cases hq:p x y with
  | false =>
   refine ⟨bs++[.cells ((cells x).map .d),.cells ((cells y).map .d)],?_⟩;simp [Dc,hx,hy,sx,sy,px,py,hc,hq,hz0,hz,show ((i:Int)<s.l.length) from by omega]
  | true =>
   obtain ⟨bs',q⟩:=ih (i+1) (bs++[.cells ((cells x).map .d),.cells ((cells y).map .d)]) 0 (by omega) rfl;refine ⟨bs',?_⟩;simp [Dc,hx,hy,sx,sy,px,py,hc,hq,hw,hz0,hz,show ((i:Int)<s.l.length) from by omega];simpa using q
theorem Ao {α:Type}{cells:α->List D}{z:Nat}{zero:List V}{id:FuncId}(hz:∀ x,(cells x).length=z)(hz0:0<z)(hzero:zero.length=z){f:FuncId}{p:α->α->Bool}(ht:T id=some (eqfQ z zero))(hv:val id=true){s t:Sl α}(hs:s.l.length<2 ^ 62)
 (hf:∀ x∈s.l,∀ y∈t.l,∀ h,Sm E T val f [ag (cells x),ag (cells y)] h=some (bl (p x y),h)) (h:Hp):Sm E T val id [.d (s.d cells),.d (t.d cells),.fn f []] h=some (bl (all2 p s.l t.l),h):=by
 rw [aY ht hv];have hfr:frz h (.fn f [])=some (.fn f []):=rfl;by_cases hl:s.l.length=t.l.length
 . obtain ⟨bs',k1⟩:=I9 (E:=E) (T:=T) (val:=val) hz hz0 hzero hl hs hf s.l.length 0 [] 0 (by omega) rfl;simp [hl] at k1;simp [ae,eqfQ,hl,hfr];rw [ai];simp [k1];cases all2 p s.l t.l<;>simp [fI,ownR,rV,lS]
 . have hl':¬ ((s.l.length:Int)=t.l.length):=by omega
   rw [gq hl];simp [ae,eqfQ,hl',hfr,fI,ownR,rV,lS]
end
def Cfg.same (a b:Cfg):Bool:=a.epoch==b.epoch&&a.next==b.next&&a.hosts==b.hosts&&a.ways==b.ways&&(all2 Pod.eqB a.pods.l b.pods.l&&(all2 Svc.eqB a.services.l b.services.l&&(all2 Way.eqB a.bound.l b.bound.l&&all2 Pol.same a.policies.l b.policies.l)))
end
section
def Lg (n:Int)(x:Int):Prop:=0<=n/\x<2 ^ n.toNat/\(1<=x->2 ^ n.toNat<=2 * x)
theorem L8:((List.range 256).all λi=>decide ((i:Int)<2 ^ (lenT i).toNat)&&(decide (i=0)||decide ((2:Int) ^ (lenT i).toNat<=2 * i)))=true:=by decide +kernel
theorem Ep {x:Int}(h0:0<=x)(h1:x<256):Lg (lenT (wrap .u8 x).toNat) x:=by
 have hw:wrap .u8 x=x:=by simp [wrap,IntKind.bits,IntKind.signed]; omega
 rw [hw];have:=cm.1 L8 x.toNat (List.mem_range.2 (by omega));simp only [ap,Bool.or_eq_true,br] at this;have hx:((x.toNat:Nat):Int)=x:=by omega
 rw [hx] at this;exact ⟨(zG _).1,this.1,λh=>by obtain h2 | h2:=this.2<;>omega⟩
theorem vR {n x K:Int}(k:Nat)(hK:K=2 ^ k)(hK0:0<K)(hx:K<=x)(h:Lg n (x.fdiv K)):Lg ((k:Int)+n) x:=by
 obtain ⟨h0,h1,h2⟩:=h;have e:((k:Int)+n).toNat=k+n.toNat:=by omega
 rw [Int.fdiv_eq_ediv_of_nonneg _ (by omega)] at h1 h2;have hp:(2:Int) ^ (k+n.toNat)=K * 2 ^ n.toNat:=by rw [Int.pow_add,← hK]
 have hd:=Int.mul_ediv_add_emod x K;have hm:=Int.emod_nonneg x (show K≠0 by omega);have hl:=Int.emod_lt_of_pos x hK0;have hq:1<=x / K:=by
  have:=(Int.le_ediv_iff_mul_le hK0 (a:=1) (b:=x)).2 (by omega);exact this
 refine ⟨by omega,?_,λ_=>?_⟩
 . rw [e,hp];have:=(Int.ediv_lt_iff_lt_mul hK0).1 h1;rw [Int.mul_comm]; exact this
 . rw [e,hp];have h3:=Int.mul_le_mul_of_nonneg_left (h2 hq) (Int.le_of_lt hK0);have h4:K * (2 * (x / K))=2 * (K * (x / K)):=by rw [Int.mul_left_comm]
   omega
theorem wR {x:Int}(h0:0<=x)(h1:x<2 ^ 64):Lg (eG x) x:=by
 have hb:∀ y,0<=y->y<65536->Lg ((if y>=256 then 8 else 0)+lenT (wrap .u8 (tK y)).toNat) y:=by
  intro y a b;by_cases c:y>=256
  . rw [if_pos c,tK,if_pos c];have hd:y.fdiv 256=y / 256:=Int.fdiv_eq_ediv_of_nonneg _ (by omega);exact vR (K:=256) 8 (by decide) (by omega) c (Ep (by rw [hd]; omega) (by rw [hd]; omega))
  . rw [if_neg c,tK,if_neg c,Int.zero_add];exact Ep a (by omega)
 have ha:∀ y,0<=y->y<4294967296->Lg ((if y>=65536 then 16 else 0)+((if nH y>=256 then 8 else 0)+lenT (wrap .u8 (tK (nH y))).toNat)) y:=by
  intro y a b;by_cases c:y>=65536
  . have hB:nH y=y.fdiv 65536:=by rw [nH,if_pos c]
    rw [if_pos c,hB];have hd:y.fdiv 65536=y / 65536:=Int.fdiv_eq_ediv_of_nonneg _ (by omega);exact vR (K:=65536) 16 (by decide) (by omega) c (hb _ (by rw [hd]; omega) (by rw [hd]; omega))
  . have hB:nH y=y:=by rw [nH,if_neg c]
    rw [if_neg c,hB,Int.zero_add];exact hb _ a (by omega)
 have hz:eG x=(if x>=4294967296 then 32 else 0)+((if mJ x>=65536 then 16 else 0)+((if nH (mJ x)>=256 then 8 else 0)+lenT (wrap .u8 (tK (nH (mJ x)))).toNat)):=by
  unfold eG; omega
 rw [hz];by_cases c:x>=4294967296
 . have hA:mJ x=x.fdiv 4294967296:=by rw [mJ,if_pos c]
   rw [if_pos c,hA];have hd:x.fdiv 4294967296=x / 4294967296:=Int.fdiv_eq_ediv_of_nonneg _ (by omega);exact vR (K:=4294967296) 32 (by decide) (by omega) c (ha _ (by rw [hd]; omega) (by rw [hd]; omega))
 . have hA:mJ x=x:=by rw [mJ,if_neg c]
   rw [if_neg c,hA,Int.zero_add];exact ha _ h0 (by omega)
theorem KO (x:Int):((aK x).length:Int)=dE x:=by
 have:=oH x;rw [aK,mE]; omega
theorem zD (x:Int):dE x=if (eG x+6) / 7>1 then (eG x+6) / 7 else 1:=by
 have:=rG x;have h2:(eG x+6).tdiv 7=(eG x+6) / 7:=Int.tdiv_eq_ediv_of_nonneg (by omega);unfold dE; rw [h2]
theorem sV {a b:Cfg}(h1:a.hosts=b.hosts)(h2:a.ways=b.ways):∀ (l pre:List Way),iI a pre l=iI b pre l
 | [],_=>rfl
 | x::l,pre=>by
  have ih:=sV h1 h2 l (pre++[x]);simp only [iI,ih,iM,h1,h2]
theorem xW {a b:Cfg}(h1:a.hosts=b.hosts)(h2:a.ways=b.ways)(h3:a.bound.l=b.bound.l):eU a=eU b:=by
 simp only [eU,sV h1 h2,h3]
theorem Pol.own_same (p:Pol):Pol.same p.own p=true:=by
 have:all2 Rule.same (p.rules.l.map Rule.own) p.rules.l=true:=by
  rw [Au]; exact dW Rule.same_refl _
 simp [Pol.same,Pol.own,this]
theorem Cfg.same_refl (a:Cfg):a.same a=true:=by
 simp [Cfg.same,dW (λ_=>Pod.eqB_iff.2 rfl),dW (λ_=>Svc.eqB_iff.2 rfl),dW (λ_=>Way.eqB_iff.2 rfl),dW Pol.same_refl]
end
section
abbrev Pr (α:Type):=List Int->Option (α×List Int)
def Pr.ret {α:Type}(x:α):Pr α:=λb=>some (x,b)
def Pr.seq {α β:Type}(p:Pr α)(q:Pr β):Pr (α×β):=λb=>match p b with
 | some (x,l)=>match q l with
  | some (y,m)=>some ((x,y),m)
  | none=>none
 | none=>none
def Pr.map {α β:Type}(f:α->β)(p:Pr α):Pr β:=λb=>match p b with
 | some (x,l)=>some (f x,l)
 | none=>none
def Pr.keep {α:Type}(p:Pr α)(ok:α->Bool):Pr α:=λb=>match p b with
 | some (x,l)=>if ok x=true then some (x,l) else none
 | none=>none
def byteL (b:List Int):Prop:=∀ c∈b,0<=c/\c<256
theorem byteL.app {a b:List Int}:byteL (a++b)↔byteL a/\byteL b:=by
 simp only [byteL,List.mem_append];exact ⟨λh=>⟨λc hc=>h c (.inl hc),λc hc=>h c (.inr hc)⟩,λh c hc=>hc.elim (h.1 c) (h.2 c)⟩
theorem byteL.nil:byteL []:=λc hc=>by cases hc
theorem byteL.cons {a:Int}{b:List Int}:byteL (a::b)↔(0<=a/\a<256)/\byteL b:=by
 simp [byteL]
theorem byteL.flat {α:Type}{e:α->List Int}{l:List α}(h:∀ x∈l,byteL (e x)):byteL (l.flatMap e):=λc hc=>by
 obtain ⟨x,hx,hcx⟩:=List.mem_flatMap.1 hc;exact h x hx c hcx
structure Cod {α:Type} (p:Pr α) (e:α->List Int) (ok:α->Prop):Prop where
 rng:∀ x,ok x->byteL (e x)
 fwd:∀ x l,ok x->p (e x++l)=some (x,l)
 bwd:∀ b x l,byteL b->p b=some (x,l)->b=e x++l/\ok x
theorem Cod.seq {α β:Type}{p:Pr α}{q:Pr β}{e:α->List Int}{f:β->List Int}{ok:α->Prop}{ok':β->Prop}(h:Cod p e ok)(k:Cod q f ok') :
 Cod (p.seq q) (λx=>e x.1++f x.2) (λx=>ok x.1/\ok' x.2) where
 rng x hx:=byteL.app.2 ⟨h.rng _ hx.1,k.rng _ hx.2⟩
 fwd x l hx:=by
  unfold Pr.seq;rw [List.append_assoc,h.fwd x.1 _ hx.1];simp only [k.fwd x.2 _ hx.2]
 bwd b x l hb hx:=by
  unfold Pr.seq at hx;split at hx
  . rename_i y m h1;split at hx
    . rename_i z n h2;cases hx;obtain ⟨a1,a2⟩:=h.bwd _ _ _ hb h1;subst a1;obtain ⟨c1,c2⟩:=k.bwd _ _ _ (byteL.app.1 hb).2 h2;exact ⟨by rw [List.append_assoc,← c1],a2,c2⟩
    . cases hx
  . cases hx
theorem Cod.iso {α β:Type}{p:Pr α}{e:α->List Int}{ok:α->Prop}(h:Cod p e ok)(f:α->β)(g:β->α){e':β->List Int}{ok':β->Prop}
 (hg:∀ y,ok' y->ok (g y)/\f (g y)=y) (hf:∀ x,ok x->ok' (f x)) (he:∀ x,ok x->e' (f x)=e x):Cod (p.map f) e' ok' where
 rng y hy:=by
  obtain ⟨h1,h2⟩:=hg y hy;have h3:=he _ h1;rw [h2] at h3;rw [h3]; exact h.rng _ h1
 fwd y l hy:=by
  obtain ⟨h1,h2⟩:=hg y hy;have h3:=he _ h1;rw [h2] at h3;unfold Pr.map;rw [h3,h.fwd _ _ h1];simp only [h2]
 bwd b y l hb hy:=by
  unfold Pr.map at hy;split at hy
  . rename_i x m h1;cases hy;obtain ⟨a1,a2⟩:=h.bwd _ _ _ hb h1;exact ⟨by rw [he _ a2]; exact a1,hf _ a2⟩
  . cases hy
theorem Cod.keep {α:Type}{p:Pr α}{e:α->List Int}{ok:α->Prop}(h:Cod p e ok)(may:α->Bool):Cod (p.keep may) e (λx=>ok x/\may x=true) where
 rng x hx:=h.rng x hx.1
 fwd x l hx:=by
  unfold Pr.keep;rw [h.fwd _ _ hx.1];simp only [hx.2,if_true]
 bwd b x l hb hx:=by
  unfold Pr.keep at hx;split at hx
  . rename_i y m h1;split at hx
    . rename_i hm;cases hx;obtain ⟨a1,a2⟩:=h.bwd _ _ _ hb h1;exact ⟨a1,a2,hm⟩
    . cases hx
  . cases hx
theorem Cod.weaken {α:Type}{p:Pr α}{e:α->List Int}{ok ok':α->Prop}(h:Cod p e ok)(k:∀ x,ok x↔ok' x):Cod p e ok' :=
 ⟨λx hx=>h.rng x ((k x).2 hx),λx l hx=>h.fwd x l ((k x).2 hx),λb x l hb hx=>⟨(h.bwd b x l hb hx).1,(k x).1 (h.bwd b x l hb hx).2⟩⟩
theorem Cod.inj {α:Type}{p:Pr α}{e:α->List Int}{ok:α->Prop}(h:Cod p e ok){x y:α}(hx:ok x)(hy:ok y)(he:e x=e y):x=y:=by
 have h1:=h.fwd x [] hx;have h2:=h.fwd y [] hy;rw [he,h2] at h1;cases h1; rfl
def gX {α:Type}(p:Pr α):Nat->Pr (List α)
 | 0=>Pr.ret []
 | n+1=>Pr.map (λx=>x.1::x.2) (p.seq (gX p n))
theorem Cod.row {α:Type}{p:Pr α}{e:α->List Int}{ok:α->Prop}(h:Cod p e ok):∀ n,Cod (gX p n) (λl=>l.flatMap e) (λl=>l.length=n/\∀ x∈l,ok x)
 | 0=>⟨λx hx=>byteL.flat λy hy=>h.rng y (hx.2 y hy),λx l hx=>by
  have:x=[]:=List.eq_nil_of_length_eq_zero hx.1;subst this; rfl,λb x l hb hx=>by
  simp only [gX,Pr.ret,ba,cv] at hx;obtain ⟨rfl,rfl⟩:=hx;exact ⟨rfl,rfl,λx hx=>by cases hx⟩⟩
 | n+1=>⟨λx hx=>byteL.flat λy hy=>h.rng y (hx.2 y hy),λx l hx=>by
  cases x with
  | nil=>exact absurd hx.1 (by simp)
  | cons y ys =>
   have k:=(h.seq (Cod.row h n)).fwd (y,ys) l ⟨hx.2 y (by simp),by simpa using hx.1,λz hz=>hx.2 z (by simp [hz])⟩;simp only [gX,Pr.map,List.flatMap_cons];rw [k],λb x l hb hx=>by
  simp only [gX,Pr.map] at hx;split at hx
  . rename_i y m h1;cases hx;obtain ⟨a1,a2,a3,a4⟩:=(h.seq (Cod.row h n)).bwd _ _ _ hb h1;exact ⟨by simpa using a1,by simp [a3],λz hz=>(List.mem_cons.1 hz).elim (λe=>e ▸ a2) (a4 z)⟩
  . cases hx⟩
def jW:Nat->Int->List Int->Option (Int×List Int)
 | _,_,[]=>none
 | i,x,c::l=>if i=9/\c>1 then none
  else if c<128 then (if dE (x+c % 128 * 128 ^ i)=i+1 then some (x+c % 128 * 128 ^ i,l) else none)
  else jW (i+1) (x+c % 128 * 128 ^ i) l
def pUint:Pr Int:=jW 0 0
theorem wrap_u8 (x:Int):wrap .u8 x=x % 256:=by simp [wrap,IntKind.bits,IntKind.signed]
theorem Q7:((List.range 256).all λa=>decide (orI .u8 (a:Int) 128=(a:Int) % 128+128))=true:=by decide +kernel
theorem xc (x:Int):orI .u8 (wrap .u8 x) 128=x % 128+128:=by
 rw [wrap_u8];have h:=cm.1 Q7 (x % 256).toNat (List.mem_range.2 (by omega));simp only [br] at h;have e:(((x % 256).toNat:Nat):Int)=x % 256:=by omega
 rw [e] at h;rw [h]; omega
theorem KQ:∀ (k i:Nat) (y acc:Int) (l:List Int),0<=y->y<128 ^ (k+1)->0<=acc->acc+y * 128 ^ i<2 ^ 64->dE (acc+y * 128 ^ i)=i+k+1->jW i acc (iw k y++l)=some (acc+y * 128 ^ i,l):=by
 intro k
 induction k with
 | zero =>
  intro i y acc l h0 h1 ha hx hg;have hy:y<128:=by simpa using h1
  have hw:wrap .u8 y=y:=by rw [wrap_u8]; omega
  have hm:y % 128=y:=by omega
  have h9:¬ (i=9/\y>1):=by
   rintro ⟨rfl,hy1⟩;have h128:(128:Int) ^ 9=2 ^ 63:=by decide
   rw [h128] at hx;omega
  simp only [iw,List.cons_append,List.nil_append,jW,hw];rw [if_neg h9,if_pos hy,hm,if_pos (by rw [hg]; omega)]
 | succ k ih =>
  intro i y acc l h0 h1 ha hx hg;have hd:y.fdiv 128=y / 128:=Int.fdiv_eq_ediv_of_nonneg _ (by omega);have hgl:=(oH (acc+y * 128 ^ i)).2;have h9:¬ (i=9/\y % 128+128>1):=by rintro ⟨rfl,_⟩; omega
  have hlt:¬ (y % 128+128<128):=by omega
  have hm:(y % 128+128) % 128=y % 128:=by omega
  have hp:(0:Int)<128 ^ i:=Int.pow_pos (by omega);have he:acc+y % 128 * 128 ^ i+y / 128 * 128 ^ (i+1)=acc+y * 128 ^ i:=by
   rw [Int.pow_succ,Int.mul_comm (128 ^ i) 128,← Int.mul_assoc,Int.add_assoc,← Int.add_mul]
   congr 2; omega
  have h1':y / 128<128 ^ (k+1):=by
   rw [Int.pow_succ] at h1;exact (Int.ediv_lt_iff_lt_mul (by omega)).2 h1
  have hacc:0<=acc+y % 128 * 128 ^ i:=Int.add_nonneg ha (Int.mul_nonneg (by omega) (Int.le_of_lt hp));have:=ih (i+1) (y / 128) (acc+y % 128 * 128 ^ i) l (by omega) h1' hacc (by rw [he]; exact hx) (by rw [he,hg]; push_cast; omega);simp only [iw,List.cons_append,jW,xc,hd];rw [if_neg h9,if_neg hlt,hm,this,he]
theorem KP:∀ (b:List Int) (i:Nat) (acc x:Int) (l:List Int),byteL b->0<=acc->acc<128 ^ i->i<=9->jW i acc b=some (x,l) →
 ∃ (k:Nat) (y:Int),b=iw k y++l/\0<=y/\x=acc+y * 128 ^ i/\dE x=i+k+1/\0<=x/\x<2 ^ 64:=by
 intro b
 induction b with
 | nil=>intro i acc x l _ _ _ _ h; simp [jW] at h
 | cons c b ih =>
  intro i acc x l hb h0 h1 hi h;obtain ⟨hc,hb'⟩:=byteL.cons.1 hb;have hp:(0:Int)<128 ^ i:=Int.pow_pos (by omega);simp only [jW] at h;split at h
  . cases h
  . rename_i h9;split at h
    . rename_i hlt;split at h
      . rename_i hg;cases h;have hm:c % 128=c:=by omega
        rw [hm] at hg ⊢;have hnn:0<=c * 128 ^ i:=Int.mul_nonneg hc.1 (Int.le_of_lt hp);refine ⟨0,c,by simp only [iw,wrap_u8,List.cons_append,List.nil_append]; congr 1; omega,hc.1,rfl,by rw [hg]; push_cast; omega,by omega,?_⟩;by_cases hi9:i=9
        . subst hi9;have h128:(128:Int) ^ 9=2 ^ 63:=by decide
          rw [h128] at h1 ⊢;have:c<=1:=by
           by_cases hc1:c<=1
           . exact hc1
           . exact absurd ⟨rfl,by omega⟩ h9
          omega
        . have h8:(128:Int) ^ i<=128 ^ 8:=by
           have:i<=8:=by omega
           exact_mod_cast Nat.pow_le_pow_right (by omega:0<128) this
          have h128:(128:Int) ^ 8=2 ^ 56:=by decide
          have h2:c * 128 ^ i<=127 * 128 ^ i:=Int.mul_le_mul_of_nonneg_right (by omega) (Int.le_of_lt hp);rw [h128] at h8;omega
      . cases h
    . rename_i hge;have hi8:i<=8:=by
       by_cases hi9:i=9
       . exact absurd ⟨hi9,by omega⟩ h9
       . omega
      have hnn:0<=c % 128 * 128 ^ i:=Int.mul_nonneg (by omega) (Int.le_of_lt hp);have hlt:acc+c % 128 * 128 ^ i<128 ^ (i+1):=by
       have h2:c % 128 * 128 ^ i<=127 * 128 ^ i:=Int.mul_le_mul_of_nonneg_right (by omega) (Int.le_of_lt hp);rw [Int.pow_succ]; omega
      obtain ⟨k,y,e1,e2,e3,e4,e5,e6⟩:=ih (i+1) _ x l hb' (by omega) hlt (by omega) h;have hw:(c % 128+128 * y) % 128=c % 128:=by omega
      have hd:(c % 128+128 * y).fdiv 128=y:=by rw [Int.fdiv_eq_ediv_of_nonneg _ (by omega)]; omega
      refine ⟨k+1,c % 128+128 * y,?_,by omega,?_,by rw [e4]; push_cast; omega,e5,e6⟩
      . simp only [iw,xc,hd,hw,List.cons_append];rw [← e1]
        congr 1; omega
      . rw [e3,Int.pow_succ,Int.add_mul,Int.mul_comm (128 ^ i) 128,← Int.mul_assoc,Int.mul_comm y 128,Int.add_assoc]
theorem lg:∀ (k:Nat) (x:Int),byteL (iw k x)
 | 0,x=>by simp only [iw,byteL.cons,wrap_u8]; exact ⟨by omega,byteL.nil⟩
 | k+1,x=>by simp only [iw,byteL.cons,xc]; exact ⟨by omega,lg k _⟩
theorem uint_cod:Cod pUint aK (λx=>0<=x/\x<2 ^ 64) where
 rng x _:=lg _ _
 fwd x l hx:=by
  obtain ⟨h0,h1⟩:=hx;obtain ⟨a0,a1,_⟩:=wR h0 h1;have hgeq:=zD x;have e:((dE x).toNat-1+1:Nat)=(dE x).toNat:=by omega
  have hlt:x<128 ^ ((dE x).toNat-1+1):=by
   rw [e];have h7:(128:Int) ^ (dE x).toNat=2 ^ (7 * (dE x).toNat):=by
    rw [Int.pow_mul]; rfl
   have hle:(eG x).toNat<=7 * (dE x).toNat:=by split at hgeq<;>omega
   have hpp:(2:Int) ^ (eG x).toNat<=2 ^ (7 * (dE x).toNat):=by
    exact_mod_cast Nat.pow_le_pow_right (by omega:0<2) hle
   rw [h7]; omega
  have:=KQ ((dE x).toNat-1) 0 x 0 l h0 hlt (Int.le_refl 0) (by simpa using h1) (by simp; omega);simpa [pUint,aK] using this
 bwd b x l hb hx:=by
  obtain ⟨k,y,e1,e2,e3,e4,e5,e6⟩:=KP b 0 0 x l hb (Int.le_refl 0) (by simp) (by omega) hx;have hxy:x=y:=by simpa using e3
  subst hxy;refine ⟨?_,e5,e6⟩;have:(dE x).toNat-1=k:=by omega
  rw [aK,this]; exact e1
def bT (most:Int):Pr Int:=pUint.keep λn=>decide (n<=most)
theorem eQ {most:Int}(h:most<2 ^ 64):Cod (bT most) aK (λx=>0<=x/\x<=most) :=
 (uint_cod.keep _).weaken λx=>by simp only [br]; omega
def GA {α:Type}(most:Int)(p:Pr α):Pr (List α):=λb=>match bT most b with
 | some (n,l)=>gX p n.toNat l
 | none=>none
theorem Cod.seqB {α:Type}{p:Pr α}{e:α->List Int}{ok:α->Prop}(h:Cod p e ok){most:Int}(hm:most<2 ^ 64):Cod (GA most p) (seqB e) (λl=>(l.length:Int)<=most/\∀ x∈l,ok x) where
 rng x hx:=byteL.app.2 ⟨lg _ _,byteL.flat λy hy=>h.rng y (hx.2 y hy)⟩
 fwd x l hx:=by
  unfold GA Go.Proofs.YtadlkhfomhgllaaGreat.seqB;rw [List.append_assoc,(eQ hm).fwd _ _ ⟨by omega,hx.1⟩];simp only [Int.toNat_natCast];exact (Cod.row h x.length).fwd x l ⟨rfl,hx.2⟩
 bwd b x l hb hx:=by
  unfold GA at hx;split at hx
  . rename_i n m h1;obtain ⟨a1,a2,a3⟩:=(eQ hm).bwd _ _ _ hb h1;subst a1;obtain ⟨c1,c2,c3⟩:=(Cod.row h n.toNat).bwd _ _ _ (byteL.app.1 hb).2 hx;have hn:n=(x.length:Int):=by omega
    refine ⟨?_,by omega,c3⟩;unfold Go.Proofs.YtadlkhfomhgllaaGreat.seqB;rw [List.append_assoc,← c1,hn]
  . cases hx
def pByte:Pr Int
 | []=>none
 | c::l=>some (c,l)
theorem byte_cod:Cod pByte (λc=>[c]) (λc=>0<=c/\c<256) where
 rng c hc:=byteL.cons.2 ⟨hc,byteL.nil⟩
 fwd c l _:=rfl
 bwd b c l hb h:=by
  cases b with
  | nil=>cases h
  | cons a b =>
   simp only [pByte,ba,cv] at h;obtain ⟨rfl,rfl⟩:=h;exact ⟨rfl,(byteL.cons.1 hb).1⟩
def pU32:Pr Int
 | a::b::c::d::l=>some (a+256 * b+65536 * c+16777216 * d,l)
 | _=>none
theorem u32_cod:Cod pU32 qP (λx=>0<=x/\x<4294967296) where
 rng x _:=by
  simp only [qP,byteL.cons,wrap_u8];exact ⟨by omega,by omega,by omega,by omega,byteL.nil⟩
 fwd x l hx:=by
  have f1:x.fdiv 256=x / 256:=Int.fdiv_eq_ediv_of_nonneg _ (by omega);have f2:x.fdiv 65536=x / 65536:=Int.fdiv_eq_ediv_of_nonneg _ (by omega);have f3:x.fdiv 16777216=x / 16777216:=Int.fdiv_eq_ediv_of_nonneg _ (by omega);simp only [qP,wrap_u8,f1,f2,f3,List.cons_append,List.nil_append,pU32,ba,cv,and_true];omega
 bwd b x l hb h:=by
  unfold pU32 at h;split at h
  . rename_i p q r s m;cases h;simp only [byteL.cons] at hb;obtain ⟨h1,h2,h3,h4,_⟩:=hb;have f1:∀ y:Int,y.fdiv 256=y / 256:=λy=>Int.fdiv_eq_ediv_of_nonneg _ (by omega);have f2:∀ y:Int,y.fdiv 65536=y / 65536:=λy=>Int.fdiv_eq_ediv_of_nonneg _ (by omega);have f3:∀ y:Int,y.fdiv 16777216=y / 16777216:=λy=>Int.fdiv_eq_ediv_of_nonneg _ (by omega);refine ⟨?_,by omega,by omega⟩;simp only [qP,wrap_u8,f1,f2,f3,List.cons_append,List.nil_append,List.cons.injEq,and_true];omega
  . cases h
def dA (s:ByteArray):List Int:=s.toList.map λb=>(b.toNat:Int)
theorem lv (s:ByteArray):byteL (dA s):=λc hc=>by
 obtain ⟨b,_,rfl⟩:=cd.1 hc;have:=b.toNat_lt;omega
theorem kQ (s:ByteArray):(dA s).length=s.size:=by rw [dA,cc,eX]
theorem xH (s:ByteArray):strOf (dA s)=s:=by
 have:(dA s).map (λn=>UInt8.ofNat n.toNat)=s.data.toList:=by
  rw [dA,bJ,List.map_map];refine (List.map_congr_left λb _=>?_).trans (List.map_id _);simp
 rw [strOf,this]
theorem mK {l:List Int}(h:byteL l):dA (strOf l)=l:=by
 rw [dA,bJ,strOf];simp only [List.map_map];refine (List.map_congr_left λc hc=>?_).trans (List.map_id _);have:=h c hc;simp only [Function.comp,UInt8.toNat_ofNat',id];omega
def gN (most:Int):Pr ByteArray:=λb=>match pUint b with
 | some (n,l)=>if n<=most/\n<=l.length then some (strOf (l.take n.toNat),l.drop n.toNat) else none
 | none=>none
theorem gU (most:Int):Cod (gN most) bA (λs=>(s.size:Int)<=most/\s.size<2 ^ 64) where
 rng s _:=byteL.app.2 ⟨lg _ _,lv s⟩
 fwd s l hs:=by
  have h2:=kQ s;unfold gN;have:bA s++l=aK s.size++(dA s++l):=by rw [← List.append_assoc]; rfl
  rw [this,uint_cod.fwd _ _ ⟨by omega,by omega⟩];simp only [Int.toNat_natCast,ao];rw [if_pos ⟨hs.1,by omega⟩,List.take_left' h2,List.drop_left' h2,xH]
 bwd b s l hb h:=by
  unfold gN at h;split at h
  . rename_i n m h1;obtain ⟨a1,a2,a3⟩:=uint_cod.bwd _ _ _ hb h1;subst a1;have hm:=(byteL.app.1 hb).2;split at h
    . rename_i hc;cases h;have hb2:byteL (m.take n.toNat):=λc hc=>hm c (List.mem_of_mem_take hc);have hsz:(strOf (m.take n.toNat)).size=n.toNat:=by rw [jq,List.length_take]; omega
      refine ⟨?_,by omega,by omega⟩;have:bA (strOf (m.take n.toNat))=aK n++m.take n.toNat:=by
       have e1:bA (strOf (m.take n.toNat))=aK (strOf (m.take n.toNat)).size++dA (strOf (m.take n.toNat)):=rfl;rw [e1,mK hb2,hsz]
       congr 2; omega
      rw [this,List.append_assoc,List.take_append_drop]
    . cases h
  . cases h
end
section
theorem fP {α β:Type}{f:α->α->Bool}{g:α->β}(h:∀ x y,f x y=true↔g x=g y):∀ {l m:List α},all2 f l m=true↔l.map g=m.map g
 | [],[]=>by simp [all2]
 | [],y::m=>by simp [all2]
 | x::l,[]=>by simp [all2]
 | x::l,y::m=>by
  have ih:=fP (f:=f) (g:=g) h (l:=l) (m:=m);simp only [all2,ap,cr,List.cons.injEq];rw [h x y,ih]
def Sl.nf {α:Type}(f:α->α)(s:Sl α):Sl α:=⟨false,s.l.map f⟩
theorem Sl.nf_iff {α:Type}{f:α->α}{s t:Sl α}:s.nf f=t.nf f↔s.l.map f=t.l.map f:=by
 simp [Sl.nf]
def Source.nf (s:Source):Source:=⟨s.names.nf id,s.spaces.nf id,s.nets.nf id⟩
def Target.nf (s:Target):Target:=⟨s.ports.nf id,s.methods.nf id,s.paths.nf id,s.hosts.nf id⟩
def When.nf (s:When):When:=⟨s.head,s.terms.nf id⟩
def Rule.nf (s:Rule):Rule:=⟨s.frm.nf Source.nf,s.to.nf Target.nf,s.whn.nf When.nf⟩
def Pol.nf (s:Pol):Pol:={ s with rules:=s.rules.nf Rule.nf }
theorem uw {l m:List Term}:all2 Term.eqB l m=true↔l.map id=m.map id:=fP (f:=Term.eqB) (g:=id) λ_ _=>Term.eqB_iff
theorem FU {l m:List Cidr}:all2 Cidr.eqB l m=true↔l.map id=m.map id:=fP (f:=Cidr.eqB) (g:=id) λ_ _=>Cidr.eqB_iff
theorem Jn {l m:List Int}:all2 (λx y:Int=>x==y) l m=true↔l.map id=m.map id:=fP (f:=λx y:Int=>x==y) (g:=id) λ_ _=>by simp
theorem Source.same_iff {a b:Source}:a.same b=true↔a.nf=b.nf:=by
 simp only [Source.same,ap,uw,FU,Source.nf,Source.mk.injEq,Sl.nf_iff]
theorem Target.same_iff {a b:Target}:a.same b=true↔a.nf=b.nf:=by
 simp only [Target.same,ap,uw,Jn,Target.nf,Target.mk.injEq,Sl.nf_iff];constructor
 . rintro ⟨h1,h2,h3,h4⟩; exact ⟨h4,h1,h2,h3⟩
 . rintro ⟨h4,h1,h2,h3⟩; exact ⟨h1,h2,h3,h4⟩
theorem When.same_iff {a b:When}:a.same b=true↔a.nf=b.nf:=by
 simp only [When.same,ap,uw,eqS_iff,When.nf,When.mk.injEq,Sl.nf_iff]
theorem Rule.same_iff {a b:Rule}:a.same b=true↔a.nf=b.nf:=by
 simp only [Rule.same,ap,fP (λx y=>Source.same_iff (a:=x) (b:=y)),fP (λx y=>Target.same_iff (a:=x) (b:=y)),fP (λx y=>When.same_iff (a:=x) (b:=y)),Rule.nf,Rule.mk.injEq,Sl.nf_iff]
theorem Pol.same_iff {a b:Pol}:a.same b=true↔a.nf=b.nf:=by
 simp only [Pol.same,ap,beq_iff_eq,eqS_iff,fP (λx y=>Rule.same_iff (a:=x) (b:=y)),Pol.nf,Pol.mk.injEq,Sl.nf_iff]
theorem zn {α:Type}{p:α->Bool}{f:α->α}(h:∀ x,p (f x)=p x)(s:Sl α):(s.nf f).l.all p=s.l.all p:=by
 simp only [Sl.nf,List.all_map]
 congr 1
 funext x;exact h x
theorem ou (s:Sl Term):aU (s.nf id)=aU s:=by simp [aU,Sl.nf]
theorem Ae (s:Source):bV s.nf=bV s:=by
 simp only [bV,Source.nf,ou];simp [kC,Sl.nf]
theorem Af (s:Target):aT s.nf=aT s:=by
 simp only [aT,Target.nf,ou];simp [Sl.nf]
theorem Em (s:When):ig s.nf=ig s:=by
 simp only [ig,When.nf,ou];simp [Sl.nf]
theorem DT (s:Rule):eD s.nf=eD s:=by
 simp only [eD,Rule.nf,zn Ae,zn Af,zn Em];simp [Sl.nf]
theorem GH (p:Pol):bz p.nf=bz p:=by
 simp only [bz,Pol.nf,zn DT];simp only [Sl.nf,cc];rfl
end
section
theorem wrap_u64 (x:Int):wrap .u64 x=x % 18446744073709551616:=by simp [wrap,IntKind.bits,IntKind.signed]
def SlOk {α:Type}(most:Int)(ok:α->Prop)(s:Sl α):Prop:=s.nl=s.l.isEmpty/\(s.l.length:Int)<=most/\∀ x∈s.l,ok x
def pSl {α:Type}(most:Int)(p:Pr α):Pr (Sl α):=(GA most p).map λl=>⟨l.isEmpty,l⟩
theorem Cod.sl {α:Type}{p:Pr α}{e:α->List Int}{ok:α->Prop}(h:Cod p e ok){most:Int}(hm:most<2 ^ 64):Cod (pSl most p) (λs=>Go.Proofs.YtadlkhfomhgllaaGreat.seqB e s.l) (SlOk most ok) :=
 (h.seqB hm).iso (λl=>(⟨l.isEmpty,l⟩:Sl α)) Sl.l (λs hs=>⟨hs.2,by obtain ⟨n,l⟩:=s; have:=hs.1; simp only at this; rw [this]⟩) (λl hl=>⟨rfl,hl⟩) (λl hl=>rfl)
theorem rq {α β:Type}{f g:α->List β}{l:List α}(h:∀ x∈l,f x=g x):l.flatMap f=l.flatMap g:=by
 induction l with
 | nil=>rfl
 | cons x l ih=>simp only [List.flatMap_cons,h x (by simp),ih λy hy=>h y (by simp [hy])]
theorem sO {α:Type}{e:α->List Int}{f:α->α}(h:∀ x,e (f x)=e x)(l:List α):seqB e (l.map f)=seqB e l:=by
 simp only [seqB,cc,List.flatMap_map]
 congr 1
 exact rq λx _=>h x
def termOk (t:Term):Prop:=(0<=t.kind/\t.kind<256)/\((t.text.size:Int)<=64/\t.text.size<2 ^ 64)
def yP:Pr Term:=(pByte.seq (gN 64)).map λx=>⟨x.1,x.2⟩
theorem term_cod:Cod yP bY termOk :=
 (byte_cod.seq (gU 64)).iso (λx=>(⟨x.1,x.2⟩:Term)) (λt=>(t.kind,t.text)) (λt ht=>⟨ht,rfl⟩) (λx hx=>hx) (λx hx=>by
   simp only [bY,wrap_u8,List.cons_append,List.nil_append]
   congr 1; omega)
def cidrOk (t:Cidr):Prop:=(0<=t.addr/\t.addr<4294967296)/\(0<=t.bits/\t.bits<256)
def uN:Pr Cidr:=(pU32.seq pByte).map λx=>⟨x.1,x.2⟩
theorem cidr_cod:Cod uN jh cidrOk :=
 (u32_cod.seq byte_cod).iso (λx=>(⟨x.1,x.2⟩:Cidr)) (λt=>(t.addr,t.bits)) (λt ht=>⟨ht,rfl⟩) (λx hx=>hx) (λx hx=>by
   simp only [jh,wrap_u8]
   congr 2; omega)
def JN (n:Int):Prop:=0<=n/\n<=65536
def xg:Pr Int:=bT 65536
theorem port_cod:Cod xg ko JN:=by
 have h:=eQ (most:=65536) (by decide);refine ⟨λx hx=>lg _ _,λx l hx=>?_,λb x l hb hx=>?_⟩
 . have e:ko x=aK x:=by rw [ko,wrap_u64]; congr 1; have:=hx.1; have:=hx.2; omega
   rw [e]; exact h.fwd x l hx
 . obtain ⟨a1,a2⟩:=h.bwd b x l hb hx;have e:ko x=aK x:=by rw [ko,wrap_u64]; congr 1; have:=a2.1; have:=a2.2; omega
   exact ⟨by rw [e]; exact a1,a2⟩
abbrev TmOk:Sl Term->Prop:=SlOk 6 termOk
abbrev pTerms:Pr (Sl Term):=pSl 6 yP
theorem terms_cod:Cod pTerms (λs=>seqB bY s.l) TmOk:=term_cod.sl (by decide)
def sourceOk (s:Source):Prop:=TmOk s.names/\TmOk s.spaces/\SlOk 6 cidrOk s.nets
def lC:Pr Source:=(pTerms.seq (pTerms.seq (pSl 6 uN))).map λx=>⟨x.1,x.2.1,x.2.2⟩
theorem source_cod:Cod lC fu sourceOk :=
 (terms_cod.seq (terms_cod.seq (cidr_cod.sl (most:=6) (by decide)))).iso (λx=>(⟨x.1,x.2.1,x.2.2⟩:Source)) (λt=>(t.names,t.spaces,t.nets)) (λt ht=>⟨ht,rfl⟩) (λx hx=>hx) (λx hx=>by
   simp [fu,iq])
def targetOk (s:Target):Prop:=SlOk 6 JN s.ports/\TmOk s.methods/\TmOk s.paths/\TmOk s.hosts
def lD:Pr Target:=((pSl 6 xg).seq (pTerms.seq (pTerms.seq pTerms))).map λx=>⟨x.1,x.2.1,x.2.2.1,x.2.2.2⟩
theorem target_cod:Cod lD fw targetOk :=
 ((port_cod.sl (most:=6) (by decide)).seq (terms_cod.seq (terms_cod.seq terms_cod))).iso (λx=>(⟨x.1,x.2.1,x.2.2.1,x.2.2.2⟩:Target)) (λt=>(t.ports,t.methods,t.paths,t.hosts)) (λt ht=>⟨ht,rfl⟩) (λx hx=>hx) (λx hx=>by
  simp [fw,iq])
def whenOk (s:When):Prop:=((s.head.size:Int)<=64/\s.head.size<2 ^ 64)/\TmOk s.terms
def uP:Pr When:=((gN 64).seq pTerms).map λx=>⟨x.1,x.2⟩
theorem when_cod:Cod uP ku whenOk :=
 ((gU 64).seq terms_cod).iso (λx=>(⟨x.1,x.2⟩:When)) (λt=>(t.head,t.terms)) (λt ht=>⟨ht,rfl⟩) (λx hx=>hx) (λx hx=>by
  simp [ku,iq])
def ruleOk (s:Rule):Prop:=SlOk 3 sourceOk s.frm/\SlOk 3 targetOk s.to/\SlOk 3 whenOk s.whn
def uO:Pr Rule:=((pSl 3 lC).seq ((pSl 3 lD).seq (pSl 3 uP))).map λx=>⟨x.1,x.2.1,x.2.2⟩
theorem rule_cod:Cod uO kr ruleOk :=
 ((source_cod.sl (most:=3) (by decide)).seq ((target_cod.sl (most:=3) (by decide)).seq (when_cod.sl (most:=3) (by decide)))).iso (λx=>(⟨x.1,x.2.1,x.2.2⟩:Rule)) (λt=>(t.frm,t.to,t.whn)) (λt ht=>⟨ht,rfl⟩) (λx hx=>hx) (λx hx=>rfl)
abbrev oz (n:Int):Prop:=0<=n/\n<2 ^ 64
abbrev Ag (most:Int) (s:ByteArray):Prop:=(s.size:Int)<=most/\s.size<2 ^ 64
def polOk (p:Pol):Prop:=oz p.id/\Ag 20 p.ns/\oz p.service/\(0<=p.deny/\p.deny<=1)/\SlOk 6 ruleOk p.rules
def Gz:Pr Pol:=(pUint.seq ((gN 20).seq (pUint.seq ((bT 1).seq (pSl 6 uO))))).map λx=>⟨x.1,x.2.1,x.2.2.1,x.2.2.2.1,x.2.2.2.2⟩
theorem pol_cod:Cod Gz jg polOk :=
 (uint_cod.seq ((gU 20).seq (uint_cod.seq ((eQ (most:=1) (by decide)).seq (rule_cod.sl (most:=6) (by decide)))))).iso (λx=>(⟨x.1,x.2.1,x.2.2.1,x.2.2.2.1,x.2.2.2.2⟩:Pol)) (λt=>(t.id,t.ns,t.service,t.deny,t.rules)) (λt ht=>⟨ht,rfl⟩) (λx hx=>hx) (λx hx=>by
   have e:wrap .u64 x.2.2.2.1=x.2.2.2.1:=by rw [wrap_u64]; omega
   simp [jg,e])
def lh (b:List Int):Option Pol:=match Gz b with
 | some (p,[])=>if bz p=true then some p else none
 | _=>none
theorem IW {p:Pol}(h:polOk p)(hm:bz p=true):lh (jg p)=some p:=by
 have:=pol_cod.fwd p [] h;rw [List.append_nil] at this;rw [lh,this]; simp [hm]
theorem IV {b:List Int}{p:Pol}(hb:byteL b)(h:lh b=some p):b=jg p/\polOk p/\bz p=true:=by
 unfold lh at h;split at h
 . rename_i q h1;split at h
   . rename_i hm;cases h;obtain ⟨a1,a2⟩:=pol_cod.bwd _ _ _ hb h1;exact ⟨by simpa using a1,a2,hm⟩
   . cases h
 . cases h
def iP (most:Int):Pr Pol:=λb=>match gN most b with
 | some (s,l)=>match lh (dA s) with
  | some p=>some (p,l)
  | none=>none
 | none=>none
def JM (most:Int)(p:Pol):Prop:=polOk p/\bz p=true/\((jg p).length:Int)<=most
theorem polT_cod {most:Int}:Cod (iP most) fF (JM most) where
 rng p hp:=(gU ((jg p).length)).rng _ ⟨by rw [jq]; omega,by rw [jq]; have:=oL hp.2.1; omega⟩
 fwd p l hp:=by
  unfold iP fF;rw [(gU most).fwd _ _ ⟨by rw [jq]; exact hp.2.2,by rw [jq]; have:=oL hp.2.1; omega⟩];simp only [mK (pol_cod.rng p hp.1),IW hp.1 hp.2.1]
 bwd b p l hb h:=by
  unfold iP at h;split at h
  . rename_i s m h1;split at h
    . rename_i q h2;cases h;obtain ⟨a1,a2⟩:=(gU most).bwd _ _ _ hb h1;obtain ⟨c1,c2,c3⟩:=IV (lv s) h2;have hs:strOf (jg p)=s:=by rw [← c1,xH]
      refine ⟨by rw [fF,hs]; exact a1,c2,c3,?_⟩;rw [← c1,kQ]; exact a2.1
    . cases h
  . cases h
def podOk (p:Pod):Prop:=oz p.uid/\Ag 20 p.ns/\Ag 20 p.sa/\(0<=p.host/\p.host<=9)/\(0<=p.addr/\p.addr<=4294967295)/\(0<=p.port/\p.port<=65535)/\oz p.service
def BN:Pr Pod:=(pUint.seq ((gN 20).seq ((gN 20).seq ((bT 9).seq ((bT 4294967295).seq ((bT 65535).seq pUint)))))).map λx=>⟨x.1,x.2.1,x.2.2.1,x.2.2.2.1,x.2.2.2.2.1,x.2.2.2.2.2.1,x.2.2.2.2.2.2⟩
theorem pod_cod:Cod BN ll podOk :=
 (uint_cod.seq ((gU 20).seq ((gU 20).seq ((eQ (most:=9) (by decide)).seq ((eQ (most:=4294967295) (by decide)).seq ((eQ (most:=65535) (by decide)).seq uint_cod)))))).iso
   (λx=>(⟨x.1,x.2.1,x.2.2.1,x.2.2.2.1,x.2.2.2.2.1,x.2.2.2.2.2.1,x.2.2.2.2.2.2⟩:Pod)) (λt=>(t.uid,t.ns,t.sa,t.host,t.addr,t.port,t.service)) (λt ht=>⟨ht,rfl⟩) (λx hx=>hx) (λx hx=>by
   obtain ⟨_,_,_,h1,h2,h3,_⟩:=hx;have e1:wrap .u64 x.2.2.2.1=x.2.2.2.1:=by rw [wrap_u64]; omega
   have e2:wrap .u64 x.2.2.2.2.1=x.2.2.2.2.1:=by rw [wrap_u64]; omega
   have e3:wrap .u64 x.2.2.2.2.2.1=x.2.2.2.2.2.1:=by rw [wrap_u64]; omega
   simp [ll,e1,e2,e3])
def svcOk (p:Svc):Prop:=oz p.id/\Ag 20 p.ns/\(0<=p.addr/\p.addr<=4294967295)/\(0<=p.port/\p.port<=65535)/\oz p.way
def BO:Pr Svc:=(pUint.seq ((gN 20).seq ((bT 4294967295).seq ((bT 65535).seq pUint)))).map λx=>⟨x.1,x.2.1,x.2.2.1,x.2.2.2.1,x.2.2.2.2⟩
theorem svc_cod:Cod BO lm svcOk :=
 (uint_cod.seq ((gU 20).seq ((eQ (most:=4294967295) (by decide)).seq ((eQ (most:=65535) (by decide)).seq uint_cod)))).iso
   (λx=>(⟨x.1,x.2.1,x.2.2.1,x.2.2.2.1,x.2.2.2.2⟩:Svc)) (λt=>(t.id,t.ns,t.addr,t.port,t.way)) (λt ht=>⟨ht,rfl⟩) (λx hx=>hx) (λx hx=>by
   obtain ⟨_,_,h1,h2,_⟩:=hx;have e1:wrap .u64 x.2.2.1=x.2.2.1:=by rw [wrap_u64]; omega
   have e2:wrap .u64 x.2.2.2.1=x.2.2.2.1:=by rw [wrap_u64]; omega
   simp [lm,e1,e2])
def wayOk (p:Way):Prop:=oz p.id/\(0<=p.node/\p.node<=9)
def BP:Pr Way:=(pUint.seq (bT 9)).map λx=>⟨x.1,x.2⟩
theorem way_cod:Cod BP pY wayOk :=
 (uint_cod.seq (eQ (most:=9) (by decide))).iso (λx=>(⟨x.1,x.2⟩:Way)) (λt=>(t.id,t.node)) (λt ht=>⟨ht,rfl⟩) (λx hx=>hx) (λx hx=>by
   have e1:wrap .u64 x.2=x.2:=by rw [wrap_u64]; omega
   simp [pY,e1])
def cfgOk (c:Cfg):Prop:=oz c.epoch/\oz c.next/\(0<=c.hosts/\c.hosts<=4)/\(0<=c.ways/\c.ways<=4)/\SlOk 16 podOk c.pods/\SlOk 6 svcOk c.services/\SlOk 4 wayOk c.bound/\SlOk 12 (JM 8192) c.policies
def Gy:Pr Cfg:=(pUint.seq (pUint.seq ((bT 4).seq ((bT 4).seq ((pSl 16 BN).seq ((pSl 6 BO).seq ((pSl 4 BP).seq (pSl 12 (iP 8192))))))))).map λx=>⟨x.1,x.2.1,x.2.2.1,x.2.2.2.1,x.2.2.2.2.1,x.2.2.2.2.2.1,x.2.2.2.2.2.2.1,x.2.2.2.2.2.2.2⟩
theorem cfg_cod:Cod Gy bE cfgOk :=
 (uint_cod.seq (uint_cod.seq ((eQ (most:=4) (by decide)).seq ((eQ (most:=4) (by decide)).seq ((pod_cod.sl (most:=16) (by decide)).seq ((svc_cod.sl (most:=6) (by decide)).seq ((way_cod.sl (most:=4) (by decide)).seq (polT_cod.sl (most:=12) (by decide))))))))).iso
   (λx=>(⟨x.1,x.2.1,x.2.2.1,x.2.2.2.1,x.2.2.2.2.1,x.2.2.2.2.2.1,x.2.2.2.2.2.2.1,x.2.2.2.2.2.2.2⟩:Cfg)) (λt=>(t.epoch,t.next,t.hosts,t.ways,t.pods,t.services,t.bound,t.policies)) (λt ht=>⟨ht,rfl⟩) (λx hx=>hx) (λx hx=>by
   obtain ⟨_,_,h1,h2,_⟩:=hx;have e1:wrap .u64 x.2.2.1=x.2.2.1:=by rw [wrap_u64]; omega
   have e2:wrap .u64 x.2.2.2.1=x.2.2.2.1:=by rw [wrap_u64]; omega
   simp [bE,seqB,e1,e2])
def lM (b:List Int):Option Cfg:=match Gy b with
 | some (c,[])=>if bL c=true/\b.length<=8192 then some c else none
 | _=>none
theorem IU {b:List Int}{c:Cfg}(hb:byteL b)(h:lM b=some c):b=bE c/\cfgOk c/\bL c=true:=by
 unfold lM at h;split at h
 . rename_i q h1;split at h
   . rename_i hm;cases h;obtain ⟨a1,a2⟩:=cfg_cod.bwd _ _ _ hb h1;exact ⟨by simpa using a1,a2,hm.1⟩
   . cases h
 . cases h
theorem DZ (s:Source):fu s.nf=fu s:=by simp [fu,Source.nf,Sl.nf,iq]
theorem Ed (s:Target):fw s.nf=fw s:=by simp [fw,Target.nf,Sl.nf,iq]
theorem KY (s:When):ku s.nf=ku s:=by simp [ku,When.nf,Sl.nf,iq]
theorem Kk (s:Rule):kr s.nf=kr s:=by
 simp only [kr,Rule.nf,Sl.nf,sO DZ,sO Ed,sO KY]
theorem Ms (s:Pol):jg s.nf=jg s:=by
 simp only [jg,Pol.nf,Sl.nf,sO Kk]
theorem JL (s:Pol):fF s.nf=fF s:=by rw [fF,Ms]; rfl
theorem Inr.u64 {n:Int}(h:Inr .u64 n):oz n:=by
 simp [Inr,Lit.wf,IntKind.min,IntKind.max,IntKind.bits,IntKind.signed] at h;exact ⟨h.1,by omega⟩
theorem Inr.u32 {n:Int}(h:Inr .u32 n):0<=n/\n<=4294967295:=by
 simp [Inr,Lit.wf,IntKind.min,IntKind.max,IntKind.bits,IntKind.signed] at h;exact ⟨h.1,by omega⟩
end
section
def Cfg.nf (c:Cfg):Cfg:=⟨c.epoch,c.next,c.hosts,c.ways,c.pods.nf id,c.services.nf id,c.bound.nf id,c.policies.nf Pol.nf⟩
theorem Cfg.same_iff {a b:Cfg}:a.same b=true↔a.nf=b.nf:=by
 simp only [Cfg.same,ap,beq_iff_eq,fP (g:=id) (λx y=>Pod.eqB_iff (x:=x) (y:=y)),fP (g:=id) (λx y=>Svc.eqB_iff (x:=x) (y:=y)),fP (g:=id) (λx y=>Way.eqB_iff (x:=x) (y:=y)),fP (λx y=>Pol.same_iff (a:=x) (b:=y)),Cfg.nf,Cfg.mk.injEq,Sl.nf_iff,and_assoc]
theorem yB (c:Cfg):bE c.nf=bE c:=by
 have h:(c.policies.l.map Pol.nf).flatMap fF=c.policies.l.flatMap fF:=by
  rw [List.flatMap_map]; exact rq λp _=>JL p
 simp only [bE,Cfg.nf,Sl.nf,List.map_id,cc,h]
theorem uA {c d:Cfg}(h:c.nf=d.nf):bE c=bE d:=by rw [← yB c,← yB d,h]
end
section
def Step {α:Type}(p:Pr α)(st:Option (List Int))(x:α)(st':Option (List Int)):Prop:=match st with
 | none=>st'=none
 | some b=>match p b with
  | some (y,l)=>x=y/\st'=some l
  | none=>st'=none
theorem Step.seq {α β:Type}{p:Pr α}{q:Pr β}{s s1 s2:Option (List Int)}{x:α}{y:β}(h:Step p s x s1)(k:Step q s1 y s2):Step (p.seq q) s (x,y) s2:=by
 unfold Step at *;cases s with
 | none=>simp only at h ⊢; subst h; exact k
 | some b =>
  simp only [Pr.seq] at h ⊢;cases hp:p b with
  | none=>rw [hp] at h; simp only at h ⊢; subst h; exact k
  | some z =>
   obtain ⟨z,l⟩:=z;rw [hp] at h;simp only at h ⊢;obtain ⟨rfl,rfl⟩:=h;simp only at k;cases hq:q l with
   | none=>rw [hq] at k; exact k
   | some w =>
    obtain ⟨w,m⟩:=w;rw [hq] at k;simp only at k ⊢;exact ⟨by rw [k.1],k.2⟩
theorem Step.map {α β:Type}{p:Pr α}{s s1:Option (List Int)}{x:α}(f:α->β)(h:Step p s x s1):Step (p.map f) s (f x) s1:=by
 unfold Step at *;cases s with
 | none=>exact h
 | some b =>
  simp only [Pr.map] at h ⊢;cases hp:p b with
  | none=>rw [hp] at h; exact h
  | some z =>
   obtain ⟨z,l⟩:=z;rw [hp] at h;simp only at h ⊢;exact ⟨by rw [h.1],h.2⟩
theorem Step.nil {α:Type}{p:Pr α}{s:Option (List Int)}:Step (gX p 0) s [] s:=by
 cases s<;>simp [Step,gX,Pr.ret]
theorem Step.row {α:Type}{p:Pr α}{s s1 s2:Option (List Int)}{x:α}{l:List α}{n:Nat}(h:Step p s x s1)(k:Step (gX p n) s1 l s2):Step (gX p (n+1)) s (x::l) s2:=by
 have:=(h.seq k).map (λx=>x.1::x.2);exact this
def StepZ (p:Pr Int)(s:Option (List Int))(n:Int)(s':Option (List Int)):Prop:=Step p s n s'/\(s'=none->n=0)
theorem StepZ.seq {α:Type}{p:Pr α}{most n:Int}{s s1 s2:Option (List Int)}{l:List α}(h:StepZ (bT most) s n s1)(k:Step (gX p n.toNat) s1 l s2):Step (GA most p) s l s2:=by
 obtain ⟨h,hz⟩:=h;unfold Step at *;cases s with
 | none =>
  simp only at h ⊢;subst h;exact k
 | some b =>
  simp only [GA] at h ⊢;cases hp:bT most b with
  | none=>rw [hp] at h; simp only at h ⊢; subst h; exact k
  | some z =>
   obtain ⟨z,m⟩:=z;rw [hp] at h;simp only at h ⊢;obtain ⟨rfl,rfl⟩:=h;exact k
def Hng (w:Bool)(K:Nat->Prop)(bs:List Blk)(v:V)(d:D)(k:Nat):Prop:=∀ bs' lo,(∀ x,K x->bs'[x]?=bs[x]?)->∀ j,k<=j->dataV ⟨bs',lo⟩ j v=some d/\(w=true->lS ⟨bs',lo⟩ j v=true)
variable {w:Bool}
theorem Hng.d {K:Nat->Prop}{bs:List Blk}{d:D}{k:Nat}(h:∀ nl c cs,d≠.slice nl (c::cs)):Hng w K bs (.d d) d k:=λbs' lo _ j _=>by
 refine ⟨by cases j<;>rfl,λ_=>?_⟩;cases d with
 | slice nl es =>
  cases es with
  | nil=>cases j<;>rfl
  | cons c cs=>exact absurd rfl (h nl c cs)
 | _=>cases j<;>rfl
theorem Hng.on {K K':Nat->Prop}{bs bs':List Blk}{v:V}{d:D}{k:Nat}(h:Hng w K bs v d k)(hb:∀ x,K x->bs'[x]?=bs[x]?)(hK:∀ x,K x->K' x):Hng w K' bs' v d k :=
 λbs2 lo h2 j hj=>h bs2 lo (λx hx=>(h2 x (hK x hx)).trans (hb x hx)) j hj
theorem Hng.up {K:Nat->Prop}{bs:List Blk}{v:V}{d:D}{k k':Nat}(h:Hng w K bs v d k)(hk:k<=k'):Hng w K bs v d k':=λbs2 lo h2 j hj=>h bs2 lo h2 j (ch hk hj)
def Hngs (w:Bool)(K:Nat->Prop)(bs:List Blk)(k:Nat):List V->List D->Prop
 | [],[]=>True
 | v::vs,d::ds=>Hng w K bs v d k/\Hngs w K bs k vs ds
 | _,_=>False
theorem Hngs.on {K K':Nat->Prop}{bs bs':List Blk}{k:Nat}(hb:∀ x,K x->bs'[x]?=bs[x]?)(hK:∀ x,K x->K' x):∀ {vs:List V} {ds:List D},Hngs w K bs k vs ds->Hngs w K' bs' k vs ds
 | [],[],_=>trivial
 | _::_,_::_,h=>⟨h.1.on hb hK,Hngs.on hb hK h.2⟩
 | [],_::_,h=>h.elim
 | _::_,[],h=>h.elim
theorem Hngs.app {K:Nat->Prop}{bs:List Blk}{k:Nat}:∀ {vs ws:List V} {ds es:List D},Hngs w K bs k vs ds->Hngs w K bs k ws es->Hngs w K bs k (vs++ws) (ds++es)
 | [],_,[],_,_,h=>h
 | _::_,_,_::_,_,h,h'=>⟨h.1,Hngs.app h.2 h'⟩
 | [],_,_::_,_,h,_=>h.elim
 | _::_,_,[],_,h,_=>h.elim
theorem Hngs.len {K:Nat->Prop}{bs:List Blk}{k:Nat}:∀ {vs:List V} {ds:List D},Hngs w K bs k vs ds->vs.length=ds.length
 | [],[],_=>rfl
 | _::_,_::_,h=>by simp [Hngs.len h.2]
 | [],_::_,h=>h.elim
 | _::_,[],h=>h.elim
theorem Hngs.up {K:Nat->Prop}{bs:List Blk}{k k':Nat}(hk:k<=k'):∀ {vs:List V} {ds:List D},Hngs w K bs k vs ds->Hngs w K bs k' vs ds
 | [],[],_=>trivial
 | _::_,_::_,h=>⟨h.1.up hk,Hngs.up hk h.2⟩
 | [],_::_,h=>h.elim
 | _::_,[],h=>h.elim
theorem Hngs.mapM {K:Nat->Prop}{bs:List Blk}{k:Nat}{bs':List Blk}{lo:Nat}(hb:∀ x,K x->bs'[x]?=bs[x]?){j:Nat}(hj:k<=j):∀ {vs:List V} {ds:List D},Hngs w K bs k vs ds->vs.mapM (dataV ⟨bs',lo⟩ j)=some ds/\(w=true->vs.all (lS ⟨bs',lo⟩ j)=true)
 | [],[],_=>⟨rfl,λ_=>rfl⟩
 | v::vs,d::ds,h=>by
  obtain ⟨a1,a2⟩:=h.1 bs' lo hb j hj;obtain ⟨b1,b2⟩:=Hngs.mapM (lo:=lo) hb hj h.2;refine ⟨?_,λhw=>by simp [a2 hw,b2 hw]⟩;rw [List.mapM_cons,a1,b1];rfl
 | [],_::_,h=>h.elim
 | _::_,[],h=>h.elim
theorem iT {z:Nat}:∀ (es:List (List D)),(∀ e∈es,e.length=z)->dataV.chunks z es.flatten es.length=es
 | [],_=>rfl
 | e::es,h=>by
  have he:e.length=z:=h e (by simp);simp only [List.flatten_cons,cj,dataV.chunks];rw [List.take_left' he,List.drop_left' he,iT es λx hx=>h x (by simp [hx])]
theorem Hng.row {K:Nat->Prop}{bs:List Blk}{k b n z:Nat}{cap:Option Nat}{cs:List V}{es:List (List D)}(hKb:K b)(hb:aa bs b=some cs)(hcs:Hngs w K bs k cs es.flatten)(hz:∀ e∈es,e.length=z)(hn:n=es.length) :
 Hng w K bs (.row b 0 n cap z) (.slice false es) (k+1):=by
 intro bs' lo h j hj;cases j with
 | zero=>omega
 | succ j =>
  have hg:Hp.get ⟨bs',lo⟩ b=some cs:=by
   unfold aa at hb;simp only [Hp.get,h b hKb];split at hb
   . rename_i hb2; rw [hb2]; simpa using hb
   . cases hb
  obtain ⟨m1,m2⟩:=Hngs.mapM (lo:=lo) h (show k<=j by omega) hcs;have hlen:cs.length=n * z:=by
   rw [hcs.len,hn,List.length_flatten];have:es.map List.length=List.replicate es.length z:=by
    rw [List.eq_replicate_iff];exact ⟨by simp,λx hx=>by obtain ⟨e,he,rfl⟩:=cd.1 hx; exact hz e he⟩
   rw [this]; simp
  have hs:sub cs 0 (n * z)=some cs:=by
   unfold sub;rw [if_pos (by omega)];simp [← hlen]
  refine ⟨?_,?_⟩
  . simp only [dataV,hg,hs,m1];rw [hn,iT es hz]
  . intro hw;simp only [lS,hg];exact m2 hw
theorem Hng.data {K:Nat->Prop}{bs:List Blk}{d:D}{k:Nat}:Hng false K bs (.d d) d k:=λbs' lo _ j _=>⟨by cases j<;>rfl,λh=>by cases h⟩
theorem Hng.weak {K:Nat->Prop}{bs:List Blk}{v:V}{d:D}{k:Nat}(h:Hng true K bs v d k):Hng false K bs v d k:=λbs' lo hb j hj=>⟨(h bs' lo hb j hj).1,λh=>by cases h⟩
theorem Hngs.data {K:Nat->Prop}{bs:List Blk}{k:Nat}:∀ {ds:List D},Hngs false K bs k (ds.map .d) ds
 | []=>trivial
 | _::_=>⟨Hng.data,Hngs.data⟩
end
