/- config.rises, config.some: at any width. -/
import Derived.Test.YtadlkhfomhgllaaGreatMa
import Derived.Test.YtadlkhfomhgllaaGreatSx
import Derived.KernelRfl
set_option maxRecDepth 100000
set_option linter.unusedVariables false
set_option linter.unusedSimpArgs false
namespace Go.Proofs.YtadlkhfomhgllaaGreat
open IntKind (wrap)
section
def fH:List Int->Bool
 | x::y::l=>decide (x<y)&&fH (y::l)
 | _=>true
theorem Ce {l:List Int}{i:Nat}(h:i+1<l.length):fH (l.drop i)=(decide (l[i]<l[i+1])&&fH (l.drop (i+1))):=by
 rw [aq (show i<l.length by omega),aq h];simp only [fH]
theorem DN {l:List Int}{i:Nat}(h:l.length<=i+1):fH (l.drop i)=true:=by
 have:(l.drop i).length<=1:=by simp only [List.length_drop]; omega
 match l.drop i,this with
 | [],_=>rfl
 | [_],_=>rfl
 | _::_::_,h=>simp at h
theorem EN {α:Type}{cells:α->List D}{z:Nat}(hz:∀ x,(cells x).length=z){s:Sl α}{i:Nat}(hi:i<s.l.length){kd:IntKind}{h:Hp}:eY none z (.d (s.d cells)) (.d (.int kd i)) h=some (.eptr (cells s.l[i]) 0,h):=by
 simp [eY,Sl.d,hi,hz]
section
variable {E:Calls'}{T:FuncId->Option QF}{val:FuncId->Bool}
theorem Ke {α:Type}{cells:α->List D}{z:Nat}(hz:∀ x,(cells x).length=z){s:Sl α}(hs:s.l.length<2 ^ 62){f:FuncId}{g:α->Int}(hf:∀ e∈s.l,∀ h,Sm E T val f [ag (cells e)] h=some (.d (u64 (g e)),h)):∀ (m i:Nat),i+m=s.l.length->1<=i →
 Cd E T val (.loop [0,1,7,8] (xz z)) [(0,.d (s.d cells)),(1,.fn f []),(7,.d (i64 s.l.length)),(8,.d (i64 i))] ⟨[],0⟩ =
  if fH ((s.l.map g).drop (i-1)) then some (.exit 0,[],⟨[],0⟩) else some (.ret,[(4,bl false)],⟨[],0⟩):=by
 intro m;have key:=aB (E:=E) (T:=T) (val:=val) [0,1,7,8] (xz z);generalize Cd E T val (.loop [0,1,7,8] (xz z))=W at key ⊢
 induction m with
 | zero =>
  intro i hi h1;rw [key,DN (by simp; omega)];simp [xz,show ¬ ((i:Int)<s.l.length) from by omega]
 | succ m ih =>
  intro i hi h1;have hlt:i<s.l.length:=by omega
  have hd:=Ce (l:=s.l.map g) (i:=i-1) (by simp; omega);have hs1:i-1+1=i:=by omega
  simp only [hs1,List.getElem_map] at hd;have hp1:=λh=>EN (cells:=cells) hz hlt (kd:=.i64) (h:=h);have hp0:=λh=>EN (cells:=cells) hz (show i-1<s.l.length by omega) (kd:=.i64) (h:=h);have c1:=hf _ (bd hlt);have c0:=hf _ (bd (show i-1<s.l.length by omega));have hw:=ax hlt hs;have hwm:wrap .i64 ((i:Int)-1)=((i-1:Nat):Int):=by rw [wrap64]<;>omega
  have hpos:0<i:=h1;have hih:=ih (i+1) (by omega) (by omega);simp only [show i+1-1=i by omega] at hih;rw [key,hd];generalize s.l[i]=y at *;generalize s.l[i-1]=x at *;have hsx:=bB (hz x);have hsy:=bB (hz y);by_cases hg:g x<g y
  . simp +decide [xz,hp1,hp0,hsx,hsy,hwm,hw,hpos,c0,c1,hlt,hg,aL,aC,show ¬ (g x>=g y) from by omega];simpa using hih
  . simp +decide [xz,hp1,hp0,hsx,hsy,hwm,hpos,c0,c1,hlt,hg,aL,aC,show g x>=g y from by omega]
theorem uT {α:Type}{cells:α->List D}{z:Nat}{id:FuncId}(ht:T id=some (risQ z))(hv:val id=true)(hz:∀ x,(cells x).length=z){s:Sl α}(hs:s.l.length<2 ^ 62){f:FuncId}{g:α->Int}(hf:∀ e∈s.l,∀ h,Sm E T val f [ag (cells e)] h=some (.d (u64 (g e)),h))(h:Hp) :
 Sm E T val id [.d (s.d cells),.fn f []] h=some (bl (fH (s.l.map g)),h):=by
 rw [aY ht hv];have hfr:frz h (.fn f [])=some (.fn f []):=rfl;have key:=aB (E:=E) (T:=T) (val:=val) [0,1,7,8] (xz z);have hl:=Ke (E:=E) (T:=T) (val:=val) hz hs hf;simp [ae,risQ,hfr];rw [ai];simp only [Dh,Gd];simp;generalize Cd E T val (.loop [0,1,7,8] (xz z))=W at key hl ⊢;by_cases h0:s.l=[]
 . rw [key];simp [xz,h0,fH,fI]
 . have hpos:0<s.l.length:=List.length_pos_iff.2 h0;have h1:=hl (s.l.length-1) 1 (by omega) (by omega);simp at h1;rw [key];have hw:=ax hpos hs;simp at hw;simp +decide [xz,aL,bR,hpos,hw,h1];cases fH (s.l.map g)<;>simp [fI]
theorem zm {con id:FuncId}(ht:T id=some (someQ con))(hv:val id=false){v:V}{f:FuncId}{caps:List V}{b:Bool}{h:Hp}(hnu:nu v=some v)(hok:okV v=true)(hc:Sm E T val con [v,.fn f caps] ⟨h.bs,h.bs.length⟩=some (bl b,⟨h.bs,h.bs.length⟩)) :
 Sm E T val id [v,.fn f caps] h=some (bl b,h):=by
 rw [aM ht hv];simp [someQ,ae,hnu,hok,hc,V.under]
end
end
section
def chg:List Int->Nat
 | x::y::l=>(if x=y then 0 else 1)+chg (y::l)
 | _=>0
theorem wz:∀ l:List Int,chg l<=l.length-1
 | []=>by simp [chg]
 | [_]=>by simp [chg]
 | x::y::l=>by
  have:=wz (y::l);simp only [chg,cj] at this ⊢;split<;>omega
theorem AU {zs:List Int}{i:Nat}(h:i+1<zs.length):chg (zs.drop i)=(if zs[i]=zs[i+1] then 0 else 1)+chg (zs.drop (i+1)):=by
 rw [aq (show i<zs.length by omega),aq h];simp only [chg]
def qj (zs:List Int):Nat:=if zs=[] then 0 else 1+chg zs
def iv (kd:IntKind)(z:Int):V:=.d (.int kd z)
def Mr (bs:List Blk)(b:Nat)(cur:List V)(lo:Nat):Hp:=⟨bs.set b (.cells cur),lo⟩
section
variable {bs:List Blk}{b lo:Nat}{cur:List V}
theorem CF (hb:b<bs.length):aa (Mr bs b cur lo).bs b=some cur:=by simp [Mr,aa,hb]
theorem Er (hb:b<bs.length){k:Nat}{v:V}(hk:cur[k]?=some v):ldv (Mr bs b cur lo) (.ptr b k) 1 true=some (v,Mr bs b cur lo):=by
 obtain ⟨h1,h2⟩:=bx.1 hk;have hs:sub cur k 1=some [v]:=by
  rw [iy,if_pos (by omega),aq h1,h2]; rfl
 rw [dw,get_eq,CF hb];simp only [hs]; rfl
theorem UU (hb:b<bs.length){k:Nat}{x:D}(hk:k<cur.length):stv (Mr bs b cur lo) (.ptr b k) (.d x) 1=some (.undef,Mr bs b (cur.set k (.d x)) (min lo b)):=by
 have hp:put cur k [V.d x]=some (cur.set k (.d x)):=by
  unfold put;rw [if_pos (by simp only [cj,ck]; omega),List.set_eq_take_append_cons_drop,if_pos hk]; simp
 have hg:=CF (lo:=lo) (cur:=cur) hb;simp [stv,V.cells,storeAt,hg,hp];simp [Hp.set,Mr]
theorem jU {b o n z:Nat}{cap:Option Nat}{kd:IntKind}{i:Nat}{h:Hp}(hi:i<n):eY none z (.row b o n cap z) (.d (.int kd i)) h=some (.ptr b (o+i * z),h):=by
 simp [eY,hi]
end
section
variable {E:Calls'}{T:FuncId->Option QF}{val:FuncId->Bool}{kd:IntKind}
theorem Qz {bs:List Blk}{b:Nat}(hb:b<bs.length){zs:List Int}{cap cap2:Option Nat}(hn:zs.length<2 ^ 62){k0:Nat}(hk0:1<=k0)(hk1:k0<zs.length):∀ (m i k:Nat) (cur:List V) (lo:Nat),k0+i+m=zs.length->1<=i->k<k0+i->cur.length=zs.length->(∀ j (hj:j<zs.length),k<=j->cur[j]?=some (iv kd zs[j])) →
 ∃ cur' lo',Cd E T val (.loop [0,3,4,5] (wC kd)) [(0,.row b 0 zs.length cap 1),(3,.d (i64 k)),(4,.row b k0 (zs.length-k0) cap2 1),(5,.d (i64 i))] (Mr bs b cur lo) =
  some (.exit 2,[(0,.row b 0 zs.length cap 1),(3,.d (i64 (k+chg (zs.drop (k0+i-1)):Nat)))],Mr bs b cur' lo')/\cur'.length=zs.length/\(lo'=lo\/lo'=min lo b):=by
 intro m;have key:=aB (E:=E) (T:=T) (val:=val) [0,3,4,5] (wC kd);generalize Cd E T val (.loop [0,3,4,5] (wC kd))=W at key ⊢
 induction m with
 | zero =>
  intro i k cur lo hi h1 hk hl hc;have h0:chg (zs.drop (k0+i-1))=0:=by
   have:=wz (zs.drop (k0+i-1));simp only [List.length_drop] at this;omega
  refine ⟨cur,lo,?_,hl,.inl rfl⟩;rw [key,h0];simp [wC,show ¬ ((i:Int)<((zs.length-k0:Nat):Int)) from by omega]
 | succ m ih =>
  intro i k cur lo hi h1 hk hl hc;have hlt:i<zs.length-k0:=by omega
  have e1:=hc (k0+i) (by omega) (by omega);have e0:=hc (k0+i-1) (by omega) (by omega);have hd:=AU (zs:=zs) (i:=k0+i-1) (by omega);have hs:k0+i-1+1=k0+i:=by omega
  simp only [hs] at hd;rw [hd];have hw:=ax (show i<zs.length by omega) hn;have hwk:=ax (show k<zs.length by omega) hn;have hwm:wrap .i64 ((i:Int)-1)=((i-1:Nat):Int):=by rw [wrap64]<;>omega
  have i1:=λh=>jU (b:=b) (o:=k0) (z:=1) (cap:=cap2) (kd:=.i64) (h:=h) hlt;have i0:=λh=>jU (b:=b) (o:=k0) (z:=1) (cap:=cap2) (kd:=.i64) (h:=h) (show i-1<zs.length-k0 by omega);have ik:=λh=>jU (b:=b) (o:=0) (z:=1) (cap:=cap) (kd:=.i64) (h:=h) (show k<zs.length by omega);simp only [Nat.mul_one,show k0+(i-1)=k0+i-1 by omega,Nat.zero_add] at i1 i0 ik;have l1:=Er (lo:=lo) hb e1;have l0:=Er (lo:=lo) hb e0;generalize zs[k0+i]'(by omega)=y at *;generalize zs[k0+i-1]'(by omega)=x at *;by_cases hxy:x=y
  . obtain ⟨cur',lo',k1,k2,k3⟩:=ih (i+1) k cur lo (by omega) (by omega) (by omega) hl hc;refine ⟨cur',lo',?_,k2,k3⟩;rw [key];simp only [hxy,if_true,Nat.zero_add];simp only [show k0+(i+1)-1=k0+i by omega] at k1;subst hxy;simp [wC,i1,i0,l1,l0,iv,hw,hwm,show ((i:Int)<((zs.length-k0:Nat):Int)) from by omega,-dw];simpa using k1
  . have st:=UU (lo:=lo) (x:=.int kd y) hb (show k<cur.length by omega);obtain ⟨cur',lo',k1,k2,k3⟩:=ih (i+1) (k+1) (cur.set k (.d (.int kd y))) (min lo b) (by omega) (by omega) (by omega) (by simpa using hl) (by
     intro j hj hkj;rw [ac (by omega)];exact hc j hj (by omega))
    refine ⟨cur',lo',?_,k2,by obtain k3 | k3:=k3<;>omega⟩;rw [key];simp only [hxy,if_false];simp only [show k0+(i+1)-1=k0+i by omega] at k1;have hyx:¬ y=x:=λh=>hxy h.symm;simp [wC,i1,i0,ik,l1,l0,st,iv,hw,hwk,hwm,hyx,show ((i:Int)<((zs.length-k0:Nat):Int)) from by omega,-dw,-sP];rw [show ((k:Int)+(1+(chg (zs.drop (k0+i)):Int)))=((k+1+chg (zs.drop (k0+i)):Nat):Int) by omega];simpa using k1
theorem IM {h:Hp}{ev:X->V}{b n:Nat}{cap:Option Nat}{x:X}{k:Nat}(hx:ev x=.d (i64 k))(hk:k<n)(h1:1<=k):bM h ev .sl 1 (.row b 0 n cap 1) (some x) none none=some (.row b k (n-k) (cap.map (· - k)) 1):=by
 simp only [bM,bD,hx];rw [if_pos (by omega)];simp only [Int.toNat_natCast];rw [if_pos ⟨by omega,by omega,trivial⟩,if_neg (by omega),if_pos hk]; simp
theorem LA {C:Calls'}{bs:List Blk}{b lo:Nat}{cur:List V}(hb:b<bs.length){n k:Nat}{cap:Option Nat}{e:EA}{x:X}{zero:V}(he:x.ea e=.row b k (n-k) cap 1)(hc:cur.length=n)(hk:k<n) :
 ∃ cur',cur'.length=n/\opE C (.clear 1 [zero] x) (X.ea e) (Mr bs b cur lo)=some (.undef,Mr bs b cur' (min lo b)):=by
 have hr:((List.replicate (n-k) [zero]).flatten).length=n-k:=by simp
 have hp:put cur k (List.replicate (n-k) [zero]).flatten=some (cur.take k++(List.replicate (n-k) [zero]).flatten++cur.drop (k+(n-k))):=by
  unfold put;rw [if_pos (by rw [hr]; omega),hr]
 refine ⟨cur.take k++(List.replicate (n-k) [zero]).flatten++cur.drop (k+(n-k)),by simp only [ao,hr,List.length_take,List.length_drop]; omega,?_⟩;have hne:¬ (n-k) * 1=0:=by omega
 simp only [opE,he,if_true,get_eq,CF hb,if_neg hne,hp];simp [Hp.set,Mr]
theorem LB {bs:List Blk}{b lo:Nat}(hb:b<bs.length){zs:List Int}{cap:Option Nat}(hn:zs.length<2 ^ 62):∀ (m k:Nat),k+m=zs.length->1<=k →
 ∃ cur' lo',(Cd E T val (.loop [0,3] (uD kd)) [(0,.row b 0 zs.length cap 1),(3,.d (i64 k))] (Mr bs b (zs.map (iv kd)) lo)=some (.ret,[(2,.row b 0 (k+chg (zs.drop (k-1))) cap 1)],Mr bs b cur' lo')/\cur'.length=zs.length/\lo'=min lo b ∨
  Cd E T val (.loop [0,3] (uD kd)) [(0,.row b 0 zs.length cap 1),(3,.d (i64 k))] (Mr bs b (zs.map (iv kd)) lo)=some (.exit 0,[(0,.row b 0 zs.length cap 1)],Mr bs b (zs.map (iv kd)) lo)/\k+chg (zs.drop (k-1))=zs.length):=by
 intro m;have key:=aB (E:=E) (T:=T) (val:=val) [0,3] (uD kd);generalize Cd E T val (.loop [0,3] (uD kd))=W at key ⊢
 induction m with
 | zero =>
  intro k hk h1;have h0:chg (zs.drop (k-1))=0:=by
   have:=wz (zs.drop (k-1));simp only [List.length_drop] at this;omega
  refine ⟨[],0,.inr ⟨?_,by omega⟩⟩;rw [key];simp [uD,show ¬ ((k:Int)<(zs.length:Int)) from by omega]
 | succ m ih =>
  intro k hk h1;have hlt:k<zs.length:=by omega
  have e1:(zs.map (iv kd))[k]?=some (iv kd zs[k]):=by simp [hlt]
  have e0:(zs.map (iv kd))[k-1]?=some (iv kd (zs[k-1]'(by omega))):=by rw [List.getElem?_map,ab (show k-1<zs.length by omega)]; rfl
  have hd:=AU (zs:=zs) (i:=k-1) (by omega);have hs:k-1+1=k:=by omega
  simp only [hs] at hd;have hw:=ax hlt hn;have hwm:wrap .i64 ((k:Int)-1)=((k-1:Nat):Int):=by rw [wrap64]<;>omega
  have i1:=λh=>jU (b:=b) (o:=0) (z:=1) (cap:=cap) (kd:=.i64) (h:=h) hlt;have i0:=λh=>jU (b:=b) (o:=0) (z:=1) (cap:=cap) (kd:=.i64) (h:=h) (show k-1<zs.length by omega);simp only [Nat.mul_one,Nat.zero_add] at i1 i0;have l1:=Er (lo:=lo) hb e1;have l0:=Er (lo:=lo) hb e0;have hin:=Qz (E:=E) (T:=T) (val:=val) (kd:=kd) hb (zs:=zs) (cap:=cap) (cap2:=cap.map (· - k)) hn h1 hlt (zs.length-k-1) 1 k (zs.map (iv kd)) lo (by omega) (by omega) (by omega) (by simp) (λj hj _=>by simp [hj]);have hcl:=wz (zs.drop k);simp only [List.length_drop] at hcl;rw [hd];generalize zs[k]'(by omega)=y at *;generalize zs[k-1]'(by omega)=x at *;by_cases hxy:x=y
  . obtain ⟨cur',lo',k1,k2,k3⟩:=hin;simp only [show k+1-1=k by omega] at k1;have hK:k+chg (zs.drop k)<zs.length:=by omega
    generalize hKe:k+chg (zs.drop k)=K at *;obtain ⟨cur2,c1,c2⟩:=LA (C:=Sm E T val) (lo:=lo') hb (cur:=cur') (e:=[(56,.row b K (zs.length-K) (cap.map (· - K)) 1),(55,.d (i64 K)),(54,.row b 0 zs.length cap 1),(0,.row b 0 zs.length cap 1),(3,.d (i64 K))]) (x:=.t 56) (n:=zs.length) (k:=K) (cap:=cap.map (· - K)) (zero:=.d (.int kd 0)) (by simp) k2 hK;have sl1:=λh=>IM (h:=h) (ev:=X.ea [(27,.d (i64 k)),(26,.row b 0 zs.length cap 1),(25,.d (.bool true)),(24,iv kd x),(23,.ptr b (k-1)),(22,.d (i64 (k-1:Nat))),(21,.d (i64 k)),(20,.row b 0 zs.length cap 1),(19,iv kd y),(18,.ptr b k),(17,.d (i64 k)),(16,.row b 0 zs.length cap 1),(13,.d (.bool true)),(12,.d (i64 zs.length)),(11,.row b 0 zs.length cap 1),(10,.d (i64 k)),(0,.row b 0 zs.length cap 1),(3,.d (i64 k))]) (x:=.t 27) (b:=b) (n:=zs.length) (cap:=cap) (k:=k) (by simp) hlt h1;have sl2:=λh=>IM (h:=h) (ev:=X.ea [(55,.d (i64 K)),(54,.row b 0 zs.length cap 1),(0,.row b 0 zs.length cap 1),(3,.d (i64 K))]) (x:=.t 55) (b:=b) (n:=zs.length) (cap:=cap) (k:=K) (by simp) hK (by omega);have sl3:=λh=>Cm (h:=h) (ev:=X.ea [(58,.d (i64 K)),(57,.row b 0 zs.length cap 1),(56,.row b K (zs.length-K) (cap.map (· - K)) 1),(55,.d (i64 K)),(54,.row b 0 zs.length cap 1),(0,.row b 0 zs.length cap 1),(3,.d (i64 K))]) (x:=.t 58) (b:=b) (z:=1) (len:=zs.length) (cap:=cap) (n:=K) (by simp) (by omega);refine ⟨cur2,min lo' b,.inl ⟨?_,c1,by obtain k3 | k3:=k3<;>omega⟩⟩;rw [key];simp only [hxy,if_true,Nat.zero_add]
    subst hxy;simp [iv] at sl1;simp [uD,i1,i0,l1,l0,iv,hwm,hlt,sl1,-dw];rw [ai];simp at k1;simp [k1,sl2];rw [c2];simp [sl3,hKe]
  . obtain ⟨cur',lo',hh⟩:=ih (k+1) (by omega) (by omega);simp only [show k+1-1=k by omega] at hh;refine ⟨cur',lo',?_⟩;rw [key];have hyx:¬ y=x:=λh=>hxy h.symm;have hadd:k+(1+chg (zs.drop k))=k+1+chg (zs.drop k):=by omega
    simp only [hxy,if_false,hadd];simp [uD,i1,i0,l1,l0,iv,hwm,hw,hlt,hyx,-dw];simpa using hh
theorem yo {id:FuncId}(ht:T id=some (cmpQ kd))(hv:val id=false){zs:List Int}{b:Nat}{cap:Option Nat}{h:Hp}(hb:aa h.bs b=some (zs.map (iv kd)))(hn:zs.length<2 ^ 62) :
 ∃ h',Sm E T val id [.row b 0 zs.length cap 1] h=some (.row b 0 (qj zs) cap 1,h')/\(h'=h\/∃ cur,h'=⟨h.bs.set b (.cells cur),min h.low b⟩):=by
 have hbl:=aN hb;have hset:h.bs.set b (.cells (zs.map (iv kd)))=h.bs:=by
  apply List.ext_getElem?;intro i;by_cases hi:b=i
  . subst hi;rw [List.getElem?_set_self hbl];unfold aa at hb;split at hb
    . rename_i hh; cases hb; exact hh.symm
    . cases hb
  . rw [ac hi]
 have hM:(⟨h.bs,h.bs.length⟩:Hp)=Mr h.bs b (zs.map (iv kd)) h.bs.length:=by simp [Mr,hset]
 rw [aM ht hv,hM];by_cases h2:zs.length<2
 . refine ⟨h,?_,.inl rfl⟩;have:qj zs=zs.length:=by
    match zs,h2 with
    | [],_=>rfl
    | [x],_=>rfl
    | _::_::_,h2=>simp at h2; omega
   simp [cmpQ,ae,show ((zs.length:Int)<2) from by omega,this,V.under,hbl];simp [Mr]
 . have hne:zs≠[]:=by rintro rfl; simp at h2
   obtain ⟨cur',lo',hh | hh⟩:=LB (E:=E) (T:=T) (val:=val) (kd:=kd) (lo:=h.bs.length) (cap:=cap) hbl hn (zs.length-1) 1 (by omega) (by omega)
   . obtain ⟨k1,k2,k3⟩:=hh;have hlo:lo'=b:=by omega
     subst hlo;refine ⟨_,?_,.inr ⟨cur',rfl⟩⟩;simp at k1;simp [cmpQ,ae,show ¬ ((zs.length:Int)<2) from by omega];rw [ai];simp [k1,qj,hne,V.under,hbl];simp [Mr,show ¬ (h.bs.length<=lo') from by omega]
   . obtain ⟨k1,k2⟩:=hh;refine ⟨h,?_,.inl rfl⟩;simp at k1 k2;simp [cmpQ,ae,show ¬ ((zs.length:Int)<2) from by omega];rw [ai];simp [k1,qj,hne,V.under,hbl,k2];simp [Mr]
end
end
section
def Inr (k:IntKind)(n:Int):Prop:=(Lit.int k n).wf=true
def Pod.wf (B:Nat)(p:Pod):Prop:=Inr .u64 p.uid/\p.ns.size<=B/\p.sa.size<=B/\Inr .i64 p.host/\Inr .u32 p.addr/\Inr .i64 p.port/\Inr .u64 p.service
def Svc.wf (B:Nat)(p:Svc):Prop:=Inr .u64 p.id/\p.ns.size<=B/\Inr .u32 p.addr/\Inr .i64 p.port/\Inr .u64 p.way
def Way.wf (B:Nat)(p:Way):Prop:=Inr .u64 p.id/\Inr .i64 p.node
def Term.wf (B:Nat)(p:Term):Prop:=Inr .i64 p.kind/\p.text.size<=B
def Cidr.wf (B:Nat)(p:Cidr):Prop:=Inr .u32 p.addr/\Inr .i64 p.bits
def Jm (B:Nat)(n:Int):Prop:=Inr .i64 n
def Sl.wf {α:Type}(B:Nat)(f:Nat->α->Prop)(s:Sl α):Prop:=fit B s/\∀ x∈s.l,f B x
def Source.wf (B:Nat)(p:Source):Prop:=p.names.wf B Term.wf/\p.spaces.wf B Term.wf/\p.nets.wf B Cidr.wf
def Target.wf (B:Nat)(p:Target):Prop:=p.ports.wf B Jm/\p.methods.wf B Term.wf/\p.paths.wf B Term.wf/\p.hosts.wf B Term.wf
def When.wf (B:Nat)(p:When):Prop:=p.head.size<=B/\p.terms.wf B Term.wf
def Rule.wf (B:Nat)(p:Rule):Prop:=p.frm.wf B Source.wf/\p.to.wf B Target.wf/\p.whn.wf B When.wf
def Pol.wf (B:Nat)(p:Pol):Prop:=Inr .u64 p.id/\p.ns.size<=B/\Inr .u64 p.service/\Inr .i64 p.deny/\p.rules.wf B Rule.wf
def Cfg.wf (B:Nat)(c:Cfg):Prop:=Inr .u64 c.epoch/\Inr .u64 c.next/\Inr .i64 c.hosts/\Inr .i64 c.ways/\c.pods.wf B Pod.wf/\c.services.wf B Svc.wf/\c.bound.wf B Way.wf/\c.policies.wf B Pol.wf
theorem Source.wf.fits {B:Nat}{s:Source}(h:s.wf B):s.fits B:=⟨h.1.1,h.2.1.1,h.2.2.1⟩
theorem Target.wf.fits {B:Nat}{s:Target}(h:s.wf B):s.fits B:=⟨h.1.1,h.2.1.1,h.2.2.1.1,h.2.2.2.1⟩
theorem When.wf.fits {B:Nat}{s:When}(h:s.wf B):s.fits B:=h.2.1
theorem Rule.wf.fits {B:Nat}{s:Rule}(h:s.wf B):s.fits B:=⟨⟨h.1.1,λx hx=>(h.1.2 x hx).fits⟩,⟨h.2.1.1,λx hx=>(h.2.1.2 x hx).fits⟩,h.2.2.1,λx hx=>(h.2.2.2 x hx).fits⟩
theorem Pol.wf.fits {B:Nat}{s:Pol}(h:s.wf B):s.fits B:=⟨h.2.2.2.2.1,λx hx=>(h.2.2.2.2.2 x hx).fits⟩
theorem Cfg.wf.fits {B:Nat}{c:Cfg}(h:c.wf B):c.fits B:=⟨h.2.2.2.2.1.1,h.2.2.2.2.2.1.1,h.2.2.2.2.2.2.1.1,h.2.2.2.2.2.2.2.1,λx hx=>(h.2.2.2.2.2.2.2.2 x hx).fits⟩
theorem fit.le {α:Type}{B B':Nat}{s:Sl α}(hB:B<=B')(h:fit B s):fit B' s:=⟨ch h.1 hB,h.2⟩
theorem Source.fits.le {B B':Nat}(hB:B<=B'){s:Source}(h:s.fits B):s.fits B':=⟨h.1.le hB,h.2.1.le hB,h.2.2.le hB⟩
theorem Target.fits.le {B B':Nat}(hB:B<=B'){s:Target}(h:s.fits B):s.fits B':=⟨h.1.le hB,h.2.1.le hB,h.2.2.1.le hB,h.2.2.2.le hB⟩
theorem When.fits.le {B B':Nat}(hB:B<=B'){s:When}(h:s.fits B):s.fits B':=fit.le hB h
theorem Rule.fits.le {B B':Nat}(hB:B<=B'){s:Rule}(h:s.fits B):s.fits B':=⟨⟨h.1.1.le hB,λx hx=>(h.1.2 x hx).le hB⟩,⟨h.2.1.1.le hB,λx hx=>(h.2.1.2 x hx).le hB⟩,h.2.2.1.le hB,λx hx=>When.fits.le hB (h.2.2.2 x hx)⟩
theorem Pol.fits.le {B B':Nat}(hB:B<=B'){s:Pol}(h:s.fits B):s.fits B':=⟨h.1.le hB,λx hx=>(h.2 x hx).le hB⟩
theorem Cfg.fits.le {B B':Nat}(hB:B<=B'){c:Cfg}(h:c.fits B):c.fits B':=⟨h.1.le hB,h.2.1.le hB,h.2.2.1.le hB,h.2.2.2.1.le hB,λx hx=>(h.2.2.2.2 x hx).le hB⟩
theorem Cfg.wf.ok {B:Nat}{c:Cfg}(h:c.wf B)(hB:B<=big):c.ok:=h.fits.le hB
end
section
noncomputable def E1:Calls':=λf args h=>match Nat.beq f 260 with
 | true=>qd args h
 | false=>Sm (λ_ _ _=>none) TT aj f args h
def bl9:List (Nat×QF):=[(222,JV),(232,Sj),(262,az3)]
def TP:FuncId->Option QF:=lu bl9
def qR (f:FuncId):Bool:=Nat.beq 222 f
theorem Q9:TP 222=some JV:=rfl
theorem Q8:TP 232=some (cloneQ 1 8 [(.d (.int .i64 0))]):=by kernel_rfl
theorem Ra:TP 262=some (cmpQ .i64):=by kernel_rfl
theorem au8:TP 260=none:=rfl
theorem au7:TP 255=none:=rfl
theorem au9:TP 261=none:=rfl
theorem QH {args:List V}{h:Hp}:Sm E1 TP qR 260 args h=qd args h:=by rw [fA au8]; rfl
theorem I4 {args:List V}{h:Hp}:Sm E1 TP qR 255 args h=Sm (λ_ _ _=>none) TT aj 255 args h:=by rw [fA au7]; rfl
theorem I5 {args:List V}{h:Hp}:Sm E1 TP qR 261 args h=Sm (λ_ _ _=>none) TT aj 261 args h:=by rw [fA au9]; rfl
variable {E:Calls'}
def dN (n:Int):Bool:=decide (n>=1)&&decide (n<=65535)
theorem bp2:TT 309=some (anyQ 347):=bk7
theorem bp8:TT 347=some idx1Q:=bl6
theorem bp3:TT 310=some not1Q:=bk8
theorem bo4:TT 261=some (allQ 309 310):=bj1
theorem Ql (s:Sl Int)(hs:short s)(h:Hp):Sm E TT aj 261 [.d (i64 6),.d (s.d fE),.fn 143 []] h=some (bl (decide ((s.l.length:Int)<=6)&&s.l.all dN),h) :=
 Qm (cell:=λn=>i64 n) bp8 cb3 bp2 ca3 bp3 ca4 bo4 by9 hs (λe he h=>Vk e h) h
def aT (t:Target):Bool:=(aU t.methods&&(aU t.paths&&(aU t.hosts&&true)))&&(decide ((t.ports.l.length:Int)<=6)&&t.ports.l.all dN)&&((qj (dH t.ports.l):Int)==(t.ports.l.length:Int))
theorem xU {T:FuncId->Option QF}{val:FuncId->Bool}{kd:IntKind}{id:FuncId}(ht:T id=some (cmpQ kd))(hv:val id=false)(h:Hp):Sm E T val id [nV] h=some (nV,h):=by
 rw [aM ht hv];simp [cmpQ,ae,V.under]
theorem wM {h:Hp}{b n:Nat}{cap:Option Nat}{ds:List D}(hb:aa h.bs b=some (ds.map .d))(hn:n=ds.length):frz h (.row b 0 n cap 1)=some (.d (.slice false (ds.map λd=>[d]))):=by
 have h1:aa h.bs b=some (flat (ds.map λd=>[d])++[]):=by
  have hf:∀ l:List D,(l.map λd=>[d]).flatten=l:=by
   intro l
   induction l with
   | nil=>rfl
   | cons d l ih=>simp only [cr,List.flatten_cons,ih]; rfl
  rw [hb,List.append_nil,flat,hf]
 have:=iO (h:=h) (k:=7) (b:=b) (n:=n) (cap:=cap) (z:=1) (es:=ds.map λd=>[d]) (rest:=[]) (by simp) (by simpa using hn) h1;simp only [frz,dh,this]
def sM (t:Target):Bool:=aU t.methods&&(aU t.paths&&(aU t.hosts&&true))
def kS (t:Target):Bool:=decide ((t.ports.l.length:Int)<=6)&&t.ports.l.all dN
theorem Qf (t:Target)(ht:t.wf big)(b:Nat)(cap:Option Nat)(h:Hp)(hb:aa h.bs b=some [.d (t.methods.d Term.c),.d (t.paths.d Term.c),.d (t.hosts.d Term.c)]):Sm E TT aj 255 [.row b 0 3 cap 1] h=some (bl (sM t),h):=by
 refine Qk [t.methods,t.paths,t.hosts] (by simp) ?_ _ h (wM (ds:=[t.methods.d Term.c,t.paths.d Term.c,t.hosts.d Term.c]) hb rfl)
 . intro s hs;simp only [List.mem_cons,List.not_mem_nil,or_false] at hs;obtain rfl | rfl | rfl:=hs
   . exact ⟨ht.2.1.1,λx hx=>(ht.2.1.2 x hx).2⟩
   . exact ⟨ht.2.2.1.1,λx hx=>(ht.2.2.1.2 x hx).2⟩
   . exact ⟨ht.2.2.2.1,λx hx=>(ht.2.2.2.2 x hx).2⟩
theorem Im (t:Target)(ht:t.wf big)(hl:t.ports.l=[])(hnl:t.ports.nl=true)(h:Hp):Sm E1 TP qR 222 [ag t.c] h=some (bl (aT t),h):=by
 have hp:t.ports.d fE=.slice true []:=by simp [Sl.d,hl,hnl]
 have c1:=λh=>qW (E:=E1) (T:=TP) (val:=qR) Q8 rfl (by decide) (by decide) (nl:=true) (es:=[]) (by simp) (by simp) h;have c3:=λh=>xU (E:=E1) (T:=TP) (val:=qR) Ra rfl h;have c2:∀ h,qd [nV] h=some (.tup [],h):=λ_=>rfl;have r1:=λb cap h hb=>Qf (E:=λ_ _ _=>none) t ht b cap h hb;have a1:=λh=>Ql (E:=λ_ _ _=>none) t.ports ht.1.1 h;rw [← hp] at c1;have hlen:t.ports.l.length=0:=by rw [hl]; rfl
 rw [aY Q9 rfl];have hT:aT t=(sM t&&kS t&&true):=by simp [aT,sM,kS,hl,qj,dH]
 rw [hT];simp [ae,JV,c1,gH,QH,c2];cases hR:sM t<;>cases hP:kS t;all_goals
  simp only [hR] at r1;have a2:=hP;unfold kS at a2;simp only [a2] at a1;simp +decide [aL,aC,I4,I5,r1,a1,c3,az,bR,hlen]
theorem FW (l:List Int):flat (l.map fE)=fe l:=by
 simp only [flat,fe]
 induction l with
 | nil=>rfl
 | cons x l ih=>simp only [cr,List.flatten_cons,List.map_append,ih]; rfl
theorem Gb (l:List Int):(fe l).mapM asInt=some l:=by
 induction l with
 | nil=>rfl
 | cons x l ih =>
  simp only [fe,cr,List.mapM_cons] at ih ⊢;simp [ih,asInt]
theorem Hz (l:List Int):(dH l).length=l.length:=List.length_mergeSort _
theorem CP (t:Target)(ht:t.wf big)(hl:t.ports.l=[])(hnl:t.ports.nl=false)(h:Hp):Sm E1 TP qR 222 [ag t.c] h=some (bl (aT t),h):=by
 have hp:t.ports.d fE=.slice false []:=by simp [Sl.d,hl,hnl]
 have c1:=λh=>qW (E:=E1) (T:=TP) (val:=qR) Q8 rfl (by decide) (by decide) (nl:=false) (es:=[]) (by simp) (by simp) h;have c3:=yo (E:=E1) (T:=TP) (val:=qR) Ra rfl (zs:=[]) (b:=1) (cap:=some 0) (h:=⟨[.cells (t.c.map .d),.cells [],.cells [.d (t.methods.d Term.c),.d (t.paths.d Term.c),.d (t.hosts.d Term.c)]],3⟩) (by simp) (by simp);have c2:∀ b c h,qd [.row b 0 0 c 1] h=some (.tup [],h):=λ_ _ _=>rfl;have r1:=λb cap h hb=>Qf (E:=λ_ _ _=>none) t ht b cap h hb;have a1:=λh=>Ql (E:=λ_ _ _=>none) t.ports ht.1.1 h;rw [← hp] at c1;have hlen:t.ports.l.length=0:=by rw [hl]; rfl
 rw [aY Q9 rfl];have hT:aT t=(sM t&&kS t&&true):=by simp [aT,sM,kS,hl,qj,dH]
 rw [hT];obtain ⟨h',c3,c4⟩:=c3;simp [qj] at c3;simp [ae,JV,c1,gH,QH,c2];cases hR:sM t<;>cases hP:kS t;all_goals
  simp only [hR] at r1;have a2:=hP;unfold kS at a2;simp only [a2] at a1;obtain rfl | ⟨cur,rfl⟩:=c4<;>first | (simp +decide [aL,aC,I4,I5,r1,a1,c3,az,bR,hlen]; done) | (simp +decide [aL,aC,I4,I5,r1,a1,c3,az,hlen]; rw [if_pos (vZ (by rfl))]; simp)
theorem FH (t:Target)(ht:t.wf big)(hl:t.ports.l≠[])(h:Hp):Sm E1 TP qR 222 [ag t.c] h=some (bl (aT t),h):=by
 have hnl:t.ports.nl=false:=by
  cases hh:t.ports.nl with
  | false=>rfl
  | true=>exact absurd (ht.1.1.2 hh) hl
 have hsl:=Hz t.ports.l;have hne0:¬ t.ports.l.length=0:=by simpa using hl
 have hlb:t.ports.l.length<=big:=ht.1.1.1;have hp:t.ports.d fE=.slice false (t.ports.l.map fE):=by simp [Sl.d,hnl]
 have c1:∀ h,Sm E1 TP qR 232 [.d (t.ports.d fE)] h=some (.row (h.bs.length+1) 0 t.ports.l.length none 1,⟨h.bs++[.cells [],.cells (fe t.ports.l)],min h.low h.bs.length⟩):=by
  intro h;have:=qW (E:=E1) (T:=TP) (val:=qR) Q8 rfl (by decide) (by decide) (nl:=false) (es:=t.ports.l.map fE) (by simp [fE]) (by simpa using hlb) h;rw [hp,this];have hf:=FW t.ports.l
  revert hf hl
  cases t.ports.l with
  | nil=>intro hl; exact absurd rfl hl
  | cons x l =>
   intro _ hf;simp only [cr] at hf;simp [gH,hf]
 have c2:∀ lo,qd [.row 2 0 t.ports.l.length none 1] ⟨[.cells (t.c.map .d),.cells [],.cells (fe t.ports.l)],lo⟩=some (.tup [],⟨[.cells (t.c.map .d),.cells [],.cells (fe (dH t.ports.l))],min lo 2⟩):=by
  intro lo;simp only [qd,if_neg hne0,get_eq,FZ,tJ,Gb];rw [if_pos ⟨trivial,hlb⟩];rfl
 have c3:=yo (E:=E1) (T:=TP) (val:=qR) Ra rfl (zs:=dH t.ports.l) (b:=2) (cap:=none) (h:=⟨[.cells (t.c.map .d),.cells [],.cells (fe (dH t.ports.l)),.cells [.d (t.methods.d Term.c),.d (t.paths.d Term.c),.d (t.hosts.d Term.c)]],4⟩) (by simp; rfl) (by rw [hsl]; exact cg hlb (by decide));have r1:=λb cap h hb=>Qf (E:=λ_ _ _=>none) t ht b cap h hb;have a1:=λh=>Ql (E:=λ_ _ _=>none) t.ports ht.1.1 h;rw [aY Q9 rfl];have hT:aT t=(sM t&&kS t&&((qj (dH t.ports.l):Int)==(t.ports.l.length:Int))):=rfl;rw [hT];obtain ⟨h',c3,c4⟩:=c3;rw [hsl] at c3;generalize qj (dH t.ports.l)=K at *;generalize fe (dH t.ports.l)=Z at *;generalize fe t.ports.l=Z0 at *;simp [ae,JV,c1,QH,c2];cases hR:sM t<;>cases hP:kS t;all_goals
  simp only [hR] at r1;have a2:=hP;unfold kS at a2;simp only [a2] at a1;obtain rfl | ⟨cur,rfl⟩:=c4<;>first | (simp +decide [aL,aC,I4,I5,r1,a1,c3,az,bR]; done) | (simp +decide [aL,aC,I4,I5,r1,a1,c3,az]; rw [if_pos (vZ (by rfl))]; simp)
theorem am1 (t:Target)(ht:t.wf big)(h:Hp):Sm E1 TP qR 222 [ag t.c] h=some (bl (aT t),h):=by
 by_cases hl:t.ports.l=[]
 . cases hnl:t.ports.nl with
   | true=>exact Im t ht hl hnl h
   | false=>exact CP t ht hl hnl h
 . exact FH t ht hl h
end
section
variable {E:Calls'}
theorem bo9:TT 304=some (anyQ 337):=bk3
theorem bp7:TT 337=some (idxQ 2):=bl5
theorem bp0:TT 305=some (notQ 2):=bk4
theorem bo1:TT 256=some (allQ 304 305):=bi7
theorem bn9:TT 253=some (anyQ 300):=bi4
theorem bo7:TT 300=some (idxQ 3):=bj7
theorem bo0:TT 254=some (notQ 3):=bi5
theorem bn5:TT 219=some (allQ 253 254):=bh0
theorem bo2:TT 258=some (anyQ 307):=bi9
theorem bp1:TT 307=some (idxQ 4):=bk6
theorem bo3:TT 259=some (notQ 4):=bj0
theorem bn6:TT 221=some (allQ 258 259):=bh3
theorem bo5:TT 263=some (anyQ 311):=bj2
theorem bp4:TT 311=some (idxQ 2):=bk9
theorem bo6:TT 264=some (notQ 2):=bj3
theorem bn7:TT 223=some (allQ 263 264):=bh4
theorem bn3:TT 217=some (anyQ 252):=bg8
theorem bn8:TT 252=some (idxQ 3):=bi3
theorem bn4:TT 218=some (notQ 3):=bg9
theorem bn2:TT 170=some (allQ 217 218):=bf6
theorem as9:TT 222=none:=by kernel_rfl
def kC (s:Sl Cidr):Bool:=decide ((s.l.length:Int)<=6)&&s.l.all iU
theorem an4 (s:Sl Cidr)(hs:short s)(h:Hp):Sm E TT aj 256 [.d (i64 6),.d (s.d Cidr.c),.fn 257 []] h=some (bl (kC s),h) :=
 Am (cells:=Cidr.c) bp7 cb2 bo9 bz9 bp0 ca0 bo1 by5 (λ_=>rfl) hs (λe he h=>an5 e h) h
def bV (s:Source):Bool:=(aU s.names&&(aU s.spaces&&true))&&kC s.nets
theorem am0 (s:Source)(hs:s.wf big)(h:Hp):Sm E TT aj 220 [ag s.c] h=some (bl (bV s),h):=by
 have r1:∀ b cap h,aa h.bs b=some [.d (s.names.d Term.c),.d (s.spaces.d Term.c)]->Sm E TT aj 255 [.row b 0 2 cap 1] h=some (bl ([s.names,s.spaces].all aU),h):=by
  intro b cap h hb;refine Qk [s.names,s.spaces] (by simp) ?_ _ h (wM (ds:=[s.names.d Term.c,s.spaces.d Term.c]) hb rfl);intro x hx;simp only [List.mem_cons,List.not_mem_nil,or_false] at hx;obtain rfl | rfl:=hx
  . exact ⟨hs.1.1,λx hx=>(hs.1.2 x hx).2⟩
  . exact ⟨hs.2.1.1,λx hx=>(hs.2.1.2 x hx).2⟩
 have a1:=λh=>an4 (E:=E) s.nets hs.2.2.1 h;have hT:bV s=([s.names,s.spaces].all aU&&kC s.nets):=rfl;rw [hT];generalize [s.names,s.spaces].all aU=A at *;generalize kC s.nets=B at *;rw [aY bh2 bw8];cases A<;>simp +decide [ae,Sk,r1,a1,az]
def ig (w:When):Bool:=iY w.head&&(aU w.terms&&true)&&decide ((w.terms.l.length:Int)>0)
theorem am2 (w:When)(hw:w.wf big)(h:Hp):Sm E TT aj 224 [ag w.c] h=some (bl (ig w),h):=by
 have r1:∀ b cap h,aa h.bs b=some [.d (w.terms.d Term.c)]->Sm E TT aj 255 [.row b 0 1 cap 1] h=some (bl ([w.terms].all aU),h):=by
  intro b cap h hb;refine Qk [w.terms] (by simp) ?_ _ h (wM (ds:=[w.terms.d Term.c]) hb rfl);intro x hx;simp only [List.mem_cons,List.not_mem_nil,or_false] at hx;subst hx;exact ⟨hw.2.1,λx hx=>(hw.2.2 x hx).2⟩
 have a1:=λh=>an6 (E:=E) w.head hw.1 h;have hT:ig w=(iY w.head&&[w.terms].all aU&&decide ((w.terms.l.length:Int)>0)):=rfl;rw [hT];generalize [w.terms].all aU=A at *;generalize iY w.head=B at *;rw [aY bh5 bx3];cases B<;>cases A<;>simp +decide [ae,Sn,r1,a1,az]
def eD (r:Rule):Bool:=(decide ((r.frm.l.length:Int)<=3)&&r.frm.l.all bV)&&(decide ((r.to.l.length:Int)<=3)&&r.to.l.all aT)&&(decide ((r.whn.l.length:Int)<=3)&&r.whn.l.all ig)
section
variable (h385:∀ t:Target,t.wf big->∀ h,E 222 [ag t.c] h=some (bl (aT t),h))
include h385
theorem Vq (t:Target)(ht:t.wf big)(h:Hp):Sm E TT aj 222 [ag t.c] h=some (bl (aT t),h):=by rw [fA as9]; exact h385 t ht h
theorem al0 (r:Rule)(hr:r.wf big)(h:Hp):Sm E TT aj 171 [ag r.c] h=some (bl (eD r),h):=by
 have k1:=λh=>Am (E:=E) (T:=TT) (val:=aj) (cells:=Source.c) bo7 bz5 bn9 by2 bo0 by3 bn5 bw7 (λ_=>rfl) (s:=r.frm) hr.1.1 (m:=3) (f:=220) (p:=bV) (λe he h=>am0 e (hr.1.2 e he) h) h;have k2:=λh=>Am (E:=E) (T:=TT) (val:=aj) (cells:=Target.c) bp1 ca2 bo2 by7 bo3 by8 bn6 bw9 (λ_=>rfl) (s:=r.to) hr.2.1.1 (m:=3) (f:=222) (p:=aT) (λe he h=>Vq h385 e (hr.2.1.2 e he) h) h;have k3:=λh=>Am (E:=E) (T:=TT) (val:=aj) (cells:=When.c) bp4 ca5 bo5 bz0 bo6 bz1 bn7 bx2 (λ_=>rfl) (s:=r.whn) hr.2.2.1 (m:=3) (f:=224) (p:=ig) (λe he h=>am2 e (hr.2.2.2 e he) h) h;unfold eD;generalize (decide ((r.frm.l.length:Int)<=3)&&r.frm.l.all bV)=A at *;generalize (decide ((r.to.l.length:Int)<=3)&&r.to.l.all aT)=B at *;generalize (decide ((r.whn.l.length:Int)<=3)&&r.whn.l.all ig)=C at *;rw [aY bf7 bv3];cases A<;>cases B<;>simp +decide [ae,R9,k1,k2,k3]
def bz (p:Pol):Bool:=decide (p.id>=1)&&decide (p.id<=4611686018427387903)&&(eqS p.ns ⟨#[]⟩||aZ p.ns)&&decide (p.service<=4611686018427387903)&&((p.deny==0)||(p.deny==1))&&(decide ((p.rules.l.length:Int)<=6)&&p.rules.l.all eD)
theorem Qh (p:Pol)(hp:p.wf big)(h:Hp):Sm E TT aj 104 [ag p.c] h=some (bl (bz p),h):=by
 have k1:=λh=>Am (E:=E) (T:=TT) (val:=aj) (cells:=Rule.c) bn8 by1 bn3 bw5 bn4 bw6 bn2 bv1 (λ_=>rfl) (s:=p.rules) hp.2.2.2.2.1 (m:=6) (f:=171) (p:=eD) (λe he h=>al0 h385 e (hp.2.2.2.2.2 e he) h) h;have k2:=λh=>Lh (E:=E) p.ns hp.2.1 h;unfold bz;generalize (decide ((p.rules.l.length:Int)<=6)&&p.rules.l.all eD)=A at *;generalize aZ p.ns=B at *;rw [aY YG YW];by_cases c1:p.id>=1
 case neg=>simp +decide [ae,xk,c1]
 by_cases c2:p.id<=4611686018427387903
 case neg=>simp +decide [ae,xk,c1,c2]
 cases c3:eqS p.ns ⟨#[]⟩
 case false =>
  cases B
  case false=>simp +decide [ae,xk,c1,c2,c3,k2]
  by_cases c4:p.service<=4611686018427387903
  case neg=>simp +decide [ae,xk,c1,c2,c3,k2,c4]
  by_cases c5:p.deny=0
  case pos=>simp +decide [ae,xk,c1,c2,c3,k2,c4,c5,k1]
  by_cases c6:p.deny=1<;>simp +decide [ae,xk,c1,c2,c3,k2,c4,c5,c6,k1]
 case true =>
  by_cases c4:p.service<=4611686018427387903
  case neg=>simp +decide [ae,xk,c1,c2,c3,c4]
  by_cases c5:p.deny=0
  case pos=>simp +decide [ae,xk,c1,c2,c3,c4,c5,k1]
  by_cases c6:p.deny=1<;>simp +decide [ae,xk,c1,c2,c3,c4,c5,c6,k1]
end
end
section
variable {E:Calls'}
theorem ag7 (p:Pod)(h:Hp):Sm E TT aj 115 [ag p.c] h=some (.d (u64 p.uid),h):=by rw [aY bb4 bq4]; simp [ae,ML]
theorem ag8 (p:Svc)(h:Hp):Sm E TT aj 118 [ag p.c] h=some (.d (u64 p.id),h):=by rw [aY t193 v193]; simp [ae,MM]
theorem ag9 (p:Way)(h:Hp):Sm E TT aj 125 [ag p.c] h=some (.d (u64 p.id),h):=by rw [aY bb5 bq5]; simp [ae,MN]
theorem ah0 (p:Pol)(h:Hp):Sm E TT aj 130 [ag p.c] h=some (.d (u64 p.id),h):=by rw [aY bb6 bq6]; simp [ae,Rs]
theorem bm7:TT 144=some (risQ 7):=bd2
theorem bm8:TT 150=some (risQ 5):=bd8
theorem bm9:TT 152=some (risQ 2):=be0
theorem bn0:TT 154=some (risQ 5):=be2
theorem aj0 (s:Sl Pod)(hs:short s)(h:Hp):Sm E TT aj 144 [.d (s.d Pod.c),.fn 115 []] h=some (bl (fH (s.l.map Pod.uid)),h):=uT bm7 br9 (λ_=>rfl) hs.lt (λe _ h=>ag7 e h) h
theorem aj5 (s:Sl Svc)(hs:short s)(h:Hp):Sm E TT aj 150 [.d (s.d Svc.c),.fn 118 []] h=some (bl (fH (s.l.map Svc.id)),h):=uT bm8 bt4 (λ_=>rfl) hs.lt (λe _ h=>ag8 e h) h
theorem aj7 (s:Sl Way)(hs:short s)(h:Hp):Sm E TT aj 152 [.d (s.d Way.c),.fn 125 []] h=some (bl (fH (s.l.map Way.id)),h):=uT bm9 bt6 (λ_=>rfl) hs.lt (λe _ h=>ag9 e h) h
theorem aj9 (s:Sl Pol)(hs:short s)(h:Hp):Sm E TT aj 154 [.d (s.d Pol.c),.fn 130 []] h=some (bl (fH (s.l.map Pol.id)),h):=uT bn0 bt8 (λ_=>rfl) hs.lt (λe _ h=>ah0 e h) h
def mD (c:Cfg)(n:Int):Option Svc:=c.services.l.find? λp=>p.id==n
theorem OA (c:Cfg)(hc:c.ok)(n:Int)(h:Hp):Sm E TT aj 70 [c.v,.d (u64 n)] h=some (.tup (match mD c n with | some p=>[p.v,bl true] | none=>[svc0.v,bl false]),h):=af9 c hc n h
def bf (c:Cfg)(p:Pod):Bool:=decide (p.uid<10)||(decide (p.uid>=c.next)||!(aZ p.ns&&aZ p.sa))
def bg (c:Cfg)(p:Pod):Bool:=decide (p.host<2)||(decide (p.host>wrap .i64 (c.hosts+1))||!dN p.port)
def bi (c:Cfg)(p:Pod):Bool:=!(p.service==0)&&(match mD c p.service with | some s=>!eqS s.ns p.ns | none=>true)
def bu (c:Cfg)(p:Pod):Bool:=bf c p||(bg c p||bi c p)
theorem as2 (p:Pod)(hp:p.wf big)(h:Hp):Sm E TT aj 142 [.agg [.d (.str p.ns),.d (.str p.sa)]] h=some (bl (aZ p.ns&&aZ p.sa),h):=ai9 p.ns p.sa hp.2.1 hp.2.2.1 h
theorem Wd (n:Int)(h:Hp):Sm E TT aj 143 [.d (i64 n)] h=some (bl (dN n),h):=Vk n h
theorem aa9 (c:Cfg)(hc:c.wf big):∀ (m i:Nat) (bs:List Blk),i+m=c.pods.l.length->aa bs 0=some (c.c.map .d) →
 ∃ ys,Cd E TT aj (.loop [1,8,9,10] cZ) [(1,.ptr 0 0),(8,.d (c.pods.d Pod.c)),(9,.d (i64 c.pods.l.length)),(10,.d (i64 i))] ⟨bs,0⟩ =
  cond ((c.pods.l.drop i).any (bu c)) (some (.ret,[(2,bl false)],⟨bs++ys,0⟩)) (some (.exit 0,[(1,.ptr 0 0)],⟨bs++ys,0⟩)):=by
 have hok:=hc.ok (bo _);have hlt:=hok.1.lt;intro m;have key:=aB (E:=E) (T:=TT) (val:=aj) [1,8,9,10] cZ;generalize Cd E TT aj (.loop [1,8,9,10] cZ)=W at key ⊢
 induction m with
 | zero =>
  intro i bs hi hb;refine ⟨[],?_⟩;rw [key,aw (by omega)];simp [cZ,show ¬ ((i:Int)<c.pods.l.length) from by omega]
 | succ m ih =>
  intro i bs hi hb;have h1:i<c.pods.l.length:=by omega
  have hx:=λh=>aA (z:=7) h (ab h1) (cells:=Pod.c) rfl;have hw:=ax h1 hlt;have hp:=hc.2.2.2.2.1.2 _ (bd h1);rw [key,aq h1];generalize c.pods.l[i]=p at *;have n1:=λh=>as2 (E:=E) p hp h;have n2:=λh=>Wd (E:=E) p.port h;have n3:=λh=>OA (E:=E) c hok p.service h;have hb2:=λys=>ay (ys:=ys) hb;have h0:((i:Int)<c.pods.l.length):=by omega
  simp only [List.any_cons];cases hsv:mD c p.service with
  | none =>
   simp only [hsv] at n3;obtain ⟨ys,q⟩:=ih (i+1) (bs++[.cells (p.c.map .d),.cells (svc0.c.map .d)]) (by omega) (hb2 _);generalize (List.drop (i+1) c.pods.l).any (bu c)=R at q ⊢;generalize hnm:(aZ p.ns&&aZ p.sa)=nm at n1;generalize hpt:dN p.port=pt at n2;by_cases a1:p.uid<10
   case pos=>exact ⟨_,by simp +decide [cZ,hb2,hx,n3,h0,bu,bf,bg,bi,hsv,a1]; rfl⟩
   by_cases a2:p.uid>=c.next
   case pos=>exact ⟨_,by simp +decide [cZ,hb2,hx,n3,h0,bu,bf,bg,bi,hsv,a1,a2]; rfl⟩
   cases nm
   case false=>exact ⟨_,by simp +decide [cZ,hb2,hx,n1,n3,h0,bu,bf,bg,bi,hsv,a1,a2,hnm]; rfl⟩
   by_cases b1:p.host<2
   case pos=>exact ⟨_,by simp +decide [cZ,hb2,hx,n1,n3,h0,bu,bf,bg,bi,hsv,a1,a2,hnm,b1]; rfl⟩
   by_cases b2:p.host>wrap .i64 (c.hosts+1)
   case pos=>exact ⟨_,by simp +decide [cZ,hb2,hx,n1,n3,h0,bu,bf,bg,bi,hsv,a1,a2,hnm,b1,b2]; rfl⟩
   cases pt
   case false=>exact ⟨_,by simp +decide [cZ,hb2,hx,n1,n2,n3,h0,bu,bf,bg,bi,hsv,a1,a2,hnm,b1,b2,hpt]; rfl⟩
   by_cases c1:p.service=0
   case pos =>
    have n4:=n3;rw [c1] at n4;refine ⟨[.cells (p.c.map .d),.cells (svc0.c.map .d)]++ys,?_⟩;simp +decide [n4,cZ,hb2,hx,n1,n2,h0,bu,bf,bg,bi,a1,a2,hnm,b1,b2,hpt,c1,hw];simpa using q
   exact ⟨_,by simp +decide [cZ,hb2,hx,n1,n2,n3,h0,bu,bf,bg,bi,hsv,a1,a2,hnm,b1,b2,hpt,c1]; rfl⟩
  | some s =>
   simp only [hsv] at n3;obtain ⟨ys,q⟩:=ih (i+1) (bs++[.cells (p.c.map .d),.cells (s.c.map .d)]) (by omega) (hb2 _);generalize (List.drop (i+1) c.pods.l).any (bu c)=R at q ⊢;generalize hnm:(aZ p.ns&&aZ p.sa)=nm at n1;generalize hpt:dN p.port=pt at n2;by_cases a1:p.uid<10
   case pos=>exact ⟨_,by simp +decide [cZ,hb2,hx,n3,h0,bu,bf,bg,bi,hsv,a1]; rfl⟩
   by_cases a2:p.uid>=c.next
   case pos=>exact ⟨_,by simp +decide [cZ,hb2,hx,n3,h0,bu,bf,bg,bi,hsv,a1,a2]; rfl⟩
   cases nm
   case false=>exact ⟨_,by simp +decide [cZ,hb2,hx,n1,n3,h0,bu,bf,bg,bi,hsv,a1,a2,hnm]; rfl⟩
   by_cases b1:p.host<2
   case pos=>exact ⟨_,by simp +decide [cZ,hb2,hx,n1,n3,h0,bu,bf,bg,bi,hsv,a1,a2,hnm,b1]; rfl⟩
   by_cases b2:p.host>wrap .i64 (c.hosts+1)
   case pos=>exact ⟨_,by simp +decide [cZ,hb2,hx,n1,n3,h0,bu,bf,bg,bi,hsv,a1,a2,hnm,b1,b2]; rfl⟩
   cases pt
   case false=>exact ⟨_,by simp +decide [cZ,hb2,hx,n1,n2,n3,h0,bu,bf,bg,bi,hsv,a1,a2,hnm,b1,b2,hpt]; rfl⟩
   by_cases c1:p.service=0
   case pos =>
    have n4:=n3;rw [c1] at n4;refine ⟨[.cells (p.c.map .d),.cells (s.c.map .d)]++ys,?_⟩;simp +decide [n4,cZ,hb2,hx,n1,n2,h0,bu,bf,bg,bi,a1,a2,hnm,b1,b2,hpt,c1,hw];simpa using q
   cases c2:eqS s.ns p.ns
   case false=>exact ⟨_,by simp +decide [cZ,hb2,hx,n1,n2,n3,h0,bu,bf,bg,bi,hsv,a1,a2,hnm,b1,b2,hpt,c1,c2]; rfl⟩
   refine ⟨[.cells (p.c.map .d),.cells (s.c.map .d)]++ys,?_⟩;simp +decide [cZ,hb2,hx,n1,n2,n3,h0,bu,bf,bg,bi,hsv,a1,a2,hnm,b1,b2,hpt,c1,c2,hw];simpa using q
def gY (c:Cfg):Bool:=!c.pods.l.any (bu c)&&fH (c.pods.l.map Pod.uid)
theorem ah1 (c:Cfg)(hc:c.wf big)(h:Hp):Sm E TT aj 86 [c.v] h=some (bl (gY c),h):=by
 have hok:=hc.ok (bo _);obtain ⟨ys,q⟩:=aa9 (E:=E) c hc c.pods.l.length 0 [.cells (c.c.map .d)] (by omega) (by simp);have n1:=λh=>aj0 (E:=E) c.pods hok.1 h;rw [aY bb7 bq7];simp [ae,MO];rw [ai];simp at q;simp [q];cases hA:c.pods.l.any (bu c)<;>simp [gY,hA,n1]
end
section
variable {E:Calls'}
theorem YN:TT 146=some (someQ 207):=bd4
theorem YO:TT 207=some (anyQ 71):=bf5
theorem YM:TT 71=some (idxQ 2):=t109
theorem u201:TT 126=some (someQ 194):=t201
theorem bm5:TT 194=some (anyQ 68):=bc8
theorem bm4:TT 68=some (idxQ 5):=Yz
theorem u196:TT 121=some (someQ 189):=t196
theorem bm6:TT 189=some (anyQ 238):=bc9
theorem bn1:TT 238=some (idxQ 5):=bf4
theorem aj3 (w:Way)(s:Svc){x:Nat}{h:Hp}(hb:aa h.bs x=some (s.c.map .d)):Sm E TT aj 147 [ag w.c,.ptr x 0] h=some (bl (w.id==s.way),h):=by
 rw [aM bd5 bt1];simp [ae,M7,ay hb,V.under]
theorem aj2 (l:Sl Way)(hl:short l)(s:Svc){x:Nat}{h:Hp}(hb:aa h.bs x=some (s.c.map .d)):Sm E TT aj 146 [.d (l.d Way.c),.fn 147 [.ptr x 0]] h=some (bl (l.l.any λw=>w.id==s.way),h) :=
 zm YN YX rfl rfl (yn Way.c (z:=2) YM v109 YO YY (RowIs.of (cells:=Way.c) (λ_=>rfl) _) hl.lt λe _ lo=>aj3 e s hb)
def di (n:Int):Bool:=decide (n>=1)&&decide (n<=4611686018427387903)
theorem We (n:Int)(h:Hp):Sm E TT aj 148 [.d (u64 n)] h=some (bl (di n),h):=aj4 n h
def eZ (c:Cfg)(s:Svc):Bool:=!di s.id||(!aZ s.ns||(!dN s.port||!((s.way==0)||c.bound.l.any λw=>w.id==s.way)))
theorem aj1 (c:Cfg)(hc:c.ok)(s:Svc)(hs:s.wf big){x:Nat}{h:Hp}(hb:aa h.bs x=some (c.c.map .d)):Sm E TT aj 145 [ag s.c,.ptr x 0] h=some (bl (eZ c s),h):=by
 rw [aM bd3 bt0];have n1:=λh=>We (E:=E) s.id h;have n2:=λh=>Lh (E:=E) s.ns hs.2.1 h;have n3:=λh=>Wd (E:=E) s.port h;have n5:∀ lo,Sm E TT aj 146 [.d (c.bound.d Way.c),.fn 147 [.ptr h.bs.length 0]] ⟨h.bs++[.cells (s.c.map .d)],lo⟩=some (bl (c.bound.l.any λw=>w.id==s.way),⟨h.bs++[.cells (s.c.map .d)],lo⟩):=λlo=>aj2 c.bound hc.2.2.1 s (by simp);unfold eZ;generalize di s.id=A at *;generalize aZ s.ns=B at *;generalize dN s.port=C at *;generalize (c.bound.l.any λw=>w.id==s.way)=F at *;have hb2:=λys=>ay (ys:=ys) hb;by_cases w0:s.way=0
 . cases A<;>cases B<;>cases C<;>simp +decide [ae,JU,n1,n2,n3,w0,V.under,au]
 . cases A<;>cases B<;>cases C<;>cases F<;>simp +decide [ae,JU,hb2,n1,n2,n3,n5,w0,V.under,au]
def bU (c:Cfg):Bool:=!c.services.l.any (eZ c)&&fH (c.services.l.map Svc.id)
theorem ah2 (c:Cfg)(hc:c.wf big)(h:Hp):Sm E TT aj 87 [c.v] h=some (bl (bU c),h):=by
 have hok:=hc.ok (bo _);have n1:=λh=>aj5 (E:=E) c.services hok.2.1 h;have n2:Sm E TT aj 126 [.d (c.services.d Svc.c),.fn 145 [.ptr 0 0]] ⟨[.cells (c.c.map .d)],0⟩=some (bl (c.services.l.any (eZ c)),⟨[.cells (c.c.map .d)],0⟩) :=
  zm u201 v201 rfl rfl (yn Svc.c (z:=5) bm4 YP bm5 br5 (RowIs.of (cells:=Svc.c) (λ_=>rfl) _) hok.2.1.lt λe he lo=>aj1 c hok e (hc.2.2.2.2.2.1.2 e he) (by simp))
 rw [aY t208 v208];unfold bU;generalize c.services.l.any (eZ c)=A at *;cases A<;>simp +decide [ae,MP,n1,n2,au]
def eH (c:Cfg)(p:Pol):Bool:=decide (p.id<1)||(!bz p||(!(p.service==0)&&(mD c p.service).isNone))
section
variable (h385:∀ t:Target,t.wf big->∀ h,E 222 [ag t.c] h=some (bl (aT t),h))
include h385
theorem aj8 (c:Cfg)(hc:c.ok)(p:Pol)(hp:p.wf big){x:Nat}{h:Hp}(hb:aa h.bs x=some (c.c.map .d)):Sm E TT aj 153 [ag p.c,.ptr x 0] h=some (bl (eH c p),h):=by
 rw [aM be1 bt7];have n1:=λh=>Qh h385 p hp h;have n2:=λh=>OA (E:=E) c hc p.service h;have hb2:=λys=>ay (ys:=ys) hb;unfold eH;generalize bz p=A at *;cases hsv:mD c p.service with
 | none =>
  simp only [hsv] at n2;by_cases a1:p.id<1
  case pos=>simp +decide [ae,Ca,hb2,n2,a1,V.under,au]
  by_cases a2:p.service=0
  . rw [a2] at n2;cases A<;>simp +decide [ae,Ca,hb2,n1,n2,a1,a2,V.under,au]
  . cases A<;>simp +decide [ae,Ca,hb2,n1,n2,a1,a2,V.under,au]
 | some s =>
  simp only [hsv] at n2;by_cases a1:p.id<1
  case pos=>simp +decide [ae,Ca,hb2,n2,a1,V.under,au]
  by_cases a2:p.service=0
  . rw [a2] at n2;cases A<;>simp +decide [ae,Ca,hb2,n1,n2,a1,a2,V.under,au]
  . cases A<;>simp +decide [ae,Ca,hb2,n1,n2,a1,a2,V.under,au]
def bN (c:Cfg):Bool:=!c.policies.l.any (eH c)&&fH (c.policies.l.map Pol.id)
theorem ah5 (c:Cfg)(hc:c.wf big)(h:Hp):Sm E TT aj 90 [c.v] h=some (bl (bN c),h):=by
 have hok:=hc.ok (bo _);have n1:=λh=>aj9 (E:=E) c.policies hok.2.2.2.1 h;have n2:Sm E TT aj 121 [.d (c.policies.d Pol.c),.fn 153 [.ptr 0 0]] ⟨[.cells (c.c.map .d)],0⟩=some (bl (c.policies.l.any (eH c)),⟨[.cells (c.c.map .d)],0⟩) :=
  zm u196 v196 rfl rfl (yn Pol.c (z:=5) bn1 bv0 bm6 br6 (RowIs.of (cells:=Pol.c) (λ_=>rfl) _) hok.2.2.2.1.lt λe he lo=>aj8 h385 c hok e (hc.2.2.2.2.2.2.2.2 e he) (by simp))
 rw [aY bb9 bq9];unfold bN;generalize c.policies.l.any (eH c)=A at *;cases A<;>simp +decide [ae,MS,n1,n2,au]
end
end
section
variable {E:Calls'}
theorem aj6 (w v:Way){x:Nat}{h:Hp}(hb:aa h.bs x=some (w.c.map .d)):Sm E TT aj 151 [ag v.c,.ptr x 0] h=some (bl (v.node==w.node),h):=by
 rw [aM bd9 bt5];simp [ae,RN,ay hb,V.under]
theorem Vl (l:Sl Way)(hl:l.l.length<2 ^ 62)(w:Way){x:Nat}{h:Hp}(hb:aa h.bs x=some (w.c.map .d)):Sm E TT aj 146 [.d (l.d Way.c),.fn 151 [.ptr x 0]] h=some (bl (l.l.any λv=>v.node==w.node),h) :=
 zm YN YX rfl rfl (yn Way.c (z:=2) YM v109 YO YY (RowIs.of (cells:=Way.c) (λ_=>rfl) _) hl λe _ lo=>aj6 w e hb)
def iM (c:Cfg)(pre:List Way)(w:Way):Bool:=!di w.id||(decide (w.node<wrap .i64 (c.hosts+2))||(decide (w.node>wrap .i64 (wrap .i64 (c.hosts+1)+c.ways))||pre.any λv=>v.node==w.node))
def iI (c:Cfg):List Way->List Way->Bool
 | _,[]=>false
 | pre,w::l=>iM c pre w||iI c (pre++[w]) l
theorem Kv {h:Hp}{ev:X->V}{α:Type}{cells:α->List D}{z:Nat}(hz:∀ x,(cells x).length=z){s:Sl α}{x:X}{n:Nat}(hx:ev x=.d (i64 n))(hn:n<s.l.length):bM h ev .sl z (.d (s.d cells)) none (some x) none=some (.d (Sl.d cells ⟨s.nl,s.l.take n⟩)):=by
 simp only [bM,Sl.d,bD,hx,cc];rw [if_pos (by omega)];simp only [Int.toNat_natCast];have hh:((s.l.map cells).headD (List.replicate z .nilp)).length=z:=by
  cases s.l with
  | nil=>simp
  | cons a l=>simp [hz]
 rw [if_pos ⟨by omega,by omega,hh⟩];simp [List.map_take]
theorem ab0 (c:Cfg)(hc:c.wf big):∀ (m i:Nat) (bs:List Blk),i+m=c.bound.l.length->aa bs 0=some (c.c.map .d) →
 ∃ ys,Cd E TT aj (.loop [1,7,8,9] jE) [(1,.ptr 0 0),(7,.d (c.bound.d Way.c)),(8,.d (i64 c.bound.l.length)),(9,.d (i64 i))] ⟨bs,0⟩ =
  cond (iI c (c.bound.l.take i) (c.bound.l.drop i)) (some (.ret,[(2,bl false)],⟨bs++ys,0⟩)) (some (.exit 0,[(1,.ptr 0 0)],⟨bs++ys,0⟩)):=by
 have hok:=hc.ok (bo _);have hlt:=hok.2.2.1.lt;intro m;have key:=aB (E:=E) (T:=TT) (val:=aj) [1,7,8,9] jE;generalize Cd E TT aj (.loop [1,7,8,9] jE)=W at key ⊢
 induction m with
 | zero =>
  intro i bs hi hb;refine ⟨[],?_⟩;rw [key,aw (by omega)];simp [jE,iI,show ¬ ((i:Int)<c.bound.l.length) from by omega]
 | succ m ih =>
  intro i bs hi hb;have h1:i<c.bound.l.length:=by omega
  have hx:=λh=>aA (z:=2) h (ab h1) (cells:=Way.c) rfl;have hw:=ax h1 hlt;have htake:c.bound.l.take (i+1)=c.bound.l.take i++[c.bound.l[i]]:=by rw [List.take_add_one,ab h1]; rfl
  rw [key,aq h1];generalize c.bound.l[i]=w at *;have n1:=λh=>We (E:=E) w.id h;have hsl:=λ(h:Hp) (ev:X->V) (hx:ev (.t 16)=.d (i64 i))=>Kv (h:=h) (ev:=ev) (cells:=Way.c) (z:=2) (λ_=>rfl) (s:=c.bound) hx h1;have n2:Sm E TT aj 146 [.d (Sl.d Way.c ⟨c.bound.nl,c.bound.l.take i⟩),.fn 151 [.ptr bs.length 0]] ⟨bs++[.cells (w.c.map .d)],0⟩=some (bl ((c.bound.l.take i).any λv=>v.node==w.node),⟨bs++[.cells (w.c.map .d)],0⟩) :=
   Vl ⟨c.bound.nl,c.bound.l.take i⟩ (by simp only [List.length_take]; omega) w (by simp)
  have hb2:=λys=>ay (ys:=ys) hb;have h0:((i:Int)<c.bound.l.length):=by omega
  obtain ⟨ys,q⟩:=ih (i+1) (bs++[.cells (w.c.map .d)]) (by omega) (hb2 _);rw [htake] at q;simp only [iI];generalize iI c (c.bound.l.take i++[w]) (c.bound.l.drop (i+1))=R at q ⊢;unfold iM;generalize di w.id=A at *;generalize ((c.bound.l.take i).any λv=>v.node==w.node)=F at *;generalize hS:Sl.d Way.c ⟨c.bound.nl,c.bound.l.take i⟩=SS at *;cases A
  case false=>exact ⟨_,by simp +decide [jE,hb2,hx,n1,n2,hsl,h0,au]; rfl⟩
  by_cases b1:w.node<wrap .i64 (c.hosts+2)
  case pos=>exact ⟨_,by simp +decide [jE,hb2,hx,n1,n2,hsl,h0,au,b1]; rfl⟩
  by_cases b2:w.node>wrap .i64 (wrap .i64 (c.hosts+1)+c.ways)
  case pos=>exact ⟨_,by simp +decide [jE,hb2,hx,n1,n2,hsl,h0,au,b1,b2]; rfl⟩
  cases F
  case true=>exact ⟨_,by simp +decide [jE,hb2,hx,n1,n2,hsl,h0,au,b1,b2]; rfl⟩
  refine ⟨[.cells (w.c.map .d)]++ys,?_⟩;simp +decide [jE,hb2,hx,n1,n2,hsl,h0,au,b1,b2,hw];simpa using q
def eU (c:Cfg):Bool:=!iI c [] c.bound.l&&fH (c.bound.l.map Way.id)
theorem ah4 (c:Cfg)(hc:c.wf big)(h:Hp):Sm E TT aj 89 [c.v] h=some (bl (eU c),h):=by
 have hok:=hc.ok (bo _);obtain ⟨ys,q⟩:=ab0 (E:=E) c hc c.bound.l.length 0 [.cells (c.c.map .d)] (by omega) (by simp);have n1:=λh=>aj7 (E:=E) c.bound hok.2.2.1 h;rw [aY t210 v210];unfold eU;simp at q;generalize iI c [] c.bound.l=A at *;simp [ae,MR];rw [ai];simp [q];cases A<;>simp [n1]
end
section
variable {E:Calls'}
structure Ar (c:Cfg) (acc:List Int) (bs:List Blk) (v:V):Prop where
 c0:aa bs 0=some (c.c.map .d)
 is:∃ b cap,0<b/\v=.row b 0 acc.length cap 1/\aa bs b=some (acc.map (iv .u32))/\(cap=none\/cap=some acc.length)
 ne:acc≠[]
theorem Ar.nu {c:Cfg}{acc:List Int}{bs:List Blk}{v:V}(h:Ar c acc bs v):Go.Proofs.YtadlkhfomhgllaaGreat.nu v=some v:=by
 obtain ⟨b,cap,_,rfl,_⟩:=h.is; rfl
theorem Ar.lay {c:Cfg}{acc:List Int}{bs:List Blk}{v:V}(h:Ar c acc bs v)(ys:List Blk):Ar c acc (bs++ys) v:=by
 obtain ⟨b,cap,k1,k2,k3,k4⟩:=h.is;exact ⟨ay h.c0,⟨b,cap,k1,k2,ay k3,k4⟩,h.ne⟩
theorem Ar.app {c:Cfg}{acc:List Int}{bs:List Blk}{v:V}(h:Ar c acc bs v)(hl:acc.length<big)(lo:Nat){x:Int}{r:Nat}{cap:Option Nat}(hr:aa bs r=some [iv .u32 x]) :
 ∃ v' bs' lo',dY ⟨bs,lo⟩ 1 4 v (.row r 0 1 cap 1)=some (v',⟨bs',lo'⟩)/\Ar c (acc++[x]) bs' v':=by
 obtain ⟨b,cp,k1,rfl,k3,k4⟩:=h.is;have hbl:=aN k3;have h0l:=aN h.c0;have hrc:aF ⟨bs,lo⟩ (.row r 0 1 cap 1) 1=some (1,[iv .u32 x]):=by
  simp only [aF,if_true,get_eq,hr]; rfl
 have hsub:sub (acc.map (iv .u32)) 0 (acc.length * 1)=some (acc.map (iv .u32)):=bB (by simp);have hroom:roomy (acc.length+1) 4=true:=by
  simp only [roomy,ap,br]; exact ⟨hl,by decide⟩
 have hpos:0<acc.length:=List.length_pos_iff.2 h.ne;have hcs:(acc.map (iv .u32))++[iv .u32 x]=(acc++[x]).map (iv .u32):=by simp
 obtain rfl | rfl:=k4
 . refine ⟨.row bs.length 0 (acc.length+1) none 1,bs.set b (.cells [])++[.cells ((acc++[x]).map (iv .u32))],min lo b,?_,⟨?_,?_,by simp⟩⟩
   . simp only [dY,hrc,aI,get_eq,k3,hsub,hroom];simp [hpos,Hp.set]
   . refine ay ?_;have:=h.c0;unfold aa at this ⊢;rw [ac (by omega)]; exact this
   . exact ⟨bs.length,none,by omega,by simp,by have:=gu (bs:=bs.set b (.cells [])) (ys:=[.cells ((acc++[x]).map (iv .u32))]); simp only [List.length_set] at this; rw [this]; rfl,.inl rfl⟩
 . refine ⟨.row bs.length 0 (acc.length+1) none 1,bs++[.cells ((acc++[x]).map (iv .u32))],lo,?_,⟨ay h.c0,?_,by simp⟩⟩
   . simp only [dY,hrc,aI,get_eq,k3,hsub,hroom];simp;intro hh; omega
   . exact ⟨bs.length,none,by omega,by simp,by rw [gu]; rfl,.inl rfl⟩
theorem Ul (c:Cfg)(hc:c.ok)(hsm:c.pods.l.length<=2 ^ 20):∀ (m i:Nat) (acc:List Int) (bs:List Blk) (lo:Nat) (v:V),i+m=c.pods.l.length->acc.length=i+1->Ar c acc bs v →
 ∃ v' bs' lo',Cd E TT aj (.loop [1,3,15,16,17] oO) [(1,.ptr 0 0),(3,v),(15,.d (c.pods.d Pod.c)),(16,.d (i64 c.pods.l.length)),(17,.d (i64 i))] ⟨bs,lo⟩ =
  some (.exit 0,[(1,.ptr 0 0),(3,v')],⟨bs',lo'⟩)/\Ar c (acc++(c.pods.l.drop i).map Pod.addr) bs' v':=by
 have hlt:=hc.1.lt;intro m;have key:=aB (E:=E) (T:=TT) (val:=aj) [1,3,15,16,17] oO;generalize Cd E TT aj (.loop [1,3,15,16,17] oO)=W at key ⊢
 induction m with
 | zero =>
  intro i acc bs lo v hi ha hA;refine ⟨v,bs,lo,?_,by rw [aw (by omega)]; simpa using hA⟩;rw [key];simp [oO,show ¬ ((i:Int)<c.pods.l.length) from by omega]
 | succ m ih =>
  intro i acc bs lo v hi ha hA;have h1:i<c.pods.l.length:=by omega
  have hx:=λh=>aA (z:=7) h (ab h1) (cells:=Pod.c) rfl;have hw:=ax h1 hlt;have hnu:=hA.nu;rw [aq h1];generalize c.pods.l[i]=p at *;have hA2:=hA.lay [.cells (p.c.map .d),.cells [iv .u32 p.addr]];obtain ⟨v1,bs1,lo1,k1,k2⟩:=hA2.app (by show _<2 ^ 30; omega) (min lo bs.length) (x:=p.addr) (r:=bs.length+1) (cap:=some 1) (by simp);have hnu1:=k2.nu;obtain ⟨v',bs',lo',q1,q2⟩:=ih (i+1) (acc++[p.addr]) bs1 lo1 v1 (by omega) (by simp; omega) k2;refine ⟨v',bs',lo',?_,by simpa using q2⟩;rw [key];simp [iv] at k1;simp [oO,hx,hnu,az,k1,hnu1,hw,show ((i:Int)<c.pods.l.length) from by omega];simpa using q1
theorem Um (c:Cfg)(hc:c.ok)(n:Nat)(hn:n<=2 ^ 20)(hsm:c.services.l.length<=2 ^ 20):∀ (m i:Nat) (acc:List Int) (bs:List Blk) (lo:Nat) (v:V),i+m=c.services.l.length->acc.length=n+i+1->Ar c acc bs v →
 ∃ v' bs' lo',Cd E TT aj (.loop [3,28,29,30] oP) [(3,v),(28,.d (c.services.d Svc.c)),(29,.d (i64 c.services.l.length)),(30,.d (i64 i))] ⟨bs,lo⟩ =
  some (.exit 2,[(3,v')],⟨bs',lo'⟩)/\Ar c (acc++(c.services.l.drop i).map Svc.addr) bs' v':=by
 have hlt:=hc.2.1.lt;intro m;have key:=aB (E:=E) (T:=TT) (val:=aj) [3,28,29,30] oP;generalize Cd E TT aj (.loop [3,28,29,30] oP)=W at key ⊢
 induction m with
 | zero =>
  intro i acc bs lo v hi ha hA;refine ⟨v,bs,lo,?_,by rw [aw (by omega)]; simpa using hA⟩;rw [key];simp [oP,show ¬ ((i:Int)<c.services.l.length) from by omega]
 | succ m ih =>
  intro i acc bs lo v hi ha hA;have h1:i<c.services.l.length:=by omega
  have hx:=λh=>aA (z:=5) h (ab h1) (cells:=Svc.c) rfl;have hw:=ax h1 hlt;have hnu:=hA.nu;rw [aq h1];generalize c.services.l[i]=p at *;have hA2:=hA.lay [.cells (p.c.map .d),.cells [iv .u32 p.addr]];obtain ⟨v1,bs1,lo1,k1,k2⟩:=hA2.app (by show _<2 ^ 30; omega) (min lo bs.length) (x:=p.addr) (r:=bs.length+1) (cap:=some 1) (by simp);have hnu1:=k2.nu;obtain ⟨v',bs',lo',q1,q2⟩:=ih (i+1) (acc++[p.addr]) bs1 lo1 v1 (by omega) (by simp; omega) k2;refine ⟨v',bs',lo',?_,by simpa using q2⟩;rw [key];simp [iv] at k1;simp [oP,hx,hnu,az,k1,hnu1,hw,show ((i:Int)<c.services.l.length) from by omega];simpa using q1
theorem zU {bs:List Blk}{b lo:Nat}{l:List Int}(hb:aa bs b=some (l.map (iv .u32))){j:Nat}(hj:j<l.length):ldv ⟨bs,lo⟩ (.ptr b j) 1 true=some (.d (.int .u32 l[j]),⟨bs,lo⟩):=by
 have hs:sub (l.map (iv .u32)) j 1=some [iv .u32 l[j]]:=by
  rw [iy,if_pos (by simp; omega),aq (by simpa using hj)]; simp
 rw [dw,get_eq];show (match (match aa bs b with | some cs=>sub cs j 1 | none=>none) with | some cs=>_ | none=>none)=_;rw [hb];simp only [hs]; rfl
theorem Un {bs:List Blk}{b lo:Nat}{l:List Int}(hb:aa bs b=some (l.map (iv .u32)))(hl:l.length<2 ^ 62){cap:Option Nat}{i:Nat}(hi:i<l.length)(x:Int):∀ (m j:Nat),j+m=i →
 Cd E TT aj (.loop [3,8,10,40,41,42,49,50,51] mV) [(3,.row b 0 l.length cap 1),(8,.d (.bool false)),(10,.d (.int .u32 x)),(40,.row b 0 l.length cap 1),(41,.d (i64 l.length)),(42,.d (i64 i)),(49,.row b 0 i cap 1),(50,.d (i64 i)),(51,.d (i64 j))] ⟨bs,lo⟩ =
  cond (((l.take i).drop j).any λy=>x==y) (some (.exit 4,[(8,bl true)],⟨bs,lo⟩)) (some (.exit 6,[(3,.row b 0 l.length cap 1),(8,.d (.bool false)),(40,.row b 0 l.length cap 1),(41,.d (i64 l.length)),(42,.d (i64 i))],⟨bs,lo⟩)):=by
 intro m;have key:=aB (E:=E) (T:=TT) (val:=aj) [3,8,10,40,41,42,49,50,51] mV;generalize Cd E TT aj (.loop [3,8,10,40,41,42,49,50,51] mV)=W at key ⊢
 induction m with
 | zero =>
  intro j hj;rw [key,aw (by simp; omega)];simp [mV,show ¬ ((j:Int)<(i:Int)) from by omega]
 | succ m ih =>
  intro j hj;have h1:j<i:=by omega
  have hix:=λh=>jU (b:=b) (o:=0) (z:=1) (cap:=cap) (kd:=.i64) (h:=h) h1;have hld:=zU (lo:=lo) hb (show j<l.length by omega);have hw:=ax (show j<l.length by omega) hl;simp only [Nat.mul_one,Nat.zero_add] at hix;have q:=ih (j+1) (by omega);rw [key,aq (show j<(l.take i).length by simp; omega)];simp only [List.getElem_take,List.any_cons];generalize l[j]'(by omega)=y at *;generalize ((l.take i).drop (j+1)).any (λy=>x==y)=R at *;have h0:((j:Int)<(i:Int)):=by omega
  by_cases hxy:x=y
  . simp [mV,hix,hld,h0,hxy,-dw]
  . simp [mV,hix,hld,h0,hxy,hw,-dw];simpa using q
def dup:List Int->List Int->Bool
 | _,[]=>false
 | pre,x::l=>(pre.any λy=>x==y)||dup (pre++[x]) l
theorem Uo {bs:List Blk}{b lo:Nat}{l:List Int}(hb:aa bs b=some (l.map (iv .u32)))(hl:l.length<2 ^ 62){cap:Option Nat}:∀ (m i:Nat),i+m=l.length →
 Cd E TT aj (.loop [3,8,40,41,42] oQ) [(3,.row b 0 l.length cap 1),(8,.d (.bool false)),(40,.row b 0 l.length cap 1),(41,.d (i64 l.length)),(42,.d (i64 i))] ⟨bs,lo⟩ =
  some (.exit 4,[(8,bl (dup (l.take i) (l.drop i)))],⟨bs,lo⟩):=by
 intro m;have key:=aB (E:=E) (T:=TT) (val:=aj) [3,8,40,41,42] oQ;generalize Cd E TT aj (.loop [3,8,40,41,42] oQ)=W at key ⊢
 induction m with
 | zero =>
  intro i hi;rw [key,aw (by omega)];simp [oQ,dup,show ¬ ((i:Int)<l.length) from by omega]
 | succ m ih =>
  intro i hi;have h1:i<l.length:=by omega
  have hix:=λh=>jU (b:=b) (o:=0) (z:=1) (cap:=cap) (kd:=.i64) (h:=h) h1;have hld:=zU (lo:=lo) hb h1;have hw:=ax h1 hl;simp only [Nat.mul_one,Nat.zero_add] at hix;have q:=ih (i+1) (by omega);have htake:l.take (i+1)=l.take i++[l[i]]:=by rw [List.take_add_one,ab h1]; rfl
  have hin:=Un (E:=E) (lo:=lo) hb hl (cap:=cap) h1 l[i] i 0 (by omega);have hsl:=λ(h:Hp) (ev:X->V) (hx:ev (.t 48)=.d (.int .i64 i))=>Cm (h:=h) (ev:=ev) (x:=.t 48) (b:=b) (z:=1) (len:=l.length) (cap:=cap) (n:=i) hx (by omega);rw [htake] at q;rw [key,aq h1];simp only [dup];simp only [List.drop_zero] at hin;generalize l[i]=x at *;generalize ((l.take i).any λy=>x==y)=F at *;have h0:((i:Int)<l.length):=by omega
  simp at hin;simp [oQ,hix,hld,h0,hsl,-dw];rw [ai];simp [hin];cases F
  . simp [hw];simpa using q
  . simp
theorem ah3 (c:Cfg)(hc:c.wf 1048576)(h:Hp):Sm E TT aj 88 [c.v] h=some (bl (!dup [] (0::(c.pods.l.map Pod.addr++c.services.l.map Svc.addr))),h):=by
 have hok:c.ok:=hc.ok (by decide);have f1:c.pods.l.length<=2 ^ 20:=hc.2.2.2.2.1.1.1;have f2:c.services.l.length<=2 ^ 20:=hc.2.2.2.2.2.1.1.1;have hA:Ar c [0] [.cells (c.c.map .d),.cells [iv .u32 0]] (.row 1 0 1 (some 1) 1):=⟨by simp,⟨1,some 1,by omega,rfl,by simp,.inr rfl⟩,by simp⟩;obtain ⟨v1,bs1,lo1,a1,a2⟩:=Ul (E:=E) c hok f1 c.pods.l.length 0 [0] _ 0 _ (by omega) rfl hA;simp only [List.drop_zero] at a2;obtain ⟨v2,bs2,lo2,b1,b2⟩:=Um (E:=E) c hok c.pods.l.length f1 f2 c.services.l.length 0 _ bs1 lo1 v1 (by omega) (by simp) a2;simp only [List.drop_zero] at b2;have hl:([0]++c.pods.l.map Pod.addr++c.services.l.map Svc.addr)=0::(c.pods.l.map Pod.addr++c.services.l.map Svc.addr):=by simp
 rw [hl] at b2;have hlen:(0::(c.pods.l.map Pod.addr++c.services.l.map Svc.addr)).length<2 ^ 62:=by simp; omega
 generalize (0::(c.pods.l.map Pod.addr++c.services.l.map Svc.addr))=L at *;obtain ⟨b,cap,p1,rfl,p3,p4⟩:=b2.is;have d1:=Uo (E:=E) (lo:=lo2) p3 hlen (cap:=cap) L.length 0 (by omega);have hc0:=a2.c0;rw [aY bb8 bq8];simp [iv] at a1;simp at b1 d1;simp [ae,MQ,az];rw [ai];simp [a1,hc0];rw [ai];simp [b1];rw [ai];simp [d1]
def jI (c:Cfg):Bool:=!dup [] (0::(c.pods.l.map Pod.addr++c.services.l.map Svc.addr))
end
section
variable {E:Calls'}
def jm (c:Cfg):Bool:=decide ((c.pods.l.length:Int)<=16)&&decide ((c.services.l.length:Int)<=6)&&decide ((c.bound.l.length:Int)<=4)&&decide ((c.policies.l.length:Int)<=12)
theorem S92 (c:Cfg)(h:Hp):Sm E TT aj 28 [c.v] h=some (bl (jm c),h):=by
 unfold jm;rw [aY t92 v92];by_cases a1:(c.pods.l.length:Int)<=16
 case neg=>simp +decide [ae,q92,au,a1]
 by_cases a2:(c.services.l.length:Int)<=6
 case neg=>simp +decide [ae,q92,au,a1,a2]
 by_cases a3:(c.bound.l.length:Int)<=4
 case neg=>simp +decide [ae,q92,au,a1,a2,a3]
 simp +decide [ae,q92,au,a1,a2,a3]
def kg (c:Cfg):Bool:=decide (c.epoch<=4611686018427387903)&&decide (c.next>=10)&&decide (c.next<=4611686018427387904)&&decide (c.hosts>=1)&&decide (c.hosts<=4)&&decide (c.ways>=0)&&decide (c.ways<=4)
def kP (c:Cfg):Bool:=kg c&&gY c&&bU c&&jI c&&eU c&&bN c
theorem S93 (h385:∀ t:Target,t.wf big->∀ h,E 222 [ag t.c] h=some (bl (aT t),h))(c:Cfg)(hc:c.wf 1048576)(hcb:c.wf big)(h:Hp):Sm E TT aj 29 [c.v] h=some (bl (kP c),h):=by
 have n1:=λh=>ah1 (E:=E) c hcb h;have n2:=λh=>ah2 (E:=E) c hcb h;have n3:∀ h,Sm E TT aj 88 [c.v] h=some (bl (jI c),h):=λh=>ah3 (E:=E) c hc h;have n4:=λh=>ah4 (E:=E) c hcb h;have n5:=λh=>ah5 h385 c hcb h;unfold kP;generalize gY c=A at *;generalize bU c=B at *;generalize jI c=C at *;generalize eU c=D at *;generalize bN c=F at *;rw [aY t93 v93];by_cases a1:c.epoch<=4611686018427387903
 case neg=>simp +decide [ae,q93,au,kg,a1]
 by_cases a2:c.next>=10
 case neg=>simp +decide [ae,q93,au,kg,a1,a2]
 by_cases a3:c.next<=4611686018427387904
 case neg=>simp +decide [ae,q93,au,kg,a1,a2,a3]
 by_cases a4:c.hosts>=1
 case neg=>simp +decide [ae,q93,au,kg,a1,a2,a3,a4]
 by_cases a5:c.hosts<=4
 case neg=>simp +decide [ae,q93,au,kg,a1,a2,a3,a4,a5]
 by_cases a6:c.ways>=0
 case neg=>simp +decide [ae,q93,au,kg,a1,a2,a3,a4,a5,a6]
 by_cases a7:c.ways<=4
 case neg=>simp +decide [ae,q93,au,kg,a1,a2,a3,a4,a5,a6,a7]
 cases A
 case false=>simp +decide [ae,q93,au,kg,a1,a2,a3,a4,a5,a6,a7,n1]
 cases B
 case false=>simp +decide [ae,q93,au,kg,a1,a2,a3,a4,a5,a6,a7,n1,n2]
 cases C
 case false=>simp +decide [ae,q93,au,kg,a1,a2,a3,a4,a5,a6,a7,n1,n2,n3]
 cases D
 case false=>simp +decide [ae,q93,au,kg,a1,a2,a3,a4,a5,a6,a7,n1,n2,n3,n4]
 simp +decide [ae,q93,au,kg,a1,a2,a3,a4,a5,a6,a7,n1,n2,n3,n4,n5]
end
section
def EW (x:V)(h:Hp):Option (V×Hp):=match x with
 | .ptr b o=>some (.ptr b o,h)
 | .eptr cs o=>some (.eptr cs o,h)
 | .fn f cs=>some (.fn f cs,h)
 | .mfn f cs=>some (.mfn f cs,h)
 | _=>none
section
variable {C:Calls'}{ev:X->V}{h:Hp}
@[simp] theorem Q5 {x:X}:opE C (.nilchk x) ev h=EW (ev x) h:=(rfl)
@[simp] theorem QW {b o:Nat}:EW (.ptr b o) h=some (.ptr b o,h):=(rfl)
@[simp] theorem Zh {b o:Nat}{neg:Bool}:eqv .ptr neg (.ptr b o) (.d .nilp) h=some (.d (.bool (false != neg)),h):=(rfl)
end
def jA (bs:List Blk)(p:Nat):Option Nat:=match aa bs p with
 | some [.row b _ _ _ _]=>some b
 | _=>none
def Wr (bs:List Blk)(p:Nat)(l:List Int):Prop :=
 (l=[]/\aa bs p=some [.d (.slice true [])])\/(l≠[]/\∃ b,b≠p/\aa bs p=some [.row b 0 l.length none 1]/\aa bs b=some (l.map (iv .u8)))
def Fx (p:Nat)(bs bs':List Blk):Prop:=bs.length<=bs'.length/\∀ x cs,x≠p->jA bs p≠some x->aa bs x=some cs->aa bs' x=some cs/\jA bs' p≠some x
theorem Fx.refl (p:Nat)(bs:List Blk):Fx p bs bs:=⟨bo _,λx cs _ h2 h3=>⟨h3,h2⟩⟩
theorem Fx.trans {p:Nat}{a b c:List Blk}(h:Fx p a b)(k:Fx p b c):Fx p a c :=
 ⟨ch h.1 k.1,λx cs h1 h2 h3=>k.2 x cs h1 (h.2 x cs h1 h2 h3).2 (h.2 x cs h1 h2 h3).1⟩
theorem Wr.len {bs:List Blk}{p:Nat}{l:List Int}(h:Wr bs p l):p<bs.length:=by
 obtain ⟨_,h⟩ | ⟨_,b,_,h,_⟩:=h<;>exact aN h
theorem Wr.row_lt {bs:List Blk}{p:Nat}{l:List Int}(h:Wr bs p l){x:Nat}(hx:jA bs p=some x):x<bs.length:=by
 obtain ⟨_,h⟩ | ⟨_,b,_,h,h2⟩:=h
 . simp [jA,h] at hx
 . simp only [jA,h,ba] at hx;subst hx; exact aN h2
theorem oC {bs:List Blk}{p:Nat}(h:p<bs.length)(ys:List Blk):jA (bs++ys) p=jA bs p:=by
 simp only [jA,EI h]
theorem Wr.lay {bs:List Blk}{p:Nat}{l:List Int}(h:Wr bs p l)(ys:List Blk):Wr (bs++ys) p l:=by
 obtain ⟨h1,h2⟩ | ⟨h1,b,h2,h3,h4⟩:=h
 . exact .inl ⟨h1,ay h2⟩
 . exact .inr ⟨h1,b,h2,ay h3,ay h4⟩
theorem Fx.lay {p:Nat}{bs:List Blk}(h:p<bs.length)(ys:List Blk):Fx p bs (bs++ys) :=
 ⟨by simp,λx cs h1 h2 h3=>⟨ay h3,by rw [oC h]; exact h2⟩⟩
theorem ak {bs:List Blk}{b x:Nat}{cs:List V}:aa (bs.set b (.cells cs)) x=if b=x then (if b<bs.length then some cs else none) else aa bs x:=by
 unfold aa;rw [List.getElem?_set];by_cases h:b=x
 . subst h;by_cases hb:b<bs.length<;>simp [hb]
 . simp [h]
theorem Wr.app {bs:List Blk}{p:Nat}{l:List Int}(h:Wr bs p l){x:V}{xs:List Int}{m lo:Nat}(hr:aF ⟨bs,lo⟩ x 1=some (m,xs.map (iv .u8)))(hm:m=xs.length)(hl:l.length+xs.length<=big) :
 ∃ v v' bs1 lo1,aa bs p=some [v]/\nu v=some v/\nu v'=some v'/\v'.cells=some [v']/\dY ⟨bs,lo⟩ 1 1 v x=some (v',⟨bs1,lo1⟩)/\p<bs1.length/\aa bs1 p=some [v]/\Wr (bs1.set p (.cells [v'])) p (l++xs)/\Fx p bs (bs1.set p (.cells [v'])):=by
 subst hm;have hp:=h.len;have hroom:roomy (l.length+xs.length) 1=true:=by
  simp only [roomy,ap,br]; exact ⟨hl,by decide⟩
 obtain ⟨rfl,h2⟩ | ⟨h1,b,h2,h3,h4⟩:=h
 . by_cases hx:xs=[]
   . subst hx;refine ⟨nV,nV,bs,lo,h2,rfl,rfl,rfl,?_,hp,h2,.inl ⟨rfl,by simp [ak,hp]⟩,?_⟩
     . simp [dY,hr,aI]
     . refine ⟨by simp,λy cs k1 k2 k3=>⟨by rw [ak,if_neg (Ne.symm k1)]; exact k3,?_⟩⟩;simp [jA,ak,hp]
   . have hx0:¬ xs.length=0:=by simpa using hx
     have hroom':roomy xs.length 1=true:=by simpa using hroom
     refine ⟨nV,.row bs.length 0 xs.length none 1,bs++[.cells (xs.map (iv .u8))],lo,h2,rfl,rfl,rfl,?_,by simp; omega,ay h2,.inr ⟨by simpa using hx,bs.length,by omega,?_,?_⟩,?_⟩
     . simp [dY,hr,aI,hx0,hroom']
     . rw [ak,if_pos rfl,if_pos (by simp; omega)]; simp
     . rw [ak,if_neg (by omega),gu]; simp
     . refine ⟨by simp,λy cs k1 k2 k3=>⟨by rw [ak,if_neg (Ne.symm k1)]; exact ay k3,?_⟩⟩;have:=aN k3;simp [jA,ak];rw [if_pos (by omega)];simp; omega
 . have hbl:=aN h4;have hpos:0<l.length:=List.length_pos_iff.2 h1;by_cases hx:xs=[]
   . subst hx;refine ⟨.row b 0 l.length none 1,.row b 0 l.length none 1,bs,lo,h3,rfl,rfl,rfl,?_,hp,h3,.inr ⟨by simpa using h1,b,h2,?_,?_⟩,?_⟩
     . simp [dY,hr,aI]
     . rw [ak,if_pos rfl,if_pos hp]; simp
     . rw [ak,if_neg (Ne.symm h2)]; simpa using h4
     . refine ⟨by simp,λy cs k1 k2 k3=>⟨by rw [ak,if_neg (Ne.symm k1)]; exact k3,?_⟩⟩;simp only [jA,h3] at k2;simpa [jA,ak,hp] using k2
   . have hx0:¬ xs.length=0:=by simpa using hx
     have hsub:sub (l.map (iv .u8)) 0 (l.length * 1)=some (l.map (iv .u8)):=bB (by simp);refine ⟨.row b 0 l.length none 1,.row bs.length 0 (l.length+xs.length) none 1,bs.set b (.cells [])++[.cells ((l++xs).map (iv .u8))],min lo b,h3,rfl,rfl,rfl,?_,by simp; omega,?_,.inr ⟨by simp [h1],bs.length,by omega,?_,?_⟩,?_⟩
     . simp only [dY,hr,aI,get_eq,h4,hsub,hroom];simp [hx0,hpos,Hp.set]
     . refine ay ?_;rw [ak,if_neg h2]; exact h3
     . rw [ak,if_pos rfl,if_pos (by simp; omega)]; simp
     . rw [ak,if_neg (by omega)];have:=gu (bs:=bs.set b (.cells [])) (ys:=[.cells ((l++xs).map (iv .u8))]);simp only [List.length_set] at this;rw [this]; rfl
     . refine ⟨by simp,λy cs k1 k2 k3=>?_⟩;simp only [jA,h3,ne_eq,ba] at k2;have:=aN k3;refine ⟨by rw [ak,if_neg (Ne.symm k1)]; exact ay (by rw [ak,if_neg k2]; exact k3),?_⟩;simp [jA,ak];rw [if_pos (by omega)];simp; omega
section
variable {E:Calls'}
def kv (E:Calls')(f:FuncId)(args:List V)(p:Nat)(bs:List Blk)(l xs:List Int):Prop:=∀ lo,∃ bs' lo',Sm E TT aj f args ⟨bs,lo⟩=some (.tup [],⟨bs',lo'⟩)/\lo'<=p/\Wr bs' p (l++xs)/\Fx p bs bs'
theorem Vm {p:Nat}{bs:List Blk}{l xs:List Int}(h:Wr bs p l){x:V}(hnu:nu x=some x){m:Nat}(hr:∀ lo,aF ⟨bs,lo⟩ x 1=some (m,xs.map (iv .u8)))(hm:m=xs.length)(hl:l.length+xs.length<=big):kv E 134 [.ptr p 0,x] p bs l xs:=by
 intro lo;obtain ⟨v,v',bs1,lo1,k1,k2,k3,k4,k5,k6,k7,k8,k9⟩:=h.app (hr bs.length) hm hl;have hp:=h.len;refine ⟨_,min lo (min lo1 p),?_,by omega,k8,k9⟩;rw [aM be4 bu0];simp [ae,Nb,k1,k4,k5,k7,hnu,Hp.set];rw [if_neg (λhh=>by have:=hh.1; omega)];rfl
end
end
section
variable {E:Calls'}
def lenTab:ByteArray:=⟨#[0,1,2,2,3,3,3,3,4,4,4,4,4,4,4,4,5,5,5,5,5,5,5,5,5,5,5,5,5,5,5,5,6,6,6,6,6,6,6,6,6,6,6,6,6,6,6,6,6,6,6,6,6,6,6,6,6,6,6,6,6,6,6,6,7,7,7,7,7,7,7,7,7,7,7,7,7,7,7,7,7,7,7,7,7,7,7,7,7,7,7,7,7,7,7,7,7,7,7,7,7,7,7,7,7,7,7,7,7,7,7,7,7,7,7,7,7,7,7,7,7,7,7,7,7,7,7,7,8,8,8,8,8,8,8,8,8,8,8,8,8,8,8,8,8,8,8,8,8,8,8,8,8,8,8,8,8,8,8,8,8,8,8,8,8,8,8,8,8,8,8,8,8,8,8,8,8,8,8,8,8,8,8,8,8,8,8,8,8,8,8,8,8,8,8,8,8,8,8,8,8,8,8,8,8,8,8,8,8,8,8,8,8,8,8,8,8,8,8,8,8,8,8,8,8,8,8,8,8,8,8,8,8,8,8,8,8,8,8,8,8,8,8,8,8,8,8,8,8,8,8,8,8,8,8,8]⟩
def lenL:List UInt8:=lenTab.data.toList
theorem Jt:lenL.length=256:=by decide +kernel
theorem Di:lenL.all (λb=>decide (b.toNat<=8))=true:=by decide +kernel
def lenT (i:Nat):Int:=match lenL[i]? with
 | some b=>b.toNat
 | none=>0
theorem zG (i:Nat):0<=lenT i/\lenT i<=8:=by
 unfold lenT;split
 . rename_i b hb;have:=cm.1 Di b (ce hb);simp at this;omega
 . omega
theorem Y1 (n:Int):0<=wrap .u8 n/\wrap .u8 n<256:=by
 simp [wrap,IntKind.bits,IntKind.signed];omega
theorem QT {n:Int}{h:Hp}:uJ (.d (.str lenTab)) (.d (.int .u8 (wrap .u8 n))) h=some (.d (.int .u8 (lenT (wrap .u8 n).toNat)),h):=by
 obtain ⟨h0,h1⟩:=Y1 n;generalize wrap .u8 n=m at *;have hlt:m.toNat<lenL.length:=by rw [Jt]; omega
 have hb:lenTab.toList[m.toNat]?=some lenL[m.toNat]:=by rw [bJ]; exact ab hlt
 simp only [uJ,if_pos h0,hb,lenT,ab hlt]
def mJ (x:Int):Int:=if x>=4294967296 then x.fdiv 4294967296 else x
def nH (x:Int):Int:=if x>=65536 then x.fdiv 65536 else x
def tK (x:Int):Int:=if x>=256 then x.fdiv 256 else x
def eG (x:Int):Int:=(if x>=4294967296 then 32 else 0)+(if mJ x>=65536 then 16 else 0)+(if nH (mJ x)>=256 then 8 else 0)+lenT (wrap .u8 (tK (nH (mJ x)))).toNat
theorem rG (x:Int):0<=eG x/\eG x<=64:=by
 have:=zG (wrap .u8 (tK (nH (mJ x)))).toNat;unfold eG
 repeat' split
 all_goals omega
theorem QQ (x:Int):(x>=4294967296/\bK .shr (.d (.int .u64 x)) (.d (.int .u64 32))=some (.int .u64 (mJ x)))\/(¬ x>=4294967296/\mJ x=x):=by
 by_cases c:x>=4294967296
 . exact .inl ⟨c,by rw [iE (by decide),mJ,if_pos c]; rfl⟩
 . exact .inr ⟨c,if_neg c⟩
theorem QR (x:Int):(x>=65536/\bK .shr (.d (.int .u64 x)) (.d (.int .u64 16))=some (.int .u64 (nH x)))\/(¬ x>=65536/\nH x=x):=by
 by_cases c:x>=65536
 . exact .inl ⟨c,by rw [iE (by decide),nH,if_pos c]; rfl⟩
 . exact .inr ⟨c,if_neg c⟩
theorem QS (x:Int):(x>=256/\bK .shr (.d (.int .u64 x)) (.d (.int .u64 8))=some (.int .u64 (tK x)))\/(¬ x>=256/\tK x=x):=by
 by_cases c:x>=256
 . exact .inl ⟨c,by rw [iE (by decide),tK,if_pos c]; rfl⟩
 . exact .inr ⟨c,if_neg c⟩
theorem ak9 (x:Int)(h:Hp):Sm E TT aj 211 [.d (u64 x)] h=some (.d (i64 (eG x)),h):=by
 rw [aY bf3 bu9];have htab:(⟨#[0,1,2,2,3,3,3,3,4,4,4,4,4,4,4,4,5,5,5,5,5,5,5,5,5,5,5,5,5,5,5,5,6,6,6,6,6,6,6,6,6,6,6,6,6,6,6,6,6,6,6,6,6,6,6,6,6,6,6,6,6,6,6,6,7,7,7,7,7,7,7,7,7,7,7,7,7,7,7,7,7,7,7,7,7,7,7,7,7,7,7,7,7,7,7,7,7,7,7,7,7,7,7,7,7,7,7,7,7,7,7,7,7,7,7,7,7,7,7,7,7,7,7,7,7,7,7,7,8,8,8,8,8,8,8,8,8,8,8,8,8,8,8,8,8,8,8,8,8,8,8,8,8,8,8,8,8,8,8,8,8,8,8,8,8,8,8,8,8,8,8,8,8,8,8,8,8,8,8,8,8,8,8,8,8,8,8,8,8,8,8,8,8,8,8,8,8,8,8,8,8,8,8,8,8,8,8,8,8,8,8,8,8,8,8,8,8,8,8,8,8,8,8,8,8,8,8,8,8,8,8,8,8,8,8,8,8,8,8,8,8,8,8,8,8,8,8,8,8,8,8,8,8,8,8,8]⟩:ByteArray)=lenTab:=rfl;have hl:=zG (wrap .u8 (tK (nH (mJ x)))).toNat;have hL:=λh=>QT (n:=tK (nH (mJ x))) (h:=h);unfold eG;have hA:=QQ x;have hB:=QR (mJ x);have hC:=QS (nH (mJ x));have hw:∀ n:Int,0<=n->n<=1000->wrap .i64 n=n:=λn h1 h2=>wrap64 (by omega) (by omega);have w16:=hw 16 (by omega) (by omega);have w40:=hw 40 (by omega) (by omega);have w48:=hw 48 (by omega) (by omega);have w56:=hw 56 (by omega) (by omega);have w24:=hw 24 (by omega) (by omega);have w8:=hw 8 (by omega) (by omega);generalize mJ x=a at *;generalize nH a=b at *;generalize tK b=c at *;generalize lenT (wrap .u8 c).toNat=L at *;have wL:=hw L (by omega) (by omega);have v1:=hw (8+L) (by omega) (by omega);have v2:=hw (16+L) (by omega) (by omega);have v3:=hw (24+L) (by omega) (by omega);have v4:=hw (32+L) (by omega) (by omega);have v5:=hw (40+L) (by omega) (by omega)
 have v6:=hw (48+L) (by omega) (by omega);have v7:=hw (56+L) (by omega) (by omega);obtain ⟨a1,a2⟩ | ⟨a1,rfl⟩:=hA<;>obtain ⟨b1,b2⟩ | ⟨b1,rfl⟩:=hB<;>obtain ⟨c1,c2⟩ | ⟨c1,rfl⟩:=hC<;>simp [ae,Nh, *]
def dE (x:Int):Int:=if (eG x+6).tdiv 7>1 then (eG x+6).tdiv 7 else 1
theorem oH (x:Int):1<=dE x/\dE x<=10:=by
 have:=rG x;have h2:(eG x+6).tdiv 7=(eG x+6) / 7:=Int.tdiv_eq_ediv_of_nonneg (by omega);unfold dE;rw [h2];split<;>omega
theorem Vp (x:Int)(h:Hp):Sm E TT aj 163 [.d (u64 x)] h=some (.d (i64 (dE x)),h):=by
 rw [aY bf8 bv4];have hl:=rG x;have h1:=λh=>ak9 (E:=E) x h;have hw:wrap .i64 (eG x+6)=eG x+6:=wrap64 (by omega) (by omega);have h2:(eG x+6).tdiv 7=(eG x+6) / 7:=Int.tdiv_eq_ediv_of_nonneg (by omega);have hq:bK .quo (.d (.int .i64 (eG x+6))) (.d (.int .i64 7))=some (.int .i64 ((eG x+6).tdiv 7)):=by
  simp only [bK,if_true,fB];rw [if_neg (by omega),wrap64]<;>omega
 simp [ae,Nl,h1,hw,hq,dE]
def orI (k:IntKind)(a b:Int):Int:=k.wrap ((BitVec.ofInt k.bits a ||| BitVec.ofInt k.bits b).toNat)
theorem zx {k:IntKind}{a b:Int}:bK .or (.d (.int k a)) (.d (.int k b))=some (.int k (orI k a b)):=by simp [bK,fB,orI]
def iw:Nat->Int->List Int
 | 0,x=>[wrap .u8 x]
 | k+1,x=>orI .u8 (wrap .u8 x) 128::iw k (x.fdiv 128)
def aK (x:Int):List Int:=iw ((dE x).toNat-1) x
theorem mE (k:Nat)(x:Int):(iw k x).length=k+1:=by
 induction k generalizing x with
 | zero=>rfl
 | succ k ih=>simp [iw,ih]
theorem aR (x:Int):(aK x).length<=10:=by
 have:=oH x;rw [aK,mE]; omega
theorem fJ {bs bs':List Blk}{lo lo' p:Nat}{r:V}(h1:lo'<=p)(h2:p<bs.length):fC ⟨bs,lo⟩ (some (r,⟨bs',lo'⟩))=some (r,⟨bs',min lo lo'⟩):=by
 simp only [fC];rw [if_neg (λhh=>by have:=hh.1; omega)]
theorem J8 {bs:List Blk}{x:Int}{k:IntKind}(lo:Nat):aF ⟨bs++[.cells [.d (.int k x)]],lo⟩ (.row bs.length 0 1 (some 1) 1) 1=some (1,[iv k x]):=by
 simp only [aF,if_true,get_eq,gu];rfl
theorem wU {p:Nat}{bs:List Blk}{l:List Int}(h:Wr bs p l)(x:Int)(hl:l.length+1<=big):kv E 134 [.ptr p 0,.row bs.length 0 1 (some 1) 1] p (bs++[.cells [.d (.int .u8 x)]]) l [x] :=
 Vm (h.lay _) rfl (λlo=>J8 lo) rfl hl
theorem H8 {p:Nat}:∀ (m i:Nat) (x:Int) (bs:List Blk) (lo:Nat) (l:List Int) (G:Nat),i+m=G->G<=10->Wr bs p l->l.length+(m+1)<=big →
 ∃ bs' lo' y l',Cd E TT aj (.loop [0,1,6,7] oZ) [(0,.ptr p 0),(1,.d (u64 x)),(6,.d (i64 G)),(7,.d (i64 i))] ⟨bs,lo⟩=some (.exit 0,[(0,.ptr p 0),(1,.d (u64 y))],⟨bs',lo'⟩) ∧
  l++iw m x=l'++iw 0 y/\l'.length=l.length+m/\Wr bs' p l'/\Fx p bs bs':=by
 intro m;have key:=aB (E:=E) (T:=TT) (val:=aj) [0,1,6,7] oZ;generalize Cd E TT aj (.loop [0,1,6,7] oZ)=W at key ⊢
 induction m with
 | zero =>
  intro i x bs lo l G hi hG hW hl;refine ⟨bs,lo,x,l,?_,rfl,rfl,hW,Fx.refl _ _⟩;rw [key];simp [oZ,show ¬ ((i:Int)<G) from by omega]
 | succ m ih =>
  intro i x bs lo l G hi hG hW hl;have h1:=wU (E:=E) hW (orI .u8 (wrap .u8 x) 128) (by omega);obtain ⟨bs1,lo1,k1,k2,k3,k4⟩:=h1 lo;have hw:=ax (show i<G by omega) (show G<2 ^ 62 by omega);obtain ⟨bs',lo',y,l',q1,q2,q3,q4,q5⟩:=ih (i+1) (x.fdiv 128) bs1 lo1 (l++[orI .u8 (wrap .u8 x) 128]) G (by omega) hG k3 (by simp; omega);refine ⟨bs',lo',y,l',?_,by rw [← q2]; simp [iw],by rw [q3]; simp; omega,q4,((Fx.lay hW.len _).trans k4).trans q5⟩;have hs:bK .shr (.d (.int .u64 x)) (.d (.int .u64 7))=some (.int .u64 (x.fdiv 128)):=by rw [iE (by decide)]; rfl
  rw [key];simp [oZ,zx,az,k1,hs,hw,show ((i:Int)<G) from by omega];simpa using q1
theorem FD {p:Nat}{bs:List Blk}{l:List Int}(h:Wr bs p l)(x:Int)(hl:l.length+(aK x).length<=big):kv E 133 [.ptr p 0,.d (u64 x)] p bs l (aK x):=by
 intro lo;have hg:=oH x;rw [aK,mE] at hl;have hp:=h.len;obtain ⟨bs1,lo1,y,l1,q1,q2,q3,q4,q5⟩:=H8 (E:=E) ((dE x).toNat-1) 0 x bs bs.length l ((dE x).toNat-1) (by omega) (by omega) h (by omega);obtain ⟨bs2,lo2,k1,k2,k3,k4⟩:=wU (E:=E) q4 (wrap .u8 y) (by omega) lo1;have hS:=λh=>Vp (E:=E) x h;have hw:wrap .i64 (dE x-1)=(((dE x).toNat-1:Nat):Int):=by rw [wrap64]<;>omega
 refine ⟨bs2,min lo lo2,?_,by omega,?_,(q5.trans (Fx.lay q4.len _)).trans k4⟩
 . rw [aM be3 bt9];simp [ae,Na,hS,hw];rw [ai];simp at q1;simp [q1,az,k1];exact fJ k2 hp
 . rw [aK,q2]; exact k3
theorem Vt {p:Nat}{bs:List Blk}{l:List Int}(h:Wr bs p l)(x:Int)(hl:l.length+1<=big):kv E 245 [.ptr p 0,.d (.int .u8 x)] p bs l [x]:=by
 intro lo;obtain ⟨bs1,lo1,k1,k2,k3,k4⟩:=wU (E:=E) h x hl bs.length;refine ⟨bs1,min lo lo1,?_,by omega,k3,(Fx.lay h.len _).trans k4⟩;rw [aM bi0 bx8];simp [ae,Sw,az,k1];exact fJ k2 h.len
def qP (x:Int):List Int:=[wrap .u8 x,wrap .u8 (x.fdiv 256),wrap .u8 (x.fdiv 65536),wrap .u8 (x.fdiv 16777216)]
theorem an1 {p:Nat}{bs:List Blk}{l:List Int}(h:Wr bs p l)(x:Int)(hl:l.length+4<=big):kv E 244 [.ptr p 0,.d (u32 x)] p bs l (qP x):=by
 intro lo;have s0:bK .shr (.d (.int .u32 x)) (.d (.int .i64 0))=some (.int .u32 x):=by rw [iE (by decide)]; simp
 have s1:bK .shr (.d (.int .u32 x)) (.d (.int .i64 8))=some (.int .u32 (x.fdiv 256)):=by rw [iE (by decide)]; rfl
 have s2:bK .shr (.d (.int .u32 x)) (.d (.int .i64 16))=some (.int .u32 (x.fdiv 65536)):=by rw [iE (by decide)]; rfl
 have s3:bK .shr (.d (.int .u32 x)) (.d (.int .i64 24))=some (.int .u32 (x.fdiv 16777216)):=by rw [iE (by decide)]; rfl
 obtain ⟨b1,l1,a1,a2,a3,a4⟩:=wU (E:=E) h (wrap .u8 x) (by omega) bs.length;obtain ⟨b2,l2,c1,c2,c3,c4⟩:=wU (E:=E) a3 (wrap .u8 (x.fdiv 256)) (by simp; omega) l1;obtain ⟨b3,l3,d1,d2,d3,d4⟩:=wU (E:=E) c3 (wrap .u8 (x.fdiv 65536)) (by simp; omega) l2;obtain ⟨b4,l4,e1,e2,e3,e4⟩:=wU (E:=E) d3 (wrap .u8 (x.fdiv 16777216)) (by simp; omega) l3;refine ⟨b4,min lo l4,?_,by omega,by simpa [qP] using e3,((Fx.lay h.len _).trans a4).trans (((Fx.lay a3.len _).trans c4).trans (((Fx.lay c3.len _).trans d4).trans ((Fx.lay d3.len _).trans e4)))⟩;rw [aM bh9 bx7];have key:=aB (E:=E) (T:=TT) (val:=aj) [0,1,6,7] lH;simp [ae,Sv,az];rw [ai];generalize Cd E TT aj (.loop [0,1,6,7] lH)=W at key ⊢;simp;have w1:wrap .i64 1=1:=by decide
 have w2:wrap .i64 2=2:=by decide
 have w3:wrap .i64 3=3:=by decide
 have w4:wrap .i64 4=4:=by decide
 rw [key]; simp [lH,opE,s0,az,a1,w1];rw [key]; simp [lH,opE,s1,az,c1,w2];rw [key]; simp [lH,opE,s2,az,d1,w3];rw [key]; simp [lH,opE,s3,az,e1,w4];rw [key]; simp [lH];exact fJ e2 h.len
def uV (x:V)(h:Hp):Option (V×Hp):=match x with
 | .d (.str s)=>if s.size<=2 ^ 40 then some (.row h.size 0 s.size none 1,h.alloc (s.toList.map λb=>.d (.int .u8 b.toNat))) else none
 | _=>none
@[simp] theorem mM {C:Calls'}{ev:X->V}{h:Hp}{x:X}:opE C (.convSB x) ev h=uV (ev x) h:=(rfl)
theorem IR {h:Hp}{s:ByteArray}(hs:s.size<=2 ^ 40):uV (.d (.str s)) h=some (.row h.size 0 s.size none 1,h.alloc (s.toList.map λb=>.d (.int .u8 b.toNat))):=if_pos hs
def bA (s:ByteArray):List Int:=aK s.size++s.toList.map λb=>(b.toNat:Int)
theorem jv (s:ByteArray):(bA s).length<=10+s.size:=by
 have:=aR s.size;simp only [bA,ao,cc,eX];omega
theorem CJ {p:Nat}{bs:List Blk}{l:List Int}(h:Wr bs p l)(s:ByteArray)(hl:l.length+(bA s).length<=big):kv E 78 [.ptr p 0,.d (.str s)] p bs l (bA s):=by
 intro lo;have hsz:s.toList.length=s.size:=eX s;simp only [bA,ao,cc] at hl;have hs:s.size<=2 ^ 40:=ch (m:=2 ^ 30) (by rw [← hsz]; have:big=2 ^ 30:=rfl; omega) (by decide);obtain ⟨b1,l1,a1,a2,a3,a4⟩:=FD (E:=E) h s.size (by omega) bs.length;have hrc:∀ lo,aF ⟨b1++[.cells (s.toList.map λb=>V.d (.int .u8 b.toNat))],lo⟩ (.row b1.length 0 s.size none 1) 1=some (s.size,(s.toList.map λb=>(b.toNat:Int)).map (iv .u8)):=by
  intro lo;have:sub (s.toList.map λb=>V.d (.int .u8 b.toNat)) 0 (s.size * 1)=some (s.toList.map λb=>V.d (.int .u8 b.toNat)):=bB (by simp [hsz]);simp only [aF,if_true,get_eq,gu,tJ,this,List.map_map];rfl
 obtain ⟨b2,l2,c1,c2,c3,c4⟩:=Vm (E:=E) (a3.lay _) (x:=.row b1.length 0 s.size none 1) rfl hrc (by simp [hsz]) (by simp; omega) l1;refine ⟨b2,min lo l2,?_,by omega,by simpa [bA] using c3,(a4.trans (Fx.lay a3.len _)).trans c4⟩;have hw:wrap .u64 (s.size:Int)=s.size:=by
  simp [wrap,IntKind.bits,IntKind.signed];omega
 rw [aM bc4 br1];simp [ae,MW,hw,a1,IR hs,c1];exact fJ c2 h.len
theorem JR {p:Nat}{xs:List Int}(hxn:xs.length<2 ^ 62){q:Nat}(hq:q≠p){cap:Option Nat}:∀ (m i:Nat) (bs:List Blk) (lo:Nat) (l:List Int),i+m=xs.length->Wr bs p l->jA bs p≠some q->aa bs q=some (xs.map λn=>V.d (u64 n))->l.length+((xs.drop i).flatMap aK).length<=big →
 ∃ bs' lo',Cd E TT aj (.loop [0,6,7,8] oU) [(0,.ptr p 0),(6,.row q 0 xs.length cap 1),(7,.d (i64 xs.length)),(8,.d (i64 i))] ⟨bs,lo⟩=some (.exit 0,[],⟨bs',lo'⟩) ∧
  (lo'=lo/\xs.drop i=[]\/lo'<=p)/\Wr bs' p (l++(xs.drop i).flatMap aK)/\Fx p bs bs':=by
 intro m;have key:=aB (E:=E) (T:=TT) (val:=aj) [0,6,7,8] oU;generalize Cd E TT aj (.loop [0,6,7,8] oU)=W at key ⊢
 induction m with
 | zero =>
  intro i bs lo l hi hW h1 h2 hl;have h0:xs.drop i=[]:=aw (by omega);refine ⟨bs,lo,?_,.inl ⟨rfl,h0⟩,by simpa [h0] using hW,Fx.refl _ _⟩;rw [key];simp [oU,show ¬ ((i:Int)<xs.length) from by omega]
 | succ m ih =>
  intro i bs lo l hi hW h1 h2 hl;have hlt:i<xs.length:=by omega
  have hd:xs.drop i=xs[i]::xs.drop (i+1):=aq hlt;have hix:=λh=>jU (b:=q) (o:=0) (z:=1) (cap:=cap) (kd:=.i64) (h:=h) hlt;simp only [Nat.mul_one,Nat.zero_add] at hix;have hs:sub (xs.map λn=>V.d (u64 n)) i 1=some [.d (u64 xs[i])]:=by
   rw [iy,if_pos (by simp; omega),aq (by simpa using hlt)]; simp
  rw [hd] at hl ⊢;simp only [List.flatMap_cons,ao] at hl;generalize xs[i]=x at *;obtain ⟨b1,l1,a1,a2,a3,a4⟩:=FD (E:=E) hW x (by omega) lo;obtain ⟨f1,f2⟩:=a4.2 q _ hq h1 h2;obtain ⟨bs',lo',q1,q2,q3,q4⟩:=ih (i+1) b1 l1 (l++aK x) (by omega) a3 f2 f1 (by rw [ao]; omega);have hw:=ax hlt hxn;refine ⟨bs',lo',?_,.inr ?_,by simpa using q3,a4.trans q4⟩
  . have hld:ldv ⟨bs,lo⟩ (.ptr q i) 1 true=some (.d (u64 x),⟨bs,lo⟩):=by
     rw [dw,get_eq];show (match (match aa bs q with | some cs=>sub cs i 1 | none=>none) with | some cs=>_ | none=>none)=_;rw [h2]; simp only [hs]; rfl
    rw [key];simp [oU,hix,hld,a1,hw,show ((i:Int)<xs.length) from by omega,-dw];simpa using q1
  . obtain ⟨rfl,_⟩ | q2:=q2
    . exact a2
    . exact q2
theorem xS {p:Nat}{bs:List Blk}{l:List Int}(h:Wr bs p l){xs:List Int}(hne:xs≠[])(hn:xs.length<2 ^ 62){q:Nat}(hq:q≠p){cap:Option Nat}(h1:jA bs p≠some q)(h2:aa bs q=some (xs.map λn=>V.d (u64 n)))(hl:l.length+(xs.flatMap aK).length<=big):kv E 77 [.ptr p 0,.row q 0 xs.length cap 1] p bs l (xs.flatMap aK):=by
 intro lo;obtain ⟨bs',lo',k1,k2,k3,k4⟩:=JR (E:=E) hn hq (cap:=cap) xs.length 0 bs bs.length l (by omega) h h1 h2 (by simpa using hl);have hle:lo'<=p:=by
  obtain ⟨_,hx⟩ | k2:=k2
  . exact absurd (by simpa using hx) hne
  . exact k2
 refine ⟨bs',min lo lo',?_,by omega,by simpa using k3,k4⟩;rw [aM t213 br0];simp [ae,MV];rw [ai];simp at k1;simp [k1];exact fJ hle h.len
theorem Vg (bs:List Blk)(lo:Nat):∃ lo',Sm E TT aj 76 [] ⟨bs,lo⟩=some (.ptr bs.length 0,⟨bs++[.cells [nV]],lo'⟩):=by
 refine ⟨min lo bs.length,?_⟩;rw [aM t212 v212];simp [ae,MU,V.under]
theorem K4 (bs:List Blk):Wr (bs++[.cells [nV]]) bs.length []:=.inl ⟨rfl,by simp⟩
theorem Vh {p:Nat}{bs:List Blk}{l:List Int}(h:Wr bs p l)(hl:l.length<=big)(hne:l≠[])(lo:Nat):∃ lo',Sm E TT aj 80 [.ptr p 0] ⟨bs,lo⟩=some (.row bs.length 0 l.length none 1,⟨bs++[.cells (l.map (iv .u8))],lo'⟩):=by
 obtain ⟨h1,_⟩ | ⟨_,b,h2,h3,h4⟩:=h
 . exact absurd h1 hne
 . have hl0:¬ l.length=0:=by simpa using hne
   have hroom:roomy l.length 1=true:=by
    simp only [roomy,ap,br]; exact ⟨hl,by decide⟩
   have hsub:sub (l.map (iv .u8)) 0 (l.length * 1)=some (l.map (iv .u8)):=bB (by simp);have hap:dY ⟨bs,bs.length⟩ 1 1 (nV) (.row b 0 l.length none 1)=some (.row bs.length 0 l.length none 1,⟨bs++[.cells (l.map (iv .u8))],bs.length⟩):=by
    simp only [dY,aF,if_true,get_eq,h4,hsub,Option.map_some,aI,hl0,if_false,hroom];simp
   refine ⟨min lo bs.length,?_⟩;rw [aM bc6 br3];simp [ae,MZ,h3,hap,V.under]
end
section
variable {E:Calls'}
def seqB {α:Type}(enc:α->List Int)(l:List α):List Int:=aK l.length++l.flatMap enc
theorem dn {α:Type}(enc:α->List Int)(x:α)(l:List α):((x::l).flatMap enc).length=(enc x).length+(l.flatMap enc).length:=by simp
theorem Ig {α:Type}{cells:α->List D}{z:Nat}{zero:List V}(hz:∀ x,(cells x).length=z)(hz0:0<z)(hzero:zero.length=z){enc:α->List Int}{p:Nat}{f:FuncId}{s:Sl α}(hs:s.l.length<2 ^ 62)
 (hf:∀ e∈s.l,∀ bs l,Wr bs p l->l.length+(enc e).length<=big->kv E f [.ptr p 0,ag (cells e)] p bs l (enc e)):∀ (m i:Nat) (bs:List Blk) (lo:Nat) (l:List Int),i+m=s.l.length->Wr bs p l->l.length+((s.l.drop i).flatMap enc).length<=big →
 ∃ bs' lo',Cd E TT aj (.loop [0,2,13,14,15] (yZ z zero)) [(0,.ptr p 0),(2,.fn f []),(13,.d (s.d cells)),(14,.d (i64 s.l.length)),(15,.d (i64 i))] ⟨bs,lo⟩=some (.exit 0,[],⟨bs',lo'⟩) ∧
  (lo<=p->lo'<=p)/\Wr bs' p (l++(s.l.drop i).flatMap enc)/\Fx p bs bs':=by
 intro m;have key:=aB (E:=E) (T:=TT) (val:=aj) [0,2,13,14,15] (yZ z zero);generalize Cd E TT aj (.loop [0,2,13,14,15] (yZ z zero))=W at key ⊢
 induction m with
 | zero =>
  intro i bs lo l hi hW hl;have h0:s.l.drop i=[]:=aw (by omega);refine ⟨bs,lo,?_,id,by simpa [h0] using hW,Fx.refl _ _⟩;rw [key];simp [yZ,show ¬ ((i:Int)<s.l.length) from by omega]
 | succ m ih =>
  intro i bs lo l hi hW hl;have hlt:i<s.l.length:=by omega
  have hx:=λh=>aA (z:=z) h (ab hlt) (cells:=cells) (hz _);have hmem:=bd hlt;rw [aq hlt] at hl ⊢;rw [dn] at hl;generalize s.l[i]=e at *;obtain ⟨b1,l1,a1,a2,a3,a4⟩:=hf e hmem (bs++[.cells ((cells e).map .d)]) l (hW.lay _) (by omega) (min lo bs.length);obtain ⟨bs',lo',q1,q2,q3,q4⟩:=ih (i+1) b1 l1 (l++enc e) (by omega) a3 (by rw [ao]; omega);have hw:=ax hlt hs;refine ⟨bs',lo',?_,λ_=>q2 a2,by simpa using q3,((Fx.lay hW.len _).trans a4).trans q4⟩;have hsub:=bB (hz e);have hput:put zero 0 ((cells e).map V.d)=some ((cells e).map .d):=by simp [put,hz,hzero]
  rw [key];simp [yZ,hx,hsub,hput,hz,hz0,a1,hw,show ((i:Int)<s.l.length) from by omega,-jQ];simpa using q1
theorem sZ {α:Type}{cells:α->List D}{z:Nat}{zero:List V}(hz:∀ x,(cells x).length=z)(hz0:0<z)(hzero:zero.length=z){id:FuncId}(ht:TT id=some (wputQ z zero))(hv:aj id=false){enc:α->List Int}{p:Nat}{f:FuncId}{s:Sl α}(hs:short s)
 (hf:∀ e∈s.l,∀ bs l,Wr bs p l->l.length+(enc e).length<=big->kv E f [.ptr p 0,ag (cells e)] p bs l (enc e)) {bs:List Blk} {l:List Int} (h:Wr bs p l) (hl:l.length+(seqB enc s.l).length<=big):kv E id [.ptr p 0,.d (s.d cells),.fn f []] p bs l (seqB enc s.l):=by
 intro lo;simp only [seqB,ao] at hl;obtain ⟨b1,l1,a1,a2,a3,a4⟩:=FD (E:=E) h s.l.length (by omega) bs.length;obtain ⟨b2,l2,k1,k2,k3,k4⟩:=Ig (E:=E) (zero:=zero) hz hz0 hzero hs.lt hf s.l.length 0 b1 l1 (l++aK s.l.length) (by omega) a3 (by rw [ao,List.drop_zero]; omega);refine ⟨b2,min lo l2,?_,by have:=k2 a2; omega,by simpa [seqB] using k3,a4.trans k4⟩;have hb:s.l.length<=big:=hs.1;have hbig:big=2 ^ 30:=rfl;have hw:wrap .u64 (s.l.length:Int)=s.l.length:=by
  simp [wrap,IntKind.bits,IntKind.signed];omega
 rw [aM ht hv];simp [ae,wputQ,hw,a1];rw [ai];simp at k1;simp [k1];exact fJ (k2 a2) h.len
theorem En {α:Type}{cell:α->D}{enc:α->List Int}{p:Nat}{f:FuncId}{s:Sl α}(hs:s.l.length<2 ^ 62)
 (hf:∀ e∈s.l,∀ bs l,Wr bs p l->l.length+(enc e).length<=big->kv E f [.ptr p 0,.d (cell e)] p bs l (enc e)):∀ (m i:Nat) (bs:List Blk) (lo:Nat) (l:List Int),i+m=s.l.length->Wr bs p l->l.length+((s.l.drop i).flatMap enc).length<=big →
 ∃ bs' lo',Cd E TT aj (.loop [0,2,13,14,15] uy) [(0,.ptr p 0),(2,.fn f []),(13,.d (s.d λx=>[cell x])),(14,.d (i64 s.l.length)),(15,.d (i64 i))] ⟨bs,lo⟩=some (.exit 0,[],⟨bs',lo'⟩) ∧
  (lo<=p->lo'<=p)/\Wr bs' p (l++(s.l.drop i).flatMap enc)/\Fx p bs bs':=by
 intro m;have key:=aB (E:=E) (T:=TT) (val:=aj) [0,2,13,14,15] uy;generalize Cd E TT aj (.loop [0,2,13,14,15] uy)=W at key ⊢
 induction m with
 | zero =>
  intro i bs lo l hi hW hl;have h0:s.l.drop i=[]:=aw (by omega);refine ⟨bs,lo,?_,id,by simpa [h0] using hW,Fx.refl _ _⟩;rw [key];simp [uy,show ¬ ((i:Int)<s.l.length) from by omega]
 | succ m ih =>
  intro i bs lo l hi hW hl;have hlt:i<s.l.length:=by omega
  have hx:=λh=>aA (z:=1) h (ab hlt) (cells:=λx=>[cell x]) rfl;have hmem:=bd hlt;rw [aq hlt] at hl ⊢;rw [dn] at hl;generalize s.l[i]=e at *;obtain ⟨b1,l1,a1,a2,a3,a4⟩:=hf e hmem bs l hW (by omega) lo;obtain ⟨bs',lo',q1,q2,q3,q4⟩:=ih (i+1) b1 l1 (l++enc e) (by omega) a3 (by rw [ao]; omega);have hw:=ax hlt hs;refine ⟨bs',lo',?_,λ_=>q2 a2,by simpa using q3,a4.trans q4⟩;rw [key];simp [uy,hx,a1,hw,show ((i:Int)<s.l.length) from by omega];simpa using q1
theorem Ll {α:Type}{cell:α->D}{id:FuncId}(ht:TT id=some wput1Q)(hv:aj id=false){enc:α->List Int}{p:Nat}{f:FuncId}{s:Sl α}(hs:short s)
 (hf:∀ e∈s.l,∀ bs l,Wr bs p l->l.length+(enc e).length<=big->kv E f [.ptr p 0,.d (cell e)] p bs l (enc e)) {bs:List Blk} {l:List Int} (h:Wr bs p l) (hl:l.length+(seqB enc s.l).length<=big):kv E id [.ptr p 0,.d (s.d λx=>[cell x]),.fn f []] p bs l (seqB enc s.l):=by
 intro lo;simp only [seqB,ao] at hl;obtain ⟨b1,l1,a1,a2,a3,a4⟩:=FD (E:=E) h s.l.length (by omega) bs.length;obtain ⟨b2,l2,k1,k2,k3,k4⟩:=En (E:=E) hs.lt hf s.l.length 0 b1 l1 (l++aK s.l.length) (by omega) a3 (by rw [ao,List.drop_zero]; omega);refine ⟨b2,min lo l2,?_,by have:=k2 a2; omega,by simpa [seqB] using k3,a4.trans k4⟩;have hb:s.l.length<=big:=hs.1;have hbig:big=2 ^ 30:=rfl;have hw:wrap .u64 (s.l.length:Int)=s.l.length:=by
  simp [wrap,IntKind.bits,IntKind.signed];omega
 rw [aM ht hv];simp [ae,wput1Q,hw,a1];rw [ai];simp at k1;simp [k1];exact fJ (k2 a2) h.len
end
section
variable {E:Calls'}
theorem Fx.new {p:Nat}{bs bs':List Blk}{l:List Int}{cs:List V}{ys:List Blk}(h:Wr bs p l)(k:Fx p (bs++(.cells cs::ys)) bs'):bs.length≠p/\jA bs' p≠some bs.length/\aa bs' bs.length=some cs:=by
 have hp:=h.len;have h1:jA (bs++(.cells cs::ys)) p≠some bs.length:=by
  rw [oC hp];intro hh;exact Nat.lt_irrefl _ (h.row_lt hh)
 obtain ⟨a,b⟩:=k.2 bs.length cs (by omega) h1 (by simp);exact ⟨by omega,b,a⟩
theorem Wr.fresh {p:Nat}{bs:List Blk}{l:List Int}(h:Wr bs p l)(ys:List Blk):bs.length≠p/\jA (bs++ys) p≠some bs.length:=by
 have hp:=h.len;refine ⟨by omega,?_⟩;rw [oC hp];intro hh;exact Nat.lt_irrefl _ (h.row_lt hh)
def bY (t:Term):List Int:=wrap .u8 t.kind::bA t.text
theorem ao0 (t:Term){p:Nat}{bs:List Blk}{l:List Int}(h:Wr bs p l)(hl:l.length+(bY t).length<=big):kv E 295 [.ptr p 0,ag t.c] p bs l (bY t):=by
 intro lo;simp only [bY,cj] at hl;obtain ⟨b1,l1,a1,a2,a3,a4⟩:=Vt (E:=E) (h.lay [.cells (t.c.map .d)]) (wrap .u8 t.kind) (by omega) bs.length;obtain ⟨f1,f2,f3⟩:=a4.new h;obtain ⟨b2,l2,c1,c2,c3,c4⟩:=CJ (E:=E) a3 t.text (by simp; omega) l1;refine ⟨b2,min lo l2,?_,by omega,by simpa [bY] using c3,((Fx.lay h.len _).trans a4).trans c4⟩;rw [aM bj6 bz4];simp [ae,SB,a1,f3,c1];exact fJ c2 h.len
def jh (c:Cidr):List Int:=qP c.addr++[wrap .u8 c.bits]
theorem an0 (t:Cidr){p:Nat}{bs:List Blk}{l:List Int}(h:Wr bs p l)(hl:l.length+(jh t).length<=big):kv E 243 [.ptr p 0,ag t.c] p bs l (jh t):=by
 intro lo;have h5:(jh t).length=5:=rfl;obtain ⟨b1,l1,a1,a2,a3,a4⟩:=an1 (E:=E) (h.lay [.cells (t.c.map .d)]) t.addr (by omega) bs.length;obtain ⟨f1,f2,f3⟩:=a4.new h;obtain ⟨b2,l2,c1,c2,c3,c4⟩:=Vt (E:=E) a3 (wrap .u8 t.bits) (by simp [qP]; omega) l1;refine ⟨b2,min lo l2,?_,by omega,by simpa [jh] using c3,((Fx.lay h.len _).trans a4).trans c4⟩;rw [aM bh8 bx6];simp [ae,Su,a1,f3,c1];exact fJ c2 h.len
def ko (n:Int):List Int:=aK (wrap .u64 n)
theorem an3 (n:Int){p:Nat}{bs:List Blk}{l:List Int}(h:Wr bs p l)(hl:l.length+(ko n).length<=big):kv E 247 [.ptr p 0,.d (i64 n)] p bs l (ko n):=by
 intro lo;obtain ⟨b1,l1,a1,a2,a3,a4⟩:=FD (E:=E) h (wrap .u64 n) hl bs.length;refine ⟨b1,min lo l1,?_,by omega,a3,a4⟩;rw [aM bi2 by0];simp [ae,Sy,a1];exact fJ a2 h.len
theorem cg0:TT 294=some (wputQ 2 [(.d (.int .i64 0)),(.d (.str ⟨#[]⟩))]):=bj5
theorem cf6:TT 242=some (wputQ 2 [(.d (.int .u32 0)),(.d (.int .i64 0))]):=bh7
theorem cf7:TT 246=some wput1Q:=bi1
theorem ce6:TT 201=some (wputQ 3 (sl0 3)):=bf9
theorem ce7:TT 203=some (wputQ 4 (sl0 4)):=bg1
theorem ce8:TT 205=some (wputQ 2 [(.d (.str ⟨#[]⟩)),(nV)]):=bg3
theorem cd2:TT 135=some (wputQ 3 (sl0 3)):=be5
theorem an9 {s:Sl Term}(hs:short s){p:Nat}{bs:List Blk}{l:List Int}(h:Wr bs p l)(hl:l.length+(seqB bY s.l).length<=big):kv E 294 [.ptr p 0,.d (s.d Term.c),.fn 295 []] p bs l (seqB bY s.l) :=
 sZ (z:=2) (cells:=Term.c) (λ_=>rfl) (by decide) rfl cg0 bz3 hs (λe _ bs l h hl=>ao0 e h hl) h hl
theorem am9 {s:Sl Cidr}(hs:short s){p:Nat}{bs:List Blk}{l:List Int}(h:Wr bs p l)(hl:l.length+(seqB jh s.l).length<=big):kv E 242 [.ptr p 0,.d (s.d Cidr.c),.fn 243 []] p bs l (seqB jh s.l) :=
 sZ (z:=2) (cells:=Cidr.c) (λ_=>rfl) (by decide) rfl cf6 bx5 hs (λe _ bs l h hl=>an0 e h hl) h hl
theorem an2 {s:Sl Int}(hs:short s){p:Nat}{bs:List Blk}{l:List Int}(h:Wr bs p l)(hl:l.length+(seqB ko s.l).length<=big):kv E 246 [.ptr p 0,.d (s.d fE),.fn 247 []] p bs l (seqB ko s.l) :=
 Ll (cell:=λn=>i64 n) cf7 bx9 hs (λe _ bs l h hl=>an3 e h hl) h hl
def iq (ls:List (Sl Term)):List Int:=ls.flatMap λs=>seqB bY s.l
theorem Hq {p:Nat}{xs:List (Sl Term)}(hxn:xs.length<2 ^ 62)(hsh:∀ s∈xs,short s){q:Nat}(hq:q≠p){cap:Option Nat}:∀ (m i:Nat) (bs:List Blk) (lo:Nat) (l:List Int),i+m=xs.length->Wr bs p l->jA bs p≠some q->aa bs q=some (xs.map λs=>V.d (s.d Term.c))->l.length+(iq (xs.drop i)).length<=big →
 ∃ bs' lo',Cd E TT aj (.loop [0,6,7,8] pF) [(0,.ptr p 0),(6,.row q 0 xs.length cap 1),(7,.d (i64 xs.length)),(8,.d (i64 i))] ⟨bs,lo⟩=some (.exit 0,[],⟨bs',lo'⟩) ∧
  (lo'=lo/\xs.drop i=[]\/lo'<=p)/\Wr bs' p (l++iq (xs.drop i))/\Fx p bs bs':=by
 intro m;have key:=aB (E:=E) (T:=TT) (val:=aj) [0,6,7,8] pF;generalize Cd E TT aj (.loop [0,6,7,8] pF)=W at key ⊢
 induction m with
 | zero =>
  intro i bs lo l hi hW h1 h2 hl;have h0:xs.drop i=[]:=aw (by omega);refine ⟨bs,lo,?_,.inl ⟨rfl,h0⟩,by simpa [h0,iq] using hW,Fx.refl _ _⟩;rw [key];simp [pF,show ¬ ((i:Int)<xs.length) from by omega]
 | succ m ih =>
  intro i bs lo l hi hW h1 h2 hl;have hlt:i<xs.length:=by omega
  have hd:xs.drop i=xs[i]::xs.drop (i+1):=aq hlt;have hix:=λh=>jU (b:=q) (o:=0) (z:=1) (cap:=cap) (kd:=.i64) (h:=h) hlt;simp only [Nat.mul_one,Nat.zero_add] at hix;have hs:sub (xs.map λs=>V.d (s.d Term.c)) i 1=some [.d (xs[i].d Term.c)]:=by
   rw [iy,if_pos (by simp; omega),aq (by simpa using hlt)]; simp
  have hx:=hsh _ (bd hlt);rw [hd] at hl ⊢;simp only [iq,List.flatMap_cons,ao] at hl;generalize xs[i]=x at *;obtain ⟨b1,l1,a1,a2,a3,a4⟩:=an9 (E:=E) hx hW (by omega) lo;obtain ⟨f1,f2⟩:=a4.2 q _ hq h1 h2;obtain ⟨bs',lo',q1,q2,q3,q4⟩:=ih (i+1) b1 l1 (l++seqB bY x.l) (by omega) a3 f2 f1 (by rw [ao,iq]; omega);have hw:=ax hlt hxn;refine ⟨bs',lo',?_,.inr ?_,by simpa [iq] using q3,a4.trans q4⟩
  . have hld:ldv ⟨bs,lo⟩ (.ptr q i) 1 true=some (.d (x.d Term.c),⟨bs,lo⟩):=by
     rw [dw,get_eq];show (match (match aa bs q with | some cs=>sub cs i 1 | none=>none) with | some cs=>_ | none=>none)=_;rw [h2]; simp only [hs]; rfl
    rw [key];simp [pF,hix,hld,a1,hw,show ((i:Int)<xs.length) from by omega,-dw];simpa using q1
  . obtain ⟨rfl,_⟩ | q2:=q2
    . exact a2
    . exact q2
theorem Qj {p:Nat}{bs:List Blk}{l:List Int}(h:Wr bs p l){xs:List (Sl Term)}(hne:xs≠[])(hn:xs.length<2 ^ 62)(hsh:∀ s∈xs,short s){q:Nat}(hq:q≠p){cap:Option Nat}{n:Nat}(hnn:n=xs.length)(h1:jA bs p≠some q)(h2:aa bs q=some (xs.map λs=>V.d (s.d Term.c)))(hl:l.length+(iq xs).length<=big):kv E 241 [.ptr p 0,.row q 0 n cap 1] p bs l (iq xs):=by
 intro lo;subst hnn;obtain ⟨bs',lo',k1,k2,k3,k4⟩:=Hq (E:=E) hn hsh hq (cap:=cap) xs.length 0 bs bs.length l (by omega) h h1 h2 (by simpa using hl);have hle:lo'<=p:=by
  obtain ⟨_,hx⟩ | k2:=k2
  . exact absurd (by simpa using hx) hne
  . exact k2
 refine ⟨bs',min lo lo',?_,by omega,by simpa using k3,k4⟩;rw [aM bh6 bx4];simp [ae,Sr];rw [ai];simp at k1;simp [k1];exact fJ hle h.len
def fu (s:Source):List Int:=iq [s.names,s.spaces]++seqB jh s.nets.l
theorem al5 (t:Source)(ht:t.fits big){p:Nat}{bs:List Blk}{l:List Int}(h:Wr bs p l)(hl:l.length+(fu t).length<=big):kv E 202 [.ptr p 0,ag t.c] p bs l (fu t):=by
 intro lo;simp only [fu,ao] at hl;have hW2:=h.lay [.cells (t.c.map .d),.cells [.d (t.names.d Term.c),.d (t.spaces.d Term.c)]];have hfr:bs.length+1≠p/\jA (bs++[.cells (t.c.map .d),.cells [.d (t.names.d Term.c),.d (t.spaces.d Term.c)]]) p≠some (bs.length+1):=by
  have:=h.len;refine ⟨by omega,?_⟩;rw [oC this];intro hh;have:=h.row_lt hh;omega
 obtain ⟨b1,l1,a1,a2,a3,a4⟩:=Qj (E:=E) hW2 (xs:=[t.names,t.spaces]) (by simp) (by simp) (by
  intro s hs;simp only [List.mem_cons,List.not_mem_nil,or_false] at hs;obtain rfl | rfl:=hs
  . exact ht.1
  . exact ht.2.1) (q:=bs.length+1) hfr.1 (cap:=some 2) (n:=2) rfl hfr.2 (by simp) (by omega) bs.length
 obtain ⟨f1,f2,f3⟩:=a4.new h;obtain ⟨b2,l2,c1,c2,c3,c4⟩:=am9 (E:=E) ht.2.2 a3 (by rw [ao]; omega) l1;refine ⟨b2,min lo l2,?_,by omega,by simpa [fu] using c3,((Fx.lay h.len _).trans a4).trans c4⟩;rw [aM bg0 bv6];simp [ae,Sd,az,a1,f3,c1];exact fJ c2 h.len
def fw (t:Target):List Int:=seqB ko t.ports.l++iq [t.methods,t.paths,t.hosts]
theorem al6 (t:Target)(ht:t.fits big){p:Nat}{bs:List Blk}{l:List Int}(h:Wr bs p l)(hl:l.length+(fw t).length<=big):kv E 204 [.ptr p 0,ag t.c] p bs l (fw t):=by
 intro lo;simp only [fw,ao] at hl;obtain ⟨b1,l1,a1,a2,a3,a4⟩:=an2 (E:=E) ht.1 (h.lay [.cells (t.c.map .d)]) (by omega) bs.length;obtain ⟨f1,f2,f3⟩:=a4.new h;have hfr:=a3.fresh [.cells [.d (t.methods.d Term.c),.d (t.paths.d Term.c),.d (t.hosts.d Term.c)]];obtain ⟨b2,l2,c1,c2,c3,c4⟩:=Qj (E:=E) (a3.lay [.cells [.d (t.methods.d Term.c),.d (t.paths.d Term.c),.d (t.hosts.d Term.c)]]) (xs:=[t.methods,t.paths,t.hosts]) (by simp) (by simp) (by
  intro s hs;simp only [List.mem_cons,List.not_mem_nil,or_false] at hs;obtain rfl | rfl | rfl:=hs
  . exact ht.2.1
  . exact ht.2.2.1
  . exact ht.2.2.2) (q:=b1.length) hfr.1 (cap:=some 3) (n:=3) rfl hfr.2 (by simp) (by rw [ao]; omega) l1
 refine ⟨b2,min lo l2,?_,by omega,by simpa [fw] using c3,((Fx.lay h.len _).trans a4).trans ((Fx.lay a3.len _).trans c4)⟩;rw [aM bg2 bv8];simp [ae,Sg,az,a1,f3,c1];exact fJ c2 h.len
def ku (w:When):List Int:=bA w.head++iq [w.terms]
theorem al7 (t:When)(ht:t.fits big){p:Nat}{bs:List Blk}{l:List Int}(h:Wr bs p l)(hl:l.length+(ku t).length<=big):kv E 206 [.ptr p 0,ag t.c] p bs l (ku t):=by
 intro lo;simp only [ku,ao] at hl;obtain ⟨b1,l1,a1,a2,a3,a4⟩:=CJ (E:=E) (h.lay [.cells (t.c.map .d)]) t.head (by omega) bs.length;obtain ⟨f1,f2,f3⟩:=a4.new h;have hfr:=a3.fresh [.cells [.d (t.terms.d Term.c)]];obtain ⟨b2,l2,c1,c2,c3,c4⟩:=Qj (E:=E) (a3.lay [.cells [.d (t.terms.d Term.c)]]) (xs:=[t.terms]) (by simp) (by simp) (by
  intro s hs;simp only [List.mem_cons,List.not_mem_nil,or_false] at hs;subst hs;exact ht) (q:=b1.length) hfr.1 (cap:=some 1) (n:=1) rfl hfr.2 (by simp) (by rw [ao]; omega) l1
 refine ⟨b2,min lo l2,?_,by omega,by simpa [ku] using c3,((Fx.lay h.len _).trans a4).trans ((Fx.lay a3.len _).trans c4)⟩;rw [aM bg4 bw0];simp [ae,Si,az,a1,f3,c1];exact fJ c2 h.len
def kr (r:Rule):List Int:=seqB fu r.frm.l++(seqB fw r.to.l++seqB ku r.whn.l)
theorem ak0 (t:Rule)(ht:t.fits big){p:Nat}{bs:List Blk}{l:List Int}(h:Wr bs p l)(hl:l.length+(kr t).length<=big):kv E 136 [.ptr p 0,ag t.c] p bs l (kr t):=by
 intro lo;simp only [kr,ao] at hl;obtain ⟨b1,l1,a1,a2,a3,a4⟩:=sZ (E:=E) (cells:=Source.c) (zero:=sl0 3) (λ_=>rfl) (by decide) rfl ce6 bv5 (enc:=fu) (f:=202) ht.1.1 (λe he bs l h hl=>al5 e (ht.1.2 e he) h hl) (h.lay [.cells (t.c.map .d)]) (by omega) bs.length;obtain ⟨f1,f2,f3⟩:=a4.new h;obtain ⟨b2,l2,c1,c2,c3,c4⟩:=sZ (E:=E) (cells:=Target.c) (zero:=sl0 4) (λ_=>rfl) (by decide) rfl ce7 bv7 (enc:=fw) (f:=204) ht.2.1.1 (λe he bs l h hl=>al6 e (ht.2.1.2 e he) h hl) a3 (by rw [ao]; omega) l1;obtain ⟨g1,g2⟩:=c4.2 _ _ f1 f2 f3;obtain ⟨b3,l3,d1,d2,d3,d4⟩:=sZ (E:=E) (cells:=When.c) (zero:=[(.d (.str ⟨#[]⟩)),(nV)]) (λ_=>rfl) (by decide) rfl ce8 bv9 (enc:=ku) (f:=206) ht.2.2.1 (λe he bs l h hl=>al7 e (ht.2.2.2 e he) h hl) c3 (by rw [ao,ao]; omega) l2;refine ⟨b3,min lo l3,?_,by omega,by simpa [kr] using d3,(((Fx.lay h.len _).trans a4).trans c4).trans d4⟩;rw [aM be6 bu2];simp [ae,RS,a1,f3,c1,g1,d1];exact fJ d2 h.len
end
section
variable {E:Calls'}
theorem iK {α:Type}{f:α->List Int}{K:Nat}:∀ {l:List α},(∀ x∈l,(f x).length<=K)->(l.flatMap f).length<=l.length * K
 | [],_=>by simp
 | x::l,h=>by
  have h1:=h x (by simp);have h2:=iK (l:=l) λy hy=>h y (List.mem_cons_of_mem _ hy);rw [dn,cj,Nat.add_mul,Nat.one_mul];omega
theorem nz {α:Type}{f:α->List Int}{K n:Nat}{l:List α}(hn:l.length<=n)(h:∀ x∈l,(f x).length<=K):(seqB f l).length<=10+n * K:=by
 have h1:=iK h;have h2:=aR l.length;have h3:l.length * K<=n * K:=Nat.mul_le_mul_right K hn;simp only [seqB,ao];omega
theorem EF {s:ByteArray}(h:eqS s ⟨#[]⟩=true):s.size=0:=by
 unfold eqS at h;have h1:s.toList=(⟨#[]⟩:ByteArray).toList:=eq_of_beq h;have h2:=eX s;rw [h1,bJ] at h2;exact h2.symm
theorem KJ {t:Term}(h:fO t=true):(bY t).length<=75:=by
 have h1:=jv t.text;have h2:t.text.size<=64:=by
  simp only [fO,ap] at h;obtain ⟨_,h⟩:=h;split at h
  . have:=EF h; omega
  . simp only [ap,br] at h;omega
 simp only [bY,cj];omega
theorem KM {s:Sl Term}(h:aU s=true):(seqB bY s.l).length<=460:=by
 simp only [aU,ap,br,cm] at h;exact nz (n:=6) (K:=75) (by omega) λx hx=>KJ (h.2 x hx)
theorem zV {ls:List (Sl Term)}{n:Nat}(hn:ls.length<=n)(h:ls.all aU=true):(iq ls).length<=n * 460:=by
 have h1:=iK (f:=λs:Sl Term=>seqB bY s.l) (K:=460) (l:=ls) λx hx=>KM (cm.1 h x hx);have h3:ls.length * 460<=n * 460:=Nat.mul_le_mul_right _ hn;simp only [iq];omega
theorem DY {s:Source}(h:bV s=true):(fu s).length<=960:=by
 have h0:([s.names,s.spaces].all aU&&kC s.nets)=true:=h;rw [ap] at h0;have h1:=zV (n:=2) (by simp) h0.1;have h2:=h0.2;simp only [kC,ap,br] at h2;have h3:=nz (n:=6) (K:=5) (f:=jh) (l:=s.nets.l) (by omega) λx _=>bo 5;simp only [fu,ao];omega
theorem Ec {s:Target}(h:aT s=true):(fw s).length<=1450:=by
 have h0:(([s.methods,s.paths,s.hosts].all aU)&&(decide ((s.ports.l.length:Int)<=6)&&s.ports.l.all dN)&&((qj (dH s.ports.l):Int)==(s.ports.l.length:Int)))=true:=h;simp only [ap,br] at h0;have h1:=zV (ls:=[s.methods,s.paths,s.hosts]) (n:=3) (by simp) h0.1.1;have h3:=nz (n:=6) (K:=10) (f:=ko) (l:=s.ports.l) (by omega) λx _=>aR _;simp only [fw,ao];omega
theorem KX {s:When}(h:ig s=true):(ku s).length<=534:=by
 have h0:(iY s.head&&[s.terms].all aU&&decide ((s.terms.l.length:Int)>0))=true:=h;simp only [ap,br] at h0;have h1:=zV (ls:=[s.terms]) (n:=1) (by simp) h0.1.2;have h2:=jv s.head;have h3:=h0.1.1;simp only [iY,ap,br] at h3;simp only [ku,ao];omega
theorem Kj {s:Rule}(h:eD s=true):(kr s).length<=8862:=by
 simp only [eD,ap,br,cm] at h;have h1:=nz (n:=3) (K:=960) (f:=fu) (l:=s.frm.l) (by omega) λx hx=>DY (h.1.1.2 x hx);have h2:=nz (n:=3) (K:=1450) (f:=fw) (l:=s.to.l) (by omega) λx hx=>Ec (h.1.2.2 x hx);have h3:=nz (n:=3) (K:=534) (f:=ku) (l:=s.whn.l) (by omega) λx hx=>KX (h.2.2 x hx);simp only [kr,ao];omega
def jg (p:Pol):List Int:=aK p.id++(bA p.ns++([p.service,wrap .u64 p.deny].flatMap aK++seqB kr p.rules.l))
theorem rF {s:ByteArray}(h:aZ s=true):s.size<=20:=by
 simp only [aZ,ap,br] at h;omega
theorem oL {p:Pol}(h:bz p=true):(jg p).length<=53300:=by
 simp only [bz,ap,br,Bool.or_eq_true,cm] at h;have h1:=nz (n:=6) (K:=8862) (f:=kr) (l:=p.rules.l) (by omega) λx hx=>Kj (h.2.2 x hx);have h2:=jv p.ns;have h3:p.ns.size<=20:=by
  obtain hh | hh:=h.1.1.1.2
  . have:=EF hh; omega
  . exact rF hh
 have h4:=aR p.id;have h5:=aR p.service;have h6:=aR (wrap .u64 p.deny);simp only [jg,ao,List.flatMap_cons,List.flatMap_nil,ck];omega
def bytesD (l:List Int):D:=.slice false (l.map λn=>[.int .u8 n])
theorem cu (x:Int):aK x≠[]:=by
 intro h;have:=congrArg List.length h;rw [aK,mE] at this;simp at this
theorem uF {h:Hp}{k b:Nat}{l:List Int}{cap:Option Nat}(hb:aa h.bs b=some (l.map (iv .u8))):dataV h (k+1) (.row b 0 l.length cap 1)=some (bytesD l):=by
 have hf:∀ l:List Int,flat (l.map λn=>[D.int .u8 n])=l.map (iv .u8):=by
  intro l;simp only [flat]
  induction l with
  | nil=>rfl
  | cons x l ih=>simp only [cr,List.flatten_cons,List.map_append,ih]; rfl
 exact iO (z:=1) (es:=l.map λn=>[D.int .u8 n]) (rest:=[]) (by simp) (by simp) (by rw [hf,List.append_nil]; exact hb)
section
variable (h385:∀ t:Target,t.wf big->∀ h,E 222 [ag t.c] h=some (bl (aT t),h))
include h385
theorem ah6 (p:Pol)(hp:p.wf big)(h:Hp):Sm E TT aj 79 [ag p.c] h=some (.tup (if bz p then [.d (bytesD (jg p)),.d (i64 0)] else [nV,.d (i64 1)]),h):=by
 have n1:=λh=>Qh h385 p hp h;rw [aY bc5 br2];cases hm:bz p with
 | false =>
  simp only [hm] at n1;simp [ae,MX,n1]
 | true =>
  simp only [hm] at n1;have hlen:=oL hm;have hbig:big=2 ^ 30:=rfl;simp only [jg,ao] at hlen;obtain ⟨lo0,m1⟩:=Vg (E:=E) [.cells (p.c.map .d)] 0;have hW:=K4 [.cells (p.c.map .d)];have hW1:jA ([.cells (p.c.map .d)]++[.cells [nV]]) 1≠some 0:=by simp [jA]
  obtain ⟨b1,l1,a1,a2,a3,a4⟩:=FD (E:=E) hW p.id (by simp; omega) lo0;obtain ⟨f1,f2⟩:=a4.2 0 (p.c.map .d) (by simp) hW1 (by simp);obtain ⟨b2,l2,c1,c2,c3,c4⟩:=CJ (E:=E) a3 p.ns (by simp; omega) l1;obtain ⟨g1,g2⟩:=c4.2 _ _ (by simp) f2 f1;have hfr:=c3.fresh [.cells [.d (u64 p.service),.d (u64 (wrap .u64 p.deny))]];obtain ⟨b3,l3,d1,d2,d3,d4⟩:=xS (E:=E) (c3.lay [.cells [.d (u64 p.service),.d (u64 (wrap .u64 p.deny))]]) (xs:=[p.service,wrap .u64 p.deny]) (by simp) (by simp) (q:=b2.length) hfr.1 (cap:=some 2) hfr.2 (by simp) (by simp only [ao,ck]; omega) l2;obtain ⟨k1,k2⟩:=((Fx.lay c3.len _).trans d4).2 _ _ (by simp) g2 g1;obtain ⟨b4,l4,e1,e2,e3,e4⟩:=sZ (E:=E) (cells:=Rule.c) (zero:=sl0 3) (λ_=>rfl) (by decide) rfl cd2 bu1 (enc:=kr) (f:=136) hp.2.2.2.2.1 (λe he bs l h hl=>ak0 e ((hp.2.2.2.2.2 e he).fits) h hl) d3 (by simp only [ao,ck]; omega) l3;have hfin:[]++aK p.id++bA p.ns++[p.service,wrap .u64 p.deny].flatMap aK++seqB kr p.rules.l=jg p:=by simp [jg]
  rw [hfin] at e3;obtain ⟨l5,r1⟩:=Vh (E:=E) e3 (by have:=oL hm; omega) (by simp [jg,cu]) l4;have hfz:=uF (h:=⟨b4++[.cells ((jg p).map (iv .u8))],l5⟩) (k:=7) (b:=b4.length) (l:=jg p) (cap:=none) (by simp);simp at a1 c1 d1 e1 r1 m1 f1 g1 k1;simp [ae,MX,n1,m1,a1,f1,c1,g1,az,d1,k1,e1,r1];simp [hfz]
end
end
section
variable {E:Calls'}
def ll (p:Pod):List Int:=[p.uid].flatMap aK++(bA p.ns++(bA p.sa++[wrap .u64 p.host,wrap .u64 p.addr,wrap .u64 p.port,p.service].flatMap aK))
def lm (s:Svc):List Int:=[s.id].flatMap aK++(bA s.ns++[wrap .u64 s.addr,wrap .u64 s.port,s.way].flatMap aK)
def pY (w:Way):List Int:=[w.id,wrap .u64 w.node].flatMap aK
def strOf (l:List Int):ByteArray:=⟨(l.map λn=>UInt8.ofNat n.toNat).toArray⟩
def fF (p:Pol):List Int:=bA (strOf (jg p))
theorem Wr.fresh1 {p:Nat}{bs:List Blk}{l:List Int}(h:Wr bs p l)(a:Blk)(ys:List Blk):bs.length+1≠p/\jA (bs++(a::ys)) p≠some (bs.length+1):=by
 have hp:=h.len;refine ⟨by omega,?_⟩;rw [oC hp];intro hh;have:=h.row_lt hh;omega
theorem GG (c:Cfg)(hs:c.pods.l.length<2 ^ 62){p:Nat}:∀ (m i:Nat) (bs:List Blk) (lo:Nat) (l:List Int),i+m=c.pods.l.length->Wr bs p l->l.length+((c.pods.l.drop i).flatMap ll).length<=big →
 ∃ bs' lo',Cd E TT aj (.loop [1,3,33,34,35] ug) [(1,.ptr 0 0),(3,.ptr p 0),(33,.d (c.pods.d Pod.c)),(34,.d (i64 c.pods.l.length)),(35,.d (i64 i))] ⟨bs,lo⟩=some (.exit 0,[(1,.ptr 0 0),(3,.ptr p 0)],⟨bs',lo'⟩) ∧
  (lo<=p->lo'<=p)/\Wr bs' p (l++(c.pods.l.drop i).flatMap ll)/\Fx p bs bs':=by
 intro m;have key:=aB (E:=E) (T:=TT) (val:=aj) [1,3,33,34,35] ug;generalize Cd E TT aj (.loop [1,3,33,34,35] ug)=W at key ⊢
 induction m with
 | zero =>
  intro i bs lo l hi hW hl;have h0:c.pods.l.drop i=[]:=aw (by omega);refine ⟨bs,lo,?_,id,by simpa [h0] using hW,Fx.refl _ _⟩;rw [key];simp [ug,show ¬ ((i:Int)<c.pods.l.length) from by omega]
 | succ m ih =>
  intro i bs lo l hi hW hl;have hlt:i<c.pods.l.length:=by omega
  have hx:=λh=>aA (z:=7) h (ab hlt) (cells:=Pod.c) rfl;rw [aq hlt] at hl ⊢;rw [dn] at hl;generalize c.pods.l[i]=e at *;have hl2:(ll e).length=([e.uid].flatMap aK).length+((bA e.ns).length+((bA e.sa).length+([wrap .u64 e.host,wrap .u64 e.addr,wrap .u64 e.port,e.service].flatMap aK).length)):=by simp only [ll,ao]
  have u1:=hW.fresh1 (.cells (e.c.map .d)) [.cells [.d (u64 e.uid)]];obtain ⟨b1,l1,a1,a2,a3,a4⟩:=xS (E:=E) (hW.lay (.cells (e.c.map .d)::[.cells [.d (u64 e.uid)]])) (xs:=[e.uid]) (by simp) (by simp) (q:=bs.length+1) u1.1 (cap:=some 1) u1.2 (by simp) (by omega) (min lo bs.length);obtain ⟨f1,f2,f3⟩:=a4.new hW;obtain ⟨b2,l2,c1,c2,c3,c4⟩:=CJ (E:=E) a3 e.ns (by simp only [ao]; omega) l1;obtain ⟨g1,g2⟩:=c4.2 _ _ f1 f2 f3;obtain ⟨b3,l3,d1,d2,d3,d4⟩:=CJ (E:=E) c3 e.sa (by simp only [ao]; omega) l2;obtain ⟨k1,k2⟩:=d4.2 _ _ f1 g2 g1;have u2:=d3.fresh [.cells [.d (u64 (wrap .u64 e.host)),.d (u64 (wrap .u64 e.addr)),.d (u64 (wrap .u64 e.port)),.d (u64 e.service)]];obtain ⟨b4,l4,e1,e2,e3,e4⟩:=xS (E:=E) (d3.lay [.cells [.d (u64 (wrap .u64 e.host)),.d (u64 (wrap .u64 e.addr)),.d (u64 (wrap .u64 e.port)),.d (u64 e.service)]]) (xs:=[wrap .u64 e.host,wrap .u64 e.addr,wrap .u64 e.port,e.service]) (by simp) (by simp) (q:=b3.length) u2.1 (cap:=some 4) u2.2 (by simp) (by simp only [ao]; omega) l3;have e3':Wr b4 p (l++ll e):=by simpa only [ll,List.append_assoc] using e3
  obtain ⟨bs',lo',q1,q2,q3,q4⟩:=ih (i+1) b4 l4 (l++ll e) (by omega) e3' (by rw [ao]; omega);have hw:=ax hlt hs;refine ⟨bs',lo',?_,λ_=>q2 e2,by simpa using q3,(((((Fx.lay hW.len _).trans a4).trans c4).trans d4).trans ((Fx.lay d3.len _).trans e4)).trans q4⟩;simp at a1 c1 d1 e1;rw [key];simp [ug,hx,az,a1,f3,c1,g1,d1,k1,e1,hw,show ((i:Int)<c.pods.l.length) from by omega];simpa using q1
theorem HZ (c:Cfg)(hs:c.services.l.length<2 ^ 62){p:Nat}:∀ (m i:Nat) (bs:List Blk) (lo:Nat) (l:List Int),i+m=c.services.l.length->Wr bs p l->l.length+((c.services.l.drop i).flatMap lm).length<=big →
 ∃ bs' lo',Cd E TT aj (.loop [1,3,77,78,79] uh) [(1,.ptr 0 0),(3,.ptr p 0),(77,.d (c.services.d Svc.c)),(78,.d (i64 c.services.l.length)),(79,.d (i64 i))] ⟨bs,lo⟩=some (.exit 2,[(1,.ptr 0 0),(3,.ptr p 0)],⟨bs',lo'⟩) ∧
  (lo<=p->lo'<=p)/\Wr bs' p (l++(c.services.l.drop i).flatMap lm)/\Fx p bs bs':=by
 intro m;have key:=aB (E:=E) (T:=TT) (val:=aj) [1,3,77,78,79] uh;generalize Cd E TT aj (.loop [1,3,77,78,79] uh)=W at key ⊢
 induction m with
 | zero =>
  intro i bs lo l hi hW hl;have h0:c.services.l.drop i=[]:=aw (by omega);refine ⟨bs,lo,?_,id,by simpa [h0] using hW,Fx.refl _ _⟩;rw [key];simp [uh,show ¬ ((i:Int)<c.services.l.length) from by omega]
 | succ m ih =>
  intro i bs lo l hi hW hl;have hlt:i<c.services.l.length:=by omega
  have hx:=λh=>aA (z:=5) h (ab hlt) (cells:=Svc.c) rfl;rw [aq hlt] at hl ⊢;rw [dn] at hl;generalize c.services.l[i]=e at *;have hl2:(lm e).length=([e.id].flatMap aK).length+((bA e.ns).length+([wrap .u64 e.addr,wrap .u64 e.port,e.way].flatMap aK).length):=by simp only [lm,ao]
  have u1:=hW.fresh1 (.cells (e.c.map .d)) [.cells [.d (u64 e.id)]];obtain ⟨b1,l1,a1,a2,a3,a4⟩:=xS (E:=E) (hW.lay (.cells (e.c.map .d)::[.cells [.d (u64 e.id)]])) (xs:=[e.id]) (by simp) (by simp) (q:=bs.length+1) u1.1 (cap:=some 1) u1.2 (by simp) (by omega) (min lo bs.length);obtain ⟨f1,f2,f3⟩:=a4.new hW;obtain ⟨b2,l2,c1,c2,c3,c4⟩:=CJ (E:=E) a3 e.ns (by simp only [ao]; omega) l1;obtain ⟨g1,g2⟩:=c4.2 _ _ f1 f2 f3;have u2:=c3.fresh [.cells [.d (u64 (wrap .u64 e.addr)),.d (u64 (wrap .u64 e.port)),.d (u64 e.way)]];obtain ⟨b4,l4,e1,e2,e3,e4⟩:=xS (E:=E) (c3.lay [.cells [.d (u64 (wrap .u64 e.addr)),.d (u64 (wrap .u64 e.port)),.d (u64 e.way)]]) (xs:=[wrap .u64 e.addr,wrap .u64 e.port,e.way]) (by simp) (by simp) (q:=b2.length) u2.1 (cap:=some 3) u2.2 (by simp) (by simp only [ao]; omega) l2;have e3':Wr b4 p (l++lm e):=by simpa only [lm,List.append_assoc] using e3
  obtain ⟨bs',lo',q1,q2,q3,q4⟩:=ih (i+1) b4 l4 (l++lm e) (by omega) e3' (by rw [ao]; omega);have hw:=ax hlt hs;refine ⟨bs',lo',?_,λ_=>q2 e2,by simpa using q3,((((Fx.lay hW.len _).trans a4).trans c4).trans ((Fx.lay c3.len _).trans e4)).trans q4⟩;simp at a1 c1 e1;rw [key];simp [uh,hx,az,a1,f3,c1,g1,e1,hw,show ((i:Int)<c.services.l.length) from by omega];simpa using q1
theorem Ic (c:Cfg)(hs:c.bound.l.length<2 ^ 62){p:Nat}:∀ (m i:Nat) (bs:List Blk) (lo:Nat) (l:List Int),i+m=c.bound.l.length->Wr bs p l->l.length+((c.bound.l.drop i).flatMap pY).length<=big →
 ∃ bs' lo',Cd E TT aj (.loop [1,3,112,113,114] ui) [(1,.ptr 0 0),(3,.ptr p 0),(112,.d (c.bound.d Way.c)),(113,.d (i64 c.bound.l.length)),(114,.d (i64 i))] ⟨bs,lo⟩=some (.exit 4,[(1,.ptr 0 0),(3,.ptr p 0)],⟨bs',lo'⟩) ∧
  (lo<=p->lo'<=p)/\Wr bs' p (l++(c.bound.l.drop i).flatMap pY)/\Fx p bs bs':=by
 intro m;have key:=aB (E:=E) (T:=TT) (val:=aj) [1,3,112,113,114] ui;generalize Cd E TT aj (.loop [1,3,112,113,114] ui)=W at key ⊢
 induction m with
 | zero =>
  intro i bs lo l hi hW hl;have h0:c.bound.l.drop i=[]:=aw (by omega);refine ⟨bs,lo,?_,id,by simpa [h0] using hW,Fx.refl _ _⟩;rw [key];simp [ui,show ¬ ((i:Int)<c.bound.l.length) from by omega]
 | succ m ih =>
  intro i bs lo l hi hW hl;have hlt:i<c.bound.l.length:=by omega
  have hx:=λh=>aA (z:=2) h (ab hlt) (cells:=Way.c) rfl;rw [aq hlt] at hl ⊢;rw [dn] at hl;generalize c.bound.l[i]=e at *;have u1:=hW.fresh1 (.cells (e.c.map .d)) [.cells [.d (u64 e.id),.d (u64 (wrap .u64 e.node))]];obtain ⟨b1,l1,a1,a2,a3,a4⟩:=xS (E:=E) (hW.lay (.cells (e.c.map .d)::[.cells [.d (u64 e.id),.d (u64 (wrap .u64 e.node))]])) (xs:=[e.id,wrap .u64 e.node]) (by simp) (by simp) (q:=bs.length+1) u1.1 (cap:=some 2) u1.2 (by simp) (by have:(pY e).length=([e.id,wrap .u64 e.node].flatMap aK).length:=rfl; omega) (min lo bs.length);obtain ⟨bs',lo',q1,q2,q3,q4⟩:=ih (i+1) b1 l1 (l++pY e) (by omega) a3 (by rw [ao]; omega);have hw:=ax hlt hs;refine ⟨bs',lo',?_,λ_=>q2 a2,by simpa using q3,((Fx.lay hW.len _).trans a4).trans q4⟩;simp at a1;rw [key];simp [ui,hx,az,a1,hw,show ((i:Int)<c.bound.l.length) from by omega];simpa using q1
def iW (x:V)(h:Hp):Option (V×Hp):=match x with
 | .d (.str _)=>none
 | v=>match aF h v 1 with
  | some (_,cs)=>match cs.mapM (λv=>match v with | .d (.int .u8 n)=>some (UInt8.ofNat n.toNat) | _=>none) with
   | some l=>some (.d (.str ⟨l.toArray⟩),h)
   | none=>none
  | none=>none
@[simp] theorem Q3 {C:Calls'}{ev:X->V}{h:Hp}{x:X}:opE C (.convBS x) ev h=iW (ev x) h:=(rfl)
theorem kJ (l:List Int):(l.map λn=>[D.int .u8 n]).flatten.map V.d=l.map (iv .u8):=by
 induction l with
 | nil=>rfl
 | cons x l ih=>simp only [cr,List.flatten_cons,List.map_append,ih]; rfl
theorem ma {h:Hp}{l:List Int}:iW (.d (bytesD l)) h=some (.d (.str (strOf l)),h):=by
 have hall:((l.map λn=>[D.int .u8 n]).all λe=>e.length==1)=true:=by simp
 have hm:(l.map (iv .u8)).mapM (λv=>match v with | .d (.int .u8 n)=>some (UInt8.ofNat n.toNat) | _=>none)=some (l.map λn=>UInt8.ofNat n.toNat):=by
  induction l with
  | nil=>rfl
  | cons x l ih =>
   simp only [cr,List.mapM_cons] at ih ⊢;rw [ih (by simp)];rfl
 simp only [iW,bytesD,aF,hall,if_true,kJ,hm];rfl
section
variable (h385:∀ t:Target,t.wf big->∀ h,E 222 [ag t.c] h=some (bl (aT t),h))
include h385
theorem GI (c:Cfg)(hs:c.policies.l.length<2 ^ 62)(hwf:∀ p∈c.policies.l,p.wf big/\bz p=true){p:Nat}:∀ (m i:Nat) (bs:List Blk) (lo:Nat) (l:List Int),i+m=c.policies.l.length->Wr bs p l->l.length+((c.policies.l.drop i).flatMap fF).length<=big →
 ∃ bs' lo',Cd E TT aj (.loop [3,135,136,137] uj) [(3,.ptr p 0),(135,.d (c.policies.d Pol.c)),(136,.d (i64 c.policies.l.length)),(137,.d (i64 i))] ⟨bs,lo⟩=some (.exit 6,[(3,.ptr p 0)],⟨bs',lo'⟩) ∧
  (lo<=p->lo'<=p)/\Wr bs' p (l++(c.policies.l.drop i).flatMap fF)/\Fx p bs bs':=by
 intro m;have key:=aB (E:=E) (T:=TT) (val:=aj) [3,135,136,137] uj;generalize Cd E TT aj (.loop [3,135,136,137] uj)=W at key ⊢
 induction m with
 | zero =>
  intro i bs lo l hi hW hl;have h0:c.policies.l.drop i=[]:=aw (by omega);refine ⟨bs,lo,?_,id,by simpa [h0] using hW,Fx.refl _ _⟩;rw [key];simp [uj,show ¬ ((i:Int)<c.policies.l.length) from by omega]
 | succ m ih =>
  intro i bs lo l hi hW hl;have hlt:i<c.policies.l.length:=by omega
  have hx:=λh=>aA (z:=5) h (ab hlt) (cells:=Pol.c) rfl;obtain ⟨hw1,hw2⟩:=hwf _ (bd hlt);rw [aq hlt] at hl ⊢;rw [dn] at hl;generalize c.policies.l[i]=e at *;have n1:=λh=>ah6 h385 e hw1 h;simp only [hw2,if_true] at n1;obtain ⟨b1,l1,a1,a2,a3,a4⟩:=CJ (E:=E) (hW.lay [.cells (e.c.map .d)]) (strOf (jg e)) (by have:(fF e).length=(bA (strOf (jg e))).length:=rfl; omega) (min lo bs.length);obtain ⟨bs',lo',q1,q2,q3,q4⟩:=ih (i+1) b1 l1 (l++fF e) (by omega) a3 (by rw [ao]; omega);have hw:=ax hlt hs;refine ⟨bs',lo',?_,λ_=>q2 a2,by simpa using q3,((Fx.lay hW.len _).trans a4).trans q4⟩;rw [key];simp [uj,hx,n1,ma,a1,hw,show ((i:Int)<c.policies.l.length) from by omega];simpa using q1
end
end
section
variable {E:Calls'}
def bE (c:Cfg):List Int:=[c.epoch,c.next,wrap .u64 c.hosts,wrap .u64 c.ways,(c.pods.l.length:Int)].flatMap aK++(c.pods.l.flatMap ll++([(c.services.l.length:Int)].flatMap aK++(c.services.l.flatMap lm++([(c.bound.l.length:Int)].flatMap aK++(c.bound.l.flatMap pY++([(c.policies.l.length:Int)].flatMap aK++c.policies.l.flatMap fF))))))
theorem jq (l:List Int):(strOf l).size=l.length:=by
 show ((l.map λn=>UInt8.ofNat n.toNat).toArray).size=_;simp
theorem Mo {p:Pod}(h1:p.ns.size<=20)(h2:p.sa.size<=20):(ll p).length<=110:=by
 have a1:=aR p.uid;have a2:=jv p.ns;have a3:=jv p.sa;have a4:=aR (wrap .u64 p.host);have a5:=aR (wrap .u64 p.addr);have a6:=aR (wrap .u64 p.port);have a7:=aR p.service;simp only [ll,ao,List.flatMap_cons,List.flatMap_nil,ck];omega
theorem Oi {p:Svc}(h1:p.ns.size<=20):(lm p).length<=70:=by
 have a1:=aR p.id;have a2:=jv p.ns;have a5:=aR (wrap .u64 p.addr);have a6:=aR (wrap .u64 p.port);have a7:=aR p.way;simp only [lm,ao,List.flatMap_cons,List.flatMap_nil,ck];omega
theorem Oy {p:Way}:(pY p).length<=20:=by
 have a1:=aR p.id;have a5:=aR (wrap .u64 p.node);simp only [pY,ao,List.flatMap_cons,List.flatMap_nil,ck];omega
theorem JK {p:Pol}(h:bz p=true):(fF p).length<=53310:=by
 have a2:=jv (strOf (jg p));rw [jq] at a2;have:=oL h;simp only [fF];omega
theorem xh {c:Cfg}(h:gY c=true):∀ p∈c.pods.l,p.ns.size<=20/\p.sa.size<=20:=by
 simp only [gY,ap,Bool.not_eq_true',List.any_eq_false] at h;intro p hp;have:=h.1 p hp;simp only [bu,bf,Bool.or_eq_true,not_or,Bool.not_eq_true',Bool.not_eq_false,ap] at this;exact ⟨rF this.1.2.2.1,rF this.1.2.2.2⟩
theorem xC {c:Cfg}(h:bU c=true):∀ p∈c.services.l,p.ns.size<=20:=by
 simp only [bU,ap,Bool.not_eq_true',List.any_eq_false] at h;intro p hp;have:=h.1 p hp;simp only [eZ,Bool.or_eq_true,not_or,Bool.not_eq_true',Bool.not_eq_false] at this;exact rF this.2.1
theorem jV {c:Cfg}(h:bN c=true):∀ p∈c.policies.l,bz p=true:=by
 simp only [bN,ap,Bool.not_eq_true',List.any_eq_false] at h;intro p hp;have:=h.1 p hp;simp only [eH,Bool.or_eq_true,not_or,Bool.not_eq_true',Bool.not_eq_false] at this;exact this.2.1
theorem yA {c:Cfg}(h1:jm c=true)(h2:kP c=true):(bE c).length<=700000:=by
 simp only [jm,ap,br] at h1;simp only [kP,ap] at h2;have b1:=iK (K:=110) (f:=ll) (l:=c.pods.l) λp hp=>Mo (xh h2.1.1.1.1.2 p hp).1 (xh h2.1.1.1.1.2 p hp).2;have b2:=iK (K:=70) (f:=lm) (l:=c.services.l) λp hp=>Oi (xC h2.1.1.1.2 p hp);have b3:=iK (K:=20) (f:=pY) (l:=c.bound.l) λp hp=>Oy;have b4:=iK (K:=53310) (f:=fF) (l:=c.policies.l) λp hp=>JK (jV h2.2 p hp);have a1:=aR c.epoch;have a2:=aR c.next;have a3:=aR (wrap .u64 c.hosts);have a4:=aR (wrap .u64 c.ways);have a5:=aR (c.pods.l.length:Int);have a6:=aR (c.services.l.length:Int);have a7:=aR (c.bound.l.length:Int);have a8:=aR (c.policies.l.length:Int);simp only [bE,ao,List.flatMap_cons,List.flatMap_nil,ck];omega
theorem wrapN {n:Nat}(h:n<=2 ^ 30):wrap .u64 (n:Int)=n:=by
 simp [wrap,IntKind.bits,IntKind.signed];omega
section
variable (h385:∀ t:Target,t.wf big->∀ h,E 222 [ag t.c] h=some (bl (aT t),h))
include h385
theorem ap1 (c:Cfg)(hc:c.wf big)(hpm:∀ p∈c.policies.l,bz p=true)(hlen:(bE c).length<=big)(h:Hp){a:V}(ha:frz h a=some (ag c.c)):Sm E TT aj 25 [a] h=some (.d (bytesD (bE c)),h):=by
 have hm:[a].mapM (frz h)=some [c.v]:=by simp [ha,Cfg.v]
 have hok:c.ok:=hc.ok (bo _);have w1:=wrapN (n:=c.pods.l.length) hok.1.1;have w2:=wrapN (n:=c.services.l.length) hok.2.1.1;have w3:=wrapN (n:=c.bound.l.length) hok.2.2.1.1;have w4:=wrapN (n:=c.policies.l.length) hok.2.2.2.1.1;rw [aY t94 v94,hm,qQ];have hlen0:=hlen;simp only [bE,ao] at hlen;obtain ⟨lo0,m1⟩:=Vg (E:=E) [.cells (c.c.map .d)] 0;have hW:=K4 [.cells (c.c.map .d)];have hW0:jA ([.cells (c.c.map .d)]++[.cells [nV]]) 1≠some 0:=by simp [jA]
 have u1:=hW.fresh [.cells [.d (u64 c.epoch),.d (u64 c.next),.d (u64 (wrap .u64 c.hosts)),.d (u64 (wrap .u64 c.ways)),.d (u64 c.pods.l.length)]];obtain ⟨b1,l1,a1,a2,a3,a4⟩:=xS (E:=E) (hW.lay [.cells [.d (u64 c.epoch),.d (u64 c.next),.d (u64 (wrap .u64 c.hosts)),.d (u64 (wrap .u64 c.ways)),.d (u64 c.pods.l.length)]]) (xs:=[c.epoch,c.next,wrap .u64 c.hosts,wrap .u64 c.ways,(c.pods.l.length:Int)]) (by simp) (by simp) u1.1 (cap:=some 5) u1.2 (by simp) (by simp only [ck]; omega) lo0;obtain ⟨f1,f2⟩:=((Fx.lay hW.len _).trans a4).2 0 (c.c.map .d) (by simp) hW0 (by simp);obtain ⟨b2,l2,c1,c2,c3,c4⟩:=GG (E:=E) c hok.1.lt c.pods.l.length 0 b1 l1 _ (by omega) a3 (by simp only [ao,List.drop_zero,ck]; omega);obtain ⟨g1,g2⟩:=c4.2 _ _ (by simp) f2 f1;simp only [List.drop_zero] at c3;have u2:=c3.fresh [.cells [.d (u64 c.services.l.length)]];obtain ⟨b3,l3,d1,d2,d3,d4⟩:=xS (E:=E) (c3.lay [.cells [.d (u64 c.services.l.length)]]) (xs:=[(c.services.l.length:Int)]) (by simp) (by simp) u2.1 (cap:=some 1) u2.2 (by simp) (by simp only [ao,ck]; omega) l2;obtain ⟨g3,g4⟩:=((Fx.lay c3.len _).trans d4).2 _ _ (by simp) g2 g1;obtain ⟨b4,l4,e1,e2,e3,e4⟩:=HZ (E:=E) c hok.2.1.lt c.services.l.length 0 b3 l3 _ (by omega) d3 (by simp only [ao,List.drop_zero,ck]; omega);obtain ⟨g5,g6⟩:=e4.2 _ _ (by simp) g4 g3;simp only [List.drop_zero] at e3
 have u3:=e3.fresh [.cells [.d (u64 c.bound.l.length)]];obtain ⟨b5,l5,i1,i2,i3,i4⟩:=xS (E:=E) (e3.lay [.cells [.d (u64 c.bound.l.length)]]) (xs:=[(c.bound.l.length:Int)]) (by simp) (by simp) u3.1 (cap:=some 1) u3.2 (by simp) (by simp only [ao,ck]; omega) l4;obtain ⟨g7,g8⟩:=((Fx.lay e3.len _).trans i4).2 _ _ (by simp) g6 g5;obtain ⟨b6,l6,j1,j2,j3,j4⟩:=Ic (E:=E) c hok.2.2.1.lt c.bound.l.length 0 b5 l5 _ (by omega) i3 (by simp only [ao,List.drop_zero,ck]; omega);obtain ⟨g9,g10⟩:=j4.2 _ _ (by simp) g8 g7;simp only [List.drop_zero] at j3;have u4:=j3.fresh [.cells [.d (u64 c.policies.l.length)]];obtain ⟨b7,l7,k1,k2,k3,k4⟩:=xS (E:=E) (j3.lay [.cells [.d (u64 c.policies.l.length)]]) (xs:=[(c.policies.l.length:Int)]) (by simp) (by simp) u4.1 (cap:=some 1) u4.2 (by simp) (by simp only [ao,ck]; omega) l6;obtain ⟨g11,g12⟩:=((Fx.lay j3.len _).trans k4).2 _ _ (by simp) g10 g9;obtain ⟨b8,l8,n1,n2,n3,n4⟩:=GI h385 c hok.2.2.2.1.lt (λp hp=>⟨hc.2.2.2.2.2.2.2.2 p hp,hpm p hp⟩) c.policies.l.length 0 b7 l7 _ (by omega) k3 (by simp only [ao,List.drop_zero,ck]; omega);simp only [List.drop_zero] at n3
 have hfin:([]++[c.epoch,c.next,wrap .u64 c.hosts,wrap .u64 c.ways,(c.pods.l.length:Int)].flatMap aK++c.pods.l.flatMap ll++[(c.services.l.length:Int)].flatMap aK++c.services.l.flatMap lm++[(c.bound.l.length:Int)].flatMap aK++c.bound.l.flatMap pY++[(c.policies.l.length:Int)].flatMap aK++c.policies.l.flatMap fF)=bE c:=by simp only [bE,List.nil_append,List.append_assoc]
 rw [hfin] at n3;have hne:bE c≠[]:=by
  simp [bE,cu]
 generalize bE c=L at *;obtain ⟨l9,r1⟩:=Vh (E:=E) n3 hlen0 hne l8;have how:ownR ⟨b8++[.cells (L.map (iv .u8))],l9⟩ (.row b8.length 0 L.length none 1)=true:=by
  have hg:Hp.get ⟨b8++[.cells (L.map (iv .u8))],l9⟩ b8.length=some (L.map (iv .u8)):=by simp [get_eq]
  simp only [ownR,rV,lS,hg,List.all_map,cm];intro x _;rfl
 have hfz:=uF (h:=⟨b8++[.cells (L.map (iv .u8))],l9⟩) (k:=7) (b:=b8.length) (l:=L) (cap:=none) (by simp);simp at a1 m1 c1 d1 e1 i1 j1 k1 n1 r1 f1 g1 g3 g5 g7 g9;simp [ae,q94,m1,az,w1,a1,f1];rw [ai];simp [c1,g1,w2,az,d1,g3];rw [ai];simp [e1,g5,w3,az,i1,g7];rw [ai];simp [j1,g9,w4,az,k1,g11];rw [ai];simp [n1,r1,hfz,frz,dh,how]
theorem S94 (c:Cfg)(hc:c.wf big)(hpm:∀ p∈c.policies.l,bz p=true)(hlen:(bE c).length<=big)(h:Hp):Sm E TT aj 25 [c.v] h=some (.d (bytesD (bE c)),h):=ap1 h385 c hc hpm hlen h (by simp [Cfg.v])
def bL (c:Cfg):Bool:=jm c&&kP c&&decide (((bE c).length:Int)<=8192)
theorem S41 (c:Cfg)(hc:c.wf 1048576)(hcb:c.wf big)(h:Hp):Sm E TT aj 9 [c.v] h=some (bl (bL c),h):=by
 have n1:=λh=>S92 (E:=E) c h;have n2:=λh=>S93 h385 c hc hcb h;rw [aY t41 v41];cases h1:jm c with
 | false =>
  simp only [h1] at n1;simp +decide [ae,q41,n1,au,bL,h1]
 | true =>
  simp only [h1] at n1;cases h2:kP c with
  | false =>
   simp only [h2] at n2;simp +decide [ae,q41,n1,n2,au,bL,h1,h2]
  | true =>
   simp only [h2] at n2;have hle:=yA h1 h2;have hp:bN c=true:=by
    simp only [kP,ap] at h2;exact h2.2
   have n3:=λh=>S94 h385 c hcb (jV hp) (ch hle (by decide)) h;have hl:pW false (.d (bytesD (bE c))) ⟨[.cells (c.c.map .d)],0⟩=some (.d (i64 (bE c).length),⟨[.cells (c.c.map .d)],0⟩):=by
    simp [bytesD]
   generalize hL:bytesD (bE c)=L at *;simp +decide [ae,q41,n1,n2,n3,hl,au,bL,h1,h2]
end
end
section
end
section
theorem Sl.wf.le {α:Type}{B B':Nat}(hB:B<=B'){f:Nat->α->Prop}(hf:∀ x,f B x->f B' x){s:Sl α}(h:s.wf B f):s.wf B' f:=⟨h.1.le hB,λx hx=>hf x (h.2 x hx)⟩
section
variable {B B':Nat}(hB:B<=B')
include hB
theorem Pod.wf.le {x:Pod}(h:x.wf B):x.wf B':=⟨h.1,ch h.2.1 hB,ch h.2.2.1 hB,h.2.2.2⟩
theorem Svc.wf.le {x:Svc}(h:x.wf B):x.wf B':=⟨h.1,ch h.2.1 hB,h.2.2⟩
omit hB in
theorem Way.wf.le {x:Way}(h:x.wf B):x.wf B':=⟨h.1,h.2⟩
theorem Term.wf.le {x:Term}(h:x.wf B):x.wf B':=⟨h.1,ch h.2 hB⟩
omit hB in
theorem Cidr.wf.le {x:Cidr}(h:x.wf B):x.wf B':=⟨h.1,h.2⟩
theorem Source.wf.le {x:Source}(h:x.wf B):x.wf B':=⟨Sl.wf.le hB (λ_=>Term.wf.le hB) h.1,Sl.wf.le hB (λ_=>Term.wf.le hB) h.2.1,Sl.wf.le hB (λ_=>Cidr.wf.le) h.2.2⟩
theorem Target.wf.le {x:Target}(h:x.wf B):x.wf B':=⟨Sl.wf.le hB (λ_ h=>h) h.1,Sl.wf.le hB (λ_=>Term.wf.le hB) h.2.1,Sl.wf.le hB (λ_=>Term.wf.le hB) h.2.2.1,Sl.wf.le hB (λ_=>Term.wf.le hB) h.2.2.2⟩
theorem When.wf.le {x:When}(h:x.wf B):x.wf B':=⟨ch h.1 hB,Sl.wf.le hB (λ_=>Term.wf.le hB) h.2⟩
theorem Rule.wf.le {x:Rule}(h:x.wf B):x.wf B':=⟨Sl.wf.le hB (λ_=>Source.wf.le hB) h.1,Sl.wf.le hB (λ_=>Target.wf.le hB) h.2.1,Sl.wf.le hB (λ_=>When.wf.le hB) h.2.2⟩
theorem Pol.wf.le {x:Pol}(h:x.wf B):x.wf B':=⟨h.1,ch h.2.1 hB,h.2.2.1,h.2.2.2.1,Sl.wf.le hB (λ_=>Rule.wf.le hB) h.2.2.2.2⟩
theorem Cfg.wf.le {x:Cfg}(h:x.wf B):x.wf B':=⟨h.1,h.2.1,h.2.2.1,h.2.2.2.1,Sl.wf.le hB (λ_=>Pod.wf.le hB) h.2.2.2.2.1,Sl.wf.le hB (λ_=>Svc.wf.le hB) h.2.2.2.2.2.1,Sl.wf.le hB (λ_=>Way.wf.le) h.2.2.2.2.2.2.1,Sl.wf.le hB (λ_=>Pol.wf.le hB) h.2.2.2.2.2.2.2⟩
end
end
