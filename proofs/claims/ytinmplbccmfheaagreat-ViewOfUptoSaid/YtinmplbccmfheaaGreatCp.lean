/- slices.Compact at numbers, on a row of one's own. -/
import Derived.Test.YtinmplbccmfheaaGreatSa
import Derived.Shelf.Sort.Plain
import Derived.Shelf.Slices.In.SortNone
set_option maxRecDepth 100000
set_option linter.unusedVariables false
set_option linter.unusedSimpArgs false
namespace Go.Proofs.YtinmplbccmfheaaGreat
open IntKind (wrap)
section
def chg:List Int->Nat
 | x::y::l=>(if x=y then 0 else 1)+chg (y::l)
 | _=>0
theorem oJ:∀ l:List Int,chg l<=l.length-1
 | []=>by simp [chg]
 | [_]=>by simp [chg]
 | x::y::l=>by
  have:=oJ (y::l);simp only [chg,cg] at this ⊢;split<;>omega
theorem rV {zs:List Int}{i:Nat}(h:i+1<zs.length):chg (zs.drop i)=(if zs[i]=zs[i+1] then 0 else 1)+chg (zs.drop (i+1)):=by
 rw [ba (show i<zs.length by omega),ba h];simp only [chg]
def qK (zs:List Int):Nat:=if zs=[] then 0 else 1+chg zs
def iv (kd:IntKind)(z:Int):V:=.d (.int kd z)
def Mr (bs:List Blk)(b:Nat)(cur:List V)(lo:Nat):Hp:=⟨bs.set b (.cells cur),lo⟩
section
variable {bs:List Blk}{b lo:Nat}{cur:List V}
theorem ug (hb:b<bs.length):ah (Mr bs b cur lo).bs b=some cur:=by simp [Mr,ah,hb]
theorem rO (hb:b<bs.length){k:Nat}{v:V}(hk:cur[k]?=some v):ldv (Mr bs b cur lo) (.ptr b k) 1 true=some (v,Mr bs b cur lo):=by
 obtain ⟨h1,h2⟩:=bx.1 hk;have hs:sub cur k 1=some [v]:=by
  rw [eG,if_pos (by omega),ba h1,h2]; rfl
 rw [aG,get_eq,ug hb];simp only [hs]; rfl
theorem IK (hb:b<bs.length){k:Nat}{x:D}(hk:k<cur.length):stv (Mr bs b cur lo) (.ptr b k) (.d x) 1=some (.undef,Mr bs b (cur.set k (.d x)) (min lo b)):=by
 have hp:put cur k [V.d x]=some (cur.set k (.d x)):=by
  unfold put;rw [if_pos (by simp only [cg,ch]; omega),List.set_eq_take_append_cons_drop,if_pos hk]; simp
 have hg:=ug (lo:=lo) (cur:=cur) hb;simp [stv,V.cells,storeAt,hg,hp];simp [Hp.set,Mr]
theorem fQ {b o n z:Nat}{cap:Option Nat}{kd:IntKind}{i:Nat}{h:Hp}(hi:i<n):eP none z (.row b o n cap z) (.d (.int kd i)) h=some (.ptr b (o+i * z),h):=by
 simp [eP,hi]
end
section
variable {E:Calls'}{T:FuncId->Option QF}{val:FuncId->Bool}{kd:IntKind}
theorem QS {bs:List Blk}{b:Nat}(hb:b<bs.length){zs:List Int}{cap cap2:Option Nat}(hn:zs.length<2 ^ 62){k0:Nat}(hk0:1<=k0)(hk1:k0<zs.length):∀ (m i k:Nat) (cur:List V) (lo:Nat),k0+i+m=zs.length->1<=i->k<k0+i->cur.length=zs.length->(∀ j (hj:j<zs.length),k<=j->cur[j]?=some (iv kd zs[j])) →
 ∃ cur' lo',Cd E T val (.loop [0,3,4,5] (mo kd)) [(0,.row b 0 zs.length cap 1),(3,.d (i64 k)),(4,.row b k0 (zs.length-k0) cap2 1),(5,.d (i64 i))] (Mr bs b cur lo) =
  some (.exit 2,[(0,.row b 0 zs.length cap 1),(3,.d (i64 (k+chg (zs.drop (k0+i-1)):Nat)))],Mr bs b cur' lo')/\cur'.length=zs.length/\(lo'=lo\/lo'=min lo b):=by
 intro m;have key:=ay (E:=E) (T:=T) (val:=val) [0,3,4,5] (mo kd);generalize Cd E T val (.loop [0,3,4,5] (mo kd))=W at key ⊢
 induction m with
 | zero =>
  intro i k cur lo hi h1 hk hl hc;have h0:chg (zs.drop (k0+i-1))=0:=by
   have:=oJ (zs.drop (k0+i-1));simp only [List.length_drop] at this;omega
  refine ⟨cur,lo,?_,hl,.inl rfl⟩;rw [key,h0];simp [mo,show ¬ ((i:Int)<((zs.length-k0:Nat):Int)) from by omega]
 | succ m ih =>
  intro i k cur lo hi h1 hk hl hc;have hlt:i<zs.length-k0:=by omega
  have e1:=hc (k0+i) (by omega) (by omega);have e0:=hc (k0+i-1) (by omega) (by omega);have hd:=rV (zs:=zs) (i:=k0+i-1) (by omega);have hs:k0+i-1+1=k0+i:=by omega
  simp only [hs] at hd;rw [hd];have hw:=ax (show i<zs.length by omega) hn;have hwk:=ax (show k<zs.length by omega) hn;have hwm:wrap .i64 ((i:Int)-1)=((i-1:Nat):Int):=by rw [wrap64]<;>omega
  have i1:=λh=>fQ (b:=b) (o:=k0) (z:=1) (cap:=cap2) (kd:=.i64) (h:=h) hlt;have i0:=λh=>fQ (b:=b) (o:=k0) (z:=1) (cap:=cap2) (kd:=.i64) (h:=h) (show i-1<zs.length-k0 by omega);have ik:=λh=>fQ (b:=b) (o:=0) (z:=1) (cap:=cap) (kd:=.i64) (h:=h) (show k<zs.length by omega);simp only [Nat.mul_one,show k0+(i-1)=k0+i-1 by omega,Nat.zero_add] at i1 i0 ik;have l1:=rO (lo:=lo) hb e1;have l0:=rO (lo:=lo) hb e0;generalize zs[k0+i]'(by omega)=y at *;generalize zs[k0+i-1]'(by omega)=x at *;by_cases hxy:x=y
  . obtain ⟨cur',lo',k1,k2,k3⟩:=ih (i+1) k cur lo (by omega) (by omega) (by omega) hl hc;refine ⟨cur',lo',?_,k2,k3⟩;rw [key];simp only [hxy,if_true,Nat.zero_add];simp only [show k0+(i+1)-1=k0+i by omega] at k1;subst hxy;simp [mo,i1,i0,l1,l0,iv,hw,hwm,show ((i:Int)<((zs.length-k0:Nat):Int)) from by omega,-aG];simpa using k1
  . have st:=IK (lo:=lo) (x:=.int kd y) hb (show k<cur.length by omega);obtain ⟨cur',lo',k1,k2,k3⟩:=ih (i+1) (k+1) (cur.set k (.d (.int kd y))) (min lo b) (by omega) (by omega) (by omega) (by simpa using hl) (by
     intro j hj hkj;rw [am (by omega)];exact hc j hj (by omega))
    refine ⟨cur',lo',?_,k2,by obtain k3 | k3:=k3<;>omega⟩;rw [key];simp only [hxy,if_false];simp only [show k0+(i+1)-1=k0+i by omega] at k1;have hyx:¬ y=x:=λh=>hxy h.symm;simp [mo,i1,i0,ik,l1,l0,st,iv,hw,hwk,hwm,hyx,show ((i:Int)<((zs.length-k0:Nat):Int)) from by omega,-aG,-aN];rw [show ((k:Int)+(1+(chg (zs.drop (k0+i)):Int)))=((k+1+chg (zs.drop (k0+i)):Nat):Int) by omega];simpa using k1
theorem Ah {h:Hp}{ev:X->V}{b n:Nat}{cap:Option Nat}{x:X}{k:Nat}(hx:ev x=.d (i64 k))(hk:k<n)(h1:1<=k):dH h ev .sl 1 (.row b 0 n cap 1) (some x) none none=some (.row b k (n-k) (cap.map (· - k)) 1):=by
 simp only [dH,dL,hx];rw [if_pos (by omega)];simp only [Int.toNat_natCast];rw [if_pos ⟨by omega,by omega,trivial⟩,if_neg (by omega),if_pos hk]; simp
theorem Mh {C:Calls'}{bs:List Blk}{b lo:Nat}{cur:List V}(hb:b<bs.length){n k:Nat}{cap:Option Nat}{e:EA}{x:X}{zero:V}(he:x.ea e=.row b k (n-k) cap 1)(hc:cur.length=n)(hk:k<n) :
 ∃ cur',cur'.length=n/\opE C (.clear 1 [zero] x) (X.ea e) (Mr bs b cur lo)=some (.undef,Mr bs b cur' (min lo b)):=by
 have hr:((List.replicate (n-k) [zero]).flatten).length=n-k:=by simp
 have hp:put cur k (List.replicate (n-k) [zero]).flatten=some (cur.take k++(List.replicate (n-k) [zero]).flatten++cur.drop (k+(n-k))):=by
  unfold put;rw [if_pos (by rw [hr]; omega),hr]
 refine ⟨cur.take k++(List.replicate (n-k) [zero]).flatten++cur.drop (k+(n-k)),by simp only [aw,hr,List.length_take,List.length_drop]; omega,?_⟩;have hne:¬ (n-k) * 1=0:=by omega
 simp only [opE,he,if_true,get_eq,ug hb,if_neg hne,hp];simp [Hp.set,Mr]
theorem Mj {bs:List Blk}{b lo:Nat}(hb:b<bs.length){zs:List Int}{cap:Option Nat}(hn:zs.length<2 ^ 62):∀ (m k:Nat),k+m=zs.length->1<=k →
 ∃ cur' lo',(Cd E T val (.loop [0,3] (kJ kd)) [(0,.row b 0 zs.length cap 1),(3,.d (i64 k))] (Mr bs b (zs.map (iv kd)) lo)=some (.ret,[(2,.row b 0 (k+chg (zs.drop (k-1))) cap 1)],Mr bs b cur' lo')/\cur'.length=zs.length/\lo'=min lo b ∨
  Cd E T val (.loop [0,3] (kJ kd)) [(0,.row b 0 zs.length cap 1),(3,.d (i64 k))] (Mr bs b (zs.map (iv kd)) lo)=some (.exit 0,[(0,.row b 0 zs.length cap 1)],Mr bs b (zs.map (iv kd)) lo)/\k+chg (zs.drop (k-1))=zs.length):=by
 intro m;have key:=ay (E:=E) (T:=T) (val:=val) [0,3] (kJ kd);generalize Cd E T val (.loop [0,3] (kJ kd))=W at key ⊢
 induction m with
 | zero =>
  intro k hk h1;have h0:chg (zs.drop (k-1))=0:=by
   have:=oJ (zs.drop (k-1));simp only [List.length_drop] at this;omega
  refine ⟨[],0,.inr ⟨?_,by omega⟩⟩;rw [key];simp [kJ,show ¬ ((k:Int)<(zs.length:Int)) from by omega]
 | succ m ih =>
  intro k hk h1;have hlt:k<zs.length:=by omega
  have e1:(zs.map (iv kd))[k]?=some (iv kd zs[k]):=by simp [hlt]
  have e0:(zs.map (iv kd))[k-1]?=some (iv kd (zs[k-1]'(by omega))):=by rw [List.getElem?_map,ac (show k-1<zs.length by omega)]; rfl
  have hd:=rV (zs:=zs) (i:=k-1) (by omega);have hs:k-1+1=k:=by omega
  simp only [hs] at hd;have hw:=ax hlt hn;have hwm:wrap .i64 ((k:Int)-1)=((k-1:Nat):Int):=by rw [wrap64]<;>omega
  have i1:=λh=>fQ (b:=b) (o:=0) (z:=1) (cap:=cap) (kd:=.i64) (h:=h) hlt;have i0:=λh=>fQ (b:=b) (o:=0) (z:=1) (cap:=cap) (kd:=.i64) (h:=h) (show k-1<zs.length by omega);simp only [Nat.mul_one,Nat.zero_add] at i1 i0;have l1:=rO (lo:=lo) hb e1;have l0:=rO (lo:=lo) hb e0;have hin:=QS (E:=E) (T:=T) (val:=val) (kd:=kd) hb (zs:=zs) (cap:=cap) (cap2:=cap.map (· - k)) hn h1 hlt (zs.length-k-1) 1 k (zs.map (iv kd)) lo (by omega) (by omega) (by omega) (by simp) (λj hj _=>by simp [hj]);have hcl:=oJ (zs.drop k);simp only [List.length_drop] at hcl;rw [hd];generalize zs[k]'(by omega)=y at *;generalize zs[k-1]'(by omega)=x at *;by_cases hxy:x=y
  . obtain ⟨cur',lo',k1,k2,k3⟩:=hin;simp only [show k+1-1=k by omega] at k1;have hK:k+chg (zs.drop k)<zs.length:=by omega
    generalize hKe:k+chg (zs.drop k)=K at *;obtain ⟨cur2,c1,c2⟩:=Mh (C:=Sm E T val) (lo:=lo') hb (cur:=cur') (e:=[(56,.row b K (zs.length-K) (cap.map (· - K)) 1),(55,.d (i64 K)),(54,.row b 0 zs.length cap 1),(0,.row b 0 zs.length cap 1),(3,.d (i64 K))]) (x:=.t 56) (n:=zs.length) (k:=K) (cap:=cap.map (· - K)) (zero:=.d (.int kd 0)) (by simp) k2 hK;have sl1:=λh=>Ah (h:=h) (ev:=X.ea [(27,.d (i64 k)),(26,.row b 0 zs.length cap 1),(25,.d (.bool true)),(24,iv kd x),(23,.ptr b (k-1)),(22,.d (i64 (k-1:Nat))),(21,.d (i64 k)),(20,.row b 0 zs.length cap 1),(19,iv kd y),(18,.ptr b k),(17,.d (i64 k)),(16,.row b 0 zs.length cap 1),(13,.d (.bool true)),(12,.d (i64 zs.length)),(11,.row b 0 zs.length cap 1),(10,.d (i64 k)),(0,.row b 0 zs.length cap 1),(3,.d (i64 k))]) (x:=.t 27) (b:=b) (n:=zs.length) (cap:=cap) (k:=k) (by simp) hlt h1;have sl2:=λh=>Ah (h:=h) (ev:=X.ea [(55,.d (i64 K)),(54,.row b 0 zs.length cap 1),(0,.row b 0 zs.length cap 1),(3,.d (i64 K))]) (x:=.t 55) (b:=b) (n:=zs.length) (cap:=cap) (k:=K) (by simp) hK (by omega);have sl3:=λh=>pF (h:=h) (ev:=X.ea [(58,.d (i64 K)),(57,.row b 0 zs.length cap 1),(56,.row b K (zs.length-K) (cap.map (· - K)) 1),(55,.d (i64 K)),(54,.row b 0 zs.length cap 1),(0,.row b 0 zs.length cap 1),(3,.d (i64 K))]) (x:=.t 58) (b:=b) (z:=1) (len:=zs.length) (cap:=cap) (n:=K) (by simp) (by omega);refine ⟨cur2,min lo' b,.inl ⟨?_,c1,by obtain k3 | k3:=k3<;>omega⟩⟩;rw [key];simp only [hxy,if_true,Nat.zero_add]
    subst hxy;simp [iv] at sl1;simp [kJ,i1,i0,l1,l0,iv,hwm,hlt,sl1,-aG];rw [aj];simp at k1;simp [k1,sl2];rw [c2];simp [sl3,hKe]
  . obtain ⟨cur',lo',hh⟩:=ih (k+1) (by omega) (by omega);simp only [show k+1-1=k by omega] at hh;refine ⟨cur',lo',?_⟩;rw [key];have hyx:¬ y=x:=λh=>hxy h.symm;have hadd:k+(1+chg (zs.drop k))=k+1+chg (zs.drop k):=by omega
    simp only [hxy,if_false,hadd];simp [kJ,i1,i0,l1,l0,iv,hwm,hw,hlt,hyx,-aG];simpa using hh
theorem yX {id:FuncId}(ht:T id=some (cmpQ kd))(hv:val id=false){zs:List Int}{b:Nat}{cap:Option Nat}{h:Hp}(hb:ah h.bs b=some (zs.map (iv kd)))(hn:zs.length<2 ^ 62) :
 ∃ h',Sm E T val id [.row b 0 zs.length cap 1] h=some (.row b 0 (qK zs) cap 1,h')/\(h'=h\/∃ cur,h'=⟨h.bs.set b (.cells cur),min h.low b⟩):=by
 have hbl:=aK hb;have hset:h.bs.set b (.cells (zs.map (iv kd)))=h.bs:=by
  apply List.ext_getElem?;intro i;by_cases hi:b=i
  . subst hi;rw [List.getElem?_set_self hbl];unfold ah at hb;split at hb
    . rename_i hh; cases hb; exact hh.symm
    . cases hb
  . rw [am hi]
 have hM:(⟨h.bs,h.bs.length⟩:Hp)=Mr h.bs b (zs.map (iv kd)) h.bs.length:=by simp [Mr,hset]
 rw [aJ ht hv,hM];by_cases h2:zs.length<2
 . refine ⟨h,?_,.inl rfl⟩;have:qK zs=zs.length:=by
    match zs,h2 with
    | [],_=>rfl
    | [x],_=>rfl
    | _::_::_,h2=>simp at h2; omega
   simp [cmpQ,af,show ((zs.length:Int)<2) from by omega,this,V.under,hbl];simp [Mr]
 . have hne:zs≠[]:=by rintro rfl; simp at h2
   obtain ⟨cur',lo',hh | hh⟩:=Mj (E:=E) (T:=T) (val:=val) (kd:=kd) (lo:=h.bs.length) (cap:=cap) hbl hn (zs.length-1) 1 (by omega) (by omega)
   . obtain ⟨k1,k2,k3⟩:=hh;have hlo:lo'=b:=by omega
     subst hlo;refine ⟨_,?_,.inr ⟨cur',rfl⟩⟩;simp at k1;simp [cmpQ,af,show ¬ ((zs.length:Int)<2) from by omega];rw [aj];simp [k1,qK,hne,V.under,hbl];simp [Mr,show ¬ (h.bs.length<=lo') from by omega]
   . obtain ⟨k1,k2⟩:=hh;refine ⟨h,?_,.inl rfl⟩;simp at k1 k2;simp [cmpQ,af,show ¬ ((zs.length:Int)<2) from by omega];rw [aj];simp [k1,qK,hne,V.under,hbl,k2];simp [Mr]
end
end
section
open Go.Sort Go.Shelf Go.RowKit
def fI (zs:List Int):List V:=zs.map λz=>.d (.int .i64 z)
def asInt:V->Option Int
 | .d (.int .i64 z)=>some z
 | _=>none
theorem DT {v:V}{z:Int}(h:asInt v=some z):v=.d (.int .i64 z):=by
 unfold asInt at h;split at h
 . cases h; rfl
 . cases h
theorem QM {cs:List V}{zs:List Int}(h:cs.mapM asInt=some zs):cs=fI zs:=by
 induction cs generalizing zs with
 | nil=>simp at h; subst h; rfl
 | cons c cs ih =>
  simp only [List.mapM_cons,Option.pure_def,Option.bind_eq_bind,Option.bind_eq_some_iff] at h;obtain ⟨z,h1,zs',h2,h3⟩:=h;cases h3;rw [DT h1,ih h2]; rfl
def bM (zs:List Int):List Int:=zs.mergeSort λx y=>decide (x<=y)
def qF (args:List V)(h:Hp):Option (V×Hp):=match args with
 | [.d (.slice true [])]=>some (.tup [],h)
 | [.row b 0 n _ 1]=>if n=0 then some (.tup [],h) else match h.get b with
  | some cs=>match cs.mapM asInt with
   | some zs=>if zs.length=n/\n<=2 ^ 30 then some (.tup [],h.set b (fI (bM zs))) else none
   | none=>none
  | none=>none
 | _=>none
theorem Ig {args:List V}{h:Hp}{r:V}{h':Hp}(hm:qF args h=some (r,h')):LowOk h h':=by
 unfold qF at hm;split at hm
 . cases hm; exact LowOk.refl _
 . split at hm
   . cases hm; exact LowOk.refl _
   . split at hm
     . split at hm
       . split at hm
         . cases hm; exact LowOk.set _ _ _
         . cases hm
       . cases hm
     . cases hm
 . cases hm
variable {P:Program}{ρr:Ren}
theorem Lb (Ly:Lays.n189 P ρr){B:Nat}{ρ:Rh}{h:Hp}{w:World}{args:List V}{vs:Array Value}{r:V}{h':Hp}(hR:Rel B ρ h w)(hv:VRs ρ (St ρ w) w args vs.toList)(hm:qF args h=some (r,h')) :
 Calls P (ρr.f 189) vs w (rP B ρ h w r h'):=by
 have one:∀ {x:V},args=[x]->∃ u,vs=#[u]/\VR ρ (St ρ w) w x u:=by
  rintro x rfl;simp only [VRs] at hv;obtain ⟨u,us,h1,h2,rfl⟩:=hv;refine ⟨u,?_,h2⟩;have:vs.toList=(#[u]:Array Value).toList:=by simpa using h1
  exact Array.toList_inj.1 this
 have none_:∀ {u:Value} {p:Option Addr} {c:Nat},u=.slice p 0 c->r=.tup []->h'=h->vs=#[u]->Calls P (ρr.f 189) vs w (rP B ρ h w r h'):=by
  rintro u p c rfl rfl rfl rfl;refine (Any.slices_Sort_int_none Ly p c w).mono ?_;rintro e w' ⟨rfl,rfl⟩;exact ⟨_,ρ,rfl,hR,Goes.refl _ _ _,by simp only [VRx,VR,VRs]; exact ⟨_,rfl,rfl⟩⟩
 unfold qF at hm;split at hm
 . obtain ⟨u,e1,h2⟩:=one rfl;simp only [VR,DR] at h2;obtain ⟨a,c,rfl,_⟩:=h2;cases hm;exact none_ rfl rfl rfl e1
 . rename_i b n cap;obtain ⟨u,e1,h2⟩:=one rfl;simp only [VR] at h2;obtain ⟨hb,c,rfl,hc1,hc2,_⟩:=h2;split at hm
   . rename_i hn;subst hn;cases hm;exact none_ rfl rfl rfl e1
   . rename_i hn;split at hm
     . rename_i cs hg;split at hm
       . rename_i zs hzs;split at hm
         . rename_i hlen;obtain ⟨hlen,hsmall⟩:=hlen;cases hm;have hcs:=QM hzs;subst hcs;subst e1;have hne:fI zs≠[]:=λhh=>hn (by rw [← hlen]; have:=congrArg List.length hh; simpa [fI] using this);have hll:(fI zs).length=zs.length:=by simp [fI]
           obtain ⟨arr,el,fz,k1,k2,k3,k4⟩:=jP hR hg hne;obtain ⟨hbl,hbe⟩:=si hg;have hcell:∀ j (hj:j<zs.length) (hj2:j<arr.size),arr[j]=Value.int .i64 zs[j]:=by
            intro j hj hj2;have:=(k4 j (by omega) hj2).1;simpa [fI,VR,DR] using this
           have hH:Holds (Value.int .i64) w (ρ b) 0 zs.toArray:=by
            intro j hj;have hj':j<zs.length:=by simpa using hj
            have hj2:j<arr.size:=by omega
            refine ⟨?_,by simpa using k3 j hj2⟩;have:zs.toArray[j]! = zs[j]:=by rw [getElem!_pos _ j hj]; simp
            rw [this];simp [World.cell?,k1,hj2,hcell j hj' hj2]
           have hlt:=(hR.lo b hb).2;subst hlen;refine (Any.slices_Sort_int Ly (ρ b) 0 c zs w hH hlt (by omega)).mono ?_;rintro e w' ⟨rfl,nn,os,rfl⟩;have hlive:h.bs[b].live=true:=by
            rw [hbe];cases hh:fI zs with
            | nil=>exact absurd hh hne
            | cons _ _=>rfl
           have hsl:(bM zs).length=zs.length:=List.length_mergeSort _
           let w1:=putRow (Value.int .i64) (Sort.ahead w nn) (ρ b) 0 (bM zs).toArray
           have hheap:w1.heap=w.heap.modify (ρ b) (onCells (putCells (Value.int .i64) 0 (bM zs).toArray)):=rfl;have hsz:w1.heap.size=w.heap.size:=by rw [hheap]; simp
           have hoth:∀ k,k≠ρ b->w1.heap[k]?=w.heap[k]?:=λk hk=>by
            rw [hheap,Array.getElem?_modify,if_neg (Ne.symm hk)]
           have hat:w1.heap[ρ b]?=some (.cells (putCells (Value.int .i64) 0 (bM zs).toArray arr) el fz):=by
            rw [hheap,Array.getElem?_modify,if_pos rfl,k1]; rfl
           have hps:(putCells (Value.int .i64) 0 (bM zs).toArray arr).size=arr.size:=by simp [putCells]
           have hown:∀ arr' e' fz',w.heap[ρ b]?=some (.cells arr' e' fz')->∃ arr'' fz'',w1.heap[ρ b]?=some (.cells arr'' e' fz'')/\arr''.size=arr'.size:=by
            intro arr' e' fz' hh;rw [k1] at hh;cases hh;exact ⟨_,_,hat,hps⟩
           have hbr:BR ρ w1 (ρ b) (.cells (fI (bM zs))):=by
            have hl2:(fI (bM zs)).length=zs.length:=by simp [fI,hsl]
            have hne2:fI (bM zs)≠[]:=λhh=>by
             rw [hh] at hl2; exact hn hl2.symm
            have core:∃ arr' e' fz',w1.heap[ρ b]?=some (.cells arr' e' fz')/\(fI (bM zs)).length<=arr'.size/\(∀ j,j<arr'.size->w1.frozen? ⟨ρ b,j,none⟩=false) ∧
             ∀ (j:Nat) (h1:j<(fI (bM zs)).length) (h2:j<arr'.size),VR ρ (St ρ w1) w1 (fI (bM zs))[j] arr'[j]/\arr'[j].oneCell'=true:=by
             refine ⟨_,_,_,hat,by rw [hps,hl2,← hll]; exact k2,λj hj=>?_,λj h1 h2=>?_⟩
             . have:=k3 j (by rw [← hps]; exact hj);rw [← this];exact frozen?_mapBlock (Sort.ahead w nn) (ρ b) _ _
             . have hj:j<(bM zs).length:=by rw [hsl]; omega
               have hv:(putCells (Value.int .i64) 0 (bM zs).toArray arr)[j]=Value.int .i64 (bM zs)[j]:=by
                simp only [putCells,Array.getElem_mapIdx];rw [if_pos ⟨Nat.zero_le _,by simpa using hj⟩];simp [getElem!_pos,hj]
               rw [hv];exact ⟨by simp [fI,VR,DR],rfl⟩
            revert core hne2
            cases fI (bM zs) with
            | nil=>intro hne2 _; exact absurd rfl hne2
            | cons x xs=>intro _ core; simpa only [BR] using core
           have q1:=wV hR hbl hlive hsz hoth hown rfl rfl rfl (.cells (fI (bM zs))) hbr (min h.low b);have q2:=mH hR (hR.live b hbl hlive) hsz hoth hown rfl rfl rfl;have hbel:Below w1.heap.size w1 (grow w1 os):=⟨rfl,rfl,rfl,by simp [grow],λk hk=>by simp [grow,Array.getElem?_append_left hk]⟩;obtain ⟨q3,q4⟩:=yZ q1 hbel;exact ⟨_,ρ,rfl,q3,q2.trans q4,by simp only [VRx,VR,VRs]; exact ⟨_,rfl,rfl⟩⟩
         . cases hm
       . cases hm
     . cases hm
 . cases hm
end
section
def Inr (k:IntKind)(n:Int):Prop:=(Lit.int k n).wf=true
def Pod.wf (B:Nat)(p:Pod):Prop:=Inr .u64 p.uid/\p.ns.size<=B/\p.sa.size<=B/\Inr .i64 p.host/\Inr .u32 p.addr/\Inr .i64 p.port/\Inr .u64 p.service
def Svc.wf (B:Nat)(p:Svc):Prop:=Inr .u64 p.id/\p.ns.size<=B/\Inr .u32 p.addr/\Inr .i64 p.port/\Inr .u64 p.way
def Way.wf (B:Nat)(p:Way):Prop:=Inr .u64 p.id/\Inr .i64 p.node
def Term.wf (B:Nat)(p:Term):Prop:=Inr .i64 p.kind/\p.text.size<=B
def Cidr.wf (B:Nat)(p:Cidr):Prop:=Inr .u32 p.addr/\Inr .i64 p.bits
def PG (B:Nat)(n:Int):Prop:=Inr .i64 n
def Sl.wf {α:Type}(B:Nat)(f:Nat->α->Prop)(s:Sl α):Prop:=fit B s/\∀ x∈s.l,f B x
def Source.wf (B:Nat)(p:Source):Prop:=p.names.wf B Term.wf/\p.spaces.wf B Term.wf/\p.nets.wf B Cidr.wf
def Target.wf (B:Nat)(p:Target):Prop:=p.ports.wf B PG/\p.methods.wf B Term.wf/\p.paths.wf B Term.wf/\p.hosts.wf B Term.wf
def When.wf (B:Nat)(p:When):Prop:=p.head.size<=B/\p.terms.wf B Term.wf
def Rule.wf (B:Nat)(p:Rule):Prop:=p.frm.wf B Source.wf/\p.to.wf B Target.wf/\p.whn.wf B When.wf
def Pol.wf (B:Nat)(p:Pol):Prop:=Inr .u64 p.id/\p.ns.size<=B/\Inr .u64 p.service/\Inr .i64 p.deny/\p.rules.wf B Rule.wf
def Cfg.wf (B:Nat)(c:Cfg):Prop:=Inr .u64 c.epoch/\Inr .u64 c.next/\Inr .i64 c.hosts/\Inr .i64 c.ways/\c.pods.wf B Pod.wf/\c.services.wf B Svc.wf/\c.bound.wf B Way.wf/\c.policies.wf B Pol.wf
theorem Source.wf.fits {B:Nat}{s:Source}(h:s.wf B):s.fits B:=⟨h.1.1,h.2.1.1,h.2.2.1⟩
theorem Target.wf.fits {B:Nat}{s:Target}(h:s.wf B):s.fits B:=⟨h.1.1,h.2.1.1,h.2.2.1.1,h.2.2.2.1⟩
theorem When.wf.fits {B:Nat}{s:When}(h:s.wf B):s.fits B:=h.2.1
theorem Rule.wf.fits {B:Nat}{s:Rule}(h:s.wf B):s.fits B:=⟨⟨h.1.1,λx hx=>(h.1.2 x hx).fits⟩,⟨h.2.1.1,λx hx=>(h.2.1.2 x hx).fits⟩,h.2.2.1,λx hx=>(h.2.2.2 x hx).fits⟩
theorem Pol.wf.fits {B:Nat}{s:Pol}(h:s.wf B):s.fits B:=⟨h.2.2.2.2.1,λx hx=>(h.2.2.2.2.2 x hx).fits⟩
theorem Cfg.wf.fits {B:Nat}{c:Cfg}(h:c.wf B):c.fits B:=⟨h.2.2.2.2.1.1,h.2.2.2.2.2.1.1,h.2.2.2.2.2.2.1.1,h.2.2.2.2.2.2.2.1,λx hx=>(h.2.2.2.2.2.2.2.2 x hx).fits⟩
theorem fit.le {α:Type}{B B':Nat}{s:Sl α}(hB:B<=B')(h:fit B s):fit B' s:=⟨cf h.1 hB,h.2⟩
theorem Source.fits.le {B B':Nat}(hB:B<=B'){s:Source}(h:s.fits B):s.fits B':=⟨h.1.le hB,h.2.1.le hB,h.2.2.le hB⟩
theorem Target.fits.le {B B':Nat}(hB:B<=B'){s:Target}(h:s.fits B):s.fits B':=⟨h.1.le hB,h.2.1.le hB,h.2.2.1.le hB,h.2.2.2.le hB⟩
theorem When.fits.le {B B':Nat}(hB:B<=B'){s:When}(h:s.fits B):s.fits B':=fit.le hB h
theorem Rule.fits.le {B B':Nat}(hB:B<=B'){s:Rule}(h:s.fits B):s.fits B':=⟨⟨h.1.1.le hB,λx hx=>(h.1.2 x hx).le hB⟩,⟨h.2.1.1.le hB,λx hx=>(h.2.1.2 x hx).le hB⟩,h.2.2.1.le hB,λx hx=>When.fits.le hB (h.2.2.2 x hx)⟩
theorem Pol.fits.le {B B':Nat}(hB:B<=B'){s:Pol}(h:s.fits B):s.fits B':=⟨h.1.le hB,λx hx=>(h.2 x hx).le hB⟩
theorem Cfg.fits.le {B B':Nat}(hB:B<=B'){c:Cfg}(h:c.fits B):c.fits B':=⟨h.1.le hB,h.2.1.le hB,h.2.2.1.le hB,h.2.2.2.1.le hB,λx hx=>(h.2.2.2.2 x hx).le hB⟩
theorem Cfg.wf.ok {B:Nat}{c:Cfg}(h:c.wf B)(hB:B<=big):c.ok:=h.fits.le hB
end
section
noncomputable def E1:Calls':=λf args h=>match Nat.beq f 280 with
 | true=>qF args h
 | false=>Sm (λ_ _ _=>none) TT au f args h
def bt8:List (Nat×QF):=[(233,Ky),(219,Te),(282,bf6)]
def TP:FuncId->Option QF:=kN bt8
def rH (f:FuncId):Bool:=Nat.beq 233 f
theorem Ru:TP 233=some Ky:=rfl
theorem Rt:TP 219=some (cloneQ 1 8 [(.d (.int .i64 0))]):=by kernel_rfl
theorem Rv:TP 282=some (cmpQ .i64):=by kernel_rfl
theorem bd0:TP 280=none:=rfl
theorem bc9:TP 275=none:=rfl
theorem bd1:TP 281=none:=rfl
theorem QW {args:List V}{h:Hp}:Sm E1 TP rH 280 args h=qF args h:=by rw [bB bd0]; rfl
theorem Jp {args:List V}{h:Hp}:Sm E1 TP rH 275 args h=Sm (λ_ _ _=>none) TT au 275 args h:=by rw [bB bc9]; rfl
theorem Jq {args:List V}{h:Hp}:Sm E1 TP rH 281 args h=Sm (λ_ _ _=>none) TT au 281 args h:=by rw [bB bd1]; rfl
variable {E:Calls'}
def eu (n:Int):Bool:=decide (n>=1)&&decide (n<=65535)
theorem bx6:TT 316=some (anyQ 341):=br4
theorem by2:TT 341=some idx1Q:=bt2
theorem bx7:TT 317=some not1Q:=br5
theorem bw6:TT 281=some (allQ 316 317):=bq0
theorem Qy (s:Sl Int)(hs:short s)(h:Hp):Sm E TT au 281 [.d (i64 6),.d (s.d ig),.fn 157 []] h=some (bl (decide ((s.l.length:Int)<=6)&&s.l.all eu),h) :=
 Qz (cell:=λn=>i64 n) by2 cj1 bx6 ci2 bx7 ci3 bw6 cg8 hs (λe he h=>VO e h) h
def aS (t:Target):Bool:=(aT t.methods&&(aT t.paths&&(aT t.hosts&&true)))&&(decide ((t.ports.l.length:Int)<=6)&&t.ports.l.all eu)&&((qK (bM t.ports.l):Int)==(t.ports.l.length:Int))
theorem yK {T:FuncId->Option QF}{val:FuncId->Bool}{kd:IntKind}{id:FuncId}(ht:T id=some (cmpQ kd))(hv:val id=false)(h:Hp):Sm E T val id [.d (.slice true [])] h=some (.d (.slice true []),h):=by
 rw [aJ ht hv];simp [cmpQ,af,V.under]
theorem xE {h:Hp}{b n:Nat}{cap:Option Nat}{ds:List D}(hb:ah h.bs b=some (ds.map .d))(hn:n=ds.length):frz h (.row b 0 n cap 1)=some (.d (.slice false (ds.map λd=>[d]))):=by
 have h1:ah h.bs b=some (flat (ds.map λd=>[d])++[]):=by
  have hf:∀ l:List D,(l.map λd=>[d]).flatten=l:=by
   intro l
   induction l with
   | nil=>rfl
   | cons d l ih=>simp only [cn,List.flatten_cons,ih]; rfl
  rw [hb,List.append_nil,flat,hf]
 have:=iO (h:=h) (k:=7) (b:=b) (n:=n) (cap:=cap) (z:=1) (es:=ds.map λd=>[d]) (rest:=[]) (by simp) (by simpa using hn) h1;simp only [frz,cO,this]
def tN (t:Target):Bool:=aT t.methods&&(aT t.paths&&(aT t.hosts&&true))
def kR (t:Target):Bool:=decide ((t.ports.l.length:Int)<=6)&&t.ports.l.all eu
theorem Qp (t:Target)(ht:t.wf big)(b:Nat)(cap:Option Nat)(h:Hp)(hb:ah h.bs b=some [.d (t.methods.d Term.c),.d (t.paths.d Term.c),.d (t.hosts.d Term.c)]):Sm E TT au 275 [.row b 0 3 cap 1] h=some (bl (tN t),h):=by
 refine Qx [t.methods,t.paths,t.hosts] (by simp) ?_ _ h (xE (ds:=[t.methods.d Term.c,t.paths.d Term.c,t.hosts.d Term.c]) hb rfl)
 . intro s hs;simp only [List.mem_cons,List.not_mem_nil,or_false] at hs;obtain rfl | rfl | rfl:=hs
   . exact ⟨ht.2.1.1,λx hx=>(ht.2.1.2 x hx).2⟩
   . exact ⟨ht.2.2.1.1,λx hx=>(ht.2.2.1.2 x hx).2⟩
   . exact ⟨ht.2.2.2.1,λx hx=>(ht.2.2.2.2 x hx).2⟩
theorem IR (t:Target)(ht:t.wf big)(hl:t.ports.l=[])(hnl:t.ports.nl=true)(h:Hp):Sm E1 TP rH 233 [ag t.c] h=some (bl (aS t),h):=by
 have hp:t.ports.d ig=.slice true []:=by simp [Sl.d,hl,hnl]
 have c1:=λh=>om (E:=E1) (T:=TP) (val:=rH) Rt rfl (by decide) (by decide) (nl:=true) (es:=[]) (by simp) (by simp) h;have c3:=λh=>yK (E:=E1) (T:=TP) (val:=rH) Rv rfl h;have c2:∀ h,qF [.d (.slice true [])] h=some (.tup [],h):=λ_=>rfl;have r1:=λb cap h hb=>Qp (E:=λ_ _ _=>none) t ht b cap h hb;have a1:=λh=>Qy (E:=λ_ _ _=>none) t.ports ht.1.1 h;rw [← hp] at c1;have hlen:t.ports.l.length=0:=by rw [hl]; rfl
 rw [aU Ru rfl];have hT:aS t=(tN t&&kR t&&true):=by simp [aS,tN,kR,hl,qK,bM]
 rw [hT];simp [af,Ky,c1,bO,QW,c2];cases hR:tN t<;>cases hP:kR t;all_goals
  simp only [hR] at r1;have a2:=hP;unfold kR at a2;simp only [a2] at a1;simp +decide [ai,aa,Jp,Jq,r1,a1,c3,aL,az,hlen]
theorem GA (l:List Int):flat (l.map ig)=fI l:=by
 simp only [flat,fI]
 induction l with
 | nil=>rfl
 | cons x l ih=>simp only [cn,List.flatten_cons,List.map_append,ih]; rfl
theorem GK (l:List Int):(fI l).mapM asInt=some l:=by
 induction l with
 | nil=>rfl
 | cons x l ih =>
  simp only [fI,cn,List.mapM_cons] at ih ⊢;simp [ih,asInt]
theorem Ii (l:List Int):(bM l).length=l.length:=List.length_mergeSort _
theorem Dz (t:Target)(ht:t.wf big)(hl:t.ports.l=[])(hnl:t.ports.nl=false)(h:Hp):Sm E1 TP rH 233 [ag t.c] h=some (bl (aS t),h):=by
 have hp:t.ports.d ig=.slice false []:=by simp [Sl.d,hl,hnl]
 have c1:=λh=>om (E:=E1) (T:=TP) (val:=rH) Rt rfl (by decide) (by decide) (nl:=false) (es:=[]) (by simp) (by simp) h;have c3:=yX (E:=E1) (T:=TP) (val:=rH) Rv rfl (zs:=[]) (b:=1) (cap:=some 0) (h:=⟨[.cells (t.c.map .d),.cells [],.cells [.d (t.methods.d Term.c),.d (t.paths.d Term.c),.d (t.hosts.d Term.c)]],3⟩) (by simp) (by simp);have c2:∀ b c h,qF [.row b 0 0 c 1] h=some (.tup [],h):=λ_ _ _=>rfl;have r1:=λb cap h hb=>Qp (E:=λ_ _ _=>none) t ht b cap h hb;have a1:=λh=>Qy (E:=λ_ _ _=>none) t.ports ht.1.1 h;rw [← hp] at c1;have hlen:t.ports.l.length=0:=by rw [hl]; rfl
 rw [aU Ru rfl];have hT:aS t=(tN t&&kR t&&true):=by simp [aS,tN,kR,hl,qK,bM]
 rw [hT];obtain ⟨h',c3,c4⟩:=c3;simp [qK] at c3;simp [af,Ky,c1,bO,QW,c2];cases hR:tN t<;>cases hP:kR t;all_goals
  simp only [hR] at r1;have a2:=hP;unfold kR at a2;simp only [a2] at a1;obtain rfl | ⟨cur,rfl⟩:=c4<;>first | (simp +decide [ai,aa,Jp,Jq,r1,a1,c3,aL,az,hlen]; done) | (simp +decide [ai,aa,Jp,Jq,r1,a1,c3,aL,az,hlen]; rw [if_pos (w9 (by rfl))]; simp)
theorem Gp (t:Target)(ht:t.wf big)(hl:t.ports.l≠[])(h:Hp):Sm E1 TP rH 233 [ag t.c] h=some (bl (aS t),h):=by
 have hnl:t.ports.nl=false:=by
  cases hh:t.ports.nl with
  | false=>rfl
  | true=>exact absurd (ht.1.1.2 hh) hl
 have hsl:=Ii t.ports.l;have hne0:¬ t.ports.l.length=0:=by simpa using hl
 have hlb:t.ports.l.length<=big:=ht.1.1.1;have hp:t.ports.d ig=.slice false (t.ports.l.map ig):=by simp [Sl.d,hnl]
 have c1:∀ h,Sm E1 TP rH 219 [.d (t.ports.d ig)] h=some (.row (h.bs.length+1) 0 t.ports.l.length none 1,⟨h.bs++[.cells [],.cells (fI t.ports.l)],min h.low h.bs.length⟩):=by
  intro h;have:=om (E:=E1) (T:=TP) (val:=rH) Rt rfl (by decide) (by decide) (nl:=false) (es:=t.ports.l.map ig) (by simp [ig]) (by simpa using hlb) h;rw [hp,this];have hf:=GA t.ports.l
  revert hf hl
  cases t.ports.l with
  | nil=>intro hl; exact absurd rfl hl
  | cons x l =>
   intro _ hf;simp only [cn] at hf;simp [bO,hf]
 have c2:∀ lo,qF [.row 2 0 t.ports.l.length none 1] ⟨[.cells (t.c.map .d),.cells [],.cells (fI t.ports.l)],lo⟩=some (.tup [],⟨[.cells (t.c.map .d),.cells [],.cells (fI (bM t.ports.l))],min lo 2⟩):=by
  intro lo;simp only [qF,if_neg hne0,get_eq,GI,uw,GK];rw [if_pos ⟨trivial,hlb⟩];rfl
 have c3:=yX (E:=E1) (T:=TP) (val:=rH) Rv rfl (zs:=bM t.ports.l) (b:=2) (cap:=none) (h:=⟨[.cells (t.c.map .d),.cells [],.cells (fI (bM t.ports.l)),.cells [.d (t.methods.d Term.c),.d (t.paths.d Term.c),.d (t.hosts.d Term.c)]],4⟩) (by simp; rfl) (by rw [hsl]; exact ce hlb (by decide));have r1:=λb cap h hb=>Qp (E:=λ_ _ _=>none) t ht b cap h hb;have a1:=λh=>Qy (E:=λ_ _ _=>none) t.ports ht.1.1 h;rw [aU Ru rfl];have hT:aS t=(tN t&&kR t&&((qK (bM t.ports.l):Int)==(t.ports.l.length:Int))):=rfl;rw [hT];obtain ⟨h',c3,c4⟩:=c3;rw [hsl] at c3;generalize qK (bM t.ports.l)=K at *;generalize fI (bM t.ports.l)=Z at *;generalize fI t.ports.l=Z0 at *;simp [af,Ky,c1,QW,c2];cases hR:tN t<;>cases hP:kR t;all_goals
  simp only [hR] at r1;have a2:=hP;unfold kR at a2;simp only [a2] at a1;obtain rfl | ⟨cur,rfl⟩:=c4<;>first | (simp +decide [ai,aa,Jp,Jq,r1,a1,c3,aL,az]; done) | (simp +decide [ai,aa,Jp,Jq,r1,a1,c3,aL,az]; rw [if_pos (w9 (by rfl))]; simp)
theorem au0 (t:Target)(ht:t.wf big)(h:Hp):Sm E1 TP rH 233 [ag t.c] h=some (bl (aS t),h):=by
 by_cases hl:t.ports.l=[]
 . cases hnl:t.ports.nl with
   | true=>exact IR t ht hl hnl h
   | false=>exact Dz t ht hl hnl h
 . exact Gp t ht hl h
end
section
variable {E:Calls'}
theorem bx3:TT 311=some (anyQ 331):=br0
theorem by1:TT 331=some (idxQ 2):=bt1
theorem bx4:TT 312=some (notQ 2):=br1
theorem bw3:TT 276=some (allQ 311 312):=bp6
theorem bw1:TT 273=some (anyQ 307):=bp3
theorem bw9:TT 307=some (idxQ 3):=bq6
theorem bw2:TT 274=some (notQ 3):=bp4
theorem bv7:TT 230=some (allQ 273 274):=bo0
theorem bw4:TT 278=some (anyQ 314):=bp8
theorem bx5:TT 314=some (idxQ 4):=br3
theorem bw5:TT 279=some (notQ 4):=bp9
theorem bv8:TT 232=some (allQ 278 279):=bo2
theorem bw7:TT 283=some (anyQ 318):=bq1
theorem bx8:TT 318=some (idxQ 2):=br6
theorem bw8:TT 284=some (notQ 2):=bq2
theorem bv9:TT 234=some (allQ 283 284):=bo3
theorem bv5:TT 228=some (anyQ 272):=bn8
theorem bw0:TT 272=some (idxQ 3):=bp2
theorem bv6:TT 229=some (notQ 3):=bn9
theorem bv4:TT 208=some (allQ 228 229):=bm6
theorem ba9:TT 233=none:=by kernel_rfl
def kD (s:Sl Cidr):Bool:=decide ((s.l.length:Int)<=6)&&s.l.all iU
theorem av0 (s:Sl Cidr)(hs:short s)(h:Hp):Sm E TT au 276 [.d (i64 6),.d (s.d Cidr.c),.fn 277 []] h=some (bl (kD s),h) :=
 Bp (cells:=Cidr.c) by1 cj0 bx3 ch8 bx4 ch9 bw3 cg3 (λ_=>rfl) hs (λe he h=>av1 e h) h
def bZ (s:Source):Bool:=(aT s.names&&(aT s.spaces&&true))&&kD s.nets
theorem at7 (s:Source)(hs:s.wf big)(h:Hp):Sm E TT au 231 [ag s.c] h=some (bl (bZ s),h):=by
 have r1:∀ b cap h,ah h.bs b=some [.d (s.names.d Term.c),.d (s.spaces.d Term.c)]->Sm E TT au 275 [.row b 0 2 cap 1] h=some (bl ([s.names,s.spaces].all aT),h):=by
  intro b cap h hb;refine Qx [s.names,s.spaces] (by simp) ?_ _ h (xE (ds:=[s.names.d Term.c,s.spaces.d Term.c]) hb rfl);intro x hx;simp only [List.mem_cons,List.not_mem_nil,or_false] at hx;obtain rfl | rfl:=hx
  . exact ⟨hs.1.1,λx hx=>(hs.1.2 x hx).2⟩
  . exact ⟨hs.2.1.1,λx hx=>(hs.2.1.2 x hx).2⟩
 have a1:=λh=>av0 (E:=E) s.nets hs.2.2.1 h;have hT:bZ s=([s.names,s.spaces].all aT&&kD s.nets):=rfl;rw [hT];generalize [s.names,s.spaces].all aT=A at *;generalize kD s.nets=B at *;rw [aU bo1 ce8];cases A<;>simp +decide [af,Tn,ai,aa,r1,a1,aL,az]
def gX (w:When):Bool:=iY w.head&&(aT w.terms&&true)&&decide ((w.terms.l.length:Int)>0)
theorem au1 (w:When)(hw:w.wf big)(h:Hp):Sm E TT au 235 [ag w.c] h=some (bl (gX w),h):=by
 have r1:∀ b cap h,ah h.bs b=some [.d (w.terms.d Term.c)]->Sm E TT au 275 [.row b 0 1 cap 1] h=some (bl ([w.terms].all aT),h):=by
  intro b cap h hb;refine Qx [w.terms] (by simp) ?_ _ h (xE (ds:=[w.terms.d Term.c]) hb rfl);intro x hx;simp only [List.mem_cons,List.not_mem_nil,or_false] at hx;subst hx;exact ⟨hw.2.1,λx hx=>(hw.2.2 x hx).2⟩
 have a1:=λh=>av2 (E:=E) w.head hw.1 h;have hT:gX w=(iY w.head&&[w.terms].all aT&&decide ((w.terms.l.length:Int)>0)):=rfl;rw [hT];generalize [w.terms].all aT=A at *;generalize iY w.head=B at *;rw [aU bo4 cf1];cases B<;>cases A<;>simp +decide [af,Tp,ai,aa,r1,a1,aL,az]
def fe (r:Rule):Bool:=(decide ((r.frm.l.length:Int)<=3)&&r.frm.l.all bZ)&&(decide ((r.to.l.length:Int)<=3)&&r.to.l.all aS)&&(decide ((r.whn.l.length:Int)<=3)&&r.whn.l.all gX)
section
variable (h385:∀ t:Target,t.wf big->∀ h,E 233 [ag t.c] h=some (bl (aS t),h))
include h385
theorem VW (t:Target)(ht:t.wf big)(h:Hp):Sm E TT au 233 [ag t.c] h=some (bl (aS t),h):=by rw [bB ba9]; exact h385 t ht h
theorem as3 (r:Rule)(hr:r.wf big)(h:Hp):Sm E TT au 209 [ag r.c] h=some (bl (fe r),h):=by
 have k1:=λh=>Bp (E:=E) (T:=TT) (val:=au) (cells:=Source.c) bw9 ch4 bw1 cg0 bw2 cg1 bv7 ce7 (λ_=>rfl) (s:=r.frm) hr.1.1 (m:=3) (f:=231) (p:=bZ) (λe he h=>at7 e (hr.1.2 e he) h) h;have k2:=λh=>Bp (E:=E) (T:=TT) (val:=au) (cells:=Target.c) bx5 ci1 bw4 cg6 bw5 cg7 bv8 ce9 (λ_=>rfl) (s:=r.to) hr.2.1.1 (m:=3) (f:=233) (p:=aS) (λe he h=>VW h385 e (hr.2.1.2 e he) h) h;have k3:=λh=>Bp (E:=E) (T:=TT) (val:=au) (cells:=When.c) bx8 ci4 bw7 cg9 bw8 ch0 bv9 cf0 (λ_=>rfl) (s:=r.whn) hr.2.2.1 (m:=3) (f:=235) (p:=gX) (λe he h=>au1 e (hr.2.2.2 e he) h) h;unfold fe;generalize (decide ((r.frm.l.length:Int)<=3)&&r.frm.l.all bZ)=A at *;generalize (decide ((r.to.l.length:Int)<=3)&&r.to.l.all aS)=B at *;generalize (decide ((r.whn.l.length:Int)<=3)&&r.whn.l.all gX)=C at *;rw [aU bm7 cd4];cases A<;>cases B<;>simp +decide [af,S9,ai,aa,k1,k2,k3,az]
def fB (p:Pol):Bool:=decide (p.id>=1)&&decide (p.id<=4611686018427387903)&&(eqS p.ns ⟨#[]⟩||bf p.ns)&&decide (p.service<=4611686018427387903)&&((p.deny==0)||(p.deny==1))&&(decide ((p.rules.l.length:Int)<=6)&&p.rules.l.all fe)
theorem VN (p:Pol)(hp:p.wf big)(h:Hp):Sm E TT au 168 [ag p.c] h=some (bl (fB p),h):=by
 have k1:=λh=>Bp (E:=E) (T:=TT) (val:=au) (cells:=Rule.c) bw0 cf9 bv5 ce5 bv6 ce6 bv4 cd3 (λ_=>rfl) (s:=p.rules) hp.2.2.2.2.1 (m:=6) (f:=209) (p:=fe) (λe he h=>as3 h385 e (hp.2.2.2.2.2 e he) h) h;have k2:=λh=>LW (E:=E) p.ns hp.2.1 h;unfold fB;generalize (decide ((p.rules.l.length:Int)<=6)&&p.rules.l.all fe)=A at *;generalize bf p.ns=B at *;have ho:eqS p.ns ⟨#[]⟩=eqS p.ns ⟨#[]⟩:=rfl;rw [aU bj6 ca6];by_cases c1:p.id>=1
 case neg=>simp +decide [af,yc,ai,aa,az,c1]
 by_cases c2:p.id<=4611686018427387903
 case neg=>simp +decide [af,yc,ai,aa,az,c1,c2]
 cases c3:eqS p.ns ⟨#[]⟩
 case false =>
  cases B
  case false=>simp +decide [af,yc,ai,aa,az,c1,c2,c3,k2]
  by_cases c4:p.service<=4611686018427387903
  case neg=>simp +decide [af,yc,ai,aa,az,c1,c2,c3,k2,c4]
  by_cases c5:p.deny=0
  case pos=>simp +decide [af,yc,ai,aa,az,c1,c2,c3,k2,c4,c5,k1]
  by_cases c6:p.deny=1<;>simp +decide [af,yc,ai,aa,az,c1,c2,c3,k2,c4,c5,c6,k1]
 case true =>
  by_cases c4:p.service<=4611686018427387903
  case neg=>simp +decide [af,yc,ai,aa,az,c1,c2,c3,k2,c4]
  by_cases c5:p.deny=0
  case pos=>simp +decide [af,yc,ai,aa,az,c1,c2,c3,k2,c4,c5,k1]
  by_cases c6:p.deny=1<;>simp +decide [af,yc,ai,aa,az,c1,c2,c3,k2,c4,c5,c6,k1]
end
end
section
section
variable {E:Calls'}{T:FuncId->Option QF}{val:FuncId->Bool}
def fO {α:Type}(q:Nat->α->Bool):Nat->List α->Bool
 | _,[]=>true
 | i,x::l=>q i x&&fO q (i+1) l
theorem Bw {α:Type}(q:α->Bool):∀ (l:List α) (i:Nat),fO (λ_ x=>q x) i l=l.all q
 | [],_=>rfl
 | x::l,i=>by simp [fO,Bw q l]
theorem pO {keep:List Nat}{body:QC}{α:Type}(l:List α)(q:Nat->α->Bool)(env:Nat->EA)(h:Hp)(R X:Ex×EA×Hp)
 (hr:∀ i x,l[i]?=some x->i<l.length->∀ W:EA->Hp->fM,dK keep W (Cd E T val body (bT keep (env i)) h)=cond (q i x) (W (env (i+1)) h) (some R))
 (he:∀ W:EA->Hp->fM,dK keep W (Cd E T val body (bT keep (env l.length)) h)=some X) :
 Cd E T val (.loop keep body) (env 0) h=some (cond (fO q 0 l) X R):=by
 have:∀ (m i:Nat),i+m=l.length->Cd E T val (.loop keep body) (env i) h=some (cond (fO q i (l.drop i)) X R):=by
  intro m;have key:=ay (E:=E) (T:=T) (val:=val) keep body;generalize Cd E T val (.loop keep body)=W at key ⊢
  induction m with
  | zero =>
   intro i hi;rw [key,show i=l.length by omega,he W,List.drop_length];rfl
  | succ m ih =>
   intro i hi;have hlt:i<l.length:=by omega
   rw [key,hr i _ (ac hlt) hlt W,ih (i+1) (by omega),ba hlt,fO];cases q i l[i]<;>simp
 simpa using this l.length 0 (by omega)
theorem cZ {keep:List Nat}{body:QC}{α:Type}(l:List α)(q:α->Bool)(env:Nat->EA)(h:Hp)(R X:Ex×EA×Hp)
 (hr:∀ i x,l[i]?=some x->i<l.length->∀ W:EA->Hp->fM,dK keep W (Cd E T val body (bT keep (env i)) h)=cond (q x) (W (env (i+1)) h) (some R))
 (he:∀ W:EA->Hp->fM,dK keep W (Cd E T val body (bT keep (env l.length)) h)=some X) :
 Cd E T val (.loop keep body) (env 0) h=some (cond (l.all q) X R):=by
 rw [pO l (λ_=>q) env h R X hr he,Bw]
end
def bu3:List (Nat×QF):=[(17,q35),(13,q38),(65,q89),(46,q95),(91,q97),(92,q98),(93,q99),(126,R7),(127,R8),(128,R9),(129,Sa),(130,Sb),(131,Sc),(132,Sd),(133,Sg),(189,qV),(186,Sz),(187,SA),(188,Ep),(190,SB),(191,SC),(192,SE),(221,Hw),(243,Hy),(244,Er),(245,KA),(246,Tq),(288,KD),(289,AR),(320,TD)]
def TX:FuncId->Option QF:=kN bu3
def aP (f:FuncId):Bool:=[17,13,65,46,91,92,93,126,127,128,129,130,132,133,189,186,187,188,192,221,243,244,245,246,288,289,320].any λn=>Nat.beq n f
variable {E:Calls'}
def pE (b:UInt8):Bool:=!((!((b.toNat:Int)==45))&&(decide ((b.toNat:Int)<48)||decide ((b.toNat:Int)>57))&&(decide ((b.toNat:Int)<97)||decide ((b.toNat:Int)>122)))
theorem ak0 (s:ByteArray)(hs:s.size<2 ^ 62):Cd E TX aP (.loop [0,3] tH) [(0,.d (.str s)),(3,.d (i64 ((0:Nat):Int)))] ⟨[],0⟩=some (cond (s.toList.all pE) (.exit 0,[],⟨[],0⟩) (.ret,[(2,bl false)],⟨[],0⟩)):=by
 have hsl:=fK s;refine cZ s.toList pE (λi=>[(0,.d (.str s)),(3,.d (i64 i))]) _ _ _ (λi b hb hi W=>?_) (λW=>?_)
 . have hx:=λh=>ic (h:=h) hb;have hw:=ax (show i<s.size by omega) hs;have h0:((i:Int)<s.size):=by omega
   by_cases c1:(b.toNat:Int)=45
   . simp [tH,hx,h0,hw,pE,c1]
   . by_cases c2:(b.toNat:Int)<48<;>by_cases c3:(b.toNat:Int)>57<;>by_cases c4:(b.toNat:Int)<97<;>by_cases c5:(b.toNat:Int)>122<;>first
      | (exfalso; omega)
      | simp [tH,hx,h0,hw,pE,c1,c2,c3,c4,c5]
 . simp [tH,hsl]
theorem zB (n:Nat):∀ (l:List UInt8) (i:Nat),i+l.length=n->kM n i l=(!(l.all pE)||(i==0&&l.head?==some 45)||l.getLast?==some 45)
 | [],i,_=>by simp [kM]
 | b::l,i,h=>by
  have hb:b.toNat<256:=b.toNat_lt;have h45:(b==45)=((b.toNat:Int)==45):=by
   rw [Bool.eq_iff_iff];simp only [beq_iff_eq];constructor
   . rintro rfl; rfl
   . intro h; exact UInt8.toNat_inj.1 (show b.toNat=45 by omega)
  rw [kM,zB n l (i+1) (by simp at h ⊢; omega)];simp only [cg] at h;cases l with
  | nil =>
   have e1:((i:Int)+1==n)=true:=by simp at h ⊢; omega
   simp only [yP,e1,pE,List.all_cons,List.all_nil,List.head?_cons,List.head?_nil,List.getLast?_singleton,List.getLast?_nil,Option.some_beq_some,h45];by_cases c1:(b.toNat:Int)=45
   . simp [c1]
   . by_cases c2:(b.toNat:Int)<48<;>by_cases c3:(b.toNat:Int)>57<;>by_cases c4:(b.toNat:Int)<97<;>by_cases c5:(b.toNat:Int)>122<;>first
      | (exfalso; omega)
      | (simp [c1,c2,c3,c4,c5]; try omega)
  | cons b' l' =>
   have e1:((i:Int)+1==n)=false:=by simp at h ⊢; omega
   have e2:(i+1==0)=false:=by simp
   have e3:((i:Int)==0)=(i==0):=by
    rw [Bool.eq_iff_iff]; simp
   rw [List.getLast?_cons_cons];simp only [yP,e1,e2,e3,pE,List.all_cons,List.head?_cons,Option.some_beq_some,h45];generalize (l'.all pE)=A;generalize ((b'::l').getLast?==some 45)=B;generalize (i==0)=I;by_cases c1:(b.toNat:Int)=45
   . cases I<;>simp [c1]
   . by_cases c2:(b.toNat:Int)<48<;>by_cases c3:(b.toNat:Int)>57<;>by_cases c4:(b.toNat:Int)<97<;>by_cases c5:(b.toNat:Int)>122<;>first
      | (exfalso; omega)
      | (simp [c1,c2,c3,c4,c5]; try omega)
theorem co0:TX 188=some Ep:=by kernel_rfl
theorem cl0:aP 188=true:=by kernel_rfl
theorem Cj (s:ByteArray):bf s=(decide ((s.size:Int)>=1)&&decide ((s.size:Int)<=20)&&!(s.toList.head?==some 45)&&!(s.toList.getLast?==some 45)&&s.toList.all pE):=by
 rw [bf,zB s.size s.toList 0 (by simp [fK])];generalize s.toList.all pE=A;generalize (s.toList.head?==some 45)=B;generalize (s.toList.getLast?==some 45)=C;generalize decide ((s.size:Int)>=1)=F;generalize decide ((s.size:Int)<=20)=G;cases A<;>cases B<;>cases C<;>cases F<;>cases G<;>rfl
theorem Px (b:UInt8):(some b==some 45)=((b.toNat:Int)==45):=by
 rw [Option.some_beq_some,Bool.eq_iff_iff];simp only [beq_iff_eq];constructor
 . rintro rfl; rfl
 . intro h; exact UInt8.toNat_inj.1 (show b.toNat=45 by omega)
theorem LX (s:ByteArray)(hs:s.size<=big)(h:Hp):Sm E TX aP 188 [.d (.str s)] h=some (bl (bf s),h):=by
 rw [aU co0 cl0,Cj];have hs2:s.size<2 ^ 62:=ce hs (by decide);have k1:=ak0 (E:=E) s hs2;have hsl:=fK s;by_cases c1:(s.size:Int)<1
 . simp [af,Ep,c1,show ¬ ((s.size:Int)>=1) from by omega]
 by_cases c2:(s.size:Int)>20
 . simp [af,Ep,c1,c2,show ¬ ((s.size:Int)<=20) from by omega]
 have h0:s.toList≠[]:=by intro h; rw [h] at hsl; simp at hsl; omega
 obtain ⟨b0,hb0⟩:∃ b,s.toList.head?=some b:=by
  cases hc:s.toList with
  | nil=>exact absurd hc h0
  | cons b l=>exact ⟨b,rfl⟩
 obtain ⟨b1,hb1⟩:∃ b,s.toList.getLast?=some b:=⟨_,List.getLast?_eq_some_getLast h0⟩;have hx0:∀ h,vK (.d (.str s)) (.d (i64 0)) h=some (.d (.int .u8 b0.toNat),h):=λh=>ic (k:=0) (by rw [← List.head?_eq_getElem?]; exact hb0);have hx1:∀ h,vK (.d (.str s)) (.d (i64 ((s.size:Int)-1))) h=some (.d (.int .u8 b1.toNat),h):=λh=>by
  have:=ic (k:=s.size-1) (h:=h) (by rw [← hsl,← List.getLast?_eq_getElem?]; exact hb1)
  rwa [show ((s.size-1:Nat):Int)=(s.size:Int)-1 by omega] at this
 have hw:wrap .i64 ((s.size:Int)-1)=(s.size:Int)-1:=by rw [wrap64]<;>omega
 rw [hb0,hb1,Px,Px];by_cases c3:(b0.toNat:Int)=45
 . simp [af,Ep,c1,c2,c3,hx0,hw]
 by_cases c4:(b1.toNat:Int)=45
 . simp [af,Ep,c1,c2,c3,c4,hx0,hx1,hw]
 simp at k1;simp [af,Ep,c1,c2,c3,c4,hx0,hx1,hw];rw [aj];simp [k1];cases s.toList.all pE<;>simp [show ((s.size:Int)>=1) from by omega,show ((s.size:Int)<=20) from by omega]
theorem cn8:TX 186=some Sz:=by kernel_rfl
theorem ck8:aP 186=true:=by kernel_rfl
theorem aq4 (a b:ByteArray)(ha:a.size<=big)(hb:b.size<=big)(h:Hp):Sm E TX aP 186 [ag [.str a,.str b]] h=some (bl (bf a&&bf b),h):=by
 rw [aU cn8 ck8];have h1:=LX (E:=E) a ha;have h2:=LX (E:=E) b hb;cases hl:bf a<;>simp [af,Sz,h1,h2,hl,aB]
theorem yA:∀ l:List UInt8,ko l=!(l.all λb=>!qw b)
 | []=>rfl
 | b::l=>by
  rw [ko,yA l,List.all_cons];cases qw b<;>simp
theorem ak9 (t:Term)(ht:t.text.size<2 ^ 62):Cd E TX aP (.loop [1,3] nP) [(1,.ptr 0 0),(3,.d (i64 ((0:Nat):Int)))] ⟨[.cells (t.c.map .d)],0⟩=some (cond (t.text.toList.all λb=>!qw b) (.exit 0,[],⟨[.cells (t.c.map .d)],0⟩) (.ret,[(2,bl false)],⟨[.cells (t.c.map .d)],0⟩)):=by
 have hsl:=fK t.text;refine cZ t.text.toList (λb=>!qw b) (λi=>[(1,.ptr 0 0),(3,.d (i64 i))]) _ _ _ (λi b hb hi W=>?_) (λW=>?_)
 . have hx:=λh=>ic (h:=h) hb;have hw:=ax (show i<t.text.size by omega) ht;have h0:((i:Int)<t.text.size):=by omega
   by_cases c1:(b.toNat:Int)<33
   . simp [nP,hx,h0,hw,qw,c1]
   by_cases c2:(b.toNat:Int)>126
   . simp [nP,hx,h0,hw,qw,c1,c2]
   by_cases c3:(b.toNat:Int)=42
   . simp [nP,hx,h0,hw,qw,c1,c2,c3]
   by_cases c4:(b.toNat:Int)=44<;>simp [nP,hx,h0,hw,qw,c1,c2,c3,c4]
 . simp [nP,hsl]
theorem cq2:TX 289=some AR:=by kernel_rfl
theorem cm5:aP 289=true:=by kernel_rfl
theorem QX (s:ByteArray):eqS s ⟨#[]⟩=((s.size:Int)==0):=by
 have hsl:=fK s;have h0:(⟨#[]⟩:ByteArray).toList=[]:=by rw [bR]
 rw [eqS,h0,Bool.eq_iff_iff];simp only [beq_iff_eq];constructor
 . intro h; rw [h] at hsl; simp at hsl; omega
 . intro h; exact List.length_eq_zero_iff.1 (by omega)
theorem av4 (t:Term)(ht:t.text.size<=big)(h:Hp):Sm E TX aP 289 [ag t.c] h=some (bl (fZ t),h):=by
 rw [aU cq2 cm5,fZ,yA,QX];have k1:=ak9 (E:=E) t (ce ht (by decide));have hsl:=fK t.text;simp at k1;obtain ⟨n,hn⟩:∃ n,(t.text.size:Int)=n:=⟨_,rfl⟩;rw [hn];by_cases c0:t.kind=4
 . by_cases c1:n=0
   . have:t.text.toList=[]:=List.length_eq_zero_iff.1 (by omega);simp [af,AR,hn,c0,c1,this]
   . simp [af,AR,hn,c0,c1]
 by_cases c1:t.kind<1
 . simp [af,AR,hn,c0,c1,show ¬ (1<=t.kind) from by omega]
 by_cases c2:t.kind>3
 . simp [af,AR,hn,c0,c1,c2,show ¬ (t.kind<=3) from by omega]
 by_cases c3:n=0
 . simp [af,AR,hn,c0,c1,c2,c3]
 by_cases c4:n>64
 . simp [af,AR,hn,c0,c1,c2,c3,c4,show ¬ (n<=64) from by omega]
 simp [af,AR,hn,c0,c1,c2,c3,c4];rw [aj];simp [k1];cases (t.text.toList.all λb=>!qw b)<;>simp [show (1<=t.kind) from by omega,show t.kind<=3 from by omega,show (n>=1) from by omega,show (n<=64) from by omega]
theorem ak6 (s:Sl Term)(hs:short s)(ht:∀ t∈s.l,t.text.size<=big):Cd E TX aP (.loop [0,3] wR) [(0,.d (s.d Term.c)),(3,.d (i64 ((0:Nat):Int)))] ⟨[],0⟩=some (cond (s.l.all fZ) (.exit 0,[(0,.d (s.d Term.c))],⟨[],0⟩) (.ret,[(2,bl false)],⟨[],0⟩)):=by
 refine cZ s.l fZ (λi=>[(0,.d (s.d Term.c)),(3,.d (i64 i))]) _ _ _ (λi t hb hi W=>?_) (λW=>?_)
 . have hx:=λh=>aA (z:=2) h hb (cells:=Term.c) rfl;have hw:=ax hi hs.lt;have h0:((i:Int)<s.l.length):=by omega
   have hc:=λh=>av4 (E:=E) t (ht t (cc hb)) h;cases hm:fZ t<;>simp [wR,hx,h0,hw,hc,hm]
 . simp [wR]
theorem cq0:TX 246=some Tq:=by kernel_rfl
theorem cm1:aP 246=true:=by kernel_rfl
theorem Gq (s:Sl Term)(hs:short s)(ht:∀ t∈s.l,t.text.size<=big)(h:Hp):Sm E TX aP 246 [.d (s.d Term.c)] h=some (bl (aT s),h):=by
 rw [aU cq0 cm1,aT];have k1:=ak6 (E:=E) s hs ht;simp at k1;simp [af,Tq];rw [aj];simp [k1];cases s.l.all fZ<;>simp
end
section
variable {E:Calls'}
def yL (a n:Nat):Bool:=a / 2 ^ (31-n) % 2==1
theorem zU (a:Nat)(h:a<4294967296):wrap .u32 (a:Int)=a:=by simp [wrap,IntKind.bits,IntKind.signed]; omega
theorem bf7 (a:Nat)(h:a<4294967296):bC .quo (.d (.int .u32 (a:Int))) (.d (.int .u32 2))=some (.int .u32 ((a / 2:Nat):Int)):=by
 have:(a:Int).tdiv 2=((a / 2:Nat):Int):=by
  rw [Int.tdiv_eq_ediv_of_nonneg (by omega)]; omega
 simp only [bC,fw,if_true];rw [if_neg (by decide),this,zU _ (by omega)]
theorem bf8 (a:Nat):bC .rem (.d (.int .u32 (a:Int))) (.d (.int .u32 2))=some (.int .u32 ((a % 2:Nat):Int)):=by
 have:(a:Int).tmod 2=((a % 2:Nat):Int):=by
  rw [Int.tmod_eq_emod_of_nonneg (by omega)]; omega
 simp only [bC,fw,if_true];rw [if_neg (by decide),this]
theorem al0:∀ (m a:Nat),m<=31->a<4294967296->Cd E TX aP (.loop [0,5] qm) [(0,.d (u32 (a:Int))),(5,.d (i64 ((31-m:Nat):Int)))] ⟨[],0⟩=some (.exit 0,[(0,.d (u32 ((a / 2 ^ m:Nat):Int)))],⟨[],0⟩):=by
 intro m;have key:=ay (E:=E) (T:=TX) (val:=aP) [0,5] qm;generalize Cd E TX aP (.loop [0,5] qm)=W at key ⊢
 induction m with
 | zero =>
  intro a _ _;rw [key];simp [qm]
 | succ m ih =>
  intro a hm ha;have hlt:((31-(m+1):Nat):Int)<31:=by omega
  have hw:wrap .i64 (((31-(m+1):Nat):Int)+1)=((31-m:Nat):Int):=by rw [wrap64]<;>omega
  have hq:=bf7 a ha;have k:=ih (a / 2) (by omega) (by omega);rw [Nat.div_div_eq_div_mul,show 2 * 2 ^ m=2 ^ (m+1) by rw [Nat.pow_succ]; omega] at k;rw [key,← k];generalize ((31-(m+1):Nat):Int)=j at *;generalize ((a / 2:Nat):Int)=a2 at *;simp [qm,hlt,hq,hw]
theorem cq3:TX 320=some TD:=by kernel_rfl
theorem cm7:aP 320=true:=by kernel_rfl
theorem aw1 (a n:Nat)(ha:a<4294967296)(hn:n<=31)(h:Hp):Sm E TX aP 320 [.d (u32 (a:Int)),.d (i64 (n:Int))] h=some (bl (yL a n),h):=by
 have k:=al0 (E:=E) (31-n) a (by omega) ha;rw [show 31-(31-n)=n by omega] at k;have hr:=bf8 (a / 2 ^ (31-n));rw [aU cq3 cm7];have he:((((a / 2 ^ (31-n) % 2:Nat):Int)==1))=yL a n:=by
  unfold yL;rw [Bool.eq_iff_iff];simp only [beq_iff_eq];omega
 generalize ((a / 2 ^ (31-n) % 2:Nat):Int)=y at *;generalize ((a / 2 ^ (31-n):Nat):Int)=z at *;simp [af,TD];rw [aj];simp [k,hr,he]
theorem zC:∀ n,n<33->∀ i,i<32->(BitVec.ofInt 32 (sK (n:Nat))).getLsbD i=decide (32-n<=i):=by decide +kernel
theorem Gu (a:Nat)(ha:a<4294967296)(n:Nat)(hn:n<=32):(rT .u32 (a:Int) (sK (n:Nat))==0)=(List.range (32-n)).all λj=>!yL a (n+j):=by
 rw [rT,zU _ (BitVec.isLt _),Bool.eq_iff_iff];simp only [beq_iff_eq,cj,List.mem_range,Bool.not_eq_true'];have hb:∀ i,i<32->(BitVec.ofInt 32 (a:Int)).getLsbD i=a.testBit i:=λi hi=>by
  rw [BitVec.ofInt_natCast,BitVec.getLsbD_ofNat]; simp [hi]
 have hbit:∀ j,n+j<=31->yL a (n+j)=a.testBit (31-(n+j)):=λj hj=>by
  rw [yL,Nat.testBit_eq_decide_div_mod_eq,Bool.eq_iff_iff]; simp
 constructor
 . intro h j hj;have h0:(BitVec.ofInt 32 (a:Int) &&& ~~~ BitVec.ofInt 32 (sK (n:Nat)))=0#32:=BitVec.eq_of_toNat_eq (by
    have h':(BitVec.ofInt 32 (a:Int) &&& ~~~ BitVec.ofInt 32 (sK (n:Nat))).toNat=0:=by exact_mod_cast h
    rw [h']; rfl)
   have h1:=congrArg (λx=>BitVec.getLsbD x (31-(n+j))) h0;simp only [BitVec.getLsbD_and,BitVec.getLsbD_not,BitVec.getLsbD_zero,zC n (by omega) _ (show 31-(n+j)<32 by omega),hb _ (show 31-(n+j)<32 by omega)] at h1;rw [hbit j (by omega)];have e1:decide (31-(n+j)<32)=true:=by simp; omega
   have e2:decide (32-n<=31-(n+j))=false:=by simp; omega
   rw [e1,e2] at h1;simpa using h1
 . intro h;have:(BitVec.ofInt 32 (a:Int) &&& ~~~ BitVec.ofInt 32 (sK (n:Nat)))=0#32:=by
    apply BitVec.eq_of_getLsbD_eq;intro i hi;simp only [BitVec.getLsbD_and,BitVec.getLsbD_not,BitVec.getLsbD_zero,zC n (by omega) _ hi,hb _ hi];by_cases hin:32-n<=i
    . simp [hin]
    . have h2:=h (31-n-i) (by omega);rw [hbit _ (by omega),show 31-(n+(31-n-i))=i by omega] at h2;simp [h2]
   show ((BitVec.ofInt 32 (a:Int) &&& ~~~ BitVec.ofInt 32 (sK (n:Nat))).toNat:Int)=0;rw [this]; rfl
theorem ak8 (a n:Nat)(ha:a<4294967296)(hn:n<=32):Cd E TX aP (.loop [1,3] wS) [(1,.ptr 0 0),(3,.d (i64 ((n+0:Nat):Int)))] ⟨[.cells [.d (u32 (a:Int)),.d (i64 (n:Int))]],0⟩=some (cond ((List.range (32-n)).all λj=>!yL a (n+j)) (.exit 0,[],⟨[.cells [.d (u32 (a:Int)),.d (i64 (n:Int))]],0⟩) (.ret,[(2,bl false)],⟨[.cells [.d (u32 (a:Int)),.d (i64 (n:Int))]],0⟩)):=by
 refine cZ (List.range (32-n)) (λj=>!yL a (n+j)) (λi=>[(1,.ptr 0 0),(3,.d (i64 ((n+i:Nat):Int)))]) _ _ _ (λi x hx hi W=>?_) (λW=>?_)
 . have hi':i<32-n:=by simpa using hi
   have hx':x=i:=by rw [List.getElem?_range hi'] at hx; exact (co hx).symm
   subst hx';have hw:wrap .i64 (((n+x:Nat):Int)+1)=((n+(x+1):Nat):Int):=by rw [wrap64]<;>omega
   have h0:((n+x:Nat):Int)<32:=by omega
   have hc:=λh=>aw1 (E:=E) a (n+x) ha (by omega) h;generalize ((n+x:Nat):Int)=j at *;cases hm:yL a (n+x)<;>simp [wS,h0,hw,hc,hm]
 . have:¬ ((n+(List.range (32-n)).length:Nat):Int)<32:=by simp; omega
   generalize ((n+(List.range (32-n)).length:Nat):Int)=j at *;simp [wS,this]
theorem cq1:TX 288=some KD:=by kernel_rfl
theorem cm4:aP 288=true:=by kernel_rfl
theorem FO {n:Int}(h:Inr .u32 n):0<=n/\n<4294967296:=by
 simp [Inr,Lit.wf,IntKind.min,IntKind.max,IntKind.bits,IntKind.signed] at h;omega
theorem av3 (c:Cidr)(hc:Inr .u32 c.addr)(h:Hp):Sm E TX aP 288 [ag c.c] h=some (bl (iU c),h):=by
 obtain ⟨a0,a1⟩:=FO hc;obtain ⟨addr,bits⟩:=c;dsimp only at a0 a1;obtain ⟨a,rfl⟩:=Int.eq_ofNat_of_zero_le a0;rw [aU cq1 cm4,iU];dsimp only;by_cases c1:bits<0
 . simp [af,KD,c1,Cidr.c,show ¬ (bits>=0) from by omega]
 by_cases c2:bits>32
 . simp [af,KD,c1,c2,Cidr.c,show ¬ (bits<=32) from by omega]
 obtain ⟨n,rfl⟩:=Int.eq_ofNat_of_zero_le (show 0<=bits by omega);have k:=ak8 (E:=E) a n (by omega) (by omega);rw [Gu a (by omega) n (by omega)];rw [Nat.add_zero] at k;simp [af,KD,c1,c2,Cidr.c,show ((n:Int)<=32) from by omega];rw [aj];generalize ((List.range (32-n)).all λj=>!yL a (n+j))=A at *;simp [k];cases A<;>simp
def moreL:List UInt8:=[33,35,36,37,38,39,42,43,45,46,94,95,96,124,126]
def hdB (b:UInt8):Bool:=(decide ((b.toNat:Int)>=97)&&decide ((b.toNat:Int)<=122))||(decide ((b.toNat:Int)>=48)&&decide ((b.toNat:Int)<=57))
def hdA (b:UInt8):Bool:=hdB b||moreL.any λc=>(b.toNat:Int)==c.toNat
theorem MP {k:Nat}{c:UInt8}(hk:moreL[k]?=some c)(h:Hp):vK (.d (.str ⟨#[33,35,36,37,38,39,42,43,45,46,94,95,96,124,126]⟩)) (.d (.int .i64 k)) h=some (.d (.int .u8 c.toNat),h) :=
 ic (by rw [← hk,bR]; rfl)
theorem ak5 (s:ByteArray)(j:Nat)(b:UInt8)(hb:s.toList[j]?=some b):∀ (m i:Nat) (g:Bool),i+m=15 →
 Cd E TX aP (.loop [0,3,4,5] qi) [(0,.d (.str s)),(3,.d (i64 j)),(4,bl g),(5,.d (i64 i))] ⟨[],0⟩=some (.exit 2,[(0,.d (.str s)),(3,.d (i64 j)),(4,bl (g||(moreL.drop i).any λc=>(b.toNat:Int)==c.toNat))],⟨[],0⟩):=by
 intro m;have key:=ay (E:=E) (T:=TX) (val:=aP) [0,3,4,5] qi;generalize Cd E TX aP (.loop [0,3,4,5] qi)=W at key ⊢;have hx:=λh=>ic (h:=h) hb
 induction m with
 | zero =>
  intro i g hi;have:i=15:=by omega
  subst this;rw [key];simp [qi,moreL]
 | succ m ih =>
  intro i g hi;have hlt:i<moreL.length:=by simp [moreL]; omega
  have h0:((i:Int)<15):=by omega
  have hw:wrap .i64 ((i:Int)+1)=((i+1:Nat):Int):=by rw [wrap64]<;>omega
  have hc:=MP (ac hlt);rw [key,ba hlt,List.any_cons];generalize moreL[i]=c at *;have k1:=ih (i+1) (g||((b.toNat:Int)==c.toNat)) (by omega);rw [Bool.or_assoc] at k1;rw [← k1];cases g<;>simp [qi,h0,hw,hx,hc]
theorem al7 (s:ByteArray)(hs:s.size<2 ^ 62):Cd E TX aP (.loop [0,3] wQ) [(0,.d (.str s)),(3,.d (i64 ((0:Nat):Int)))] ⟨[],0⟩=some (cond (s.toList.all hdA) (.exit 0,[],⟨[],0⟩) (.ret,[(2,bl false)],⟨[],0⟩)):=by
 have hsl:=fK s;refine cZ s.toList hdA (λi=>[(0,.d (.str s)),(3,.d (i64 i))]) _ _ _ (λi b hb hi W=>?_) (λW=>?_)
 . have hx:=λh=>ic (h:=h) hb;have hw:=ax (show i<s.size by omega) hs;have h0:((i:Int)<s.size):=by omega
   have k:=ak5 (E:=E) s i b hb 15 0 (hdB b) (by omega);simp only [List.drop_zero] at k;have hk:(hdB b||moreL.any λc=>(b.toNat:Int)==c.toNat)=hdA b:=rfl;rw [hk] at k;generalize hdA b=G at *;unfold hdB at k;simp only [Int.natCast_zero] at k;by_cases c1:(b.toNat:Int)>=97<;>by_cases c2:(b.toNat:Int)<=122<;>by_cases c3:(b.toNat:Int)>=48<;>by_cases c4:(b.toNat:Int)<=57<;>first
    | (exfalso; omega)
    | (simp [c1,c2,c3,c4] at k
       simp [wQ,hx,h0,hw,c1,c2,c3,c4];rw [aj];simp [k];cases G<;>simp [hw])
 . simp [wQ,hsl]
theorem Mw:∀ n,n<256->(EY (UInt8.ofNat n)==0)=!hdA (UInt8.ofNat n):=by decide +kernel
theorem Pi (b:UInt8):(EY b==0)=!hdA b:=by
 have:=Mw b.toNat b.toNat_lt;simpa using this
theorem vM:∀ l:List UInt8,kC l=!(l.all hdA)
 | []=>rfl
 | b::l=>by
  rw [kC,vM l,Pi,List.all_cons];cases hdA b<;>simp
theorem cp9:TX 245=some KA:=by kernel_rfl
theorem cm0:aP 245=true:=by kernel_rfl
theorem au4 (s:ByteArray)(hs:s.size<=big)(h:Hp):Sm E TX aP 245 [.d (.str s)] h=some (bl (iY s),h):=by
 rw [aU cp9 cm0,iY,vM];have k1:=al7 (E:=E) s (ce hs (by decide));simp at k1;by_cases c1:(s.size:Int)<1
 . simp [af,KA,c1,show ¬ ((s.size:Int)>=1) from by omega]
 by_cases c2:(s.size:Int)>64
 . simp [af,KA,c1,c2,show ¬ ((s.size:Int)<=64) from by omega]
 simp [af,KA,c1,c2];rw [aj];simp [k1];cases s.toList.all hdA<;>simp [show ((s.size:Int)>=1) from by omega,show ((s.size:Int)<=64) from by omega]
end
section
variable {E:Calls'}
theorem ak3 (s:Source)(hs:s.wf big):Cd E TX aP (.loop [1,3] wP) [(1,.ptr 0 0),(3,.d (i64 ((0:Nat):Int)))] ⟨[.cells (s.c.map .d)],0⟩=some (cond (s.nets.l.all iU) (.exit 0,[],⟨[.cells (s.c.map .d)],0⟩) (.ret,[(2,bl false)],⟨[.cells (s.c.map .d)],0⟩)):=by
 refine cZ s.nets.l iU (λi=>[(1,.ptr 0 0),(3,.d (i64 i))]) _ _ _ (λi x hx hi W=>?_) (λW=>?_)
 . have hn:=λh=>aA (z:=2) h hx (cells:=Cidr.c) rfl;have hw:=ax hi (fit.lt hs.2.2.1);have h0:((i:Int)<s.nets.l.length):=by omega
   have hc:=λh=>av3 (E:=E) x (hs.2.2.2 x (cc hx)).1 h;cases hm:iU x<;>simp [wP,hn,h0,hw,hc,hm]
 . simp [wP]
theorem cp7:TX 243=some Hy:=by kernel_rfl
theorem cl8:aP 243=true:=by kernel_rfl
theorem au2 (s:Source)(hs:s.wf big)(h:Hp):Sm E TX aP 243 [ag s.c] h=some (bl (bZ s),h):=by
 rw [aU cp7 cl8,bZ,kD];have k1:=ak3 (E:=E) s hs;have a1:=λh=>Gq (E:=E) s.names hs.1.1 (λx hx=>(hs.1.2 x hx).2) h;have a2:=λh=>Gq (E:=E) s.spaces hs.2.1.1 (λx hx=>(hs.2.1.2 x hx).2) h;simp at k1;generalize aT s.names=A at *;generalize aT s.spaces=B at *;generalize s.nets.l.all iU=C at *;cases A with
 | false=>simp [af,Hy,a1]
 | true =>
  cases B with
  | false=>simp [af,Hy,a1,a2]
  | true =>
   by_cases c1:(s.nets.l.length:Int)>6
   . simp [af,Hy,a1,a2,c1,show ¬ ((s.nets.l.length:Int)<=6) from by omega]
   . simp [af,Hy,a1,a2,c1,show ((s.nets.l.length:Int)<=6) from by omega];rw [aj];simp [k1];cases C<;>simp
def GX (l:List Int)(i:Nat)(x:Int):Bool:=eu x&&(l.take i).all λy=>!(y==x)
theorem ak4 (t:Target)(ht:t.wf big)(j:Nat)(x:Int)(hx:t.ports.l[j]?=some x)(hj:j<t.ports.l.length):Cd E TX aP (.loop [1,3,4] tK) [(1,.ptr 0 0),(3,.d (i64 (j:Int))),(4,.d (i64 ((0:Nat):Int)))] ⟨[.cells (t.c.map .d)],0⟩=some (cond ((t.ports.l.take j).all λy=>!(y==x)) (.exit 2,[(1,.ptr 0 0),(3,.d (i64 (j:Int)))],⟨[.cells (t.c.map .d)],0⟩) (.ret,[(2,bl false)],⟨[.cells (t.c.map .d)],0⟩)):=by
 have hlen:(t.ports.l.take j).length=j:=by simp; omega
 refine cZ (t.ports.l.take j) (λy=>!(y==x)) (λi=>[(1,.ptr 0 0),(3,.d (i64 (j:Int))),(4,.d (i64 i))]) _ _ _ (λi y hy hi W=>?_) (λW=>?_)
 . have hij:i<j:=by omega
   have hy':t.ports.l[i]?=some y:=by rw [List.getElem?_take] at hy; simpa [hij] using hy
   have hn:=λh=>aA (z:=1) h hy' (cells:=ig) rfl;have hm:=λh=>aA (z:=1) h hx (cells:=ig) rfl;have hw:=ax hij (Nat.lt_trans hj (fit.lt ht.1.1));have h0:((i:Int)<(j:Int)):=by omega
   by_cases he:y=x
   . subst he;simp [tK,hn,hm,h0,hw,ig]
   . simp [tK,hn,hm,h0,hw,he,ig]
 . simp only [hlen];simp [tK]
theorem al6 (t:Target)(ht:t.wf big):Cd E TX aP (.loop [1,3] qh) [(1,.ptr 0 0),(3,.d (i64 ((0:Nat):Int)))] ⟨[.cells (t.c.map .d)],0⟩=some (cond (fO (GX t.ports.l) 0 t.ports.l) (.exit 0,[],⟨[.cells (t.c.map .d)],0⟩) (.ret,[(2,bl false)],⟨[.cells (t.c.map .d)],0⟩)):=by
 refine pO t.ports.l (GX t.ports.l) (λi=>[(1,.ptr 0 0),(3,.d (i64 i))]) _ _ _ (λi x hx hi W=>?_) (λW=>?_)
 . have hn:=λh=>aA (z:=1) h hx (cells:=ig) rfl;have hw:=ax hi (fit.lt ht.1.1);have h0:((i:Int)<t.ports.l.length):=by omega
   have k:=ak4 (E:=E) t ht i x hx hi;simp only [Int.natCast_zero] at k;unfold GX eu;generalize ((t.ports.l.take i).all λy=>!(y==x))=G at *;by_cases c1:x<1
   . simp [qh,hn,h0,c1,ig,show ¬ (x>=1) from by omega]
   by_cases c2:x>65535
   . simp [qh,hn,h0,c1,c2,ig,show ¬ (x<=65535) from by omega]
   have e1:decide (x>=1)=true:=by simp; omega
   have e2:decide (x<=65535)=true:=by simp; omega
   simp [qh,hn,h0,c1,c2,ig];rw [aj];simp [k];rw [show decide (1<=x)=true from e1,show decide (x<=65535)=true from e2];cases G<;>simp [hw]
 . simp [qh]
theorem BA {l:List Int}:∀ (m:List Int) (i:Nat),l.drop i=m->(fO (GX l) i m=true↔m.all eu=true/\∀ k,i<=k->∀ (hk:k<l.length),∀ j,∀ (hj:j<k),l[j]≠l[k])
 | [],i,h=>by
  have:l.length<=i:=by simpa using h
  refine ⟨λ_=>⟨rfl,λk hik hk=>?_⟩,λ_=>rfl⟩;omega
 | x::m,i,h=>by
  have hi:i<l.length:=by
   obtain h1 | h1:=cm i l.length
   . exact h1
   . rw [bb h1] at h; cases h
  have hx:l[i]=x/\l.drop (i+1)=m:=by
   rw [ba hi] at h;exact ⟨(List.cons.inj h).1,(List.cons.inj h).2⟩
  rw [fO,aE,BA m (i+1) hx.2,List.all_cons,GX];simp only [aE,cj,Bool.not_eq_true',beq_eq_false_iff_ne];constructor
  . rintro ⟨⟨p1,p2⟩,p3,p4⟩;refine ⟨⟨p1,p3⟩,λk hik hk j hj=>?_⟩;by_cases hki:k=i
    . subst hki;rw [hx.1];exact p2 l[j] (List.mem_take_iff_getElem.2 ⟨j,by omega,rfl⟩)
    . exact p4 k (by omega) hk j hj
  . rintro ⟨⟨p1,p3⟩,p4⟩;refine ⟨⟨p1,λy hy=>?_⟩,p3,λk hik hk j hj=>p4 k (by omega) hk j hj⟩;obtain ⟨j,hj,rfl⟩:=List.mem_take_iff_getElem.1 hy;rw [← hx.1];exact p4 i (br _) hi j (by omega)
theorem BN:∀ {l:List Int},l.Pairwise (λa b=>a<=b)->l≠[]->(1+chg l=l.length↔l.Nodup)
 | [],_,h=>absurd rfl h
 | [x],_,_=>by simp [chg]
 | x::y::l,hp,_=>by
  have ih:=BN (l:=y::l) (List.Pairwise.of_cons hp) (by simp);have hle:=oJ (y::l);simp only [cg] at ih hle ⊢;simp only [chg];by_cases he:x=y
  . subst he;simp only [if_true,Nat.zero_add];constructor
    . intro h; omega
    . intro h; exact absurd (by simp) (List.nodup_cons.1 h).1
  . simp only [if_neg he];have hxy:x<y:=by have:=(List.pairwise_cons.1 hp).1 y (by simp); omega
    constructor
    . intro h;refine List.nodup_cons.2 ⟨λhm=>?_,ih.1 (by omega)⟩;obtain h1 | h1:=List.mem_cons.1 hm
      . exact he h1
      . have:=(List.pairwise_cons.1 (List.Pairwise.of_cons hp)).1 x h1;omega
    . intro h;have:=ih.2 (List.nodup_cons.1 h).2;omega
theorem Ki (l:List Int):((qK (bM l):Int)==(l.length:Int))=decide l.Nodup:=by
 have hp:(bM l).Perm l:=List.mergeSort_perm _ _;have hs:(bM l).Pairwise (λa b=>a<=b):=by
  have:=List.pairwise_mergeSort (le:=λx y:Int=>decide (x<=y)) (λa b c h1 h2=>by simp at *; omega) (λa b=>by simp; omega) l;exact this.imp (λh=>by simpa using h)
 rw [Bool.eq_iff_iff];simp only [beq_iff_eq,bw];rw [← hp.length_eq,← hp.nodup_iff];generalize bM l=z at *;unfold qK;by_cases h0:z=[]
 . subst h0; simp
 . rw [if_neg h0,← BN hs h0]; omega
theorem Ip (l:List Int):fO (GX l) 0 l=(l.all eu&&((qK (bM l):Int)==(l.length:Int))):=by
 rw [Ki,Bool.eq_iff_iff,BA l 0 rfl,aE,bw];refine and_congr_right λ_=>?_;rw [List.nodup_iff_pairwise_ne,List.pairwise_iff_getElem];constructor
 . intro h i j hi hj hij;exact h j (Nat.zero_le _) hj i hij
 . intro h k _ hk j hj;exact h j k (by omega) hk hj
theorem cp8:TX 244=some Er:=by kernel_rfl
theorem cl9:aP 244=true:=by kernel_rfl
theorem au3 (t:Target)(ht:t.wf big)(h:Hp):Sm E TX aP 244 [ag t.c] h=some (bl (aS t),h):=by
 have k1:=al6 (E:=E) t ht;rw [Ip] at k1;rw [aU cp8 cl9,aS];have a1:=λh=>Gq (E:=E) t.methods ht.2.1.1 (λx hx=>(ht.2.1.2 x hx).2) h;have a2:=λh=>Gq (E:=E) t.paths ht.2.2.1.1 (λx hx=>(ht.2.2.1.2 x hx).2) h;have a3:=λh=>Gq (E:=E) t.hosts ht.2.2.2.1 (λx hx=>(ht.2.2.2.2 x hx).2) h;generalize ((qK (bM t.ports.l):Int)==(t.ports.l.length:Int))=D at *;simp at k1;generalize aT t.methods=A at *;generalize aT t.paths=B at *;generalize aT t.hosts=C at *;generalize t.ports.l.all eu=F at *;cases A with
 | false=>simp [af,Er,a1]
 | true =>
  cases B with
  | false=>simp [af,Er,a1,a2]
  | true =>
   cases C with
   | false=>simp [af,Er,a1,a2,a3]
   | true =>
    by_cases c1:(t.ports.l.length:Int)>6
    . simp [af,Er,a1,a2,a3,c1,show ¬ ((t.ports.l.length:Int)<=6) from by omega]
    . simp [af,Er,a1,a2,a3,c1,show ((t.ports.l.length:Int)<=6) from by omega];rw [aj];simp [k1];cases F<;>cases D<;>simp
section
variable (r:Rule)(hr:r.wf big)
include hr
theorem ah9:Cd E TX aP (.loop [1,3] wN) [(1,.ptr 0 0),(3,.d (i64 ((0:Nat):Int)))] ⟨[.cells (r.c.map .d)],0⟩=some (cond (r.frm.l.all bZ) (.exit 0,[(1,.ptr 0 0)],⟨[.cells (r.c.map .d)],0⟩) (.ret,[(2,bl false)],⟨[.cells (r.c.map .d)],0⟩)):=by
 refine cZ r.frm.l bZ (λi=>[(1,.ptr 0 0),(3,.d (i64 i))]) _ _ _ (λi x hx hi W=>?_) (λW=>?_)
 . have hn:=λh=>aA (z:=3) h hx (cells:=Source.c) rfl;have hw:=ax hi (fit.lt hr.1.1);have h0:((i:Int)<r.frm.l.length):=by omega
   have hc:=λh=>au2 (E:=E) x (hr.1.2 x (cc hx)) h;cases hm:bZ x<;>simp [wN,hn,h0,hw,hc,hm]
 . simp [wN]
theorem ai0:Cd E TX aP (.loop [1,4] wO) [(1,.ptr 0 0),(4,.d (i64 ((0:Nat):Int)))] ⟨[.cells (r.c.map .d)],0⟩=some (cond (r.to.l.all aS) (.exit 2,[(1,.ptr 0 0)],⟨[.cells (r.c.map .d)],0⟩) (.ret,[(2,bl false)],⟨[.cells (r.c.map .d)],0⟩)):=by
 refine cZ r.to.l aS (λi=>[(1,.ptr 0 0),(4,.d (i64 i))]) _ _ _ (λi x hx hi W=>?_) (λW=>?_)
 . have hn:=λh=>aA (z:=4) h hx (cells:=Target.c) rfl;have hw:=ax hi (fit.lt hr.2.1.1);have h0:((i:Int)<r.to.l.length):=by omega
   have hc:=λh=>au3 (E:=E) x (hr.2.1.2 x (cc hx)) h;cases hm:aS x<;>simp [wO,hn,h0,hw,hc,hm]
 . simp [wO]
theorem ai2:Cd E TX aP (.loop [1,5] qg) [(1,.ptr 0 0),(5,.d (i64 ((0:Nat):Int)))] ⟨[.cells (r.c.map .d)],0⟩=some (cond (r.whn.l.all gX) (.exit 4,[],⟨[.cells (r.c.map .d)],0⟩) (.ret,[(2,bl false)],⟨[.cells (r.c.map .d)],0⟩)):=by
 refine cZ r.whn.l gX (λi=>[(1,.ptr 0 0),(5,.d (i64 i))]) _ _ _ (λi x hx hi W=>?_) (λW=>?_)
 . have hn:=λh=>aA (z:=2) h hx (cells:=When.c) rfl;have hw:=ax hi (fit.lt hr.2.2.1);have h0:((i:Int)<r.whn.l.length):=by omega
   have hwf:=hr.2.2.2 x (cc hx);have hc:=λh=>au4 (E:=E) x.head hwf.1 h;have hd:=λh=>Gq (E:=E) x.terms hwf.2.1 (λy hy=>(hwf.2.2 y hy).2) h;unfold gX;generalize iY x.head=A at *;generalize aT x.terms=B at *;cases A with
   | false=>simp [qg,hn,h0,hc]
   | true =>
    by_cases c1:(x.terms.l.length:Int)=0
    . simp [qg,hn,h0,hc,c1]
    . have c2:(x.terms.l.length:Int)>0:=by omega
      have c3:0<x.terms.l.length:=by omega
      have c4:x.terms.l≠[]:=by intro h; rw [h] at c2; simp at c2
      cases B<;>simp [qg,hn,h0,hc,hd,hw,c1,c2,c3,c4]
 . simp [qg]
end
theorem cp0:TX 221=some Hw:=by kernel_rfl
theorem cl4:aP 221=true:=by kernel_rfl
theorem as4 (r:Rule)(hr:r.wf big)(h:Hp):Sm E TX aP 221 [ag r.c] h=some (bl (fe r),h):=by
 have k1:=ah9 (E:=E) r hr;have k2:=ai0 (E:=E) r hr;have k3:=ai2 (E:=E) r hr;rw [aU cp0 cl4,fe];simp at k1 k2 k3;generalize r.frm.l.all bZ=A at *;generalize r.to.l.all aS=B at *;generalize r.whn.l.all gX=C at *;by_cases c1:(r.frm.l.length:Int)>3
 . simp [af,Hw,c1,show ¬ ((r.frm.l.length:Int)<=3) from by omega]
 by_cases c2:(r.to.l.length:Int)>3
 . simp [af,Hw,c1,c2,show ¬ ((r.to.l.length:Int)<=3) from by omega]
 by_cases c3:(r.whn.l.length:Int)>3
 . simp [af,Hw,c1,c2,c3,show ¬ ((r.whn.l.length:Int)<=3) from by omega]
 simp [af,Hw,c1,c2,c3,show ((r.frm.l.length:Int)<=3) from by omega,show ((r.to.l.length:Int)<=3) from by omega,show ((r.whn.l.length:Int)<=3) from by omega];rw [aj];simp [k1];cases A<;>simp;rw [aj];simp [k2];cases B<;>simp;rw [aj];simp [k3];cases C<;>simp
theorem aj8 (p:Pol)(hp:p.wf big):Cd E TX aP (.loop [1,3] wM) [(1,.ptr 0 0),(3,.d (i64 ((0:Nat):Int)))] ⟨[.cells (p.c.map .d)],0⟩=some (cond (p.rules.l.all fe) (.exit 0,[],⟨[.cells (p.c.map .d)],0⟩) (.ret,[(2,bl false)],⟨[.cells (p.c.map .d)],0⟩)):=by
 refine cZ p.rules.l fe (λi=>[(1,.ptr 0 0),(3,.d (i64 i))]) _ _ _ (λi x hx hi W=>?_) (λW=>?_)
 . have hn:=λh=>aA (z:=3) h hx (cells:=Rule.c) rfl;have hw:=ax hi (fit.lt hp.2.2.2.2.1);have h0:((i:Int)<p.rules.l.length):=by omega
   have hc:=λh=>as4 (E:=E) x (hp.2.2.2.2.2 x (cc hx)) h;cases hm:fe x<;>simp [wM,hn,h0,hw,hc,hm]
 . simp [wM]
theorem cn7:TX 189=some qV:=by kernel_rfl
theorem ck6:aP 189=true:=by kernel_rfl
theorem ap1 (p:Pol)(hp:p.wf big)(h:Hp):Sm E TX aP 189 [ag p.c] h=some (bl (fB p),h):=by
 have k1:=aj8 (E:=E) p hp;have k2:=λh=>LX (E:=E) p.ns hp.2.1 h;rw [aU cn7 ck6,fB];simp at k1;generalize p.rules.l.all fe=A at *;generalize bf p.ns=B at *;by_cases c1:p.id<1
 . simp [af,qV,c1,show ¬ (p.id>=1) from by omega]
 by_cases c2:p.id>4611686018427387903
 . simp [af,qV,c1,c2,show ¬ (p.id<=4611686018427387903) from by omega]
 have e1:p.id>=1:=by omega
 have e2:p.id<=4611686018427387903:=by omega
 cases c3:eqS p.ns ⟨#[]⟩ with
 | false =>
  cases B with
  | false=>simp [af,qV,c1,c2,c3,k2]
  | true =>
   by_cases c4:p.service>4611686018427387903
   . simp [af,qV,c1,c2,c3,k2,c4,show ¬ (p.service<=4611686018427387903) from by omega]
   by_cases c5:p.deny<0
   . simp [af,qV,c1,c2,c3,k2,c4,c5,show ¬ (p.deny=0) from by omega,show ¬ (p.deny=1) from by omega]
   by_cases c6:p.deny>1
   . simp [af,qV,c1,c2,c3,k2,c4,c5,c6,show ¬ (p.deny=0) from by omega,show ¬ (p.deny=1) from by omega]
   have e6:((p.deny==0)||(p.deny==1))=true:=by simp; omega
   have e4:p.service<=4611686018427387903:=by omega
   by_cases c7:(p.rules.l.length:Int)>6
   . simp [af,qV,c1,c2,c3,k2,c4,c5,c6,c7,show ¬ ((p.rules.l.length:Int)<=6) from by omega]
   have e7:(p.rules.l.length:Int)<=6:=by omega
   rw [e6];simp [af,qV,c1,c2,c3,k2,c4,c5,c6,c7,e1,e2,e4,e7];rw [aj];simp [k1];cases A<;>simp
 | true =>
  by_cases c4:p.service>4611686018427387903
  . simp [af,qV,c1,c2,c3,k2,c4,show ¬ (p.service<=4611686018427387903) from by omega]
  by_cases c5:p.deny<0
  . simp [af,qV,c1,c2,c3,k2,c4,c5,show ¬ (p.deny=0) from by omega,show ¬ (p.deny=1) from by omega]
  by_cases c6:p.deny>1
  . simp [af,qV,c1,c2,c3,k2,c4,c5,c6,show ¬ (p.deny=0) from by omega,show ¬ (p.deny=1) from by omega]
  have e6:((p.deny==0)||(p.deny==1))=true:=by simp; omega
  have e4:p.service<=4611686018427387903:=by omega
  by_cases c7:(p.rules.l.length:Int)>6
  . simp [af,qV,c1,c2,c3,k2,c4,c5,c6,c7,show ¬ ((p.rules.l.length:Int)<=6) from by omega]
  have e7:(p.rules.l.length:Int)<=6:=by omega
  rw [e6];simp [af,qV,c1,c2,c3,k2,c4,c5,c6,c7,e1,e2,e4,e7];rw [aj];simp [k1];cases A<;>simp
end
