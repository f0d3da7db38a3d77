/- slices.Compact at numbers, on a row of one's own. -/
import Derived.Test.YtmcchclfpneglaaGreatMa
import Derived.Test.YtmcchclfpneglaaGreatSx
import Derived.KernelRfl
set_option maxRecDepth 100000
set_option linter.unusedVariables false
set_option linter.unusedSimpArgs false
namespace Go.Proofs.YtmcchclfpneglaaGreat
open IntKind (wrap)
section
def chg:List Int->Nat
 | x::y::l=>(if x=y then 0 else 1)+chg (y::l)
 | _=>0
theorem vO:∀ l:List Int,chg l<=l.length-1
 | []=>by simp [chg]
 | [_]=>by simp [chg]
 | x::y::l=>by
  have:=vO (y::l);simp only [chg,cf] at this ⊢;split<;>omega
theorem AA {zs:List Int}{i:Nat}(h:i+1<zs.length):chg (zs.drop i)=(if zs[i]=zs[i+1] then 0 else 1)+chg (zs.drop (i+1)):=by
 rw [aw (show i<zs.length by omega),aw h];simp only [chg]
def pQ (zs:List Int):Nat:=if zs=[] then 0 else 1+chg zs
def iv (kd:IntKind)(z:Int):V:=.d (.int kd z)
def Mr (bs:List Blk)(b:Nat)(cur:List V)(lo:Nat):Hp:=⟨bs.set b (.cells cur),lo⟩
section
variable {bs:List Blk}{b lo:Nat}{cur:List V}
theorem Cv (hb:b<bs.length):af (Mr bs b cur lo).bs b=some cur:=by simp [Mr,af,hb]
theorem Ef (hb:b<bs.length){k:Nat}{v:V}(hk:cur[k]?=some v):ldv (Mr bs b cur lo) (.ptr b k) 1 true=some (v,Mr bs b cur lo):=by
 obtain ⟨h1,h2⟩:=bw.1 hk;have hs:sub cur k 1=some [v]:=by
  rw [eY,if_pos (by omega),aw h1,h2]; rfl
 rw [dD,get_eq,Cv hb];simp only [hs]; rfl
theorem R9 (hb:b<bs.length){k:Nat}{x:D}(hk:k<cur.length):stv (Mr bs b cur lo) (.ptr b k) (.d x) 1=some (.undef,Mr bs b (cur.set k (.d x)) (min lo b)):=by
 have hp:put cur k [V.d x]=some (cur.set k (.d x)):=by
  unfold put;rw [if_pos (by simp only [cf,cg]; omega),List.set_eq_take_append_cons_drop,if_pos hk]; simp
 have hg:=Cv (lo:=lo) (cur:=cur) hb;simp [stv,V.cells,storeAt,hg,hp];simp [Hp.set,Mr]
theorem jM {b o n z:Nat}{cap:Option Nat}{kd:IntKind}{i:Nat}{h:Hp}(hi:i<n):eP none z (.row b o n cap z) (.d (.int kd i)) h=some (.ptr b (o+i * z),h):=by
 simp [eP,hi]
end
section
variable {E:Calls'}{T:FuncId->Option QF}{val:FuncId->Bool}{kd:IntKind}
theorem Ob {bs:List Blk}{b:Nat}(hb:b<bs.length){zs:List Int}{cap cap2:Option Nat}(hn:zs.length<2 ^ 62){k0:Nat}(hk0:1<=k0)(hk1:k0<zs.length):∀ (m i k:Nat) (cur:List V) (lo:Nat),k0+i+m=zs.length->1<=i->k<k0+i->cur.length=zs.length->(∀ j (hj:j<zs.length),k<=j->cur[j]?=some (iv kd zs[j])) →
 ∃ cur' lo',Cd E T val (.loop [0,3,4,5] (vR kd)) [(0,.row b 0 zs.length cap 1),(3,.d (i64 k)),(4,.row b k0 (zs.length-k0) cap2 1),(5,.d (i64 i))] (Mr bs b cur lo) =
  some (.exit 2,[(0,.row b 0 zs.length cap 1),(3,.d (i64 (k+chg (zs.drop (k0+i-1)):Nat)))],Mr bs b cur' lo')/\cur'.length=zs.length/\(lo'=lo\/lo'=min lo b):=by
 intro m;have key:=aC (E:=E) (T:=T) (val:=val) [0,3,4,5] (vR kd);generalize Cd E T val (.loop [0,3,4,5] (vR kd))=W at key ⊢
 induction m with
 | zero =>
  intro i k cur lo hi h1 hk hl hc;have h0:chg (zs.drop (k0+i-1))=0:=by
   have:=vO (zs.drop (k0+i-1));simp only [List.length_drop] at this;omega
  refine ⟨cur,lo,?_,hl,.inl rfl⟩;rw [key,h0];simp [vR,show ¬ ((i:Int)<((zs.length-k0:Nat):Int)) from by omega]
 | succ m ih =>
  intro i k cur lo hi h1 hk hl hc;have hlt:i<zs.length-k0:=by omega
  have e1:=hc (k0+i) (by omega) (by omega);have e0:=hc (k0+i-1) (by omega) (by omega);have hd:=AA (zs:=zs) (i:=k0+i-1) (by omega);have hs:k0+i-1+1=k0+i:=by omega
  simp only [hs] at hd;rw [hd];have hw:=ak (show i<zs.length by omega) hn;have hwk:=ak (show k<zs.length by omega) hn;have hwm:wrap .i64 ((i:Int)-1)=((i-1:Nat):Int):=by rw [wrap64]<;>omega
  have i1:=fun h=>jM (b:=b) (o:=k0) (z:=1) (cap:=cap2) (kd:=.i64) (h:=h) hlt;have i0:=fun h=>jM (b:=b) (o:=k0) (z:=1) (cap:=cap2) (kd:=.i64) (h:=h) (show i-1<zs.length-k0 by omega);have ik:=fun h=>jM (b:=b) (o:=0) (z:=1) (cap:=cap) (kd:=.i64) (h:=h) (show k<zs.length by omega);simp only [Nat.mul_one,show k0+(i-1)=k0+i-1 by omega,Nat.zero_add] at i1 i0 ik;have l1:=Ef (lo:=lo) hb e1;have l0:=Ef (lo:=lo) hb e0;generalize zs[k0+i]'(by omega)=y at *;generalize zs[k0+i-1]'(by omega)=x at *;by_cases hxy:x=y
  · obtain ⟨cur',lo',k1,k2,k3⟩:=ih (i+1) k cur lo (by omega) (by omega) (by omega) hl hc;refine ⟨cur',lo',?_,k2,k3⟩;rw [key];simp only [hxy,if_true,Nat.zero_add];simp only [show k0+(i+1)-1=k0+i by omega] at k1;subst hxy;simp [vR,i1,i0,l1,l0,iv,hw,hwm,show ((i:Int)<((zs.length-k0:Nat):Int)) from by omega,-dD];simpa using k1
  · have st:=R9 (lo:=lo) (x:=.int kd y) hb (show k<cur.length by omega);obtain ⟨cur',lo',k1,k2,k3⟩:=ih (i+1) (k+1) (cur.set k (.d (.int kd y))) (min lo b) (by omega) (by omega) (by omega) (by simpa using hl) (by
     intro j hj hkj;rw [am (by omega)];exact hc j hj (by omega))
    refine ⟨cur',lo',?_,k2,by rcases k3 with k3 | k3<;>omega⟩;rw [key];simp only [hxy,if_false];simp only [show k0+(i+1)-1=k0+i by omega] at k1;have hyx:¬ y=x:=fun h=>hxy h.symm;simp [vR,i1,i0,ik,l1,l0,st,iv,hw,hwk,hwm,hyx,show ((i:Int)<((zs.length-k0:Nat):Int)) from by omega,-dD,-si];rw [show ((k:Int)+(1+(chg (zs.drop (k0+i)):Int)))=((k+1+chg (zs.drop (k0+i)):Nat):Int) by omega];simpa using k1
theorem HZ {h:Hp}{ev:X->V}{b n:Nat}{cap:Option Nat}{x:X}{k:Nat}(hx:ev x=.d (i64 k))(hk:k<n)(h1:1<=k):bP h ev .sl 1 (.row b 0 n cap 1) (some x) none none=some (.row b k (n-k) (cap.map (· - k)) 1):=by
 simp only [bP,cZ,hx];rw [if_pos (by omega)];simp only [Int.toNat_natCast];rw [if_pos ⟨by omega,by omega,trivial⟩,if_neg (by omega),if_pos hk]; simp
theorem Kn {C:Calls'}{bs:List Blk}{b lo:Nat}{cur:List V}(hb:b<bs.length){n k:Nat}{cap:Option Nat}{e:EA}{x:X}{zero:V}(he:x.ea e=.row b k (n-k) cap 1)(hc:cur.length=n)(hk:k<n) :
 ∃ cur',cur'.length=n/\opE C (.clear 1 [zero] x) (X.ea e) (Mr bs b cur lo)=some (.undef,Mr bs b cur' (min lo b)):=by
 have hr:((List.replicate (n-k) [zero]).flatten).length=n-k:=by simp
 have hp:put cur k (List.replicate (n-k) [zero]).flatten=some (cur.take k++(List.replicate (n-k) [zero]).flatten++cur.drop (k+(n-k))):=by
  unfold put;rw [if_pos (by rw [hr]; omega),hr]
 refine ⟨cur.take k++(List.replicate (n-k) [zero]).flatten++cur.drop (k+(n-k)),by simp only [ap,hr,List.length_take,List.length_drop]; omega,?_⟩;have hne:¬ (n-k) * 1=0:=by omega
 simp only [opE,he,if_true,get_eq,Cv hb,if_neg hne,hp];simp [Hp.set,Mr]
theorem Ko {bs:List Blk}{b lo:Nat}(hb:b<bs.length){zs:List Int}{cap:Option Nat}(hn:zs.length<2 ^ 62):∀ (m k:Nat),k+m=zs.length->1<=k →
 ∃ cur' lo',(Cd E T val (.loop [0,3] (uq kd)) [(0,.row b 0 zs.length cap 1),(3,.d (i64 k))] (Mr bs b (zs.map (iv kd)) lo)=some (.ret,[(2,.row b 0 (k+chg (zs.drop (k-1))) cap 1)],Mr bs b cur' lo')/\cur'.length=zs.length/\lo'=min lo b ∨
  Cd E T val (.loop [0,3] (uq kd)) [(0,.row b 0 zs.length cap 1),(3,.d (i64 k))] (Mr bs b (zs.map (iv kd)) lo)=some (.exit 0,[(0,.row b 0 zs.length cap 1)],Mr bs b (zs.map (iv kd)) lo)/\k+chg (zs.drop (k-1))=zs.length):=by
 intro m;have key:=aC (E:=E) (T:=T) (val:=val) [0,3] (uq kd);generalize Cd E T val (.loop [0,3] (uq kd))=W at key ⊢
 induction m with
 | zero =>
  intro k hk h1;have h0:chg (zs.drop (k-1))=0:=by
   have:=vO (zs.drop (k-1));simp only [List.length_drop] at this;omega
  refine ⟨[],0,.inr ⟨?_,by omega⟩⟩;rw [key];simp [uq,show ¬ ((k:Int)<(zs.length:Int)) from by omega]
 | succ m ih =>
  intro k hk h1;have hlt:k<zs.length:=by omega
  have e1:(zs.map (iv kd))[k]?=some (iv kd zs[k]):=by simp [hlt]
  have e0:(zs.map (iv kd))[k-1]?=some (iv kd (zs[k-1]'(by omega))):=by rw [List.getElem?_map,ac (show k-1<zs.length by omega)]; rfl
  have hd:=AA (zs:=zs) (i:=k-1) (by omega);have hs:k-1+1=k:=by omega
  simp only [hs] at hd;have hw:=ak hlt hn;have hwm:wrap .i64 ((k:Int)-1)=((k-1:Nat):Int):=by rw [wrap64]<;>omega
  have i1:=fun h=>jM (b:=b) (o:=0) (z:=1) (cap:=cap) (kd:=.i64) (h:=h) hlt;have i0:=fun h=>jM (b:=b) (o:=0) (z:=1) (cap:=cap) (kd:=.i64) (h:=h) (show k-1<zs.length by omega);simp only [Nat.mul_one,Nat.zero_add] at i1 i0;have l1:=Ef (lo:=lo) hb e1;have l0:=Ef (lo:=lo) hb e0;have hin:=Ob (E:=E) (T:=T) (val:=val) (kd:=kd) hb (zs:=zs) (cap:=cap) (cap2:=cap.map (· - k)) hn h1 hlt (zs.length-k-1) 1 k (zs.map (iv kd)) lo (by omega) (by omega) (by omega) (by simp) (fun j hj _=>by simp [hj]);have hcl:=vO (zs.drop k);simp only [List.length_drop] at hcl;rw [hd];generalize zs[k]'(by omega)=y at *;generalize zs[k-1]'(by omega)=x at *;by_cases hxy:x=y
  · obtain ⟨cur',lo',k1,k2,k3⟩:=hin;simp only [show k+1-1=k by omega] at k1;have hK:k+chg (zs.drop k)<zs.length:=by omega
    generalize hKe:k+chg (zs.drop k)=K at *;obtain ⟨cur2,c1,c2⟩:=Kn (C:=Sm E T val) (lo:=lo') hb (cur:=cur') (e:=[(56,.row b K (zs.length-K) (cap.map (· - K)) 1),(55,.d (i64 K)),(54,.row b 0 zs.length cap 1),(0,.row b 0 zs.length cap 1),(3,.d (i64 K))]) (x:=.t 56) (n:=zs.length) (k:=K) (cap:=cap.map (· - K)) (zero:=.d (.int kd 0)) (by simp) k2 hK;have sl1:=fun h=>HZ (h:=h) (ev:=X.ea [(27,.d (i64 k)),(26,.row b 0 zs.length cap 1),(25,.d (.bool true)),(24,iv kd x),(23,.ptr b (k-1)),(22,.d (i64 (k-1:Nat))),(21,.d (i64 k)),(20,.row b 0 zs.length cap 1),(19,iv kd y),(18,.ptr b k),(17,.d (i64 k)),(16,.row b 0 zs.length cap 1),(13,.d (.bool true)),(12,.d (i64 zs.length)),(11,.row b 0 zs.length cap 1),(10,.d (i64 k)),(0,.row b 0 zs.length cap 1),(3,.d (i64 k))]) (x:=.t 27) (b:=b) (n:=zs.length) (cap:=cap) (k:=k) (by simp) hlt h1;have sl2:=fun h=>HZ (h:=h) (ev:=X.ea [(55,.d (i64 K)),(54,.row b 0 zs.length cap 1),(0,.row b 0 zs.length cap 1),(3,.d (i64 K))]) (x:=.t 55) (b:=b) (n:=zs.length) (cap:=cap) (k:=K) (by simp) hK (by omega);have sl3:=fun h=>rZ (h:=h) (ev:=X.ea [(58,.d (i64 K)),(57,.row b 0 zs.length cap 1),(56,.row b K (zs.length-K) (cap.map (· - K)) 1),(55,.d (i64 K)),(54,.row b 0 zs.length cap 1),(0,.row b 0 zs.length cap 1),(3,.d (i64 K))]) (x:=.t 58) (b:=b) (z:=1) (len:=zs.length) (cap:=cap) (n:=K) (by simp) (by omega);refine ⟨cur2,min lo' b,.inl ⟨?_,c1,by rcases k3 with k3 | k3<;>omega⟩⟩;rw [key];simp only [hxy,if_true,Nat.zero_add]
    subst hxy;simp [iv] at sl1;simp [uq,i1,i0,l1,l0,iv,hwm,hlt,sl1,-dD];rw [au];simp at k1;simp [k1,sl2];rw [c2];simp [sl3,hKe]
  · obtain ⟨cur',lo',hh⟩:=ih (k+1) (by omega) (by omega);simp only [show k+1-1=k by omega] at hh;refine ⟨cur',lo',?_⟩;rw [key];have hyx:¬ y=x:=fun h=>hxy h.symm;have hadd:k+(1+chg (zs.drop k))=k+1+chg (zs.drop k):=by omega
    simp only [hxy,if_false,hadd];simp [uq,i1,i0,l1,l0,iv,hwm,hw,hlt,hyx,-dD];simpa using hh
theorem xO {id:FuncId}(ht:T id=some (cmpQ kd))(hv:val id=false){zs:List Int}{b:Nat}{cap:Option Nat}{h:Hp}(hb:af h.bs b=some (zs.map (iv kd)))(hn:zs.length<2 ^ 62) :
 ∃ h',Sm E T val id [.row b 0 zs.length cap 1] h=some (.row b 0 (pQ zs) cap 1,h')/\(h'=h\/∃ cur,h'=⟨h.bs.set b (.cells cur),min h.low b⟩):=by
 have hbl:=aI hb;have hset:h.bs.set b (.cells (zs.map (iv kd)))=h.bs:=by
  apply List.ext_getElem?;intro i;by_cases hi:b=i
  · subst hi;rw [List.getElem?_set_self hbl];unfold af at hb;split at hb
    · rename_i hh; cases hb; exact hh.symm
    · cases hb
  · rw [am hi]
 have hM:(⟨h.bs,h.bs.length⟩:Hp)=Mr h.bs b (zs.map (iv kd)) h.bs.length:=by simp [Mr,hset]
 rw [aN ht hv,hM];by_cases h2:zs.length<2
 · refine ⟨h,?_,.inl rfl⟩;have:pQ zs=zs.length:=by
    match zs,h2 with
    | [],_=>rfl
    | [x],_=>rfl
    | _::_::_,h2=>simp at h2; omega
   simp [cmpQ,ae,show ((zs.length:Int)<2) from by omega,this,V.under,hbl];simp [Mr]
 · have hne:zs≠[]:=by rintro rfl; simp at h2
   obtain ⟨cur',lo',hh | hh⟩:=Ko (E:=E) (T:=T) (val:=val) (kd:=kd) (lo:=h.bs.length) (cap:=cap) hbl hn (zs.length-1) 1 (by omega) (by omega)
   · obtain ⟨k1,k2,k3⟩:=hh;have hlo:lo'=b:=by omega
     subst hlo;refine ⟨_,?_,.inr ⟨cur',rfl⟩⟩;simp at k1;simp [cmpQ,ae,show ¬ ((zs.length:Int)<2) from by omega];rw [au];simp [k1,pQ,hne,V.under,hbl];simp [Mr,show ¬ (h.bs.length<=lo') from by omega]
   · obtain ⟨k1,k2⟩:=hh;refine ⟨h,?_,.inl rfl⟩;simp at k1 k2;simp [cmpQ,ae,show ¬ ((zs.length:Int)<2) from by omega];rw [au];simp [k1,pQ,hne,V.under,hbl,k2];simp [Mr]
end
end
section
def Inr (k:IntKind)(n:Int):Prop:=(Lit.int k n).wf=true
def Pod.wf (B:Nat)(p:Pod):Prop:=Inr .u64 p.uid/\p.ns.size<=B/\p.sa.size<=B/\Inr .i64 p.host/\Inr .u32 p.addr/\Inr .i64 p.port/\Inr .u64 p.service
def Svc.wf (B:Nat)(p:Svc):Prop:=Inr .u64 p.id/\p.ns.size<=B/\Inr .u32 p.addr/\Inr .i64 p.port/\Inr .u64 p.way
def Way.wf (B:Nat)(p:Way):Prop:=Inr .u64 p.id/\Inr .i64 p.node
def Term.wf (B:Nat)(p:Term):Prop:=Inr .i64 p.kind/\p.text.size<=B
def Cidr.wf (B:Nat)(p:Cidr):Prop:=Inr .u32 p.addr/\Inr .i64 p.bits
def Nh (B:Nat)(n:Int):Prop:=Inr .i64 n
def Sl.wf {α:Type}(B:Nat)(f:Nat->α->Prop)(s:Sl α):Prop:=fit B s/\∀ x∈s.l,f B x
def Source.wf (B:Nat)(p:Source):Prop:=p.names.wf B Term.wf/\p.spaces.wf B Term.wf/\p.nets.wf B Cidr.wf
def Target.wf (B:Nat)(p:Target):Prop:=p.ports.wf B Nh/\p.methods.wf B Term.wf/\p.paths.wf B Term.wf/\p.hosts.wf B Term.wf
def When.wf (B:Nat)(p:When):Prop:=p.head.size<=B/\p.terms.wf B Term.wf
def Rule.wf (B:Nat)(p:Rule):Prop:=p.frm.wf B Source.wf/\p.to.wf B Target.wf/\p.whn.wf B When.wf
def Pol.wf (B:Nat)(p:Pol):Prop:=Inr .u64 p.id/\p.ns.size<=B/\Inr .u64 p.service/\Inr .i64 p.deny/\p.rules.wf B Rule.wf
def Cfg.wf (B:Nat)(c:Cfg):Prop:=Inr .u64 c.epoch/\Inr .u64 c.next/\Inr .i64 c.hosts/\Inr .i64 c.ways/\c.pods.wf B Pod.wf/\c.services.wf B Svc.wf/\c.bound.wf B Way.wf/\c.policies.wf B Pol.wf
theorem Source.wf.fits {B:Nat}{s:Source}(h:s.wf B):s.fits B:=⟨h.1.1,h.2.1.1,h.2.2.1⟩
theorem Target.wf.fits {B:Nat}{s:Target}(h:s.wf B):s.fits B:=⟨h.1.1,h.2.1.1,h.2.2.1.1,h.2.2.2.1⟩
theorem When.wf.fits {B:Nat}{s:When}(h:s.wf B):s.fits B:=h.2.1
theorem Rule.wf.fits {B:Nat}{s:Rule}(h:s.wf B):s.fits B:=⟨⟨h.1.1,fun x hx=>(h.1.2 x hx).fits⟩,⟨h.2.1.1,fun x hx=>(h.2.1.2 x hx).fits⟩,h.2.2.1,fun x hx=>(h.2.2.2 x hx).fits⟩
theorem Pol.wf.fits {B:Nat}{s:Pol}(h:s.wf B):s.fits B:=⟨h.2.2.2.2.1,fun x hx=>(h.2.2.2.2.2 x hx).fits⟩
theorem Cfg.wf.fits {B:Nat}{c:Cfg}(h:c.wf B):c.fits B:=⟨h.2.2.2.2.1.1,h.2.2.2.2.2.1.1,h.2.2.2.2.2.2.1.1,h.2.2.2.2.2.2.2.1,fun x hx=>(h.2.2.2.2.2.2.2.2 x hx).fits⟩
theorem fit.le {α:Type}{B B':Nat}{s:Sl α}(hB:B<=B')(h:fit B s):fit B' s:=⟨ce h.1 hB,h.2⟩
theorem Source.fits.le {B B':Nat}(hB:B<=B'){s:Source}(h:s.fits B):s.fits B':=⟨h.1.le hB,h.2.1.le hB,h.2.2.le hB⟩
theorem Target.fits.le {B B':Nat}(hB:B<=B'){s:Target}(h:s.fits B):s.fits B':=⟨h.1.le hB,h.2.1.le hB,h.2.2.1.le hB,h.2.2.2.le hB⟩
theorem When.fits.le {B B':Nat}(hB:B<=B'){s:When}(h:s.fits B):s.fits B':=fit.le hB h
theorem Rule.fits.le {B B':Nat}(hB:B<=B'){s:Rule}(h:s.fits B):s.fits B':=⟨⟨h.1.1.le hB,fun x hx=>(h.1.2 x hx).le hB⟩,⟨h.2.1.1.le hB,fun x hx=>(h.2.1.2 x hx).le hB⟩,h.2.2.1.le hB,fun x hx=>When.fits.le hB (h.2.2.2 x hx)⟩
theorem Pol.fits.le {B B':Nat}(hB:B<=B'){s:Pol}(h:s.fits B):s.fits B':=⟨h.1.le hB,fun x hx=>(h.2 x hx).le hB⟩
theorem Cfg.fits.le {B B':Nat}(hB:B<=B'){c:Cfg}(h:c.fits B):c.fits B':=⟨h.1.le hB,h.2.1.le hB,h.2.2.1.le hB,h.2.2.2.1.le hB,fun x hx=>(h.2.2.2.2 x hx).le hB⟩
theorem Cfg.wf.ok {B:Nat}{c:Cfg}(h:c.wf B)(hB:B<=big):c.ok:=h.fits.le hB
end
section
noncomputable def E1:Calls':=fun f args h=>match Nat.beq f 242 with
 | true=>pE args h
 | false=>Sm (fun _ _ _=>none) TT aj f args h
def am3:List (Nat×QF):=[(201,Jg),(168,P7),(244,ab1)]
def TP:FuncId->Option QF:=kz am3
def qA (f:FuncId):Bool:=Nat.beq 201 f
theorem OW:TP 201=some Jg:=rfl
theorem OV:TP 168=some (cloneQ 1 8 [(.d (.int .i64 0))]):=by kernel_rfl
theorem OX:TP 244=some (cmpQ .i64):=by kernel_rfl
theorem ZW:TP 242=none:=rfl
theorem ZV:TP 237=none:=rfl
theorem ZX:TP 243=none:=rfl
theorem Og {args:List V}{h:Hp}:Sm E1 TP qA 242 args h=pE args h:=by rw [bC ZW]; rfl
theorem H8 {args:List V}{h:Hp}:Sm E1 TP qA 237 args h=Sm (fun _ _ _=>none) TT aj 237 args h:=by rw [bC ZV]; rfl
theorem H9 {args:List V}{h:Hp}:Sm E1 TP qA 243 args h=Sm (fun _ _ _=>none) TT aj 243 args h:=by rw [bC ZX]; rfl
variable {E:Calls'}
def dN (n:Int):Bool:=decide (n>=1)&&decide (n<=65535)
theorem ap9:TT 267=some (anyQ 287):=al0
theorem aq5:TT 287=some idx1Q:=al9
theorem aq0:TT 268=some not1Q:=al1
theorem ap1:TT 243=some (allQ 267 268):=aj6
theorem NL (s:Sl Int)(hs:short s)(h:Hp):Sm E TT aj 243 [.d (i64 6),.d (s.d gV),.fn 117 []] h=some (bl (decide ((s.l.length:Int)<=6)&&s.l.all dN),h) :=
 NM (cell:=fun n=>i64 n) aq5 bb8 ap9 ba5 aq0 ba6 ap1 az1 hs (fun e he h=>SB e h) h
def aR (t:Target):Bool:=(aU t.methods&&(aU t.paths&&(aU t.hosts&&true)))&&(decide ((t.ports.l.length:Int)<=6)&&t.ports.l.all dN)&&((pQ (dG t.ports.l):Int)==(t.ports.l.length:Int))
theorem xw {T:FuncId->Option QF}{val:FuncId->Bool}{kd:IntKind}{id:FuncId}(ht:T id=some (cmpQ kd))(hv:val id=false)(h:Hp):Sm E T val id [.d (.slice true [])] h=some (.d (.slice true []),h):=by
 rw [aN ht hv];simp [cmpQ,ae,V.under]
theorem wm {h:Hp}{b n:Nat}{cap:Option Nat}{ds:List D}(hb:af h.bs b=some (ds.map .d))(hn:n=ds.length):frz h (.row b 0 n cap 1)=some (.d (.slice false (ds.map fun d=>[d]))):=by
 have h1:af h.bs b=some (flat (ds.map fun d=>[d])++[]):=by
  have hf:∀ l:List D,(l.map fun d=>[d]).flatten=l:=by
   intro l
   induction l with
   | nil=>rfl
   | cons d l ih=>simp only [cm,List.flatten_cons,ih]; rfl
  rw [hb,List.append_nil,flat,hf]
 have:=dX (h:=h) (k:=7) (b:=b) (n:=n) (cap:=cap) (z:=1) (es:=ds.map fun d=>[d]) (rest:=[]) (by simp) (by simpa using hn) h1;simp only [frz,bQ,this]
def rV (t:Target):Bool:=aU t.methods&&(aU t.paths&&(aU t.hosts&&true))
def kE (t:Target):Bool:=decide ((t.ports.l.length:Int)<=6)&&t.ports.l.all dN
theorem NI (t:Target)(ht:t.wf big)(b:Nat)(cap:Option Nat)(h:Hp)(hb:af h.bs b=some [.d (t.methods.d Term.c),.d (t.paths.d Term.c),.d (t.hosts.d Term.c)]):Sm E TT aj 237 [.row b 0 3 cap 1] h=some (bl (rV t),h):=by
 refine NK [t.methods,t.paths,t.hosts] (by simp) ?_ _ h (wm (ds:=[t.methods.d Term.c,t.paths.d Term.c,t.hosts.d Term.c]) hb rfl)
 · intro s hs;simp only [List.mem_cons,List.not_mem_nil,or_false] at hs;rcases hs with rfl | rfl | rfl
   · exact ⟨ht.2.1.1,fun x hx=>(ht.2.1.2 x hx).2⟩
   · exact ⟨ht.2.2.1.1,fun x hx=>(ht.2.2.1.2 x hx).2⟩
   · exact ⟨ht.2.2.2.1,fun x hx=>(ht.2.2.2.2 x hx).2⟩
theorem G6 (t:Target)(ht:t.wf big)(hl:t.ports.l=[])(hnl:t.ports.nl=true)(h:Hp):Sm E1 TP qA 201 [ag t.c] h=some (bl (aR t),h):=by
 have hp:t.ports.d gV=.slice true []:=by simp [Sl.d,hl,hnl]
 have c1:=fun h=>qF (E:=E1) (T:=TP) (val:=qA) OV rfl (by decide) (by decide) (nl:=true) (es:=[]) (by simp) (by simp) h;have c3:=fun h=>xw (E:=E1) (T:=TP) (val:=qA) OX rfl h;have c2:∀ h,pE [.d (.slice true [])] h=some (.tup [],h):=fun _=>rfl;have r1:=fun b cap h hb=>NI (E:=fun _ _ _=>none) t ht b cap h hb;have a1:=fun h=>NL (E:=fun _ _ _=>none) t.ports ht.1.1 h;rw [← hp] at c1;have hlen:t.ports.l.length=0:=by rw [hl]; rfl
 rw [aV OW rfl];have hT:aR t=(rV t&&kE t&&true):=by simp [aR,rV,kE,hl,pQ,dG]
 rw [hT];simp [ae,Jg,c1,dx,Og,c2];cases hR:rV t<;>cases hP:kE t;all_goals
  simp only [hR] at r1;have a2:=hP;unfold kE at a2;simp only [a2] at a1;simp +decide [ai,aa,H8,H9,r1,a1,c3,aH,av,hlen]
theorem Fy (l:List Int):flat (l.map gV)=fq l:=by
 simp only [flat,fq]
 induction l with
 | nil=>rfl
 | cons x l ih=>simp only [cm,List.flatten_cons,List.map_append,ih]; rfl
theorem FH (l:List Int):(fq l).mapM asInt=some l:=by
 induction l with
 | nil=>rfl
 | cons x l ih =>
  simp only [fq,cm,List.mapM_cons] at ih ⊢;simp [ih,asInt]
theorem GG (l:List Int):(dG l).length=l.length:=List.length_mergeSort _
theorem Cz (t:Target)(ht:t.wf big)(hl:t.ports.l=[])(hnl:t.ports.nl=false)(h:Hp):Sm E1 TP qA 201 [ag t.c] h=some (bl (aR t),h):=by
 have hp:t.ports.d gV=.slice false []:=by simp [Sl.d,hl,hnl]
 have c1:=fun h=>qF (E:=E1) (T:=TP) (val:=qA) OV rfl (by decide) (by decide) (nl:=false) (es:=[]) (by simp) (by simp) h;have c3:=xO (E:=E1) (T:=TP) (val:=qA) OX rfl (zs:=[]) (b:=1) (cap:=some 0) (h:=⟨[.cells (t.c.map .d),.cells [],.cells [.d (t.methods.d Term.c),.d (t.paths.d Term.c),.d (t.hosts.d Term.c)]],3⟩) (by simp) (by simp);have c2:∀ b c h,pE [.row b 0 0 c 1] h=some (.tup [],h):=fun _ _ _=>rfl;have r1:=fun b cap h hb=>NI (E:=fun _ _ _=>none) t ht b cap h hb;have a1:=fun h=>NL (E:=fun _ _ _=>none) t.ports ht.1.1 h;rw [← hp] at c1;have hlen:t.ports.l.length=0:=by rw [hl]; rfl
 rw [aV OW rfl];have hT:aR t=(rV t&&kE t&&true):=by simp [aR,rV,kE,hl,pQ,dG]
 rw [hT];obtain ⟨h',c3,c4⟩:=c3;simp [pQ] at c3;simp [ae,Jg,c1,dx,Og,c2];cases hR:rV t<;>cases hP:kE t;all_goals
  simp only [hR] at r1;have a2:=hP;unfold kE at a2;simp only [a2] at a1;rcases c4 with rfl | ⟨cur,rfl⟩<;>first | (simp +decide [ai,aa,H8,H9,r1,a1,c3,aH,av,hlen]; done) | (simp +decide [ai,aa,H8,H9,r1,a1,c3,aH,av,hlen]; rw [if_pos (vI (by rfl))]; simp)
theorem Ff (t:Target)(ht:t.wf big)(hl:t.ports.l≠[])(h:Hp):Sm E1 TP qA 201 [ag t.c] h=some (bl (aR t),h):=by
 have hnl:t.ports.nl=false:=by
  cases hh:t.ports.nl with
  | false=>rfl
  | true=>exact absurd (ht.1.1.2 hh) hl
 have hsl:=GG t.ports.l;have hne0:¬ t.ports.l.length=0:=by simpa using hl
 have hlb:t.ports.l.length<=big:=ht.1.1.1;have hp:t.ports.d gV=.slice false (t.ports.l.map gV):=by simp [Sl.d,hnl]
 have c1:∀ h,Sm E1 TP qA 168 [.d (t.ports.d gV)] h=some (.row (h.bs.length+1) 0 t.ports.l.length none 1,⟨h.bs++[.cells [],.cells (fq t.ports.l)],min h.low h.bs.length⟩):=by
  intro h;have:=qF (E:=E1) (T:=TP) (val:=qA) OV rfl (by decide) (by decide) (nl:=false) (es:=t.ports.l.map gV) (by simp [gV]) (by simpa using hlb) h;rw [hp,this];have hf:=Fy t.ports.l
  revert hf hl
  cases t.ports.l with
  | nil=>intro hl; exact absurd rfl hl
  | cons x l =>
   intro _ hf;simp only [cm] at hf;simp [dx,hf]
 have c2:∀ lo,pE [.row 2 0 t.ports.l.length none 1] ⟨[.cells (t.c.map .d),.cells [],.cells (fq t.ports.l)],lo⟩=some (.tup [],⟨[.cells (t.c.map .d),.cells [],.cells (fq (dG t.ports.l))],min lo 2⟩):=by
  intro lo;simp only [pE,if_neg hne0,get_eq,FD,sS,FH];rw [if_pos ⟨trivial,hlb⟩];rfl
 have c3:=xO (E:=E1) (T:=TP) (val:=qA) OX rfl (zs:=dG t.ports.l) (b:=2) (cap:=none) (h:=⟨[.cells (t.c.map .d),.cells [],.cells (fq (dG t.ports.l)),.cells [.d (t.methods.d Term.c),.d (t.paths.d Term.c),.d (t.hosts.d Term.c)]],4⟩) (by simp; rfl) (by rw [hsl]; exact cd hlb (by decide));have r1:=fun b cap h hb=>NI (E:=fun _ _ _=>none) t ht b cap h hb;have a1:=fun h=>NL (E:=fun _ _ _=>none) t.ports ht.1.1 h;rw [aV OW rfl];have hT:aR t=(rV t&&kE t&&((pQ (dG t.ports.l):Int)==(t.ports.l.length:Int))):=rfl;rw [hT];obtain ⟨h',c3,c4⟩:=c3;rw [hsl] at c3;generalize pQ (dG t.ports.l)=K at *;generalize fq (dG t.ports.l)=Z at *;generalize fq t.ports.l=Z0 at *;simp [ae,Jg,c1,Og,c2];cases hR:rV t<;>cases hP:kE t;all_goals
  simp only [hR] at r1;have a2:=hP;unfold kE at a2;simp only [a2] at a1;rcases c4 with rfl | ⟨cur,rfl⟩<;>first | (simp +decide [ai,aa,H8,H9,r1,a1,c3,aH,av]; done) | (simp +decide [ai,aa,H8,H9,r1,a1,c3,aH,av]; rw [if_pos (vI (by rfl))]; simp)
theorem Y0 (t:Target)(ht:t.wf big)(h:Hp):Sm E1 TP qA 201 [ag t.c] h=some (bl (aR t),h):=by
 by_cases hl:t.ports.l=[]
 · cases hnl:t.ports.nl with
   | true=>exact G6 t ht hl hnl h
   | false=>exact Cz t ht hl hnl h
 · exact Ff t ht hl h
end
section
variable {E:Calls'}
theorem ap6:TT 262=some (anyQ 277):=ak6
theorem aq4:TT 277=some (idxQ 2):=al8
theorem ap7:TT 263=some (notQ 2):=ak7
theorem ao8:TT 238=some (allQ 262 263):=aj2
theorem ao6:TT 235=some (anyQ 258):=ai9
theorem ap4:TT 258=some (idxQ 3):=ak2
theorem ao7:TT 236=some (notQ 3):=aj0
theorem ao2:TT 198=some (allQ 235 236):=ah6
theorem ao9:TT 240=some (anyQ 265):=aj4
theorem ap8:TT 265=some (idxQ 4):=ak9
theorem ap0:TT 241=some (notQ 4):=aj5
theorem ao3:TT 200=some (allQ 240 241):=ah8
theorem ap2:TT 245=some (anyQ 269):=aj7
theorem aq1:TT 269=some (idxQ 2):=al2
theorem ap3:TT 246=some (notQ 2):=aj8
theorem ao4:TT 202=some (allQ 245 246):=ah9
theorem ao0:TT 196=some (anyQ 234):=ah4
theorem ao5:TT 234=some (idxQ 3):=ai8
theorem ao1:TT 197=some (notQ 3):=ah5
theorem an9:TT 156=some (allQ 196 197):=ag2
theorem ZI:TT 201=none:=by kernel_rfl
def jV (s:Sl Cidr):Bool:=decide ((s.l.length:Int)<=6)&&s.l.all iL
theorem Za (s:Sl Cidr)(hs:short s)(h:Hp):Sm E TT aj 238 [.d (i64 6),.d (s.d Cidr.c),.fn 239 []] h=some (bl (jV s),h) :=
 Ad (cells:=Cidr.c) aq4 bb7 ap6 ba1 ap7 ba2 ao8 ay7 (fun _=>rfl) hs (fun e he h=>Zb e h) h
def bX (s:Source):Bool:=(aU s.names&&(aU s.spaces&&true))&&jV s.nets
theorem YZ (s:Source)(hs:s.wf big)(h:Hp):Sm E TT aj 199 [ag s.c] h=some (bl (bX s),h):=by
 have r1:∀ b cap h,af h.bs b=some [.d (s.names.d Term.c),.d (s.spaces.d Term.c)]->Sm E TT aj 237 [.row b 0 2 cap 1] h=some (bl ([s.names,s.spaces].all aU),h):=by
  intro b cap h hb;refine NK [s.names,s.spaces] (by simp) ?_ _ h (wm (ds:=[s.names.d Term.c,s.spaces.d Term.c]) hb rfl);intro x hx;simp only [List.mem_cons,List.not_mem_nil,or_false] at hx;rcases hx with rfl | rfl
  · exact ⟨hs.1.1,fun x hx=>(hs.1.2 x hx).2⟩
  · exact ⟨hs.2.1.1,fun x hx=>(hs.2.1.2 x hx).2⟩
 have a1:=fun h=>Za (E:=E) s.nets hs.2.2.1 h;have hT:bX s=([s.names,s.spaces].all aU&&jV s.nets):=rfl;rw [hT];generalize [s.names,s.spaces].all aU=A at *;generalize jV s.nets=B at *;rw [aV ah7 ax2];cases A<;>simp +decide [ae,P8,ai,aa,r1,a1,aH,av]
def gN (w:When):Bool:=iN w.head&&(aU w.terms&&true)&&decide ((w.terms.l.length:Int)>0)
theorem Y1 (w:When)(hw:w.wf big)(h:Hp):Sm E TT aj 203 [ag w.c] h=some (bl (gN w),h):=by
 have r1:∀ b cap h,af h.bs b=some [.d (w.terms.d Term.c)]->Sm E TT aj 237 [.row b 0 1 cap 1] h=some (bl ([w.terms].all aU),h):=by
  intro b cap h hb;refine NK [w.terms] (by simp) ?_ _ h (wm (ds:=[w.terms.d Term.c]) hb rfl);intro x hx;simp only [List.mem_cons,List.not_mem_nil,or_false] at hx;subst hx;exact ⟨hw.2.1,fun x hx=>(hw.2.2 x hx).2⟩
 have a1:=fun h=>Zc (E:=E) w.head hw.1 h;have hT:gN w=(iN w.head&&[w.terms].all aU&&decide ((w.terms.l.length:Int)>0)):=rfl;rw [hT];generalize [w.terms].all aU=A at *;generalize iN w.head=B at *;rw [aV ai0 ax5];cases B<;>cases A<;>simp +decide [ae,P9,ai,aa,r1,a1,aH,av]
def eu (r:Rule):Bool:=(decide ((r.frm.l.length:Int)<=3)&&r.frm.l.all bX)&&(decide ((r.to.l.length:Int)<=3)&&r.to.l.all aR)&&(decide ((r.whn.l.length:Int)<=3)&&r.whn.l.all gN)
section
variable (h385:∀ t:Target,t.wf big->∀ h,E 201 [ag t.c] h=some (bl (aR t),h))
include h385
theorem SH (t:Target)(ht:t.wf big)(h:Hp):Sm E TT aj 201 [ag t.c] h=some (bl (aR t),h):=by rw [bC ZI]; exact h385 t ht h
theorem YR (r:Rule)(hr:r.wf big)(h:Hp):Sm E TT aj 157 [ag r.c] h=some (bl (eu r),h):=by
 have k1:=fun h=>Ad (E:=E) (T:=TT) (val:=aj) (cells:=Source.c) ap4 az7 ao6 ay4 ao7 ay5 ao2 ax1 (fun _=>rfl) (s:=r.frm) hr.1.1 (m:=3) (f:=199) (p:=bX) (fun e he h=>YZ e (hr.1.2 e he) h) h;have k2:=fun h=>Ad (E:=E) (T:=TT) (val:=aj) (cells:=Target.c) ap8 ba4 ao9 ay9 ap0 az0 ao3 ax3 (fun _=>rfl) (s:=r.to) hr.2.1.1 (m:=3) (f:=201) (p:=aR) (fun e he h=>SH h385 e (hr.2.1.2 e he) h) h;have k3:=fun h=>Ad (E:=E) (T:=TT) (val:=aj) (cells:=When.c) aq1 ba7 ap2 az2 ap3 az3 ao4 ax4 (fun _=>rfl) (s:=r.whn) hr.2.2.1 (m:=3) (f:=203) (p:=gN) (fun e he h=>Y1 e (hr.2.2.2 e he) h) h;unfold eu;generalize (decide ((r.frm.l.length:Int)<=3)&&r.frm.l.all bX)=A at *;generalize (decide ((r.to.l.length:Int)<=3)&&r.to.l.all aR)=B at *;generalize (decide ((r.whn.l.length:Int)<=3)&&r.whn.l.all gN)=C at *;rw [aV ag3 av8];cases A<;>cases B<;>simp +decide [ae,PY,ai,aa,k1,k2,k3,av]
def ed (p:Pol):Bool:=decide (p.id>=1)&&decide (p.id<=4611686018427387903)&&(eqS p.ns ⟨#[]⟩||bf p.ns)&&decide (p.service<=4611686018427387903)&&((p.deny==0)||(p.deny==1))&&(decide ((p.rules.l.length:Int)<=6)&&p.rules.l.all eu)
theorem SA (p:Pol)(hp:p.wf big)(h:Hp):Sm E TT aj 128 [ag p.c] h=some (bl (ed p),h):=by
 have k1:=fun h=>Ad (E:=E) (T:=TT) (val:=aj) (cells:=Rule.c) ao5 ay3 ao0 aw9 ao1 ax0 an9 av7 (fun _=>rfl) (s:=p.rules) hp.2.2.2.2.1 (m:=6) (f:=157) (p:=eu) (fun e he h=>YR h385 e (hp.2.2.2.2.2 e he) h) h;have k2:=fun h=>Kb (E:=E) p.ns hp.2.1 h;unfold ed;generalize (decide ((p.rules.l.length:Int)<=6)&&p.rules.l.all eu)=A at *;generalize bf p.ns=B at *;have ho:eqS p.ns ⟨#[]⟩=eqS p.ns ⟨#[]⟩:=rfl;rw [aV ad4 as6];by_cases c1:p.id>=1
 case neg=>simp +decide [ae,wM,ai,aa,av,c1]
 by_cases c2:p.id<=4611686018427387903
 case neg=>simp +decide [ae,wM,ai,aa,av,c1,c2]
 cases c3:eqS p.ns ⟨#[]⟩
 case false =>
  cases B
  case false=>simp +decide [ae,wM,ai,aa,av,c1,c2,c3,k2]
  by_cases c4:p.service<=4611686018427387903
  case neg=>simp +decide [ae,wM,ai,aa,av,c1,c2,c3,k2,c4]
  by_cases c5:p.deny=0
  case pos=>simp +decide [ae,wM,ai,aa,av,c1,c2,c3,k2,c4,c5,k1]
  by_cases c6:p.deny=1<;>simp +decide [ae,wM,ai,aa,av,c1,c2,c3,k2,c4,c5,c6,k1]
 case true =>
  by_cases c4:p.service<=4611686018427387903
  case neg=>simp +decide [ae,wM,ai,aa,av,c1,c2,c3,k2,c4]
  by_cases c5:p.deny=0
  case pos=>simp +decide [ae,wM,ai,aa,av,c1,c2,c3,k2,c4,c5,k1]
  by_cases c6:p.deny=1<;>simp +decide [ae,wM,ai,aa,av,c1,c2,c3,k2,c4,c5,c6,k1]
end
end
section
def dQ:List Int->Bool
 | x::y::l=>decide (x<y)&&dQ (y::l)
 | _=>true
theorem BP {l:List Int}{i:Nat}(h:i+1<l.length):dQ (l.drop i)=(decide (l[i]<l[i+1])&&dQ (l.drop (i+1))):=by
 rw [aw (show i<l.length by omega),aw h];simp only [dQ]
theorem Dv {l:List Int}{i:Nat}(h:l.length<=i+1):dQ (l.drop i)=true:=by
 have:(l.drop i).length<=1:=by simp only [List.length_drop]; omega
 match l.drop i,this with
 | [],_=>rfl
 | [_],_=>rfl
 | _::_::_,h=>simp at h
theorem y5 {α:Type}{cells:α->List D}{z:Nat}(hz:∀ x,(cells x).length=z){s:Sl α}{i:Nat}(hi:i<s.l.length){kd:IntKind}{h:Hp}:eP none z (.d (s.d cells)) (.d (.int kd i)) h=some (.eptr (cells s.l[i]) 0,h):=by
 simp [eP,Sl.d,hi,hz]
section
variable {E:Calls'}{T:FuncId->Option QF}{val:FuncId->Bool}
theorem Jt {α:Type}{cells:α->List D}{z:Nat}(hz:∀ x,(cells x).length=z){s:Sl α}(hs:s.l.length<2 ^ 62){f:FuncId}{g:α->Int}(hf:∀ e∈s.l,∀ h,Sm E T val f [ag (cells e)] h=some (.d (u64 (g e)),h)):∀ (m i:Nat),i+m=s.l.length->1<=i →
 Cd E T val (.loop [0,1,7,8] (wU z)) [(0,.d (s.d cells)),(1,.fn f []),(7,.d (i64 s.l.length)),(8,.d (i64 i))] ⟨[],0⟩ =
  if dQ ((s.l.map g).drop (i-1)) then some (.exit 0,[],⟨[],0⟩) else some (.ret,[(4,bl false)],⟨[],0⟩):=by
 intro m;have key:=aC (E:=E) (T:=T) (val:=val) [0,1,7,8] (wU z);generalize Cd E T val (.loop [0,1,7,8] (wU z))=W at key ⊢
 induction m with
 | zero =>
  intro i hi h1;rw [key,Dv (by simp; omega)];simp [wU,show ¬ ((i:Int)<s.l.length) from by omega]
 | succ m ih =>
  intro i hi h1;have hlt:i<s.l.length:=by omega
  have hd:=BP (l:=s.l.map g) (i:=i-1) (by simp; omega);have hs1:i-1+1=i:=by omega
  simp only [hs1,List.getElem_map] at hd;have hp1:=fun h=>y5 (cells:=cells) hz hlt (kd:=.i64) (h:=h);have hp0:=fun h=>y5 (cells:=cells) hz (show i-1<s.l.length by omega) (kd:=.i64) (h:=h);have c1:=hf _ (bh hlt);have c0:=hf _ (bh (show i-1<s.l.length by omega));have hw:=ak hlt hs;have hwm:wrap .i64 ((i:Int)-1)=((i-1:Nat):Int):=by rw [wrap64]<;>omega
  have hpos:0<i:=h1;have hih:=ih (i+1) (by omega) (by omega);simp only [show i+1-1=i by omega] at hih;rw [key,hd];generalize s.l[i]=y at *;generalize s.l[i-1]=x at *;have hsx:=bH (hz x);have hsy:=bH (hz y);by_cases hg:g x<g y
  · simp +decide [wU,hp1,hp0,hsx,hsy,hwm,hw,hpos,c0,c1,hlt,hg,ai,aa,av,show ¬ (g x>=g y) from by omega];simpa using hih
  · simp +decide [wU,hp1,hp0,hsx,hsy,hwm,hw,hpos,c0,c1,hlt,hg,ai,aa,av,show g x>=g y from by omega]
theorem uK {α:Type}{cells:α->List D}{z:Nat}{id:FuncId}(ht:T id=some (risQ z))(hv:val id=true)(hz:∀ x,(cells x).length=z){s:Sl α}(hs:s.l.length<2 ^ 62){f:FuncId}{g:α->Int}(hf:∀ e∈s.l,∀ h,Sm E T val f [ag (cells e)] h=some (.d (u64 (g e)),h))(h:Hp) :
 Sm E T val id [.d (s.d cells),.fn f []] h=some (bl (dQ (s.l.map g)),h):=by
 rw [aV ht hv];have hfr:frz h (.fn f [])=some (.fn f []):=rfl;have key:=aC (E:=E) (T:=T) (val:=val) [0,1,7,8] (wU z);have hl:=Jt (E:=E) (T:=T) (val:=val) hz hs hf;simp [ae,risQ,hfr];rw [au];simp only [Dc,FJ];simp;generalize Cd E T val (.loop [0,1,7,8] (wU z))=W at key hl ⊢;by_cases h0:s.l=[]
 · rw [key];simp [wU,h0,dQ,iE]
 · have hpos:0<s.l.length:=List.length_pos_iff.2 h0;have h1:=hl (s.l.length-1) 1 (by omega) (by omega);simp at h1;have hp1:=fun h=>y5 (cells:=cells) hz hpos (kd:=.i64) (h:=h);rw [key];have hw:=ak hpos hs;simp at hw;simp +decide [wU,ai,av,hpos,hw,h1];cases dQ (s.l.map g)<;>simp [iE]
theorem pK {con id:FuncId}(ht:T id=some (someQ con))(hv:val id=false){v:V}{f:FuncId}{caps:List V}{b:Bool}{h:Hp}(hnu:nu v=some v)(hok:okV v=true)(hc:Sm E T val con [v,.fn f caps] ⟨h.bs,h.bs.length⟩=some (bl b,⟨h.bs,h.bs.length⟩)) :
 Sm E T val id [v,.fn f caps] h=some (bl b,h):=by
 rw [aN ht hv];simp [someQ,ae,hnu,hok,hc,V.under]
end
end
section
variable {E:Calls'}
theorem X8 (p:Pod)(h:Hp):Sm E TT aj 50 [ag p.c] h=some (.d (u64 p.uid),h):=by rw [aV ac2 ar3]; simp [ae,BI]
theorem X9 (p:Svc)(h:Hp):Sm E TT aj 53 [ag p.c] h=some (.d (u64 p.id),h):=by rw [aV t193 v193]; simp [ae,BJ]
theorem Ya (p:Way)(h:Hp):Sm E TT aj 60 [ag p.c] h=some (.d (u64 p.id),h):=by rw [aV ac3 ar4]; simp [ae,BK]
theorem Yb (p:Pol)(h:Hp):Sm E TT aj 65 [ag p.c] h=some (.d (u64 p.id),h):=by rw [aV ac4 ar5]; simp [ae,Dl]
theorem an4:TT 118=some (risQ 7):=ad8
theorem an5:TT 124=some (risQ 5):=ae4
theorem an6:TT 126=some (risQ 2):=ae6
theorem an7:TT 129=some (risQ 5):=ae8
theorem Yw (s:Sl Pod)(hs:short s)(h:Hp):Sm E TT aj 118 [.d (s.d Pod.c),.fn 50 []] h=some (bl (dQ (s.l.map Pod.uid)),h):=uK an4 at0 (fun _=>rfl) hs.lt (fun e _ h=>X8 e h) h
theorem YB (s:Sl Svc)(hs:short s)(h:Hp):Sm E TT aj 124 [.d (s.d Svc.c),.fn 53 []] h=some (bl (dQ (s.l.map Svc.id)),h):=uK an5 au0 (fun _=>rfl) hs.lt (fun e _ h=>X9 e h) h
theorem YD (s:Sl Way)(hs:short s)(h:Hp):Sm E TT aj 126 [.d (s.d Way.c),.fn 60 []] h=some (bl (dQ (s.l.map Way.id)),h):=uK an6 au2 (fun _=>rfl) hs.lt (fun e _ h=>Ya e h) h
theorem YF (s:Sl Pol)(hs:short s)(h:Hp):Sm E TT aj 129 [.d (s.d Pol.c),.fn 65 []] h=some (bl (dQ (s.l.map Pol.id)),h):=uK an7 au4 (fun _=>rfl) hs.lt (fun e _ h=>Yb e h) h
def lQ (c:Cfg)(n:Int):Option Svc:=c.services.l.find? fun p=>p.id==n
theorem M7 (c:Cfg)(hc:c.ok)(n:Int)(h:Hp):Sm E TT aj 38 [c.v,.d (u64 n)] h=some (.tup (match lQ c n with | some p=>[p.v,bl true] | none=>[svc0.v,bl false]),h):=X5 c hc n h
def aZ (c:Cfg)(p:Pod):Bool:=decide (p.uid<10)||(decide (p.uid>=c.next)||!(bf p.ns&&bf p.sa))
def bi (c:Cfg)(p:Pod):Bool:=decide (p.host<2)||(decide (p.host>wrap .i64 (c.hosts+1))||!dN p.port)
def bn (c:Cfg)(p:Pod):Bool:=!(p.service==0)&&(match lQ c p.service with | some s=>!eqS s.ns p.ns | none=>true)
def bq (c:Cfg)(p:Pod):Bool:=aZ c p||(bi c p||bn c p)
theorem ZA (p:Pod)(hp:p.wf big)(h:Hp):Sm E TT aj 116 [.agg [.d (.str p.ns),.d (.str p.sa)]] h=some (bl (bf p.ns&&bf p.sa),h):=Yv p.ns p.sa hp.2.1 hp.2.2.1 h
theorem TI (n:Int)(h:Hp):Sm E TT aj 117 [.d (i64 n)] h=some (bl (dN n),h):=SB n h
theorem Xt (c:Cfg)(hc:c.wf big):∀ (m i:Nat) (bs:List Blk),i+m=c.pods.l.length->af bs 0=some (c.c.map .d) →
 ∃ ys,Cd E TT aj (.loop [1,8,9,10] dn) [(1,.ptr 0 0),(8,.d (c.pods.d Pod.c)),(9,.d (i64 c.pods.l.length)),(10,.d (i64 i))] ⟨bs,0⟩ =
  cond ((c.pods.l.drop i).any (bq c)) (some (.ret,[(2,bl false)],⟨bs++ys,0⟩)) (some (.exit 0,[(1,.ptr 0 0)],⟨bs++ys,0⟩)):=by
 have hok:=hc.ok (bp _);have hlt:=hok.1.lt;intro m;have key:=aC (E:=E) (T:=TT) (val:=aj) [1,8,9,10] dn;generalize Cd E TT aj (.loop [1,8,9,10] dn)=W at key ⊢
 induction m with
 | zero =>
  intro i bs hi hb;refine ⟨[],?_⟩;rw [key,ba (by omega)];simp [dn,show ¬ ((i:Int)<c.pods.l.length) from by omega]
 | succ m ih =>
  intro i bs hi hb;have h1:i<c.pods.l.length:=by omega
  have hx:=fun h=>ay (z:=7) h (ac h1) (cells:=Pod.c) rfl;have hw:=ak h1 hlt;have hp:=hc.2.2.2.2.1.2 _ (bh h1);rw [key,aw h1];generalize c.pods.l[i]=p at *;have n1:=fun h=>ZA (E:=E) p hp h;have n2:=fun h=>TI (E:=E) p.port h;have n3:=fun h=>M7 (E:=E) c hok p.service h;have hb2:=fun ys=>ax (ys:=ys) hb;have h0:((i:Int)<c.pods.l.length):=by omega
  simp only [List.any_cons];cases hsv:lQ c p.service with
  | none =>
   simp only [hsv] at n3;obtain ⟨ys,q⟩:=ih (i+1) (bs++[.cells (p.c.map .d),.cells (svc0.c.map .d)]) (by omega) (hb2 _);generalize (List.drop (i+1) c.pods.l).any (bq c)=R at q ⊢;generalize hnm:(bf p.ns&&bf p.sa)=nm at n1;generalize hpt:dN p.port=pt at n2;by_cases a1:p.uid<10
   case pos=>exact ⟨_,by simp +decide [dn,hb,hb2,hx,n1,n2,n3,h0,ai,aa,av,bq,aZ,bi,bn,hsv,a1]; rfl⟩
   by_cases a2:p.uid>=c.next
   case pos=>exact ⟨_,by simp +decide [dn,hb,hb2,hx,n1,n2,n3,h0,ai,aa,av,bq,aZ,bi,bn,hsv,a1,a2]; rfl⟩
   cases nm
   case false=>exact ⟨_,by simp +decide [dn,hb,hb2,hx,n1,n2,n3,h0,ai,aa,av,bq,aZ,bi,bn,hsv,a1,a2,hnm]; rfl⟩
   by_cases b1:p.host<2
   case pos=>exact ⟨_,by simp +decide [dn,hb,hb2,hx,n1,n2,n3,h0,ai,aa,av,bq,aZ,bi,bn,hsv,a1,a2,hnm,b1]; rfl⟩
   by_cases b2:p.host>wrap .i64 (c.hosts+1)
   case pos=>exact ⟨_,by simp +decide [dn,hb,hb2,hx,n1,n2,n3,h0,ai,aa,av,bq,aZ,bi,bn,hsv,a1,a2,hnm,b1,b2]; rfl⟩
   cases pt
   case false=>exact ⟨_,by simp +decide [dn,hb,hb2,hx,n1,n2,n3,h0,ai,aa,av,bq,aZ,bi,bn,hsv,a1,a2,hnm,b1,b2,hpt]; rfl⟩
   by_cases c1:p.service=0
   case pos =>
    have n4:=n3;rw [c1] at n4;refine ⟨[.cells (p.c.map .d),.cells (svc0.c.map .d)]++ys,?_⟩;simp +decide [n4,dn,hb,hb2,hx,n1,n2,n3,h0,ai,aa,av,bq,aZ,bi,bn,hsv,a1,a2,hnm,b1,b2,hpt,c1,hw];simpa using q
   exact ⟨_,by simp +decide [dn,hb,hb2,hx,n1,n2,n3,h0,ai,aa,av,bq,aZ,bi,bn,hsv,a1,a2,hnm,b1,b2,hpt,c1]; rfl⟩
  | some s =>
   simp only [hsv] at n3;obtain ⟨ys,q⟩:=ih (i+1) (bs++[.cells (p.c.map .d),.cells (s.c.map .d)]) (by omega) (hb2 _);generalize (List.drop (i+1) c.pods.l).any (bq c)=R at q ⊢;generalize hnm:(bf p.ns&&bf p.sa)=nm at n1;generalize hpt:dN p.port=pt at n2;by_cases a1:p.uid<10
   case pos=>exact ⟨_,by simp +decide [dn,hb,hb2,hx,n1,n2,n3,h0,ai,aa,av,bq,aZ,bi,bn,hsv,a1]; rfl⟩
   by_cases a2:p.uid>=c.next
   case pos=>exact ⟨_,by simp +decide [dn,hb,hb2,hx,n1,n2,n3,h0,ai,aa,av,bq,aZ,bi,bn,hsv,a1,a2]; rfl⟩
   cases nm
   case false=>exact ⟨_,by simp +decide [dn,hb,hb2,hx,n1,n2,n3,h0,ai,aa,av,bq,aZ,bi,bn,hsv,a1,a2,hnm]; rfl⟩
   by_cases b1:p.host<2
   case pos=>exact ⟨_,by simp +decide [dn,hb,hb2,hx,n1,n2,n3,h0,ai,aa,av,bq,aZ,bi,bn,hsv,a1,a2,hnm,b1]; rfl⟩
   by_cases b2:p.host>wrap .i64 (c.hosts+1)
   case pos=>exact ⟨_,by simp +decide [dn,hb,hb2,hx,n1,n2,n3,h0,ai,aa,av,bq,aZ,bi,bn,hsv,a1,a2,hnm,b1,b2]; rfl⟩
   cases pt
   case false=>exact ⟨_,by simp +decide [dn,hb,hb2,hx,n1,n2,n3,h0,ai,aa,av,bq,aZ,bi,bn,hsv,a1,a2,hnm,b1,b2,hpt]; rfl⟩
   by_cases c1:p.service=0
   case pos =>
    have n4:=n3;rw [c1] at n4;refine ⟨[.cells (p.c.map .d),.cells (s.c.map .d)]++ys,?_⟩;simp +decide [n4,dn,hb,hb2,hx,n1,n2,n3,h0,ai,aa,av,bq,aZ,bi,bn,hsv,a1,a2,hnm,b1,b2,hpt,c1,hw];simpa using q
   cases c2:eqS s.ns p.ns
   case false=>exact ⟨_,by simp +decide [dn,hb,hb2,hx,n1,n2,n3,h0,ai,aa,av,bq,aZ,bi,bn,hsv,a1,a2,hnm,b1,b2,hpt,c1,c2]; rfl⟩
   refine ⟨[.cells (p.c.map .d),.cells (s.c.map .d)]++ys,?_⟩;simp +decide [dn,hb,hb2,hx,n1,n2,n3,h0,ai,aa,av,bq,aZ,bi,bn,hsv,a1,a2,hnm,b1,b2,hpt,c1,c2,hw];simpa using q
def fG (c:Cfg):Bool:=!c.pods.l.any (bq c)&&dQ (c.pods.l.map Pod.uid)
theorem Yc (c:Cfg)(hc:c.wf big)(h:Hp):Sm E TT aj 67 [c.v] h=some (bl (fG c),h):=by
 have hok:=hc.ok (bp _);obtain ⟨ys,q⟩:=Xt (E:=E) c hc c.pods.l.length 0 [.cells (c.c.map .d)] (by omega) (by simp);have n1:=fun h=>Yw (E:=E) c.pods hok.1 h;rw [aV ac5 ar6];simp [ae,Lj];rw [au];simp at q;simp [q];cases hA:c.pods.l.any (bq c)<;>simp [fG,hA,n1]
end
section
variable {E:Calls'}
theorem Vv:TT 120=some (someQ 155):=ae0
theorem Vw:TT 155=some (anyQ 39):=ag1
theorem Vu:TT 39=some (idxQ 2):=t109
theorem u201:TT 61=some (someQ 109):=t201
theorem an2:TT 109=some (anyQ 36):=ad3
theorem an1:TT 36=some (idxQ 5):=Vk
theorem u196:TT 56=some (someQ 104):=t196
theorem an3:TT 104=some (anyQ 152):=ad5
theorem an8:TT 152=some (idxQ 5):=ag0
theorem Yz (w:Way)(s:Svc){x:Nat}{h:Hp}(hb:af h.bs x=some (s.c.map .d)):Sm E TT aj 121 [ag w.c,.ptr x 0] h=some (bl (w.id==s.way),h):=by
 rw [aN ae1 at5];simp [ae,LH,ax hb,V.under]
theorem Yy (l:Sl Way)(hl:short l)(s:Svc){x:Nat}{h:Hp}(hb:af h.bs x=some (s.c.map .d)):Sm E TT aj 120 [.d (l.d Way.c),.fn 121 [.ptr x 0]] h=some (bl (l.l.any fun w=>w.id==s.way),h) :=
 pK Vv VG rfl rfl (S_any Way.c (z:=2) Vu v109 Vw VH (RowIs.of (cells:=Way.c) (fun _=>rfl) _) hl.lt fun e _ lo=>Yz e s hb)
def dA (n:Int):Bool:=decide (n>=1)&&decide (n<=4611686018427387903)
theorem TJ (n:Int)(h:Hp):Sm E TT aj 122 [.d (u64 n)] h=some (bl (dA n),h):=YA n h
def eZ (c:Cfg)(s:Svc):Bool:=!dA s.id||(!bf s.ns||(!dN s.port||!((s.way==0)||c.bound.l.any fun w=>w.id==s.way)))
theorem Yx (c:Cfg)(hc:c.ok)(s:Svc)(hs:s.wf big){x:Nat}{h:Hp}(hb:af h.bs x=some (c.c.map .d)):Sm E TT aj 119 [ag s.c,.ptr x 0] h=some (bl (eZ c s),h):=by
 rw [aN ad9 at1];have n1:=fun h=>TJ (E:=E) s.id h;have n2:=fun h=>Kb (E:=E) s.ns hs.2.1 h;have n3:=fun h=>TI (E:=E) s.port h;have n5:∀ lo,Sm E TT aj 120 [.d (c.bound.d Way.c),.fn 121 [.ptr h.bs.length 0]] ⟨h.bs++[.cells (s.c.map .d)],lo⟩=some (bl (c.bound.l.any fun w=>w.id==s.way),⟨h.bs++[.cells (s.c.map .d)],lo⟩):=fun lo=>Yy c.bound hc.2.2.1 s (by simp);unfold eZ;generalize dA s.id=A at *;generalize bf s.ns=B at *;generalize dN s.port=C at *;generalize (c.bound.l.any fun w=>w.id==s.way)=F at *;have hb2:=fun ys=>ax (ys:=ys) hb;by_cases w0:s.way=0
 · cases A<;>cases B<;>cases C<;>simp +decide [ae,Je,hb,hb2,n1,n2,n3,w0,ai,aa,av,V.under,az]
 · cases A<;>cases B<;>cases C<;>cases F<;>simp +decide [ae,Je,hb,hb2,n1,n2,n3,n5,w0,ai,aa,av,V.under,az]
def bL (c:Cfg):Bool:=!c.services.l.any (eZ c)&&dQ (c.services.l.map Svc.id)
theorem Yd (c:Cfg)(hc:c.wf big)(h:Hp):Sm E TT aj 68 [c.v] h=some (bl (bL c),h):=by
 have hok:=hc.ok (bp _);have n1:=fun h=>YB (E:=E) c.services hok.2.1 h;have n2:Sm E TT aj 61 [.d (c.services.d Svc.c),.fn 119 [.ptr 0 0]] ⟨[.cells (c.c.map .d)],0⟩=some (bl (c.services.l.any (eZ c)),⟨[.cells (c.c.map .d)],0⟩) :=
  pK u201 v201 rfl rfl (S_any Svc.c (z:=5) an1 Vy an2 as5 (RowIs.of (cells:=Svc.c) (fun _=>rfl) _) hok.2.1.lt fun e he lo=>Yx c hok e (hc.2.2.2.2.2.1.2 e he) (by simp))
 rw [aV t208 v208];unfold bL;generalize c.services.l.any (eZ c)=A at *;cases A<;>simp +decide [ae,Ll,n1,n2,ai,aa,av,az]
def eX (c:Cfg)(p:Pol):Bool:=decide (p.id<1)||(!ed p||(!(p.service==0)&&(lQ c p.service).isNone))
section
variable (h385:∀ t:Target,t.wf big->∀ h,E 201 [ag t.c] h=some (bl (aR t),h))
include h385
theorem YE (c:Cfg)(hc:c.ok)(p:Pol)(hp:p.wf big){x:Nat}{h:Hp}(hb:af h.bs x=some (c.c.map .d)):Sm E TT aj 127 [ag p.c,.ptr x 0] h=some (bl (eX c p),h):=by
 rw [aN ae7 au3];have n1:=fun h=>SA h385 p hp h;have n2:=fun h=>M7 (E:=E) c hc p.service h;have hb2:=fun ys=>ax (ys:=ys) hb;unfold eX;generalize ed p=A at *;cases hsv:lQ c p.service with
 | none =>
  simp only [hsv] at n2;by_cases a1:p.id<1
  case pos=>simp +decide [ae,BM,hb,hb2,n1,n2,a1,ai,aa,av,V.under,az]
  by_cases a2:p.service=0
  · rw [a2] at n2;cases A<;>simp +decide [ae,BM,hb,hb2,n1,n2,a1,a2,ai,aa,av,V.under,az]
  · cases A<;>simp +decide [ae,BM,hb,hb2,n1,n2,a1,a2,ai,aa,av,V.under,az]
 | some s =>
  simp only [hsv] at n2;by_cases a1:p.id<1
  case pos=>simp +decide [ae,BM,hb,hb2,n1,n2,a1,ai,aa,av,V.under,az]
  by_cases a2:p.service=0
  · rw [a2] at n2;cases A<;>simp +decide [ae,BM,hb,hb2,n1,n2,a1,a2,ai,aa,av,V.under,az]
  · cases A<;>simp +decide [ae,BM,hb,hb2,n1,n2,a1,a2,ai,aa,av,V.under,az]
def bB (c:Cfg):Bool:=!c.policies.l.any (eX c)&&dQ (c.policies.l.map Pol.id)
theorem Yg (c:Cfg)(hc:c.wf big)(h:Hp):Sm E TT aj 71 [c.v] h=some (bl (bB c),h):=by
 have hok:=hc.ok (bp _);have n1:=fun h=>YF (E:=E) c.policies hok.2.2.2.1 h;have n2:Sm E TT aj 56 [.d (c.policies.d Pol.c),.fn 127 [.ptr 0 0]] ⟨[.cells (c.c.map .d)],0⟩=some (bl (c.policies.l.any (eX c)),⟨[.cells (c.c.map .d)],0⟩) :=
  pK u196 v196 rfl rfl (S_any Pol.c (z:=5) an8 av6 an3 as7 (RowIs.of (cells:=Pol.c) (fun _=>rfl) _) hok.2.2.2.1.lt fun e he lo=>YE h385 c hok e (hc.2.2.2.2.2.2.2.2 e he) (by simp))
 rw [aV ac7 ar8];unfold bB;generalize c.policies.l.any (eX c)=A at *;cases A<;>simp +decide [ae,Lr,n1,n2,ai,aa,av,az]
end
end
section
variable {E:Calls'}
theorem YC (w v:Way){x:Nat}{h:Hp}(hb:af h.bs x=some (w.c.map .d)):Sm E TT aj 125 [ag v.c,.ptr x 0] h=some (bl (v.node==w.node),h):=by
 rw [aN ae5 au1];simp [ae,PK,ax hb,V.under]
theorem SC (l:Sl Way)(hl:l.l.length<2 ^ 62)(w:Way){x:Nat}{h:Hp}(hb:af h.bs x=some (w.c.map .d)):Sm E TT aj 120 [.d (l.d Way.c),.fn 125 [.ptr x 0]] h=some (bl (l.l.any fun v=>v.node==w.node),h) :=
 pK Vv VG rfl rfl (S_any Way.c (z:=2) Vu v109 Vw VH (RowIs.of (cells:=Way.c) (fun _=>rfl) _) hl fun e _ lo=>YC w e hb)
def iC (c:Cfg)(pre:List Way)(w:Way):Bool:=!dA w.id||(decide (w.node<wrap .i64 (c.hosts+2))||(decide (w.node>wrap .i64 (wrap .i64 (c.hosts+1)+c.ways))||pre.any fun v=>v.node==w.node))
def iw (c:Cfg):List Way->List Way->Bool
 | _,[]=>false
 | pre,w::l=>iC c pre w||iw c (pre++[w]) l
theorem JG {h:Hp}{ev:X->V}{α:Type}{cells:α->List D}{z:Nat}(hz:∀ x,(cells x).length=z){s:Sl α}{x:X}{n:Nat}(hx:ev x=.d (i64 n))(hn:n<s.l.length):bP h ev .sl z (.d (s.d cells)) none (some x) none=some (.d (Sl.d cells ⟨s.nl,s.l.take n⟩)):=by
 simp only [bP,Sl.d,cZ,hx,bx];rw [if_pos (by omega)];simp only [Int.toNat_natCast];have hh:((s.l.map cells).headD (List.replicate z .nilp)).length=z:=by
  cases s.l with
  | nil=>simp
  | cons a l=>simp [hz]
 rw [if_pos ⟨by omega,by omega,hh⟩];simp [List.map_take]
theorem Xu (c:Cfg)(hc:c.wf big):∀ (m i:Nat) (bs:List Blk),i+m=c.bound.l.length->af bs 0=some (c.c.map .d) →
 ∃ ys,Cd E TT aj (.loop [1,7,8,9] jq) [(1,.ptr 0 0),(7,.d (c.bound.d Way.c)),(8,.d (i64 c.bound.l.length)),(9,.d (i64 i))] ⟨bs,0⟩ =
  cond (iw c (c.bound.l.take i) (c.bound.l.drop i)) (some (.ret,[(2,bl false)],⟨bs++ys,0⟩)) (some (.exit 0,[(1,.ptr 0 0)],⟨bs++ys,0⟩)):=by
 have hok:=hc.ok (bp _);have hlt:=hok.2.2.1.lt;intro m;have key:=aC (E:=E) (T:=TT) (val:=aj) [1,7,8,9] jq;generalize Cd E TT aj (.loop [1,7,8,9] jq)=W at key ⊢
 induction m with
 | zero =>
  intro i bs hi hb;refine ⟨[],?_⟩;rw [key,ba (by omega)];simp [jq,iw,show ¬ ((i:Int)<c.bound.l.length) from by omega]
 | succ m ih =>
  intro i bs hi hb;have h1:i<c.bound.l.length:=by omega
  have hx:=fun h=>ay (z:=2) h (ac h1) (cells:=Way.c) rfl;have hw:=ak h1 hlt;have htake:c.bound.l.take (i+1)=c.bound.l.take i++[c.bound.l[i]]:=by rw [List.take_add_one,ac h1]; rfl
  have hwf:=hc.2.2.2.2.2.2.1.2 _ (bh h1);rw [key,aw h1];generalize c.bound.l[i]=w at *;have n1:=fun h=>TJ (E:=E) w.id h;have hsl:=fun (h:Hp) (ev:X->V) (hx:ev (.t 16)=.d (i64 i))=>JG (h:=h) (ev:=ev) (cells:=Way.c) (z:=2) (fun _=>rfl) (s:=c.bound) hx h1;have n2:Sm E TT aj 120 [.d (Sl.d Way.c ⟨c.bound.nl,c.bound.l.take i⟩),.fn 125 [.ptr bs.length 0]] ⟨bs++[.cells (w.c.map .d)],0⟩=some (bl ((c.bound.l.take i).any fun v=>v.node==w.node),⟨bs++[.cells (w.c.map .d)],0⟩) :=
   SC ⟨c.bound.nl,c.bound.l.take i⟩ (by simp only [List.length_take]; omega) w (by simp)
  have hb2:=fun ys=>ax (ys:=ys) hb;have h0:((i:Int)<c.bound.l.length):=by omega
  obtain ⟨ys,q⟩:=ih (i+1) (bs++[.cells (w.c.map .d)]) (by omega) (hb2 _);rw [htake] at q;simp only [iw];generalize iw c (c.bound.l.take i++[w]) (c.bound.l.drop (i+1))=R at q ⊢;unfold iC;generalize dA w.id=A at *;generalize ((c.bound.l.take i).any fun v=>v.node==w.node)=F at *;generalize hS:Sl.d Way.c ⟨c.bound.nl,c.bound.l.take i⟩=SS at *;cases A
  case false=>exact ⟨_,by simp +decide [jq,hb,hb2,hx,n1,n2,hsl,h0,ai,aa,av,az]; rfl⟩
  by_cases b1:w.node<wrap .i64 (c.hosts+2)
  case pos=>exact ⟨_,by simp +decide [jq,hb,hb2,hx,n1,n2,hsl,h0,ai,aa,av,az,b1]; rfl⟩
  by_cases b2:w.node>wrap .i64 (wrap .i64 (c.hosts+1)+c.ways)
  case pos=>exact ⟨_,by simp +decide [jq,hb,hb2,hx,n1,n2,hsl,h0,ai,aa,av,az,b1,b2]; rfl⟩
  cases F
  case true=>exact ⟨_,by simp +decide [jq,hb,hb2,hx,n1,n2,hsl,h0,ai,aa,av,az,b1,b2]; rfl⟩
  refine ⟨[.cells (w.c.map .d)]++ys,?_⟩;simp +decide [jq,hb,hb2,hx,n1,n2,hsl,h0,ai,aa,av,az,b1,b2,hw];simpa using q
def dJ (c:Cfg):Bool:=!iw c [] c.bound.l&&dQ (c.bound.l.map Way.id)
theorem Yf (c:Cfg)(hc:c.wf big)(h:Hp):Sm E TT aj 70 [c.v] h=some (bl (dJ c),h):=by
 have hok:=hc.ok (bp _);obtain ⟨ys,q⟩:=Xu (E:=E) c hc c.bound.l.length 0 [.cells (c.c.map .d)] (by omega) (by simp);have n1:=fun h=>YD (E:=E) c.bound hok.2.2.1 h;rw [aV t210 v210];unfold dJ;simp at q;generalize iw c [] c.bound.l=A at *;simp [ae,Lp];rw [au];simp [q];cases A<;>simp [n1]
end
section
variable {E:Calls'}
structure Ar (c:Cfg) (acc:List Int) (bs:List Blk) (v:V):Prop where
 c0:af bs 0=some (c.c.map .d)
 is:∃ b cap,0<b/\v=.row b 0 acc.length cap 1/\af bs b=some (acc.map (iv .u32))/\(cap=none\/cap=some acc.length)
 ne:acc≠[]
theorem Ar.nu {c:Cfg}{acc:List Int}{bs:List Blk}{v:V}(h:Ar c acc bs v):Go.Proofs.YtmcchclfpneglaaGreat.nu v=some v:=by
 obtain ⟨b,cap,_,rfl,_⟩:=h.is; rfl
theorem Ar.lay {c:Cfg}{acc:List Int}{bs:List Blk}{v:V}(h:Ar c acc bs v)(ys:List Blk):Ar c acc (bs++ys) v:=by
 obtain ⟨b,cap,k1,k2,k3,k4⟩:=h.is;exact ⟨ax h.c0,⟨b,cap,k1,k2,ax k3,k4⟩,h.ne⟩
theorem Ar.app {c:Cfg}{acc:List Int}{bs:List Blk}{v:V}(h:Ar c acc bs v)(hl:acc.length<big)(lo:Nat){x:Int}{r:Nat}{cap:Option Nat}(hr:af bs r=some [iv .u32 x]) :
 ∃ v' bs' lo',dZ ⟨bs,lo⟩ 1 4 v (.row r 0 1 cap 1)=some (v',⟨bs',lo'⟩)/\Ar c (acc++[x]) bs' v':=by
 obtain ⟨b,cp,k1,rfl,k3,k4⟩:=h.is;have hbl:=aI k3;have h0l:=aI h.c0;have hrc:aD ⟨bs,lo⟩ (.row r 0 1 cap 1) 1=some (1,[iv .u32 x]):=by
  simp only [aD,if_true,get_eq,hr]; rfl
 have hsub:sub (acc.map (iv .u32)) 0 (acc.length * 1)=some (acc.map (iv .u32)):=bH (by simp);have hroom:roomy (acc.length+1) 4=true:=by
  simp only [roomy,aq,br]; exact ⟨hl,by decide⟩
 have hpos:0<acc.length:=List.length_pos_iff.2 h.ne;have hcs:(acc.map (iv .u32))++[iv .u32 x]=(acc++[x]).map (iv .u32):=by simp
 rcases k4 with rfl | rfl
 · refine ⟨.row bs.length 0 (acc.length+1) none 1,bs.set b (.cells [])++[.cells ((acc++[x]).map (iv .u32))],min lo b,?_,⟨?_,?_,by simp⟩⟩
   · simp only [dZ,hrc,aF,get_eq,k3,hsub,hroom];simp [hpos,Hp.set]
   · refine ax ?_;have:=h.c0;unfold af at this ⊢;rw [am (by omega)]; exact this
   · exact ⟨bs.length,none,by omega,by simp,by have:=di (bs:=bs.set b (.cells [])) (ys:=[.cells ((acc++[x]).map (iv .u32))]); simp only [List.length_set] at this; rw [this]; rfl,.inl rfl⟩
 · refine ⟨.row bs.length 0 (acc.length+1) none 1,bs++[.cells ((acc++[x]).map (iv .u32))],lo,?_,⟨ax h.c0,?_,by simp⟩⟩
   · simp only [dZ,hrc,aF,get_eq,k3,hsub,hroom];simp;intro hh; omega
   · exact ⟨bs.length,none,by omega,by simp,by rw [di]; rfl,.inl rfl⟩
theorem Rt (c:Cfg)(hc:c.ok)(hsm:c.pods.l.length<=2 ^ 20):∀ (m i:Nat) (acc:List Int) (bs:List Blk) (lo:Nat) (v:V),i+m=c.pods.l.length->acc.length=i+1->Ar c acc bs v →
 ∃ v' bs' lo',Cd E TT aj (.loop [1,3,15,16,17] ou) [(1,.ptr 0 0),(3,v),(15,.d (c.pods.d Pod.c)),(16,.d (i64 c.pods.l.length)),(17,.d (i64 i))] ⟨bs,lo⟩ =
  some (.exit 0,[(1,.ptr 0 0),(3,v')],⟨bs',lo'⟩)/\Ar c (acc++(c.pods.l.drop i).map Pod.addr) bs' v':=by
 have hlt:=hc.1.lt;intro m;have key:=aC (E:=E) (T:=TT) (val:=aj) [1,3,15,16,17] ou;generalize Cd E TT aj (.loop [1,3,15,16,17] ou)=W at key ⊢
 induction m with
 | zero =>
  intro i acc bs lo v hi ha hA;refine ⟨v,bs,lo,?_,by rw [ba (by omega)]; simpa using hA⟩;rw [key];simp [ou,show ¬ ((i:Int)<c.pods.l.length) from by omega]
 | succ m ih =>
  intro i acc bs lo v hi ha hA;have h1:i<c.pods.l.length:=by omega
  have hx:=fun h=>ay (z:=7) h (ac h1) (cells:=Pod.c) rfl;have hw:=ak h1 hlt;have hnu:=hA.nu;rw [aw h1];generalize c.pods.l[i]=p at *;have hA2:=hA.lay [.cells (p.c.map .d),.cells [iv .u32 p.addr]];obtain ⟨v1,bs1,lo1,k1,k2⟩:=hA2.app (by show _<2 ^ 30; omega) (min lo bs.length) (x:=p.addr) (r:=bs.length+1) (cap:=some 1) (by simp);have hnu1:=k2.nu;obtain ⟨v',bs',lo',q1,q2⟩:=ih (i+1) (acc++[p.addr]) bs1 lo1 v1 (by omega) (by simp; omega) k2;refine ⟨v',bs',lo',?_,by simpa using q2⟩;rw [key];simp [iv] at k1;simp [ou,hx,hnu,aH,k1,hnu1,hw,show ((i:Int)<c.pods.l.length) from by omega];simpa using q1
theorem Ru (c:Cfg)(hc:c.ok)(n:Nat)(hn:n<=2 ^ 20)(hsm:c.services.l.length<=2 ^ 20):∀ (m i:Nat) (acc:List Int) (bs:List Blk) (lo:Nat) (v:V),i+m=c.services.l.length->acc.length=n+i+1->Ar c acc bs v →
 ∃ v' bs' lo',Cd E TT aj (.loop [3,28,29,30] oz) [(3,v),(28,.d (c.services.d Svc.c)),(29,.d (i64 c.services.l.length)),(30,.d (i64 i))] ⟨bs,lo⟩ =
  some (.exit 2,[(3,v')],⟨bs',lo'⟩)/\Ar c (acc++(c.services.l.drop i).map Svc.addr) bs' v':=by
 have hlt:=hc.2.1.lt;intro m;have key:=aC (E:=E) (T:=TT) (val:=aj) [3,28,29,30] oz;generalize Cd E TT aj (.loop [3,28,29,30] oz)=W at key ⊢
 induction m with
 | zero =>
  intro i acc bs lo v hi ha hA;refine ⟨v,bs,lo,?_,by rw [ba (by omega)]; simpa using hA⟩;rw [key];simp [oz,show ¬ ((i:Int)<c.services.l.length) from by omega]
 | succ m ih =>
  intro i acc bs lo v hi ha hA;have h1:i<c.services.l.length:=by omega
  have hx:=fun h=>ay (z:=5) h (ac h1) (cells:=Svc.c) rfl;have hw:=ak h1 hlt;have hnu:=hA.nu;rw [aw h1];generalize c.services.l[i]=p at *;have hA2:=hA.lay [.cells (p.c.map .d),.cells [iv .u32 p.addr]];obtain ⟨v1,bs1,lo1,k1,k2⟩:=hA2.app (by show _<2 ^ 30; omega) (min lo bs.length) (x:=p.addr) (r:=bs.length+1) (cap:=some 1) (by simp);have hnu1:=k2.nu;obtain ⟨v',bs',lo',q1,q2⟩:=ih (i+1) (acc++[p.addr]) bs1 lo1 v1 (by omega) (by simp; omega) k2;refine ⟨v',bs',lo',?_,by simpa using q2⟩;rw [key];simp [iv] at k1;simp [oz,hx,hnu,aH,k1,hnu1,hw,show ((i:Int)<c.services.l.length) from by omega];simpa using q1
theorem zL {bs:List Blk}{b lo:Nat}{l:List Int}(hb:af bs b=some (l.map (iv .u32))){j:Nat}(hj:j<l.length):ldv ⟨bs,lo⟩ (.ptr b j) 1 true=some (.d (.int .u32 l[j]),⟨bs,lo⟩):=by
 have hs:sub (l.map (iv .u32)) j 1=some [iv .u32 l[j]]:=by
  rw [eY,if_pos (by simp; omega),aw (by simpa using hj)]; simp
 rw [dD,get_eq];show (match (match af bs b with | some cs=>sub cs j 1 | none=>none) with | some cs=>_ | none=>none)=_;rw [hb];simp only [hs]; rfl
theorem Rv {bs:List Blk}{b lo:Nat}{l:List Int}(hb:af bs b=some (l.map (iv .u32)))(hl:l.length<2 ^ 62){cap:Option Nat}{i:Nat}(hi:i<l.length)(x:Int):∀ (m j:Nat),j+m=i →
 Cd E TT aj (.loop [3,8,10,40,41,42,49,50,51] mo) [(3,.row b 0 l.length cap 1),(8,.d (.bool false)),(10,.d (.int .u32 x)),(40,.row b 0 l.length cap 1),(41,.d (i64 l.length)),(42,.d (i64 i)),(49,.row b 0 i cap 1),(50,.d (i64 i)),(51,.d (i64 j))] ⟨bs,lo⟩ =
  cond (((l.take i).drop j).any fun y=>x==y) (some (.exit 4,[(8,bl true)],⟨bs,lo⟩)) (some (.exit 6,[(3,.row b 0 l.length cap 1),(8,.d (.bool false)),(40,.row b 0 l.length cap 1),(41,.d (i64 l.length)),(42,.d (i64 i))],⟨bs,lo⟩)):=by
 intro m;have key:=aC (E:=E) (T:=TT) (val:=aj) [3,8,10,40,41,42,49,50,51] mo;generalize Cd E TT aj (.loop [3,8,10,40,41,42,49,50,51] mo)=W at key ⊢
 induction m with
 | zero =>
  intro j hj;rw [key,ba (by simp; omega)];simp [mo,show ¬ ((j:Int)<(i:Int)) from by omega]
 | succ m ih =>
  intro j hj;have h1:j<i:=by omega
  have hix:=fun h=>jM (b:=b) (o:=0) (z:=1) (cap:=cap) (kd:=.i64) (h:=h) h1;have hld:=zL (lo:=lo) hb (show j<l.length by omega);have hw:=ak (show j<l.length by omega) hl;simp only [Nat.mul_one,Nat.zero_add] at hix;have q:=ih (j+1) (by omega);rw [key,aw (show j<(l.take i).length by simp; omega)];simp only [List.getElem_take,List.any_cons];generalize l[j]'(by omega)=y at *;generalize ((l.take i).drop (j+1)).any (fun y=>x==y)=R at *;have h0:((j:Int)<(i:Int)):=by omega
  by_cases hxy:x=y
  · simp [mo,hix,hld,h0,h1,hxy,-dD]
  · simp [mo,hix,hld,h0,h1,hxy,hw,-dD];simpa using q
def dup:List Int->List Int->Bool
 | _,[]=>false
 | pre,x::l=>(pre.any fun y=>x==y)||dup (pre++[x]) l
theorem Rw {bs:List Blk}{b lo:Nat}{l:List Int}(hb:af bs b=some (l.map (iv .u32)))(hl:l.length<2 ^ 62){cap:Option Nat}:∀ (m i:Nat),i+m=l.length →
 Cd E TT aj (.loop [3,8,40,41,42] oC) [(3,.row b 0 l.length cap 1),(8,.d (.bool false)),(40,.row b 0 l.length cap 1),(41,.d (i64 l.length)),(42,.d (i64 i))] ⟨bs,lo⟩ =
  some (.exit 4,[(8,bl (dup (l.take i) (l.drop i)))],⟨bs,lo⟩):=by
 intro m;have key:=aC (E:=E) (T:=TT) (val:=aj) [3,8,40,41,42] oC;generalize Cd E TT aj (.loop [3,8,40,41,42] oC)=W at key ⊢
 induction m with
 | zero =>
  intro i hi;rw [key,ba (by omega)];simp [oC,dup,show ¬ ((i:Int)<l.length) from by omega]
 | succ m ih =>
  intro i hi;have h1:i<l.length:=by omega
  have hix:=fun h=>jM (b:=b) (o:=0) (z:=1) (cap:=cap) (kd:=.i64) (h:=h) h1;have hld:=zL (lo:=lo) hb h1;have hw:=ak h1 hl;simp only [Nat.mul_one,Nat.zero_add] at hix;have q:=ih (i+1) (by omega);have htake:l.take (i+1)=l.take i++[l[i]]:=by rw [List.take_add_one,ac h1]; rfl
  have hin:=Rv (E:=E) (lo:=lo) hb hl (cap:=cap) h1 l[i] i 0 (by omega);have hsl:=fun (h:Hp) (ev:X->V) (hx:ev (.t 48)=.d (.int .i64 i))=>rZ (h:=h) (ev:=ev) (x:=.t 48) (b:=b) (z:=1) (len:=l.length) (cap:=cap) (n:=i) hx (by omega);rw [htake] at q;rw [key,aw h1];simp only [dup];simp only [List.drop_zero] at hin;generalize l[i]=x at *;generalize ((l.take i).any fun y=>x==y)=F at *;have h0:((i:Int)<l.length):=by omega
  simp at hin;simp [oC,hix,hld,h0,h1,hsl,-dD];rw [au];simp [hin];cases F
  · simp [hw];simpa using q
  · simp
theorem Ye (c:Cfg)(hc:c.wf 1048576)(h:Hp):Sm E TT aj 69 [c.v] h=some (bl (!dup [] (0::(c.pods.l.map Pod.addr++c.services.l.map Svc.addr))),h):=by
 have hok:c.ok:=hc.ok (by decide);have f1:c.pods.l.length<=2 ^ 20:=hc.2.2.2.2.1.1.1;have f2:c.services.l.length<=2 ^ 20:=hc.2.2.2.2.2.1.1.1;have hA:Ar c [0] [.cells (c.c.map .d),.cells [iv .u32 0]] (.row 1 0 1 (some 1) 1):=⟨by simp,⟨1,some 1,by omega,rfl,by simp,.inr rfl⟩,by simp⟩;obtain ⟨v1,bs1,lo1,a1,a2⟩:=Rt (E:=E) c hok f1 c.pods.l.length 0 [0] _ 0 _ (by omega) rfl hA;simp only [List.drop_zero] at a2;obtain ⟨v2,bs2,lo2,b1,b2⟩:=Ru (E:=E) c hok c.pods.l.length f1 f2 c.services.l.length 0 _ bs1 lo1 v1 (by omega) (by simp) a2;simp only [List.drop_zero] at b2;have hl:([0]++c.pods.l.map Pod.addr++c.services.l.map Svc.addr)=0::(c.pods.l.map Pod.addr++c.services.l.map Svc.addr):=by simp
 rw [hl] at b2;have hlen:(0::(c.pods.l.map Pod.addr++c.services.l.map Svc.addr)).length<2 ^ 62:=by simp; omega
 generalize (0::(c.pods.l.map Pod.addr++c.services.l.map Svc.addr))=L at *;obtain ⟨b,cap,p1,rfl,p3,p4⟩:=b2.is;have d1:=Rw (E:=E) (lo:=lo2) p3 hlen (cap:=cap) L.length 0 (by omega);have hc0:=a2.c0;have hnu:=a2.nu;rw [aV ac6 ar7];simp [iv] at a1;simp at b1 d1;simp [ae,Lm,aH];rw [au];simp [a1,hc0,hnu];rw [au];simp [b1];rw [au];simp [d1]
def jA (c:Cfg):Bool:=!dup [] (0::(c.pods.l.map Pod.addr++c.services.l.map Svc.addr))
end
section
variable {E:Calls'}
def bT (c:Cfg):Bool:=decide ((c.pods.l.length:Int)<=16)&&decide ((c.services.l.length:Int)<=6)&&decide ((c.bound.l.length:Int)<=4)&&decide ((c.policies.l.length:Int)<=12)
theorem S92 (c:Cfg)(h:Hp):Sm E TT aj 23 [c.v] h=some (bl (bT c),h):=by
 unfold bT;rw [aV t92 v92];by_cases a1:(c.pods.l.length:Int)<=16
 case neg=>simp +decide [ae,q92,ai,aa,av,az,a1]
 by_cases a2:(c.services.l.length:Int)<=6
 case neg=>simp +decide [ae,q92,ai,aa,av,az,a1,a2]
 by_cases a3:(c.bound.l.length:Int)<=4
 case neg=>simp +decide [ae,q92,ai,aa,av,az,a1,a2,a3]
 simp +decide [ae,q92,ai,aa,av,az,a1,a2,a3]
def jI (c:Cfg):Bool:=decide (c.epoch<=4611686018427387903)&&decide (c.next>=10)&&decide (c.next<=4611686018427387904)&&decide (c.hosts>=1)&&decide (c.hosts<=4)&&decide (c.ways>=0)&&decide (c.ways<=4)
def gP (c:Cfg):Bool:=jI c&&fG c&&bL c&&jA c&&dJ c&&bB c
theorem S93 (h385:∀ t:Target,t.wf big->∀ h,E 201 [ag t.c] h=some (bl (aR t),h))(c:Cfg)(hc:c.wf 1048576)(hcb:c.wf big)(h:Hp):Sm E TT aj 24 [c.v] h=some (bl (gP c),h):=by
 have n1:=fun h=>Yc (E:=E) c hcb h;have n2:=fun h=>Yd (E:=E) c hcb h;have n3:∀ h,Sm E TT aj 69 [c.v] h=some (bl (jA c),h):=fun h=>Ye (E:=E) c hc h;have n4:=fun h=>Yf (E:=E) c hcb h;have n5:=fun h=>Yg h385 c hcb h;unfold gP;generalize fG c=A at *;generalize bL c=B at *;generalize jA c=C at *;generalize dJ c=D at *;generalize bB c=F at *;rw [aV t93 v93];by_cases a1:c.epoch<=4611686018427387903
 case neg=>simp +decide [ae,q93,ai,aa,av,az,jI,a1]
 by_cases a2:c.next>=10
 case neg=>simp +decide [ae,q93,ai,aa,av,az,jI,a1,a2]
 by_cases a3:c.next<=4611686018427387904
 case neg=>simp +decide [ae,q93,ai,aa,av,az,jI,a1,a2,a3]
 by_cases a4:c.hosts>=1
 case neg=>simp +decide [ae,q93,ai,aa,av,az,jI,a1,a2,a3,a4]
 by_cases a5:c.hosts<=4
 case neg=>simp +decide [ae,q93,ai,aa,av,az,jI,a1,a2,a3,a4,a5]
 by_cases a6:c.ways>=0
 case neg=>simp +decide [ae,q93,ai,aa,av,az,jI,a1,a2,a3,a4,a5,a6]
 by_cases a7:c.ways<=4
 case neg=>simp +decide [ae,q93,ai,aa,av,az,jI,a1,a2,a3,a4,a5,a6,a7]
 cases A
 case false=>simp +decide [ae,q93,ai,aa,av,az,jI,a1,a2,a3,a4,a5,a6,a7,n1]
 cases B
 case false=>simp +decide [ae,q93,ai,aa,av,az,jI,a1,a2,a3,a4,a5,a6,a7,n1,n2]
 cases C
 case false=>simp +decide [ae,q93,ai,aa,av,az,jI,a1,a2,a3,a4,a5,a6,a7,n1,n2,n3]
 cases D
 case false=>simp +decide [ae,q93,ai,aa,av,az,jI,a1,a2,a3,a4,a5,a6,a7,n1,n2,n3,n4]
 simp +decide [ae,q93,ai,aa,av,az,jI,a1,a2,a3,a4,a5,a6,a7,n1,n2,n3,n4,n5]
end
section
def EG (x:V)(h:Hp):Option (V×Hp):=match x with
 | .ptr b o=>some (.ptr b o,h)
 | .eptr cs o=>some (.eptr cs o,h)
 | .fn f cs=>some (.fn f cs,h)
 | .mfn f cs=>some (.mfn f cs,h)
 | _=>none
section
variable {C:Calls'}{ev:X->V}{h:Hp}
@[simp] theorem OQ {x:X}:opE C (.nilchk x) ev h=EG (ev x) h:=(rfl)
@[simp] theorem OE {b o:Nat}:EG (.ptr b o) h=some (.ptr b o,h):=(rfl)
@[simp] theorem V4 {b o:Nat}{neg:Bool}:eqv .ptr neg (.ptr b o) (.d .nilp) h=some (.d (.bool (false != neg)),h):=(rfl)
end
def jl (bs:List Blk)(p:Nat):Option Nat:=match af bs p with
 | some [.row b _ _ _ _]=>some b
 | _=>none
def Wr (bs:List Blk)(p:Nat)(l:List Int):Prop :=
 (l=[]/\af bs p=some [.d (.slice true [])])\/(l≠[]/\∃ b,b≠p/\af bs p=some [.row b 0 l.length none 1]/\af bs b=some (l.map (iv .u8)))
def Fx (p:Nat)(bs bs':List Blk):Prop:=bs.length<=bs'.length/\∀ x cs,x≠p->jl bs p≠some x->af bs x=some cs->af bs' x=some cs/\jl bs' p≠some x
theorem Fx.refl (p:Nat)(bs:List Blk):Fx p bs bs:=⟨bp _,fun x cs _ h2 h3=>⟨h3,h2⟩⟩
theorem Fx.trans {p:Nat}{a b c:List Blk}(h:Fx p a b)(k:Fx p b c):Fx p a c :=
 ⟨ce h.1 k.1,fun x cs h1 h2 h3=>k.2 x cs h1 (h.2 x cs h1 h2 h3).2 (h.2 x cs h1 h2 h3).1⟩
theorem Wr.len {bs:List Blk}{p:Nat}{l:List Int}(h:Wr bs p l):p<bs.length:=by
 rcases h with ⟨_,h⟩ | ⟨_,b,_,h,_⟩<;>exact aI h
theorem Wr.row_lt {bs:List Blk}{p:Nat}{l:List Int}(h:Wr bs p l){x:Nat}(hx:jl bs p=some x):x<bs.length:=by
 rcases h with ⟨_,h⟩ | ⟨_,b,_,h,h2⟩
 · simp [jl,h] at hx
 · simp only [jl,h,bd] at hx;subst hx; exact aI h2
theorem nU {bs:List Blk}{p:Nat}(h:p<bs.length)(ys:List Blk):jl (bs++ys) p=jl bs p:=by
 simp only [jl,Eu h]
theorem Wr.lay {bs:List Blk}{p:Nat}{l:List Int}(h:Wr bs p l)(ys:List Blk):Wr (bs++ys) p l:=by
 rcases h with ⟨h1,h2⟩ | ⟨h1,b,h2,h3,h4⟩
 · exact .inl ⟨h1,ax h2⟩
 · exact .inr ⟨h1,b,h2,ax h3,ax h4⟩
theorem Fx.lay {p:Nat}{bs:List Blk}(h:p<bs.length)(ys:List Blk):Fx p bs (bs++ys) :=
 ⟨by simp,fun x cs h1 h2 h3=>⟨ax h3,by rw [nU h]; exact h2⟩⟩
theorem dF {bs:List Blk}{b x:Nat}{cs:List V}:af (bs.set b (.cells cs)) x=if b=x then (if b<bs.length then some cs else none) else af bs x:=by
 unfold af;rw [List.getElem?_set];by_cases h:b=x
 · subst h;by_cases hb:b<bs.length<;>simp [hb]
 · simp [h]
theorem Wr.app {bs:List Blk}{p:Nat}{l:List Int}(h:Wr bs p l){x:V}{xs:List Int}{m lo:Nat}(hr:aD ⟨bs,lo⟩ x 1=some (m,xs.map (iv .u8)))(hm:m=xs.length)(hl:l.length+xs.length<=big) :
 ∃ v v' bs1 lo1,af bs p=some [v]/\nu v=some v/\nu v'=some v'/\v'.cells=some [v']/\dZ ⟨bs,lo⟩ 1 1 v x=some (v',⟨bs1,lo1⟩)/\p<bs1.length/\af bs1 p=some [v]/\Wr (bs1.set p (.cells [v'])) p (l++xs)/\Fx p bs (bs1.set p (.cells [v'])):=by
 subst hm;have hp:=h.len;have hroom:roomy (l.length+xs.length) 1=true:=by
  simp only [roomy,aq,br]; exact ⟨hl,by decide⟩
 rcases h with ⟨rfl,h2⟩ | ⟨h1,b,h2,h3,h4⟩
 · by_cases hx:xs=[]
   · subst hx;refine ⟨.d (.slice true []),.d (.slice true []),bs,lo,h2,rfl,rfl,rfl,?_,hp,h2,.inl ⟨rfl,by simp [dF,hp]⟩,?_⟩
     · simp [dZ,hr,aF]
     · refine ⟨by simp,fun y cs k1 k2 k3=>⟨by rw [dF,if_neg (Ne.symm k1)]; exact k3,?_⟩⟩;simp [jl,dF,hp]
   · have hx0:¬ xs.length=0:=by simpa using hx
     have hroom':roomy xs.length 1=true:=by simpa using hroom
     refine ⟨.d (.slice true []),.row bs.length 0 xs.length none 1,bs++[.cells (xs.map (iv .u8))],lo,h2,rfl,rfl,rfl,?_,by simp; omega,ax h2,.inr ⟨by simpa using hx,bs.length,by omega,?_,?_⟩,?_⟩
     · simp [dZ,hr,aF,hx0,hx,hroom']
     · rw [dF,if_pos rfl,if_pos (by simp; omega)]; simp
     · rw [dF,if_neg (by omega),di]; simp
     · refine ⟨by simp,fun y cs k1 k2 k3=>⟨by rw [dF,if_neg (Ne.symm k1)]; exact ax k3,?_⟩⟩;have:=aI k3;simp [jl,dF];rw [if_pos (by omega)];simp; omega
 · have hbl:=aI h4;have hpos:0<l.length:=List.length_pos_iff.2 h1;by_cases hx:xs=[]
   · subst hx;refine ⟨.row b 0 l.length none 1,.row b 0 l.length none 1,bs,lo,h3,rfl,rfl,rfl,?_,hp,h3,.inr ⟨by simpa using h1,b,h2,?_,?_⟩,?_⟩
     · simp [dZ,hr,aF]
     · rw [dF,if_pos rfl,if_pos hp]; simp
     · rw [dF,if_neg (Ne.symm h2)]; simpa using h4
     · refine ⟨by simp,fun y cs k1 k2 k3=>⟨by rw [dF,if_neg (Ne.symm k1)]; exact k3,?_⟩⟩;simp only [jl,h3] at k2;simpa [jl,dF,hp] using k2
   · have hx0:¬ xs.length=0:=by simpa using hx
     have hsub:sub (l.map (iv .u8)) 0 (l.length * 1)=some (l.map (iv .u8)):=bH (by simp);refine ⟨.row b 0 l.length none 1,.row bs.length 0 (l.length+xs.length) none 1,bs.set b (.cells [])++[.cells ((l++xs).map (iv .u8))],min lo b,h3,rfl,rfl,rfl,?_,by simp; omega,?_,.inr ⟨by simp [h1],bs.length,by omega,?_,?_⟩,?_⟩
     · simp only [dZ,hr,aF,get_eq,h4,hsub,hroom];simp [hx0,hx,hpos,Hp.set]
     · refine ax ?_;rw [dF,if_neg h2]; exact h3
     · rw [dF,if_pos rfl,if_pos (by simp; omega)]; simp
     · rw [dF,if_neg (by omega)];have:=di (bs:=bs.set b (.cells [])) (ys:=[.cells ((l++xs).map (iv .u8))]);simp only [List.length_set] at this;rw [this]; rfl
     · refine ⟨by simp,fun y cs k1 k2 k3=>?_⟩;simp only [jl,h3,ne_eq,bd] at k2;have:=aI k3;refine ⟨by rw [dF,if_neg (Ne.symm k1)]; exact ax (by rw [dF,if_neg k2]; exact k3),?_⟩;simp [jl,dF];rw [if_pos (by omega)];simp; omega
section
variable {E:Calls'}
def jT (E:Calls')(f:FuncId)(args:List V)(p:Nat)(bs:List Blk)(l xs:List Int):Prop:=∀ lo,∃ bs' lo',Sm E TT aj f args ⟨bs,lo⟩=some (.tup [],⟨bs',lo'⟩)/\lo'<=p/\Wr bs' p (l++xs)/\Fx p bs bs'
theorem SE {p:Nat}{bs:List Blk}{l xs:List Int}(h:Wr bs p l){x:V}(hnu:nu x=some x){m:Nat}(hr:∀ lo,aD ⟨bs,lo⟩ x 1=some (m,xs.map (iv .u8)))(hm:m=xs.length)(hl:l.length+xs.length<=big):jT E 131 [.ptr p 0,x] p bs l xs:=by
 intro lo;obtain ⟨v,v',bs1,lo1,k1,k2,k3,k4,k5,k6,k7,k8,k9⟩:=h.app (hr bs.length) hm hl;have hp:=h.len;refine ⟨_,min lo (min lo1 p),?_,by omega,k8,k9⟩;rw [aN af0 au6];simp [ae,LP,k1,k2,k3,k4,k5,k7,hnu,V.under,Hp.set];rw [if_neg (fun hh=>by have:=hh.1; omega)];rfl
end
end
section
variable {E:Calls'}
def lenTab:ByteArray:=⟨#[0,1,2,2,3,3,3,3,4,4,4,4,4,4,4,4,5,5,5,5,5,5,5,5,5,5,5,5,5,5,5,5,6,6,6,6,6,6,6,6,6,6,6,6,6,6,6,6,6,6,6,6,6,6,6,6,6,6,6,6,6,6,6,6,7,7,7,7,7,7,7,7,7,7,7,7,7,7,7,7,7,7,7,7,7,7,7,7,7,7,7,7,7,7,7,7,7,7,7,7,7,7,7,7,7,7,7,7,7,7,7,7,7,7,7,7,7,7,7,7,7,7,7,7,7,7,7,7,8,8,8,8,8,8,8,8,8,8,8,8,8,8,8,8,8,8,8,8,8,8,8,8,8,8,8,8,8,8,8,8,8,8,8,8,8,8,8,8,8,8,8,8,8,8,8,8,8,8,8,8,8,8,8,8,8,8,8,8,8,8,8,8,8,8,8,8,8,8,8,8,8,8,8,8,8,8,8,8,8,8,8,8,8,8,8,8,8,8,8,8,8,8,8,8,8,8,8,8,8,8,8,8,8,8,8,8,8,8,8,8,8,8,8,8,8,8,8,8,8,8,8,8,8,8,8,8]⟩
def lenL:List UInt8:=lenTab.data.toList
theorem IA:lenL.length=256:=by decide +kernel
theorem De:lenL.all (fun b=>decide (b.toNat<=8))=true:=by decide +kernel
def lenT (i:Nat):Int:=match lenL[i]? with
 | some b=>b.toNat
 | none=>0
theorem y8 (i:Nat):0<=lenT i/\lenT i<=8:=by
 unfold lenT;split
 · rename_i b hb;have:=ch.1 De b (ca hb);simp at this;omega
 · omega
theorem VI (n:Int):0<=wrap .u8 n/\wrap .u8 n<256:=by
 simp [wrap,IntKind.bits,IntKind.signed];omega
theorem OC {n:Int}{h:Hp}:uC (.d (.str lenTab)) (.d (.int .u8 (wrap .u8 n))) h=some (.d (.int .u8 (lenT (wrap .u8 n).toNat)),h):=by
 obtain ⟨h0,h1⟩:=VI n;generalize wrap .u8 n=m at *;have hlt:m.toNat<lenL.length:=by rw [IA]; omega
 have hb:lenTab.toList[m.toNat]?=some lenL[m.toNat]:=by rw [bM]; exact ac hlt
 simp only [uC,if_pos h0,hb,lenT,ac hlt]
def lY (x:Int):Int:=if x>=4294967296 then x.fdiv 4294967296 else x
def mO (x:Int):Int:=if x>=65536 then x.fdiv 65536 else x
def sV (x:Int):Int:=if x>=256 then x.fdiv 256 else x
def fC (x:Int):Int:=(if x>=4294967296 then 32 else 0)+(if lY x>=65536 then 16 else 0)+(if mO (lY x)>=256 then 8 else 0)+lenT (wrap .u8 (sV (mO (lY x)))).toNat
theorem qU (x:Int):0<=fC x/\fC x<=64:=by
 have:=y8 (wrap .u8 (sV (mO (lY x)))).toNat;unfold fC
 repeat' split
 all_goals omega
theorem Oz (x:Int):(x>=4294967296/\bV .shr (.d (.int .u64 x)) (.d (.int .u64 32))=some (.int .u64 (lY x)))\/(¬ x>=4294967296/\lY x=x):=by
 by_cases c:x>=4294967296
 · exact .inl ⟨c,by rw [ib (by decide),lY,if_pos c]; rfl⟩
 · exact .inr ⟨c,if_neg c⟩
theorem OA (x:Int):(x>=65536/\bV .shr (.d (.int .u64 x)) (.d (.int .u64 16))=some (.int .u64 (mO x)))\/(¬ x>=65536/\mO x=x):=by
 by_cases c:x>=65536
 · exact .inl ⟨c,by rw [ib (by decide),mO,if_pos c]; rfl⟩
 · exact .inr ⟨c,if_neg c⟩
theorem OB (x:Int):(x>=256/\bV .shr (.d (.int .u64 x)) (.d (.int .u64 8))=some (.int .u64 (sV x)))\/(¬ x>=256/\sV x=x):=by
 by_cases c:x>=256
 · exact .inl ⟨c,by rw [ib (by decide),sV,if_pos c]; rfl⟩
 · exact .inr ⟨c,if_neg c⟩
theorem YQ (x:Int)(h:Hp):Sm E TT aj 179 [.d (u64 x)] h=some (.d (i64 (fC x)),h):=by
 rw [aV af9 av5];have htab:(⟨#[0,1,2,2,3,3,3,3,4,4,4,4,4,4,4,4,5,5,5,5,5,5,5,5,5,5,5,5,5,5,5,5,6,6,6,6,6,6,6,6,6,6,6,6,6,6,6,6,6,6,6,6,6,6,6,6,6,6,6,6,6,6,6,6,7,7,7,7,7,7,7,7,7,7,7,7,7,7,7,7,7,7,7,7,7,7,7,7,7,7,7,7,7,7,7,7,7,7,7,7,7,7,7,7,7,7,7,7,7,7,7,7,7,7,7,7,7,7,7,7,7,7,7,7,7,7,7,7,8,8,8,8,8,8,8,8,8,8,8,8,8,8,8,8,8,8,8,8,8,8,8,8,8,8,8,8,8,8,8,8,8,8,8,8,8,8,8,8,8,8,8,8,8,8,8,8,8,8,8,8,8,8,8,8,8,8,8,8,8,8,8,8,8,8,8,8,8,8,8,8,8,8,8,8,8,8,8,8,8,8,8,8,8,8,8,8,8,8,8,8,8,8,8,8,8,8,8,8,8,8,8,8,8,8,8,8,8,8,8,8,8,8,8,8,8,8,8,8,8,8,8,8,8,8,8,8]⟩:ByteArray)=lenTab:=rfl;have hl:=y8 (wrap .u8 (sV (mO (lY x)))).toNat;have hL:=fun h=>OC (n:=sV (mO (lY x))) (h:=h);unfold fC;have hA:=Oz x;have hB:=OA (lY x);have hC:=OB (mO (lY x));have hw:∀ n:Int,0<=n->n<=1000->wrap .i64 n=n:=fun n h1 h2=>wrap64 (by omega) (by omega);have w16:=hw 16 (by omega) (by omega);have w40:=hw 40 (by omega) (by omega);have w48:=hw 48 (by omega) (by omega);have w56:=hw 56 (by omega) (by omega);have w24:=hw 24 (by omega) (by omega);have w8:=hw 8 (by omega) (by omega);generalize lY x=a at *;generalize mO a=b at *;generalize sV b=c at *;generalize lenT (wrap .u8 c).toNat=L at *;have wL:=hw L (by omega) (by omega);have v1:=hw (8+L) (by omega) (by omega);have v2:=hw (16+L) (by omega) (by omega);have v3:=hw (24+L) (by omega) (by omega);have v4:=hw (32+L) (by omega) (by omega);have v5:=hw (40+L) (by omega) (by omega)
 have v6:=hw (48+L) (by omega) (by omega);have v7:=hw (56+L) (by omega) (by omega);rcases hA with ⟨a1,a2⟩ | ⟨a1,rfl⟩<;>rcases hB with ⟨b1,b2⟩ | ⟨b1,rfl⟩<;>rcases hC with ⟨c1,c2⟩ | ⟨c1,rfl⟩<;>simp [ae,LW,htab,hL,wL,w16,w40,w48,w56,w24,w8,v1,v2,v3,v4,v5,v6,v7, *]
def nD (x:Int):Int:=if (fC x+6).tdiv 7>1 then (fC x+6).tdiv 7 else 1
theorem yZ (x:Int):1<=nD x/\nD x<=10:=by
 have:=qU x;have h2:(fC x+6).tdiv 7=(fC x+6) / 7:=Int.tdiv_eq_ediv_of_nonneg (by omega);unfold nD;rw [h2];split<;>omega
theorem YT (x:Int)(h:Hp):Sm E TT aj 158 [.d (u64 x)] h=some (.d (i64 (nD x)),h):=by
 rw [aV ag4 av9];have hl:=qU x;have h1:=fun h=>YQ (E:=E) x h;have hw:wrap .i64 (fC x+6)=fC x+6:=wrap64 (by omega) (by omega);have h2:(fC x+6).tdiv 7=(fC x+6) / 7:=Int.tdiv_eq_ediv_of_nonneg (by omega);have hq:bV .quo (.d (.int .i64 (fC x+6))) (.d (.int .i64 7))=some (.int .i64 ((fC x+6).tdiv 7)):=by
  simp only [bV,if_true,fP];rw [if_neg (by omega),wrap64]<;>omega
 simp [ae,L6,h1,hw,hq,nD]
def orI (k:IntKind)(a b:Int):Int:=k.wrap ((BitVec.ofInt k.bits a ||| BitVec.ofInt k.bits b).toNat)
theorem NY {k:IntKind}{a b:Int}:bV .or (.d (.int k a)) (.d (.int k b))=some (.int k (orI k a b)):=by simp [bV,fP,orI]
def pG:Nat->Int->List Int
 | 0,x=>[wrap .u8 x]
 | k+1,x=>orI .u8 (wrap .u8 x) 128::pG k (x.fdiv 128)
def aP (x:Int):List Int:=pG ((nD x).toNat-1) x
theorem oV (k:Nat)(x:Int):(pG k x).length=k+1:=by
 induction k generalizing x with
 | zero=>rfl
 | succ k ih=>simp [pG,ih]
theorem bv (x:Int):(aP x).length<=10:=by
 have:=yZ x;rw [aP,oV]; omega
theorem fD {bs bs':List Blk}{lo lo' p:Nat}{r:V}(h1:lo'<=p)(h2:p<bs.length):dU ⟨bs,lo⟩ (some (r,⟨bs',lo'⟩))=some (r,⟨bs',min lo lo'⟩):=by
 simp only [dU];rw [if_neg (fun hh=>by have:=hh.1; omega)]
theorem Jl {bs:List Blk}{x:Int}{k:IntKind}(lo:Nat):aD ⟨bs++[.cells [.d (.int k x)]],lo⟩ (.row bs.length 0 1 (some 1) 1) 1=some (1,[iv k x]):=by
 simp only [aD,if_true,get_eq,di];rfl
theorem wB {p:Nat}{bs:List Blk}{l:List Int}(h:Wr bs p l)(x:Int)(hl:l.length+1<=big):jT E 131 [.ptr p 0,.row bs.length 0 1 (some 1) 1] p (bs++[.cells [.d (.int .u8 x)]]) l [x] :=
 SE (h.lay _) rfl (fun lo=>Jl lo) rfl hl
theorem GL {p:Nat}:∀ (m i:Nat) (x:Int) (bs:List Blk) (lo:Nat) (l:List Int) (G:Nat),i+m=G->G<=10->Wr bs p l->l.length+(m+1)<=big →
 ∃ bs' lo' y l',Cd E TT aj (.loop [0,1,6,7] oI) [(0,.ptr p 0),(1,.d (u64 x)),(6,.d (i64 G)),(7,.d (i64 i))] ⟨bs,lo⟩=some (.exit 0,[(0,.ptr p 0),(1,.d (u64 y))],⟨bs',lo'⟩) ∧
  l++pG m x=l'++pG 0 y/\l'.length=l.length+m/\Wr bs' p l'/\Fx p bs bs':=by
 intro m;have key:=aC (E:=E) (T:=TT) (val:=aj) [0,1,6,7] oI;generalize Cd E TT aj (.loop [0,1,6,7] oI)=W at key ⊢
 induction m with
 | zero =>
  intro i x bs lo l G hi hG hW hl;refine ⟨bs,lo,x,l,?_,rfl,rfl,hW,Fx.refl _ _⟩;rw [key];simp [oI,show ¬ ((i:Int)<G) from by omega]
 | succ m ih =>
  intro i x bs lo l G hi hG hW hl;have h1:=wB (E:=E) hW (orI .u8 (wrap .u8 x) 128) (by omega);obtain ⟨bs1,lo1,k1,k2,k3,k4⟩:=h1 lo;have hw:=ak (show i<G by omega) (show G<2 ^ 62 by omega);obtain ⟨bs',lo',y,l',q1,q2,q3,q4,q5⟩:=ih (i+1) (x.fdiv 128) bs1 lo1 (l++[orI .u8 (wrap .u8 x) 128]) G (by omega) hG k3 (by simp; omega);refine ⟨bs',lo',y,l',?_,by rw [← q2]; simp [pG],by rw [q3]; simp; omega,q4,((Fx.lay hW.len _).trans k4).trans q5⟩;have hs:bV .shr (.d (.int .u64 x)) (.d (.int .u64 7))=some (.int .u64 (x.fdiv 128)):=by rw [ib (by decide)]; rfl
  rw [key];simp [oI,NY,aH,k1,hs,hw,show ((i:Int)<G) from by omega];simpa using q1
theorem Fb {p:Nat}{bs:List Blk}{l:List Int}(h:Wr bs p l)(x:Int)(hl:l.length+(aP x).length<=big):jT E 130 [.ptr p 0,.d (u64 x)] p bs l (aP x):=by
 intro lo;have hg:=yZ x;rw [aP,oV] at hl;have hp:=h.len;obtain ⟨bs1,lo1,y,l1,q1,q2,q3,q4,q5⟩:=GL (E:=E) ((nD x).toNat-1) 0 x bs bs.length l ((nD x).toNat-1) (by omega) (by omega) h (by omega);obtain ⟨bs2,lo2,k1,k2,k3,k4⟩:=wB (E:=E) q4 (wrap .u8 y) (by omega) lo1;have hS:=fun h=>YT (E:=E) x h;have hw:wrap .i64 (nD x-1)=(((nD x).toNat-1:Nat):Int):=by rw [wrap64]<;>omega
 refine ⟨bs2,min lo lo2,?_,by omega,?_,(q5.trans (Fx.lay q4.len _)).trans k4⟩
 · rw [aN ae9 au5];simp [ae,LM,hS,hw];rw [au];simp at q1;simp [q1,aH,k1];exact fD k2 hp
 · rw [aP,q2]; exact k3
theorem SI {p:Nat}{bs:List Blk}{l:List Int}(h:Wr bs p l)(x:Int)(hl:l.length+1<=big):jT E 208 [.ptr p 0,.d (.int .u8 x)] p bs l [x]:=by
 intro lo;obtain ⟨bs1,lo1,k1,k2,k3,k4⟩:=wB (E:=E) h x hl bs.length;refine ⟨bs1,min lo lo1,?_,by omega,k3,(Fx.lay h.len _).trans k4⟩;rw [aN ai5 ay0];simp [ae,Qe,aH,k1];exact fD k2 h.len
def xe (x:Int):List Int:=[wrap .u8 x,wrap .u8 (x.fdiv 256),wrap .u8 (x.fdiv 65536),wrap .u8 (x.fdiv 16777216)]
theorem Y7 {p:Nat}{bs:List Blk}{l:List Int}(h:Wr bs p l)(x:Int)(hl:l.length+4<=big):jT E 207 [.ptr p 0,.d (u32 x)] p bs l (xe x):=by
 intro lo;have s0:bV .shr (.d (.int .u32 x)) (.d (.int .i64 0))=some (.int .u32 x):=by rw [ib (by decide)]; simp
 have s1:bV .shr (.d (.int .u32 x)) (.d (.int .i64 8))=some (.int .u32 (x.fdiv 256)):=by rw [ib (by decide)]; rfl
 have s2:bV .shr (.d (.int .u32 x)) (.d (.int .i64 16))=some (.int .u32 (x.fdiv 65536)):=by rw [ib (by decide)]; rfl
 have s3:bV .shr (.d (.int .u32 x)) (.d (.int .i64 24))=some (.int .u32 (x.fdiv 16777216)):=by rw [ib (by decide)]; rfl
 obtain ⟨b1,l1,a1,a2,a3,a4⟩:=wB (E:=E) h (wrap .u8 x) (by omega) bs.length;obtain ⟨b2,l2,c1,c2,c3,c4⟩:=wB (E:=E) a3 (wrap .u8 (x.fdiv 256)) (by simp; omega) l1;obtain ⟨b3,l3,d1,d2,d3,d4⟩:=wB (E:=E) c3 (wrap .u8 (x.fdiv 65536)) (by simp; omega) l2;obtain ⟨b4,l4,e1,e2,e3,e4⟩:=wB (E:=E) d3 (wrap .u8 (x.fdiv 16777216)) (by simp; omega) l3;refine ⟨b4,min lo l4,?_,by omega,by simpa [xe] using e3,((Fx.lay h.len _).trans a4).trans (((Fx.lay a3.len _).trans c4).trans (((Fx.lay c3.len _).trans d4).trans ((Fx.lay d3.len _).trans e4)))⟩;rw [aN ai4 ax9];have key:=aC (E:=E) (T:=TT) (val:=aj) [0,1,6,7] kS;simp [ae,Qd,aH];rw [au];generalize Cd E TT aj (.loop [0,1,6,7] kS)=W at key ⊢;simp;have w1:wrap .i64 1=1:=by decide
 have w2:wrap .i64 2=2:=by decide
 have w3:wrap .i64 3=3:=by decide
 have w4:wrap .i64 4=4:=by decide
 rw [key]; simp [kS,opE,s0,aH,a1,w1];rw [key]; simp [kS,opE,s1,aH,c1,w2];rw [key]; simp [kS,opE,s2,aH,d1,w3];rw [key]; simp [kS,opE,s3,aH,e1,w4];rw [key]; simp [kS];exact fD e2 h.len
def El (x:V)(h:Hp):Option (V×Hp):=match x with
 | .d (.str s)=>if s.size<=2 ^ 40 then some (.row h.size 0 s.size none 1,h.alloc (s.toList.map fun b=>.d (.int .u8 b.toNat))) else none
 | _=>none
@[simp] theorem OO {C:Calls'}{ev:X->V}{h:Hp}{x:X}:opE C (.convSB x) ev h=El (ev x) h:=(rfl)
theorem H6 {h:Hp}{s:ByteArray}(hs:s.size<=2 ^ 40):El (.d (.str s)) h=some (.row h.size 0 s.size none 1,h.alloc (s.toList.map fun b=>.d (.int .u8 b.toNat))):=if_pos hs
def bE (s:ByteArray):List Int:=aP s.size++s.toList.map fun b=>(b.toNat:Int)
theorem ji (s:ByteArray):(bE s).length<=10+s.size:=by
 have:=bv s.size;simp only [bE,ap,bx,fw];omega
theorem Cx {p:Nat}{bs:List Blk}{l:List Int}(h:Wr bs p l)(s:ByteArray)(hl:l.length+(bE s).length<=big):jT E 74 [.ptr p 0,.d (.str s)] p bs l (bE s):=by
 intro lo;have hsz:s.toList.length=s.size:=fw s;simp only [bE,ap,bx] at hl;have hs:s.size<=2 ^ 40:=ce (m:=2 ^ 30) (by rw [← hsz]; have:big=2 ^ 30:=rfl; omega) (by decide);obtain ⟨b1,l1,a1,a2,a3,a4⟩:=Fb (E:=E) h s.size (by omega) bs.length;have hrc:∀ lo,aD ⟨b1++[.cells (s.toList.map fun b=>V.d (.int .u8 b.toNat))],lo⟩ (.row b1.length 0 s.size none 1) 1=some (s.size,(s.toList.map fun b=>(b.toNat:Int)).map (iv .u8)):=by
  intro lo;have:sub (s.toList.map fun b=>V.d (.int .u8 b.toNat)) 0 (s.size * 1)=some (s.toList.map fun b=>V.d (.int .u8 b.toNat)):=bH (by simp [hsz]);simp only [aD,if_true,get_eq,di,sS,this,List.map_map];rfl
 obtain ⟨b2,l2,c1,c2,c3,c4⟩:=SE (E:=E) (a3.lay _) (x:=.row b1.length 0 s.size none 1) rfl hrc (by simp [hsz]) (by simp; omega) l1;refine ⟨b2,min lo l2,?_,by omega,by simpa [bE] using c3,(a4.trans (Fx.lay a3.len _)).trans c4⟩;have hw:wrap .u64 (s.size:Int)=s.size:=by
  simp [wrap,IntKind.bits,IntKind.signed];omega
 rw [aN ac8 as0];simp [ae,Lu,hw,a1,H6 hs,c1];exact fD c2 h.len
theorem I9 {p:Nat}{xs:List Int}(hxn:xs.length<2 ^ 62){q:Nat}(hq:q≠p){cap:Option Nat}:∀ (m i:Nat) (bs:List Blk) (lo:Nat) (l:List Int),i+m=xs.length->Wr bs p l->jl bs p≠some q->af bs q=some (xs.map fun n=>V.d (u64 n))->l.length+((xs.drop i).flatMap aP).length<=big →
 ∃ bs' lo',Cd E TT aj (.loop [0,6,7,8] oD) [(0,.ptr p 0),(6,.row q 0 xs.length cap 1),(7,.d (i64 xs.length)),(8,.d (i64 i))] ⟨bs,lo⟩=some (.exit 0,[],⟨bs',lo'⟩) ∧
  (lo'=lo/\xs.drop i=[]\/lo'<=p)/\Wr bs' p (l++(xs.drop i).flatMap aP)/\Fx p bs bs':=by
 intro m;have key:=aC (E:=E) (T:=TT) (val:=aj) [0,6,7,8] oD;generalize Cd E TT aj (.loop [0,6,7,8] oD)=W at key ⊢
 induction m with
 | zero =>
  intro i bs lo l hi hW h1 h2 hl;have h0:xs.drop i=[]:=ba (by omega);refine ⟨bs,lo,?_,.inl ⟨rfl,h0⟩,by simpa [h0] using hW,Fx.refl _ _⟩;rw [key];simp [oD,show ¬ ((i:Int)<xs.length) from by omega]
 | succ m ih =>
  intro i bs lo l hi hW h1 h2 hl;have hlt:i<xs.length:=by omega
  have hd:xs.drop i=xs[i]::xs.drop (i+1):=aw hlt;have hix:=fun h=>jM (b:=q) (o:=0) (z:=1) (cap:=cap) (kd:=.i64) (h:=h) hlt;simp only [Nat.mul_one,Nat.zero_add] at hix;have hs:sub (xs.map fun n=>V.d (u64 n)) i 1=some [.d (u64 xs[i])]:=by
   rw [eY,if_pos (by simp; omega),aw (by simpa using hlt)]; simp
  rw [hd] at hl ⊢;simp only [List.flatMap_cons,ap] at hl;generalize xs[i]=x at *;obtain ⟨b1,l1,a1,a2,a3,a4⟩:=Fb (E:=E) hW x (by omega) lo;obtain ⟨f1,f2⟩:=a4.2 q _ hq h1 h2;obtain ⟨bs',lo',q1,q2,q3,q4⟩:=ih (i+1) b1 l1 (l++aP x) (by omega) a3 f2 f1 (by rw [ap]; omega);have hw:=ak hlt hxn;refine ⟨bs',lo',?_,.inr ?_,by simpa using q3,a4.trans q4⟩
  · have hld:ldv ⟨bs,lo⟩ (.ptr q i) 1 true=some (.d (u64 x),⟨bs,lo⟩):=by
     rw [dD,get_eq];show (match (match af bs q with | some cs=>sub cs i 1 | none=>none) with | some cs=>_ | none=>none)=_;rw [h2]; simp only [hs]; rfl
    rw [key];simp [oD,hix,hld,a1,hw,hlt,show ((i:Int)<xs.length) from by omega,-dD];simpa using q1
  · rcases q2 with ⟨rfl,_⟩ | q2
    · exact a2
    · exact q2
theorem xu {p:Nat}{bs:List Blk}{l:List Int}(h:Wr bs p l){xs:List Int}(hne:xs≠[])(hn:xs.length<2 ^ 62){q:Nat}(hq:q≠p){cap:Option Nat}(h1:jl bs p≠some q)(h2:af bs q=some (xs.map fun n=>V.d (u64 n)))(hl:l.length+(xs.flatMap aP).length<=big):jT E 73 [.ptr p 0,.row q 0 xs.length cap 1] p bs l (xs.flatMap aP):=by
 intro lo;obtain ⟨bs',lo',k1,k2,k3,k4⟩:=I9 (E:=E) hn hq (cap:=cap) xs.length 0 bs bs.length l (by omega) h h1 h2 (by simpa using hl);have hle:lo'<=p:=by
  rcases k2 with ⟨_,hx⟩ | k2
  · exact absurd (by simpa using hx) hne
  · exact k2
 refine ⟨bs',min lo lo',?_,by omega,by simpa using k3,k4⟩;rw [aN t213 ar9];simp [ae,Lt];rw [au];simp at k1;simp [k1];exact fD hle h.len
theorem Sw (bs:List Blk)(lo:Nat):∃ lo',Sm E TT aj 72 [] ⟨bs,lo⟩=some (.ptr bs.length 0,⟨bs++[.cells [.d (.slice true [])]],lo'⟩):=by
 refine ⟨min lo bs.length,?_⟩;rw [aN t212 v212];simp [ae,Ls,V.under]
theorem J3 (bs:List Blk):Wr (bs++[.cells [.d (.slice true [])]]) bs.length []:=.inl ⟨rfl,by simp⟩
theorem Sy {p:Nat}{bs:List Blk}{l:List Int}(h:Wr bs p l)(hl:l.length<=big)(hne:l≠[])(lo:Nat):∃ lo',Sm E TT aj 76 [.ptr p 0] ⟨bs,lo⟩=some (.row bs.length 0 l.length none 1,⟨bs++[.cells (l.map (iv .u8))],lo'⟩):=by
 rcases h with ⟨h1,_⟩ | ⟨_,b,h2,h3,h4⟩
 · exact absurd h1 hne
 · have hl0:¬ l.length=0:=by simpa using hne
   have hroom:roomy l.length 1=true:=by
    simp only [roomy,aq,br]; exact ⟨hl,by decide⟩
   have hsub:sub (l.map (iv .u8)) 0 (l.length * 1)=some (l.map (iv .u8)):=bH (by simp);have hap:dZ ⟨bs,bs.length⟩ 1 1 (.d (.slice true [])) (.row b 0 l.length none 1)=some (.row bs.length 0 l.length none 1,⟨bs++[.cells (l.map (iv .u8))],bs.length⟩):=by
    simp only [dZ,aD,if_true,get_eq,h4,hsub,Option.map_some,aF,hl0,if_false,hroom];simp
   refine ⟨min lo bs.length,?_⟩;rw [aN ad1 as3];simp [ae,Lx,h3,hap,V.under]
end
section
variable {E:Calls'}
def seqB {α:Type}(enc:α->List Int)(l:List α):List Int:=aP l.length++l.flatMap enc
theorem dC {α:Type}(enc:α->List Int)(x:α)(l:List α):((x::l).flatMap enc).length=(enc x).length+(l.flatMap enc).length:=by simp
theorem GU {α:Type}{cells:α->List D}{z:Nat}{zero:List V}(hz:∀ x,(cells x).length=z)(hz0:0<z)(hzero:zero.length=z){enc:α->List Int}{p:Nat}{f:FuncId}{s:Sl α}(hs:s.l.length<2 ^ 62)
 (hf:∀ e∈s.l,∀ bs l,Wr bs p l->l.length+(enc e).length<=big->jT E f [.ptr p 0,ag (cells e)] p bs l (enc e)):∀ (m i:Nat) (bs:List Blk) (lo:Nat) (l:List Int),i+m=s.l.length->Wr bs p l->l.length+((s.l.drop i).flatMap enc).length<=big →
 ∃ bs' lo',Cd E TT aj (.loop [0,2,13,14,15] (yH z zero)) [(0,.ptr p 0),(2,.fn f []),(13,.d (s.d cells)),(14,.d (i64 s.l.length)),(15,.d (i64 i))] ⟨bs,lo⟩=some (.exit 0,[],⟨bs',lo'⟩) ∧
  (lo<=p->lo'<=p)/\Wr bs' p (l++(s.l.drop i).flatMap enc)/\Fx p bs bs':=by
 intro m;have key:=aC (E:=E) (T:=TT) (val:=aj) [0,2,13,14,15] (yH z zero);generalize Cd E TT aj (.loop [0,2,13,14,15] (yH z zero))=W at key ⊢
 induction m with
 | zero =>
  intro i bs lo l hi hW hl;have h0:s.l.drop i=[]:=ba (by omega);refine ⟨bs,lo,?_,id,by simpa [h0] using hW,Fx.refl _ _⟩;rw [key];simp [yH,show ¬ ((i:Int)<s.l.length) from by omega]
 | succ m ih =>
  intro i bs lo l hi hW hl;have hlt:i<s.l.length:=by omega
  have hx:=fun h=>ay (z:=z) h (ac hlt) (cells:=cells) (hz _);have hmem:=bh hlt;rw [aw hlt] at hl ⊢;rw [dC] at hl;generalize s.l[i]=e at *;obtain ⟨b1,l1,a1,a2,a3,a4⟩:=hf e hmem (bs++[.cells ((cells e).map .d)]) l (hW.lay _) (by omega) (min lo bs.length);obtain ⟨bs',lo',q1,q2,q3,q4⟩:=ih (i+1) b1 l1 (l++enc e) (by omega) a3 (by rw [ap]; omega);have hw:=ak hlt hs;refine ⟨bs',lo',?_,fun _=>q2 a2,by simpa using q3,((Fx.lay hW.len _).trans a4).trans q4⟩;have hsub:=bH (hz e);have hput:put zero 0 ((cells e).map V.d)=some ((cells e).map .d):=by simp [put,hz,hzero]
  rw [key];simp [yH,hx,hsub,hput,hz,hz0,a1,hw,show ((i:Int)<s.l.length) from by omega,-jJ];simpa using q1
theorem sH {α:Type}{cells:α->List D}{z:Nat}{zero:List V}(hz:∀ x,(cells x).length=z)(hz0:0<z)(hzero:zero.length=z){id:FuncId}(ht:TT id=some (wputQ z zero))(hv:aj id=false){enc:α->List Int}{p:Nat}{f:FuncId}{s:Sl α}(hs:short s)
 (hf:∀ e∈s.l,∀ bs l,Wr bs p l->l.length+(enc e).length<=big->jT E f [.ptr p 0,ag (cells e)] p bs l (enc e)) {bs:List Blk} {l:List Int} (h:Wr bs p l) (hl:l.length+(seqB enc s.l).length<=big):jT E id [.ptr p 0,.d (s.d cells),.fn f []] p bs l (seqB enc s.l):=by
 intro lo;simp only [seqB,ap] at hl;obtain ⟨b1,l1,a1,a2,a3,a4⟩:=Fb (E:=E) h s.l.length (by omega) bs.length;obtain ⟨b2,l2,k1,k2,k3,k4⟩:=GU (E:=E) (zero:=zero) hz hz0 hzero hs.lt hf s.l.length 0 b1 l1 (l++aP s.l.length) (by omega) a3 (by rw [ap,List.drop_zero]; omega);refine ⟨b2,min lo l2,?_,by have:=k2 a2; omega,by simpa [seqB] using k3,a4.trans k4⟩;have hb:s.l.length<=big:=hs.1;have hbig:big=2 ^ 30:=rfl;have hw:wrap .u64 (s.l.length:Int)=s.l.length:=by
  simp [wrap,IntKind.bits,IntKind.signed];omega
 rw [aN ht hv];simp [ae,wputQ,hw,a1];rw [au];simp at k1;simp [k1];exact fD (k2 a2) h.len
theorem Eb {α:Type}{cell:α->D}{enc:α->List Int}{p:Nat}{f:FuncId}{s:Sl α}(hs:s.l.length<2 ^ 62)
 (hf:∀ e∈s.l,∀ bs l,Wr bs p l->l.length+(enc e).length<=big->jT E f [.ptr p 0,.d (cell e)] p bs l (enc e)):∀ (m i:Nat) (bs:List Blk) (lo:Nat) (l:List Int),i+m=s.l.length->Wr bs p l->l.length+((s.l.drop i).flatMap enc).length<=big →
 ∃ bs' lo',Cd E TT aj (.loop [0,2,13,14,15] ui) [(0,.ptr p 0),(2,.fn f []),(13,.d (s.d fun x=>[cell x])),(14,.d (i64 s.l.length)),(15,.d (i64 i))] ⟨bs,lo⟩=some (.exit 0,[],⟨bs',lo'⟩) ∧
  (lo<=p->lo'<=p)/\Wr bs' p (l++(s.l.drop i).flatMap enc)/\Fx p bs bs':=by
 intro m;have key:=aC (E:=E) (T:=TT) (val:=aj) [0,2,13,14,15] ui;generalize Cd E TT aj (.loop [0,2,13,14,15] ui)=W at key ⊢
 induction m with
 | zero =>
  intro i bs lo l hi hW hl;have h0:s.l.drop i=[]:=ba (by omega);refine ⟨bs,lo,?_,id,by simpa [h0] using hW,Fx.refl _ _⟩;rw [key];simp [ui,show ¬ ((i:Int)<s.l.length) from by omega]
 | succ m ih =>
  intro i bs lo l hi hW hl;have hlt:i<s.l.length:=by omega
  have hx:=fun h=>ay (z:=1) h (ac hlt) (cells:=fun x=>[cell x]) rfl;have hmem:=bh hlt;rw [aw hlt] at hl ⊢;rw [dC] at hl;generalize s.l[i]=e at *;obtain ⟨b1,l1,a1,a2,a3,a4⟩:=hf e hmem bs l hW (by omega) lo;obtain ⟨bs',lo',q1,q2,q3,q4⟩:=ih (i+1) b1 l1 (l++enc e) (by omega) a3 (by rw [ap]; omega);have hw:=ak hlt hs;refine ⟨bs',lo',?_,fun _=>q2 a2,by simpa using q3,a4.trans q4⟩;rw [key];simp [ui,hx,a1,hw,show ((i:Int)<s.l.length) from by omega];simpa using q1
theorem Ke {α:Type}{cell:α->D}{id:FuncId}(ht:TT id=some wput1Q)(hv:aj id=false){enc:α->List Int}{p:Nat}{f:FuncId}{s:Sl α}(hs:short s)
 (hf:∀ e∈s.l,∀ bs l,Wr bs p l->l.length+(enc e).length<=big->jT E f [.ptr p 0,.d (cell e)] p bs l (enc e)) {bs:List Blk} {l:List Int} (h:Wr bs p l) (hl:l.length+(seqB enc s.l).length<=big):jT E id [.ptr p 0,.d (s.d fun x=>[cell x]),.fn f []] p bs l (seqB enc s.l):=by
 intro lo;simp only [seqB,ap] at hl;obtain ⟨b1,l1,a1,a2,a3,a4⟩:=Fb (E:=E) h s.l.length (by omega) bs.length;obtain ⟨b2,l2,k1,k2,k3,k4⟩:=Eb (E:=E) hs.lt hf s.l.length 0 b1 l1 (l++aP s.l.length) (by omega) a3 (by rw [ap,List.drop_zero]; omega);refine ⟨b2,min lo l2,?_,by have:=k2 a2; omega,by simpa [seqB] using k3,a4.trans k4⟩;have hb:s.l.length<=big:=hs.1;have hbig:big=2 ^ 30:=rfl;have hw:wrap .u64 (s.l.length:Int)=s.l.length:=by
  simp [wrap,IntKind.bits,IntKind.signed];omega
 rw [aN ht hv];simp [ae,wput1Q,hw,a1];rw [au];simp at k1;simp [k1];exact fD (k2 a2) h.len
end
section
variable {E:Calls'}
theorem Fx.new {p:Nat}{bs bs':List Blk}{l:List Int}{cs:List V}{ys:List Blk}(h:Wr bs p l)(k:Fx p (bs++(.cells cs::ys)) bs'):bs.length≠p/\jl bs' p≠some bs.length/\af bs' bs.length=some cs:=by
 have hp:=h.len;have h1:jl (bs++(.cells cs::ys)) p≠some bs.length:=by
  rw [nU hp];intro hh;exact Nat.lt_irrefl _ (h.row_lt hh)
 obtain ⟨a,b⟩:=k.2 bs.length cs (by omega) h1 (by simp);exact ⟨by omega,b,a⟩
theorem Wr.fresh {p:Nat}{bs:List Blk}{l:List Int}(h:Wr bs p l)(ys:List Blk):bs.length≠p/\jl (bs++ys) p≠some bs.length:=by
 have hp:=h.len;refine ⟨by omega,?_⟩;rw [nU hp];intro hh;exact Nat.lt_irrefl _ (h.row_lt hh)
def dB (t:Term):List Int:=wrap .u8 t.kind::bE t.text
theorem Zg (t:Term){p:Nat}{bs:List Blk}{l:List Int}(h:Wr bs p l)(hl:l.length+(dB t).length<=big):jT E 249 [.ptr p 0,ag t.c] p bs l (dB t):=by
 intro lo;simp only [dB,cf] at hl;obtain ⟨b1,l1,a1,a2,a3,a4⟩:=SI (E:=E) (h.lay [.cells (t.c.map .d)]) (wrap .u8 t.kind) (by omega) bs.length;obtain ⟨f1,f2,f3⟩:=a4.new h;obtain ⟨b2,l2,c1,c2,c3,c4⟩:=Cx (E:=E) a3 t.text (by simp; omega) l1;refine ⟨b2,min lo l2,?_,by omega,by simpa [dB] using c3,((Fx.lay h.len _).trans a4).trans c4⟩;rw [aN ak1 az6];simp [ae,Qi,a1,f3,c1];exact fD c2 h.len
def jR (c:Cidr):List Int:=xe c.addr++[wrap .u8 c.bits]
theorem Y6 (t:Cidr){p:Nat}{bs:List Blk}{l:List Int}(h:Wr bs p l)(hl:l.length+(jR t).length<=big):jT E 206 [.ptr p 0,ag t.c] p bs l (jR t):=by
 intro lo;have h5:(jR t).length=5:=rfl;obtain ⟨b1,l1,a1,a2,a3,a4⟩:=Y7 (E:=E) (h.lay [.cells (t.c.map .d)]) t.addr (by omega) bs.length;obtain ⟨f1,f2,f3⟩:=a4.new h;obtain ⟨b2,l2,c1,c2,c3,c4⟩:=SI (E:=E) a3 (wrap .u8 t.bits) (by simp [xe]; omega) l1;refine ⟨b2,min lo l2,?_,by omega,by simpa [jR] using c3,((Fx.lay h.len _).trans a4).trans c4⟩;rw [aN ai3 ax8];simp [ae,Qc,a1,f3,c1];exact fD c2 h.len
def nK (n:Int):List Int:=aP (wrap .u64 n)
theorem Y9 (n:Int){p:Nat}{bs:List Blk}{l:List Int}(h:Wr bs p l)(hl:l.length+(nK n).length<=big):jT E 210 [.ptr p 0,.d (i64 n)] p bs l (nK n):=by
 intro lo;obtain ⟨b1,l1,a1,a2,a3,a4⟩:=Fb (E:=E) h (wrap .u64 n) hl bs.length;refine ⟨b1,min lo l1,?_,by omega,a3,a4⟩;rw [aN ai7 ay2];simp [ae,Qf,a1];exact fD a2 h.len
theorem bf8:TT 248=some (wputQ 2 [(.d (.int .i64 0)),(.d (.str ⟨#[]⟩))]):=ak0
theorem bf4:TT 205=some (wputQ 2 [(.d (.int .u32 0)),(.d (.int .i64 0))]):=ai2
theorem bf5:TT 209=some wput1Q:=ai6
theorem be7:TT 159=some (wputQ 3 (sl0 3)):=ag5
theorem be8:TT 161=some (wputQ 4 (sl0 4)):=ag7
theorem be9:TT 163=some (wputQ 2 [(.d (.str ⟨#[]⟩)),(.d (.slice true []))]):=ag9
theorem bd9:TT 132=some (wputQ 3 (sl0 3)):=af1
theorem Zf {s:Sl Term}(hs:short s){p:Nat}{bs:List Blk}{l:List Int}(h:Wr bs p l)(hl:l.length+(seqB dB s.l).length<=big):jT E 248 [.ptr p 0,.d (s.d Term.c),.fn 249 []] p bs l (seqB dB s.l) :=
 sH (z:=2) (cells:=Term.c) (fun _=>rfl) (by decide) rfl bf8 az5 hs (fun e _ bs l h hl=>Zg e h hl) h hl
theorem Y5 {s:Sl Cidr}(hs:short s){p:Nat}{bs:List Blk}{l:List Int}(h:Wr bs p l)(hl:l.length+(seqB jR s.l).length<=big):jT E 205 [.ptr p 0,.d (s.d Cidr.c),.fn 206 []] p bs l (seqB jR s.l) :=
 sH (z:=2) (cells:=Cidr.c) (fun _=>rfl) (by decide) rfl bf4 ax7 hs (fun e _ bs l h hl=>Y6 e h hl) h hl
theorem Y8 {s:Sl Int}(hs:short s){p:Nat}{bs:List Blk}{l:List Int}(h:Wr bs p l)(hl:l.length+(seqB nK s.l).length<=big):jT E 209 [.ptr p 0,.d (s.d gV),.fn 210 []] p bs l (seqB nK s.l) :=
 Ke (cell:=fun n=>i64 n) bf5 ay1 hs (fun e _ bs l h hl=>Y9 e h hl) h hl
def iR (ls:List (Sl Term)):List Int:=ls.flatMap fun s=>seqB dB s.l
theorem Gv {p:Nat}{xs:List (Sl Term)}(hxn:xs.length<2 ^ 62)(hsh:∀ s∈xs,short s){q:Nat}(hq:q≠p){cap:Option Nat}:∀ (m i:Nat) (bs:List Blk) (lo:Nat) (l:List Int),i+m=xs.length->Wr bs p l->jl bs p≠some q->af bs q=some (xs.map fun s=>V.d (s.d Term.c))->l.length+(iR (xs.drop i)).length<=big →
 ∃ bs' lo',Cd E TT aj (.loop [0,6,7,8] oN) [(0,.ptr p 0),(6,.row q 0 xs.length cap 1),(7,.d (i64 xs.length)),(8,.d (i64 i))] ⟨bs,lo⟩=some (.exit 0,[],⟨bs',lo'⟩) ∧
  (lo'=lo/\xs.drop i=[]\/lo'<=p)/\Wr bs' p (l++iR (xs.drop i))/\Fx p bs bs':=by
 intro m;have key:=aC (E:=E) (T:=TT) (val:=aj) [0,6,7,8] oN;generalize Cd E TT aj (.loop [0,6,7,8] oN)=W at key ⊢
 induction m with
 | zero =>
  intro i bs lo l hi hW h1 h2 hl;have h0:xs.drop i=[]:=ba (by omega);refine ⟨bs,lo,?_,.inl ⟨rfl,h0⟩,by simpa [h0,iR] using hW,Fx.refl _ _⟩;rw [key];simp [oN,show ¬ ((i:Int)<xs.length) from by omega]
 | succ m ih =>
  intro i bs lo l hi hW h1 h2 hl;have hlt:i<xs.length:=by omega
  have hd:xs.drop i=xs[i]::xs.drop (i+1):=aw hlt;have hix:=fun h=>jM (b:=q) (o:=0) (z:=1) (cap:=cap) (kd:=.i64) (h:=h) hlt;simp only [Nat.mul_one,Nat.zero_add] at hix;have hs:sub (xs.map fun s=>V.d (s.d Term.c)) i 1=some [.d (xs[i].d Term.c)]:=by
   rw [eY,if_pos (by simp; omega),aw (by simpa using hlt)]; simp
  have hx:=hsh _ (bh hlt);rw [hd] at hl ⊢;simp only [iR,List.flatMap_cons,ap] at hl;generalize xs[i]=x at *;obtain ⟨b1,l1,a1,a2,a3,a4⟩:=Zf (E:=E) hx hW (by omega) lo;obtain ⟨f1,f2⟩:=a4.2 q _ hq h1 h2;obtain ⟨bs',lo',q1,q2,q3,q4⟩:=ih (i+1) b1 l1 (l++seqB dB x.l) (by omega) a3 f2 f1 (by rw [ap,iR]; omega);have hw:=ak hlt hxn;refine ⟨bs',lo',?_,.inr ?_,by simpa [iR] using q3,a4.trans q4⟩
  · have hld:ldv ⟨bs,lo⟩ (.ptr q i) 1 true=some (.d (x.d Term.c),⟨bs,lo⟩):=by
     rw [dD,get_eq];show (match (match af bs q with | some cs=>sub cs i 1 | none=>none) with | some cs=>_ | none=>none)=_;rw [h2]; simp only [hs]; rfl
    rw [key];simp [oN,hix,hld,a1,hw,hlt,show ((i:Int)<xs.length) from by omega,-dD];simpa using q1
  · rcases q2 with ⟨rfl,_⟩ | q2
    · exact a2
    · exact q2
theorem NJ {p:Nat}{bs:List Blk}{l:List Int}(h:Wr bs p l){xs:List (Sl Term)}(hne:xs≠[])(hn:xs.length<2 ^ 62)(hsh:∀ s∈xs,short s){q:Nat}(hq:q≠p){cap:Option Nat}{n:Nat}(hnn:n=xs.length)(h1:jl bs p≠some q)(h2:af bs q=some (xs.map fun s=>V.d (s.d Term.c)))(hl:l.length+(iR xs).length<=big):jT E 204 [.ptr p 0,.row q 0 n cap 1] p bs l (iR xs):=by
 intro lo;subst hnn;obtain ⟨bs',lo',k1,k2,k3,k4⟩:=Gv (E:=E) hn hsh hq (cap:=cap) xs.length 0 bs bs.length l (by omega) h h1 h2 (by simpa using hl);have hle:lo'<=p:=by
  rcases k2 with ⟨_,hx⟩ | k2
  · exact absurd (by simpa using hx) hne
  · exact k2
 refine ⟨bs',min lo lo',?_,by omega,by simpa using k3,k4⟩;rw [aN ai1 ax6];simp [ae,Qb];rw [au];simp at k1;simp [k1];exact fD hle h.len
def fU (s:Source):List Int:=iR [s.names,s.spaces]++seqB jR s.nets.l
theorem YU (t:Source)(ht:t.fits big){p:Nat}{bs:List Blk}{l:List Int}(h:Wr bs p l)(hl:l.length+(fU t).length<=big):jT E 160 [.ptr p 0,ag t.c] p bs l (fU t):=by
 intro lo;simp only [fU,ap] at hl;have hW2:=h.lay [.cells (t.c.map .d),.cells [.d (t.names.d Term.c),.d (t.spaces.d Term.c)]];have hfr:bs.length+1≠p/\jl (bs++[.cells (t.c.map .d),.cells [.d (t.names.d Term.c),.d (t.spaces.d Term.c)]]) p≠some (bs.length+1):=by
  have:=h.len;refine ⟨by omega,?_⟩;rw [nU this];intro hh;have:=h.row_lt hh;omega
 obtain ⟨b1,l1,a1,a2,a3,a4⟩:=NJ (E:=E) hW2 (xs:=[t.names,t.spaces]) (by simp) (by simp) (by
  intro s hs;simp only [List.mem_cons,List.not_mem_nil,or_false] at hs;rcases hs with rfl | rfl
  · exact ht.1
  · exact ht.2.1) (q:=bs.length+1) hfr.1 (cap:=some 2) (n:=2) rfl hfr.2 (by simp) (by omega) bs.length
 obtain ⟨f1,f2,f3⟩:=a4.new h;obtain ⟨b2,l2,c1,c2,c3,c4⟩:=Y5 (E:=E) ht.2.2 a3 (by rw [ap]; omega) l1;refine ⟨b2,min lo l2,?_,by omega,by simpa [fU] using c3,((Fx.lay h.len _).trans a4).trans c4⟩;rw [aN ag6 aw1];simp [ae,PZ,aH,a1,f3,c1];exact fD c2 h.len
def fV (t:Target):List Int:=seqB nK t.ports.l++iR [t.methods,t.paths,t.hosts]
theorem YV (t:Target)(ht:t.fits big){p:Nat}{bs:List Blk}{l:List Int}(h:Wr bs p l)(hl:l.length+(fV t).length<=big):jT E 162 [.ptr p 0,ag t.c] p bs l (fV t):=by
 intro lo;simp only [fV,ap] at hl;obtain ⟨b1,l1,a1,a2,a3,a4⟩:=Y8 (E:=E) ht.1 (h.lay [.cells (t.c.map .d)]) (by omega) bs.length;obtain ⟨f1,f2,f3⟩:=a4.new h;have hfr:=a3.fresh [.cells [.d (t.methods.d Term.c),.d (t.paths.d Term.c),.d (t.hosts.d Term.c)]];obtain ⟨b2,l2,c1,c2,c3,c4⟩:=NJ (E:=E) (a3.lay [.cells [.d (t.methods.d Term.c),.d (t.paths.d Term.c),.d (t.hosts.d Term.c)]]) (xs:=[t.methods,t.paths,t.hosts]) (by simp) (by simp) (by
  intro s hs;simp only [List.mem_cons,List.not_mem_nil,or_false] at hs;rcases hs with rfl | rfl | rfl
  · exact ht.2.1
  · exact ht.2.2.1
  · exact ht.2.2.2) (q:=b1.length) hfr.1 (cap:=some 3) (n:=3) rfl hfr.2 (by simp) (by rw [ap]; omega) l1
 refine ⟨b2,min lo l2,?_,by omega,by simpa [fV] using c3,((Fx.lay h.len _).trans a4).trans ((Fx.lay a3.len _).trans c4)⟩;rw [aN ag8 aw3];simp [ae,P5,aH,a1,f3,c1];exact fD c2 h.len
def kV (w:When):List Int:=bE w.head++iR [w.terms]
theorem YW (t:When)(ht:t.fits big){p:Nat}{bs:List Blk}{l:List Int}(h:Wr bs p l)(hl:l.length+(kV t).length<=big):jT E 164 [.ptr p 0,ag t.c] p bs l (kV t):=by
 intro lo;simp only [kV,ap] at hl;obtain ⟨b1,l1,a1,a2,a3,a4⟩:=Cx (E:=E) (h.lay [.cells (t.c.map .d)]) t.head (by omega) bs.length;obtain ⟨f1,f2,f3⟩:=a4.new h;have hfr:=a3.fresh [.cells [.d (t.terms.d Term.c)]];obtain ⟨b2,l2,c1,c2,c3,c4⟩:=NJ (E:=E) (a3.lay [.cells [.d (t.terms.d Term.c)]]) (xs:=[t.terms]) (by simp) (by simp) (by
  intro s hs;simp only [List.mem_cons,List.not_mem_nil,or_false] at hs;subst hs;exact ht) (q:=b1.length) hfr.1 (cap:=some 1) (n:=1) rfl hfr.2 (by simp) (by rw [ap]; omega) l1
 refine ⟨b2,min lo l2,?_,by omega,by simpa [kV] using c3,((Fx.lay h.len _).trans a4).trans ((Fx.lay a3.len _).trans c4)⟩;rw [aN ah0 aw5];simp [ae,P6,aH,a1,f3,c1];exact fD c2 h.len
def kJ (r:Rule):List Int:=seqB fU r.frm.l++(seqB fV r.to.l++seqB kV r.whn.l)
theorem YG (t:Rule)(ht:t.fits big){p:Nat}{bs:List Blk}{l:List Int}(h:Wr bs p l)(hl:l.length+(kJ t).length<=big):jT E 133 [.ptr p 0,ag t.c] p bs l (kJ t):=by
 intro lo;simp only [kJ,ap] at hl;obtain ⟨b1,l1,a1,a2,a3,a4⟩:=sH (E:=E) (cells:=Source.c) (zero:=sl0 3) (fun _=>rfl) (by decide) rfl be7 aw0 (enc:=fU) (f:=160) ht.1.1 (fun e he bs l h hl=>YU e (ht.1.2 e he) h hl) (h.lay [.cells (t.c.map .d)]) (by omega) bs.length;obtain ⟨f1,f2,f3⟩:=a4.new h;obtain ⟨b2,l2,c1,c2,c3,c4⟩:=sH (E:=E) (cells:=Target.c) (zero:=sl0 4) (fun _=>rfl) (by decide) rfl be8 aw2 (enc:=fV) (f:=162) ht.2.1.1 (fun e he bs l h hl=>YV e (ht.2.1.2 e he) h hl) a3 (by rw [ap]; omega) l1;obtain ⟨g1,g2⟩:=c4.2 _ _ f1 f2 f3;obtain ⟨b3,l3,d1,d2,d3,d4⟩:=sH (E:=E) (cells:=When.c) (zero:=[(.d (.str ⟨#[]⟩)),(.d (.slice true []))]) (fun _=>rfl) (by decide) rfl be9 aw4 (enc:=kV) (f:=164) ht.2.2.1 (fun e he bs l h hl=>YW e (ht.2.2.2 e he) h hl) c3 (by rw [ap,ap]; omega) l2;refine ⟨b3,min lo l3,?_,by omega,by simpa [kJ] using d3,(((Fx.lay h.len _).trans a4).trans c4).trans d4⟩;rw [aN af2 au8];simp [ae,PO,a1,f3,c1,g1,d1];exact fD d2 h.len
end
section
variable {E:Calls'}
theorem iA {α:Type}{f:α->List Int}{K:Nat}:∀ {l:List α},(∀ x∈l,(f x).length<=K)->(l.flatMap f).length<=l.length * K
 | [],_=>by simp
 | x::l,h=>by
  have h1:=h x (by simp);have h2:=iA (l:=l) fun y hy=>h y (List.mem_cons_of_mem _ hy);rw [dC,cf,Nat.add_mul,Nat.one_mul];omega
theorem mI {α:Type}{f:α->List Int}{K n:Nat}{l:List α}(hn:l.length<=n)(h:∀ x∈l,(f x).length<=K):(seqB f l).length<=10+n * K:=by
 have h1:=iA h;have h2:=bv l.length;have h3:l.length * K<=n * K:=Nat.mul_le_mul_right K hn;simp only [seqB,ap];omega
theorem Er {s:ByteArray}(h:eqS s ⟨#[]⟩=true):s.size=0:=by
 unfold eqS at h;have h1:s.toList=(⟨#[]⟩:ByteArray).toList:=eq_of_beq h;have h2:=fw s;rw [h1,bM] at h2;exact h2.symm
theorem JN {t:Term}(h:fH t=true):(dB t).length<=75:=by
 have h1:=ji t.text;have h2:t.text.size<=64:=by
  simp only [fH,aq] at h;obtain ⟨_,h⟩:=h;split at h
  · have:=Er h; omega
  · simp only [aq,br] at h;omega
 simp only [dB,cf];omega
theorem JO {s:Sl Term}(h:aU s=true):(seqB dB s.l).length<=460:=by
 simp only [aU,aq,br,ch] at h;exact mI (n:=6) (K:=75) (by omega) fun x hx=>JN (h.2 x hx)
theorem zM {ls:List (Sl Term)}{n:Nat}(hn:ls.length<=n)(h:ls.all aU=true):(iR ls).length<=n * 460:=by
 have h1:=iA (f:=fun s:Sl Term=>seqB dB s.l) (K:=460) (l:=ls) fun x hx=>JO (ch.1 h x hx);have h3:ls.length * 460<=n * 460:=Nat.mul_le_mul_right _ hn;simp only [iR];omega
theorem DD {s:Source}(h:bX s=true):(fU s).length<=960:=by
 have h0:([s.names,s.spaces].all aU&&jV s.nets)=true:=h;rw [aq] at h0;have h1:=zM (n:=2) (by simp) h0.1;have h2:=h0.2;simp only [jV,aq,br] at h2;have h3:=mI (n:=6) (K:=5) (f:=jR) (l:=s.nets.l) (by omega) fun x _=>bp 5;simp only [fU,ap];omega
theorem DY {s:Target}(h:aR s=true):(fV s).length<=1450:=by
 have h0:(([s.methods,s.paths,s.hosts].all aU)&&(decide ((s.ports.l.length:Int)<=6)&&s.ports.l.all dN)&&((pQ (dG s.ports.l):Int)==(s.ports.l.length:Int)))=true:=h;simp only [aq,br] at h0;have h1:=zM (ls:=[s.methods,s.paths,s.hosts]) (n:=3) (by simp) h0.1.1;have h3:=mI (n:=6) (K:=10) (f:=nK) (l:=s.ports.l) (by omega) fun x _=>bv _;simp only [fV,ap];omega
theorem JX {s:When}(h:gN s=true):(kV s).length<=534:=by
 have h0:(iN s.head&&[s.terms].all aU&&decide ((s.terms.l.length:Int)>0))=true:=h;simp only [aq,br] at h0;have h1:=zM (ls:=[s.terms]) (n:=1) (by simp) h0.1.2;have h2:=ji s.head;have h3:=h0.1.1;simp only [iN,aq,br] at h3;simp only [kV,ap];omega
theorem Jv {s:Rule}(h:eu s=true):(kJ s).length<=8862:=by
 simp only [eu,aq,br,ch] at h;have h1:=mI (n:=3) (K:=960) (f:=fU) (l:=s.frm.l) (by omega) fun x hx=>DD (h.1.1.2 x hx);have h2:=mI (n:=3) (K:=1450) (f:=fV) (l:=s.to.l) (by omega) fun x hx=>DY (h.1.2.2 x hx);have h3:=mI (n:=3) (K:=534) (f:=kV) (l:=s.whn.l) (by omega) fun x hx=>JX (h.2.2 x hx);simp only [kJ,ap];omega
def lm (p:Pol):List Int:=aP p.id++(bE p.ns++([p.service,wrap .u64 p.deny].flatMap aP++seqB kJ p.rules.l))
theorem qR {s:ByteArray}(h:bf s=true):s.size<=20:=by
 simp only [bf,aq,br] at h;omega
theorem uS {p:Pol}(h:ed p=true):(lm p).length<=53300:=by
 simp only [ed,aq,br,Bool.or_eq_true,ch] at h;have h1:=mI (n:=6) (K:=8862) (f:=kJ) (l:=p.rules.l) (by omega) fun x hx=>Jv (h.2.2 x hx);have h2:=ji p.ns;have h3:p.ns.size<=20:=by
  rcases h.1.1.1.2 with hh | hh
  · have:=Er hh; omega
  · exact qR hh
 have h4:=bv p.id;have h5:=bv p.service;have h6:=bv (wrap .u64 p.deny);simp only [lm,ap,List.flatMap_cons,List.flatMap_nil,cg];omega
def bytesD (l:List Int):D:=.slice false (l.map fun n=>[.int .u8 n])
theorem cK (x:Int):aP x≠[]:=by
 intro h;have:=congrArg List.length h;rw [aP,oV] at this;simp at this
theorem uu {h:Hp}{k b:Nat}{l:List Int}{cap:Option Nat}(hb:af h.bs b=some (l.map (iv .u8))):dataV h (k+1) (.row b 0 l.length cap 1)=some (bytesD l):=by
 have hf:∀ l:List Int,flat (l.map fun n=>[D.int .u8 n])=l.map (iv .u8):=by
  intro l;simp only [flat]
  induction l with
  | nil=>rfl
  | cons x l ih=>simp only [cm,List.flatten_cons,List.map_append,ih]; rfl
 exact dX (z:=1) (es:=l.map fun n=>[D.int .u8 n]) (rest:=[]) (by simp) (by simp) (by rw [hf,List.append_nil]; exact hb)
section
variable (h385:∀ t:Target,t.wf big->∀ h,E 201 [ag t.c] h=some (bl (aR t),h))
include h385
theorem Yh (p:Pol)(hp:p.wf big)(h:Hp):Sm E TT aj 75 [ag p.c] h=some (.tup (if ed p then [.d (bytesD (lm p)),.d (i64 0)] else [.d (.slice true []),.d (i64 1)]),h):=by
 have n1:=fun h=>SA h385 p hp h;rw [aV ac9 as2];cases hm:ed p with
 | false =>
  simp only [hm] at n1;simp [ae,Lv,n1]
 | true =>
  simp only [hm] at n1;have hlen:=uS hm;have hbig:big=2 ^ 30:=rfl;simp only [lm,ap] at hlen;obtain ⟨lo0,m1⟩:=Sw (E:=E) [.cells (p.c.map .d)] 0;have hW:=J3 [.cells (p.c.map .d)];have hW1:jl ([.cells (p.c.map .d)]++[.cells [.d (.slice true [])]]) 1≠some 0:=by simp [jl]
  obtain ⟨b1,l1,a1,a2,a3,a4⟩:=Fb (E:=E) hW p.id (by simp; omega) lo0;obtain ⟨f1,f2⟩:=a4.2 0 (p.c.map .d) (by simp) hW1 (by simp);obtain ⟨b2,l2,c1,c2,c3,c4⟩:=Cx (E:=E) a3 p.ns (by simp; omega) l1;obtain ⟨g1,g2⟩:=c4.2 _ _ (by simp) f2 f1;have hfr:=c3.fresh [.cells [.d (u64 p.service),.d (u64 (wrap .u64 p.deny))]];obtain ⟨b3,l3,d1,d2,d3,d4⟩:=xu (E:=E) (c3.lay [.cells [.d (u64 p.service),.d (u64 (wrap .u64 p.deny))]]) (xs:=[p.service,wrap .u64 p.deny]) (by simp) (by simp) (q:=b2.length) hfr.1 (cap:=some 2) hfr.2 (by simp) (by simp only [ap,cg]; omega) l2;obtain ⟨k1,k2⟩:=((Fx.lay c3.len _).trans d4).2 _ _ (by simp) g2 g1;obtain ⟨b4,l4,e1,e2,e3,e4⟩:=sH (E:=E) (cells:=Rule.c) (zero:=sl0 3) (fun _=>rfl) (by decide) rfl bd9 au7 (enc:=kJ) (f:=133) hp.2.2.2.2.1 (fun e he bs l h hl=>YG e ((hp.2.2.2.2.2 e he).fits) h hl) d3 (by simp only [ap,cg]; omega) l3;have hfin:[]++aP p.id++bE p.ns++[p.service,wrap .u64 p.deny].flatMap aP++seqB kJ p.rules.l=lm p:=by simp [lm]
  rw [hfin] at e3;obtain ⟨l5,r1⟩:=Sy (E:=E) e3 (by have:=uS hm; omega) (by simp [lm,cK]) l4;have hfz:=uu (h:=⟨b4++[.cells ((lm p).map (iv .u8))],l5⟩) (k:=7) (b:=b4.length) (l:=lm p) (cap:=none) (by simp);simp at a1 c1 d1 e1 r1 m1 f1 g1 k1;simp [ae,Lv,n1,m1,a1,f1,c1,g1,aH,d1,k1,e1,r1];simp [frz,bQ,hfz]
end
end
section
variable {E:Calls'}
def lK (p:Pod):List Int:=[p.uid].flatMap aP++(bE p.ns++(bE p.sa++[wrap .u64 p.host,wrap .u64 p.addr,wrap .u64 p.port,p.service].flatMap aP))
def lS (s:Svc):List Int:=[s.id].flatMap aP++(bE s.ns++[wrap .u64 s.addr,wrap .u64 s.port,s.way].flatMap aP)
def qB (w:Way):List Int:=[w.id,wrap .u64 w.node].flatMap aP
def strOf (l:List Int):ByteArray:=⟨(l.map fun n=>UInt8.ofNat n.toNat).toArray⟩
def fT (p:Pol):List Int:=bE (strOf (lm p))
theorem Wr.fresh1 {p:Nat}{bs:List Blk}{l:List Int}(h:Wr bs p l)(a:Blk)(ys:List Blk):bs.length+1≠p/\jl (bs++(a::ys)) p≠some (bs.length+1):=by
 have hp:=h.len;refine ⟨by omega,?_⟩;rw [nU hp];intro hh;have:=h.row_lt hh;omega
theorem Gf (c:Cfg)(hs:c.pods.l.length<2 ^ 62){p:Nat}:∀ (m i:Nat) (bs:List Blk) (lo:Nat) (l:List Int),i+m=c.pods.l.length->Wr bs p l->l.length+((c.pods.l.drop i).flatMap lK).length<=big →
 ∃ bs' lo',Cd E TT aj (.loop [1,3,33,34,35] tN) [(1,.ptr 0 0),(3,.ptr p 0),(33,.d (c.pods.d Pod.c)),(34,.d (i64 c.pods.l.length)),(35,.d (i64 i))] ⟨bs,lo⟩=some (.exit 0,[(1,.ptr 0 0),(3,.ptr p 0)],⟨bs',lo'⟩) ∧
  (lo<=p->lo'<=p)/\Wr bs' p (l++(c.pods.l.drop i).flatMap lK)/\Fx p bs bs':=by
 intro m;have key:=aC (E:=E) (T:=TT) (val:=aj) [1,3,33,34,35] tN;generalize Cd E TT aj (.loop [1,3,33,34,35] tN)=W at key ⊢
 induction m with
 | zero =>
  intro i bs lo l hi hW hl;have h0:c.pods.l.drop i=[]:=ba (by omega);refine ⟨bs,lo,?_,id,by simpa [h0] using hW,Fx.refl _ _⟩;rw [key];simp [tN,show ¬ ((i:Int)<c.pods.l.length) from by omega]
 | succ m ih =>
  intro i bs lo l hi hW hl;have hlt:i<c.pods.l.length:=by omega
  have hx:=fun h=>ay (z:=7) h (ac hlt) (cells:=Pod.c) rfl;rw [aw hlt] at hl ⊢;rw [dC] at hl;generalize c.pods.l[i]=e at *;have hl2:(lK e).length=([e.uid].flatMap aP).length+((bE e.ns).length+((bE e.sa).length+([wrap .u64 e.host,wrap .u64 e.addr,wrap .u64 e.port,e.service].flatMap aP).length)):=by simp only [lK,ap]
  have u1:=hW.fresh1 (.cells (e.c.map .d)) [.cells [.d (u64 e.uid)]];obtain ⟨b1,l1,a1,a2,a3,a4⟩:=xu (E:=E) (hW.lay (.cells (e.c.map .d)::[.cells [.d (u64 e.uid)]])) (xs:=[e.uid]) (by simp) (by simp) (q:=bs.length+1) u1.1 (cap:=some 1) u1.2 (by simp) (by omega) (min lo bs.length);obtain ⟨f1,f2,f3⟩:=a4.new hW;obtain ⟨b2,l2,c1,c2,c3,c4⟩:=Cx (E:=E) a3 e.ns (by simp only [ap]; omega) l1;obtain ⟨g1,g2⟩:=c4.2 _ _ f1 f2 f3;obtain ⟨b3,l3,d1,d2,d3,d4⟩:=Cx (E:=E) c3 e.sa (by simp only [ap]; omega) l2;obtain ⟨k1,k2⟩:=d4.2 _ _ f1 g2 g1;have u2:=d3.fresh [.cells [.d (u64 (wrap .u64 e.host)),.d (u64 (wrap .u64 e.addr)),.d (u64 (wrap .u64 e.port)),.d (u64 e.service)]];obtain ⟨b4,l4,e1,e2,e3,e4⟩:=xu (E:=E) (d3.lay [.cells [.d (u64 (wrap .u64 e.host)),.d (u64 (wrap .u64 e.addr)),.d (u64 (wrap .u64 e.port)),.d (u64 e.service)]]) (xs:=[wrap .u64 e.host,wrap .u64 e.addr,wrap .u64 e.port,e.service]) (by simp) (by simp) (q:=b3.length) u2.1 (cap:=some 4) u2.2 (by simp) (by simp only [ap]; omega) l3;have e3':Wr b4 p (l++lK e):=by simpa only [lK,List.append_assoc] using e3
  obtain ⟨bs',lo',q1,q2,q3,q4⟩:=ih (i+1) b4 l4 (l++lK e) (by omega) e3' (by rw [ap]; omega);have hw:=ak hlt hs;refine ⟨bs',lo',?_,fun _=>q2 e2,by simpa using q3,(((((Fx.lay hW.len _).trans a4).trans c4).trans d4).trans ((Fx.lay d3.len _).trans e4)).trans q4⟩;simp at a1 c1 d1 e1;rw [key];simp [tN,hx,aH,a1,f3,c1,g1,d1,k1,e1,hw,show ((i:Int)<c.pods.l.length) from by omega];simpa using q1
theorem GJ (c:Cfg)(hs:c.services.l.length<2 ^ 62){p:Nat}:∀ (m i:Nat) (bs:List Blk) (lo:Nat) (l:List Int),i+m=c.services.l.length->Wr bs p l->l.length+((c.services.l.drop i).flatMap lS).length<=big →
 ∃ bs' lo',Cd E TT aj (.loop [1,3,77,78,79] tO) [(1,.ptr 0 0),(3,.ptr p 0),(77,.d (c.services.d Svc.c)),(78,.d (i64 c.services.l.length)),(79,.d (i64 i))] ⟨bs,lo⟩=some (.exit 2,[(1,.ptr 0 0),(3,.ptr p 0)],⟨bs',lo'⟩) ∧
  (lo<=p->lo'<=p)/\Wr bs' p (l++(c.services.l.drop i).flatMap lS)/\Fx p bs bs':=by
 intro m;have key:=aC (E:=E) (T:=TT) (val:=aj) [1,3,77,78,79] tO;generalize Cd E TT aj (.loop [1,3,77,78,79] tO)=W at key ⊢
 induction m with
 | zero =>
  intro i bs lo l hi hW hl;have h0:c.services.l.drop i=[]:=ba (by omega);refine ⟨bs,lo,?_,id,by simpa [h0] using hW,Fx.refl _ _⟩;rw [key];simp [tO,show ¬ ((i:Int)<c.services.l.length) from by omega]
 | succ m ih =>
  intro i bs lo l hi hW hl;have hlt:i<c.services.l.length:=by omega
  have hx:=fun h=>ay (z:=5) h (ac hlt) (cells:=Svc.c) rfl;rw [aw hlt] at hl ⊢;rw [dC] at hl;generalize c.services.l[i]=e at *;have hl2:(lS e).length=([e.id].flatMap aP).length+((bE e.ns).length+([wrap .u64 e.addr,wrap .u64 e.port,e.way].flatMap aP).length):=by simp only [lS,ap]
  have u1:=hW.fresh1 (.cells (e.c.map .d)) [.cells [.d (u64 e.id)]];obtain ⟨b1,l1,a1,a2,a3,a4⟩:=xu (E:=E) (hW.lay (.cells (e.c.map .d)::[.cells [.d (u64 e.id)]])) (xs:=[e.id]) (by simp) (by simp) (q:=bs.length+1) u1.1 (cap:=some 1) u1.2 (by simp) (by omega) (min lo bs.length);obtain ⟨f1,f2,f3⟩:=a4.new hW;obtain ⟨b2,l2,c1,c2,c3,c4⟩:=Cx (E:=E) a3 e.ns (by simp only [ap]; omega) l1;obtain ⟨g1,g2⟩:=c4.2 _ _ f1 f2 f3;have u2:=c3.fresh [.cells [.d (u64 (wrap .u64 e.addr)),.d (u64 (wrap .u64 e.port)),.d (u64 e.way)]];obtain ⟨b4,l4,e1,e2,e3,e4⟩:=xu (E:=E) (c3.lay [.cells [.d (u64 (wrap .u64 e.addr)),.d (u64 (wrap .u64 e.port)),.d (u64 e.way)]]) (xs:=[wrap .u64 e.addr,wrap .u64 e.port,e.way]) (by simp) (by simp) (q:=b2.length) u2.1 (cap:=some 3) u2.2 (by simp) (by simp only [ap]; omega) l2;have e3':Wr b4 p (l++lS e):=by simpa only [lS,List.append_assoc] using e3
  obtain ⟨bs',lo',q1,q2,q3,q4⟩:=ih (i+1) b4 l4 (l++lS e) (by omega) e3' (by rw [ap]; omega);have hw:=ak hlt hs;refine ⟨bs',lo',?_,fun _=>q2 e2,by simpa using q3,((((Fx.lay hW.len _).trans a4).trans c4).trans ((Fx.lay c3.len _).trans e4)).trans q4⟩;simp at a1 c1 e1;rw [key];simp [tO,hx,aH,a1,f3,c1,g1,e1,hw,show ((i:Int)<c.services.l.length) from by omega];simpa using q1
theorem GQ (c:Cfg)(hs:c.bound.l.length<2 ^ 62){p:Nat}:∀ (m i:Nat) (bs:List Blk) (lo:Nat) (l:List Int),i+m=c.bound.l.length->Wr bs p l->l.length+((c.bound.l.drop i).flatMap qB).length<=big →
 ∃ bs' lo',Cd E TT aj (.loop [1,3,112,113,114] tQ) [(1,.ptr 0 0),(3,.ptr p 0),(112,.d (c.bound.d Way.c)),(113,.d (i64 c.bound.l.length)),(114,.d (i64 i))] ⟨bs,lo⟩=some (.exit 4,[(1,.ptr 0 0),(3,.ptr p 0)],⟨bs',lo'⟩) ∧
  (lo<=p->lo'<=p)/\Wr bs' p (l++(c.bound.l.drop i).flatMap qB)/\Fx p bs bs':=by
 intro m;have key:=aC (E:=E) (T:=TT) (val:=aj) [1,3,112,113,114] tQ;generalize Cd E TT aj (.loop [1,3,112,113,114] tQ)=W at key ⊢
 induction m with
 | zero =>
  intro i bs lo l hi hW hl;have h0:c.bound.l.drop i=[]:=ba (by omega);refine ⟨bs,lo,?_,id,by simpa [h0] using hW,Fx.refl _ _⟩;rw [key];simp [tQ,show ¬ ((i:Int)<c.bound.l.length) from by omega]
 | succ m ih =>
  intro i bs lo l hi hW hl;have hlt:i<c.bound.l.length:=by omega
  have hx:=fun h=>ay (z:=2) h (ac hlt) (cells:=Way.c) rfl;rw [aw hlt] at hl ⊢;rw [dC] at hl;generalize c.bound.l[i]=e at *;have u1:=hW.fresh1 (.cells (e.c.map .d)) [.cells [.d (u64 e.id),.d (u64 (wrap .u64 e.node))]];obtain ⟨b1,l1,a1,a2,a3,a4⟩:=xu (E:=E) (hW.lay (.cells (e.c.map .d)::[.cells [.d (u64 e.id),.d (u64 (wrap .u64 e.node))]])) (xs:=[e.id,wrap .u64 e.node]) (by simp) (by simp) (q:=bs.length+1) u1.1 (cap:=some 2) u1.2 (by simp) (by have:(qB e).length=([e.id,wrap .u64 e.node].flatMap aP).length:=rfl; omega) (min lo bs.length);obtain ⟨bs',lo',q1,q2,q3,q4⟩:=ih (i+1) b1 l1 (l++qB e) (by omega) a3 (by rw [ap]; omega);have hw:=ak hlt hs;refine ⟨bs',lo',?_,fun _=>q2 a2,by simpa using q3,((Fx.lay hW.len _).trans a4).trans q4⟩;simp at a1;rw [key];simp [tQ,hx,aH,a1,hw,show ((i:Int)<c.bound.l.length) from by omega];simpa using q1
def yU (x:V)(h:Hp):Option (V×Hp):=match x with
 | .d (.str _)=>none
 | v=>match aD h v 1 with
  | some (_,cs)=>match cs.mapM (fun v=>match v with | .d (.int .u8 n)=>some (UInt8.ofNat n.toNat) | _=>none) with
   | some l=>some (.d (.str ⟨l.toArray⟩),h)
   | none=>none
  | none=>none
@[simp] theorem OM {C:Calls'}{ev:X->V}{h:Hp}{x:X}:opE C (.convBS x) ev h=yU (ev x) h:=(rfl)
theorem CS (l:List Int):(l.map fun n=>[D.int .u8 n]).flatten.map V.d=l.map (iv .u8):=by
 induction l with
 | nil=>rfl
 | cons x l ih=>simp only [cm,List.flatten_cons,List.map_append,ih]; rfl
theorem AJ {h:Hp}{l:List Int}:yU (.d (bytesD l)) h=some (.d (.str (strOf l)),h):=by
 have hall:((l.map fun n=>[D.int .u8 n]).all fun e=>e.length==1)=true:=by simp
 have hm:(l.map (iv .u8)).mapM (fun v=>match v with | .d (.int .u8 n)=>some (UInt8.ofNat n.toNat) | _=>none)=some (l.map fun n=>UInt8.ofNat n.toNat):=by
  induction l with
  | nil=>rfl
  | cons x l ih =>
   simp only [cm,List.mapM_cons] at ih ⊢;rw [ih (by simp)];rfl
 simp only [yU,bytesD,aD,hall,if_true,CS,hm];rfl
section
variable (h385:∀ t:Target,t.wf big->∀ h,E 201 [ag t.c] h=some (bl (aR t),h))
include h385
theorem Gh (c:Cfg)(hs:c.policies.l.length<2 ^ 62)(hwf:∀ p∈c.policies.l,p.wf big/\ed p=true){p:Nat}:∀ (m i:Nat) (bs:List Blk) (lo:Nat) (l:List Int),i+m=c.policies.l.length->Wr bs p l->l.length+((c.policies.l.drop i).flatMap fT).length<=big →
 ∃ bs' lo',Cd E TT aj (.loop [3,135,136,137] tT) [(3,.ptr p 0),(135,.d (c.policies.d Pol.c)),(136,.d (i64 c.policies.l.length)),(137,.d (i64 i))] ⟨bs,lo⟩=some (.exit 6,[(3,.ptr p 0)],⟨bs',lo'⟩) ∧
  (lo<=p->lo'<=p)/\Wr bs' p (l++(c.policies.l.drop i).flatMap fT)/\Fx p bs bs':=by
 intro m;have key:=aC (E:=E) (T:=TT) (val:=aj) [3,135,136,137] tT;generalize Cd E TT aj (.loop [3,135,136,137] tT)=W at key ⊢
 induction m with
 | zero =>
  intro i bs lo l hi hW hl;have h0:c.policies.l.drop i=[]:=ba (by omega);refine ⟨bs,lo,?_,id,by simpa [h0] using hW,Fx.refl _ _⟩;rw [key];simp [tT,show ¬ ((i:Int)<c.policies.l.length) from by omega]
 | succ m ih =>
  intro i bs lo l hi hW hl;have hlt:i<c.policies.l.length:=by omega
  have hx:=fun h=>ay (z:=5) h (ac hlt) (cells:=Pol.c) rfl;obtain ⟨hw1,hw2⟩:=hwf _ (bh hlt);rw [aw hlt] at hl ⊢;rw [dC] at hl;generalize c.policies.l[i]=e at *;have n1:=fun h=>Yh h385 e hw1 h;simp only [hw2,if_true] at n1;obtain ⟨b1,l1,a1,a2,a3,a4⟩:=Cx (E:=E) (hW.lay [.cells (e.c.map .d)]) (strOf (lm e)) (by have:(fT e).length=(bE (strOf (lm e))).length:=rfl; omega) (min lo bs.length);obtain ⟨bs',lo',q1,q2,q3,q4⟩:=ih (i+1) b1 l1 (l++fT e) (by omega) a3 (by rw [ap]; omega);have hw:=ak hlt hs;refine ⟨bs',lo',?_,fun _=>q2 a2,by simpa using q3,((Fx.lay hW.len _).trans a4).trans q4⟩;rw [key];simp [tT,hx,n1,AJ,a1,hw,show ((i:Int)<c.policies.l.length) from by omega];simpa using q1
end
end
section
variable {E:Calls'}
def bz (c:Cfg):List Int:=[c.epoch,c.next,wrap .u64 c.hosts,wrap .u64 c.ways,(c.pods.l.length:Int)].flatMap aP++(c.pods.l.flatMap lK++([(c.services.l.length:Int)].flatMap aP++(c.services.l.flatMap lS++([(c.bound.l.length:Int)].flatMap aP++(c.bound.l.flatMap qB++([(c.policies.l.length:Int)].flatMap aP++c.policies.l.flatMap fT))))))
theorem DT (l:List Int):(strOf l).size=l.length:=by
 show ((l.map fun n=>UInt8.ofNat n.toNat).toArray).size=_;simp
theorem KZ {p:Pod}(h1:p.ns.size<=20)(h2:p.sa.size<=20):(lK p).length<=110:=by
 have a1:=bv p.uid;have a2:=ji p.ns;have a3:=ji p.sa;have a4:=bv (wrap .u64 p.host);have a5:=bv (wrap .u64 p.addr);have a6:=bv (wrap .u64 p.port);have a7:=bv p.service;simp only [lK,ap,List.flatMap_cons,List.flatMap_nil,cg];omega
theorem MK {p:Svc}(h1:p.ns.size<=20):(lS p).length<=70:=by
 have a1:=bv p.id;have a2:=ji p.ns;have a5:=bv (wrap .u64 p.addr);have a6:=bv (wrap .u64 p.port);have a7:=bv p.way;simp only [lS,ap,List.flatMap_cons,List.flatMap_nil,cg];omega
theorem MZ {p:Way}:(qB p).length<=20:=by
 have a1:=bv p.id;have a5:=bv (wrap .u64 p.node);simp only [qB,ap,List.flatMap_cons,List.flatMap_nil,cg];omega
theorem IY {p:Pol}(h:ed p=true):(fT p).length<=53310:=by
 have a2:=ji (strOf (lm p));rw [DT] at a2;have:=uS h;simp only [fT];omega
theorem wI {c:Cfg}(h:fG c=true):∀ p∈c.pods.l,p.ns.size<=20/\p.sa.size<=20:=by
 simp only [fG,aq,Bool.not_eq_true',List.any_eq_false] at h;intro p hp;have:=h.1 p hp;simp only [bq,aZ,Bool.or_eq_true,not_or,Bool.not_eq_true',Bool.not_eq_false,aq] at this;exact ⟨qR this.1.2.2.1,qR this.1.2.2.2⟩
theorem wX {c:Cfg}(h:bL c=true):∀ p∈c.services.l,p.ns.size<=20:=by
 simp only [bL,aq,Bool.not_eq_true',List.any_eq_false] at h;intro p hp;have:=h.1 p hp;simp only [eZ,Bool.or_eq_true,not_or,Bool.not_eq_true',Bool.not_eq_false] at this;exact qR this.2.1
theorem fK {c:Cfg}(h:bB c=true):∀ p∈c.policies.l,ed p=true:=by
 simp only [bB,aq,Bool.not_eq_true',List.any_eq_false] at h;intro p hp;have:=h.1 p hp;simp only [eX,Bool.or_eq_true,not_or,Bool.not_eq_true',Bool.not_eq_false] at this;exact this.2.1
theorem nW {c:Cfg}(h1:bT c=true)(h2:gP c=true):(bz c).length<=700000:=by
 simp only [bT,aq,br] at h1;simp only [gP,aq] at h2;have b1:=iA (K:=110) (f:=lK) (l:=c.pods.l) fun p hp=>KZ (wI h2.1.1.1.1.2 p hp).1 (wI h2.1.1.1.1.2 p hp).2;have b2:=iA (K:=70) (f:=lS) (l:=c.services.l) fun p hp=>MK (wX h2.1.1.1.2 p hp);have b3:=iA (K:=20) (f:=qB) (l:=c.bound.l) fun p hp=>MZ;have b4:=iA (K:=53310) (f:=fT) (l:=c.policies.l) fun p hp=>IY (fK h2.2 p hp);have a1:=bv c.epoch;have a2:=bv c.next;have a3:=bv (wrap .u64 c.hosts);have a4:=bv (wrap .u64 c.ways);have a5:=bv (c.pods.l.length:Int);have a6:=bv (c.services.l.length:Int);have a7:=bv (c.bound.l.length:Int);have a8:=bv (c.policies.l.length:Int);simp only [bz,ap,List.flatMap_cons,List.flatMap_nil,cg];omega
theorem wrapN {n:Nat}(h:n<=2 ^ 30):wrap .u64 (n:Int)=n:=by
 simp [wrap,IntKind.bits,IntKind.signed];omega
section
variable (h385:∀ t:Target,t.wf big->∀ h,E 201 [ag t.c] h=some (bl (aR t),h))
include h385
theorem SL (c:Cfg)(hc:c.wf big)(hpm:∀ p∈c.policies.l,ed p=true)(hlen:(bz c).length<=big)(h:Hp){a:V}(ha:frz h a=some (ag c.c)):Sm E TT aj 25 [a] h=some (.d (bytesD (bz c)),h):=by
 have hm:[a].mapM (frz h)=some [c.v]:=by simp [ha,Cfg.v]
 have hok:c.ok:=hc.ok (bp _);have w1:=wrapN (n:=c.pods.l.length) hok.1.1;have w2:=wrapN (n:=c.services.l.length) hok.2.1.1;have w3:=wrapN (n:=c.bound.l.length) hok.2.2.1.1;have w4:=wrapN (n:=c.policies.l.length) hok.2.2.2.1.1;rw [aV t94 v94,hm,lq];have hlen0:=hlen;simp only [bz,ap] at hlen;obtain ⟨lo0,m1⟩:=Sw (E:=E) [.cells (c.c.map .d)] 0;have hW:=J3 [.cells (c.c.map .d)];have hW0:jl ([.cells (c.c.map .d)]++[.cells [.d (.slice true [])]]) 1≠some 0:=by simp [jl]
 have u1:=hW.fresh [.cells [.d (u64 c.epoch),.d (u64 c.next),.d (u64 (wrap .u64 c.hosts)),.d (u64 (wrap .u64 c.ways)),.d (u64 c.pods.l.length)]];obtain ⟨b1,l1,a1,a2,a3,a4⟩:=xu (E:=E) (hW.lay [.cells [.d (u64 c.epoch),.d (u64 c.next),.d (u64 (wrap .u64 c.hosts)),.d (u64 (wrap .u64 c.ways)),.d (u64 c.pods.l.length)]]) (xs:=[c.epoch,c.next,wrap .u64 c.hosts,wrap .u64 c.ways,(c.pods.l.length:Int)]) (by simp) (by simp) u1.1 (cap:=some 5) u1.2 (by simp) (by simp only [cg]; omega) lo0;obtain ⟨f1,f2⟩:=((Fx.lay hW.len _).trans a4).2 0 (c.c.map .d) (by simp) hW0 (by simp);obtain ⟨b2,l2,c1,c2,c3,c4⟩:=Gf (E:=E) c hok.1.lt c.pods.l.length 0 b1 l1 _ (by omega) a3 (by simp only [ap,List.drop_zero,cg]; omega);obtain ⟨g1,g2⟩:=c4.2 _ _ (by simp) f2 f1;simp only [List.drop_zero] at c3;have u2:=c3.fresh [.cells [.d (u64 c.services.l.length)]];obtain ⟨b3,l3,d1,d2,d3,d4⟩:=xu (E:=E) (c3.lay [.cells [.d (u64 c.services.l.length)]]) (xs:=[(c.services.l.length:Int)]) (by simp) (by simp) u2.1 (cap:=some 1) u2.2 (by simp) (by simp only [ap,cg]; omega) l2;obtain ⟨g3,g4⟩:=((Fx.lay c3.len _).trans d4).2 _ _ (by simp) g2 g1;obtain ⟨b4,l4,e1,e2,e3,e4⟩:=GJ (E:=E) c hok.2.1.lt c.services.l.length 0 b3 l3 _ (by omega) d3 (by simp only [ap,List.drop_zero,cg]; omega);obtain ⟨g5,g6⟩:=e4.2 _ _ (by simp) g4 g3;simp only [List.drop_zero] at e3
 have u3:=e3.fresh [.cells [.d (u64 c.bound.l.length)]];obtain ⟨b5,l5,i1,i2,i3,i4⟩:=xu (E:=E) (e3.lay [.cells [.d (u64 c.bound.l.length)]]) (xs:=[(c.bound.l.length:Int)]) (by simp) (by simp) u3.1 (cap:=some 1) u3.2 (by simp) (by simp only [ap,cg]; omega) l4;obtain ⟨g7,g8⟩:=((Fx.lay e3.len _).trans i4).2 _ _ (by simp) g6 g5;obtain ⟨b6,l6,j1,j2,j3,j4⟩:=GQ (E:=E) c hok.2.2.1.lt c.bound.l.length 0 b5 l5 _ (by omega) i3 (by simp only [ap,List.drop_zero,cg]; omega);obtain ⟨g9,g10⟩:=j4.2 _ _ (by simp) g8 g7;simp only [List.drop_zero] at j3;have u4:=j3.fresh [.cells [.d (u64 c.policies.l.length)]];obtain ⟨b7,l7,k1,k2,k3,k4⟩:=xu (E:=E) (j3.lay [.cells [.d (u64 c.policies.l.length)]]) (xs:=[(c.policies.l.length:Int)]) (by simp) (by simp) u4.1 (cap:=some 1) u4.2 (by simp) (by simp only [ap,cg]; omega) l6;obtain ⟨g11,g12⟩:=((Fx.lay j3.len _).trans k4).2 _ _ (by simp) g10 g9;obtain ⟨b8,l8,n1,n2,n3,n4⟩:=Gh h385 c hok.2.2.2.1.lt (fun p hp=>⟨hc.2.2.2.2.2.2.2.2 p hp,hpm p hp⟩) c.policies.l.length 0 b7 l7 _ (by omega) k3 (by simp only [ap,List.drop_zero,cg]; omega);simp only [List.drop_zero] at n3
 have hfin:([]++[c.epoch,c.next,wrap .u64 c.hosts,wrap .u64 c.ways,(c.pods.l.length:Int)].flatMap aP++c.pods.l.flatMap lK++[(c.services.l.length:Int)].flatMap aP++c.services.l.flatMap lS++[(c.bound.l.length:Int)].flatMap aP++c.bound.l.flatMap qB++[(c.policies.l.length:Int)].flatMap aP++c.policies.l.flatMap fT)=bz c:=by simp only [bz,List.nil_append,List.append_assoc]
 rw [hfin] at n3;have hne:bz c≠[]:=by
  simp [bz,cK]
 generalize bz c=L at *;obtain ⟨l9,r1⟩:=Sy (E:=E) n3 hlen0 hne l8;have how:ownR ⟨b8++[.cells (L.map (iv .u8))],l9⟩ (.row b8.length 0 L.length none 1)=true:=by
  have hg:Hp.get ⟨b8++[.cells (L.map (iv .u8))],l9⟩ b8.length=some (L.map (iv .u8)):=by simp [get_eq]
  simp only [ownR,xH,ll,hg,List.all_map,ch];intro x _;rfl
 have hfz:=uu (h:=⟨b8++[.cells (L.map (iv .u8))],l9⟩) (k:=7) (b:=b8.length) (l:=L) (cap:=none) (by simp);simp at a1 m1 c1 d1 e1 i1 j1 k1 n1 r1 f1 g1 g3 g5 g7 g9;simp [ae,q94,m1,aH,w1,a1,f1];rw [au];simp [c1,g1,w2,aH,d1,g3];rw [au];simp [e1,g5,w3,aH,i1,g7];rw [au];simp [j1,g9,w4,aH,k1,g11];rw [au];simp [n1,r1,hfz,frz,bQ,how]
theorem S94 (c:Cfg)(hc:c.wf big)(hpm:∀ p∈c.policies.l,ed p=true)(hlen:(bz c).length<=big)(h:Hp):Sm E TT aj 25 [c.v] h=some (.d (bytesD (bz c)),h):=SL h385 c hc hpm hlen h (by simp [Cfg.v])
def df (c:Cfg):Bool:=bT c&&gP c&&decide (((bz c).length:Int)<=8192)
theorem S41 (c:Cfg)(hc:c.wf 1048576)(hcb:c.wf big)(h:Hp):Sm E TT aj 20 [c.v] h=some (bl (df c),h):=by
 have n1:=fun h=>S92 (E:=E) c h;have n2:=fun h=>S93 h385 c hc hcb h;rw [aV t41 v41];cases h1:bT c with
 | false =>
  simp only [h1] at n1;simp +decide [ae,q41,n1,ai,aa,av,az,df,h1]
 | true =>
  simp only [h1] at n1;cases h2:gP c with
  | false =>
   simp only [h2] at n2;simp +decide [ae,q41,n1,n2,ai,aa,av,az,df,h1,h2]
  | true =>
   simp only [h2] at n2;have hle:=nW h1 h2;have hp:bB c=true:=by
    simp only [gP,aq] at h2;exact h2.2
   have n3:=fun h=>S94 h385 c hcb (fK hp) (ce hle (by decide)) h;have hl:nG false (.d (bytesD (bz c))) ⟨[.cells (c.c.map .d)],0⟩=some (.d (i64 (bz c).length),⟨[.cells (c.c.map .d)],0⟩):=by
    simp [bytesD]
   generalize hL:bytesD (bz c)=L at *;simp +decide [ae,q41,n1,n2,n3,hl,ai,aa,av,az,df,h1,h2]
end
end
section
theorem nP:∀ {l:List Int},dQ l=true->l.Pairwise (·<·)
 | [],_=>.nil
 | [x],_=>by simp
 | x::y::l,h=>by
  simp only [dQ,aq,br] at h;have ih:=nP h.2;refine List.pairwise_cons.2 ⟨fun z hz=>?_,ih⟩;rcases List.mem_cons.1 hz with rfl | hz
  · exact h.1
  · exact Int.lt_trans h.1 ((List.pairwise_cons.1 ih).1 z hz)
theorem kT {l:List Int}(h:dQ l=true):l.Nodup:=(nP h).imp fun h=>by omega
end
section
theorem Sl.wf.le {α:Type}{B B':Nat}(hB:B<=B'){f:Nat->α->Prop}(hf:∀ x,f B x->f B' x){s:Sl α}(h:s.wf B f):s.wf B' f:=⟨h.1.le hB,fun x hx=>hf x (h.2 x hx)⟩
section
variable {B B':Nat}(hB:B<=B')
include hB
theorem Pod.wf.le {x:Pod}(h:x.wf B):x.wf B':=⟨h.1,ce h.2.1 hB,ce h.2.2.1 hB,h.2.2.2⟩
theorem Svc.wf.le {x:Svc}(h:x.wf B):x.wf B':=⟨h.1,ce h.2.1 hB,h.2.2⟩
omit hB in
theorem Way.wf.le {x:Way}(h:x.wf B):x.wf B':=⟨h.1,h.2⟩
theorem Term.wf.le {x:Term}(h:x.wf B):x.wf B':=⟨h.1,ce h.2 hB⟩
omit hB in
theorem Cidr.wf.le {x:Cidr}(h:x.wf B):x.wf B':=⟨h.1,h.2⟩
theorem Source.wf.le {x:Source}(h:x.wf B):x.wf B':=⟨Sl.wf.le hB (fun _=>Term.wf.le hB) h.1,Sl.wf.le hB (fun _=>Term.wf.le hB) h.2.1,Sl.wf.le hB (fun _=>Cidr.wf.le) h.2.2⟩
theorem Target.wf.le {x:Target}(h:x.wf B):x.wf B':=⟨Sl.wf.le hB (fun _ h=>h) h.1,Sl.wf.le hB (fun _=>Term.wf.le hB) h.2.1,Sl.wf.le hB (fun _=>Term.wf.le hB) h.2.2.1,Sl.wf.le hB (fun _=>Term.wf.le hB) h.2.2.2⟩
theorem When.wf.le {x:When}(h:x.wf B):x.wf B':=⟨ce h.1 hB,Sl.wf.le hB (fun _=>Term.wf.le hB) h.2⟩
theorem Rule.wf.le {x:Rule}(h:x.wf B):x.wf B':=⟨Sl.wf.le hB (fun _=>Source.wf.le hB) h.1,Sl.wf.le hB (fun _=>Target.wf.le hB) h.2.1,Sl.wf.le hB (fun _=>When.wf.le hB) h.2.2⟩
theorem Pol.wf.le {x:Pol}(h:x.wf B):x.wf B':=⟨h.1,ce h.2.1 hB,h.2.2.1,h.2.2.2.1,Sl.wf.le hB (fun _=>Rule.wf.le hB) h.2.2.2.2⟩
theorem Cfg.wf.le {x:Cfg}(h:x.wf B):x.wf B':=⟨h.1,h.2.1,h.2.2.1,h.2.2.2.1,Sl.wf.le hB (fun _=>Pod.wf.le hB) h.2.2.2.2.1,Sl.wf.le hB (fun _=>Svc.wf.le hB) h.2.2.2.2.2.1,Sl.wf.le hB (fun _=>Way.wf.le) h.2.2.2.2.2.2.1,Sl.wf.le hB (fun _=>Pol.wf.le hB) h.2.2.2.2.2.2.2⟩
end
end
