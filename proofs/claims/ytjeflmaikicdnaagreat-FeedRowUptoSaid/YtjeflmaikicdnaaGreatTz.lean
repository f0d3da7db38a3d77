/- slices.Sort at numbers; slices.Compact at numbers, with what it leaves. -/
import Derived.Test.YtjeflmaikicdnaaGreatTi
set_option maxRecDepth 100000
set_option linter.unusedVariables false
set_option linter.unusedSimpArgs false
namespace Go.Proofs.YtjeflmaikicdnaaGreat
open IntKind (wrap)
section
open Go.Sort (ltInt PermIn SortedIn sorted_unique_holds)
def df9:List (Nat×QF):=[(96,Ld),(97,YT)]
def TU:FuncId->Option QF:=iW df9
def Ai (f:FuncId):Bool:=false
theorem ak0:TU 96=some Ld:=by kernel_rfl
theorem ak1:TU 97=some (cmpQ .u32):=by kernel_rfl
theorem ak3:TU 196=none:=by kernel_rfl
theorem ak4:TU 197=none:=by kernel_rfl
theorem EE {bs:List Blk}{b lo:Nat}{cs:List V}(hb:au bs b=some cs):Mr bs b cs lo=⟨bs,lo⟩:=by
 have hbl:=aK hb;unfold Mr
 congr 1
 apply List.ext_getElem?;intro i;by_cases hi:b=i
 . subst hi;rw [List.getElem?_set_self hbl];unfold au at hb;split at hb
   . rename_i hh; cases hb; exact hh.symm
   . cases hb
 . rw [ac hi]
theorem PI {d d':Array Int}(h1:PermIn 0 d.size d d')(h2:SortedIn ltInt 0 d.size d'):d'.toList=bI d.toList:=by
 have:=sorted_unique_holds IQ (λx y a b=>by simp [ltInt] at a b; omega) d d' h1 h2;rw [this,bI]
 congr 1
 funext x y;simp only [ltInt];by_cases h:x<=y
 . simp [h]
 . simp [h]; omega
section
variable {E:Calls'}(h334:∀ x y h,E 264 [.d (u32 x),.d (u32 y)] h=some (bl (ltInt x y),h))(h241:∀ x h,E 197 [.d (u64 x)] h=some (.d (i64 (bX x)),h))
include h334 h241
theorem bf1 {E2:Calls'}(k240:∀ args h,E2 196 args h=Sm E TS aR 196 args h)(k241:∀ x h,E2 197 [.d (u64 x)] h=some (.d (i64 (bX x)),h)){bs:List Blk}{b lo n:Nat}{cap:Option Nat}(hb:b<bs.length)(d:Array Int)(hd:d.size=n)(hn:n<2 ^ 59) :
 ∃ ys lo',Sm E2 TU Ai 96 [.row b 0 n cap 1] (Mz .u32 bs b d lo)=some (.tup [],Mr (bs++ys) b ((bI d.toList).map (iv .u32)) lo'):=by
 obtain ⟨a0,a1,a2⟩:=Bt (x:=(n:Int)) (by omega) (by omega);have hle:=wP (n:Int);obtain ⟨k,hk⟩:∃ k:Nat,bX n=k:=⟨(bX n).toNat,by omega⟩;obtain ⟨ys,d',lo1,c1,c2,c3,c4⟩:=bh5 h334 h241 hn (cap:=cap) (lim:=k) (by omega) hb d bs.length hd;have hsz:=c2.1;have hl:=PI (d:=d) (d':=d') (by rw [hd]; exact c2) (by rw [hd]; exact c3);have hz:zsV .u32 d'=(bI d.toList).map (iv .u32):=by rw [zsV,hl]
 obtain ⟨lo2,r1,r2⟩:=zq (lo:=lo) hb c4;have hwu:wrap .u64 (n:Int)=(n:Int):=by simp [wrap,IntKind.bits,IntKind.signed]; omega
 have n240:∀ args h,Sm E2 TU Ai 196 args h=Sm E TS aR 196 args h:=λargs h=>by rw [aG ak3]; exact k240 args h
 have n241:∀ x h,Sm E2 TU Ai 197 [.d (u64 x)] h=some (.d (i64 (bX x)),h):=λx h=>by rw [aG ak4]; exact k241 x h
 refine ⟨ys,lo2,?_⟩;rw [← hz];refine Eq.trans ?_ r1;have hlen:(Mz .u32 bs b d lo).bs.length=bs.length:=by simp [Mz,Mr]
 have hM:(⟨(Mz .u32 bs b d lo).bs,bs.length⟩:Hp)=Mz .u32 bs b d bs.length:=rfl;rw [av ak0 rfl,hlen,hM]
 congr 1
 generalize Mz .u32 bs b d bs.length=M0 at *;generalize Mz .u32 (bs++ys) b d' lo1=M1 at *;try simp at c1
 simp [aa,Ld,hwu,n240,n241,hk,c1];rfl
end
def qg:List Int->List Int
 | x::y::l=>(if x=y then [] else [y])++qg (y::l)
 | _=>[]
theorem rD:∀ l:List Int,(qg l).length=chg l
 | []=>rfl
 | [_]=>rfl
 | x::y::l=>by
  have:=rD (y::l);simp only [qg,chg,aq,this];split<;>simp
theorem ym {zs:List Int}{i:Nat}(h:i+1<zs.length):qg (zs.drop i)=(if zs[i]=zs[i+1] then [] else [zs[i+1]])++qg (zs.drop (i+1)):=by
 rw [ba (show i<zs.length by omega),ba h];simp only [qg]
theorem AU:∀ (x:Int) (l:List Int),cmpL (x::l)=x::qg (x::l)
 | x,[]=>rfl
 | x,y::l=>by
  have ih:=AU y l;rw [cmpL,ih];by_cases h:x=y
  . subst h; simp [qg]
  . simp [qg,h]
section
variable {E:Calls'}{T:FuncId->Option QF}{val:FuncId->Bool}{kd:IntKind}
theorem Nb {bs:List Blk}{b:Nat}(hb:b<bs.length){zs:List Int}{cap cap2:Option Nat}(hn:zs.length<2 ^ 62){k0:Nat}(hk0:1<=k0)(hk1:k0<zs.length):∀ (m i k:Nat) (cur:List V) (lo:Nat),k0+i+m=zs.length->1<=i->k<k0+i->cur.length=zs.length->(∀ j (hj:j<zs.length),k<=j->cur[j]?=some (iv kd zs[j])) →
 ∃ cur' lo',Cd E T val (.loop [0,3,4,5] (mg kd)) [(0,.row b 0 zs.length cap 1),(3,.d (i64 k)),(4,.row b k0 (zs.length-k0) cap2 1),(5,.d (i64 i))] (Mr bs b cur lo) =
  some (.exit 2,[(0,.row b 0 zs.length cap 1),(3,.d (i64 (k+chg (zs.drop (k0+i-1)):Nat)))],Mr bs b cur' lo')/\cur'.length=zs.length/\(lo'=lo\/lo'=min lo b)/\cur'.take (k+chg (zs.drop (k0+i-1)))=cur.take k++(qg (zs.drop (k0+i-1))).map (iv kd):=by
 intro m;have key:=ax (E:=E) (T:=T) (val:=val) [0,3,4,5] (mg kd);generalize Cd E T val (.loop [0,3,4,5] (mg kd))=W at key ⊢
 induction m with
 | zero =>
  intro i k cur lo hi h1 hk hl hc;have h0:chg (zs.drop (k0+i-1))=0:=by
   have:=qB (zs.drop (k0+i-1));simp only [List.length_drop] at this;omega
  have hL:qg (zs.drop (k0+i-1))=[]:=List.eq_nil_of_length_eq_zero (by rw [rD,h0]);refine ⟨cur,lo,?_,hl,.inl rfl,by rw [h0,hL]; simp⟩;rw [key,h0];simp [mg,show ¬ ((i:Int)<((zs.length-k0:Nat):Int)) from by omega]
 | succ m ih =>
  intro i k cur lo hi h1 hk hl hc;have hlt:i<zs.length-k0:=by omega
  have e1:=hc (k0+i) (by omega) (by omega);have e0:=hc (k0+i-1) (by omega) (by omega);have hd:=rE (zs:=zs) (i:=k0+i-1) (by omega);have hdL:=ym (zs:=zs) (i:=k0+i-1) (by omega);have hs:k0+i-1+1=k0+i:=by omega
  simp only [hs] at hd hdL;rw [hd,hdL];have hw:=aI (show i<zs.length by omega) hn;have hwk:=aI (show k<zs.length by omega) hn;have hwm:wrap .i64 ((i:Int)-1)=((i-1:Nat):Int):=by rw [wrap64]<;>omega
  have i1:=λh=>gD (b:=b) (o:=k0) (z:=1) (cap:=cap2) (kd:=.i64) (h:=h) hlt;have i0:=λh=>gD (b:=b) (o:=k0) (z:=1) (cap:=cap2) (kd:=.i64) (h:=h) (show i-1<zs.length-k0 by omega);have ik:=λh=>gD (b:=b) (o:=0) (z:=1) (cap:=cap) (kd:=.i64) (h:=h) (show k<zs.length by omega);simp only [Nat.mul_one,show k0+(i-1)=k0+i-1 by omega,Nat.zero_add] at i1 i0 ik;have l1:=rq (lo:=lo) hb e1;have l0:=rq (lo:=lo) hb e0;generalize zs[k0+i]'(by omega)=y at *;generalize zs[k0+i-1]'(by omega)=x at *;by_cases hxy:x=y
  . obtain ⟨cur',lo',k1,k2,k3,k4⟩:=ih (i+1) k cur lo (by omega) (by omega) (by omega) hl hc;simp only [show k0+(i+1)-1=k0+i by omega] at k1 k4;simp only [hxy,if_true,Nat.zero_add,List.nil_append];refine ⟨cur',lo',?_,k2,k3,k4⟩;rw [key];subst hxy;simp [mg,i1,i0,l1,l0,iv,hw,hwm,show ((i:Int)<((zs.length-k0:Nat):Int)) from by omega,-aC];simpa using k1
  . have st:=I9 (lo:=lo) (x:=.int kd y) hb (show k<cur.length by omega);obtain ⟨cur',lo',k1,k2,k3,k4⟩:=ih (i+1) (k+1) (cur.set k (.d (.int kd y))) (min lo b) (by omega) (by omega) (by omega) (by simpa using hl) (by
     intro j hj hkj;rw [ac (by omega)];exact hc j hj (by omega))
    simp only [show k0+(i+1)-1=k0+i by omega] at k1 k4;simp only [hxy,if_false];refine ⟨cur',lo',?_,k2,by obtain k3 | k3:=k3<;>omega,?_⟩
    . rw [key];have hyx:¬ y=x:=λh=>hxy h.symm;simp [mg,i1,i0,ik,l1,l0,st,iv,hw,hwk,hwm,hyx,show ((i:Int)<((zs.length-k0:Nat):Int)) from by omega,-aC,-aL];rw [show ((k:Int)+(1+(chg (zs.drop (k0+i)):Int)))=((k+1+chg (zs.drop (k0+i)):Nat):Int) by omega];simpa using k1
    . rw [show k+(1+chg (zs.drop (k0+i)))=k+1+chg (zs.drop (k0+i)) by omega,k4];have hset:(cur.set k (.d (.int kd y))).take (k+1)=cur.take k++[iv kd y]:=by
       rw [List.take_add_one];rw [List.take_set_of_le (br k)];rw [List.getElem?_set_self (by omega)];rfl
      rw [hset];simp
theorem JE {C:Calls'}{bs:List Blk}{b lo:Nat}{cur:List V}(hb:b<bs.length){n k:Nat}{cap:Option Nat}{e:EA}{x:X}{zero:V}(he:x.ea e=.row b k (n-k) cap 1)(hc:cur.length=n)(hk:k<n) :
 ∃ cur',cur'.length=n/\cur'.take k=cur.take k/\opE C (.clear 1 [zero] x) (X.ea e) (Mr bs b cur lo)=some (.undef,Mr bs b cur' (min lo b)):=by
 have hr:((List.replicate (n-k) [zero]).flatten).length=n-k:=by simp
 have hp:put cur k (List.replicate (n-k) [zero]).flatten=some (cur.take k++(List.replicate (n-k) [zero]).flatten++cur.drop (k+(n-k))):=by
  unfold put;rw [if_pos (by rw [hr]; omega),hr]
 refine ⟨cur.take k++(List.replicate (n-k) [zero]).flatten++cur.drop (k+(n-k)),by simp only [aq,hr,List.length_take,List.length_drop]; omega,?_,?_⟩
 . rw [List.append_assoc,List.take_append_of_le_length (by simp; omega),List.take_take,Nat.min_self]
 have hne:¬ (n-k) * 1=0:=by omega
 simp only [opE,he,if_true,get_eq,sW hb,if_neg hne,hp];simp [Hp.set,Mr]
theorem JF {bs:List Blk}{b lo:Nat}(hb:b<bs.length){zs:List Int}{cap:Option Nat}(hn:zs.length<2 ^ 62):∀ (m k:Nat),k+m=zs.length->1<=k →
 ∃ cur' lo',(Cd E T val (.loop [0,3] (kD kd)) [(0,.row b 0 zs.length cap 1),(3,.d (i64 k))] (Mr bs b (zs.map (iv kd)) lo)=some (.ret,[(2,.row b 0 (k+chg (zs.drop (k-1))) cap 1)],Mr bs b cur' lo')/\cur'.length=zs.length/\lo'=min lo b/\cur'.take (k+chg (zs.drop (k-1)))=(zs.take k++qg (zs.drop (k-1))).map (iv kd)) ∨
  (Cd E T val (.loop [0,3] (kD kd)) [(0,.row b 0 zs.length cap 1),(3,.d (i64 k))] (Mr bs b (zs.map (iv kd)) lo)=some (.exit 0,[(0,.row b 0 zs.length cap 1)],Mr bs b (zs.map (iv kd)) lo)/\k+chg (zs.drop (k-1))=zs.length/\zs=zs.take k++qg (zs.drop (k-1))):=by
 intro m;have key:=ax (E:=E) (T:=T) (val:=val) [0,3] (kD kd);generalize Cd E T val (.loop [0,3] (kD kd))=W at key ⊢
 induction m with
 | zero =>
  intro k hk h1;have h0:chg (zs.drop (k-1))=0:=by
   have:=qB (zs.drop (k-1));simp only [List.length_drop] at this;omega
  have hL:qg (zs.drop (k-1))=[]:=List.eq_nil_of_length_eq_zero (by rw [rD,h0]);refine ⟨[],0,.inr ⟨?_,by omega,by rw [hL,List.take_of_length_le (by omega)]; simp⟩⟩;rw [key];simp [kD,show ¬ ((k:Int)<(zs.length:Int)) from by omega]
 | succ m ih =>
  intro k hk h1;have hlt:k<zs.length:=by omega
  have e1:(zs.map (iv kd))[k]?=some (iv kd zs[k]):=by simp [hlt]
  have e0:(zs.map (iv kd))[k-1]?=some (iv kd (zs[k-1]'(by omega))):=by rw [List.getElem?_map,ab (show k-1<zs.length by omega)]; rfl
  have hd:=rE (zs:=zs) (i:=k-1) (by omega);have hdL:=ym (zs:=zs) (i:=k-1) (by omega);have hs:k-1+1=k:=by omega
  simp only [hs] at hd hdL;have htk:zs.take (k+1)=zs.take k++[zs[k]]:=by rw [List.take_add_one,ab hlt]; rfl
  have hw:=aI hlt hn;have hwm:wrap .i64 ((k:Int)-1)=((k-1:Nat):Int):=by rw [wrap64]<;>omega
  have i1:=λh=>gD (b:=b) (o:=0) (z:=1) (cap:=cap) (kd:=.i64) (h:=h) hlt;have i0:=λh=>gD (b:=b) (o:=0) (z:=1) (cap:=cap) (kd:=.i64) (h:=h) (show k-1<zs.length by omega);simp only [Nat.mul_one,Nat.zero_add] at i1 i0;have l1:=rq (lo:=lo) hb e1;have l0:=rq (lo:=lo) hb e0;have hin:=Nb (E:=E) (T:=T) (val:=val) (kd:=kd) hb (zs:=zs) (cap:=cap) (cap2:=cap.map (· - k)) hn h1 hlt (zs.length-k-1) 1 k (zs.map (iv kd)) lo (by omega) (by omega) (by omega) (by simp) (λj hj _=>by simp [hj]);have hcl:=qB (zs.drop k);simp only [List.length_drop] at hcl;rw [hd,hdL];generalize zs[k]'(by omega)=y at *;generalize zs[k-1]'(by omega)=x at *;by_cases hxy:x=y
  . obtain ⟨cur',lo',k1,k2,k3,k4⟩:=hin;simp only [show k+1-1=k by omega] at k1 k4;have hK:k+chg (zs.drop k)<zs.length:=by omega
    generalize hKe:k+chg (zs.drop k)=K at *;obtain ⟨cur2,c1,c3,c2⟩:=JE (C:=Sm E T val) (lo:=lo') hb (cur:=cur') (e:=[(56,.row b K (zs.length-K) (cap.map (· - K)) 1),(55,.d (i64 K)),(54,.row b 0 zs.length cap 1),(0,.row b 0 zs.length cap 1),(3,.d (i64 K))]) (x:=.t 56) (n:=zs.length) (k:=K) (cap:=cap.map (· - K)) (zero:=.d (.int kd 0)) (by simp) k2 hK;have sl1:=λh=>zx (h:=h) (ev:=X.ea [(27,.d (i64 k)),(26,.row b 0 zs.length cap 1),(25,.d (.bool true)),(24,iv kd x),(23,.ptr b (k-1)),(22,.d (i64 (k-1:Nat))),(21,.d (i64 k)),(20,.row b 0 zs.length cap 1),(19,iv kd y),(18,.ptr b k),(17,.d (i64 k)),(16,.row b 0 zs.length cap 1),(13,.d (.bool true)),(12,.d (i64 zs.length)),(11,.row b 0 zs.length cap 1),(10,.d (i64 k)),(0,.row b 0 zs.length cap 1),(3,.d (i64 k))]) (x:=.t 27) (b:=b) (n:=zs.length) (cap:=cap) (k:=k) (by simp) hlt h1;have sl2:=λh=>zx (h:=h) (ev:=X.ea [(55,.d (i64 K)),(54,.row b 0 zs.length cap 1),(0,.row b 0 zs.length cap 1),(3,.d (i64 K))]) (x:=.t 55) (b:=b) (n:=zs.length) (cap:=cap) (k:=K) (by simp) hK (by omega);have sl3:=λh=>pI (h:=h) (ev:=X.ea [(58,.d (i64 K)),(57,.row b 0 zs.length cap 1),(56,.row b K (zs.length-K) (cap.map (· - K)) 1),(55,.d (i64 K)),(54,.row b 0 zs.length cap 1),(0,.row b 0 zs.length cap 1),(3,.d (i64 K))]) (x:=.t 58) (b:=b) (z:=1) (len:=zs.length) (cap:=cap) (n:=K) (by simp) (by omega);simp only [hxy,if_true,Nat.zero_add,List.nil_append]
    refine ⟨cur2,min lo' b,.inl ⟨?_,c1,by obtain k3 | k3:=k3<;>omega,?_⟩⟩
    . rw [key];subst hxy;simp [iv] at sl1;simp [kD,i1,i0,l1,l0,iv,hwm,hlt,sl1,-aC];rw [aj];simp at k1;simp [k1,sl2];rw [c2];simp [sl3,hKe]
    . rw [hKe,c3,k4,List.map_append,List.map_take]
  . obtain ⟨cur',lo',hh⟩:=ih (k+1) (by omega) (by omega);simp only [show k+1-1=k by omega,htk] at hh;refine ⟨cur',lo',?_⟩;have hyx:¬ y=x:=λh=>hxy h.symm;have hadd:k+(1+chg (zs.drop k))=k+1+chg (zs.drop k):=by omega
    have happ:zs.take k++([y]++qg (zs.drop k))=zs.take k++[y]++qg (zs.drop k):=by simp
    simp only [hxy,if_false,hadd,happ];rw [key];simp [kD,i1,i0,l1,l0,iv,hwm,hw,hlt,hyx,-aC];simpa [iv] using hh
theorem CU {id:FuncId}(ht:T id=some (cmpQ kd))(hv:val id=false){zs:List Int}{b lo:Nat}{cap:Option Nat}{bs:List Blk}(hb:b<bs.length)(hn:zs.length<2 ^ 62) :
 ∃ cur lo',Sm E T val id [.row b 0 zs.length cap 1] (Mr bs b (zs.map (iv kd)) lo)=some (.row b 0 (cmpL zs).length cap 1,Mr bs b cur lo')/\cur.take (cmpL zs).length=(cmpL zs).map (iv kd):=by
 have hl:(Mr bs b (zs.map (iv kd)) lo).bs.length=bs.length:=by simp [Mr]
 have hM:(⟨(Mr bs b (zs.map (iv kd)) lo).bs,bs.length⟩:Hp)=Mr bs b (zs.map (iv kd)) bs.length:=rfl;have hlow:∀ lo cur,(Mr bs b cur lo).low=lo:=λ_ _=>rfl;have hlen:∀ lo cur,(Mr bs b cur lo).bs.length=bs.length:=λ_ _=>by simp [Mr]
 have hmk:∀ cur lo lo',(⟨(Mr bs b cur lo).bs,lo'⟩:Hp)=Mr bs b cur lo':=λ_ _ _=>rfl;rw [av ht hv,hl,hM];by_cases h2:zs.length<2
 . have hz:cmpL zs=zs:=by
    match zs,h2 with
    | [],_=>rfl
    | [x],_=>rfl
    | _::_::_,h2=>simp at h2; omega
   rw [hz];refine ⟨zs.map (iv kd),lo,?_,by rw [List.take_of_length_le (by simp)]⟩;have h1:=hlow bs.length (zs.map (iv kd));have h5:=hlen lo (zs.map (iv kd));generalize Mr bs b (zs.map (iv kd)) bs.length=M0 at *;generalize Mr bs b (zs.map (iv kd)) lo=M1 at *;simp [cmpQ,aa,show ((zs.length:Int)<2) from by omega,V.under,hb,h1,h5]
 . obtain ⟨x,l,rfl⟩:∃ x l,zs=x::l:=by
    cases zs with
    | nil=>simp at h2
    | cons x l=>exact ⟨x,l,rfl⟩
   have hc:=AU x l;have hcl:(cmpL (x::l)).length=1+chg (x::l):=by rw [hc,cj,rD]; omega
   obtain ⟨cur',lo',hh | hh⟩:=JF (E:=E) (T:=T) (val:=val) (kd:=kd) (lo:=bs.length) (cap:=cap) hb hn ((x::l).length-1) 1 (by simp at h2 ⊢; omega) (by omega)
   . obtain ⟨k1,k2,k3,k4⟩:=hh;simp only [Nat.sub_self,List.drop_zero,List.take_succ_cons,List.take_zero,List.singleton_append] at k1 k4;rw [← hc] at k4;rw [hcl];have hlo:lo'=b:=by omega
     subst hlo;refine ⟨cur',min lo lo',?_,k4⟩;have h1:=hlow lo' cur';have h5:=hlen lo ((x::l).map (iv kd));have h6:=hlow lo ((x::l).map (iv kd));have h7:=hmk cur' lo' (min lo lo');generalize (x::l)=zs at *;generalize Mr bs lo' (zs.map (iv kd)) bs.length=M0 at *;generalize Mr bs lo' (zs.map (iv kd)) lo=M1 at *;generalize Mr bs lo' cur' lo'=M2 at *;simp at k1;simp [cmpQ,aa,show ¬ ((zs.length:Int)<2) from by omega];rw [aj];simp [k1,V.under,hb,h1,h5,h6,h7,show ¬ (bs.length<=lo') from by omega]
   . obtain ⟨k1,k2,k3⟩:=hh;simp only [Nat.sub_self,List.drop_zero,List.take_succ_cons,List.take_zero,List.singleton_append] at k1 k2 k3;rw [← hc] at k3;rw [← k3];refine ⟨(x::l).map (iv kd),lo,?_,by rw [List.take_of_length_le (by simp)]⟩;have h1:=hlow bs.length ((x::l).map (iv kd));have h5:=hlen lo ((x::l).map (iv kd));generalize (x::l)=zs at *;generalize Mr bs b (zs.map (iv kd)) bs.length=M0 at *;generalize Mr bs b (zs.map (iv kd)) lo=M1 at *;simp at k1;simp [cmpQ,aa,show ¬ ((zs.length:Int)<2) from by omega];rw [aj];simp [k1,V.under,hb,h1,h5]
end
end
section
abbrev aP:V:=.d (.slice true [])
def rC (c:Cfg)(s:Scp):List Blk:=[.cells (c.c.map .d),.cells (s.c.map .d),.cells [.d (.int .u64 0),aP,aP,aP,aP,aP],.cells [.fn 87 [.ptr 1 0]],.cells [.fn 88 [.ptr 1 0]],.cells [.fn 90 [.ptr 0 0,.ptr 3 0]],.cells [.fn 92 [.ptr 0 0]],.cells [.fn 95 [.ptr 1 0,.ptr 6 0,.ptr 5 0]]]
theorem base_E {c:Cfg}{s:Scp}:OfE c s (rC c s):=⟨rfl,rfl,rfl,rfl,rfl,rfl,rfl⟩
def pM (l:List Int):List V:=l.map λn=>.d (u32 n)
theorem xG:∀ l:List Int,flat (l.map bn)=pM l
 | []=>rfl
 | x::l=>by
  have:=xG l;simp only [flat,pM] at this ⊢;simp [bn,this]
def CvR (D:Nat)(nl:Bool)(acc:List Int)(bs:List Blk)(v:V):Prop :=
 (nl=true/\acc=[]/\v=aP)\/(nl=false/\∃ b cap,8<=b/\b≠D/\v=.row b 0 acc.length cap 1/\((cap=none/\acc≠[])\/(cap=some 0/\acc=[]))/\au bs b=some (pM acc))
structure Cv (c:Cfg) (s:Scp) (D:Nat) (nl:Bool) (acc:List Int) (bs:List Blk) (v:V):Prop where
 env:OfE c s bs
 b2:au bs 2=some [.d (.int .u64 0),aP,aP,aP,aP,aP]
 d8:8<=D
 d0:au bs D=some (aO c.epoch v aP aP aP aP)
 is:CvR D nl acc bs v
def regV:List (List Nat)×List RO:=([[],[0],[],[2],[3,2],[1,0,4,3,2],[],[5,1,0,4,3,2,6]],[⟨none,some 30,.fldA (.t 2) 0⟩,⟨none,some 31,.load true 1 (.t 30)⟩,⟨none,some 32,.fldA (.t 3) 1⟩,⟨none,some 33,.load true 1 (.t 32)⟩,⟨none,some 34,.call (.c (.fn 31 [])) [.t 33]⟩,⟨none,some 35,.build [(.d (.int .u64 0)),(.d (.slice true [])),(.d (.slice true [])),(.d (.slice true [])),(.d (.slice true [])),(.d (.slice true []))] [(0,1,(.t 31)),(1,1,(.t 34))]⟩,⟨none,some 11,.new [(.d (.int .u64 0)),(.d (.slice true [])),(.d (.slice true [])),(.d (.slice true [])),(.d (.slice true [])),(.d (.slice true []))]⟩,⟨none,none,.store 6 (.t 11) (.t 35)⟩])
theorem bp2 {E:Calls'}{c:Cfg}{s:Scp}(hs:short s.addrs)(x29 x25 x26 x27 x28 x24 x23 x21 x20 x19 x18 x17 x16 x15 x14 x5 x4 x6 x7 x8 x9 x10 x0 x1:V) :
 ∃ D v bs x35 x33 x32 x31 x30,aA (Sm E TV aX) regV.1 regV.2 [(10,x10),(29,x29),(9,x9),(28,x28),(8,x8),(27,x27),(7,x7),(26,x26),(6,x6),(25,x25),(24,x24),(23,x23),(21,x21),(20,x20),(19,x19),(18,x18),(17,x17),(16,x16),(15,x15),(14,x14),(5,x5),(4,x4),(3,.ptr 1 0),(2,.ptr 0 0),(0,x0),(1,x1)] ⟨rC c s,0⟩ =
  some ([(11,.ptr D 0),(35,x35),(34,v),(33,x33),(32,x32),(31,x31),(30,x30),(10,x10),(29,x29),(9,x9),(28,x28),(8,x8),(27,x27),(7,x7),(26,x26),(6,x6),(25,x25),(24,x24),(23,x23),(21,x21),(20,x20),(19,x19),(18,x18),(17,x17),(16,x16),(15,x15),(14,x14),(5,x5),(4,x4),(3,.ptr 1 0),(2,.ptr 0 0),(0,x0),(1,x1)],⟨bs,0⟩)/\Cv c s D s.addrs.nl s.addrs.l bs v:=by
 have hcl:=λh=>iM (E:=E) (T:=TV) (val:=aX) am2 aq2 (by decide) (by decide) (nl:=s.addrs.nl) (es:=s.addrs.l.map bn) (by simp [bn]) (by simpa using hs.1) h;have hd:s.addrs.d bn=.slice s.addrs.nl (s.addrs.l.map bn):=rfl;cases hnl:s.addrs.nl with
 | true =>
  have hl:=hs.2 hnl;rw [hnl] at hcl hd;simp [bL] at hcl;refine ⟨8,aP,rC c s++[.cells (aO c.epoch aP aP aP aP aP)],.agg (aO c.epoch (aP) aP aP aP aP),.d (s.addrs.d bn),.ptr 1 1,.d (u64 c.epoch),.ptr 0 0,?_,base_E.lay _,rfl,by decide,rfl,.inl ⟨rfl,hl,rfl⟩⟩;simp +decide [regV,rC,hd,hcl,aA,ae,aO,az]
 | false =>
  rw [hnl] at hcl hd;cases hll:s.addrs.l with
  | nil =>
   rw [hll] at hcl hd;simp [bL] at hcl hd;refine ⟨9,.row 8 0 0 (some 0) 1,rC c s++[.cells [],.cells (aO c.epoch (.row 8 0 0 (some 0) 1) aP aP aP aP)],.agg (aO c.epoch (.row 8 0 0 (some 0) 1) aP aP aP aP),.d (s.addrs.d bn),.ptr 1 1,.d (u64 c.epoch),.ptr 0 0,?_,base_E.lay _,rfl,by decide,rfl,.inr ⟨rfl,8,some 0,by decide,by decide,rfl,.inr ⟨rfl,rfl⟩,rfl⟩⟩;simp +decide [regV,rC,hd,hcl,aA,ae,aO,az]
  | cons p l' =>
   have hc2:∀ bs lo,bL 1 false (s.addrs.l.map bn) bs lo=(.row (bs.length+1) 0 s.addrs.l.length none 1,⟨bs++[.cells [],.cells (pM s.addrs.l)],lo⟩):=λbs lo=>by
    rw [← xG,hll]; simp [bL]
   simp only [hc2] at hcl;rw [← hll];refine ⟨10,.row 9 0 s.addrs.l.length none 1,rC c s++[.cells [],.cells (pM s.addrs.l),.cells (aO c.epoch (.row 9 0 s.addrs.l.length none 1) aP aP aP aP)],.agg (aO c.epoch (.row 9 0 s.addrs.l.length none 1) aP aP aP aP),.d (s.addrs.d bn),.ptr 1 1,.d (u64 c.epoch),.ptr 0 0,?_,base_E.lay _,rfl,by decide,rfl,.inr ⟨rfl,9,none,by decide,by decide,rfl,.inl ⟨rfl,by simp [hll]⟩,rfl⟩⟩;clear hc2 hll;generalize pM s.addrs.l=us at *;generalize s.addrs.l.length=n at *;simp +decide [regV,rC,hd,hcl,aA,ae,aO,az]
end
section
theorem CvR.nu {D:Nat}{nl:Bool}{acc:List Int}{bs:List Blk}{v:V}(h:CvR D nl acc bs v):Go.Proofs.YtjeflmaikicdnaaGreat.nu v=some v:=by
 obtain ⟨_,_,rfl⟩ | ⟨_,b,cap,_,_,rfl,_⟩:=h<;>rfl
theorem OfE.len {c:Cfg}{s:Scp}{bs:List Blk}(h:OfE c s bs):7<bs.length:=aK h.b7
theorem gy {bs bs':List Blk}{x:Nat}{cs:List V}(h:au bs x=some cs)(ho:bs'[x]?=bs[x]?):au bs' x=some cs:=by
 unfold au at h ⊢; rw [ho]; exact h
theorem Cv.lay {c:Cfg}{s:Scp}{D:Nat}{nl:Bool}{acc:List Int}{bs:List Blk}{v:V}(h:Cv c s D nl acc bs v)(ys:List Blk):Cv c s D nl acc (bs++ys) v :=
 ⟨h.env.lay ys,ak h.b2,h.d8,ak h.d0,by
  obtain h | ⟨h1,b,cap,h2,h3,h4,h5,h6⟩:=h.is
  . exact .inl h
  . exact .inr ⟨h1,b,cap,h2,h3,h4,h5,ak h6⟩⟩
theorem Cv.app {c:Cfg}{s:Scp}{D:Nat}{nl:Bool}{acc:List Int}{bs:List Blk}{v:V}(h:Cv c s D nl acc bs v){n:Int}(hl:acc.length<big){r:Nat}(hr:au bs r=some [.d (u32 n)]) :
 ∃ v' bs',∃ f:Nat->Nat,(∀ lo,dP ⟨bs,lo⟩ 1 4 v (.row r 0 1 (some 1) 1)=some (v',⟨bs',f lo⟩))/\bs.length<=bs'.length/\nu v'=some v'/\v'.cells=some [v']/\au bs' D=some (aO c.epoch v aP aP aP aP) ∧
  Cv c s D false (acc++[n]) (bs'.set D (.cells (aO c.epoch v' aP aP aP aP))) v':=by
 have hrc:∀ lo,aB ⟨bs,lo⟩ (.row r 0 1 (some 1) 1) 1=some (1,[.d (u32 n)]):=by
  intro lo;simp only [aB,if_true,get_eq,hr];rfl
 have hroom:∀ n,n<=big->roomy n 4=true:=λn hn=>by simp only [roomy,aw,bw]; exact ⟨hn,by decide⟩
 have hD:=aK h.d0;have hd8:=h.d8;have hset:∀ {bs':List Blk} {v':V},bs.length<=bs'.length->au (bs'.set D (.cells (aO c.epoch v' aP aP aP aP))) D=some (aO c.epoch v' aP aP aP aP):=λhle=>by
  unfold au; rw [List.getElem?_set_self (by omega)]
 obtain ⟨h1,rfl,rfl⟩ | ⟨h1,b,cap,h2,h3,rfl,h4,h5⟩:=h.is
 . refine ⟨.row bs.length 0 1 none 1,bs++[.cells [.d (u32 n)]],λlo=>lo,λlo=>by simp only [dP,hrc,aD,if_neg (show ¬ (1=0) by decide),hroom 1 (by decide),if_true]; rfl,by simp,rfl,rfl,ak h.d0,?_,?_,hd8,hset (by simp),.inr ⟨rfl,bs.length,none,by omega,by omega,rfl,.inl ⟨rfl,by simp⟩,?_⟩⟩
   . exact h.env.like λx hx=>by rw [ac (by omega),am (by omega)]
   . exact gy h.b2 (by rw [ac (by omega),am (by omega)])
   . unfold au; rw [ac (by omega),bm (by omega)]; simp [pM]
 . have hsub:sub (pM acc) 0 (acc.length * 1)=some (pM acc):=bQ (by simp [pM]);obtain ⟨bs',hlen,hA,hold,hnew⟩:∃ bs':List Blk,bs'.length=bs.length+1/\(∃ f:Nat->Nat,∀ lo,dP ⟨bs,lo⟩ 1 4 (.row b 0 acc.length cap 1) (.row r 0 1 (some 1) 1)=some (.row bs.length 0 (acc.length+1) none 1,⟨bs',f lo⟩))/\(∀ x,x≠b->x<bs.length->bs'[x]?=bs[x]?)/\bs'[bs.length]?=some (.cells (pM acc++[.d (u32 n)])):=by
    by_cases h0:acc=[]
    . subst h0;refine ⟨bs++[.cells [.d (u32 n)]],by simp,?_,λx _ hx=>by rw [am hx],by simp [pM]⟩;have hb5:au bs b=some []:=h5;obtain ⟨_,hh⟩ | ⟨rfl,_⟩:=h4
      . exact absurd rfl hh
      . exact ⟨λlo=>lo,λlo=>by simp [dP,hrc,aD,hroom 1 (by decide),get_eq,hb5,eH,Hp.size,Hp.alloc]⟩
    . have hcn:cap=none:=by
       obtain ⟨h,_⟩ | ⟨_,h⟩:=h4
       . exact h
       . exact absurd h h0
      subst hcn;have hpos:0<(pM acc).length:=by simp [pM]; exact List.length_pos_iff.2 h0
      refine ⟨bs.set b (.cells [])++[.cells (pM acc++[.d (u32 n)])],by simp,⟨λlo=>min lo b,λlo=>by simp only [dP,hrc,aD,ne_eq,not_true_eq_false,false_or,if_neg (show ¬ (1=0) by decide),get_eq,h5,hsub,hroom (acc.length+1) (by omega),Bool.not_true,bo,if_false,hpos,and_self,if_true,Hp.size,Hp.alloc,Hp.set]⟩,λx hx hl=>?_,?_⟩
      . rw [am (by simpa using hl),ac (by omega)]
      . rw [bm (by simp)]; simp
   obtain ⟨f,hA⟩:=hA;refine ⟨_,bs',f,hA,by omega,rfl,rfl,gy h.d0 (hold _ (by omega) hD),?_,?_,hd8,hset (by omega),.inr ⟨rfl,bs.length,none,by omega,by omega,by simp,.inl ⟨rfl,by simp⟩,?_⟩⟩
   . exact h.env.like λx hx=>by rw [ac (by omega),hold x (by omega) (by omega)]
   . exact gy h.b2 (by rw [ac (by omega),hold 2 (by omega) (by omega)])
   . unfold au; rw [ac (by omega),hnew]; simp [pM]
def vR (c:Cfg)(node:Int)(l:List Svc):List Int:=(l.filter (kT c node)).map Svc.addr
theorem Tw (e:Int)(v w:V):put (aO e v aP aP aP aP) 1 [w]=some (aO e w aP aP aP aP):=rfl
theorem VA (e:Int)(v w2 w3 w4 w5:V):sub (aO e v w2 w3 w4 w5) 1 1=some [v]:=rfl
section
variable {E:Calls'}(h45:∀ c:Cfg,c.ok->∀ n h,E 91 [c.v,.d (u64 n)] h=some (.tup (match xK c n with | some w=>[w.v,bl true] | none=>[way0.v,bl false]),h))
include h45
theorem L64 {c:Cfg}{s:Scp}(hc:c.ok){D:Nat}:∀ (m k:Nat) (acc:List Int) (nl:Bool) (bs:List Blk) (lo:Nat) (v:V),k+m=c.services.l.length->acc.length+m<=big->Cv c s D nl acc bs v →
 ∃ bs' lo' v' nl',Cd E TV aX (.loop [2,4,6,7,8,9,10,11,37,38,39] qP) [(2,.ptr 0 0),(4,.ptr 2 0),(6,.ptr 3 0),(7,.ptr 4 0),(8,.ptr 5 0),(9,.ptr 6 0),(10,.ptr 7 0),(11,.ptr D 0),(37,.d (c.services.d Svc.c)),(38,.d (i64 c.services.l.length)),(39,.d (i64 k))] ⟨bs,lo⟩ =
  some (.exit 0,[(2,.ptr 0 0),(4,.ptr 2 0),(6,.ptr 3 0),(7,.ptr 4 0),(8,.ptr 5 0),(9,.ptr 6 0),(10,.ptr 7 0),(11,.ptr D 0)],⟨bs',lo'⟩) ∧
  Cv c s D nl' (acc++vR c s.node (c.services.l.drop k)) bs' v':=by
 have hlt:=hc.2.1.lt;intro m;have key:=ax (E:=E) (T:=TV) (val:=aX) [2,4,6,7,8,9,10,11,37,38,39] qP;generalize Cd E TV aX (.loop [2,4,6,7,8,9,10,11,37,38,39] qP)=W at key ⊢
 induction m with
 | zero =>
  intro k acc nl bs lo v hk ha hg;have h0:c.services.l.drop k=[]:=bb (by omega);refine ⟨bs,lo,v,nl,?_,by simpa [h0,vR] using hg⟩;rw [key];simp [qP,show ¬ ((k:Int)<c.services.l.length) from by omega]
 | succ m ih =>
  intro k acc nl bs lo v hk ha hg;have h1:k<c.services.l.length:=by omega
  have hx:=λh=>bv (z:=5) h (ab h1) (cells:=Svc.c) rfl;have hw:=aI h1 hlt;have hdr:c.services.l.drop k=c.services.l[k]::c.services.l.drop (k+1):=ba h1;rw [hdr];generalize c.services.l[k]=p at *;have hz:∀ x:Svc,put [V.d (.int .u64 0),.d (.str ⟨#[]⟩),.d (.int .u32 0),.d (.int .i64 0),.d (.int .u64 0)] 0 (x.c.map V.d)=some (x.c.map V.d):=λ_=>rfl;have hfn:=λys=>ak (ys:=ys) hg.env.b5;have n1:=λys lo=>Rq (E:=E) h45 (c:=c) (s:=s) (h:=⟨bs++ys,lo⟩) (hg.env.lay ys) hc p;cases hb:kT c s.node p with
  | false =>
   have hg2:=hg.lay [.cells (p.c.map .d)];obtain ⟨bs',lo',v',nl',q1,q2⟩:=ih (k+1) acc nl _ (min lo bs.length) v (by omega) (by omega) hg2;have hgF:vR c s.node (p::c.services.l.drop (k+1))=vR c s.node (c.services.l.drop (k+1)):=by simp [vR,hb]
   rw [hgF];refine ⟨bs',lo',v',nl',?_,q2⟩;rw [key];simp [qP,hx,hw,hz,hfn,n1,hb,show ((k:Int)<c.services.l.length) from by omega];simpa using q1
  | true =>
   have hg2:=hg.lay [.cells (p.c.map .d),.cells [.d (u32 p.addr)]];have hsrc:au (bs++[.cells (p.c.map .d),.cells [.d (u32 p.addr)]]) (bs.length+1)=some [.d (u32 p.addr)]:=by
    simp only [au]; rw [bm (by omega)]; simp
   obtain ⟨v2,bs2,f,a1,a2,a3,a6,a4,a5⟩:=hg2.app (by omega) hsrc;obtain ⟨bs',lo',v',nl',q1,q2⟩:=ih (k+1) (acc++[p.addr]) false _ (min (f (min lo bs.length)) D) v2 (by omega) (by simp; omega) a5;have hgF:vR c s.node (p::c.services.l.drop (k+1))=p.addr::vR c s.node (c.services.l.drop (k+1)):=by simp [vR,hb]
   rw [hgF];refine ⟨bs',lo',v',nl',?_,by simpa using q2⟩;have hd3:=λys=>ak (ys:=ys) hg.d0;rw [key];simp [qP,hx,hw,hz,hfn,n1,hb,hd3,a1,a4,a6,Tw,VA,az,show ((k:Int)<c.services.l.length) from by omega];simpa using q1
end
end
section
structure OfH (E:Calls'):Prop where
 h41:∀ c:Cfg,c.wf 1048576->c.wf big->∀ h,E 6 [c.v] h=some (bl (bK c),h)
 h45:∀ c:Cfg,c.ok->∀ n h,E 91 [c.v,.d (u64 n)] h=some (.tup (match xK c n with | some w=>[w.v,bl true] | none=>[way0.v,bl false]),h)
 h52:∀ (p:Pol) (x:Pod) h,E 111 [p.v,x.v] h=some (bl (mY p x.ns x.service),h)
 h90:∀ c:Cfg,c.ok->∀ h,E 26 [c.v] h=some (c.own.v,h)
 h117:∀ s:Sl Int,short s->∀ n h,E 89 [.d (s.d bn),.d (u32 n)] h=some (bl (fU s.l n),h)
 h136:∀ (bs:List Blk) (b lo n:Nat) (cap:Option Nat),b<bs.length->∀ d:Array Int,d.size=n->n<2 ^ 59->∃ ys lo',E 96 [.row b 0 n cap 1] (Mz .u32 bs b d lo)=some (.tup [],Mr (bs++ys) b ((bI d.toList).map (iv .u32)) lo')
 h136n:∀ h,E 96 [aP] h=some (.tup [],h)
 h137:∀ (zs:List Int) (b lo:Nat) (cap:Option Nat) (bs:List Blk),b<bs.length->zs.length<2 ^ 62->∃ cur lo',E 97 [.row b 0 zs.length cap 1] (Mr bs b (zs.map (iv .u32)) lo)=some (.row b 0 (cmpL zs).length cap 1,Mr bs b cur lo')/\cur.take (cmpL zs).length=(cmpL zs).map (iv .u32)
 h137n:∀ h,E 97 [aP] h=some (aP,h)
def Kp {α:Type}(cells:α->List D)(z D:Nat)(nl:Bool)(l:List α)(bs:List Blk)(v:V):Prop :=
 (nl=true/\l=[]/\v=aP)\/(nl=false/\∃ B cap rest,8<=B/\B≠D/\v=.row B 0 l.length cap z/\au bs B=some (flat (l.map cells)++rest))
theorem Kp.kept {α:Type}{cells:α->List D}{z D:Nat}{nl:Bool}{l:List α}{bs:List Blk}{v:V}(h:Kp cells z D nl l bs v):KeptR cells z 8 nl l bs v:=by
 obtain h | ⟨h1,B,cap,rest,h2,_,h3,h4⟩:=h
 . exact .inl h
 . exact .inr ⟨h1,B,cap,rest,h2,h3,h4⟩
theorem Kp.like {α:Type}{cells:α->List D}{z D:Nat}{nl:Bool}{l:List α}{bs bs':List Blk}{v:V}(h:Kp cells z D nl l bs v)(ho:∀ x,8<=x->x≠D->x<bs.length->bs'[x]?=bs[x]?):Kp cells z D nl l bs' v:=by
 obtain h | ⟨h1,B,cap,rest,h2,h3,h4,h5⟩:=h
 . exact .inl h
 . exact .inr ⟨h1,B,cap,rest,h2,h3,h4,gy h5 (ho B h2 h3 (aK h5))⟩
theorem Kp.of {α:Type}{cells:α->List D}{z D n:Nat}{nl:Bool}{l:List α}{bs:List Blk}{v:V}(h:KeptR cells z n nl l bs v)(h8:8<=n)(hD:D<n):Kp cells z D nl l bs v:=by
 obtain h | ⟨h1,B,cap,rest,h2,h3,h4⟩:=h
 . exact .inl h
 . exact .inr ⟨h1,B,cap,rest,by omega,by omega,h3,h4⟩
theorem KeptR.cells {α:Type}{cells:α->List D}{z n:Nat}{nl:Bool}{l:List α}{bs:List Blk}{v:V}(h:KeptR cells z n nl l bs v):v.cells=some [v]:=by
 obtain ⟨_,_,rfl⟩ | ⟨_,B,cap,rest,_,rfl,_⟩:=h<;>rfl
structure Vst (c:Cfg) (s:Scp) (D:Nat) (bs:List Blk) (v1 v2 v3 v4 v5:V):Prop where
 env:OfE c s bs
 b2:au bs 2=some [.d (.int .u64 0),aP,aP,aP,aP,aP]
 d8:8<=D
 d0:au bs D=some (aO c.epoch v1 v2 v3 v4 v5)
section
variable {c:Cfg}{s:Scp}{D:Nat}{bs:List Blk}{v1 v2 v3 v4 v5:V}
theorem Vst.grow (h:Vst c s D bs v1 v2 v3 v4 v5){bs':List Blk}(ho:∀ x,x<bs.length->bs'[x]?=bs[x]?):Vst c s D bs' v1 v2 v3 v4 v5 :=
 ⟨h.env.like λx hx=>ho x (by have:=h.env.len; omega),gy h.b2 (ho 2 (by have:=h.env.len; omega)),h.d8,gy h.d0 (ho D (aK h.d0))⟩
theorem Vst.put (h:Vst c s D bs v1 v2 v3 v4 v5)(w1 w2 w3 w4 w5:V):Vst c s D (bs.set D (.cells (aO c.epoch w1 w2 w3 w4 w5))) w1 w2 w3 w4 w5:=by
 have h8:=h.d8;refine ⟨h.env.like λx hx=>by rw [ac (by omega)],gy h.b2 (by rw [ac (by omega)]),h8,?_⟩;unfold au; rw [List.getElem?_set_self (aK h.d0)]
theorem Kp.step {α:Type}{cells:α->List Go.Proofs.YtjeflmaikicdnaaGreat.D}{z:Nat}{nl:Bool}{l:List α}{v:V}(h:Kp cells z D nl l bs v){bs':List Blk}(ho:∀ x,x<bs.length->bs'[x]?=bs[x]?)(b:Blk):Kp cells z D nl l (bs'.set D b) v :=
 h.like λx _ h2 h3=>by rw [ac (by omega),ho x h3]
variable {E:Calls'}(H:OfH E)
include H
theorem XG {nl:Bool}{acc:List Int}{v:V}(h:Cv c s D nl acc bs v)(ha:acc.length<2 ^ 59)(lo:Nat):∃ bs2 lo2,E 96 [v] ⟨bs,lo⟩=some (.tup [],⟨bs2,lo2⟩)/\Cv c s D nl (bI acc) bs2 v:=by
 have hd8:=h.d8;have hD:=aK h.d0;obtain ⟨h1,rfl,rfl⟩ | ⟨h1,b,cap,h2,h3,rfl,h4,h5⟩:=h.is
 . refine ⟨bs,lo,H.h136n _,h.env,h.b2,h.d8,h.d0,.inl ⟨h1,List.length_eq_zero_iff.1 (by rw [bI,List.length_mergeSort]; rfl),rfl⟩⟩
 . have hbl:=aK h5;have hM:Mz .u32 bs b ⟨acc⟩ lo=⟨bs,lo⟩:=EE h5;obtain ⟨ys,lo',k⟩:=H.h136 bs b lo acc.length cap hbl ⟨acc⟩ rfl ha;rw [hM] at k;have hsl:(bI acc).length=acc.length:=by rw [bI,List.length_mergeSort]
   have hold:∀ x,x≠b->x<bs.length->(Mr (bs++ys) b ((bI acc).map (iv .u32)) lo').bs[x]?=bs[x]?:=λx hx hl=>by
    simp only [Mr]; rw [ac (by omega),am hl]
   refine ⟨_,lo',k,h.env.like λx hx=>hold x (by omega) (by omega),gy h.b2 (hold 2 (by omega) (by omega)),hd8,gy h.d0 (hold D (by omega) hD),.inr ⟨h1,b,cap,h2,h3,by rw [hsl],?_,?_⟩⟩
   . obtain ⟨h4,h6⟩ | ⟨h4,h6⟩:=h4
     . exact .inl ⟨h4,λh0=>h6 (List.length_eq_zero_iff.1 (by rw [← hsl,h0]; rfl))⟩
     . exact .inr ⟨h4,List.length_eq_zero_iff.1 (by rw [hsl,h6]; rfl)⟩
   . have:au (Mr (bs++ys) b ((bI acc).map (iv .u32)) lo').bs b=_:=sW (by simp; omega);exact this
theorem Ji {nl:Bool}{acc:List Int}{v:V}(h:Cv c s D nl acc bs v)(ha:acc.length<2 ^ 62)(lo:Nat) :
 ∃ v' bs2 lo2,E 97 [v] ⟨bs,lo⟩=some (v',⟨bs2,lo2⟩)/\Vst c s D bs2 v aP aP aP aP/\Kp bn 1 D nl (cmpL acc) bs2 v':=by
 have hd8:=h.d8;have hD:=aK h.d0;obtain ⟨h1,rfl,rfl⟩ | ⟨h1,b,cap,h2,h3,rfl,h4,h5⟩:=h.is
 . exact ⟨aP,bs,lo,H.h137n _,⟨h.env,h.b2,h.d8,h.d0⟩,.inl ⟨h1,rfl,rfl⟩⟩
 . have hbl:=aK h5;have hM:Mr bs b (acc.map (iv .u32)) lo=⟨bs,lo⟩:=EE h5;obtain ⟨cur,lo',k,hc⟩:=H.h137 acc b lo cap bs hbl ha;rw [hM] at k;have hold:∀ x,x≠b->x<bs.length->(Mr bs b cur lo').bs[x]?=bs[x]?:=λx hx hl=>by
    simp only [Mr]; rw [ac (by omega)]
   refine ⟨_,_,lo',k,⟨h.env.like λx hx=>hold x (by omega) (by omega),gy h.b2 (hold 2 (by omega) (by omega)),hd8,gy h.d0 (hold D (by omega) hD)⟩,.inr ⟨h1,b,cap,cur.drop (cmpL acc).length,h2,h3,rfl,?_⟩⟩;have hg:au (Mr bs b cur lo').bs b=_:=sW hbl;refine hg.trans ?_;rw [xG];have:pM (cmpL acc)=cur.take (cmpL acc).length:=hc.symm;rw [this,List.take_append_drop]
theorem Vk1 (h:Vst c s D bs v1 v2 v3 v4 v5)(hc:c.ok)(hs:short s.addrs)(lo:Nat) :
 ∃ r bs' lo',Sm E TV aX 98 [.d (c.pods.d Pod.c),.fn 99 [.ptr 7 0,.ptr 4 0,.ptr 6 0]] ⟨bs,lo⟩=some (r,⟨bs',lo'⟩)/\bs.length<=bs'.length/\(∀ x,x<bs.length->bs'[x]?=bs[x]?)/\KeptR Pod.c 7 bs.length c.pods.nl (ny c s) bs' r :=
 yY (E:=E) (cells:=Pod.c) al4 ap4 al3 ap3 Mk Mm ao1 ar9 am5 aq3 (λ_=>rfl) (by decide) rfl (by decide) hc.1 (q:=xe c s) λe _ bs2 lo2 h1 h2 =>
  bo0 H.h45 H.h117 (h:=⟨bs2,lo2⟩) (h.grow (by simpa using h2)).env hc hs e
theorem Vk2 (h:Vst c s D bs v1 v2 v3 v4 v5)(hc:c.ok)(hs:short s.addrs){nl:Bool}(hr:Kp Pod.c 7 D nl (ny c s) bs v2)(lo:Nat) :
 ∃ r bs' lo',Sm E TV aX 101 [.d (c.services.d Svc.c),.fn 102 [.ptr 4 0,.ptr 5 0,.ptr D 0]] ⟨bs,lo⟩=some (r,⟨bs',lo'⟩)/\bs.length<=bs'.length/\(∀ x,x<bs.length->bs'[x]?=bs[x]?)/\KeptR Svc.c 5 bs.length c.services.nl (nz c s) bs' r:=by
 have hl:(ny c s).length<2 ^ 62:=by have:=List.length_filter_le (xe c s) c.pods.l; have:=hc.1.lt; simp only [ny]; omega
 exact yY (E:=E) (cells:=Svc.c) an8 ar6 ao2 as0 Ml Mo ao3 as3 am8 aq6 (λ_=>rfl) (by decide) rfl (by decide) hc.2.1 (q:=CG c s) λe _ bs2 lo2 h1 h2=>by
  have hg:=h.grow (bs':=bs2) (by simpa using h2);exact bo2 H.h45 H.h117 (h:=⟨bs2,lo2⟩) hg.env hc hs hg.d0 hl ((hr.like λx _ _ h3=>h2 x h3).kept.rowIs λ_=>rfl) e
omit H in
theorem Vk3 (h:Vst c s D bs v1 v2 v3 v4 v5)(hc:c.ok){nl:Bool}(hr:Kp Svc.c 5 D nl (nz c s) bs v3)(lo:Nat) :
 ∃ r bs' lo',Sm E TV aX 105 [.d (c.bound.d Way.c),.fn 106 [.ptr 3 0,.ptr D 0]] ⟨bs,lo⟩=some (r,⟨bs',lo'⟩)/\bs.length<=bs'.length/\(∀ x,x<bs.length->bs'[x]?=bs[x]?)/\KeptR Way.c 2 bs.length c.bound.nl (wV c s) bs' r:=by
 have hl:(nz c s).length<2 ^ 62:=by have:=List.length_filter_le (CG c s) c.services.l; have:=hc.2.1.lt; simp only [nz]; omega
 exact yY (E:=E) (cells:=Way.c) an9 ar7 ao4 as4 al5 ap5 ao5 as5 an1 aq9 (λ_=>rfl) (by decide) rfl (by decide) hc.2.2.1 (q:=Gp c s) λe _ bs2 lo2 h1 h2=>by
  have hg:=h.grow (bs':=bs2) (by simpa using h2);exact bo4 (h:=⟨bs2,lo2⟩) hg.env hg.d0 hl ((hr.like λx _ _ h3=>h2 x h3).kept.rowIs λ_=>rfl) e
theorem Vk4 (h:Vst c s D bs v1 v2 v3 v4 v5)(hc:c.ok)(lo:Nat) :
 ∃ r bs' lo',Sm E TV aX 108 [.d (c.policies.d Pol.c),.fn 109 [.ptr 0 0,.ptr 7 0]] ⟨bs,lo⟩=some (r,⟨bs',lo'⟩)/\bs.length<=bs'.length/\(∀ x,x<bs.length->bs'[x]?=bs[x]?)/\KeptR Pol.c 5 bs.length c.policies.nl (c.policies.l.filter (xg c s.node)) bs' r :=
 yY (E:=E) (cells:=Pol.c) ao0 ar8 ao6 as6 ap0 at0 ao7 as7 an4 ar2 (λ_=>rfl) (by decide) rfl (by decide) hc.2.2.2.1 (q:=xg c s.node) λe _ bs2 lo2 h1 h2 =>
  bo6 H.h45 H.h52 (h:=⟨bs2,lo2⟩) (h.grow (by simpa using h2)).env hc e
end
end
section
def vw0:Vw:=⟨0,⟨true,[]⟩,⟨true,[]⟩,⟨true,[]⟩,⟨true,[]⟩,⟨true,[]⟩⟩
theorem bp1 {E:Calls'}(H:OfH E){c:Cfg}(hc:c.wf 1048576)(hcb:c.wf big){s:Scp}(hs:short s.addrs)(hno:(bK c&&bW s)=false)(h:Hp) :
 Sm E TV aX 35 [c.v,s.v] h=some (.tup [vw0.v,.d (i64 1)],h):=by
 have e1:∀ h,Sm E TV aX 6 [c.v] h=some (bl (bK c),h):=λh=>by rw [aG ap1]; exact H.h41 c hc hcb h
 have e2:=λh=>V67 (E:=E) H.h117 hs h;rw [aN ap2 at1];cases m1:bK c with
 | false=>simp +decide [aa,q64,e1,m1]; rfl
 | true =>
  have m2:bW s=false:=by simpa [m1] using hno
  simp +decide [aa,q64,e1,e2,m1,m2]; rfl
theorem V64 {E:Calls'}(H:OfH E){c:Cfg}(hc:c.wf 1048576)(hcb:c.wf big)(hok:c.ok)(hoo:c.own.ok){s:Scp}(hs:short s.addrs)(h1:bK c=true)(h2:bW s=true)(hsz:s.addrs.l.length+c.services.l.length<=big) :
 ∃ nl,(nl=true->eU c s=[])/\∀ h,Sm E TV aX 35 [c.v,s.v] h=some (.tup [(ofT c s ⟨nl,eU c s⟩).v,.d (i64 0)],h):=by
 have e1:∀ h,Sm E TV aX 6 [c.v] h=some (bl true,h):=λh=>by rw [aG ap1,← h1]; exact H.h41 c hc hcb h
 have e2:∀ h,Sm E TV aX 30 [s.v] h=some (bl true,h):=λh=>by rw [← h2]; exact V67 (E:=E) H.h117 hs h
 have e3:∀ h,Sm E TV aX 26 [c.v] h=some (c.own.v,h):=λh=>by rw [aG dw7]; exact H.h90 c hok h
 have n136:∀ args h,Sm E TV aX 96 args h=E 96 args h:=λargs h=>by rw [aG am3]
 have n137:∀ args h,Sm E TV aX 97 args h=E 97 args h:=λargs h=>by rw [aG am4]
 have hz:∀ x:Cfg,put (c.c.map V.d) 0 (x.c.map V.d)=some (x.c.map V.d):=λ_=>rfl;have hfc:∀ f caps,(V.fn f caps).cells=some [V.fn f caps]:=λ_ _=>rfl;obtain ⟨D,v,bs,x35,x33,x32,x31,x30,p1,p2⟩:=bp2 (E:=E) (c:=c.own) hs (.fn 95 [.ptr 1 0,.ptr 6 0,.ptr 5 0]) (.fn 87 [.ptr 1 0]) (.fn 88 [.ptr 1 0]) (.fn 90 [.ptr 0 0,.ptr 3 0]) (.fn 92 [.ptr 0 0]) c.own.v (ag c.c) (.d (.bool false)) (.d (.bool false)) (bl true) (ag s.c) (.d (.bool false)) (.d (.bool false)) (bl true) (ag c.c) (.d (.int .i64 0)) (.ptr 2 0) (.ptr 3 0) (.ptr 4 0) (.ptr 5 0) (.ptr 6 0) (.ptr 7 0) (ag c.c) (ag s.c);simp only [regV,rC,aP] at p1;obtain ⟨bs1,lo1,v',nl,l1,l2⟩:=L64 H.h45 (s:=s) hoo c.services.l.length 0 s.addrs.l s.addrs.nl bs 0 v (by simp [Cfg.own]) (by omega) p2;simp only [List.drop_zero] at l2;rw [show ((0:Nat):Int)=0 from rfl] at l1;have hlen:(s.addrs.l++vR c.own s.node c.own.services.l).length<2 ^ 59:=by
  have:(vR c.own s.node c.own.services.l).length<=c.services.l.length:=by
   simp only [vR,cb]; exact List.length_filter_le _ _
  rw [aq];have hb:big<2 ^ 59:=by decide
  omega
 obtain ⟨bs2,lo2,s1,s2⟩:=XG H l2 hlen lo1;obtain ⟨w1,bs3,lo3,c1,c2,c3⟩:=Ji H s2 (by rw [bI,List.length_mergeSort]; omega) lo2;refine ⟨nl,?_,?_⟩
 . intro hnl;obtain ⟨_,h0,_⟩ | ⟨h0,_⟩:=c3
   . exact h0
   . rw [hnl] at h0; cases h0
 have d3:=c2.put w1 aP aP aP aP;have k3:=c3.step (λ_ _=>rfl) (.cells (aO c.own.epoch w1 aP aP aP aP));obtain ⟨w2,bs4,lo4,g1,g2,g3,g4⟩:=Vk1 H d3 hoo hs (min lo3 D);have d4:=(d3.grow g3).put w1 w2 aP aP aP;have k4:=k3.step g3 (.cells (aO c.own.epoch w1 w2 aP aP aP));have hD3:=aK d3.d0;have hd8:=d3.d8;have a4:=(Kp.of g4 (by omega) hD3).step (λ_ _=>rfl) (.cells (aO c.own.epoch w1 w2 aP aP aP));obtain ⟨w3,bs5,lo5,i1,i2,i3,i4⟩:=Vk2 H d4 hoo hs a4 (min lo4 D);have d5:=(d4.grow i3).put w1 w2 w3 aP aP;have hD4:=aK d4.d0;have k5:=k4.step i3 (.cells (aO c.own.epoch w1 w2 w3 aP aP));have a5:=a4.step i3 (.cells (aO c.own.epoch w1 w2 w3 aP aP));have b5:=(Kp.of i4 (by omega) hD4).step (λ_ _=>rfl) (.cells (aO c.own.epoch w1 w2 w3 aP aP));obtain ⟨w4,bs6,lo6,j1,j2,j3,j4⟩:=Vk3 (E:=E) d5 hoo b5 (min lo5 D);have d6:=(d5.grow j3).put w1 w2 w3 w4 aP;have hD5:=aK d5.d0;have k6:=k5.step j3 (.cells (aO c.own.epoch w1 w2 w3 w4 aP));have a6:=a5.step j3 (.cells (aO c.own.epoch w1 w2 w3 w4 aP));have b6:=b5.step j3 (.cells (aO c.own.epoch w1 w2 w3 w4 aP));have c6:=(Kp.of j4 (by omega) hD5).step (λ_ _=>rfl) (.cells (aO c.own.epoch w1 w2 w3 w4 aP));obtain ⟨w5,bs7,lo7,m1,m2,m3,m4⟩:=Vk4 H d6 hoo (min lo6 D);have d7:=(d6.grow m3).put w1 w2 w3 w4 w5;have hD6:=aK d6.d0;have k7:=k6.step m3 (.cells (aO c.own.epoch w1 w2 w3 w4 w5))
 have a7:=a6.step m3 (.cells (aO c.own.epoch w1 w2 w3 w4 w5));have b7:=b6.step m3 (.cells (aO c.own.epoch w1 w2 w3 w4 w5));have c7:=c6.step m3 (.cells (aO c.own.epoch w1 w2 w3 w4 w5));have e7:=(Kp.of m4 (by omega) hD6).step (λ_ _=>rfl) (.cells (aO c.own.epoch w1 w2 w3 w4 w5));have hfin:∀ lo,iP ⟨((bs7.set D (.cells (aO c.own.epoch w1 w2 w3 w4 w5))).set 2 (.cells (aO c.own.epoch w1 w2 w3 w4 w5))),lo⟩ (aO c.own.epoch w1 w2 w3 w4 w5)=some (ofT c s ⟨nl,eU c s⟩).c:=by
  intro lo;have st:∀ x,8<=x->x≠D->x<(bs7.set D (Blk.cells (aO c.own.epoch w1 w2 w3 w4 w5))).length->((bs7.set D (Blk.cells (aO c.own.epoch w1 w2 w3 w4 w5))).set 2 (.cells (aO c.own.epoch w1 w2 w3 w4 w5)))[x]?=(bs7.set D (Blk.cells (aO c.own.epoch w1 w2 w3 w4 w5)))[x]?:=λx hx _ _=>by rw [ac (by omega)]
  have r1:=KeptR.dat (cells:=bn) (z:=1) (λ_=>rfl) (k7.like st).kept lo 7;have r2:=KeptR.dat (cells:=Pod.c) (z:=7) (λ_=>rfl) (a7.like st).kept lo 7;have r3:=KeptR.dat (cells:=Svc.c) (z:=5) (λ_=>rfl) (b7.like st).kept lo 7;have r4:=KeptR.dat (cells:=Way.c) (z:=2) (λ_=>rfl) (c7.like st).kept lo 7;have r5:=KeptR.dat (cells:=Pol.c) (z:=5) (λ_=>rfl) (e7.like st).kept lo 7;simp only [aO] at r1 r2 r3 r4 r5 ⊢;simp only [iP,List.mapM_cons,List.mapM_nil,r1,r2,r3,r4,r5];rfl
 have sv0:∀ e v1 v2 v3 v4 v5,sub (aO e v1 v2 v3 v4 v5) 0 6=some (aO e v1 v2 v3 v4 v5):=λ_ _ _ _ _ _=>rfl;have sv1:∀ e v1 v2 v3 v4 v5,sub (aO e v1 v2 v3 v4 v5) 1 1=some [v1]:=λ_ _ _ _ _ _=>rfl;have pu1:∀ e v1 v2 v3 v4 v5 w,put (aO e v1 v2 v3 v4 v5) 1 [w]=some (aO e w v2 v3 v4 v5):=λ_ _ _ _ _ _ _=>rfl;have pu2:∀ e v1 v2 v3 v4 v5 w,put (aO e v1 v2 v3 v4 v5) 2 [w]=some (aO e v1 w v3 v4 v5):=λ_ _ _ _ _ _ _=>rfl;have pu3:∀ e v1 v2 v3 v4 v5 w,put (aO e v1 v2 v3 v4 v5) 3 [w]=some (aO e v1 v2 w v4 v5):=λ_ _ _ _ _ _ _=>rfl;have pu4:∀ e v1 v2 v3 v4 v5 w,put (aO e v1 v2 v3 v4 v5) 4 [w]=some (aO e v1 v2 v3 w v5):=λ_ _ _ _ _ _ _=>rfl;have pu5:∀ e v1 v2 v3 v4 v5 w,put (aO e v1 v2 v3 v4 v5) 5 [w]=some (aO e v1 v2 v3 v4 w):=λ_ _ _ _ _ _ _=>rfl;have pz:∀ e v1 v2 v3 v4 v5,put [V.d (.int .u64 0),.d (.slice true []),.d (.slice true []),.d (.slice true []),.d (.slice true []),.d (.slice true [])] 0 (aO e v1 v2 v3 v4 v5)=some (aO e v1 v2 v3 v4 v5):=λ_ _ _ _ _ _=>rfl;have vl:∀ e v1 v2 v3 v4 v5,(aO e v1 v2 v3 v4 v5).length=6:=λ_ _ _ _ _ _=>rfl;have u1:=k7.kept.nu.1;have u2:=a7.kept.nu.1;have u3:=b7.kept.nu.1;have u4:=c7.kept.nu.1;have u5:=e7.kept.nu.1;have o1:=k7.kept.cells;have o2:=a7.kept.cells;have o3:=b7.kept.cells;have o4:=c7.kept.cells;have o5:=e7.kept.cells;have uv:=l2.is.nu;have q0:okV v'=true:=by obtain ⟨_,_,rfl⟩ | ⟨_,b,cap,_,_,rfl,_⟩:=l2.is<;>rfl
 have q1:=k7.kept.nu.2;have q2:=a7.kept.nu.2;have q3:=b7.kept.nu.2;have q4:=c7.kept.nu.2;have q5:=e7.kept.nu.2;have y1:=l2.d0;have y2:=s2.d0;have y3:=c2.d0;have y4:=(d3.grow g3).d0;have y5:=(d4.grow i3).d0;have y6:=(d5.grow j3).d0;have y7:=(d6.grow m3).d0;have y8:=d7.d0;have y9:=d7.b2;have y10:au ((bs7.set D (.cells (aO c.own.epoch w1 w2 w3 w4 w5))).set 2 (.cells (aO c.own.epoch w1 w2 w3 w4 w5))) 2=some (aO c.own.epoch w1 w2 w3 w4 w5):=by
  have:=aK y9;unfold au; rw [List.getElem?_set_self this]
 have ht3:=d3.env.b0;have ht4:=d4.env.b0;have ht5:=d5.env.b0;have ht6:=d6.env.b0;have hpb:=p2.env.b0;have hlc:(ofT c s ⟨nl,eU c s⟩).v=.agg ((ofT c s ⟨nl,eU c s⟩).c.map .d):=rfl;have hz8:∀ x:Cfg,x.c.length=8:=λ_=>rfl;intro h;rw [aN ap2 at1];simp +decide [aa,q64,e1,e2,e3,hz,hfc,p1,hpb];rw [aj];simp +decide [l1,y1,y2,y3,y4,y5,y6,y7,y8,y9,y10,ht3,ht4,ht5,ht6,sv0,sv1,pu1,pu2,pu3,pu4,pu5,pz,vl,o1,o2,o3,o4,o5,q0,n136,n137,s1,c1,g1,i1,j1,m1,hfin]
end
section
end
section
def eT (n:Int):List D:=[u64 n]
section
variable {E:Calls'}{T:FuncId->Option QF}{val:FuncId->Bool}
def KeptP {α:Type}(cells:α->List D)(z n:Nat)(nl:Bool)(l:List α)(bs:List Blk)(v:V):Prop :=
 (nl=true/\l=[]/\v=.d (.slice true []))\/(nl=false/\∃ B cap rest,n<=B/\v=.row B 0 l.length cap z/\au bs B=some (flat (l.map cells)++rest)/\((cap=some 0/\l=[])\/(cap=none/\0<(flat (l.map cells)++rest).length)))
theorem KeptP.nu {α:Type}{cells:α->List D}{z n:Nat}{nl:Bool}{l:List α}{bs:List Blk}{v:V}(h:KeptP cells z n nl l bs v):Go.Proofs.YtjeflmaikicdnaaGreat.nu v=some v/\okV v=true:=by
 obtain ⟨_,_,rfl⟩ | ⟨_,B,cap,rest,_,rfl,_⟩:=h<;>exact ⟨rfl,rfl⟩
theorem EJ {α:Type}{cells:α->List D}{z b cl clos del idx id:Nat}{zero:List V}(tcl:T cl=some (cloneQ z b zero))(vcl:val cl=false)(tdel:T del=some (delQ z idx zero))(vdel:val del=false)(tidx:T idx=some (idxQ z))(vidx:val idx=false)
 (tc:T clos=some (notQ z)) (vc:val clos=false) (tid:T id=some (keepQ cl clos del)) (vid:val id=false) (hz:∀ x,(cells x).length=z) (hz0:0<z) (hzero:zero.length=z) (hb:b<=4096) {s:Sl α} (hs:short s) {f:FuncId} {caps:List V} {q:α->Bool} {h:Hp}
 (hq:∀ e∈s.l,∀ bs lo,h.bs.length<=bs.length->(∀ x,x<h.bs.length->bs[x]?=h.bs[x]?)->Sm E T val f (ag (cells e)::caps) ⟨bs,lo⟩=some (bl (q e),⟨bs,lo⟩)) :
 ∃ r bs' lo',Sm E T val id [.d (s.d cells),.fn f caps] h=some (r,⟨bs',lo'⟩)/\h.bs.length<=bs'.length/\(∀ x,x<h.bs.length->bs'[x]?=h.bs[x]?)/\KeptP cells z h.bs.length s.nl (s.l.filter q) bs' r:=by
 obtain ⟨bs,lo0⟩:=h;simp only at hq ⊢;obtain ⟨nl,l⟩:=s;simp only at hq ⊢;have hcl:=iM (E:=E) (T:=T) (val:=val) tcl vcl hz0 hb (nl:=nl) (es:=l.map cells) (by simp; intro a _; exact hz a) (by simpa using hs.1) ⟨bs++[.cells [.fn f caps]],bs.length⟩;have hlen:l.length<2 ^ 62:=hs.lt;have hout:∀ {r:V} {bs':List Blk} {lo':Nat},r.under bs.length=false->fQ ⟨bs,lo0⟩ (some (r,⟨bs',lo'⟩))=some (r,⟨bs',min lo0 lo'⟩):=λhu=>by
  rw [gY,if_neg (λhh=>by rw [hu] at hh; cases hh.2)]
 have hun:∀ {B o n z:Nat} {cap:Option Nat},bs.length<=B->V.under bs.length (.row B o n cap z)=false:=λh=>by simp [V.under]; omega
 rw [av tid vid];cases nl with
 | true =>
  have hl:=hs.2 rfl;simp at hl;subst hl;have h1:=fJ (E:=E) (T:=T) (val:=val) cells (es:=[]) (z:=z) (idx:=idx) (zero:=zero) tidx vidx tdel vdel (v:=.d (.slice true [])) (f:=clos) (caps:=[.ptr bs.length 0]) (q:=λ_=>false) (h:=⟨bs++[.cells [.fn f caps]],bs.length⟩) ⟨by simp,.inl ⟨true,rfl⟩⟩ (by simp) (by simp) (by simp);simp [bL] at hcl;refine ⟨.d (.slice true []),bs,lo0,?_,br _,λ_ _=>rfl,.inl ⟨rfl,by simp,rfl⟩⟩;simp [aa,keepQ,Sl.d,hcl,h1,V.under,bf]
 | false =>
  cases hll:l with
  | nil =>
   subst hll;have h1:=λlo=>fJ (E:=E) (T:=T) (val:=val) cells (es:=[]) (z:=z) (idx:=idx) (zero:=zero) tidx vidx tdel vdel (v:=.row (bs.length+1) 0 0 (some 0) z) (f:=clos) (caps:=[.ptr bs.length 0]) (q:=λ_=>false) (h:=⟨bs++[.cells [.fn f caps],.cells []],lo⟩) ⟨by simp,.inr ⟨bs.length+1,0,some 0,[],rfl,by unfold au; rw [bm (by omega)]; simp,by simp [eH]⟩⟩ (by simp) (by simp) (by simp);simp [bL] at hcl;refine ⟨.row (bs.length+1) 0 0 (some 0) z,bs++[.cells [.fn f caps],.cells []],min lo0 bs.length,?_,by simp,λx hx=>by rw [am hx],.inr ⟨rfl,bs.length+1,some 0,[],by omega,rfl,by unfold au; rw [bm (by omega)]; simp,.inl ⟨rfl,rfl⟩⟩⟩;refine Eq.trans ?_ (hout (lo':=bs.length) (hun (by omega)))
   congr 1
   simp [aa,keepQ,Sl.d,hcl,h1,bf]
  | cons p l' =>
   have hne:l≠[]:=by rw [hll]; simp
   have hLz:0<l.length * z:=Nat.mul_pos (List.length_pos_iff.2 hne) hz0;rw [← hll];have hc2:bL z false (l.map cells) (bs++[.cells [.fn f caps]]) bs.length=(.row (bs.length+2) 0 l.length none z,⟨bs++[.cells [.fn f caps],.cells [],.cells (flat (l.map cells))],bs.length⟩):=by
    rw [hll]; simp [bL]
   rw [hc2] at hcl;simp at hcl;have hbF:au (bs++[.cells [.fn f caps],.cells [],.cells (flat (l.map cells))]) (bs.length+2)=some (flat (l.map cells)):=by unfold au; rw [bm (by omega)]; simp
   have hold:∀ x,x<bs.length->(bs++[Blk.cells [.fn f caps],.cells [],.cells (flat (l.map cells))])[x]?=bs[x]?:=λx hx=>by rw [am hx]
   have hcall:∀ e∈l,∀ bs2 lo2,bs.length+3<=bs2.length->(∀ x,x≠bs.length+2->x<bs.length+3->bs2[x]?=(bs++[.cells [.fn f caps],.cells [],.cells (flat (l.map cells))])[x]?)->Sm E T val clos (.agg ((cells e).map .d)::[.ptr bs.length 0]) ⟨bs2,lo2⟩=some (.d (.bool (!q e)),⟨bs2,lo2⟩):=by
    intro e he bs2 lo2 hle ho;refine Jg tc vc (hz e) (f:=f) (caps:=caps) (p:=q e) ?_ λys lo=>?_
    . have:=ho bs.length (by omega) (by omega);simp only [au];rw [this,bm (by omega)]; simp
    . refine hq e he _ lo (by simp; omega) λx hx=>?_;simp only;rw [am (by omega),ho x (by omega) (by omega)];exact hold x hx
   have hnn:(l.filter λe=>!(!q e))=l.filter q:=by simp
   by_cases hqq:∃ e∈l,(!q e)=true
   . obtain ⟨bs',lo',rest,k1,k2,k3,k4,k5,k6⟩:=qy (E:=E) (T:=T) (val:=val) hz hz0 hzero tidx vidx tdel vdel (es:=l) (b:=bs.length+2) (cap:=none) (f:=clos) (caps:=[.ptr bs.length 0]) (q:=λe=>!q e) (h:=⟨bs++[.cells [.fn f caps],.cells [],.cells (flat (l.map cells))],bs.length⟩) hbF hlen (λe he bs2 lo2 a b=>hcall e he bs2 lo2 (by simpa using a) (λx h1 h2=>b x h1 (by simp; omega))) hqq;rw [hnn] at k1 k4;refine ⟨.row (bs.length+2) 0 (l.filter q).length none z,bs',min lo0 lo',?_,by simp at k2; omega,λx hx=>by rw [k3 x (by omega) (by simp; omega)]; exact hold x hx,.inr ⟨rfl,bs.length+2,none,rest,by omega,rfl,k4,.inr ⟨rfl,by rw [aq,bz hz,k6,hnn,← Nat.add_mul,Nat.add_sub_cancel' (List.length_filter_le _ _)]; exact hLz⟩⟩⟩;refine Eq.trans ?_ (hout (lo':=lo') (hun (by omega)))
     congr 1
     simp [aa,keepQ,Sl.d,hcl,k1,bf]
   . have hall:∀ e∈l,(!q e)=false:=by
      intro e he;cases hh:(!q e) with
      | false=>rfl
      | true=>exact absurd ⟨e,he,hh⟩ hqq
     have hK:l.filter q=l:=List.filter_eq_self.2 λe he=>by have:=hall e he; simpa using this
     have h1:=fJ (E:=E) (T:=T) (val:=val) cells (es:=l) (z:=z) (idx:=idx) (zero:=zero) tidx vidx tdel vdel (v:=.row (bs.length+2) 0 l.length none z) (f:=clos) (caps:=[.ptr bs.length 0]) (q:=λe=>!q e) (h:=⟨bs++[.cells [.fn f caps],.cells [],.cells (flat (l.map cells))],bs.length⟩)
      ⟨by simp; intro a _; exact hz a,.inr ⟨bs.length+2,0,none,_,by simp,hbF,by
       rw [eH,if_pos (by rw [bz hz]; simp),List.drop_zero,cb,← bz hz,List.take_length]; rfl⟩⟩ hlen (λe he lo2=>hcall e he _ lo2 (by simp) λ_ _ _=>rfl) hall
     rw [hK];refine ⟨.row (bs.length+2) 0 l.length none z,bs++[.cells [.fn f caps],.cells [],.cells (flat (l.map cells))],min lo0 bs.length,?_,by simp,hold,.inr ⟨rfl,bs.length+2,none,[],by omega,rfl,by rw [hbF]; simp,.inr ⟨rfl,by rw [List.append_nil,bz hz]; exact hLz⟩⟩⟩;refine Eq.trans ?_ (hout (lo':=bs.length) (hun (by omega)))
     congr 1
     simp [aa,keepQ,Sl.d,hcl,h1,bf]
theorem Jn {α:Type}{cells:α->List D}{z b:Nat}(hz:∀ x,(cells x).length=z)(hz0:0<z)(hb:b<=4096){n:Nat}{nl:Bool}{K:List α}{bs:List Blk}{v:V}(hk:KeptP cells z n nl K bs v)(fr:Sl α)(hfr:fit big fr)(hlen:K.length+fr.l.length<=big)(hn:n<=bs.length) :
 ∃ (v':V) (bs':List Blk) (f:Nat->Nat),(∀ lo,dP ⟨bs,lo⟩ z b v (.d (fr.d cells))=some (v',⟨bs',f lo⟩))/\(∀ y,y<n->bs'[y]?=bs[y]?) ∧
  ((nl=true/\K++fr.l=[]/\v'=.d (.slice true []))\/((nl&&fr.l.isEmpty)=false/\∃ B cap rest,n<=B/\v'=.row B 0 (K++fr.l).length cap z/\au bs' B=some (flat ((K++fr.l).map cells)++rest))):=by
 have hall:((fr.l.map cells).all λe=>e.length==z)=true:=cm.2 λx hx=>by
  obtain ⟨y,_,rfl⟩:=cd.1 hx;simp [hz y]
 have hrc:∀ lo,aB ⟨bs,lo⟩ (.d (fr.d cells)) z=some (fr.l.length,flat (fr.l.map cells)):=λlo=>by
  simp only [Sl.d,aB,hall,if_true,flat,cb]
 have hroom:∀ n,n<=big->roomy n b=true:=λn hn=>by simp only [roomy,aw,bw]; exact ⟨hn,hb⟩
 have hzz:¬ z=0:=by omega
 have hfl:=bz hz fr.l;obtain h0 | h0:=Nat.eq_zero_or_pos fr.l.length
 . have hf0:fr.l=[]:=List.eq_nil_of_length_eq_zero h0;obtain ⟨h1,h2,rfl⟩ | ⟨h1,B,cap,rest,h2,rfl,h3,h4⟩:=hk
   . refine ⟨.d (.slice true []),bs,λlo=>lo,λlo=>by simp only [dP,hrc,h0,aD,if_true],λ_ _=>rfl,.inl ⟨h1,by rw [h2,hf0]; rfl,rfl⟩⟩
   . refine ⟨.row B 0 K.length cap z,bs,λlo=>lo,λlo=>by simp only [dP,hrc,h0,aD,ne_eq,not_true_eq_false,false_or,if_neg hzz,if_true],λ_ _=>rfl,.inr ⟨by simp [h1],B,cap,rest,h2,by rw [hf0,List.append_nil],by rw [hf0,List.append_nil]; exact h3⟩⟩
 . have hm0:¬ fr.l.length=0:=by omega
   have hne:fr.l≠[]:=List.length_pos_iff.1 h0;have hie:fr.l.isEmpty=false:=by cases hc:fr.l with | nil=>exact absurd hc hne | cons _ _=>rfl
   have hcat:flat ((K++fr.l).map cells)=flat (K.map cells)++flat (fr.l.map cells):=by rw [List.map_append,mh]
   have hcat2:flat (K.map cells++fr.l.map cells)=flat (K.map cells)++flat (fr.l.map cells):=mh _ _;have hKl:=bz hz K;obtain ⟨h1,h2,rfl⟩ | ⟨h1,B,cap,rest,h2,rfl,h3,h4⟩:=hk
   . subst h2;refine ⟨.row bs.length 0 fr.l.length none z,bs++[.cells (flat (fr.l.map cells))],λlo=>lo,λlo=>by simp only [dP,hrc,aD,if_neg hm0,if_neg hzz,hroom fr.l.length (by simpa using hlen),if_true]; rfl,λy hy=>by rw [am (by omega)],.inr ⟨by simp [hie],bs.length,none,[],hn,rfl,by simp [dh]⟩⟩
   . have hBl:=aK h3;have hs:sub (flat (K.map cells)++rest) 0 (K.length * z)=some (flat (K.map cells)):=by
      rw [eH,if_pos (by rw [aq,hKl]; omega),List.drop_zero,← hKl,List.take_left]
     obtain ⟨rfl,rfl⟩ | ⟨rfl,h5⟩:=h4
     . simp only [List.map_nil,rH,List.nil_append,ck,Nat.zero_mul] at h3 hs hlen;refine ⟨.row bs.length 0 (0+fr.l.length) none z,bs++[.cells ([]++flat (fr.l.map cells))],λlo=>lo,λlo=>by simp only [dP,hrc,aD,ne_eq,not_true_eq_false,false_or,if_neg hm0,if_neg hzz,get_eq,h3,ck,Nat.zero_mul,hs,hroom (0+fr.l.length) (by omega),Bool.not_true,bo,if_false,if_neg (show ¬ (0+fr.l.length<=0) by omega)]; rfl,λy hy=>by rw [am (by omega)],.inr ⟨by simp [hie],bs.length,none,[],hn,by simp,by simp [dh]⟩⟩
     . by_cases hfit:0+(K.length+fr.l.length) * z<=(flat (K.map cells)++rest).length
       . have hno:¬ (True/\(flat (K.map cells)).length=(flat (K.map cells)++rest).length/\0<(flat (K.map cells)++rest).length):=by
          have:0<fr.l.length * z:=Nat.mul_pos h0 hz0;rw [Nat.add_mul] at hfit;rw [hKl];omega
         have hput:put (flat (K.map cells)++rest) (0+K.length * z) (flat (fr.l.map cells))=some (flat (K.map cells)++flat (fr.l.map cells)++rest.drop (fr.l.length * z)):=by
          rw [Nat.add_mul] at hfit;unfold put;rw [if_pos (by rw [hfl]; omega),Nat.zero_add,← hKl,List.take_left,List.drop_append,bb (by omega),Nat.add_sub_cancel_left,hfl];simp
         refine ⟨.row B 0 (K.length+fr.l.length) none z,bs.set B (.cells (flat (K.map cells)++flat (fr.l.map cells)++rest.drop (fr.l.length * z))),λlo=>min lo B,λlo=>by simp only [dP,hrc,aD,ne_eq,not_true_eq_false,false_or,if_neg hm0,if_neg hzz,get_eq,h3,hs,hroom (K.length+fr.l.length) (by omega),Bool.not_true,bo,if_false,if_neg hno,if_pos hfit,hput]; rfl,λy hy=>by rw [ac (by omega)],.inr ⟨by simp [hie],B,none,rest.drop (fr.l.length * z),h2,by simp,by simp [au,hBl,hcat2]⟩⟩
       . refine ⟨.row bs.length 0 (K.length+fr.l.length) none z,bs.set B (.cells [])++[.cells (flat (K.map cells)++flat (fr.l.map cells))],λlo=>min lo B,λlo=>?_,λy hy=>by rw [am (by simp; omega),ac (by omega)],.inr ⟨by simp [hie],bs.length,none,[],hn,by simp,?_⟩⟩
         . by_cases hfull:(flat (K.map cells)).length=(flat (K.map cells)++rest).length
           . simp only [dP,hrc,aD,ne_eq,not_true_eq_false,false_or,if_neg hm0,if_neg hzz,get_eq,h3,hs,hroom (K.length+fr.l.length) (by omega),Bool.not_true,bo,if_false,if_pos (show True/\(flat (K.map cells)).length=(flat (K.map cells)++rest).length/\0<(flat (K.map cells)++rest).length from ⟨trivial,hfull,h5⟩),Hp.size,Hp.alloc,Hp.set]
           . simp only [dP,hrc,aD,ne_eq,not_true_eq_false,false_or,if_neg hm0,if_neg hzz,get_eq,h3,hs,hroom (K.length+fr.l.length) (by omega),Bool.not_true,bo,if_false,if_neg (show ¬ (True/\(flat (K.map cells)).length=(flat (K.map cells)++rest).length/\0<(flat (K.map cells)++rest).length) from λhh=>hfull hh.2.1),if_neg hfit,if_pos (show True/\0<(flat (K.map cells)++rest).length from ⟨trivial,h5⟩),Hp.size,Hp.alloc,Hp.set]
         . have:=dh (bs:=bs.set B (.cells [])) (ys:=[.cells (flat (K.map cells)++flat (fr.l.map cells))]);rw [List.length_set] at this;rw [this,hcat,List.append_nil]; rfl
def jc {α:Type}(key:α->Int)(fresh:List α)(gone:List Int)(e:α):Bool:=!fU gone (key e)&&!fresh.any λy=>key e==key y
def gK {α:Type}(key:α->Int)(l fresh:List α)(gone:List Int):List α:=((l.filter (jc key fresh gone))++fresh).mergeSort λa b=>decide (key a<=key b)
theorem Ql {α:Type}{cells:α->List D}{z c idf:FuncId}{key:α->Int}(ht:T c=some (vpeQ z))(hv:val c=false){x y:α}(hx:(cells x).length=z)(hy:(cells y).length=z)(hid:∀ e,e=x\/e=y->∀ h,Sm E T val idf [ag (cells e)] h=some (.d (u64 (key e)),h)){p r:Nat}{h:Hp}(hp:au h.bs p=some [.fn idf []])(hr:au h.bs r=some ((cells x).map .d)) :
 Sm E T val c [ag (cells y),.ptr p 0,.ptr r 0] h=some (bl (key x==key y),h):=by
 rw [av ht hv];have hsx:=sM hx;have hsy:=sM hy;have h1:=hid x (.inl rfl);have h2:=hid y (.inr rfl);simp [vpeQ,aa,aA,ae,ay,Tr.mute,ak hp,ak hr,h1,h2,hsx,hsy,V.under]
theorem XB {α:Type}{cells:α->List D}{z c c11 con sm any idx idf:FuncId}{key:α->Int}(ht:T c=some (vpcQ z con c11 sm))(hv:val c=false)(ht1:T c11=some (vpeQ z))(hv1:val c11=false)(ts:T sm=some (someQ any))(vs:val sm=false)(ta:T any=some (anyQ idx))(va:val any=false)(ti:T idx=some (idxQ z))(vi:val idx=false)
 (hz:∀ x,(cells x).length=z) {fresh:Sl α} (hs:short fresh) {gone:Sl Int} (hcon:∀ n h,Sm E T val con [.d (gone.d eT),.d (u64 n)] h=some (bl (fU gone.l n),h)) {x:α} (hid:∀ e,e=x\/e∈fresh.l->∀ h,Sm E T val idf [ag (cells e)] h=some (.d (u64 (key e)),h))
 {p r f:Nat} {h:Hp} (hr:au h.bs r=some [.d (gone.d eT)]) (hp:au h.bs p=some [.fn idf []]) (hf:au h.bs f=some [.d (fresh.d cells)]) :
 Sm E T val c [ag (cells x),.ptr r 0,.ptr p 0,.ptr f 0] h=some (bl (jc key fresh.l gone.l x),h):=by
 have hsx:=sM (hz x);have h1:=hid x (.inl rfl);have hcl:∀ y∈fresh.l,∀ lo,Sm E T val c11 (.agg ((cells y).map .d)::[.ptr p 0,.ptr h.bs.length 0]) ⟨h.bs++[.cells ((cells x).map .d)],lo⟩=some (.d (.bool (key x==key y)),⟨h.bs++[.cells ((cells x).map .d)],lo⟩):=λy hy lo =>
  Ql ht1 hv1 (hz x) (hz y) (λe he=>hid e (by obtain rfl | rfl:=he; exact .inl rfl; exact .inr hy)) (ak hp) (by rw [dh]; rfl)
 have hsm:∀ lo,Sm E T val sm [.d (fresh.d cells),.fn c11 [.ptr p 0,.ptr h.bs.length 0]] ⟨h.bs++[.cells ((cells x).map .d)],lo⟩=some (bl (fresh.l.any λy=>key x==key y),⟨h.bs++[.cells ((cells x).map .d)],lo⟩):=λlo =>
  fK ts vs rfl rfl (gP cells ti vi ta va (h:=⟨h.bs++[.cells ((cells x).map .d)],(h.bs++[Blk.cells ((cells x).map .d)]).length⟩) (RowIs.of hz _) hs.lt λe he lo=>hcl e he lo)
 rw [av ht hv];unfold jc;cases hg:fU gone.l (key x)<;>simp [vpcQ,aa,aA,ae,bA,ay,Tr.mute,ak hp,ak hr,ak hf,h1,hsx,hcon,hg,hsm,V.under]
theorem za {α:Type}{cells:α->List D}{z b c1 c11 con sm any keep cl clos del idx g srt idf id:FuncId}{zero:List V}{key:α->Int}(tcl:T cl=some (cloneQ z b zero))(vcl:val cl=false)(tdel:T del=some (delQ z idx zero))(vdel:val del=false)(ti:T idx=some (idxQ z))(vi:val idx=false)
 (tn:T clos=some (notQ z)) (vn:val clos=false) (tk:T keep=some (keepQ cl clos del)) (vk:val keep=false) (t1:T c1=some (vpcQ z con c11 sm)) (v1:val c1=false) (t11:T c11=some (vpeQ z)) (v11:val c11=false) (ts:T sm=some (someQ any)) (vs:val sm=false) (ta:T any=some (anyQ idx)) (va:val any=false)
 (tid:T id=some (vputQ z b c1 keep g srt)) (vid:val id=true) {p:Nat} (hS:∀ {h:Hp} {B n:Nat} {cap:Option Nat},0<n->Sm E T val srt [.row B 0 n cap z,.fn g [.ptr 2 0]] h=gp ⟨z,p,g,idf⟩ [.row B 0 n cap z,.fn g [.ptr 2 0]] h)
 (hS0:∀ v,v=.d (.slice true [])\/(∃ B cap,v=.row B 0 0 cap z)->∀ h,Sm E T val srt [v,.fn g [.ptr 2 0]] h=some (.tup [],h))
 (hz:∀ x,(cells x).length=z) (hz0:0<z) (hzero:zero.length=z) (hb:b<=4096) (hkey:∀ x,(cells x)[p]?=some (.int .u64 (key x))) {l fresh:Sl α} (hl:short l) (hf:short fresh) (hlf:l.l.length+fresh.l.length<=big) {gone:Sl Int}
 (hcon:∀ n h,Sm E T val con [.d (gone.d eT),.d (u64 n)] h=some (bl (fU gone.l n),h)) (hid:∀ e,e∈l.l\/e∈fresh.l->∀ h,Sm E T val idf [ag (cells e)] h=some (.d (u64 (key e)),h)) (hnd:(((l.l.filter (jc key fresh.l gone.l))++fresh.l).map key).Nodup) :
 ∃ nl,(nl=true->gK key l.l fresh.l gone.l=[])/\∀ h,Sm E T val id [.d (l.d cells),.d (fresh.d cells),.d (gone.d eT),.fn idf []] h=some (.d (.slice nl ((gK key l.l fresh.l gone.l).map cells)),h):=by
 have hfr:∀ h,frz h (.fn idf [])=some (.fn idf []):=λ_=>rfl;have hpf:dK (.fn idf [])=true:=rfl;obtain ⟨r,bs1,lo1,k1,k2,k3,k4⟩:=EJ (E:=E) (T:=T) (val:=val) tcl vcl tdel vdel ti vi tn vn tk vk hz hz0 hzero hb hl (f:=c1) (caps:=[.ptr 1 0,.ptr 2 0,.ptr 0 0]) (q:=jc key fresh.l gone.l) (h:=⟨[.cells [.d (fresh.d cells)],.cells [.d (gone.d eT)],.cells [.fn idf []]],0⟩) λe he bs lo hle ho=>by
  simp only [cj,ck] at hle ho;refine XB t1 v1 t11 v11 ts vs ta va ti vi hz hf hcon (λx hx=>hid x (by obtain rfl | hx:=hx; exact .inl he; exact .inr hx)) ?_ ?_ ?_
  . simp only [au]; rw [ho 1 (by decide)]; rfl
  . simp only [au]; rw [ho 2 (by decide)]; rfl
  . simp only [au]; rw [ho 0 (by decide)]; rfl
 simp only [cj,ck] at k2 k3 k4;have hkl:=List.length_filter_le (jc key fresh.l gone.l) l.l;obtain ⟨v2,bs2,f,a1,a2,a3⟩:=Jn hz hz0 hb k4 fresh hf (by omega) k2;have hb10:au bs1 0=some [.d (fresh.d cells)]:=by simp only [au]; rw [k3 0 (by decide)]; rfl
 have hb2:au bs2 2=some [.fn idf []]:=by simp only [au]; rw [a2 2 (by decide),k3 2 (by decide)]; rfl
 have hnur:=k4.nu;have hPV:gK key l.l fresh.l gone.l=((l.l.filter (jc key fresh.l gone.l))++fresh.l).mergeSort λa b=>decide (key a<=key b):=rfl;generalize gK key l.l fresh.l gone.l=PV at *;generalize l.l.filter (jc key fresh.l gone.l)=K at *;obtain ⟨g1,g2,rfl⟩ | ⟨g1,B,cap,rest,g2,rfl,g3⟩:=a3
 . have hP0:PV=[]:=by rw [hPV,g2,List.mergeSort_nil]
   have hsrt:=λh=>hS0 (.d (.slice true [])) (.inl rfl) h;refine ⟨true,λ_=>hP0,λh=>?_⟩;rw [aN tid vid];simp [vputQ,aa,hfr,k1,hb10,hnur.1,a1,hsrt,hP0,hpf]
 . obtain h0 | h0:=Nat.eq_zero_or_pos (K++fresh.l).length
   . have hKF:K++fresh.l=[]:=List.eq_nil_of_length_eq_zero h0;have hP0:PV=[]:=by rw [hPV,hKF,List.mergeSort_nil]
     have hsrt:=λh=>hS0 (.row B 0 0 cap z) (.inr ⟨B,cap,rfl⟩) h;rw [h0] at a1;rw [hKF] at g3;have hdv:=λlo2=>bB (h:=⟨bs2,lo2⟩) (k:=7) (b:=B) (n:=0) (cap:=cap) (z:=z) (es:=[]) (rest:=rest) (by simp) rfl (by simpa using g3);refine ⟨false,(λhh=>by cases hh),λh=>?_⟩;rw [aN tid vid];simp [vputQ,aa,hfr,k1,hb10,hnur.1,a1,hsrt,hP0,hpf,hdv]
   . have hne:K++fresh.l≠[]:=List.length_pos_iff.1 h0;have hst:=λlo2=>yM (g:=g) (idf:=idf) (p:=p) hz hkey (L:=K++fresh.l) hnd hne (by rw [aq]; simp only [big] at hlf; omega) (h:=⟨bs2,lo2⟩) (b:=B) (c:=2) (cap:=cap) (rest:=rest) g3 hb2 (by omega);rw [← hPV] at hst;have hsm:∀ lo2,Sm E T val srt [.row B 0 (K++fresh.l).length cap z,.fn g [.ptr 2 0]] ⟨bs2,lo2⟩=some (.tup [],⟨bs2.set B (.cells (flat (PV.map cells)++rest)),min lo2 B⟩):=λlo2=>by
      rw [hS h0];exact hst lo2
     have hbl:=aK g3;have hpl:PV.length=(K++fresh.l).length:=by rw [hPV,List.length_mergeSort]
     have hwp:∀ e∈PV.map cells,e.length=z:=by simp; intro a _; exact hz a
     have hdv:=λlo2=>bB (h:=⟨bs2.set B (.cells (flat (PV.map cells)++rest)),lo2⟩) (k:=7) (b:=B) (n:=(K++fresh.l).length) (cap:=cap) (z:=z) (es:=PV.map cells) (rest:=rest) hwp (by simp [hpl]) (by simp [au,hbl]);generalize (K++fresh.l).length=N at *;refine ⟨false,(λhh=>by cases hh),λh=>?_⟩;rw [aN tid vid];simp [vputQ,aa,hfr,k1,hb10,hnur.1,a1,hsm,hdv,hpf]
theorem Rj {α:Type}{cells:α->List D}{z c con idf:FuncId}{key:α->Int}(ht:T c=some (apacQ z con))(hv:val c=false){x:α}(hx:(cells x).length=z){gone:Sl Int}(hcon:∀ n h,Sm E T val con [.d (gone.d eT),.d (u64 n)] h=some (bl (fU gone.l n),h))(hid:∀ h,Sm E T val idf [ag (cells x)] h=some (.d (u64 (key x)),h)){p r:Nat}{h:Hp}(hr:au h.bs r=some [.d (gone.d eT)])(hp:au h.bs p=some [.fn idf []]) :
 Sm E T val c [ag (cells x),.ptr r 0,.ptr p 0] h=some (bl (fU gone.l (key x)),h):=by
 have hsx:=sM hx;rw [av ht hv];simp [apacQ,aa,aA,ae,ay,Tr.mute,ak hp,ak hr,hid,hsx,hcon,V.under]
def jK {α:Type}(key:α->Int)(gone:List Int)(most:Int)(l:List α):Bool:=(aU gone&&decide ((gone.length:Int)<=most))&&!l.any λx=>fU gone (key x)
theorem yX {α:Type}{cells:α->List D}{z c con clo ris slf sm any idx idf:FuncId}{key:α->Int}(ht:T c=some (aparQ ris slf clo sm))(hv:val c=true)(tc:T clo=some (apacQ z con))(vc:val clo=false)(ts:T sm=some (someQ any))(vs:val sm=false)(ta:T any=some (anyQ idx))(va:val any=false)(ti:T idx=some (idxQ z))(vi:val idx=false)
 (hz:∀ x,(cells x).length=z) {gone:Sl Int} {most:Int} (hris:∀ h,Sm E T val ris [.d (gone.d eT),.d (i64 most),.fn slf []] h=some (bl (aU gone.l&&decide ((gone.l.length:Int)<=most)),h)) (hcon:∀ n h,Sm E T val con [.d (gone.d eT),.d (u64 n)] h=some (bl (fU gone.l n),h))
 {l:Sl α} (hl:short l) (hid:∀ e∈l.l,∀ h,Sm E T val idf [ag (cells e)] h=some (.d (u64 (key e)),h)) (h:Hp) :
 Sm E T val c [.d (gone.d eT),.d (i64 most),.d (l.d cells),.fn idf []] h=some (bl (jK key gone.l most l.l),h):=by
 have hfr:frz h (.fn idf [])=some (.fn idf []):=rfl;have hpf:dK (.fn idf [])=true:=rfl;have hsm:∀ lo,Sm E T val sm [.d (l.d cells),.fn clo [.ptr 0 0,.ptr 1 0]] ⟨[.cells [.d (gone.d eT)],.cells [.fn idf []]],lo⟩=some (bl (l.l.any λx=>fU gone.l (key x)),⟨[.cells [.d (gone.d eT)],.cells [.fn idf []]],lo⟩):=λlo =>
  fK ts vs rfl rfl (gP cells ti vi ta va (h:=⟨[.cells [.d (gone.d eT)],.cells [.fn idf []]],2⟩) (RowIs.of hz _) hl.lt λe he lo=>Rj tc vc (hz e) hcon (hid e he) (by simp) (by simp))
 rw [aN ht hv];unfold jK;cases hr:(aU gone.l&&decide ((gone.l.length:Int)<=most))<;>simp [aparQ,aa,hfr,hris,hr,hsm,ai,hpf]
theorem Iq {α:Type}{cells:α->List D}{z:Nat}(hz:∀ x,(cells x).length=z){s:Sl α}(hs:s.l.length<2 ^ 62){most:Int}{f:FuncId}{g:α->Int}(hf:∀ e∈s.l,∀ h,Sm E T val f [ag (cells e)] h=some (.d (u64 (g e)),h)):∀ (m i:Nat),i+m=s.l.length->1<=i →
 Cd E T val (.loop [0,1,2,9,10] (xA z)) [(0,.d (s.d cells)),(1,.d (i64 most)),(2,.fn f []),(9,.d (i64 s.l.length)),(10,.d (i64 i))] ⟨[],0⟩ =
  if aU ((s.l.map g).drop (i-1)) then some (.exit 0,[(0,.d (s.d cells)),(1,.d (i64 most))],⟨[],0⟩) else some (.ret,[(6,bl false)],⟨[],0⟩):=by
 intro m;have key:=ax (E:=E) (T:=T) (val:=val) [0,1,2,9,10] (xA z);generalize Cd E T val (.loop [0,1,2,9,10] (xA z))=W at key ⊢
 induction m with
 | zero =>
  intro i hi h1;rw [key,kM (by simp; omega)];simp [xA,show ¬ ((i:Int)<s.l.length) from by omega]
 | succ m ih =>
  intro i hi h1;have hlt:i<s.l.length:=by omega
  have hd:=jH (l:=s.l.map g) (i:=i-1) (by simp; omega);have hs1:i-1+1=i:=by omega
  simp only [hs1,List.getElem_map] at hd;have hp1:=λh=>mZ (cells:=cells) hz hlt (kd:=.i64) (h:=h);have hp0:=λh=>mZ (cells:=cells) hz (show i-1<s.l.length by omega) (kd:=.i64) (h:=h);have c1:=hf _ (bj hlt);have c0:=hf _ (bj (show i-1<s.l.length by omega));have hw:=aI hlt hs;have hwm:wrap .i64 ((i:Int)-1)=((i-1:Nat):Int):=by rw [wrap64]<;>omega
  have hpos:0<i:=h1;have hih:=ih (i+1) (by omega) (by omega);simp only [show i+1-1=i by omega] at hih;rw [key,hd];generalize s.l[i]=y at *;generalize s.l[i-1]=x at *;have hsx:=bQ (hz x);have hsy:=bQ (hz y);by_cases hg:g x<g y
  . simp +decide [xA,hp1,hp0,hsx,hsy,hwm,hw,hpos,c0,c1,hlt,hg,aA,ae,show ¬ (g x>=g y) from by omega];simpa using hih
  . simp +decide [xA,hp1,hp0,hsx,hsy,hwm,hpos,c0,c1,hlt,hg,aA,ae,show g x>=g y from by omega]
theorem yZ {α:Type}{cells:α->List D}{z:Nat}{id:FuncId}(ht:T id=some (rsgQ z))(hv:val id=true)(hz:∀ x,(cells x).length=z){s:Sl α}(hs:s.l.length<2 ^ 62){most:Int}{f:FuncId}{g:α->Int}(hf:∀ e∈s.l,∀ h,Sm E T val f [ag (cells e)] h=some (.d (u64 (g e)),h))(h:Hp) :
 Sm E T val id [.d (s.d cells),.d (i64 most),.fn f []] h=some (bl (gN g s.l most),h):=by
 rw [aN ht hv];unfold gN;have hfr:frz h (.fn f [])=some (.fn f []):=rfl;have key:=ax (E:=E) (T:=T) (val:=val) [0,1,2,9,10] (xA z);have hl:=Iq (E:=E) (T:=T) (val:=val) hz hs (most:=most) hf;simp [aa,rsgQ,hfr];rw [aj];simp only [jh,kv];simp;generalize Cd E T val (.loop [0,1,2,9,10] (xA z))=W at key hl ⊢;by_cases h0:s.l=[]
 . rw [key];simp [xA,h0,aU,dK]
 . have hpos:0<s.l.length:=List.length_pos_iff.2 h0;have h1:=hl (s.l.length-1) 1 (by omega) (by omega);simp at h1;rw [key];have hw:=aI hpos hs;simp at hw;simp +decide [xA,aA,bA,hpos,hw,h1];cases aU (s.l.map g)<;>simp [dK]
end
end
