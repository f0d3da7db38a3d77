/- name.MayLabel, name.May. -/
import Derived.Test.YtllbjfmiilckiaaGreatSa
import Derived.Laws.RangeString
import Derived.KernelRfl
import Derived.Shelf.Sort.Plain
import Derived.Shelf.Slices.In.SortNone
set_option maxRecDepth 100000
set_option linter.unusedVariables false
set_option linter.unusedSimpArgs false
namespace Go.Proofs.YtllbjfmiilckiaaGreat
open IntKind (wrap)
section
theorem AQ (s:ByteArray)(pos:Nat)(h:pos<s.size)(ha:¬ (s[pos]'h).toNat<128):128<=(Utf8.decode s pos).1:=by
 have e:s.get! (pos+0)=s[pos]'h:=by
  show s.get! pos=_;simp [ByteArray.get!,getElem!_pos,h];rfl
 simp only [Utf8.decode,e,ha,if_false]
 repeat' split
 all_goals first | (simp only [Utf8.runeError]; omega) | (rename_i hh; simp only [aq,bw] at hh; dsimp only; omega) | (rename_i hh; simp only [aq,bw] at hh; have:=hh.1; dsimp only; omega) | (dsimp only; omega)
def GZ (x:V)(h:Hp):Option (V×Hp):=match x with
 | .d (.str s)=>some (.ptr h.size 0,{ h with bs:=h.bs++[.iter s 0] })
 | _=>none
def rE (x:V)(h:Hp):Option (V×Hp):=match x with
 | .ptr b 0=>match h.bs[b]? with
  | some (.iter s pos) =>
   if pos<s.size then
    let (c,w):=Utf8.decode s pos
    some (.tup [.d (.bool true),.d (.int .i64 pos),.d (.int .i32 c)],⟨h.bs.set b (.iter s (pos+w)),min h.low b⟩)
   else some (.tup [.d (.bool false)],h)
  | _=>none
 | _=>none
section
variable {C:Calls'}{ev:X->V}{h:Hp}
@[simp] theorem PU {x:X}:opE C (.range x) ev h=GZ (ev x) h:=(rfl)
@[simp] theorem UF {x:X}:opE C (.next x) ev h=rE (ev x) h:=(rfl)
@[simp] theorem VF {s:ByteArray}:GZ (.d (.str s)) ⟨[],0⟩=some (.ptr 0 0,⟨[.iter s 0],0⟩):=(rfl)
end
theorem D5 {s:ByteArray}{pos:Nat}(h:¬ pos<s.size):rE (.ptr 0 0) ⟨[.iter s pos],0⟩=some (.tup [bl false],⟨[.iter s pos],0⟩):=by simp [rE,h]
theorem zy {s:ByteArray}{pos:Nat}{b:UInt8}(hb:s.toList[pos]?=some b)(ha:b.toNat<128):rE (.ptr 0 0) ⟨[.iter s pos],0⟩=some (.tup [bl true,.d (i64 pos),.d (.int .i32 b.toNat)],⟨[.iter s (pos+1)],0⟩):=by
 have hl:=fV s;have h:pos<s.size:=by rw [← hl]; exact (bx.1 hb).1
 have he:s[pos]'h=b:=by
  have:=(bx.1 hb).2;simp only [bL] at this;exact this
 have hd:=decode_ascii s pos h (by rw [he]; exact ha);simp [rE,h,hd,he]
theorem DZ {s:ByteArray}{pos:Nat}{b:UInt8}(hb:s.toList[pos]?=some b)(ha:¬ b.toNat<128):∃ (c:Nat) (q:Nat),128<=c/\rE (.ptr 0 0) ⟨[.iter s pos],0⟩=some (.tup [bl true,.d (i64 pos),.d (.int .i32 c)],⟨[.iter s q],0⟩):=by
 have hl:=fV s;have h:pos<s.size:=by rw [← hl]; exact (bx.1 hb).1
 have he:s[pos]'h=b:=by
  have:=(bx.1 hb).2;simp only [bL] at this;exact this
 have hd:=AQ s pos h (by rw [he]; exact ha);exact ⟨(Utf8.decode s pos).1,pos+(Utf8.decode s pos).2,hd,by simp [rE,h]⟩
end
section
end
section
variable {E:Calls'}
def vC (n i c:Nat):Bool:=!((decide ((c:Int)>=97)&&decide ((c:Int)<=122))||((decide ((c:Int)>=48)&&decide ((c:Int)<=57))||(((c:Int)==45)&&!(((i:Int)==0)||((i:Int)+1==n)))))
def jD (n:Nat):Nat->List UInt8->Bool
 | _,[]=>false
 | i,b::l=>vC n i b.toNat||jD n (i+1) l
def gW (s:ByteArray):Bool:=!jD s.size 0 s.toList&&(decide ((s.size:Int)>=1)&&decide ((s.size:Int)<=20))
theorem Zi (s:ByteArray)(i c:Nat)(bs bs':List Blk)(hn:rE (.ptr 0 0) ⟨bs,0⟩=some (.tup [bl true,.d (i64 i),.d (.int .i32 c)],⟨bs',0⟩))(hi:i<s.size)(hs:s.size<2 ^ 62)(W:EA->Hp->d9) :
 bY [0,7] W (Cd E TT aD kX [(0,.d (.str s)),(7,.ptr 0 0)] ⟨bs,0⟩)=(if vC s.size i c then some (.ret,[(2,bl false)],⟨bs',0⟩) else W [(0,.d (.str s)),(7,.ptr 0 0)] ⟨bs',0⟩):=by
 have hw:=ay hi hs;have e0:∃ t,((i:Int)==0)=t:=⟨_,rfl⟩;obtain ⟨t0,e0⟩:=e0;have e1:∃ t,((i:Int)+1==s.size)=t:=⟨_,rfl⟩;obtain ⟨t1,e1⟩:=e1;by_cases c1:(c:Int)>=97<;>by_cases c2:(c:Int)<=122<;>by_cases c3:(c:Int)>=48<;>by_cases c4:(c:Int)<=57<;>by_cases c5:(c:Int)=45<;>first
  | (exfalso; omega)
  | (simp only [vC,c1,c2,c3,c4,c5,e0,e1]; cases t0<;>cases t1<;>simp [kX,hn,aj,hw,e0,e1,c1,c2,c3,c4,c5])
theorem zf {n i c:Nat}(h:128<=c):vC n i c=true:=by
 have h1:¬ ((c:Int)<=122):=by omega
 have h2:¬ ((c:Int)<=57):=by omega
 have h3:¬ ((c:Int)=45):=by omega
 simp [vC,h1,h2,h3]
theorem YX (s:ByteArray)(hs:s.size<2 ^ 62):∀ (m i:Nat),i+m=s.size →
 ∃ q,Cd E TT aD (.loop [0,7] kX) [(0,.d (.str s)),(7,.ptr 0 0)] ⟨[.iter s i],0⟩ =
  if jD s.size i (s.toList.drop i) then some (.ret,[(2,bl false)],⟨[.iter s q],0⟩) else some (.exit 0,[(0,.d (.str s))],⟨[.iter s q],0⟩):=by
 have hsl:=fV s;intro m;have key:=aC (E:=E) (T:=TT) (val:=aD) [0,7] kX;have hk:bE [0,7] [(0,.d (.str s)),(7,.ptr 0 0)]=[(0,.d (.str s)),(7,.ptr 0 0)]:=rfl;have hR:=λi c bs bs' hn hi=>Zi (E:=E) s i c bs bs' hn hi hs;generalize Cd E TT aD (.loop [0,7] kX)=W at key ⊢
 induction m with
 | zero =>
  intro i hi;refine ⟨i,?_⟩;rw [key,ba (by omega)];simp [kX,jD,D5 (show ¬ i<s.size by omega)]
 | succ m ih =>
  intro i hi;have h1:i<s.toList.length:=by omega
  have hb:=ab h1;rw [aw h1];obtain ⟨q,hq⟩:=ih (i+1) (by omega);generalize s.toList[i]=b at *;by_cases ha:b.toNat<128
  . refine ⟨if vC s.size i b.toNat then i+1 else q,?_⟩;rw [key,hk,hR i b.toNat _ _ (zy hb ha) (by omega) W];cases hl:vC s.size i b.toNat with
    | true=>simp [jD,hl]
    | false=>simp [jD,hl,hq]
  . obtain ⟨c,q',hc,hn⟩:=DZ hb ha;refine ⟨q',?_⟩;have hl:vC s.size i b.toNat=true:=zf (by omega);rw [key,hk,hR i c _ _ hn (by omega) W,zf hc];simp [jD,hl]
theorem Zo (s:ByteArray)(hs:s.size<=big)(h:Hp):Sm E TT aD 189 [.d (.str s)] h=some (bl (gW s),h):=by
 rw [aY ay8 bj1];obtain ⟨q,k1⟩:=YX (E:=E) s (ch hs (by decide)) s.size 0 (by omega);simp at k1;simp [ae,JU];rw [au];simp [k1];cases hb:jD s.size 0 s.toList with
 | true=>simp [gW,hb]
 | false=>by_cases c1:(s.size:Int)>=1<;>simp [gW,hb,aj,c1]
end
section
variable {E:Calls'}
def tokN:List Int:=[0,0,0,0,0,0,0,0,0,0,0,0,0,0,0,0,0,0,0,0,0,0,0,0,0,0,0,0,0,0,0,0,0,1,0,1,1,1,1,1,0,0,1,1,0,1,1,0,1,1,1,1,1,1,1,1,1,1,0,0,0,0,0,0,0,0,0,0,0,0,0,0,0,0,0,0,0,0,0,0,0,0,0,0,0,0,0,0,0,0,0,0,0,0,1,1,1,1,1,1,1,1,1,1,1,1,1,1,1,1,1,1,1,1,1,1,1,1,1,1,1,1,1,0,1,0,1,0,0,0,0,0,0,0,0,0,0,0,0,0,0,0,0,0,0,0,0,0,0,0,0,0,0,0,0,0,0,0,0,0,0,0,0,0,0,0,0,0,0,0,0,0,0,0,0,0,0,0,0,0,0,0,0,0,0,0,0,0,0,0,0,0,0,0,0,0,0,0,0,0,0,0,0,0,0,0,0,0,0,0,0,0,0,0,0,0,0,0,0,0,0,0,0,0,0,0,0,0,0,0,0,0,0,0,0,0,0,0,0,0,0,0,0,0,0,0,0,0,0,0,0,0,0,0,0,0]
def tokL:List D:=tokN.map i64
theorem Ah:tokL.length=256:=rfl
theorem Yy (C:Calls'):aV C 300 q477.code [] ⟨[],0⟩=some (.ret,[(0,.ptr 0 0)],⟨[.cells (tokL.map .d),.iter ⟨#[97,98,99,100,101,102,103,104,105,106,107,108,109,110,111,112,113,114,115,116,117,118,119,120,121,122,48,49,50,51,52,53,54,55,56,57,33,35,36,37,38,39,42,43,45,46,94,95,96,124,126]⟩ 51],0⟩):=by kernel_rfl
theorem ZQ (h:Hp):Sm E TT aD 387 [] h=some (ag tokL,h):=by
 rw [aY bd9 bn7];have h1:Cd E TT aD q477.code (jg 0 []) ⟨[],0⟩=_:=fF (k:=0) (Yy _);have hr:q477.res=[.cell 0 false 256]:=rfl;have hs:=cO Ah;have h2:Bd E TT aD q477 [] ⟨[],0⟩=some (ag tokL,⟨[.cells (tokL.map .d),.iter ⟨#[97,98,99,100,101,102,103,104,105,106,107,108,109,110,111,112,113,114,115,116,117,118,119,120,121,122,48,49,50,51,52,53,54,55,56,57,33,35,36,37,38,39,42,43,45,46,94,95,96,124,126]⟩ 51],0⟩):=by
  show fin q477.res (Cd E TT aD q477.code (jg 0 []) ⟨[],0⟩)=_;rw [h1,hr];generalize tokL=L at hs ⊢;simp [hs]
 simp only [List.mapM_nil,Option.pure_def,uW,h2,H9,lX,Pv];simp
def BO (b:UInt8):Int:=tokN.getD b.toNat 0
def jm:List UInt8->Bool
 | []=>false
 | b::l=>BO b==0||jm l
def jl (s:ByteArray):Bool:=!jm s.toList&&(decide ((s.size:Int)>=1)&&decide ((s.size:Int)<=64))
theorem Pp (b:UInt8):sub tokL b.toNat 1=some [i64 (BO b)]:=by
 have hb:b.toNat<256:=b.toNat_lt;have hl:tokN.length=256:=rfl;have e1:(tokN.drop b.toNat).take 1=[tokN[b.toNat]]:=by rw [aw (by omega)]; rfl
 rw [tokL,KG,fJ,if_pos (by omega),e1,BO,bp,ab (by omega)];rfl
theorem Y5 (s:ByteArray)(hs:s.size<2 ^ 62):∀ (m i:Nat),i+m=s.size →
 Cd E TT aD (.loop [0,3,4] kZ) [(0,.d (.str s)),(3,.ptr 0 0),(4,.d (i64 i))] ⟨[.cells (tokL.map .d)],0⟩ =
  if jm (s.toList.drop i) then some (.ret,[(2,bl false)],⟨[.cells (tokL.map .d)],0⟩) else some (.exit 0,[(0,.d (.str s))],⟨[.cells (tokL.map .d)],0⟩):=by
 have hsl:=fV s;have htok:=Pp;generalize tokL=TL at htok ⊢;intro m;have key:=aC (E:=E) (T:=TT) (val:=aD) [0,3,4] kZ;generalize Cd E TT aD (.loop [0,3,4] kZ)=W at key ⊢
 induction m with
 | zero =>
  intro i hi;rw [key,ba (by omega)];simp [kZ,jm,show ¬ ((i:Int)<s.size) from by omega]
 | succ m ih =>
  intro i hi;have h1:i<s.toList.length:=by omega
  have hx:=λh=>gV (h:=h) (ab h1);have hw:=ay (show i<s.size by omega) hs;have:=ih (i+1) (by omega);rw [key,aw h1];generalize s.toList[i]=b at *;have h0:((i:Int)<s.size):=by omega
  have hb:b.toNat<256:=b.toNat_lt;have hix:∀ h,bg (some 256) 1 (.ptr 0 0) (.d (.int .u8 b.toNat)) h=some (.ptr 0 b.toNat,h):=λh=>by simp [bg]; omega
  by_cases c1:BO b=0
  . simp [kZ,hx,hix,htok,c1,jm,h0]
  . have c2:(BO b==0)=false:=by simpa using c1
    simp [kZ,hx,hix,htok,c1,c2,jm,h0,hw];simpa using this
theorem ZK (s:ByteArray)(hs:s.size<=big)(h:Hp):Sm E TT aD 350 [.d (.str s)] h=some (bl (jl s),h):=by
 rw [aY bc7 bm5];have k1:=Y5 (E:=E) s (ch hs (by decide)) s.size 0 (by omega);have h477:=ZQ (E:=E);have hl:=Ah;have hln:(tokL.map V.d).length=256:=by simp [hl]
 generalize hTL:tokL=TL at *;simp at k1;simp [ae,OQ,h477,hl];rw [au];simp [k1];cases hb:jm s.toList with
 | true=>simp [jl,hb]
 | false=>by_cases c1:(s.size:Int)>=1<;>simp [jl,hb,aj,c1]
end
section
def chg:List Int->Nat
 | x::y::l=>(if x=y then 0 else 1)+chg (y::l)
 | _=>0
theorem tK:∀ l:List Int,chg l<=l.length-1
 | []=>by simp [chg]
 | [_]=>by simp [chg]
 | x::y::l=>by
  have:=tK (y::l);simp only [chg,ck] at this ⊢;split<;>omega
theorem yM {zs:List Int}{i:Nat}(h:i+1<zs.length):chg (zs.drop i)=(if zs[i]=zs[i+1] then 0 else 1)+chg (zs.drop (i+1)):=by
 rw [aw (show i<zs.length by omega),aw h];simp only [chg]
def oD (zs:List Int):Nat:=if zs=[] then 0 else 1+chg zs
def iv (kd:IntKind)(z:Int):V:=.d (.int kd z)
def Mr (bs:List Blk)(b:Nat)(cur:List V)(lo:Nat):Hp:=⟨bs.set b (.cells cur),lo⟩
section
variable {bs:List Blk}{b lo:Nat}{cur:List V}
theorem Aq (hb:b<bs.length):ah (Mr bs b cur lo).bs b=some cur:=by simp [Mr,ah,hb]
theorem BX (hb:b<bs.length){k:Nat}{v:V}(hk:cur[k]?=some v):ldv (Mr bs b cur lo) (.ptr b k) 1 true=some (v,Mr bs b cur lo):=by
 obtain ⟨h1,h2⟩:=bx.1 hk;have hs:sub cur k 1=some [v]:=by
  rw [fJ,if_pos (by omega),aw h1,h2]; rfl
 rw [oN,get_eq,Aq hb];simp only [hs]; rfl
theorem Q4 (hb:b<bs.length){k:Nat}{x:D}(hk:k<cur.length):stv (Mr bs b cur lo) (.ptr b k) (.d x) 1=some (.undef,Mr bs b (cur.set k (.d x)) (min lo b)):=by
 have hp:put cur k [V.d x]=some (cur.set k (.d x)):=by
  unfold put;rw [if_pos (by simp only [ck,cm]; omega),List.set_eq_take_append_cons_drop,if_pos hk]; simp
 have hg:=Aq (lo:=lo) (cur:=cur) hb;simp [stv,V.cells,storeAt,hg,hp];simp [Hp.set,Mr]
theorem uq {b o n z:Nat}{cap:Option Nat}{kd:IntKind}{i:Nat}{h:Hp}(hi:i<n):bg none z (.row b o n cap z) (.d (.int kd i)) h=some (.ptr b (o+i * z),h):=by
 simp [bg,hi]
end
section
variable {E:Calls'}{T:FuncId->Option QF}{val:FuncId->Bool}{kd:IntKind}
theorem MP {bs:List Blk}{b:Nat}(hb:b<bs.length){zs:List Int}{cap cap2:Option Nat}(hn:zs.length<2 ^ 62){k0:Nat}(hk0:1<=k0)(hk1:k0<zs.length):∀ (m i k:Nat) (cur:List V) (lo:Nat),k0+i+m=zs.length->1<=i->k<k0+i->cur.length=zs.length->(∀ j (hj:j<zs.length),k<=j->cur[j]?=some (iv kd zs[j])) →
 ∃ cur' lo',Cd E T val (.loop [0,3,4,5] (tO kd)) [(0,.row b 0 zs.length cap 1),(3,.d (i64 k)),(4,.row b k0 (zs.length-k0) cap2 1),(5,.d (i64 i))] (Mr bs b cur lo) =
  some (.exit 2,[(0,.row b 0 zs.length cap 1),(3,.d (i64 (k+chg (zs.drop (k0+i-1)):Nat)))],Mr bs b cur' lo')/\cur'.length=zs.length/\(lo'=lo\/lo'=min lo b):=by
 intro m;have key:=aC (E:=E) (T:=T) (val:=val) [0,3,4,5] (tO kd);generalize Cd E T val (.loop [0,3,4,5] (tO kd))=W at key ⊢
 induction m with
 | zero =>
  intro i k cur lo hi h1 hk hl hc;have h0:chg (zs.drop (k0+i-1))=0:=by
   have:=tK (zs.drop (k0+i-1));simp only [List.length_drop] at this;omega
  refine ⟨cur,lo,?_,hl,.inl rfl⟩;rw [key,h0];simp [tO,show ¬ ((i:Int)<((zs.length-k0:Nat):Int)) from by omega]
 | succ m ih =>
  intro i k cur lo hi h1 hk hl hc;have hlt:i<zs.length-k0:=by omega
  have e1:=hc (k0+i) (by omega) (by omega);have e0:=hc (k0+i-1) (by omega) (by omega);have hd:=yM (zs:=zs) (i:=k0+i-1) (by omega);have hs:k0+i-1+1=k0+i:=by omega
  simp only [hs] at hd;rw [hd];have hw:=ay (show i<zs.length by omega) hn;have hwk:=ay (show k<zs.length by omega) hn;have hwm:wrap .i64 ((i:Int)-1)=((i-1:Nat):Int):=by rw [wrap64]<;>omega
  have i1:=λh=>uq (b:=b) (o:=k0) (z:=1) (cap:=cap2) (kd:=.i64) (h:=h) hlt;have i0:=λh=>uq (b:=b) (o:=k0) (z:=1) (cap:=cap2) (kd:=.i64) (h:=h) (show i-1<zs.length-k0 by omega);have ik:=λh=>uq (b:=b) (o:=0) (z:=1) (cap:=cap) (kd:=.i64) (h:=h) (show k<zs.length by omega);simp only [Nat.mul_one,show k0+(i-1)=k0+i-1 by omega,Nat.zero_add] at i1 i0 ik;have l1:=BX (lo:=lo) hb e1;have l0:=BX (lo:=lo) hb e0;generalize zs[k0+i]'(by omega)=y at *;generalize zs[k0+i-1]'(by omega)=x at *;by_cases hxy:x=y
  . obtain ⟨cur',lo',k1,k2,k3⟩:=ih (i+1) k cur lo (by omega) (by omega) (by omega) hl hc;refine ⟨cur',lo',?_,k2,k3⟩;rw [key];simp only [hxy,if_true,Nat.zero_add];simp only [show k0+(i+1)-1=k0+i by omega] at k1;subst hxy;simp [tO,i1,i0,l1,l0,iv,hw,hwm,show ((i:Int)<((zs.length-k0:Nat):Int)) from by omega,-oN];simpa using k1
  . have st:=Q4 (lo:=lo) (x:=.int kd y) hb (show k<cur.length by omega);obtain ⟨cur',lo',k1,k2,k3⟩:=ih (i+1) (k+1) (cur.set k (.d (.int kd y))) (min lo b) (by omega) (by omega) (by omega) (by simpa using hl) (by
     intro j hj hkj;rw [ac (by omega)];exact hc j hj (by omega))
    refine ⟨cur',lo',?_,k2,by obtain k3 | k3:=k3<;>omega⟩;rw [key];simp only [hxy,if_false];simp only [show k0+(i+1)-1=k0+i by omega] at k1;have hyx:¬ y=x:=λh=>hxy h.symm;simp [tO,i1,i0,ik,l1,l0,st,iv,hw,hwk,hwm,hyx,show ((i:Int)<((zs.length-k0:Nat):Int)) from by omega,-oN,-KF];rw [show ((k:Int)+(1+(chg (zs.drop (k0+i)):Int)))=((k+1+chg (zs.drop (k0+i)):Nat):Int) by omega];simpa using k1
theorem FE {h:Hp}{ev:X->V}{b n:Nat}{cap:Option Nat}{x:X}{k:Nat}(hx:ev x=.d (i64 k))(hk:k<n)(h1:1<=k):dU h ev .sl 1 (.row b 0 n cap 1) (some x) none none=some (.row b k (n-k) (cap.map (· - k)) 1):=by
 simp only [dU,dH,hx];rw [if_pos (by omega)];simp only [Int.toNat_natCast];rw [if_pos ⟨by omega,by omega,trivial⟩,if_neg (by omega),if_pos hk]; simp
theorem IE {C:Calls'}{bs:List Blk}{b lo:Nat}{cur:List V}(hb:b<bs.length){n k:Nat}{cap:Option Nat}{e:EA}{x:X}{zero:V}(he:x.ea e=.row b k (n-k) cap 1)(hc:cur.length=n)(hk:k<n) :
 ∃ cur',cur'.length=n/\opE C (.clear 1 [zero] x) (X.ea e) (Mr bs b cur lo)=some (.undef,Mr bs b cur' (min lo b)):=by
 have hr:((List.replicate (n-k) [zero]).flatten).length=n-k:=by simp
 have hp:put cur k (List.replicate (n-k) [zero]).flatten=some (cur.take k++(List.replicate (n-k) [zero]).flatten++cur.drop (k+(n-k))):=by
  unfold put;rw [if_pos (by rw [hr]; omega),hr]
 refine ⟨cur.take k++(List.replicate (n-k) [zero]).flatten++cur.drop (k+(n-k)),by simp only [ao,hr,List.length_take,List.length_drop]; omega,?_⟩;have hne:¬ (n-k) * 1=0:=by omega
 simp only [opE,he,if_true,get_eq,Aq hb,if_neg hne,hp];simp [Hp.set,Mr]
theorem IG {bs:List Blk}{b lo:Nat}(hb:b<bs.length){zs:List Int}{cap:Option Nat}(hn:zs.length<2 ^ 62):∀ (m k:Nat),k+m=zs.length->1<=k →
 ∃ cur' lo',(Cd E T val (.loop [0,3] (q8 kd)) [(0,.row b 0 zs.length cap 1),(3,.d (i64 k))] (Mr bs b (zs.map (iv kd)) lo)=some (.ret,[(2,.row b 0 (k+chg (zs.drop (k-1))) cap 1)],Mr bs b cur' lo')/\cur'.length=zs.length/\lo'=min lo b ∨
  Cd E T val (.loop [0,3] (q8 kd)) [(0,.row b 0 zs.length cap 1),(3,.d (i64 k))] (Mr bs b (zs.map (iv kd)) lo)=some (.exit 0,[(0,.row b 0 zs.length cap 1)],Mr bs b (zs.map (iv kd)) lo)/\k+chg (zs.drop (k-1))=zs.length):=by
 intro m;have key:=aC (E:=E) (T:=T) (val:=val) [0,3] (q8 kd);generalize Cd E T val (.loop [0,3] (q8 kd))=W at key ⊢
 induction m with
 | zero =>
  intro k hk h1;have h0:chg (zs.drop (k-1))=0:=by
   have:=tK (zs.drop (k-1));simp only [List.length_drop] at this;omega
  refine ⟨[],0,.inr ⟨?_,by omega⟩⟩;rw [key];simp [q8,show ¬ ((k:Int)<(zs.length:Int)) from by omega]
 | succ m ih =>
  intro k hk h1;have hlt:k<zs.length:=by omega
  have e1:(zs.map (iv kd))[k]?=some (iv kd zs[k]):=by simp [hlt]
  have e0:(zs.map (iv kd))[k-1]?=some (iv kd (zs[k-1]'(by omega))):=by rw [List.getElem?_map,ab (show k-1<zs.length by omega)]; rfl
  have hd:=yM (zs:=zs) (i:=k-1) (by omega);have hs:k-1+1=k:=by omega
  simp only [hs] at hd;have hw:=ay hlt hn;have hwm:wrap .i64 ((k:Int)-1)=((k-1:Nat):Int):=by rw [wrap64]<;>omega
  have i1:=λh=>uq (b:=b) (o:=0) (z:=1) (cap:=cap) (kd:=.i64) (h:=h) hlt;have i0:=λh=>uq (b:=b) (o:=0) (z:=1) (cap:=cap) (kd:=.i64) (h:=h) (show k-1<zs.length by omega);simp only [Nat.mul_one,Nat.zero_add] at i1 i0;have l1:=BX (lo:=lo) hb e1;have l0:=BX (lo:=lo) hb e0;have hin:=MP (E:=E) (T:=T) (val:=val) (kd:=kd) hb (zs:=zs) (cap:=cap) (cap2:=cap.map (· - k)) hn h1 hlt (zs.length-k-1) 1 k (zs.map (iv kd)) lo (by omega) (by omega) (by omega) (by simp) (λj hj _=>by simp [hj]);have hcl:=tK (zs.drop k);simp only [List.length_drop] at hcl;rw [hd];generalize zs[k]'(by omega)=y at *;generalize zs[k-1]'(by omega)=x at *;by_cases hxy:x=y
  . obtain ⟨cur',lo',k1,k2,k3⟩:=hin;simp only [show k+1-1=k by omega] at k1;have hK:k+chg (zs.drop k)<zs.length:=by omega
    generalize hKe:k+chg (zs.drop k)=K at *;obtain ⟨cur2,c1,c2⟩:=IE (C:=Sm E T val) (lo:=lo') hb (cur:=cur') (e:=[(56,.row b K (zs.length-K) (cap.map (· - K)) 1),(55,.d (i64 K)),(54,.row b 0 zs.length cap 1),(0,.row b 0 zs.length cap 1),(3,.d (i64 K))]) (x:=.t 56) (n:=zs.length) (k:=K) (cap:=cap.map (· - K)) (zero:=.d (.int kd 0)) (by simp) k2 hK;have sl1:=λh=>FE (h:=h) (ev:=X.ea [(27,.d (i64 k)),(26,.row b 0 zs.length cap 1),(25,.d (.bool true)),(24,iv kd x),(23,.ptr b (k-1)),(22,.d (i64 (k-1:Nat))),(21,.d (i64 k)),(20,.row b 0 zs.length cap 1),(19,iv kd y),(18,.ptr b k),(17,.d (i64 k)),(16,.row b 0 zs.length cap 1),(13,.d (.bool true)),(12,.d (i64 zs.length)),(11,.row b 0 zs.length cap 1),(10,.d (i64 k)),(0,.row b 0 zs.length cap 1),(3,.d (i64 k))]) (x:=.t 27) (b:=b) (n:=zs.length) (cap:=cap) (k:=k) (by simp) hlt h1;have sl2:=λh=>FE (h:=h) (ev:=X.ea [(55,.d (i64 K)),(54,.row b 0 zs.length cap 1),(0,.row b 0 zs.length cap 1),(3,.d (i64 K))]) (x:=.t 55) (b:=b) (n:=zs.length) (cap:=cap) (k:=K) (by simp) hK (by omega);have sl3:=λh=>zY (h:=h) (ev:=X.ea [(58,.d (i64 K)),(57,.row b 0 zs.length cap 1),(56,.row b K (zs.length-K) (cap.map (· - K)) 1),(55,.d (i64 K)),(54,.row b 0 zs.length cap 1),(0,.row b 0 zs.length cap 1),(3,.d (i64 K))]) (x:=.t 58) (b:=b) (z:=1) (len:=zs.length) (cap:=cap) (n:=K) (by simp) (by omega);refine ⟨cur2,min lo' b,.inl ⟨?_,c1,by obtain k3 | k3:=k3<;>omega⟩⟩;rw [key];simp only [hxy,if_true,Nat.zero_add]
    subst hxy;simp [iv] at sl1;simp [q8,i1,i0,l1,l0,iv,hwm,hlt,sl1,-oN];rw [au];simp at k1;simp [k1,sl2];rw [c2];simp [sl3,hKe]
  . obtain ⟨cur',lo',hh⟩:=ih (k+1) (by omega) (by omega);simp only [show k+1-1=k by omega] at hh;refine ⟨cur',lo',?_⟩;rw [key];have hyx:¬ y=x:=λh=>hxy h.symm;have hadd:k+(1+chg (zs.drop k))=k+1+chg (zs.drop k):=by omega
    simp only [hxy,if_false,hadd];simp [q8,i1,i0,l1,l0,iv,hwm,hw,hlt,hyx,-oN];simpa using hh
theorem vN {id:FuncId}(ht:T id=some (cmpQ kd))(hv:val id=false){zs:List Int}{b:Nat}{cap:Option Nat}{h:Hp}(hb:ah h.bs b=some (zs.map (iv kd)))(hn:zs.length<2 ^ 62) :
 ∃ h',Sm E T val id [.row b 0 zs.length cap 1] h=some (.row b 0 (oD zs) cap 1,h')/\(h'=h\/∃ cur,h'=⟨h.bs.set b (.cells cur),min h.low b⟩):=by
 have hbl:=aB hb;have hset:h.bs.set b (.cells (zs.map (iv kd)))=h.bs:=by
  apply List.ext_getElem?;intro i;by_cases hi:b=i
  . subst hi;rw [List.getElem?_set_self hbl];unfold ah at hb;split at hb
    . rename_i hh; cases hb; exact hh.symm
    . cases hb
  . rw [ac hi]
 have hM:(⟨h.bs,h.bs.length⟩:Hp)=Mr h.bs b (zs.map (iv kd)) h.bs.length:=by simp [Mr,hset]
 rw [aW ht hv,hM];by_cases h2:zs.length<2
 . refine ⟨h,?_,.inl rfl⟩;have:oD zs=zs.length:=by
    match zs,h2 with
    | [],_=>rfl
    | [x],_=>rfl
    | _::_::_,h2=>simp at h2; omega
   simp [cmpQ,ae,show ((zs.length:Int)<2) from by omega,this,V.under,hbl];simp [Mr]
 . have hne:zs≠[]:=by rintro rfl; simp at h2
   obtain ⟨cur',lo',hh | hh⟩:=IG (E:=E) (T:=T) (val:=val) (kd:=kd) (lo:=h.bs.length) (cap:=cap) hbl hn (zs.length-1) 1 (by omega) (by omega)
   . obtain ⟨k1,k2,k3⟩:=hh;have hlo:lo'=b:=by omega
     subst hlo;refine ⟨_,?_,.inr ⟨cur',rfl⟩⟩;simp at k1;simp [cmpQ,ae,show ¬ ((zs.length:Int)<2) from by omega];rw [au];simp [k1,oD,hne,V.under,hbl];simp [Mr,show ¬ (h.bs.length<=lo') from by omega]
   . obtain ⟨k1,k2⟩:=hh;refine ⟨h,?_,.inl rfl⟩;simp at k1 k2;simp [cmpQ,ae,show ¬ ((zs.length:Int)<2) from by omega];rw [au];simp [k1,oD,hne,V.under,hbl,k2];simp [Mr]
end
end
section
open Go.Sort Go.Shelf Go.RowKit
def dW (zs:List Int):List V:=zs.map λz=>.d (.int .i64 z)
def asInt:V->Option Int
 | .d (.int .i64 z)=>some z
 | _=>none
theorem AA {v:V}{z:Int}(h:asInt v=some z):v=.d (.int .i64 z):=by
 unfold asInt at h;split at h
 . cases h; rfl
 . cases h
theorem MJ {cs:List V}{zs:List Int}(h:cs.mapM asInt=some zs):cs=dW zs:=by
 induction cs generalizing zs with
 | nil=>simp at h; subst h; rfl
 | cons c cs ih =>
  simp only [List.mapM_cons,Option.pure_def,Option.bind_eq_bind,Option.bind_eq_some_iff] at h;obtain ⟨z,h1,zs',h2,h3⟩:=h;cases h3;rw [AA h1,ih h2]; rfl
def dm (zs:List Int):List Int:=zs.mergeSort λx y=>decide (x<=y)
def ny (args:List V)(h:Hp):Option (V×Hp):=match args with
 | [.d (.slice true [])]=>some (.tup [],h)
 | [.row b 0 n _ 1]=>if n=0 then some (.tup [],h) else match h.get b with
  | some cs=>match cs.mapM asInt with
   | some zs=>if zs.length=n/\n<=2 ^ 30 then some (.tup [],h.set b (dW (dm zs))) else none
   | none=>none
  | none=>none
 | _=>none
theorem Ey {args:List V}{h:Hp}{r:V}{h':Hp}(hm:ny args h=some (r,h')):LowOk h h':=by
 unfold ny at hm;split at hm
 . cases hm; exact LowOk.refl _
 . split at hm
   . cases hm; exact LowOk.refl _
   . split at hm
     . split at hm
       . split at hm
         . cases hm; exact LowOk.set _ _ _
         . cases hm
       . cases hm
     . cases hm
 . cases hm
variable {P:Program}{ρr:Ren}
theorem Hq (Ly:Lays.n189 P ρr){B:Nat}{ρ:Rh}{h:Hp}{w:World}{args:List V}{vs:Array Value}{r:V}{h':Hp}(hR:Rel B ρ h w)(hv:VRs ρ (St ρ w) w args vs.toList)(hm:ny args h=some (r,h')) :
 Calls P (ρr.f 189) vs w (jR B ρ h w r h'):=by
 have one:∀ {x:V},args=[x]->∃ u,vs=#[u]/\VR ρ (St ρ w) w x u:=by
  rintro x rfl;simp only [VRs] at hv;obtain ⟨u,us,h1,h2,rfl⟩:=hv;refine ⟨u,?_,h2⟩;have:vs.toList=(#[u]:Array Value).toList:=by simpa using h1
  exact Array.toList_inj.1 this
 have none_:∀ {u:Value} {p:Option Addr} {c:Nat},u=.slice p 0 c->r=.tup []->h'=h->vs=#[u]->Calls P (ρr.f 189) vs w (jR B ρ h w r h'):=by
  rintro u p c rfl rfl rfl rfl;refine (Any.slices_Sort_int_none Ly p c w).mono ?_;rintro e w' ⟨rfl,rfl⟩;exact ⟨_,ρ,rfl,hR,Goes.refl _ _ _,by simp only [VRx,VR,VRs]; exact ⟨_,rfl,rfl⟩⟩
 unfold ny at hm;split at hm
 . obtain ⟨u,e1,h2⟩:=one rfl;simp only [VR,DR] at h2;obtain ⟨a,c,rfl,_⟩:=h2;cases hm;exact none_ rfl rfl rfl e1
 . rename_i b n cap;obtain ⟨u,e1,h2⟩:=one rfl;simp only [VR] at h2;obtain ⟨hb,c,rfl,hc1,hc2,_⟩:=h2;split at hm
   . rename_i hn;subst hn;cases hm;exact none_ rfl rfl rfl e1
   . rename_i hn;split at hm
     . rename_i cs hg;split at hm
       . rename_i zs hzs;split at hm
         . rename_i hlen;obtain ⟨hlen,hsmall⟩:=hlen;cases hm;have hcs:=MJ hzs;subst hcs;subst e1;have hne:dW zs≠[]:=λhh=>hn (by rw [← hlen]; have:=congrArg List.length hh; simpa [dW] using this);have hll:(dW zs).length=zs.length:=by simp [dW]
           obtain ⟨arr,el,fz,k1,k2,k3,k4⟩:=fK hR hg hne;obtain ⟨hbl,hbe⟩:=lY hg;have hcell:∀ j (hj:j<zs.length) (hj2:j<arr.size),arr[j]=Value.int .i64 zs[j]:=by
            intro j hj hj2;have:=(k4 j (by omega) hj2).1;simpa [dW,VR,DR] using this
           have hH:Holds (Value.int .i64) w (ρ b) 0 zs.toArray:=by
            intro j hj;have hj':j<zs.length:=by simpa using hj
            have hj2:j<arr.size:=by omega
            refine ⟨?_,by simpa using k3 j hj2⟩;have:zs.toArray[j]! = zs[j]:=by rw [getElem!_pos _ j hj]; simp
            rw [this];simp [World.cell?,k1,hj2,hcell j hj' hj2]
           have hlt:=(hR.lo b hb).2;subst hlen;refine (Any.slices_Sort_int Ly (ρ b) 0 c zs w hH hlt (by omega)).mono ?_;rintro e w' ⟨rfl,nn,os,rfl⟩;have hlive:h.bs[b].live=true:=by
            rw [hbe];cases hh:dW zs with
            | nil=>exact absurd hh hne
            | cons _ _=>rfl
           have hsl:(dm zs).length=zs.length:=List.length_mergeSort _
           let w1:=putRow (Value.int .i64) (Sort.ahead w nn) (ρ b) 0 (dm zs).toArray
           have hheap:w1.heap=w.heap.modify (ρ b) (onCells (putCells (Value.int .i64) 0 (dm zs).toArray)):=rfl;have hsz:w1.heap.size=w.heap.size:=by rw [hheap]; simp
           have hoth:∀ k,k≠ρ b->w1.heap[k]?=w.heap[k]?:=λk hk=>by
            rw [hheap,Array.getElem?_modify,if_neg (Ne.symm hk)]
           have hat:w1.heap[ρ b]?=some (.cells (putCells (Value.int .i64) 0 (dm zs).toArray arr) el fz):=by
            rw [hheap,Array.getElem?_modify,if_pos rfl,k1]; rfl
           have hps:(putCells (Value.int .i64) 0 (dm zs).toArray arr).size=arr.size:=by simp [putCells]
           have hown:∀ arr' e' fz',w.heap[ρ b]?=some (.cells arr' e' fz')->∃ arr'' fz'',w1.heap[ρ b]?=some (.cells arr'' e' fz'')/\arr''.size=arr'.size:=by
            intro arr' e' fz' hh;rw [k1] at hh;cases hh;exact ⟨_,_,hat,hps⟩
           have hbr:BR ρ w1 (ρ b) (.cells (dW (dm zs))):=by
            have hl2:(dW (dm zs)).length=zs.length:=by simp [dW,hsl]
            have hne2:dW (dm zs)≠[]:=λhh=>by
             rw [hh] at hl2; exact hn hl2.symm
            have core:∃ arr' e' fz',w1.heap[ρ b]?=some (.cells arr' e' fz')/\(dW (dm zs)).length<=arr'.size/\(∀ j,j<arr'.size->w1.frozen? ⟨ρ b,j,none⟩=false) ∧
             ∀ (j:Nat) (h1:j<(dW (dm zs)).length) (h2:j<arr'.size),VR ρ (St ρ w1) w1 (dW (dm zs))[j] arr'[j]/\arr'[j].oneCell'=true:=by
             refine ⟨_,_,_,hat,by rw [hps,hl2,← hll]; exact k2,λj hj=>?_,λj h1 h2=>?_⟩
             . have:=k3 j (by rw [← hps]; exact hj);rw [← this];exact frozen?_mapBlock (Sort.ahead w nn) (ρ b) _ _
             . have hj:j<(dm zs).length:=by rw [hsl]; omega
               have hv:(putCells (Value.int .i64) 0 (dm zs).toArray arr)[j]=Value.int .i64 (dm zs)[j]:=by
                simp only [putCells,Array.getElem_mapIdx];rw [if_pos ⟨Nat.zero_le _,by simpa using hj⟩];simp [getElem!_pos,hj]
               rw [hv];exact ⟨by simp [dW,VR,DR],rfl⟩
            revert core hne2
            cases dW (dm zs) with
            | nil=>intro hne2 _; exact absurd rfl hne2
            | cons x xs=>intro _ core; simpa only [BR] using core
           have q1:=p9 hR hbl hlive hsz hoth hown rfl rfl rfl (.cells (dW (dm zs))) hbr (min h.low b);have q2:=jO hR (hR.live b hbl hlive) hsz hoth hown rfl rfl rfl;have hbel:Below w1.heap.size w1 (grow w1 os):=⟨rfl,rfl,rfl,by simp [grow],λk hk=>by simp [grow,Array.getElem?_append_left hk]⟩;obtain ⟨q3,q4⟩:=qo q1 hbel;exact ⟨_,ρ,rfl,q3,q2.trans q4,by simp only [VRx,VR,VRs]; exact ⟨_,rfl,rfl⟩⟩
         . cases hm
       . cases hm
     . cases hm
 . cases hm
end
section
def Inr (k:IntKind)(n:Int):Prop:=(Lit.int k n).wf=true
def Pod.wf (B:Nat)(p:Pod):Prop:=Inr .u64 p.uid/\p.ns.size<=B/\p.sa.size<=B/\Inr .i64 p.host/\Inr .u32 p.addr/\Inr .i64 p.port/\Inr .u64 p.service
def Svc.wf (B:Nat)(p:Svc):Prop:=Inr .u64 p.id/\p.ns.size<=B/\Inr .u32 p.addr/\Inr .i64 p.port/\Inr .u64 p.way
def Way.wf (B:Nat)(p:Way):Prop:=Inr .u64 p.id/\Inr .i64 p.node
def Term.wf (B:Nat)(p:Term):Prop:=Inr .i64 p.kind/\p.text.size<=B
def Cidr.wf (B:Nat)(p:Cidr):Prop:=Inr .u32 p.addr/\Inr .i64 p.bits
def Lc (B:Nat)(n:Int):Prop:=Inr .i64 n
def Sl.wf {α:Type}(B:Nat)(f:Nat->α->Prop)(s:Sl α):Prop:=fit B s/\∀ x∈s.l,f B x
def Source.wf (B:Nat)(p:Source):Prop:=p.names.wf B Term.wf/\p.spaces.wf B Term.wf/\p.nets.wf B Cidr.wf
def Target.wf (B:Nat)(p:Target):Prop:=p.ports.wf B Lc/\p.methods.wf B Term.wf/\p.paths.wf B Term.wf/\p.hosts.wf B Term.wf
def When.wf (B:Nat)(p:When):Prop:=p.head.size<=B/\p.terms.wf B Term.wf
def Rule.wf (B:Nat)(p:Rule):Prop:=p.frm.wf B Source.wf/\p.to.wf B Target.wf/\p.whn.wf B When.wf
def Pol.wf (B:Nat)(p:Pol):Prop:=Inr .u64 p.id/\p.ns.size<=B/\Inr .u64 p.service/\Inr .i64 p.deny/\p.rules.wf B Rule.wf
def Cfg.wf (B:Nat)(c:Cfg):Prop:=Inr .u64 c.epoch/\Inr .u64 c.next/\Inr .i64 c.hosts/\Inr .i64 c.ways/\c.pods.wf B Pod.wf/\c.services.wf B Svc.wf/\c.bound.wf B Way.wf/\c.policies.wf B Pol.wf
theorem Source.wf.fits {B:Nat}{s:Source}(h:s.wf B):s.fits B:=⟨h.1.1,h.2.1.1,h.2.2.1⟩
theorem Target.wf.fits {B:Nat}{s:Target}(h:s.wf B):s.fits B:=⟨h.1.1,h.2.1.1,h.2.2.1.1,h.2.2.2.1⟩
theorem When.wf.fits {B:Nat}{s:When}(h:s.wf B):s.fits B:=h.2.1
theorem Rule.wf.fits {B:Nat}{s:Rule}(h:s.wf B):s.fits B:=⟨⟨h.1.1,λx hx=>(h.1.2 x hx).fits⟩,⟨h.2.1.1,λx hx=>(h.2.1.2 x hx).fits⟩,h.2.2.1,λx hx=>(h.2.2.2 x hx).fits⟩
theorem Pol.wf.fits {B:Nat}{s:Pol}(h:s.wf B):s.fits B:=⟨h.2.2.2.2.1,λx hx=>(h.2.2.2.2.2 x hx).fits⟩
theorem Cfg.wf.fits {B:Nat}{c:Cfg}(h:c.wf B):c.fits B:=⟨h.2.2.2.2.1.1,h.2.2.2.2.2.1.1,h.2.2.2.2.2.2.1.1,h.2.2.2.2.2.2.2.1,λx hx=>(h.2.2.2.2.2.2.2.2 x hx).fits⟩
theorem fit.le {α:Type}{B B':Nat}{s:Sl α}(hB:B<=B')(h:fit B s):fit B' s:=⟨cj h.1 hB,h.2⟩
theorem Source.fits.le {B B':Nat}(hB:B<=B'){s:Source}(h:s.fits B):s.fits B':=⟨h.1.le hB,h.2.1.le hB,h.2.2.le hB⟩
theorem Target.fits.le {B B':Nat}(hB:B<=B'){s:Target}(h:s.fits B):s.fits B':=⟨h.1.le hB,h.2.1.le hB,h.2.2.1.le hB,h.2.2.2.le hB⟩
theorem When.fits.le {B B':Nat}(hB:B<=B'){s:When}(h:s.fits B):s.fits B':=fit.le hB h
theorem Rule.fits.le {B B':Nat}(hB:B<=B'){s:Rule}(h:s.fits B):s.fits B':=⟨⟨h.1.1.le hB,λx hx=>(h.1.2 x hx).le hB⟩,⟨h.2.1.1.le hB,λx hx=>(h.2.1.2 x hx).le hB⟩,h.2.2.1.le hB,λx hx=>When.fits.le hB (h.2.2.2 x hx)⟩
theorem Pol.fits.le {B B':Nat}(hB:B<=B'){s:Pol}(h:s.fits B):s.fits B':=⟨h.1.le hB,λx hx=>(h.2 x hx).le hB⟩
theorem Cfg.fits.le {B B':Nat}(hB:B<=B'){c:Cfg}(h:c.fits B):c.fits B':=⟨h.1.le hB,h.2.1.le hB,h.2.2.1.le hB,h.2.2.2.1.le hB,λx hx=>(h.2.2.2.2 x hx).le hB⟩
theorem Cfg.wf.ok {B:Nat}{c:Cfg}(h:c.wf B)(hB:B<=big):c.ok:=h.fits.le hB
end
section
noncomputable def E1:Calls':=λf args h=>match Nat.beq f 345 with
 | true=>ny args h
 | false=>Sm (λ_ _ _=>none) TT aD f args h
def be8:List (Nat×QF):=[(259,GU),(344,OI),(347,ax2)]
def TP:FuncId->Option QF:=gI be8
def ol (f:FuncId):Bool:=Nat.beq 259 f
theorem NE:TP 259=some GU:=rfl
theorem ND:TP 344=some (cloneQ 1 8 [(.d (.int .i64 0))]):=by kernel_rfl
theorem NF:TP 347=some (cmpQ .i64):=by kernel_rfl
theorem am7:TP 345=none:=rfl
theorem am6:TP 339=none:=rfl
theorem am8:TP 346=none:=rfl
theorem M7 {args:List V}{h:Hp}:Sm E1 TP ol 345 args h=ny args h:=by rw [aO am7]; rfl
theorem FN {args:List V}{h:Hp}:Sm E1 TP ol 339 args h=Sm (λ_ _ _=>none) TT aD 339 args h:=by rw [aO am6]; rfl
theorem FO {args:List V}{h:Hp}:Sm E1 TP ol 346 args h=Sm (λ_ _ _=>none) TT aD 346 args h:=by rw [aO am8]; rfl
variable {E:Calls'}
def jT (n:Int):Bool:=decide (n>=1)&&decide (n<=65535)
theorem bh4:TT 384=some (anyQ 413):=bd6
theorem bi0:TT 413=some idx1Q:=be5
theorem bh5:TT 385=some not1Q:=bd7
theorem bg5:TT 346=some (allQ 384 385):=bc4
theorem Mq (s:Sl Int)(hs:short s)(h:Hp):Sm E TT aD 346 [.d (i64 6),.d (s.d gq),.fn 306 []] h=some (bl (decide ((s.l.length:Int)<=6)&&s.l.all jT),h) :=
 Ms (cell:=λn=>i64 n) bi0 bo3 bh4 bn4 bh5 bn5 bg5 bm2 hs (λe he h=>Zn e h) h
def bq (t:Target):Bool:=(bf t.methods&&(bf t.paths&&(bf t.hosts&&true)))&&(decide ((t.ports.l.length:Int)<=6)&&t.ports.l.all jT)&&((oD (dm t.ports.l):Int)==(t.ports.l.length:Int))
theorem ve {T:FuncId->Option QF}{val:FuncId->Bool}{kd:IntKind}{id:FuncId}(ht:T id=some (cmpQ kd))(hv:val id=false)(h:Hp):Sm E T val id [.d (.slice true [])] h=some (.d (.slice true []),h):=by
 rw [aW ht hv];simp [cmpQ,ae,V.under]
theorem ui {h:Hp}{b n:Nat}{cap:Option Nat}{ds:List D}(hb:ah h.bs b=some (ds.map .d))(hn:n=ds.length):frz h (.row b 0 n cap 1)=some (.d (.slice false (ds.map λd=>[d]))):=by
 have h1:ah h.bs b=some (flat (ds.map λd=>[d])++[]):=by
  have hf:∀ l:List D,(l.map λd=>[d]).flatten=l:=by
   intro l
   induction l with
   | nil=>rfl
   | cons d l ih=>simp only [ct,List.flatten_cons,ih]; rfl
  rw [hb,List.append_nil,flat,hf]
 have:=iC (h:=h) (k:=7) (b:=b) (n:=n) (cap:=cap) (z:=1) (es:=ds.map λd=>[d]) (rest:=[]) (by simp) (by simpa using hn) h1;simp only [frz,jk,this]
def pY (t:Target):Bool:=bf t.methods&&(bf t.paths&&(bf t.hosts&&true))
def jG (t:Target):Bool:=decide ((t.ports.l.length:Int)<=6)&&t.ports.l.all jT
theorem Mj (t:Target)(ht:t.wf big)(b:Nat)(cap:Option Nat)(h:Hp)(hb:ah h.bs b=some [.d (t.methods.d Term.c),.d (t.paths.d Term.c),.d (t.hosts.d Term.c)]):Sm E TT aD 339 [.row b 0 3 cap 1] h=some (bl (pY t),h):=by
 refine Mo [t.methods,t.paths,t.hosts] (by simp) ?_ _ h (ui (ds:=[t.methods.d Term.c,t.paths.d Term.c,t.hosts.d Term.c]) hb rfl)
 . intro s hs;simp only [List.mem_cons,List.not_mem_nil,or_false] at hs;obtain rfl | rfl | rfl:=hs
   . exact ⟨ht.2.1.1,λx hx=>(ht.2.1.2 x hx).2⟩
   . exact ⟨ht.2.2.1.1,λx hx=>(ht.2.2.1.2 x hx).2⟩
   . exact ⟨ht.2.2.2.1,λx hx=>(ht.2.2.2.2 x hx).2⟩
theorem EY (t:Target)(ht:t.wf big)(hl:t.ports.l=[])(hnl:t.ports.nl=true)(h:Hp):Sm E1 TP ol 259 [ag t.c] h=some (bl (bq t),h):=by
 have hp:t.ports.d gq=.slice true []:=by simp [Sl.d,hl,hnl]
 have c1:=λh=>lI (E:=E1) (T:=TP) (val:=ol) ND rfl (by decide) (by decide) (nl:=true) (es:=[]) (by simp) (by simp) h;have c3:=λh=>ve (E:=E1) (T:=TP) (val:=ol) NF rfl h;have c2:∀ h,ny [.d (.slice true [])] h=some (.tup [],h):=λ_=>rfl;have r1:=λb cap h hb=>Mj (E:=λ_ _ _=>none) t ht b cap h hb;have a1:=λh=>Mq (E:=λ_ _ _=>none) t.ports ht.1.1 h;rw [← hp] at c1;have hlen:t.ports.l.length=0:=by rw [hl]; rfl
 rw [aY NE rfl];have hT:bq t=(pY t&&jG t&&true):=by simp [bq,pY,jG,hl,oD,dm]
 rw [hT];simp [ae,GU,c1,bS,M7,c2];cases hR:pY t<;>cases hP:jG t;all_goals
  simp only [hR] at r1;have a2:=hP;unfold jG at a2;simp only [a2] at a1;simp +decide [aA,aa,FN,FO,r1,a1,c3,aN,aM,hlen]
theorem Dr (l:List Int):flat (l.map gq)=dW l:=by
 simp only [flat,dW]
 induction l with
 | nil=>rfl
 | cons x l ih=>simp only [ct,List.flatten_cons,List.map_append,ih]; rfl
theorem Dz (l:List Int):(dW l).mapM asInt=some l:=by
 induction l with
 | nil=>rfl
 | cons x l ih =>
  simp only [dW,ct,List.mapM_cons] at ih ⊢;simp [ih,asInt]
theorem EB (l:List Int):(dm l).length=l.length:=List.length_mergeSort _
theorem Ar (t:Target)(ht:t.wf big)(hl:t.ports.l=[])(hnl:t.ports.nl=false)(h:Hp):Sm E1 TP ol 259 [ag t.c] h=some (bl (bq t),h):=by
 have hp:t.ports.d gq=.slice false []:=by simp [Sl.d,hl,hnl]
 have c1:=λh=>lI (E:=E1) (T:=TP) (val:=ol) ND rfl (by decide) (by decide) (nl:=false) (es:=[]) (by simp) (by simp) h;have c3:=vN (E:=E1) (T:=TP) (val:=ol) NF rfl (zs:=[]) (b:=1) (cap:=some 0) (h:=⟨[.cells (t.c.map .d),.cells [],.cells [.d (t.methods.d Term.c),.d (t.paths.d Term.c),.d (t.hosts.d Term.c)]],3⟩) (by simp) (by simp);have c2:∀ b c h,ny [.row b 0 0 c 1] h=some (.tup [],h):=λ_ _ _=>rfl;have r1:=λb cap h hb=>Mj (E:=λ_ _ _=>none) t ht b cap h hb;have a1:=λh=>Mq (E:=λ_ _ _=>none) t.ports ht.1.1 h;rw [← hp] at c1;have hlen:t.ports.l.length=0:=by rw [hl]; rfl
 rw [aY NE rfl];have hT:bq t=(pY t&&jG t&&true):=by simp [bq,pY,jG,hl,oD,dm]
 rw [hT];obtain ⟨h',c3,c4⟩:=c3;simp [oD] at c3;simp [ae,GU,c1,bS,M7,c2];cases hR:pY t<;>cases hP:jG t;all_goals
  simp only [hR] at r1;have a2:=hP;unfold jG at a2;simp only [a2] at a1;obtain rfl | ⟨cur,rfl⟩:=c4<;>first | (simp +decide [aA,aa,FN,FO,r1,a1,c3,aN,aM,hlen]; done) | (simp +decide [aA,aa,FN,FO,r1,a1,c3,aN,aM,hlen]; rw [if_pos (sZ (by rfl))]; simp)
theorem De (t:Target)(ht:t.wf big)(hl:t.ports.l≠[])(h:Hp):Sm E1 TP ol 259 [ag t.c] h=some (bl (bq t),h):=by
 have hnl:t.ports.nl=false:=by
  cases hh:t.ports.nl with
  | false=>rfl
  | true=>exact absurd (ht.1.1.2 hh) hl
 have hsl:=EB t.ports.l;have hne0:¬ t.ports.l.length=0:=by simpa using hl
 have hlb:t.ports.l.length<=big:=ht.1.1.1;have hp:t.ports.d gq=.slice false (t.ports.l.map gq):=by simp [Sl.d,hnl]
 have c1:∀ h,Sm E1 TP ol 344 [.d (t.ports.d gq)] h=some (.row (h.bs.length+1) 0 t.ports.l.length none 1,⟨h.bs++[.cells [],.cells (dW t.ports.l)],min h.low h.bs.length⟩):=by
  intro h;have:=lI (E:=E1) (T:=TP) (val:=ol) ND rfl (by decide) (by decide) (nl:=false) (es:=t.ports.l.map gq) (by simp [gq]) (by simpa using hlb) h;rw [hp,this];have hf:=Dr t.ports.l
  revert hf hl
  cases t.ports.l with
  | nil=>intro hl; exact absurd rfl hl
  | cons x l =>
   intro _ hf;simp only [ct] at hf;simp [bS,hf]
 have c2:∀ lo,ny [.row 2 0 t.ports.l.length none 1] ⟨[.cells (t.c.map .d),.cells [],.cells (dW t.ports.l)],lo⟩=some (.tup [],⟨[.cells (t.c.map .d),.cells [],.cells (dW (dm t.ports.l))],min lo 2⟩):=by
  intro lo;simp only [ny,if_neg hne0,get_eq,Dv,Dw,Dz];rw [if_pos ⟨trivial,hlb⟩];rfl
 have c3:=vN (E:=E1) (T:=TP) (val:=ol) NF rfl (zs:=dm t.ports.l) (b:=2) (cap:=none) (h:=⟨[.cells (t.c.map .d),.cells [],.cells (dW (dm t.ports.l)),.cells [.d (t.methods.d Term.c),.d (t.paths.d Term.c),.d (t.hosts.d Term.c)]],4⟩) (by simp; rfl) (by rw [hsl]; exact ch hlb (by decide));have r1:=λb cap h hb=>Mj (E:=λ_ _ _=>none) t ht b cap h hb;have a1:=λh=>Mq (E:=λ_ _ _=>none) t.ports ht.1.1 h;rw [aY NE rfl];have hT:bq t=(pY t&&jG t&&((oD (dm t.ports.l):Int)==(t.ports.l.length:Int))):=rfl;rw [hT];obtain ⟨h',c3,c4⟩:=c3;rw [hsl] at c3;generalize oD (dm t.ports.l)=K at *;generalize dW (dm t.ports.l)=Z at *;generalize dW t.ports.l=Z0 at *;simp [ae,GU,c1,M7,c2];cases hR:pY t<;>cases hP:jG t;all_goals
  simp only [hR] at r1;have a2:=hP;unfold jG at a2;simp only [a2] at a1;obtain rfl | ⟨cur,rfl⟩:=c4<;>first | (simp +decide [aA,aa,FN,FO,r1,a1,c3,aN,aM]; done) | (simp +decide [aA,aa,FN,FO,r1,a1,c3,aN,aM]; rw [if_pos (sZ (by rfl))]; simp)
theorem Rb (t:Target)(ht:t.wf big)(h:Hp):Sm E1 TP ol 259 [ag t.c] h=some (bl (bq t),h):=by
 by_cases hl:t.ports.l=[]
 . cases hnl:t.ports.nl with
   | true=>exact EY t ht hl hnl h
   | false=>exact Ar t ht hl hnl h
 . exact De t ht hl h
end
section
variable {E:Calls'}
theorem bh0:TT 379=some (anyQ 403):=bd2
theorem bh9:TT 403=some (idxQ 2):=be4
theorem bh2:TT 380=some (notQ 2):=bd3
theorem bg2:TT 340=some (allQ 379 380):=bb6
theorem bg0:TT 337=some (anyQ 375):=ba9
theorem bg8:TT 375=some (idxQ 3):=bc8
theorem bg1:TT 338=some (notQ 3):=bb4
theorem bf6:TT 256=some (allQ 337 338):=ba3
theorem bg3:TT 342=some (anyQ 382):=bb8
theorem bh3:TT 382=some (idxQ 4):=bd5
theorem bg4:TT 343=some (notQ 4):=bb9
theorem bf7:TT 258=some (allQ 342 343):=ba5
theorem bg6:TT 348=some (anyQ 386):=bc5
theorem bh6:TT 386=some (idxQ 2):=bd8
theorem bg7:TT 349=some (notQ 2):=bc6
theorem bf8:TT 260=some (allQ 348 349):=ba6
theorem bf4:TT 254=some (anyQ 336):=ba1
theorem bf9:TT 336=some (idxQ 3):=ba8
theorem bf5:TT 255=some (notQ 3):=ba2
theorem bf3:TT 190=some (allQ 254 255):=az6
theorem al4:TT 259=none:=by kernel_rfl
def mF (s:Sl Cidr):Bool:=decide ((s.l.length:Int)<=6)&&s.l.all gM
theorem ZI (s:Sl Cidr)(hs:short s)(h:Hp):Sm E TT aD 340 [.d (i64 6),.d (s.d Cidr.c),.fn 341 []] h=some (bl (mF s),h) :=
 yu (cells:=Cidr.c) bh9 bo2 bh0 bn0 bh2 bn1 bg2 bl8 (λ_=>rfl) hs (λe he h=>ZJ e h) h
def cK (s:Source):Bool:=(bf s.names&&(bf s.spaces&&true))&&mF s.nets
theorem ZC (s:Source)(hs:s.wf big)(h:Hp):Sm E TT aD 257 [ag s.c] h=some (bl (cK s),h):=by
 have r1:∀ b cap h,ah h.bs b=some [.d (s.names.d Term.c),.d (s.spaces.d Term.c)]->Sm E TT aD 339 [.row b 0 2 cap 1] h=some (bl ([s.names,s.spaces].all bf),h):=by
  intro b cap h hb;refine Mo [s.names,s.spaces] (by simp) ?_ _ h (ui (ds:=[s.names.d Term.c,s.spaces.d Term.c]) hb rfl);intro x hx;simp only [List.mem_cons,List.not_mem_nil,or_false] at hx;obtain rfl | rfl:=hx
  . exact ⟨hs.1.1,λx hx=>(hs.1.2 x hx).2⟩
  . exact ⟨hs.2.1.1,λx hx=>(hs.2.1.2 x hx).2⟩
 have a1:=λh=>ZI (E:=E) s.nets hs.2.2.1 h;have hT:cK s=([s.names,s.spaces].all bf&&mF s.nets):=rfl;rw [hT];generalize [s.names,s.spaces].all bf=A at *;generalize mF s.nets=B at *;rw [aY ba4 bk9];cases A<;>simp +decide [ae,OJ,aA,aa,r1,a1,aN,aM]
def fZ (w:When):Bool:=jl w.head&&(bf w.terms&&true)&&decide ((w.terms.l.length:Int)>0)
theorem ZE (w:When)(hw:w.wf big)(h:Hp):Sm E TT aD 261 [ag w.c] h=some (bl (fZ w),h):=by
 have r1:∀ b cap h,ah h.bs b=some [.d (w.terms.d Term.c)]->Sm E TT aD 339 [.row b 0 1 cap 1] h=some (bl ([w.terms].all bf),h):=by
  intro b cap h hb;refine Mo [w.terms] (by simp) ?_ _ h (ui (ds:=[w.terms.d Term.c]) hb rfl);intro x hx;simp only [List.mem_cons,List.not_mem_nil,or_false] at hx;subst hx;exact ⟨hw.2.1,λx hx=>(hw.2.2 x hx).2⟩
 have a1:=λh=>ZK (E:=E) w.head hw.1 h;have hT:fZ w=(jl w.head&&[w.terms].all bf&&decide ((w.terms.l.length:Int)>0)):=rfl;rw [hT];generalize [w.terms].all bf=A at *;generalize jl w.head=B at *;rw [aY ba7 bl3];cases B<;>cases A<;>simp +decide [ae,OL,aA,aa,r1,a1,aN,aM]
def eX (r:Rule):Bool:=(decide ((r.frm.l.length:Int)<=3)&&r.frm.l.all cK)&&(decide ((r.to.l.length:Int)<=3)&&r.to.l.all bq)&&(decide ((r.whn.l.length:Int)<=3)&&r.whn.l.all fZ)
section
variable (h385:∀ t:Target,t.wf big->∀ h,E 259 [ag t.c] h=some (bl (bq t),h))
include h385
theorem Rc (t:Target)(ht:t.wf big)(h:Hp):Sm E TT aD 259 [ag t.c] h=some (bl (bq t),h):=by rw [aO al4]; exact h385 t ht h
theorem Zy (r:Rule)(hr:r.wf big)(h:Hp):Sm E TT aD 191 [ag r.c] h=some (bl (eX r),h):=by
 have k1:=λh=>yu (E:=E) (T:=TT) (val:=aD) (cells:=Source.c) bg8 bm6 bg0 bl5 bg1 bl6 bf6 bk8 (λ_=>rfl) (s:=r.frm) hr.1.1 (m:=3) (f:=257) (p:=cK) (λe he h=>ZC e (hr.1.2 e he) h) h;have k2:=λh=>yu (E:=E) (T:=TT) (val:=aD) (cells:=Target.c) bh3 bn3 bg3 bm0 bg4 bm1 bf7 bl0 (λ_=>rfl) (s:=r.to) hr.2.1.1 (m:=3) (f:=259) (p:=bq) (λe he h=>Rc h385 e (hr.2.1.2 e he) h) h;have k3:=λh=>yu (E:=E) (T:=TT) (val:=aD) (cells:=When.c) bh6 bn6 bg6 bm3 bg7 bm4 bf8 bl1 (λ_=>rfl) (s:=r.whn) hr.2.2.1 (m:=3) (f:=261) (p:=fZ) (λe he h=>ZE e (hr.2.2.2 e he) h) h;unfold eX;generalize (decide ((r.frm.l.length:Int)<=3)&&r.frm.l.all cK)=A at *;generalize (decide ((r.to.l.length:Int)<=3)&&r.to.l.all bq)=B at *;generalize (decide ((r.whn.l.length:Int)<=3)&&r.whn.l.all fZ)=C at *;rw [aY az7 bk0];cases A<;>cases B<;>simp +decide [ae,Oz,aA,aa,k1,k2,k3,aM]
def df (p:Pol):Bool:=decide (p.id>=1)&&decide (p.id<=4611686018427387903)&&(eqS p.ns ⟨#[]⟩||gW p.ns)&&decide (p.service<=4611686018427387903)&&((p.deny==0)||(p.deny==1))&&(decide ((p.rules.l.length:Int)<=6)&&p.rules.l.all eX)
theorem Ra (p:Pol)(hp:p.wf big)(h:Hp):Sm E TT aD 117 [ag p.c] h=some (bl (df p),h):=by
 have k1:=λh=>yu (E:=E) (T:=TT) (val:=aD) (cells:=Rule.c) bf9 bl4 bf4 bk6 bf5 bk7 bf3 bj9 (λ_=>rfl) (s:=p.rules) hp.2.2.2.2.1 (m:=6) (f:=191) (p:=eX) (λe he h=>Zy h385 e (hp.2.2.2.2.2 e he) h) h;have k2:=λh=>Zo (E:=E) p.ns hp.2.1 h;unfold df;generalize (decide ((p.rules.l.length:Int)<=6)&&p.rules.l.all eX)=A at *;generalize gW p.ns=B at *;have ho:eqS p.ns ⟨#[]⟩=eqS p.ns ⟨#[]⟩:=rfl;rw [aY ay6 bi9];by_cases c1:p.id>=1
 case neg=>simp +decide [ae,uJ,aA,aa,aM,c1]
 by_cases c2:p.id<=4611686018427387903
 case neg=>simp +decide [ae,uJ,aA,aa,aM,c1,c2]
 cases c3:eqS p.ns ⟨#[]⟩
 case false =>
  cases B
  case false=>simp +decide [ae,uJ,aA,aa,aM,c1,c2,c3,k2]
  by_cases c4:p.service<=4611686018427387903
  case neg=>simp +decide [ae,uJ,aA,aa,aM,c1,c2,c3,k2,c4]
  by_cases c5:p.deny=0
  case pos=>simp +decide [ae,uJ,aA,aa,aM,c1,c2,c3,k2,c4,c5,k1]
  by_cases c6:p.deny=1<;>simp +decide [ae,uJ,aA,aa,aM,c1,c2,c3,k2,c4,c5,c6,k1]
 case true =>
  by_cases c4:p.service<=4611686018427387903
  case neg=>simp +decide [ae,uJ,aA,aa,aM,c1,c2,c3,k2,c4]
  by_cases c5:p.deny=0
  case pos=>simp +decide [ae,uJ,aA,aa,aM,c1,c2,c3,k2,c4,c5,k1]
  by_cases c6:p.deny=1<;>simp +decide [ae,uJ,aA,aa,aM,c1,c2,c3,k2,c4,c5,c6,k1]
end
end
section
variable {E:Calls'}
end
section
variable {E:Calls'}
end
section
variable {E:Calls'}
end
section
variable {E:Calls'}
end
section
variable {E:Calls'}
end
section
def Cu (x:V)(h:Hp):Option (V×Hp):=match x with
 | .ptr b o=>some (.ptr b o,h)
 | .eptr cs o=>some (.eptr cs o,h)
 | .fn f cs=>some (.fn f cs,h)
 | .mfn f cs=>some (.mfn f cs,h)
 | _=>none
section
variable {C:Calls'}{ev:X->V}{h:Hp}
@[simp] theorem NC {x:X}:opE C (.nilchk x) ev h=Cu (ev x) h:=(rfl)
@[simp] theorem Nt {b o:Nat}:Cu (.ptr b o) h=some (.ptr b o,h):=(rfl)
@[simp] theorem XI {b o:Nat}{neg:Bool}:eqv .ptr neg (.ptr b o) (.d .nilp) h=some (.d (.bool (false != neg)),h):=(rfl)
end
end
section
variable {E:Calls'}
def lenTab:ByteArray:=⟨#[0,1,2,2,3,3,3,3,4,4,4,4,4,4,4,4,5,5,5,5,5,5,5,5,5,5,5,5,5,5,5,5,6,6,6,6,6,6,6,6,6,6,6,6,6,6,6,6,6,6,6,6,6,6,6,6,6,6,6,6,6,6,6,6,7,7,7,7,7,7,7,7,7,7,7,7,7,7,7,7,7,7,7,7,7,7,7,7,7,7,7,7,7,7,7,7,7,7,7,7,7,7,7,7,7,7,7,7,7,7,7,7,7,7,7,7,7,7,7,7,7,7,7,7,7,7,7,7,8,8,8,8,8,8,8,8,8,8,8,8,8,8,8,8,8,8,8,8,8,8,8,8,8,8,8,8,8,8,8,8,8,8,8,8,8,8,8,8,8,8,8,8,8,8,8,8,8,8,8,8,8,8,8,8,8,8,8,8,8,8,8,8,8,8,8,8,8,8,8,8,8,8,8,8,8,8,8,8,8,8,8,8,8,8,8,8,8,8,8,8,8,8,8,8,8,8,8,8,8,8,8,8,8,8,8,8,8,8,8,8,8,8,8,8,8,8,8,8,8,8,8,8,8,8,8,8]⟩
def lenL:List UInt8:=lenTab.data.toList
theorem Gl:lenL.length=256:=by decide +kernel
theorem Ba:lenL.all (λb=>decide (b.toNat<=8))=true:=by decide +kernel
def lenT (i:Nat):Int:=match lenL[i]? with
 | some b=>b.toNat
 | none=>0
theorem I9 (i:Nat):0<=lenT i/\lenT i<=8:=by
 unfold lenT;split
 . rename_i b hb;have:=cn.1 Ba b (cf hb);simp at this;omega
 . omega
theorem Xe (n:Int):0<=wrap .u8 n/\wrap .u8 n<256:=by
 simp [wrap,IntKind.bits,IntKind.signed];omega
theorem Nq {n:Int}{h:Hp}:rC (.d (.str lenTab)) (.d (.int .u8 (wrap .u8 n))) h=some (.d (.int .u8 (lenT (wrap .u8 n).toNat)),h):=by
 obtain ⟨h0,h1⟩:=Xe n;generalize wrap .u8 n=m at *;have hlt:m.toNat<lenL.length:=by rw [Gl]; omega
 have hb:lenTab.toList[m.toNat]?=some lenL[m.toNat]:=by rw [bL]; exact ab hlt
 simp only [rC,if_pos h0,hb,lenT,ab hlt]
def uw (x:Int):Int:=if x>=4294967296 then x.fdiv 4294967296 else x
def w9 (x:Int):Int:=if x>=65536 then x.fdiv 65536 else x
def A9 (x:Int):Int:=if x>=256 then x.fdiv 256 else x
def lD (x:Int):Int:=(if x>=4294967296 then 32 else 0)+(if uw x>=65536 then 16 else 0)+(if w9 (uw x)>=256 then 8 else 0)+lenT (wrap .u8 (A9 (w9 (uw x)))).toNat
theorem Nl (x:Int):(x>=4294967296/\dP .shr (.d (.int .u64 x)) (.d (.int .u64 32))=some (.int .u64 (uw x)))\/(¬ x>=4294967296/\uw x=x):=by
 by_cases c:x>=4294967296
 . exact .inl ⟨c,by rw [wS (by decide),uw,if_pos c]; rfl⟩
 . exact .inr ⟨c,if_neg c⟩
theorem Nn (x:Int):(x>=65536/\dP .shr (.d (.int .u64 x)) (.d (.int .u64 16))=some (.int .u64 (w9 x)))\/(¬ x>=65536/\w9 x=x):=by
 by_cases c:x>=65536
 . exact .inl ⟨c,by rw [wS (by decide),w9,if_pos c]; rfl⟩
 . exact .inr ⟨c,if_neg c⟩
theorem Np (x:Int):(x>=256/\dP .shr (.d (.int .u64 x)) (.d (.int .u64 8))=some (.int .u64 (A9 x)))\/(¬ x>=256/\A9 x=x):=by
 by_cases c:x>=256
 . exact .inl ⟨c,by rw [wS (by decide),A9,if_pos c]; rfl⟩
 . exact .inr ⟨c,if_neg c⟩
theorem Zx (x:Int)(h:Hp):Sm E TT aD 252 [.d (u64 x)] h=some (.d (i64 (lD x)),h):=by
 rw [aY az5 bj8];have htab:(⟨#[0,1,2,2,3,3,3,3,4,4,4,4,4,4,4,4,5,5,5,5,5,5,5,5,5,5,5,5,5,5,5,5,6,6,6,6,6,6,6,6,6,6,6,6,6,6,6,6,6,6,6,6,6,6,6,6,6,6,6,6,6,6,6,6,7,7,7,7,7,7,7,7,7,7,7,7,7,7,7,7,7,7,7,7,7,7,7,7,7,7,7,7,7,7,7,7,7,7,7,7,7,7,7,7,7,7,7,7,7,7,7,7,7,7,7,7,7,7,7,7,7,7,7,7,7,7,7,7,8,8,8,8,8,8,8,8,8,8,8,8,8,8,8,8,8,8,8,8,8,8,8,8,8,8,8,8,8,8,8,8,8,8,8,8,8,8,8,8,8,8,8,8,8,8,8,8,8,8,8,8,8,8,8,8,8,8,8,8,8,8,8,8,8,8,8,8,8,8,8,8,8,8,8,8,8,8,8,8,8,8,8,8,8,8,8,8,8,8,8,8,8,8,8,8,8,8,8,8,8,8,8,8,8,8,8,8,8,8,8,8,8,8,8,8,8,8,8,8,8,8,8,8,8,8,8,8]⟩:ByteArray)=lenTab:=rfl;have hl:=I9 (wrap .u8 (A9 (w9 (uw x)))).toNat;have hL:=λh=>Nq (n:=A9 (w9 (uw x))) (h:=h);unfold lD;have hA:=Nl x;have hB:=Nn (uw x);have hC:=Np (w9 (uw x));have hw:∀ n:Int,0<=n->n<=1000->wrap .i64 n=n:=λn h1 h2=>wrap64 (by omega) (by omega);have w16:=hw 16 (by omega) (by omega);have w40:=hw 40 (by omega) (by omega);have w48:=hw 48 (by omega) (by omega);have w56:=hw 56 (by omega) (by omega);have w24:=hw 24 (by omega) (by omega);have w8:=hw 8 (by omega) (by omega);generalize uw x=a at *;generalize w9 a=b at *;generalize A9 b=c at *;generalize lenT (wrap .u8 c).toNat=L at *;have wL:=hw L (by omega) (by omega);have v1:=hw (8+L) (by omega) (by omega);have v2:=hw (16+L) (by omega) (by omega);have v3:=hw (24+L) (by omega) (by omega);have v4:=hw (32+L) (by omega) (by omega);have v5:=hw (40+L) (by omega) (by omega)
 have v6:=hw (48+L) (by omega) (by omega);have v7:=hw (56+L) (by omega) (by omega);obtain ⟨a1,a2⟩ | ⟨a1,rfl⟩:=hA<;>obtain ⟨b1,b2⟩ | ⟨b1,rfl⟩:=hB<;>obtain ⟨c1,c2⟩ | ⟨c1,rfl⟩:=hC<;>simp [ae,J7,htab,hL,wL,w16,w40,w48,w56,w24,w8,v1,v2,v3,v4,v5,v6,v7, *]
def IK (x:V)(h:Hp):Option (V×Hp):=match x with
 | .d (.str s)=>if s.size<=2 ^ 40 then some (.row h.size 0 s.size none 1,h.alloc (s.toList.map λb=>.d (.int .u8 b.toNat))) else none
 | _=>none
@[simp] theorem NA {C:Calls'}{ev:X->V}{h:Hp}{x:X}:opE C (.convSB x) ev h=IK (ev x) h:=(rfl)
end
section
variable {E:Calls'}
end
section
variable {E:Calls'}
end
section
variable {E:Calls'}
end
section
variable {E:Calls'}
def IJ (x:V)(h:Hp):Option (V×Hp):=match x with
 | .d (.str _)=>none
 | v=>match aP h v 1 with
  | some (_,cs)=>match cs.mapM (λv=>match v with | .d (.int .u8 n)=>some (UInt8.ofNat n.toNat) | _=>none) with
   | some l=>some (.d (.str ⟨l.toArray⟩),h)
   | none=>none
  | none=>none
@[simp] theorem Nz {C:Calls'}{ev:X->V}{h:Hp}{x:X}:opE C (.convBS x) ev h=IJ (ev x) h:=(rfl)
end
section
variable {E:Calls'}
end
section
theorem mi:∀ {l:List Int},aZ l=true->l.Pairwise (·<·)
 | [],_=>.nil
 | [x],_=>by simp
 | x::y::l,h=>by
  simp only [aZ,aq,bw] at h;have ih:=mi h.2;refine List.pairwise_cons.2 ⟨λz hz=>?_,ih⟩;obtain rfl | hz:=List.mem_cons.1 hz
  . exact h.1
  . exact Int.lt_trans h.1 ((List.pairwise_cons.1 ih).1 z hz)
theorem yV {α:Type}{f:α->Int}:∀ {l:List α},(l.map f).Nodup->∀ {x:α},x∈l->l.find? (λy=>f y==f x)=some x
 | [],_,x,h=>by simp at h
 | y::l,hn,x,h=>by
  simp only [ct,List.nodup_cons] at hn;obtain rfl | h:=List.mem_cons.1 h
  . simp
  . have:f y≠f x:=λhh=>hn.1 (hh ▸ List.mem_map_of_mem h);rw [List.find?_cons];have hb:(f y==f x)=false:=by simpa using this
    simp only [hb];exact yV hn.2 h
end
section
end
section
def Pk:List V:=[(.d (.int .u64 0)),(.d (.str ⟨#[]⟩)),(.d (.int .u32 0)),(.d (.int .i64 0)),(.d (.int .u64 0))]
def Pw:List V:=[(.d (.int .u64 0)),(.d (.int .i64 0))]
def Ef:List V:=[(.d (.int .u64 0)),(.d (.str ⟨#[]⟩)),(.d (.int .u64 0)),(.d (.int .i64 0)),(.d (.slice true []))]
def VK:SF:=⟨7,0,366,219⟩
def VM:SF:=⟨5,0,320,222⟩
def VN:SF:=⟨2,0,322,229⟩
def VL:SF:=⟨5,0,324,234⟩
def EW:Calls':=λf args h=>match Nat.beq f 147,Nat.beq f 152,Nat.beq f 156,Nat.beq f 160 with
 | true,_,_,_=>fD VK args h
 | _,true,_,_=>fD VM args h
 | _,_,true,_=>fD VN args h
 | _,_,_,true=>fD VL args h
 | _,_,_,_=>none
def bf0:List (Nat×QF):=[]
def TW:FuncId->Option QF:=gI bf0
def bo5 (f:FuncId):Bool:=[].any λn=>Nat.beq n f
end
section
structure Edt where
 kind:Int
 id:Int
 pod:Pod
 svc:Svc
 way:Way
 pol:Pol
def Edt.c (e:Edt):List D:=[i64 e.kind,u64 e.id]++e.pod.c++e.svc.c++e.way.c++e.pol.c
@[simp] theorem Edt.len {x:Edt}:x.c.length=21:=(rfl)
@[simp] theorem Edt.all {x:Edt}:sub x.c 0 21=some x.c:=(rfl)
@[simp] theorem Edt.s0_1 {x:Edt}:sub x.c 0 1=some [i64 x.kind]:=(rfl)
@[simp] theorem Edt.s1_1 {x:Edt}:sub x.c 1 1=some [u64 x.id]:=(rfl)
@[simp] theorem Edt.s2_7 {x:Edt}:sub x.c 2 7=some x.pod.c:=(rfl)
@[simp] theorem Edt.s9_5 {x:Edt}:sub x.c 9 5=some x.svc.c:=(rfl)
@[simp] theorem Edt.s14_2 {x:Edt}:sub x.c 14 2=some x.way.c:=(rfl)
@[simp] theorem Edt.s16_5 {x:Edt}:sub x.c 16 5=some x.pol.c:=(rfl)
@[simp] theorem Edt.s5_1 {x:Edt}:sub x.c 5 1=some [i64 x.pod.host]:=(rfl)
@[simp] theorem Edt.s6_1 {x:Edt}:sub x.c 6 1=some [u32 x.pod.addr]:=(rfl)
theorem Cfg.p0 {x:Cfg}{n:Int}:put (x.c.map V.d) 0 [.d (u64 n)]=some (({ x with epoch:=n }:Cfg).c.map V.d):=(rfl)
theorem Cfg.p1 {x:Cfg}{n:Int}:put (x.c.map V.d) 1 [.d (u64 n)]=some (({ x with next:=n }:Cfg).c.map V.d):=(rfl)
theorem Cfg.p4 {x:Cfg}{s:Sl Pod}:put (x.c.map V.d) 4 [.d (s.d Pod.c)]=some (({ x with pods:=s }:Cfg).c.map V.d):=(rfl)
theorem Cfg.p5 {x:Cfg}{s:Sl Svc}:put (x.c.map V.d) 5 [.d (s.d Svc.c)]=some (({ x with services:=s }:Cfg).c.map V.d):=(rfl)
theorem Cfg.p6 {x:Cfg}{s:Sl Way}:put (x.c.map V.d) 6 [.d (s.d Way.c)]=some (({ x with bound:=s }:Cfg).c.map V.d):=(rfl)
theorem Cfg.p7 {x:Cfg}{s:Sl Pol}:put (x.c.map V.d) 7 [.d (s.d Pol.c)]=some (({ x with policies:=s }:Cfg).c.map V.d):=(rfl)
theorem Pod.p0 {x:Pod}{n:Int}:put (x.c.map V.d) 0 [.d (u64 n)]=some (({ x with uid:=n }:Pod).c.map V.d):=(rfl)
theorem Pod.p3 {x:Pod}{n:Int}:put (x.c.map V.d) 3 [.d (i64 n)]=some (({ x with host:=n }:Pod).c.map V.d):=(rfl)
theorem Pod.p4 {x:Pod}{n:Int}:put (x.c.map V.d) 4 [.d (u32 n)]=some (({ x with addr:=n }:Pod).c.map V.d):=(rfl)
section
variable {E:Calls'}
def outT {α:Type}(key:α->Int)(n:Int)(s:Sl α):Sl α:=⟨s.nl,s.l.filter λe=>!(key e==n)⟩
def Cn {α:Type}(key:α->Int)(n:Int)(s:Sl α):Bool:=decide ((s.l.filter λe=>!(key e==n)).length<s.l.length)
end
end
section
def Rj (E:Calls'):Prop:=∀ f,f=317\/f=221\/f=228\/f=233->∀ args h,E f args h=Sm EW TW bo5 f args h
section
variable {E:Calls'}(hE:Rj E)
include hE
def MF (c:Cfg)(p:Pod):Cfg:={ c with next:=wrap .u64 (c.next+1),pods:=⟨false,Jm Pod.uid { p with uid:=c.next } c.pods.l⟩ }
end
end
section
def K6 (c:Cfg)(e:Edt):Cfg×Int :=
 if e.kind=1 then (MF c e.pod,0)
 else if e.kind=2 then ({ c with pods:=outT Pod.uid e.id c.pods },if Cn Pod.uid e.id c.pods then 0 else 4)
 else if e.kind=3 then match c.pods.l.find? (λp=>p.uid==e.id) with
  | some p=>(MF { c with pods:=outT Pod.uid e.id c.pods } { p with host:=e.pod.host,addr:=e.pod.addr },0)
  | none=>(c,4)
 else if e.kind=4 then ({ c with services:=⟨false,Jm Svc.id e.svc c.services.l⟩ },0)
 else if e.kind=5 then ({ c with services:=outT Svc.id e.id c.services },if Cn Svc.id e.id c.services then (if (c.pods.l.any λp=>p.service==e.id)||(c.policies.l.any λp=>p.service==e.id) then 5 else 0) else 4)
 else if e.kind=6 then ({ c with bound:=⟨false,Jm Way.id e.way c.bound.l⟩ },0)
 else if e.kind=7 then ({ c with bound:=outT Way.id e.id c.bound },if Cn Way.id e.id c.bound then (if (c.services.l.any λp=>p.way==e.id) then 5 else 0) else 4)
 else if e.kind=8 then ({ c with policies:=⟨false,Jm Pol.id e.pol.own c.policies.l⟩ },0)
 else if e.kind=9 then ({ c with policies:=outT Pol.id e.id c.policies },if Cn Pol.id e.id c.policies then 0 else 4)
 else (c,1)
end
section
def Cfg.own (c:Cfg):Cfg:={ c with policies:=⟨c.policies.nl,c.policies.l.map Pol.own⟩ }
end
section
theorem qz {α:Type}{B:Nat}{l:List α}(h:l.length<=B):fit B ⟨l.isEmpty,l⟩:=⟨h,λhh=>by simpa using hh⟩
theorem Rule.own_wf {B:Nat}{r:Rule}(h:r.wf B):r.own.wf B:=⟨⟨qz h.1.1.1,h.1.2⟩,⟨qz h.2.1.1.1,h.2.1.2⟩,⟨qz h.2.2.1.1,h.2.2.2⟩⟩
theorem Pol.own_wf {B:Nat}{p:Pol}(h:p.wf B):p.own.wf B:=by
 refine ⟨h.1,h.2.1,h.2.2.1,h.2.2.2.1,⟨?_,λhh=>by simpa [Pol.own] using hh⟩,λx hx=>?_⟩
 . simp only [Pol.own,b9]; exact h.2.2.2.2.1.1
 . obtain ⟨r,hr,rfl⟩:=ce.1 hx;exact Rule.own_wf (h.2.2.2.2.2 r hr)
theorem Cfg.own_wf {B:Nat}{c:Cfg}(h:c.wf B):c.own.wf B:=by
 obtain ⟨h1,h2,h3,h4,h5,h6,h7,h8⟩:=h;refine ⟨h1,h2,h3,h4,h5,h6,h7,⟨?_,λhh=>?_⟩,λx hx=>?_⟩
 . simp only [Cfg.own,b9]; exact h8.1.1
 . simp only [Cfg.own] at hh ⊢; rw [h8.1.2 hh]; rfl
 . obtain ⟨p,hp,rfl⟩:=ce.1 hx;exact Pol.own_wf (h8.2 p hp)
def Edt.wf (B:Nat)(e:Edt):Prop:=Inr .i64 e.kind/\Inr .u64 e.id/\e.pod.wf B/\e.svc.wf B/\e.way.wf B/\e.pol.wf B
end
section
section
variable {E:Calls'}(h385:∀ t:Target,t.wf big->∀ h,E 259 [ag t.c] h=some (bl (bq t),h))
theorem rJ {h:Hp}{k b o n z:Nat}{cap:Option Nat}{d:D}(hd:dataV h (k+1) (.row b o n cap z)=some d):∃ l,d=.slice false l:=by
 simp only [dataV] at hd;split at hd
 . split at hd
   . split at hd
     . cases hd; exact ⟨_,rfl⟩
     . cases hd
   . cases hd
 . cases hd
theorem yY {h:Hp}{r:V}{b:Bool}(hr:frz h r=some (bl b)):r=bl b:=by
 cases r with
 | d x=>simpa using hr
 | row b' o n cap z =>
  exfalso;simp only [frz,jk] at hr;cases hd:dataV h 8 (.row b' o n cap z) with
  | none=>rw [hd] at hr; cases hr
  | some d =>
   rw [hd] at hr;obtain ⟨l,rfl⟩:=rJ hd;cases hr
 | ptr b' o=>simp [frz,jk,dataV] at hr
 | eptr cs o=>simp [frz,jk,dataV] at hr
 | undef=>simp [frz,jk] at hr
 | fn f cs=>cases cs<;>simp [frz,jk] at hr
 | mfn f cs=>simp [frz,jk,dataV] at hr
 | agg cs =>
  simp only [frz,jk] at hr;split at hr<;>cases hr
 | tup vs =>
  simp only [frz] at hr;split at hr<;>cases hr
theorem CW {T:FuncId->Option QF}{val:FuncId->Bool}{f:FuncId}{q:QF}(ht:T f=some q)(hv:val f=true){l:List D}{b:Bool}(h0:∀ h,Sm E T val f [ag l] h=some (bl b,h)){a:V}{h:Hp}(ha:frz h a=some (ag l)):Sm E T val f [a] h=some (bl b,h):=by
 have h1:=h0 h;rw [aY ht hv] at h1 ⊢;simp only [List.mapM_cons,List.mapM_nil,lX,ha,Option.pure_def,Option.bind_eq_bind,Option.bind_some,uW,BP] at h1 ⊢;cases hB:Bd E T val q [ag l] ⟨[],0⟩ with
 | none=>rw [hB] at h1; cases h1
 | some p =>
  obtain ⟨r,h'⟩:=p;rw [hB] at h1;simp only [EM] at h1 ⊢;cases hr:frz h' r with
  | none=>rw [hr] at h1; cases h1
  | some r' =>
   rw [hr] at h1;have e1:r'=bl b:=by
    simp at h1; exact h1
   subst e1;have:=yY hr;subst this;simp [ownR,vD,mW]
end
end
section
end
section
section
variable {E:Calls'}{T:FuncId->Option QF}{val:FuncId->Bool}
theorem FW {α:Type}{cells:α->List D}{z:Nat}(hz:∀ x,(cells x).length=z)(hz0:0<z){k:EQ}{p:α->α->Bool}{s t:Sl α}(hl:s.l.length=t.l.length)(hs:s.l.length<2 ^ 62)
 (he:∀ x y h,eqv k true (ag (cells x)) (ag (cells y)) h=some (.d (.bool (p x y != true)),h)) (h:Hp):∀ (m i:Nat),i+m=s.l.length →
   Cd E T val (.loop [0,1,12,13] (AY z k)) [(0,.d (s.d cells)),(1,.d (t.d cells)),(12,.d (i64 s.l.length)),(13,.d (i64 i))] h =
    if all2 p (s.l.drop i) (t.l.drop i) then some (.exit 0,[],h) else some (.ret,[(4,bl false)],h):=by
 intro m;have key:=aC (E:=E) (T:=T) (val:=val) [0,1,12,13] (AY z k);generalize Cd E T val (.loop [0,1,12,13] (AY z k))=W at key ⊢
 induction m with
 | zero =>
  intro i hi;rw [key,ba (by omega),ba (by omega)];simp [AY,all2,show ¬ ((i:Int)<s.l.length) from by omega]
 | succ m ih =>
  intro i hi;have h1:i<s.l.length:=by omega
  have h2:i<t.l.length:=by omega
  have hx:=λh=>av (z:=z) h (ab h1) (hz _);have hy:=λh=>av (z:=z) h (ab h2) (hz _);have hw:=ay h1 hs;have:=ih (i+1) (by omega);rw [key,eP h1 h2];generalize s.l[i]=x at *;generalize t.l[i]=y at *;have sx:=cO (hz x);have sy:=cO (hz y);cases hq:p x y with
  | false=>simp [AY,hx,hy,sx,sy,he,hq,hz0,show ((i:Int)<s.l.length) from by omega]
  | true =>
   simp [AY,hx,hy,sx,sy,he,hq,hw,hz0,show ((i:Int)<s.l.length) from by omega];simpa using this
theorem yx {α:Type}{cells:α->List D}{z:Nat}{id:FuncId}(hz:∀ x,(cells x).length=z)(hz0:0<z){k:EQ}{p:α->α->Bool}(ht:T id=some (eqlQ z k))(hv:val id=true){s t:Sl α}(hs:s.l.length<2 ^ 62)
 (he:∀ x y h,eqv k true (ag (cells x)) (ag (cells y)) h=some (.d (.bool (p x y != true)),h)) (h:Hp):Sm E T val id [.d (s.d cells),.d (t.d cells)] h=some (bl (all2 p s.l t.l),h):=by
 rw [aY ht hv];by_cases hl:s.l.length=t.l.length
 . have k1:=λh=>FW (E:=E) (T:=T) (val:=val) hz hz0 hl hs he h s.l.length 0 (by omega);simp [hl] at k1;simp [ae,eqlQ,hl];rw [au];simp [k1];cases all2 p s.l t.l<;>simp
 . have hl':¬ ((s.l.length:Int)=t.l.length):=by omega
   rw [eU hl];simp [ae,eqlQ,hl']
theorem Dq {α:Type}{cell:α->D}{k:EQ}{p:α->α->Bool}{s t:Sl α}(hl:s.l.length=t.l.length)(hs:s.l.length<2 ^ 62)
 (he:∀ x y h,eqv k true (.d (cell x)) (.d (cell y)) h=some (.d (.bool (p x y != true)),h)) (h:Hp):∀ (m i:Nat),i+m=s.l.length →
   Cd E T val (.loop [0,1,12,13] (tX k)) [(0,.d (s.d λx=>[cell x])),(1,.d (t.d λx=>[cell x])),(12,.d (i64 s.l.length)),(13,.d (i64 i))] h =
    if all2 p (s.l.drop i) (t.l.drop i) then some (.exit 0,[],h) else some (.ret,[(4,bl false)],h):=by
 intro m;have key:=aC (E:=E) (T:=T) (val:=val) [0,1,12,13] (tX k);generalize Cd E T val (.loop [0,1,12,13] (tX k))=W at key ⊢
 induction m with
 | zero =>
  intro i hi;rw [key,ba (by omega),ba (by omega)];simp [tX,all2,show ¬ ((i:Int)<s.l.length) from by omega]
 | succ m ih =>
  intro i hi;have h1:i<s.l.length:=by omega
  have h2:i<t.l.length:=by omega
  have hx:=λh=>av (z:=1) h (ab h1) (cells:=λx=>[cell x]) rfl;have hy:=λh=>av (z:=1) h (ab h2) (cells:=λx=>[cell x]) rfl;have hw:=ay h1 hs;have:=ih (i+1) (by omega);rw [key,eP h1 h2];generalize s.l[i]=x at *;generalize t.l[i]=y at *;cases hq:p x y with
  | false=>simp [tX,hx,hy,he,hq,show ((i:Int)<s.l.length) from by omega]
  | true =>
   simp [tX,hx,hy,he,hq,hw,show ((i:Int)<s.l.length) from by omega];simpa using this
theorem E9 {α:Type}{cell:α->D}{id:FuncId}{k:EQ}{p:α->α->Bool}(ht:T id=some (eql1Q k))(hv:val id=true){s t:Sl α}(hs:s.l.length<2 ^ 62)
 (he:∀ x y h,eqv k true (.d (cell x)) (.d (cell y)) h=some (.d (.bool (p x y != true)),h)) (h:Hp):Sm E T val id [.d (s.d λx=>[cell x]),.d (t.d λx=>[cell x])] h=some (bl (all2 p s.l t.l),h):=by
 rw [aY ht hv];by_cases hl:s.l.length=t.l.length
 . have k1:=λh=>Dq (E:=E) (T:=T) (val:=val) hl hs he h s.l.length 0 (by omega);simp [hl] at k1;simp [ae,eql1Q,hl];rw [au];simp [k1];cases all2 p s.l t.l<;>simp
 . have hl':¬ ((s.l.length:Int)=t.l.length):=by omega
   rw [eU hl];simp [ae,eql1Q,hl']
theorem FT {α:Type}{cells:α->List D}{z:Nat}{zero:List V}(hz:∀ x,(cells x).length=z)(hz0:0<z)(hzero:zero.length=z){f:FuncId}{p:α->α->Bool}{s t:Sl α}(hl:s.l.length=t.l.length)(hs:s.l.length<2 ^ 62)
 (hf:∀ x∈s.l,∀ y∈t.l,∀ h,Sm E T val f [ag (cells x),ag (cells y)] h=some (bl (p x y),h)):∀ (m i:Nat) (bs:List Blk) (lo:Nat),i+m=s.l.length->lo=0 →
   ∃ bs',Cd E T val (.loop [1,2,15,16,17] (AX z zero)) [(1,.d (t.d cells)),(2,.fn f []),(15,.d (s.d cells)),(16,.d (i64 s.l.length)),(17,.d (i64 i))] ⟨bs,lo⟩ =
    if all2 p (s.l.drop i) (t.l.drop i) then some (.exit 0,[],⟨bs',0⟩) else some (.ret,[(6,bl false)],⟨bs',0⟩):=by
 intro m;have key:=aC (E:=E) (T:=T) (val:=val) [1,2,15,16,17] (AX z zero);generalize Cd E T val (.loop [1,2,15,16,17] (AX z zero))=W at key ⊢
 induction m with
 | zero =>
  rintro i bs lo hi rfl;refine ⟨bs,?_⟩;rw [key,ba (by omega),ba (by omega)];simp [AX,all2,show ¬ ((i:Int)<s.l.length) from by omega]
 | succ m ih =>
  rintro i bs lo hi rfl;have h1:i<s.l.length:=by omega
  have h2:i<t.l.length:=by omega
  have hx:=λh=>av (z:=z) h (ab h1) (hz _);have hy:=λh=>av (z:=z) h (ab h2) (hz _);have hw:=ay h1 hs;have hc:=hf _ (bj h1) _ (bj h2);rw [key,eP h1 h2];generalize s.l[i]=x at *;generalize t.l[i]=y at *;have sx:=cO (hz x);have sy:=cO (hz y);have px:put zero 0 ((cells x).map V.d)=some ((cells x).map .d):=by simp [put,hz,hzero]
  have py:put zero 0 ((cells y).map V.d)=some ((cells y).map .d):=by simp [put,hz,hzero]
  cases hq:p x y with
  | false =>
   refine ⟨bs++[.cells ((cells x).map .d),.cells ((cells y).map .d)],?_⟩;simp [AX,hx,hy,sx,sy,px,py,hc,hq,hz0,hz,show ((i:Int)<s.l.length) from by omega]
  | true =>
   obtain ⟨bs',q⟩:=ih (i+1) (bs++[.cells ((cells x).map .d),.cells ((cells y).map .d)]) 0 (by omega) rfl;refine ⟨bs',?_⟩;simp [AX,hx,hy,sx,sy,px,py,hc,hq,hw,hz0,hz,show ((i:Int)<s.l.length) from by omega];simpa using q
theorem yw {α:Type}{cells:α->List D}{z:Nat}{zero:List V}{id:FuncId}(hz:∀ x,(cells x).length=z)(hz0:0<z)(hzero:zero.length=z){f:FuncId}{p:α->α->Bool}(ht:T id=some (eqfQ z zero))(hv:val id=true){s t:Sl α}(hs:s.l.length<2 ^ 62)
 (hf:∀ x∈s.l,∀ y∈t.l,∀ h,Sm E T val f [ag (cells x),ag (cells y)] h=some (bl (p x y),h)) (h:Hp):Sm E T val id [.d (s.d cells),.d (t.d cells),.fn f []] h=some (bl (all2 p s.l t.l),h):=by
 rw [aY ht hv];have hfr:frz h (.fn f [])=some (.fn f []):=rfl;by_cases hl:s.l.length=t.l.length
 . obtain ⟨bs',k1⟩:=FT (E:=E) (T:=T) (val:=val) hz hz0 hzero hl hs hf s.l.length 0 [] 0 (by omega) rfl;simp [hl] at k1;simp [ae,eqfQ,hl,hfr,dY];rw [au];simp [k1];cases all2 p s.l t.l<;>simp [dY,ownR,vD,mW]
 . have hl':¬ ((s.l.length:Int)=t.l.length):=by omega
   rw [eU hl];simp [ae,eqfQ,hl',hfr,dY,ownR,vD,mW]
end
def Cfg.same (a b:Cfg):Bool:=a.epoch==b.epoch&&a.next==b.next&&a.hosts==b.hosts&&a.ways==b.ways&&(all2 Pod.eqB a.pods.l b.pods.l&&(all2 Svc.eqB a.services.l b.services.l&&(all2 Way.eqB a.bound.l b.bound.l&&all2 Pol.same a.policies.l b.policies.l)))
end
