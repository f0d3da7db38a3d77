/- Sorting numbers in place: the partitions, whole. -/
import Derived.Test.YtjeflmaikicdnaaGreatOe
import Derived.Sort.LotA
import Derived.Sort.LotD2
import Derived.Sort.LotD3
import Derived.Sort.LotB
import Derived.Sort.LotD1
set_option maxRecDepth 100000
set_option linter.unusedVariables false
set_option linter.unusedSimpArgs false
namespace Go.Proofs.YtjeflmaikicdnaaGreat
open IntKind (wrap)
section
open Go.Sort (swp ltInt scanUp scanDown partLoop partEqLoop partition partitionEqual scanUp_spec scanDown_spec partLoop_eq partEqLoop_eq)
section
variable {E:Calls'}(h334:∀ x y h,E 264 [.d (u32 x),.d (u32 y)] h=some (bl (ltInt x y),h))
include h334
theorem Hm {bs:List Blk}{b:Nat}(hb:b<bs.length){n a:Nat}(hn:n<2 ^ 60)(ha:a<n){cap:Option Nat}:∀ (m i j:Nat) (d:Array Int) (lo:Nat),j+1-i<=m->a<i->i<=j+1->j<n->d.size=n →
 ∃ lo',Cd E TS aR (.loop [0,1,10,11] nQ) [(0,.row b 0 n cap 1),(1,.d (i64 a)),(10,.d (i64 i)),(11,.d (i64 j))] (Mz .u32 bs b d lo) =
  some (.exit 4,[(0,.row b 0 n cap 1),(1,.d (i64 a)),(11,.d (i64 (partLoop ltInt a i j d).1))],Mz .u32 bs b (partLoop ltInt a i j d).2 lo')/\Kz b lo d lo' (partLoop ltInt a i j d).2/\(partLoop ltInt a i j d).2.size=n/\(partLoop ltInt a i j d).1<n:=by
 intro m;have key:=ax (E:=E) (T:=TS) (val:=aR) [0,1,10,11] nQ;generalize Cd E TS aR (.loop [0,1,10,11] nQ)=W at key ⊢
 induction m with
 | zero =>
  intro i j d lo hm hai hij hj hd;have u:=Gm h334 hb hn ha hj (cap:=cap) d lo hd (j+1-i) i (br _) hij;have w:=λi2 h2=>E8 h334 hb hn ha (i:=i2) h2 (cap:=cap) d lo hd j hj;obtain ⟨u1,u2,_,_⟩:=scanUp_spec (λx=>ltInt x d[a]!) d j _ i rfl;have hui:scanUp (λx=>ltInt x d[a]!) d j i=i:=by have:=u2 hij; omega
  rw [partLoop_eq];rw [hui] at u ⊢;have w:=w i (by omega);obtain ⟨w1,_,_,_⟩:=scanDown_spec (λx=>!ltInt x d[a]!) d i j;generalize scanDown (λx=>!ltInt x d[a]!) d i j=j2 at *;rw [if_pos (show i>j2 by omega)];refine ⟨lo,?_,.refl,hd,by omega⟩;generalize Mz .u32 bs b d lo=M0 at *;rw [key];simp +decide [nQ];rw [aj];try simp at u w
  simp [u];rw [aj];simp [w,show ((i:Int)>(j2:Int)) from by omega]
 | succ m ih =>
  intro i j d lo hm hai hij hj hd;have u:=Gm h334 hb hn ha hj (cap:=cap) d lo hd (j+1-i) i (br _) hij;obtain ⟨u1,u2,_,u4⟩:=scanUp_spec (λx=>ltInt x d[a]!) d j _ i rfl;have u2:=u2 hij;rw [partLoop_eq];generalize scanUp (λx=>ltInt x d[a]!) d j i=i2 at *;have w:=E8 h334 hb hn ha (i:=i2) (by omega) (cap:=cap) d lo hd j hj;obtain ⟨w1,_,_,w4⟩:=scanDown_spec (λx=>!ltInt x d[a]!) d i2 j;generalize scanDown (λx=>!ltInt x d[a]!) d i2 j=j2 at *;have hne:i2≠j2:=λhh=>by
   have e1:=u4 (by omega);have e2:=w4 (by omega) (by omega);rw [← hh] at e2;simp only [e1] at e2;cases e2
  by_cases hgt:i2>j2
  . rw [if_pos hgt];refine ⟨lo,?_,.refl,hd,by omega⟩;generalize Mz .u32 bs b d lo=M0 at *;rw [key];simp +decide [nQ];rw [aj];try simp at u w
    simp [u];rw [aj];simp [w,show ((i2:Int)>(j2:Int)) from by omega]
  . rw [if_neg hgt];obtain ⟨i3,hi3⟩:∃ k,i2+1=k:=⟨_,rfl⟩;obtain ⟨j3,hj3⟩:∃ k,j2=k+1:=⟨j2-1,by omega⟩;have wi:=gX (x:=i2) (k:=i3) hi3 (by omega);have wj:=gM (x:=j2) (k:=j3) hj3 (by omega);rw [hi3,show j2-1=j3 by omega];have ixi:=λh=>ixz (b:=b) (n:=n) (cap:=cap) (h:=h) (i:=i2) (by omega);have ixj:=λh=>ixz (b:=b) (n:=n) (cap:=cap) (h:=h) (i:=j2) (by omega);have li:=bH (kd:=.u32) (lo:=lo) hb (d:=d) (i:=i2) (by omega);have lj:=bH (kd:=.u32) (lo:=lo) hb (d:=d) (i:=j2) (by omega);obtain ⟨st1,st2⟩:=fA (kd:=.u32) (lo:=lo) hb (d:=d) (i:=i2) (j:=j2) (by omega) (by omega);obtain ⟨lo',q1,q2,q3,q4⟩:=ih i3 j3 (swp d i2 j2) (min (min lo b) b) (by omega) (by omega) (by omega) (by omega) (by rw [cB]; exact hd);have hK:Kz b lo d (min (min lo b) b) (swp d i2 j2):=.inl (by omega);refine ⟨lo',?_,hK.trans q2,q3,q4⟩;generalize partLoop ltInt a i3 j3 (swp d i2 j2)=D at *;clear u4 w4;generalize d[i2]! = x at *;generalize d[j2]! = y at *;generalize d.setIfInBounds i2 y=d1 at *;generalize swp d i2 j2=d3 at *;generalize Mz .u32 bs b d lo=M0 at *;rw [key];generalize hM1:Mz .u32 bs b d1=M1 at *;simp +decide [nQ];rw [aj];try simp at u w
    simp [u];rw [aj];simp +decide [w,show ¬ ((i2:Int)>(j2:Int)) from by omega,ixi,ixj,li,lj,st1,st2,wi,wj,-aC,-aL];simpa using q1
theorem BN {bs:List Blk}{b:Nat}(hb:b<bs.length){n a:Nat}(hn:n<2 ^ 60)(ha:a<n){cap:Option Nat}:∀ (m i j:Nat) (d:Array Int) (lo:Nat),j+1-i<=m->a<i->i<=j+1->j<n->d.size=n →
 ∃ lo',Cd E TS aR (.loop [0,1,9,10] nO) [(0,.row b 0 n cap 1),(1,.d (i64 a)),(9,.d (i64 i)),(10,.d (i64 j))] (Mz .u32 bs b d lo) =
  some (.exit 0,[(9,.d (i64 (partEqLoop ltInt a i j d).1))],Mz .u32 bs b (partEqLoop ltInt a i j d).2 lo')/\Kz b lo d lo' (partEqLoop ltInt a i j d).2/\(partEqLoop ltInt a i j d).2.size=n:=by
 intro m;have key:=ax (E:=E) (T:=TS) (val:=aR) [0,1,9,10] nO;generalize Cd E TS aR (.loop [0,1,9,10] nO)=W at key ⊢
 induction m with
 | zero =>
  intro i j d lo hm hai hij hj hd;have u:=Gl h334 hb hn ha hj (cap:=cap) d lo hd (j+1-i) i (br _) hij;have w:=λi2 h2=>E5 h334 hb hn ha (i:=i2) h2 (cap:=cap) d lo hd j hj;obtain ⟨u1,u2,_,_⟩:=scanUp_spec (λx=>!ltInt d[a]! x) d j _ i rfl;have hui:scanUp (λx=>!ltInt d[a]! x) d j i=i:=by have:=u2 hij; omega
  rw [partEqLoop_eq];rw [hui] at u ⊢;have w:=w i (by omega);obtain ⟨w1,_,_,_⟩:=scanDown_spec (λx=>ltInt d[a]! x) d i j;generalize scanDown (λx=>ltInt d[a]! x) d i j=j2 at *;rw [if_pos (show i>j2 by omega)];refine ⟨lo,?_,.refl,hd⟩;generalize Mz .u32 bs b d lo=M0 at *;rw [key];simp +decide [nO];rw [aj];try simp at u w
  simp [u];rw [aj];simp [w,show ((i:Int)>(j2:Int)) from by omega]
 | succ m ih =>
  intro i j d lo hm hai hij hj hd;have u:=Gl h334 hb hn ha hj (cap:=cap) d lo hd (j+1-i) i (br _) hij;obtain ⟨u1,u2,_,u4⟩:=scanUp_spec (λx=>!ltInt d[a]! x) d j _ i rfl;have u2:=u2 hij;rw [partEqLoop_eq];generalize scanUp (λx=>!ltInt d[a]! x) d j i=i2 at *;have w:=E5 h334 hb hn ha (i:=i2) (by omega) (cap:=cap) d lo hd j hj;obtain ⟨w1,_,_,w4⟩:=scanDown_spec (λx=>ltInt d[a]! x) d i2 j;generalize scanDown (λx=>ltInt d[a]! x) d i2 j=j2 at *;have hne:i2≠j2:=λhh=>by
   have e1:=u4 (by omega);have e2:=w4 (by omega) (by omega);rw [← hh] at e2;simp only [e2] at e1;cases e1
  by_cases hgt:i2>j2
  . rw [if_pos hgt];refine ⟨lo,?_,.refl,hd⟩;generalize Mz .u32 bs b d lo=M0 at *;rw [key];simp +decide [nO];rw [aj];try simp at u w
    simp [u];rw [aj];simp [w,show ((i2:Int)>(j2:Int)) from by omega]
  . rw [if_neg hgt];obtain ⟨i3,hi3⟩:∃ k,i2+1=k:=⟨_,rfl⟩;obtain ⟨j3,hj3⟩:∃ k,j2=k+1:=⟨j2-1,by omega⟩;have wi:=gX (x:=i2) (k:=i3) hi3 (by omega);have wj:=gM (x:=j2) (k:=j3) hj3 (by omega);rw [hi3,show j2-1=j3 by omega];have ixi:=λh=>ixz (b:=b) (n:=n) (cap:=cap) (h:=h) (i:=i2) (by omega);have ixj:=λh=>ixz (b:=b) (n:=n) (cap:=cap) (h:=h) (i:=j2) (by omega);have li:=bH (kd:=.u32) (lo:=lo) hb (d:=d) (i:=i2) (by omega);have lj:=bH (kd:=.u32) (lo:=lo) hb (d:=d) (i:=j2) (by omega);obtain ⟨st1,st2⟩:=fA (kd:=.u32) (lo:=lo) hb (d:=d) (i:=i2) (j:=j2) (by omega) (by omega);obtain ⟨lo',q1,q2,q3⟩:=ih i3 j3 (swp d i2 j2) (min (min lo b) b) (by omega) (by omega) (by omega) (by omega) (by rw [cB]; exact hd);have hK:Kz b lo d (min (min lo b) b) (swp d i2 j2):=.inl (by omega);refine ⟨lo',?_,hK.trans q2,q3⟩;generalize partEqLoop ltInt a i3 j3 (swp d i2 j2)=D at *;clear u4 w4;generalize d[i2]! = x at *;generalize d[j2]! = y at *;generalize d.setIfInBounds i2 y=d1 at *;generalize swp d i2 j2=d3 at *;generalize Mz .u32 bs b d lo=M0 at *;rw [key];generalize hM1:Mz .u32 bs b d1=M1 at *;simp +decide [nO];rw [aj];try simp at u w
    simp [u];rw [aj];simp +decide [w,show ¬ ((i2:Int)>(j2:Int)) from by omega,ixi,ixj,li,lj,st1,st2,wi,wj,-aC,-aL];simpa using q1
theorem bk4 {bs:List Blk}{b:Nat}(hb:b<bs.length){n a e p:Nat}(hn:n<2 ^ 60)(ha:a<e)(he:e<=n)(hp:p<n){cap:Option Nat}(d:Array Int)(lo:Nat)(hd:d.size=n) :
 ∃ lo',Sm E TS aR 265 [.row b 0 n cap 1,.d (i64 a),.d (i64 e),.d (i64 p)] (Mz .u32 bs b d lo)=some (.d (i64 (partitionEqual ltInt d a e p).1),Mz .u32 bs b (partitionEqual ltInt d a e p).2 lo')/\Kz b lo d lo' (partitionEqual ltInt d a e p).2/\(partitionEqual ltInt d a e p).2.size=n:=by
 obtain ⟨i,hi⟩:∃ k,a+1=k:=⟨_,rfl⟩;obtain ⟨j,hj⟩:∃ k,e=k+1:=⟨e-1,by omega⟩;have wi:=gX (x:=a) (k:=i) hi (by omega);have wj:=gM (x:=e) (k:=j) hj (by omega);have hM:(⟨(Mz .u32 bs b d lo).bs,bs.length⟩:Hp)=Mz .u32 bs b d bs.length:=rfl;have hl:(Mz .u32 bs b d lo).bs.length=bs.length:=by simp [Mz,Mr]
 have ixa:=λh=>ixz (b:=b) (n:=n) (cap:=cap) (h:=h) (i:=a) (by omega);have ixp:=λh=>ixz (b:=b) (n:=n) (cap:=cap) (h:=h) (i:=p) hp;have la:=bH (kd:=.u32) (lo:=bs.length) hb (d:=d) (i:=a) (by omega);have lp:=bH (kd:=.u32) (lo:=bs.length) hb (d:=d) (i:=p) (by omega);obtain ⟨st1,st2⟩:=fA (kd:=.u32) (lo:=bs.length) hb (d:=d) (i:=a) (j:=p) (by omega) (by omega);obtain ⟨lo1,q1,q2,q3⟩:=BN h334 hb hn (a:=a) (by omega) (cap:=cap) (j+1-i) i j (swp d a p) (min bs.length b) (br _) (by omega) (by omega) (by omega) (by rw [cB]; exact hd);have hS:partitionEqual ltInt d a e p=partEqLoop ltInt a i j (swp d a p):=by unfold partitionEqual; rw [hi,show e-1=j by omega]
 rw [hS];have hK:Kz b bs.length d (min bs.length b) (swp d a p):=.inl (by omega);obtain ⟨lo2,r1,r2⟩:=kX (kd:=.u32) (lo:=lo) (r:=.d (i64 (partEqLoop ltInt a i j (swp d a p)).1)) hb rfl (hK.trans q2);refine ⟨lo2,?_,r2,q3⟩;rw [av cr4 dy2,hl,hM];refine Eq.trans ?_ r1
 congr 1
 generalize partEqLoop ltInt a i j (swp d a p)=D at *;generalize d[a]! = x at *;generalize d[p]! = y at *;generalize d.setIfInBounds a y=d1 at *;generalize swp d a p=d3 at *;generalize Mz .u32 bs b d bs.length=M0 at *;generalize hM1:Mz .u32 bs b d1=M1 at *;simp +decide [aa,UH,ixa,ixp,la,lp,st1,st2,wi,wj,-aC,-aL];rw [aj];try simp at q1
 simp [q1,bf]
theorem bk5 {bs:List Blk}{b:Nat}(hb:b<bs.length){n a e p:Nat}(hn:n<2 ^ 60)(ha:a<e)(he:e<=n)(hp:p<n){cap:Option Nat}(d:Array Int)(lo:Nat)(hd:d.size=n) :
 ∃ lo',Sm E TS aR 266 [.row b 0 n cap 1,.d (i64 a),.d (i64 e),.d (i64 p)] (Mz .u32 bs b d lo)=some (.tup [.d (i64 (partition ltInt d a e p).1),bl (partition ltInt d a e p).2.1],Mz .u32 bs b (partition ltInt d a e p).2.2 lo')/\Kz b lo d lo' (partition ltInt d a e p).2.2/\(partition ltInt d a e p).2.2.size=n:=by
 obtain ⟨i,hi⟩:∃ k,a+1=k:=⟨_,rfl⟩;obtain ⟨j,hj⟩:∃ k,e=k+1:=⟨e-1,by omega⟩;have wi:=gX (x:=a) (k:=i) hi (by omega);have wj:=gM (x:=e) (k:=j) hj (by omega);have hM:(⟨(Mz .u32 bs b d lo).bs,bs.length⟩:Hp)=Mz .u32 bs b d bs.length:=rfl;have hl:(Mz .u32 bs b d lo).bs.length=bs.length:=by simp [Mz,Mr]
 have ixa:=λh=>ixz (b:=b) (n:=n) (cap:=cap) (h:=h) (i:=a) (by omega);have ixp:=λh=>ixz (b:=b) (n:=n) (cap:=cap) (h:=h) (i:=p) hp;have la:=bH (kd:=.u32) (lo:=bs.length) hb (d:=d) (i:=a) (by omega);have lp:=bH (kd:=.u32) (lo:=bs.length) hb (d:=d) (i:=p) (by omega);obtain ⟨st1,st2⟩:=fA (kd:=.u32) (lo:=bs.length) hb (d:=d) (i:=a) (j:=p) (by omega) (by omega);have hd1:(swp d a p).size=n:=by rw [cB]; exact hd
 have hS:partition ltInt d a e p=(if scanUp (λx=>ltInt x (swp d a p)[a]!) (swp d a p) j i>scanDown (λx=>!ltInt x (swp d a p)[a]!) (swp d a p) (scanUp (λx=>ltInt x (swp d a p)[a]!) (swp d a p) j i) j then
  (scanDown (λx=>!ltInt x (swp d a p)[a]!) (swp d a p) (scanUp (λx=>ltInt x (swp d a p)[a]!) (swp d a p) j i) j,true,swp (swp d a p) (scanDown (λx=>!ltInt x (swp d a p)[a]!) (swp d a p) (scanUp (λx=>ltInt x (swp d a p)[a]!) (swp d a p) j i) j) a) else
  ((partLoop ltInt a (scanUp (λx=>ltInt x (swp d a p)[a]!) (swp d a p) j i+1) (scanDown (λx=>!ltInt x (swp d a p)[a]!) (swp d a p) (scanUp (λx=>ltInt x (swp d a p)[a]!) (swp d a p) j i) j-1) (swp (swp d a p) (scanUp (λx=>ltInt x (swp d a p)[a]!) (swp d a p) j i) (scanDown (λx=>!ltInt x (swp d a p)[a]!) (swp d a p) (scanUp (λx=>ltInt x (swp d a p)[a]!) (swp d a p) j i) j))).1,false,
   swp (partLoop ltInt a (scanUp (λx=>ltInt x (swp d a p)[a]!) (swp d a p) j i+1) (scanDown (λx=>!ltInt x (swp d a p)[a]!) (swp d a p) (scanUp (λx=>ltInt x (swp d a p)[a]!) (swp d a p) j i) j-1) (swp (swp d a p) (scanUp (λx=>ltInt x (swp d a p)[a]!) (swp d a p) j i) (scanDown (λx=>!ltInt x (swp d a p)[a]!) (swp d a p) (scanUp (λx=>ltInt x (swp d a p)[a]!) (swp d a p) j i) j))).2
    (partLoop ltInt a (scanUp (λx=>ltInt x (swp d a p)[a]!) (swp d a p) j i+1) (scanDown (λx=>!ltInt x (swp d a p)[a]!) (swp d a p) (scanUp (λx=>ltInt x (swp d a p)[a]!) (swp d a p) j i) j-1) (swp (swp d a p) (scanUp (λx=>ltInt x (swp d a p)[a]!) (swp d a p) j i) (scanDown (λx=>!ltInt x (swp d a p)[a]!) (swp d a p) (scanUp (λx=>ltInt x (swp d a p)[a]!) (swp d a p) j i) j))).1 a)):=by
  unfold partition;simp only [hi,show e-1=j by omega]
 rw [hS];clear hS;have hK:Kz b bs.length d (min bs.length b) (swp d a p):=.inl (by omega);generalize hD:swp d a p=D at *;have u:=P5 h334 hb hn (a:=a) (j:=j) (by omega) (by omega) (cap:=cap) D (min bs.length b) hd1 (j+1-i) i (br _) (by omega);obtain ⟨u1,u2,_,u4⟩:=scanUp_spec (λx=>ltInt x D[a]!) D j _ i rfl;have u2:=u2 (by omega);generalize scanUp (λx=>ltInt x D[a]!) D j i=i2 at *;have w:=Nh h334 hb hn (a:=a) (by omega) (i:=i2) (by omega) (cap:=cap) D (min bs.length b) hd1 j (by omega);obtain ⟨w1,w2,_,w4⟩:=scanDown_spec (λx=>!ltInt x D[a]!) D i2 j;generalize scanDown (λx=>!ltInt x D[a]!) D i2 j=j2 at *;have hne:i2≠j2:=λhh=>by
  have e1:=u4 (by omega);have e2:=w4 (by omega) (by omega);rw [← hh] at e2;simp only [e1] at e2;cases e2
 clear u4 w4;have ixi:=λ(hh:i2<n) h=>ixz (b:=b) (n:=n) (cap:=cap) (h:=h) (i:=i2) hh;have ixj:=λh=>ixz (b:=b) (n:=n) (cap:=cap) (h:=h) (i:=j2) (by omega);have lj:=bH (kd:=.u32) (lo:=min bs.length b) hb (d:=D) (i:=j2) (by omega);have la2:=bH (kd:=.u32) (lo:=min bs.length b) hb (d:=D) (i:=a) (by omega);by_cases hgt:i2>j2
 . rw [if_pos hgt];have hgt':(i2:Int)>(j2:Int):=by omega
   obtain ⟨t1,t2⟩:=fA (kd:=.u32) (lo:=min bs.length b) hb (d:=D) (i:=j2) (j:=a) (by omega) (by omega);have hK2:Kz b (min bs.length b) D (min (min (min bs.length b) b) b) (swp D j2 a):=.inl (by omega);have hsz:(swp D j2 a).size=n:=by rw [cB]; exact hd1
   obtain ⟨lo2,r1,r2⟩:=kX (kd:=.u32) (lo:=lo) (r:=.tup [.d (i64 j2),bl true]) hb rfl (hK.trans hK2);refine ⟨lo2,?_,r2,hsz⟩;rw [av aj1 au0,hl,hM];refine Eq.trans ?_ r1
   congr 1
   generalize d[a]! = x at *;generalize d[p]! = y at *;generalize d.setIfInBounds a y=d1 at *;generalize D[a]! = x2 at *;generalize D[j2]! = y2 at *;generalize D.setIfInBounds j2 x2=d4 at *;generalize swp D j2 a=d5 at *;generalize Mz .u32 bs b d bs.length=M0 at *;generalize hM1:Mz .u32 bs b d1=M1 at *;generalize hM2:Mz .u32 bs b D=M2 at *;generalize hM4:Mz .u32 bs b d4=M4 at *;simp +decide [aa,OW,ixa,ixp,la,lp,st1,st2,wi,wj,-aC,-aL];rw [aj];try simp at u w
   simp [u];rw [aj];try simp [-aC,-aL] at t1 t2
   simp +decide [w,hgt',ixa,ixj,lj,la2,t1,t2,bf,-aC,-aL]
 . rw [if_neg hgt];have hgt':¬ (i2:Int)>(j2:Int):=by omega
   obtain ⟨i3,hi3⟩:∃ k,i2+1=k:=⟨_,rfl⟩;obtain ⟨j3,hj3⟩:∃ k,j2=k+1:=⟨j2-1,by omega⟩;have wi3:=gX (x:=i2) (k:=i3) hi3 (by omega);have wj3:=gM (x:=j2) (k:=j3) hj3 (by omega);rw [hi3,show j2-1=j3 by omega];have ixi:=ixi (by omega);have li:=bH (kd:=.u32) (lo:=min bs.length b) hb (d:=D) (i:=i2) (by omega);obtain ⟨t1,t2⟩:=fA (kd:=.u32) (lo:=min bs.length b) hb (d:=D) (i:=i2) (j:=j2) (by omega) (by omega);obtain ⟨lo1,q1,q2,q3,q4⟩:=Hm h334 hb hn (a:=a) (by omega) (cap:=cap) (j3+1-i3) i3 j3 (swp D i2 j2) (min bs.length b) (br _) (by omega) (by omega) (by omega) (by rw [cB]; exact hd1);have hK2:Kz b (min bs.length b) D (min bs.length b) (swp D i2 j2):=.inl (by omega);generalize hPL:partLoop ltInt a i3 j3 (swp D i2 j2)=PL at *;obtain ⟨m,PD⟩:=PL;simp only at q1 q2 q3 q4 ⊢;have ixm:=λh=>ixz (b:=b) (n:=n) (cap:=cap) (h:=h) (i:=m) q4;have lm:=bH (kd:=.u32) (lo:=lo1) hb (d:=PD) (i:=m) (by omega);have la3:=bH (kd:=.u32) (lo:=lo1) hb (d:=PD) (i:=a) (by omega);obtain ⟨v1,v2⟩:=fA (kd:=.u32) (lo:=lo1) hb (d:=PD) (i:=m) (j:=a) (by omega) (by omega);have hsz:(swp PD m a).size=n:=by rw [cB]; exact q3
   have hK3:Kz b lo1 PD (min (min lo1 b) b) (swp PD m a):=.inl (by omega);obtain ⟨lo2,r1,r2⟩:=kX (kd:=.u32) (lo:=lo) (r:=.tup [.d (i64 m),bl false]) hb rfl (hK.trans (hK2.trans (q2.trans hK3)));refine ⟨lo2,?_,r2,hsz⟩;rw [av aj1 au0,hl,hM];refine Eq.trans ?_ r1
   congr 1
   clear hPL;generalize d[a]! = x at *;generalize d[p]! = y at *;generalize d.setIfInBounds a y=d1 at *;generalize D[i2]! = x2 at *;generalize D[j2]! = y2 at *;generalize D.setIfInBounds i2 y2=d4 at *;generalize swp D i2 j2=d5 at *;generalize PD[a]! = x3 at *;generalize PD[m]! = y3 at *;generalize PD.setIfInBounds m x3=d6 at *;generalize swp PD m a=d7 at *;generalize Mz .u32 bs b d bs.length=M0 at *;generalize hM1:Mz .u32 bs b d1=M1 at *;generalize hM2:Mz .u32 bs b D=M2 at *;generalize hM4:Mz .u32 bs b d4=M4 at *;generalize hM5:Mz .u32 bs b d5=M5 at *;generalize hM6:Mz .u32 bs b d6=M6 at *;generalize hM7:Mz .u32 bs b PD=M7 at *;simp +decide [aa,OW,ixa,ixp,la,lp,st1,st2,wi,wj,-aC,-aL];rw [aj];try simp at u w
   simp [u];rw [aj];try simp [-aC,-aL] at t1 t2
   simp +decide [w,hgt',ixi,ixj,li,lj,t1,t2,wi3,wj3,-aC,-aL];rw [aj];try simp at q1
   simp +decide [q1,ixm,ixa,lm,la3,v1,v2,bf,-aC,-aL]
end
end
section
open Go.Sort (swp ltInt scanSorted shiftDown shiftUp partialIns partialInsertionSort)
theorem cr2:TS 263=some UF:=by kernel_rfl
theorem dy1:aR 263=false:=by kernel_rfl
theorem qw {d:Array Int}{e:Nat}:∀ (m i:Nat),e-i<=m->i<=e->i<=scanSorted ltInt d e i/\scanSorted ltInt d e i<=e
 | 0,i,hm,hi=>by rw [scanSorted,if_neg (by simp; omega)]; exact ⟨br _,hi⟩
 | m+1,i,hm,hi=>by
  rw [scanSorted];split
  . rename_i hc;simp only [aw,bw] at hc;have:=qw (d:=d) (e:=e) m (i+1) (by omega) (by omega);omega
  . exact ⟨br _,hi⟩
section
variable {E:Calls'}(h334:∀ x y h,E 264 [.d (u32 x),.d (u32 y)] h=some (bl (ltInt x y),h))
include h334
theorem Pz {bs:List Blk}{b:Nat}(hb:b<bs.length){n e:Nat}(hn:n<2 ^ 60)(he:e<=n){cap:Option Nat}(t1 t8:V)(d:Array Int)(lo:Nat)(hd:d.size=n):∀ (m i:Nat),e-i<=m->0<i->i<=e →
 Cd E TS aR (.loop [0,1,2,7,8] ll) [(0,.row b 0 n cap 1),(1,t1),(2,.d (i64 e)),(7,.d (i64 i)),(8,t8)] (Mz .u32 bs b d lo)=some (.exit 2,[(0,.row b 0 n cap 1),(1,t1),(2,.d (i64 e)),(7,.d (i64 (scanSorted ltInt d e i))),(8,t8)],Mz .u32 bs b d lo):=by
 intro m;have key:=ax (E:=E) (T:=TS) (val:=aR) [0,1,2,7,8] ll;generalize Cd E TS aR (.loop [0,1,2,7,8] ll)=W at key ⊢
 induction m with
 | zero =>
  intro i hm h0 hi;rw [scanSorted,if_neg (by simp; omega),key];simp +decide [ll,aA,bA,ay,Tr.mute,show ¬ ((i:Int)<(e:Int)) from by omega]
 | succ m ih =>
  intro i hm h0 hi;by_cases hij:i<e
  . have hij':(i:Int)<(e:Int):=by omega
    obtain ⟨i0,hi0⟩:∃ k,i=k+1:=⟨i-1,by omega⟩;obtain ⟨i1,hi1⟩:∃ k,i+1=k:=⟨_,rfl⟩;have wi:=gX (x:=i) (k:=i1) hi1 (by omega);have w0:=gM (x:=i) (k:=i0) hi0 (by omega);have ixi:=λh=>ixz (b:=b) (n:=n) (cap:=cap) (h:=h) (i:=i) (by omega);have ix0:=λh=>ixz (b:=b) (n:=n) (cap:=cap) (h:=h) (i:=i0) (by omega);have li:=bH (kd:=.u32) (lo:=lo) hb (d:=d) (i:=i) (by omega);have l0:=bH (kd:=.u32) (lo:=lo) hb (d:=d) (i:=i0) (by omega);have c:=λx y h=>tu h334 x y h;have q:=ih i1 (by omega) (by omega) (by omega);rw [scanSorted,hi1,show i-1=i0 by omega];generalize scanSorted ltInt d e i1=R at *;generalize d[i0]! = A at *;generalize d[i]! = X at *;generalize Mz .u32 bs b d lo=M0 at *;rw [key];cases hc:ltInt X A with
    | true =>
     simp +decide [ll,aA,ae,ay,Tr.mute,ixi,ix0,li,l0,c,hij,hij',hc,w0,-aC,-aL]
    | false =>
     simp +decide [ll,aA,ae,ay,Tr.mute,ixi,ix0,li,l0,c,hij,hij',hc,wi,w0,-aC,-aL];simpa using q
  . rw [scanSorted,if_neg (by simp [hij]),key];simp +decide [ll,aA,bA,ay,Tr.mute,show ¬ ((i:Int)<(e:Int)) from by omega]
theorem PE {bs:List Blk}{b:Nat}(hb:b<bs.length){n:Nat}(hn:n<2 ^ 60){cap:Option Nat}(t1 t2 t7 t8:V):∀ (j:Nat) (d:Array Int) (lo:Nat),j<n->d.size=n →
 ∃ lo',Cd E TS aR (.loop [0,1,2,7,8,9] nN) [(0,.row b 0 n cap 1),(1,t1),(2,t2),(7,t7),(8,t8),(9,.d (i64 j))] (Mz .u32 bs b d lo)=some (.exit 4,[(0,.row b 0 n cap 1),(1,t1),(2,t2),(7,t7),(8,t8)],Mz .u32 bs b (shiftDown ltInt j d) lo')/\Kz b lo d lo' (shiftDown ltInt j d)/\(shiftDown ltInt j d).size=n:=by
 intro j;have key:=ax (E:=E) (T:=TS) (val:=aR) [0,1,2,7,8,9] nN;generalize Cd E TS aR (.loop [0,1,2,7,8,9] nN)=W at key ⊢
 induction j with
 | zero =>
  intro d lo hj hd;refine ⟨lo,?_,.refl,hd⟩;rw [key];simp +decide [nN,shiftDown]
 | succ j ih =>
  intro d lo hj hd;obtain ⟨k,hk⟩:∃ k,j+1=k:=⟨_,rfl⟩;have w0:=gM (x:=k) (k:=j) hk.symm (by omega);have ixk:=λh=>ixz (b:=b) (n:=n) (cap:=cap) (h:=h) (i:=k) (by omega);have ixj:=λh=>ixz (b:=b) (n:=n) (cap:=cap) (h:=h) (i:=j) (by omega);have lk:=bH (kd:=.u32) (lo:=lo) hb (d:=d) (i:=k) (by omega);have lj:=bH (kd:=.u32) (lo:=lo) hb (d:=d) (i:=j) (by omega);obtain ⟨st1,st2⟩:=fA (kd:=.u32) (lo:=lo) hb (d:=d) (i:=k) (j:=j) (by omega) (by omega);have c:=λx y h=>tu h334 x y h;obtain ⟨lo',q1,q2,q3⟩:=ih (swp d k j) (min (min lo b) b) (by omega) (by rw [cB]; exact hd);have hk1:(k:Int)>=1:=by omega
  have hK:Kz b lo d (min (min lo b) b) (swp d k j):=.inl (by omega);rw [shiftDown,hk];by_cases hc:ltInt d[k]! d[j]! = true
  . rw [if_neg (by simp [hc])];refine ⟨lo',?_,hK.trans q2,q3⟩;generalize shiftDown ltInt j (swp d k j)=D at *;generalize d[k]! = x at *;generalize d[j]! = y at *;generalize d.setIfInBounds k y=d1 at *;generalize swp d k j=d3 at *;generalize Mz .u32 bs b d lo=M0 at *;rw [key];generalize hM1:Mz .u32 bs b d1=M1 at *;simp +decide [nN,aA,ae,ay,Tr.mute,ixk,ixj,lk,lj,c,hc,w0,hk1,st1,st2,-aC,-aL];simpa using q1
  . rw [if_pos (by simp [hc])];refine ⟨lo,?_,.refl,hd⟩;generalize d[k]! = x at *;generalize d[j]! = y at *;generalize Mz .u32 bs b d lo=M0 at *;rw [key];simp +decide [nN,aA,ae,ay,Tr.mute,ixk,ixj,lk,lj,c,hc,w0,hk1,-aC,-aL]
theorem Gh {bs:List Blk}{b:Nat}(hb:b<bs.length){n e:Nat}(hn:n<2 ^ 60)(he:e<=n){cap:Option Nat}(t1 t7 t8:V):∀ (m j:Nat) (d:Array Int) (lo:Nat),e-j<=m->0<j->j<=e->d.size=n →
 ∃ lo',Cd E TS aR (.loop [0,1,2,7,8,10] lq) [(0,.row b 0 n cap 1),(1,t1),(2,.d (i64 e)),(7,t7),(8,t8),(10,.d (i64 j))] (Mz .u32 bs b d lo)=some (.exit 6,[(0,.row b 0 n cap 1),(1,t1),(2,.d (i64 e)),(7,t7),(8,t8)],Mz .u32 bs b (shiftUp ltInt e j d) lo')/\Kz b lo d lo' (shiftUp ltInt e j d)/\(shiftUp ltInt e j d).size=n:=by
 intro m;have key:=ax (E:=E) (T:=TS) (val:=aR) [0,1,2,7,8,10] lq;generalize Cd E TS aR (.loop [0,1,2,7,8,10] lq)=W at key ⊢
 induction m with
 | zero =>
  intro j d lo hm h0 hj hd;have hu:shiftUp ltInt e j d=d:=by rw [shiftUp,if_neg (by omega)]
  rw [hu];refine ⟨lo,?_,.refl,hd⟩;rw [key];simp +decide [lq,show ¬ ((j:Int)<(e:Int)) from by omega]
 | succ m ih =>
  intro j d lo hm h0 hj hd;by_cases hje:j<e
  . have hje':(j:Int)<(e:Int):=by omega
    obtain ⟨j0,hj0⟩:∃ k,j=k+1:=⟨j-1,by omega⟩;obtain ⟨j1,hj1⟩:∃ k,j+1=k:=⟨_,rfl⟩;have w1:=gX (x:=j) (k:=j1) hj1 (by omega);have w0:=gM (x:=j) (k:=j0) hj0 (by omega);have ixj:=λh=>ixz (b:=b) (n:=n) (cap:=cap) (h:=h) (i:=j) (by omega);have ix0:=λh=>ixz (b:=b) (n:=n) (cap:=cap) (h:=h) (i:=j0) (by omega);have lj:=bH (kd:=.u32) (lo:=lo) hb (d:=d) (i:=j) (by omega);have l0:=bH (kd:=.u32) (lo:=lo) hb (d:=d) (i:=j0) (by omega);obtain ⟨st1,st2⟩:=fA (kd:=.u32) (lo:=lo) hb (d:=d) (i:=j) (j:=j0) (by omega) (by omega);have c:=λx y h=>tu h334 x y h;obtain ⟨lo',q1,q2,q3⟩:=ih j1 (swp d j j0) (min (min lo b) b) (by omega) (by omega) (by omega) (by rw [cB]; exact hd);have hK:Kz b lo d (min (min lo b) b) (swp d j j0):=.inl (by omega);rw [shiftUp,if_pos hje,hj1,show j-1=j0 by omega];by_cases hc:ltInt d[j]! d[j0]! = true
    . rw [if_neg (by simp [hc])];refine ⟨lo',?_,hK.trans q2,q3⟩;generalize shiftUp ltInt e j1 (swp d j j0)=D at *;generalize d[j]! = x at *;generalize d[j0]! = y at *;generalize d.setIfInBounds j y=d1 at *;generalize swp d j j0=d3 at *;generalize Mz .u32 bs b d lo=M0 at *;rw [key];generalize hM1:Mz .u32 bs b d1=M1 at *;simp +decide [lq,aA,ae,ay,Tr.mute,ixj,ix0,lj,l0,c,hc,w0,w1,hje',st1,st2,-aC,-aL];simpa using q1
    . rw [if_pos (by simp [hc])];refine ⟨lo,?_,.refl,hd⟩;generalize d[j]! = x at *;generalize d[j0]! = y at *;generalize Mz .u32 bs b d lo=M0 at *;rw [key];simp +decide [lq,aA,ae,ay,Tr.mute,ixj,ix0,lj,l0,c,hc,w0,hje',-aC,-aL]
  . have hu:shiftUp ltInt e j d=d:=by rw [shiftUp,if_neg hje]
    rw [hu];refine ⟨lo,?_,.refl,hd⟩;rw [key];simp +decide [lq,show ¬ ((j:Int)<(e:Int)) from by omega]
def Xd (r:Bool)(ex:Ex)(e:EA):Prop:=(ex=.ret/\e=[(6,bl r)])\/(ex=.exit 0/\e=[]/\r=false)
theorem NQ {bs:List Blk}{b:Nat}(hb:b<bs.length){n a e:Nat}(hn:n<2 ^ 60)(ha:a<e)(he:e<=n){cap:Option Nat}:∀ (s i:Nat) (d:Array Int) (lo:Nat),s<=5->a<i->i<=e->d.size=n →
 ∃ lo' ex ev,Xd (partialIns ltInt a e s i d).2 ex ev/\Cd E TS aR (.loop [0,1,2,7,8] iX) [(0,.row b 0 n cap 1),(1,.d (i64 a)),(2,.d (i64 e)),(7,.d (i64 i)),(8,.d (i64 ((5-s:Nat):Int)))] (Mz .u32 bs b d lo) =
  some (ex,ev,Mz .u32 bs b (partialIns ltInt a e s i d).1 lo')/\Kz b lo d lo' (partialIns ltInt a e s i d).1/\(partialIns ltInt a e s i d).1.size=n:=by
 intro s;have key:=ax (E:=E) (T:=TS) (val:=aR) [0,1,2,7,8] iX;generalize Cd E TS aR (.loop [0,1,2,7,8] iX)=W at key ⊢
 induction s with
 | zero =>
  intro i d lo hs hi hie hd;refine ⟨lo,_,_,.inr ⟨rfl,rfl,rfl⟩,?_,.refl,hd⟩;rw [key];simp +decide [iX,partialIns]
 | succ s ih =>
  intro i d lo hs hi hie hd;obtain ⟨k,hk⟩:∃ k,5-(s+1)=k:=⟨_,rfl⟩;obtain ⟨k1,hk1⟩:∃ j,5-s=j:=⟨_,rfl⟩;have wk:=gX (x:=k) (k:=k1) (by omega) (by omega);have hk5:(k:Int)<5:=by omega
  have u:=Pz h334 hb hn he (cap:=cap) (.d (i64 a)) (.d (i64 k)) d lo hd (e-i) i (br _) (by omega) hie;obtain ⟨u1,u2⟩:=qw (d:=d) (e:=e) (e-i) i (br _) hie;simp only [partialIns];rw [hk];generalize scanSorted ltInt d e i=i2 at *;by_cases h1:i2=e
  . subst h1;rw [if_pos rfl];refine ⟨lo,_,_,.inl ⟨rfl,rfl⟩,?_,.refl,hd⟩;generalize Mz .u32 bs b d lo=M0 at *;rw [key];simp +decide [iX,hk5];rw [aj];try simp at u
    simp [u]
  rw [if_neg h1];have h1':¬ (i2:Int)=(e:Int):=by omega
  obtain ⟨l,hl⟩:∃ j,e-a=j:=⟨_,rfl⟩;have wl:=uU (x:=e) (y:=a) (k:=l) (by omega) (by omega);by_cases h2:l<50
  . have h2':(l:Int)<50:=by omega
    rw [if_pos (by omega)];refine ⟨lo,_,_,.inl ⟨rfl,rfl⟩,?_,.refl,hd⟩;generalize Mz .u32 bs b d lo=M0 at *;rw [key];simp +decide [iX,hk5];rw [aj];try simp at u
    simp [u,h1',wl,h2']
  have h2':¬ (l:Int)<50:=by omega
  rw [if_neg (by omega)];obtain ⟨i0,hi0⟩:∃ j,i2=j+1:=⟨i2-1,by omega⟩;obtain ⟨i3,hi3⟩:∃ j,i2+1=j:=⟨_,rfl⟩;obtain ⟨p,hp⟩:∃ j,i2-a=j:=⟨_,rfl⟩;obtain ⟨q,hq⟩:∃ j,e-i2=j:=⟨_,rfl⟩;have w0:=gM (x:=i2) (k:=i0) hi0 (by omega);have w3:=gX (x:=i2) (k:=i3) hi3 (by omega);have wp:=uU (x:=i2) (y:=a) (k:=p) (by omega) (by omega);have wq:=uU (x:=e) (y:=i2) (k:=q) (by omega) (by omega);rw [show i2-1=i0 by omega,hi3,hp,hq];have ix2:=λh=>ixz (b:=b) (n:=n) (cap:=cap) (h:=h) (i:=i2) (by omega);have ix0:=λh=>ixz (b:=b) (n:=n) (cap:=cap) (h:=h) (i:=i0) (by omega);have l2:=bH (kd:=.u32) (lo:=lo) hb (d:=d) (i:=i2) (by omega);have l0:=bH (kd:=.u32) (lo:=lo) hb (d:=d) (i:=i0) (by omega);obtain ⟨st1,st2⟩:=fA (kd:=.u32) (lo:=lo) hb (d:=d) (i:=i2) (j:=i0) (by omega) (by omega);have hsz:(swp d i2 i0).size=n:=by rw [cB]; exact hd
  have hK:Kz b lo d (min lo b) (swp d i2 i0):=.inl (by omega);generalize swp d i2 i0=dS at *;generalize d[i2]! = x at *;generalize d[i0]! = y at *;generalize d.setIfInBounds i2 y=d1 at *;generalize Mz .u32 bs b d lo=M0 at *;by_cases hp2:p>=2
  . have hp2':(p:Int)>=2:=by omega
    rw [if_pos hp2];obtain ⟨loA,a1,a2,a3⟩:=PE h334 hb hn (cap:=cap) (.d (i64 a)) (.d (i64 e)) (.d (i64 i2)) (.d (i64 k)) i0 dS (min lo b) (by omega) hsz;generalize shiftDown ltInt i0 dS=dA at *;by_cases hq2:q>=2
    . have hq2':(q:Int)>=2:=by omega
      rw [if_pos hq2];obtain ⟨loB,b1,b2,b3⟩:=Gh h334 hb hn he (cap:=cap) (.d (i64 a)) (.d (i64 i2)) (.d (i64 k)) (e-i3) i3 dA loA (br _) (by omega) (by omega) a3;generalize shiftUp ltInt e i3 dA=dB at *;obtain ⟨lo',ex,ev,r0,r1,r2,r3⟩:=ih i2 dB loB (by omega) (by omega) (by omega) b3;refine ⟨lo',ex,ev,r0,?_,hK.trans (a2.trans (b2.trans r2)),r3⟩;rw [hk1] at r1;rw [key];generalize hM1:Mz .u32 bs b d1=M1 at *;simp +decide [iX,hk5];rw [aj];try simp at u
      try simp [-aC,-aL] at st2
      simp +decide [u,h1',wl,h2',w0,wp,ix2,ix0,l2,l0,st1,st2,hp2',-aC,-aL];rw [aj];try simp at a1
      simp +decide [a1,w3,wq,hq2'];rw [aj];try simp at b1
      simp [b1,wk];simpa using r1
    . have hq2':¬ (q:Int)>=2:=by omega
      rw [if_neg hq2];obtain ⟨lo',ex,ev,r0,r1,r2,r3⟩:=ih i2 dA loA (by omega) (by omega) (by omega) a3;refine ⟨lo',ex,ev,r0,?_,hK.trans (a2.trans r2),r3⟩;rw [hk1] at r1;rw [key];generalize hM1:Mz .u32 bs b d1=M1 at *;simp +decide [iX,hk5];rw [aj];try simp at u
      try simp [-aC,-aL] at st2
      simp +decide [u,h1',wl,h2',w0,wp,ix2,ix0,l2,l0,st1,st2,hp2',-aC,-aL];rw [aj];try simp at a1
      simp +decide [a1,wq,hq2',wk];simpa using r1
  . have hp2':¬ (p:Int)>=2:=by omega
    rw [if_neg hp2];by_cases hq2:q>=2
    . have hq2':(q:Int)>=2:=by omega
      rw [if_pos hq2];obtain ⟨loB,b1,b2,b3⟩:=Gh h334 hb hn he (cap:=cap) (.d (i64 a)) (.d (i64 i2)) (.d (i64 k)) (e-i3) i3 dS (min lo b) (br _) (by omega) (by omega) hsz;generalize shiftUp ltInt e i3 dS=dB at *;obtain ⟨lo',ex,ev,r0,r1,r2,r3⟩:=ih i2 dB loB (by omega) (by omega) (by omega) b3;refine ⟨lo',ex,ev,r0,?_,hK.trans (b2.trans r2),r3⟩;rw [hk1] at r1;rw [key];generalize hM1:Mz .u32 bs b d1=M1 at *;simp +decide [iX,hk5];rw [aj];try simp at u
      try simp [-aC,-aL] at st2
      simp +decide [u,h1',wl,h2',w0,w3,wp,wq,ix2,ix0,l2,l0,st1,st2,hp2',hq2',-aC,-aL];rw [aj];try simp at b1
      simp [b1,wk];simpa using r1
    . have hq2':¬ (q:Int)>=2:=by omega
      rw [if_neg hq2];obtain ⟨lo',ex,ev,r0,r1,r2,r3⟩:=ih i2 dS (min lo b) (by omega) (by omega) (by omega) hsz;refine ⟨lo',ex,ev,r0,?_,hK.trans r2,r3⟩;rw [hk1] at r1;rw [key];generalize hM1:Mz .u32 bs b d1=M1 at *;simp +decide [iX,hk5];rw [aj];try simp at u
      try simp [-aC,-aL] at st2
      simp +decide [u,h1',wl,h2',w0,wp,wq,ix2,ix0,l2,l0,st1,st2,hp2',hq2',wk,-aC,-aL];simpa using r1
theorem bk0 {bs:List Blk}{b:Nat}(hb:b<bs.length){n a e:Nat}(hn:n<2 ^ 60)(ha:a<e)(he:e<=n){cap:Option Nat}(d:Array Int)(lo:Nat)(hd:d.size=n) :
 ∃ lo',Sm E TS aR 263 [.row b 0 n cap 1,.d (i64 a),.d (i64 e)] (Mz .u32 bs b d lo)=some (bl (partialInsertionSort ltInt d a e).2,Mz .u32 bs b (partialInsertionSort ltInt d a e).1 lo')/\Kz b lo d lo' (partialInsertionSort ltInt d a e).1/\(partialInsertionSort ltInt d a e).1.size=n:=by
 obtain ⟨i,hi⟩:∃ k,a+1=k:=⟨_,rfl⟩;have wi:=gX (x:=a) (k:=i) hi (by omega);have hM:(⟨(Mz .u32 bs b d lo).bs,bs.length⟩:Hp)=Mz .u32 bs b d bs.length:=rfl;have hl:(Mz .u32 bs b d lo).bs.length=bs.length:=by simp [Mz,Mr]
 obtain ⟨lo1,ex,ev,q0,q1,q2,q3⟩:=NQ h334 hb hn ha he (cap:=cap) 5 i d bs.length (br _) (by omega) (by omega) hd;have hS:partialInsertionSort ltInt d a e=partialIns ltInt a e 5 i d:=by unfold partialInsertionSort; rw [hi]
 rw [hS];generalize partialIns ltInt a e 5 i d=R at *;obtain ⟨D,r⟩:=R;simp only at *;obtain ⟨lo2,r1,r2⟩:=kX (kd:=.u32) (lo:=lo) (r:=bl r) hb rfl q2;refine ⟨lo2,?_,r2,q3⟩;rw [av cr2 dy1,hl,hM];refine Eq.trans ?_ r1
 congr 1
 generalize Mz .u32 bs b d bs.length=M0 at *;generalize Mz .u32 bs b D lo1=M1 at *;simp [aa,UF,wi];rw [aj];try simp at q1
 obtain ⟨rfl,rfl⟩ | ⟨rfl,rfl,rfl⟩:=q0<;>simp [q1,bf]
end
end
section
open Go.Sort (swp ltInt PermIn permIn_trans permIn_refl swp_permIn)
theorem cq9:TS 260=some UD:=by kernel_rfl
theorem dx8:aR 260=false:=by kernel_rfl
theorem cr6:TS 327=some UX:=by kernel_rfl
theorem dy4:aR 327=true:=by kernel_rfl
theorem cr7:TS 328=some UY:=by kernel_rfl
theorem dy5:aR 328=false:=by kernel_rfl
theorem cq7:TS 197=none:=by kernel_rfl
theorem xM (k:IntKind)(a b:Int):∃ y,bR .xor (.d (.int k a)) (.d (.int k b))=some (.int k y):=⟨k.wrap ((BitVec.ofInt k.bits a ^^^ BitVec.ofInt k.bits b).toNat),by simp [bR,eZ]⟩
theorem Cu (k k':IntKind)(a:Int){b:Int}(hb:0<=b):∃ y,bR .shl (.d (.int k a)) (.d (.int k' b))=some (.int k y):=⟨k.wrap (a * 2 ^ (min b.toNat k.bits)),by simp [bR,show ¬ b<0 by omega]⟩
theorem LV (k k':IntKind)(a:Int){b:Int}(hb:0<=b):∃ y,bR .shr (.d (.int k a)) (.d (.int k' b))=some (.int k y):=⟨a.fdiv (2 ^ (min b.toNat k.bits)),by simp [bR,show ¬ b<0 by omega]⟩
theorem Jl (x:Int){k:Nat}(hk:k<2 ^ 62):∃ y:Nat,y<=k/\bR .and (.d (.int .u64 x)) (.d (.int .u64 k))=some (.int .u64 y):=by
 have h1:(BitVec.ofInt 64 x &&& BitVec.ofInt 64 (k:Int)).toNat<=k:=by
  rw [BitVec.toNat_and];have h2:(BitVec.ofInt 64 (k:Int)).toNat=k:=by
   rw [BitVec.toNat_ofInt];omega
  rw [h2];exact Nat.and_le_right
 refine ⟨_,h1,?_⟩;simp only [bR,if_true,eZ]
 congr 2
 generalize hy:(BitVec.ofInt 64 x &&& BitVec.ofInt 64 (k:Int)).toNat=y at *;have:(BitVec.ofInt IntKind.u64.bits x &&& BitVec.ofInt IntKind.u64.bits (k:Int)).toNat=y:=hy;rw [this];simp [wrap,IntKind.bits,IntKind.signed];omega
abbrev Mx (bs:List Blk) (b:Nat) (d:Array Int) (s:Int) (lo:Nat):Hp:=Mz .u32 (bs++[.cells [.d (u64 s)]]) b d lo
theorem QZ {bs:List Blk}{b:Nat}{d:Array Int}{s:Int}{lo:Nat}:(Mx bs b d s lo).bs.length=bs.length+1:=by simp [Mx,Mz,Mr]
theorem Ja {bs:List Blk}{b:Nat}(hb:b<bs.length){d:Array Int}{s:Int}{lo:Nat}:au (Mx bs b d s lo).bs bs.length=some [.d (u64 s)]:=by
 simp only [Mx,Mz,Mr,au];rw [ac (by omega)];simp
theorem EG {bs:List Blk}{b:Nat}(hb:b<bs.length){d:Array Int}{s:Int}{lo:Nat}:ldv (Mx bs b d s lo) (.ptr bs.length 0) 1 true=some (.d (u64 s),Mx bs b d s lo):=by
 have h:=Ja hb (d:=d) (s:=s) (lo:=lo);generalize Mx bs b d s lo=M at *;simp [h]
theorem EH {bs:List Blk}{b:Nat}(hb:b<bs.length){d:Array Int}{s t:Int}{lo:Nat}:stv (Mx bs b d s lo) (.ptr bs.length 0) (.d (u64 t)) 1=some (.undef,Mx bs b d t (min lo bs.length)):=by
 have h:=Ja hb (d:=d) (s:=s) (lo:=lo);have hs:(Mx bs b d s lo).set bs.length [.d (u64 t)]=Mx bs b d t (min lo bs.length):=by
  simp only [Mx,Mz,Mr,Hp.set]
  congr 1
  rw [List.set_comm _ _ (by omega)]
  congr 1
  simp
 rw [← hs];generalize Mx bs b d s lo=M at *;simp [h]
section
variable {E:Calls'}(h241:∀ x h,E 197 [.d (u64 x)] h=some (.d (i64 (bX x)),h))
theorem bl4 {bs:List Blk}{b:Nat}(hb:b<bs.length)(d:Array Int)(r:Int)(lo:Nat):∃ r',Sm E TS aR 328 [.ptr bs.length 0] (Mx bs b d r lo)=some (.d (u64 r'),Mx bs b d r' (min lo bs.length)):=by
 obtain ⟨y1,e1⟩:=Cu .u64 .u64 r (b:=13) (by decide);obtain ⟨z1,g1⟩:=xM .u64 r y1;obtain ⟨y2,e2⟩:=LV .u64 .u64 z1 (b:=7) (by decide);obtain ⟨z2,g2⟩:=xM .u64 z1 y2;obtain ⟨y3,e3⟩:=Cu .u64 .u64 z2 (b:=17) (by decide);obtain ⟨z3,g3⟩:=xM .u64 z2 y3;have hl:=QZ (bs:=bs) (b:=b) (d:=d) (s:=r) (lo:=lo);have hM:(⟨(Mx bs b d r lo).bs,bs.length+1⟩:Hp)=Mx bs b d r (bs.length+1):=rfl;have l0:=EG hb (d:=d) (s:=r) (lo:=bs.length+1);have s1:=EH hb (d:=d) (s:=r) (t:=z1) (lo:=bs.length+1);have hm:min (bs.length+1) bs.length=bs.length:=by omega
 rw [hm] at s1;have l1:=EG hb (d:=d) (s:=z1) (lo:=bs.length);have s2:=EH hb (d:=d) (s:=z1) (t:=z2) (lo:=bs.length);rw [Nat.min_self] at s2;have l2:=EG hb (d:=d) (s:=z2) (lo:=bs.length);have s3:=EH hb (d:=d) (s:=z2) (t:=z3) (lo:=bs.length);rw [Nat.min_self] at s3;have l3:=EG hb (d:=d) (s:=z3) (lo:=bs.length);refine ⟨z3,?_⟩;have hbr:fQ (Mx bs b d r lo) (some (.d (u64 z3),Mx bs b d z3 bs.length))=some (.d (u64 z3),Mx bs b d z3 (min lo bs.length)):=by
  rw [gY,hl,if_neg (λhh=>by have:=hh.1; simp only [Mx,Mz,Mr] at this; omega)];rfl
 rw [av cr7 dy5,hl,hM];refine Eq.trans ?_ hbr
 congr 1
 generalize Mx bs b d r (bs.length+1)=M0 at *;generalize Mx bs b d z1 bs.length=M1 at *;generalize Mx bs b d z2 bs.length=M2 at *;generalize Mx bs b d z3 bs.length=M3 at *;simp +decide [aa,UY,l0,l1,l2,l3,s1,s2,s3,e1,e2,e3,g1,g2,g3,bf,-aC,-aL]
include h241
theorem bl3 {l:Nat}(h0:0<l)(hl:l<2 ^ 60):∃ m:Nat,l<m/\m<=2 * l/\∀ h,Sm E TS aR 327 [.d (i64 l)] h=some (.d (u64 m),h):=by
 obtain ⟨a0,a1,a2⟩:=Bt (x:=(l:Int)) (by omega) (by omega);have a2:=a2 (by omega);obtain ⟨k,hk⟩:∃ k:Nat,bX l=k:=⟨(bX l).toNat,by omega⟩;have hkn:(bX l).toNat=k:=by omega
 rw [hkn] at a1 a2;have hp:(2:Int) ^ k=((2 ^ k:Nat):Int):=by simp
 rw [hp] at a1 a2;refine ⟨2 ^ k,by omega,by omega,λh=>?_⟩;have hk63:k<64:=by
  have:=Nat.pow_lt_pow_iff_right (a:=2) (n:=k) (m:=64) (by decide);exact this.1 (by omega)
 have hw:wrap .u64 (l:Int)=(l:Int):=by simp [wrap,IntKind.bits,IntKind.signed]; omega
 have hs:bR .shl (.d (.int .u64 1)) (.d (.int .i64 (k:Int)))=some (.int .u64 ((2 ^ k:Nat):Int)):=by
  have hmin:min k 64=k:=by omega
  simp only [bR,show ¬ ((k:Int)<0) by omega,if_false,Int.toNat_natCast,show IntKind.u64.bits=64 from rfl,hmin]
  congr 2
  rw [hp];generalize 2 ^ k=m at *;simp [wrap,IntKind.bits,IntKind.signed]; omega
 have n241:∀ x h,Sm E TS aR 197 [.d (u64 x)] h=some (.d (i64 (bX x)),h):=λx h=>by rw [aG cq7]; exact h241 x h
 rw [aN cr6 dy4];generalize 2 ^ k=m at *;simp +decide [aa,UX,hw,n241,hk,hs]
omit h241 in
theorem M9 {bs:List Blk}{b:Nat}(hb:b<bs.length){n a l m:Nat}(hn:n<2 ^ 60)(hl:8<=l)(hal:a+l<=n)(hm0:l<m)(hm:m<=2 * l){cap:Option Nat}:∀ (k i:Nat) (d:Array Int) (r:Int) (lo:Nat),i+k=a+l / 4 * 2+2->a<=i->d.size=n →
 ∃ d' r' lo',Cd E TS aR (.loop [0,1,6,7,8,9] lh) [(0,.row b 0 n cap 1),(1,.d (i64 a)),(6,.d (i64 l)),(7,.ptr bs.length 0),(8,.d (u64 m)),(9,.d (i64 i))] (Mx bs b d r lo)=some (.exit 0,[],Mx bs b d' r' lo')/\PermIn a (a+l) d d'/\(lo'<=b\/k=0):=by
 intro k;have key:=ax (E:=E) (T:=TS) (val:=aR) [0,1,6,7,8,9] lh;generalize Cd E TS aR (.loop [0,1,6,7,8,9] lh)=W at key ⊢;obtain ⟨q,hq⟩:∃ j,l / 4=j:=⟨_,rfl⟩;obtain ⟨q2,hq2⟩:∃ j,q * 2=j:=⟨_,rfl⟩;obtain ⟨t,ht⟩:∃ j,a+q2=j:=⟨_,rfl⟩;obtain ⟨t1,ht1⟩:∃ j,t+1=j:=⟨_,rfl⟩;have wq:bR .quo (.d (.int .i64 l)) (.d (.int .i64 4))=some (.int .i64 q):=sD (x:=l) (y:=4) (z:=q) (by decide) hq (by omega);have w2:wrap .i64 ((q:Int) * 2)=(q2:Int):=P9 (x:=q) (y:=2) hq2 (by omega);have wt:=xJ (x:=a) (y:=q2) ht (by omega);have wt1:=gX (x:=t) (k:=t1) ht1 (by omega);rw [hq,hq2]
 induction k with
 | zero =>
  intro i d r lo hik hai hd;refine ⟨d,r,lo,?_,permIn_refl _ _ _,.inr rfl⟩;rw [key];simp +decide [lh,wq,w2,wt,wt1,show ¬ ((i:Int)<=(t1:Int)) from by omega]
 | succ k ih =>
  intro i d r lo hik hai hd;obtain ⟨r1,n1⟩:=bl4 (E:=E) hb d r lo;obtain ⟨m1,hm1⟩:∃ j,m=j+1:=⟨m-1,by omega⟩;have wm:wrap .u64 ((m:Int)-1)=(m1:Int):=by simp [wrap,IntKind.bits,IntKind.signed]; omega
  obtain ⟨y,hy,ey⟩:=Jl r1 (k:=m1) (by omega);have wy:wrap .i64 (y:Int)=(y:Int):=by rw [wrap64]<;>omega
  have hbl:b<(bs++[Blk.cells [.d (u64 r1)]]).length:=by simp; omega
  have hit:(i:Int)<=(t1:Int):=by omega
  have ixi:=λh=>ixz (b:=b) (n:=n) (cap:=cap) (h:=h) (i:=i) (by omega);obtain ⟨i1,hi1⟩:∃ j,i+1=j:=⟨_,rfl⟩;have wi:=gX (x:=i) (k:=i1) hi1 (by omega);have go:∀ o:Nat,o<l->∃ d' r' lo',(∃ M1,stv (Mx bs b d r1 (min lo bs.length)) (.ptr b i) (.d (.int .u32 d[a+o]!)) 1=some (.undef,M1)/\stv M1 (.ptr b (a+o)) (.d (.int .u32 d[i]!)) 1=some (.undef,Mx bs b (swp d i (a+o)) r1 (min lo b))) ∧
   W [(0,.row b 0 n cap 1),(1,.d (i64 a)),(6,.d (i64 l)),(7,.ptr bs.length 0),(8,.d (u64 m)),(9,.d (i64 i1))] (Mx bs b (swp d i (a+o)) r1 (min lo b))=some (.exit 0,[],Mx bs b d' r' lo')/\PermIn a (a+l) d d'/\lo'<=b:=by
   intro o ho;obtain ⟨d',r',lo',c1,c2,c3⟩:=ih i1 (swp d i (a+o)) r1 (min lo b) (by omega) (by omega) (by rw [cB]; exact hd);obtain ⟨st1,st2⟩:=fA (kd:=.u32) (lo:=min lo bs.length) hbl (d:=d) (i:=i) (j:=a+o) (by omega) (by omega);have hmin:min (min (min lo bs.length) b) b=min lo b:=by omega
   have st2:=st2 (min (min lo bs.length) b);rw [hmin] at st2;refine ⟨d',r',lo',⟨_,st1,st2⟩,c1,permIn_trans _ _ _ _ _ (swp_permIn _ _ _ _ _ hai (by omega) (by omega) (by omega) (by omega)) c2,?_⟩;obtain c3 | rfl:=c3
   . exact c3
   . have hid:=c1;rw [key] at hid;simp +decide [lh,wq,w2,wt,wt1,show ¬ ((i1:Int)<=(t1:Int)) from by omega] at hid;have hlow:=congrArg Hp.low hid;simp only [Mx,Mz,Mr] at hlow;omega
  by_cases hyl:y>=l
  . have hyl':(y:Int)>=(l:Int):=by omega
    obtain ⟨o,ho⟩:∃ j,y=j+l:=⟨y-l,by omega⟩;have wo:=uU (x:=y) (y:=l) (k:=o) ho (by omega);obtain ⟨d',r',lo',⟨M1,st1,st2⟩,c1,c2,c3⟩:=go o (by omega);obtain ⟨ao,hao⟩:∃ j,a+o=j:=⟨_,rfl⟩;have wa:=xJ (x:=a) (y:=o) hao (by omega);have ixo:=λh=>ixz (b:=b) (n:=n) (cap:=cap) (h:=h) (i:=ao) (by omega);have li:ldv (Mx bs b d r1 (min lo bs.length)) (.ptr b i) 1 true=some (.d (.int .u32 d[i]!),Mx bs b d r1 (min lo bs.length)):=bH (kd:=.u32) hbl (d:=d) (i:=i) (by omega);have lo2:ldv (Mx bs b d r1 (min lo bs.length)) (.ptr b ao) 1 true=some (.d (.int .u32 d[ao]!),Mx bs b d r1 (min lo bs.length)):=bH (kd:=.u32) hbl (d:=d) (i:=ao) (by omega);rw [hao] at st1 st2 c1;refine ⟨d',r',lo',?_,c2,.inl c3⟩;generalize d[i]! = X at *;generalize d[ao]! = Y at *;generalize swp d i ao=d3 at *;generalize Mx bs b d r1 (min lo bs.length)=N1 at *;generalize Mx bs b d r lo=N0 at *;generalize Mx bs b d3 r1 (min lo b)=N3 at *;rw [key];simp +decide [lh,wq,w2,wt,wt1,hit,n1,wm,ey,wy,hyl',wo,wa,ixi,ixo,li,lo2,st1,st2,wi,-aC,-aL];simpa using c1
  . have hyl':¬ (y:Int)>=(l:Int):=by omega
    obtain ⟨d',r',lo',⟨M1,st1,st2⟩,c1,c2,c3⟩:=go y (by omega);obtain ⟨ao,hao⟩:∃ j,a+y=j:=⟨_,rfl⟩;have wa:=xJ (x:=a) (y:=y) hao (by omega);have ixo:=λh=>ixz (b:=b) (n:=n) (cap:=cap) (h:=h) (i:=ao) (by omega);have li:ldv (Mx bs b d r1 (min lo bs.length)) (.ptr b i) 1 true=some (.d (.int .u32 d[i]!),Mx bs b d r1 (min lo bs.length)):=bH (kd:=.u32) hbl (d:=d) (i:=i) (by omega);have lo2:ldv (Mx bs b d r1 (min lo bs.length)) (.ptr b ao) 1 true=some (.d (.int .u32 d[ao]!),Mx bs b d r1 (min lo bs.length)):=bH (kd:=.u32) hbl (d:=d) (i:=ao) (by omega);rw [hao] at st1 st2 c1;refine ⟨d',r',lo',?_,c2,.inl c3⟩;generalize d[i]! = X at *;generalize d[ao]! = Y at *;generalize swp d i ao=d3 at *;generalize Mx bs b d r1 (min lo bs.length)=N1 at *;generalize Mx bs b d r lo=N0 at *;generalize Mx bs b d3 r1 (min lo b)=N3 at *;rw [key];simp +decide [lh,wq,w2,wt,wt1,hit,n1,wm,ey,wy,hyl',wa,ixi,ixo,li,lo2,st1,st2,wi,-aC,-aL];simpa using c1
end
end
section
open Go.Sort (swp ltInt PermIn permIn_trans permIn_refl)
section
variable {E:Calls'}(h241:∀ x h,E 197 [.d (u64 x)] h=some (.d (i64 (bX x)),h))
include h241
theorem bj7 {bs:List Blk}{b:Nat}(hb:b<bs.length){n a e:Nat}(hn:n<2 ^ 59)(ha:a+12<e)(he:e<=n){cap:Option Nat}(d:Array Int)(lo:Nat)(hd:d.size=n) :
 ∃ ys d' lo',Sm E TS aR 260 [.row b 0 n cap 1,.d (i64 a),.d (i64 e)] (Mz .u32 bs b d lo)=some (.tup [],Mz .u32 (bs++ys) b d' lo')/\PermIn a e d d'/\lo'<=b:=by
 obtain ⟨l,hl⟩:∃ j,e-a=j:=⟨_,rfl⟩;obtain ⟨q,hq⟩:∃ j,l / 4=j:=⟨_,rfl⟩;obtain ⟨q2,hq2⟩:∃ j,q * 2=j:=⟨_,rfl⟩;obtain ⟨t,ht⟩:∃ j,a+q2=j:=⟨_,rfl⟩;obtain ⟨i,hi⟩:∃ j,t=j+1:=⟨t-1,by omega⟩;have wl:=uU (x:=e) (y:=a) (k:=l) (by omega) (by omega);have wu:wrap .u64 (l:Int)=(l:Int):=by simp [wrap,IntKind.bits,IntKind.signed]; omega
 have wq:bR .quo (.d (.int .i64 l)) (.d (.int .i64 4))=some (.int .i64 q):=sD (x:=l) (y:=4) (z:=q) (by decide) hq (by omega);have w2:wrap .i64 ((q:Int) * 2)=(q2:Int):=P9 (x:=q) (y:=2) hq2 (by omega);have wt:=xJ (x:=a) (y:=q2) ht (by omega);have wi:=gM (x:=t) (k:=i) hi (by omega);obtain ⟨m,hm0,hm1,n375⟩:=bl3 h241 (l:=l) (by omega) (by omega);obtain ⟨d',r',lo1,c1,c2,c3⟩:=M9 (E:=E) hb (n:=n) (a:=a) (l:=l) (m:=m) (by omega) (by omega) (by omega) hm0 hm1 (cap:=cap) 3 i d l bs.length (by omega) (by omega) hd;have c3:lo1<=b:=by omega
 rw [show a+l=e by omega] at c2;have hM:(⟨(Mz .u32 bs b d lo).bs,bs.length⟩:Hp)=Mz .u32 bs b d bs.length:=rfl;have hlen:(Mz .u32 bs b d lo).bs.length=bs.length:=by simp [Mz,Mr]
 have hlen0:(Mz .u32 bs b d bs.length).bs.length=bs.length:=by simp [Mz,Mr]
 have hnew:(Mz .u32 bs b d bs.length).alloc [.d (.int .u64 0)]=Mx bs b d 0 bs.length:=by
  simp only [Mx,Mz,Mr,Hp.alloc]
  congr 1
  rw [List.set_append_left _ _ (by simpa using hb)]
 have hst:=EH hb (d:=d) (s:=0) (t:=(l:Int)) (lo:=bs.length);rw [Nat.min_self] at hst;refine ⟨[.cells [.d (u64 r')]],d',min lo lo1,?_,c2,by omega⟩;have hbr:fQ (Mz .u32 bs b d lo) (some (.tup [],Mx bs b d' r' lo1))=some (.tup [],Mz .u32 (bs++[.cells [.d (u64 r')]]) b d' (min lo lo1)):=by
  rw [gY,hlen,if_neg (λhh=>by have:=hh.1; simp only [Mx,Mz,Mr] at this; omega)];rfl
 rw [av cq9 dx8,hlen,hM];refine Eq.trans ?_ hbr
 congr 1
 generalize Mz .u32 bs b d bs.length=M0 at *;generalize Mx bs b d 0 bs.length=M1 at *;generalize Mx bs b d (l:Int) bs.length=M2 at *;generalize Mx bs b d' r' lo1=M3 at *;simp +decide [aa,UD,wl,wu,show (l:Int)>=8 from by omega,hlen0,hnew,hst,n375,wq,w2,wt,wi,-aC,-aL];rw [aj];try simp at c1
 simp [c1];rfl
end
end
section
open Go.Sort (swp ltInt PermIn SortedIn Below SWO permIn_trans permIn_refl partition partitionEqual partialInsertionSort choosePivot reverseRange round_eq round_part partition_holds partitionEqual_holds Hint)
def BP:QC:=(.seq (.seq (.reg (some [[],[0],[1,0],[2,1,0],[2,1,0],[4,2,1,0],[3,5,4,2,1,0],[6,3,5,4,2,1,0],[2,1,0],[2,1,0],[8,9,2,1,0],[10,8,9,2,1,0],[7,6,3,5,4,11,10,8,9,2,1,0],[12,7,6,3,5,4,11,10,8,9,2,1,0],[13,12,7,6,3,5,4,11,10,8,9,2,1,0]]) [mv 73 1,op 74 (bc .gtr 73 0),mv 75 74,ot 75 76 (.mov (.t 0)),ot 75 77 (.mov (.t 1)),ot 75 78 (bc .sub 77 1),ot 75 79 (ia 1 76 78),ot 75 80 (l1' 79),ot 75 81 (.mov (.t 0)),ot 75 82 (.mov (.t 11)),ot 75 83 (ia 1 81 82),ot 75 84 (l1' 83),ot 75 85 (kc' 264 [.t 80,.t 84]),ot 75 86 (.un .not (.t 85)),op 87 (.pick (.t 75) (.t 86) (.c zb))]) (.cond (.t 87) (sr [mv 88 0,mv 89 1,mv 90 2,mv 91 11,op 92 (kc' 265 [.t 88,.t 89,.t 90,.t 91]),mv 13 92] (sr [mv 93 13,mv 1 93] (.exit 1 [0,1,2,3,8,9]))) .skip)) (sr [mv 95 0,mv 96 1,mv 97 2,mv 98 11,op 99 (kc' 266 [.t 95,.t 96,.t 97,.t 98]),mv 94 99,op 100 (.ext (.t 94) 0),op 101 (.ext (.t 94) 1),mv 14 100,mv 15 101] (sr [mv 102 15,mv 9 102] (sr [mv 103 14,mv 104 1,op 105 (bt .sub 103 104),mv 106 2,mv 107 14,op 108 (bt .sub 106 107),mv 16 105,mv 17 108] (sr [mv 109 10,op 110 (bc .quo 109 8),mv 18 110] (sr [mv 111 16,mv 112 17,op 113 (bt .lss 111 112)] (.cond (.t 113) (sr [mv 114 16,mv 115 18,op 116 (bt .geq 114 115),mv 8 116] (sr [mv 117 0,mv 118 1,mv 119 14,mv 120 3,op 121 (kc' 196 [.t 117,.t 118,.t 119,.t 120])] (.reg none [mv 122 14,op 123 (bc .add 122 1),mv 1 123]))) (sr [mv 124 17,mv 125 18,op 126 (bt .geq 124 125),mv 8 126] (sr [mv 127 0,mv 128 14,op 129 (bc .add 128 1),mv 130 2,mv 131 3,op 132 (kc' 196 [.t 127,.t 129,.t 130,.t 131])] (.reg none [mv 133 14,mv 2 133]))))))))))
def BO:QC:=(.seq (sr [mv 61 8,mv 62 61,ot 62 63 (.mov (.t 9)),op 64 (.pick (.t 62) (.t 63) (.c zb)),mv 65 64,ot 65 66 (.mov (.t 12)),ot 65 67 (.eq (.sc (.i .i64)) false (.t 66) (ci 1)),op 68 (.pick (.t 65) (.t 67) (.c zb))] (.cond (.t 68) (sr [mv 69 0,mv 70 1,mv 71 2,op 72 (kc' 263 [.t 69,.t 70,.t 71])] (.cond (.t 72) (.ret []) .skip)) .skip)) BP)
def KS:QC:=(sr [mv 43 0,mv 44 1,mv 45 2,op 46 (kc' 261 [.t 43,.t 44,.t 45]),mv 42 46,op 47 (.ext (.t 42) 0),op 48 (.ext (.t 42) 1),mv 11 47,mv 12 48] (.seq (sr [mv 49 12,op 50 (.eq (.sc (.i .i64)) false (.t 49) (ci 2))] (.cond (.t 50) (sr [mv 51 0,mv 52 1,mv 53 2,op 54 (kc' 262 [.t 51,.t 52,.t 53])] (sr [mv 55 2,op 56 (bc .sub 55 1),mv 57 11,mv 58 1,op 59 (bt .sub 57 58),op 60 (bt .sub 56 59),mv 11 60] (.reg none [oc' 12 1]))) .skip)) BO))
theorem KT:nI=.block 1 (.seq (.reg none [⟨none,some 19,.mov (.t 2)⟩,⟨none,some 20,.mov (.t 1)⟩,⟨none,some 21,.bin .sub (.t 19) (.t 20)⟩,⟨none,some 10,.mov (.t 21)⟩]) (.seq (.seq (.reg none [⟨none,some 22,.mov (.t 10)⟩,⟨none,some 23,.bin .leq (.t 22) (.c (.d (.int .i64 12)))⟩]) (.cond (.t 23) (.seq (.reg none [⟨none,some 24,.mov (.t 0)⟩,⟨none,some 25,.mov (.t 1)⟩,⟨none,some 26,.mov (.t 2)⟩,⟨none,some 27,.call (.c (.fn 258 [])) [.t 24,.t 25,.t 26]⟩]) (.ret [])) .skip)) (.seq (.seq (.reg none [⟨none,some 28,.mov (.t 3)⟩,⟨none,some 29,.eq (.sc (.i .i64)) false (.t 28) (.c (.d (.int .i64 0)))⟩]) (.cond (.t 29) (.seq (.reg none [⟨none,some 30,.mov (.t 0)⟩,⟨none,some 31,.mov (.t 1)⟩,⟨none,some 32,.mov (.t 2)⟩,⟨none,some 33,.call (.c (.fn 259 [])) [.t 30,.t 31,.t 32]⟩]) (.ret [])) .skip)) (.seq (.seq (.reg none [⟨none,some 34,.mov (.t 8)⟩,⟨none,some 35,.un .not (.t 34)⟩]) (.cond (.t 35) (.seq (.reg none [⟨none,some 36,.mov (.t 0)⟩,⟨none,some 37,.mov (.t 1)⟩,⟨none,some 38,.mov (.t 2)⟩,⟨none,some 39,.call (.c (.fn 260 [])) [.t 36,.t 37,.t 38]⟩]) (.reg none [⟨none,some 40,.mov (.t 3)⟩,⟨none,some 41,.bin .sub (.t 40) (.c (.d (.int .i64 1)))⟩,⟨none,some 3,.mov (.t 41)⟩])) .skip)) KS)))):=rfl
theorem Vx:TS 196=some H9:=by kernel_rfl
theorem VW:aR 196=false:=by kernel_rfl
theorem IQ:SWO ltInt:=⟨λx=>by simp [ltInt],λx y z h1 h2=>by simp [ltInt] at *; omega,λx y z h1 h2=>by simp [ltInt] at *; omega⟩
def Kq (b lo:Nat)(d:Array Int)(ys:List Blk)(lo':Nat)(d':Array Int):Prop:=lo'<=b\/(d'=d/\ys=[]/\lo'=lo)
theorem Kq.of {b lo lo':Nat}{d d':Array Int}(h:Kz b lo d lo' d'):Kq b lo d [] lo' d':=by
 obtain h | ⟨h1,h2⟩:=h
 . exact .inl h
 . exact .inr ⟨h1,rfl,h2⟩
theorem Kq.trans {b lo lo' lo'':Nat}{d d' d'':Array Int}{ys zs:List Blk}(h:Kq b lo d ys lo' d')(k:Kq b lo' d' zs lo'' d''):Kq b lo d (ys++zs) lo'' d'':=by
 obtain k | ⟨rfl,rfl,rfl⟩:=k
 . exact .inl k
 . obtain h | ⟨rfl,rfl,rfl⟩:=h
   . exact .inl h
   . exact .inr ⟨rfl,rfl,rfl⟩
def EM (E:Calls')(b n:Nat)(cap:Option Nat)(lim x y:Nat):Prop:=∀ (bs:List Blk) (d:Array Int) (lo:Nat),b<bs.length->x<=y->y<=n->d.size=n->Below ltInt x y d →
 ∃ ys d' lo',Sm E TS aR 196 [.row b 0 n cap 1,.d (i64 x),.d (i64 y),.d (i64 lim)] (Mz .u32 bs b d lo)=some (.tup [],Mz .u32 (bs++ys) b d' lo')/\PermIn x y d d'/\SortedIn ltInt x y d'/\Kq b lo d ys lo' d'
def Round (E:Calls')(b n:Nat)(cap:Option Nat)(lim a e:Nat)(bs:List Blk)(d:Array Int)(lo:Nat)(o:jf):Prop :=
 (∃ ys d' lo',o=some (.ret,[],Mz .u32 (bs++ys) b d' lo')/\PermIn a e d d'/\SortedIn ltInt a e d'/\Kq b lo d ys lo' d') ∨
 (∃ (a2 e2:Nat) (wb2 wp2:Bool) (ys:List Blk) (d2:Array Int) (lo2:Nat),(∀ W,iw [0,1,2,3,8,9] W (leave 1 o)=W [(0,.row b 0 n cap 1),(1,.d (i64 a2)),(2,.d (i64 e2)),(3,.d (i64 lim)),(8,bl wb2),(9,bl wp2)] (Mz .u32 (bs++ys) b d2 lo2)) ∧
  a2<=e2/\e2<=e/\e2-a2<e-a/\d2.size=n/\Below ltInt a2 e2 d2/\(∀ R,PermIn a2 e2 d2 R->SortedIn ltInt a2 e2 R->PermIn a e d R/\SortedIn ltInt a e R)/\Kq b lo d ys lo2 d2)
section
variable {E:Calls'}(h334:∀ x y h,E 264 [.d (u32 x),.d (u32 y)] h=some (bl (ltInt x y),h))
include h334
theorem Ho {bs:List Blk}{b:Nat}(hb:b<bs.length){n a e p lim:Nat}(hn:n<2 ^ 59)(ha:a+12<e)(he:e<=n)(hp1:a<=p)(hp2:p<e){cap:Option Nat}(d:Array Int)(lo:Nat)(hd:d.size=n)(hB:Below ltInt a e d)(wb wp:Bool)
 (hrec:∀ x y,y-x<e-a->EM E b n cap lim x y) {ev:EA} (g0:ev.get 0=.row b 0 n cap 1) (g1:ev.get 1=.d (i64 a)) (g2:ev.get 2=.d (i64 e)) (g3:ev.get 3=.d (i64 lim)) (g8:ev.get 8=bl wb) (g9:ev.get 9=bl wp) (g10:ev.get 10=.d (i64 ((e-a:Nat):Int))) (g11:ev.get 11=.d (i64 p)) :
 Round E b n cap lim a e bs d lo (Cd E TS aR BP ev (Mz .u32 bs b d lo)):=by
 right;have hn60:n<2 ^ 60:=by omega
 have c:=λx y h=>tu h334 x y h;have ixp:=λh=>ixz (b:=b) (n:=n) (cap:=cap) (h:=h) (i:=p) (by omega);have lp:=bH (kd:=.u32) (lo:=lo) hb (d:=d) (i:=p) (by omega);by_cases heq:0<a/\ltInt d[a-1]! d[p]! = false
 . obtain ⟨h0,hnl⟩:=heq;obtain ⟨a0,ha0⟩:∃ j,a=j+1:=⟨a-1,by omega⟩;have w0:=gM (x:=a) (k:=a0) ha0 (by omega);rw [show a-1=a0 by omega] at hnl;have ix0:=λh=>ixz (b:=b) (n:=n) (cap:=cap) (h:=h) (i:=a0) (by omega);have l0:=bH (kd:=.u32) (lo:=lo) hb (d:=d) (i:=a0) (by omega);obtain ⟨lo1,q1,q2,q3⟩:=bk4 h334 hb hn60 (a:=a) (e:=e) (p:=p) (by omega) he (by omega) (cap:=cap) d lo hd;obtain ⟨r1,r2,r3,r4,r5⟩:=round_eq IQ (partitionEqual_holds ltInt) (d4:=(partitionEqual ltInt d a e p).2) (mid:=(partitionEqual ltInt d a e p).1) h0 hp1 hp2 (by omega) hB (by rw [show a-1=a0 by omega]; exact hnl) rfl;generalize partitionEqual ltInt d a e p=R at *;obtain ⟨mid,d4⟩:=R;simp only at *;refine ⟨mid,e,wb,wp,[],d4,lo1,λW=>?_,r2,br _,by omega,q3,r4,r5,.of q2⟩;have hag:(a:Int)>0:=by omega
   rw [List.append_nil];generalize d[a0]! = X at *;generalize d[p]! = Y at *;generalize Mz .u32 bs b d lo=M0 at *;simp +decide [BP,g0,g1,g2,g3,g8,g9,g11,h0,w0,ix0,l0,ixp,lp,c,hnl,q1,aA,ae,ay,Tr.mute,-aC,-aL]
 . have hcond:(0<a->ltInt d[a-1]! d[p]! = true):=λh=>by
    cases hx:ltInt d[a-1]! d[p]! with
    | true=>rfl
    | false=>exact absurd ⟨h,hx⟩ heq
   obtain ⟨lo1,q1,q2,q3⟩:=bk5 h334 hb hn60 (a:=a) (e:=e) (p:=p) (by omega) he (by omega) (cap:=cap) d lo hd;obtain ⟨r1,r2,r3,r4,r5,r6,r7⟩:=round_part IQ (partition_holds ltInt) (d4:=(partition ltInt d a e p).2.2) (mid:=(partition ltInt d a e p).1) (ap:=(partition ltInt d a e p).2.1) hp1 hp2 (by omega) hB rfl;generalize partition ltInt d a e p=R at *;obtain ⟨mid,ap,d4⟩:=R;simp only at *;obtain ⟨lf,hlf⟩:∃ j,mid-a=j:=⟨_,rfl⟩;obtain ⟨rg,hrg⟩:∃ j,e-mid=j:=⟨_,rfl⟩;obtain ⟨l,hl⟩:∃ j,e-a=j:=⟨_,rfl⟩;obtain ⟨th,hth⟩:∃ j,l / 8=j:=⟨_,rfl⟩;obtain ⟨m1,hm1⟩:∃ j,mid+1=j:=⟨_,rfl⟩;have wlf:=uU (x:=mid) (y:=a) (k:=lf) (by omega) (by omega);have wrg:=uU (x:=e) (y:=mid) (k:=rg) (by omega) (by omega);have wth:bR .quo (.d (.int .i64 l)) (.d (.int .i64 8))=some (.int .i64 th):=sD (x:=l) (y:=8) (z:=th) (by decide) hth (by omega);have wm1:=gX (x:=mid) (k:=m1) hm1 (by omega);rw [hl] at g10;rw [hm1] at r5 r6 r7;by_cases hlr:lf<rg
   . have hlr':(lf:Int)<(rg:Int):=by omega
     obtain ⟨ys,L,lo2,s1,s2,s3,s4⟩:=hrec a mid (by omega) bs d4 lo1 hb r1 (by omega) q3 r4;obtain ⟨t1,t2⟩:=r6 L s2 s3;refine ⟨m1,e,decide ((lf:Int)>=(th:Int)),ap,ys,L,lo2,λW=>?_,by omega,br _,by omega,s2.1.trans q3,t1,t2,?_⟩
     . by_cases h0:0<a
       . have hag:(a:Int)>0:=by omega
         obtain ⟨a0,ha0⟩:∃ j,a=j+1:=⟨a-1,by omega⟩;have w0:=gM (x:=a) (k:=a0) ha0 (by omega);have hnl:=hcond h0;rw [show a-1=a0 by omega] at hnl;have ix0:=λh=>ixz (b:=b) (n:=n) (cap:=cap) (h:=h) (i:=a0) (by omega);have l0:=bH (kd:=.u32) (lo:=lo) hb (d:=d) (i:=a0) (by omega);generalize d[a0]! = X at *;generalize d[p]! = Y at *;generalize Mz .u32 bs b d lo=M0 at *;generalize Mz .u32 bs b d4 lo1=M1 at *;simp +decide [BP,g0,g1,g2,g3,g10,g11,h0,w0,ix0,l0,ixp,lp,c,hnl,q1,wlf,wrg,wth,hlr',s1,wm1,aA,ae,ay,Tr.mute,-aC,-aL]
       . have hag:¬ (a:Int)>0:=by omega
         generalize Mz .u32 bs b d lo=M0 at *;generalize Mz .u32 bs b d4 lo1=M1 at *;simp +decide [BP,g0,g1,g2,g3,g10,g11,h0,q1,wlf,wrg,wth,hlr',s1,wm1,aA,bA,ay,Tr.mute,-aC,-aL]
     . have:=Kq.trans (.of q2) s4;simpa using this
   . have hlr':¬ (lf:Int)<(rg:Int):=by omega
     obtain ⟨ys,L,lo2,s1,s2,s3,s4⟩:=hrec m1 e (by omega) bs d4 lo1 hb (by omega) he q3 r5;obtain ⟨t1,t2⟩:=r7 L s2 s3;refine ⟨a,mid,decide ((rg:Int)>=(th:Int)),ap,ys,L,lo2,λW=>?_,r1,by omega,by omega,s2.1.trans q3,t1,t2,?_⟩
     . by_cases h0:0<a
       . have hag:(a:Int)>0:=by omega
         obtain ⟨a0,ha0⟩:∃ j,a=j+1:=⟨a-1,by omega⟩;have w0:=gM (x:=a) (k:=a0) ha0 (by omega);have hnl:=hcond h0;rw [show a-1=a0 by omega] at hnl;have ix0:=λh=>ixz (b:=b) (n:=n) (cap:=cap) (h:=h) (i:=a0) (by omega);have l0:=bH (kd:=.u32) (lo:=lo) hb (d:=d) (i:=a0) (by omega);generalize d[a0]! = X at *;generalize d[p]! = Y at *;generalize Mz .u32 bs b d lo=M0 at *;generalize Mz .u32 bs b d4 lo1=M1 at *;simp +decide [BP,g0,g1,g2,g3,g10,g11,h0,w0,ix0,l0,ixp,lp,c,hnl,q1,wlf,wrg,wth,hlr',s1,wm1,aA,ae,ay,Tr.mute,-aC,-aL]
       . have hag:¬ (a:Int)>0:=by omega
         generalize Mz .u32 bs b d lo=M0 at *;generalize Mz .u32 bs b d4 lo1=M1 at *;simp +decide [BP,g0,g1,g2,g3,g10,g11,h0,q1,wlf,wrg,wth,hlr',s1,wm1,aA,bA,ay,Tr.mute,-aC,-aL]
     . have:=Kq.trans (.of q2) s4;simpa using this
end
end
section
open Go.Sort (swp ltInt PermIn SortedIn Below SWO permIn_trans permIn_refl partialInsertionSort choosePivot reverseRange partialInsertionSort_holds choosePivot_holds reverseRange_holds insertionSort_holds heapSort_holds insertionSort heapSort Hint)
theorem zq {bs ys:List Blk}{b lo lo':Nat}{d d':Array Int}(hb:b<bs.length)(hk:Kq b bs.length d ys lo' d') :
 ∃ lo2,fQ (Mz .u32 bs b d lo) (some (.tup [],Mz .u32 (bs++ys) b d' lo'))=some (.tup [],Mz .u32 (bs++ys) b d' lo2)/\Kq b lo d ys lo2 d':=by
 have hl:(Mz .u32 bs b d lo).bs.length=bs.length:=by simp [Mz,Mr]
 rw [gY,hl];obtain hk | ⟨rfl,rfl,rfl⟩:=hk
 . rw [if_neg (λhh=>by have:=hh.1; simp only [Mz,Mr] at this; omega)];exact ⟨min lo lo',rfl,.inl (by omega)⟩
 . rw [if_pos ⟨br _,rfl⟩,List.append_nil];exact ⟨lo,rfl,.inr ⟨rfl,rfl,rfl⟩⟩
theorem Round.behind {E:Calls'}{b n lim a e:Nat}{cap:Option Nat}{bs ys:List Blk}{d D:Array Int}{lo lo1:Nat}{o:jf}(hp:PermIn a e d D)(hk:Kq b lo d ys lo1 D)(h:Round E b n cap lim a e (bs++ys) D lo1 o):Round E b n cap lim a e bs d lo o:=by
 obtain ⟨zs,d',lo',h1,h2,h3,h4⟩ | ⟨a2,e2,wb2,wp2,zs,d2,lo2,h1,h2,h3,h4,h5,h6,h7,h8⟩:=h
 . exact .inl ⟨ys++zs,d',lo',by rw [h1,List.append_assoc],permIn_trans _ _ _ _ _ hp h2,h3,hk.trans h4⟩
 . exact .inr ⟨a2,e2,wb2,wp2,ys++zs,d2,lo2,λW=>by rw [h1 W,List.append_assoc],h2,h3,h4,h5,h6,λR r1 r2=>⟨permIn_trans _ _ _ _ _ hp (h7 R r1 r2).1,(h7 R r1 r2).2⟩,hk.trans h8⟩
section
variable {E:Calls'}(h334:∀ x y h,E 264 [.d (u32 x),.d (u32 y)] h=some (bl (ltInt x y),h))(h241:∀ x h,E 197 [.d (u64 x)] h=some (.d (i64 (bX x)),h))
include h334
theorem yF {bs:List Blk}{b:Nat}(hb:b<bs.length){n a e p lim:Nat}(hn:n<2 ^ 59)(ha:a+12<e)(he:e<=n)(hp1:a<=p)(hp2:p<e){cap:Option Nat}(d:Array Int)(lo:Nat)(hd:d.size=n)(hB:Below ltInt a e d)(wb wp:Bool)(hint:Hint)
 (hrec:∀ x y,y-x<e-a->EM E b n cap lim x y) {ev:EA} (g0:ev.get 0=.row b 0 n cap 1) (g1:ev.get 1=.d (i64 a)) (g2:ev.get 2=.d (i64 e)) (g3:ev.get 3=.d (i64 lim)) (g8:ev.get 8=bl wb) (g9:ev.get 9=bl wp) (g10:ev.get 10=.d (i64 ((e-a:Nat):Int))) (g11:ev.get 11=.d (i64 p)) (g12:ev.get 12=.d (i64 (jb hint))) :
 Round E b n cap lim a e bs d lo (Cd E TS aR BO ev (Mz .u32 bs b d lo)):=by
 have next:∀ (D:Array Int) (lo1:Nat),D.size=n->Below ltInt a e D->∀ ev':EA,ev'.get 0=.row b 0 n cap 1->ev'.get 1=.d (i64 a)->ev'.get 2=.d (i64 e)->ev'.get 3=.d (i64 lim)->ev'.get 8=bl wb->ev'.get 9=bl wp->ev'.get 10=.d (i64 ((e-a:Nat):Int))->ev'.get 11=.d (i64 p)->Round E b n cap lim a e bs D lo1 (Cd E TS aR BP ev' (Mz .u32 bs b D lo1)) :=
  λD lo1 h1 h2 ev' k0 k1 k2 k3 k8 k9 k10 k11=>Ho h334 hb hn ha he hp1 hp2 D lo1 h1 h2 wb wp hrec k0 k1 k2 k3 k8 k9 k10 k11
 cases wb with
 | false =>
  have nx:=next d lo hd hB
  generalize Mz .u32 bs b d lo=M0 at *;simp +decide [BO,g8];exact nx _ (by simp [g0]) (by simp [g1]) (by simp [g2]) (by simp [g3]) (by simp [g8]) (by simp [g9]) (by simp [g10]) (by simp [g11])
 | true =>
  cases wp with
  | false =>
   have nx:=next d lo hd hB
   generalize Mz .u32 bs b d lo=M0 at *;simp +decide [BO,g8,g9];exact nx _ (by simp [g0]) (by simp [g1]) (by simp [g2]) (by simp [g3]) (by simp [g8]) (by simp [g9]) (by simp [g10]) (by simp [g11])
  | true =>
   have other:jb hint≠1->Round E b n cap lim a e bs d lo (Cd E TS aR BO ev (Mz .u32 bs b d lo)):=λhne=>by
    have nx:=next d lo hd hB
    generalize Mz .u32 bs b d lo=M0 at *;simp +decide [BO,g8,g9,g12,hne];exact nx _ (by simp [g0]) (by simp [g1]) (by simp [g2]) (by simp [g3]) (by simp [g8]) (by simp [g9]) (by simp [g10]) (by simp [g11])
   cases hint with
   | unknown=>exact other (by simp [jb])
   | decreasing=>exact other (by simp [jb])
   | increasing =>
    obtain ⟨lo1,q1,q2,q3⟩:=bk0 h334 hb (by omega) (a:=a) (e:=e) (by omega) he (cap:=cap) d lo hd;obtain ⟨p1,p2⟩:=partialInsertionSort_holds IQ d a e (by omega) (by omega) hB;generalize partialInsertionSort ltInt d a e=R at *;obtain ⟨D,r⟩:=R;simp only at *;have hBD:=hB.perm (by omega) p1;cases r with
    | true =>
     refine .inl ⟨[],D,lo1,?_,p1,p2 rfl,.of q2⟩;rw [List.append_nil];generalize Mz .u32 bs b d lo=M0 at *;generalize Mz .u32 bs b D lo1=M1 at *;simp +decide [BO,g0,g1,g2,g8,g9,g12,jb,q1]
    | false =>
     have nx:=next D lo1 q3 hBD
     refine Round.behind (ys:=[]) p1 (.of q2) ?_;rw [List.append_nil];generalize Mz .u32 bs b d lo=M0 at *;generalize Mz .u32 bs b D lo1=M1 at *;simp +decide [BO,g0,g1,g2,g8,g9,g12,jb,q1];exact nx _ (by simp [g0]) (by simp [g1]) (by simp [g2]) (by simp [g3]) (by simp [g8]) (by simp [g9]) (by simp [g10]) (by simp [g11])
theorem yE {bs:List Blk}{b:Nat}(hb:b<bs.length){n a e lim:Nat}(hn:n<2 ^ 59)(ha:a+12<e)(he:e<=n){cap:Option Nat}(d:Array Int)(lo:Nat)(hd:d.size=n)(hB:Below ltInt a e d)(wb wp:Bool)
 (hrec:∀ x y,y-x<e-a->EM E b n cap lim x y) {ev:EA} (g0:ev.get 0=.row b 0 n cap 1) (g1:ev.get 1=.d (i64 a)) (g2:ev.get 2=.d (i64 e)) (g3:ev.get 3=.d (i64 lim)) (g8:ev.get 8=bl wb) (g9:ev.get 9=bl wp) (g10:ev.get 10=.d (i64 ((e-a:Nat):Int))) :
 Round E b n cap lim a e bs d lo (Cd E TS aR KS ev (Mz .u32 bs b d lo)):=by
 have c1:=bj8 h334 hb (by omega) ha he (cap:=cap) d lo hd;obtain ⟨p1,p2⟩:=choosePivot_holds ltInt d a e (by omega);generalize choosePivot ltInt d a e=C at *;obtain ⟨c,hint⟩:=C;simp only at *;have other:jb hint≠2->Round E b n cap lim a e bs d lo (Cd E TS aR KS ev (Mz .u32 bs b d lo)):=λhne=>by
  have nx:=λev' k0 k1 k2 k3 k8 k9 k10 k11 k12=>yF h334 hb hn ha he p1 p2 d lo hd hB wb wp hint hrec (ev:=ev') k0 k1 k2 k3 k8 k9 k10 k11 k12;generalize Mz .u32 bs b d lo=M0 at *;simp +decide [KS,g0,g1,g2,c1,hne];exact nx _ (by simp [g0]) (by simp [g1]) (by simp [g2]) (by simp [g3]) (by simp [g8]) (by simp [g9]) (by simp [g10]) (by simp) (by simp)
 cases hint with
 | unknown=>exact other (by simp [jb])
 | increasing=>exact other (by simp [jb])
 | decreasing =>
  obtain ⟨lo1,q1,q2,q3⟩:=bj9 (E:=E) hb (by omega) (a:=a) (e:=e) (by omega) he (cap:=cap) d lo hd;have r1:=reverseRange_holds d a e (by omega) (by omega);generalize reverseRange d a e=D at *;obtain ⟨e1,he1⟩:∃ j,e=j+1:=⟨e-1,by omega⟩;obtain ⟨ca,hca⟩:∃ j,c=j+a:=⟨c-a,by omega⟩;obtain ⟨p,hp⟩:∃ j,e1=j+ca:=⟨e1-ca,by omega⟩;have w1:=gM (x:=e) (k:=e1) he1 (by omega);have w2:=uU (x:=c) (y:=a) (k:=ca) hca (by omega);have w3:=uU (x:=e1) (y:=ca) (k:=p) hp (by omega);have nx:=λev' k0 k1 k2 k3 k8 k9 k10 k11 k12=>yF h334 hb hn ha he (p:=p) (by omega) (by omega) D lo1 q3 (hB.perm (by omega) r1) wb wp .increasing hrec (ev:=ev') k0 k1 k2 k3 k8 k9 k10 k11 k12;refine Round.behind (ys:=[]) r1 (.of q2) ?_;rw [List.append_nil];generalize Mz .u32 bs b d lo=M0 at *;generalize Mz .u32 bs b D lo1=M1 at *;simp +decide [KS,g0,g1,g2,c1,jb,q1,w1,w2,w3];exact nx _ (by simp [g0]) (by simp [g1]) (by simp [g2]) (by simp [g3]) (by simp [g8]) (by simp [g9]) (by simp [g10]) (by simp) (by simp [jb])
include h241
theorem KU {b n:Nat}(hn:n<2 ^ 59){cap:Option Nat}:∀ (N a e lim:Nat) (wb wp:Bool) (bs:List Blk) (d:Array Int) (lo:Nat),e-a<N->b<bs.length->a<=e->e<=n->d.size=n->lim<2 ^ 60->Below ltInt a e d →
 ∃ ys d' lo',Cd E TS aR (.loop [0,1,2,3,8,9] nI) [(0,.row b 0 n cap 1),(1,.d (i64 a)),(2,.d (i64 e)),(3,.d (i64 lim)),(8,bl wb),(9,bl wp)] (Mz .u32 bs b d lo)=some (.ret,[],Mz .u32 (bs++ys) b d' lo')/\PermIn a e d d'/\SortedIn ltInt a e d'/\Kq b lo d ys lo' d':=by
 intro N;have key:=ax (E:=E) (T:=TS) (val:=aR) [0,1,2,3,8,9] nI;have hfun:∀ (bs:List Blk) (d:Array Int) (x y lim lo1:Nat) (ys:List Blk) (d':Array Int),b<bs.length →
  Cd E TS aR (.loop [0,1,2,3,8,9] nI) [(0,.row b 0 n cap 1),(1,.d (i64 x)),(2,.d (i64 y)),(3,.d (i64 lim)),(8,bl true),(9,bl true)] (Mz .u32 bs b d bs.length)=some (.ret,[],Mz .u32 (bs++ys) b d' lo1) →
  ∀ lo,Sm E TS aR 196 [.row b 0 n cap 1,.d (i64 x),.d (i64 y),.d (i64 lim)] (Mz .u32 bs b d lo)=fQ (Mz .u32 bs b d lo) (some (.tup [],Mz .u32 (bs++ys) b d' lo1)):=λbs d x y lim lo1 ys d' hb h lo=>by
  have hl:(Mz .u32 bs b d lo).bs.length=bs.length:=by simp [Mz,Mr]
  have hM:(⟨(Mz .u32 bs b d lo).bs,bs.length⟩:Hp)=Mz .u32 bs b d bs.length:=rfl;rw [av Vx VW,hl,hM]
  congr 1
  generalize Mz .u32 bs b d bs.length=M0 at *;generalize Mz .u32 (bs++ys) b d' lo1=M1 at *;simp [aa,H9];rw [aj];try simp at h
  simp [h];rfl
 generalize Cd E TS aR (.loop [0,1,2,3,8,9] nI)=W at key hfun ⊢
 induction N with
 | zero=>intro a e lim wb wp bs d lo h; omega
 | succ N ih =>
  intro a e lim wb wp bs d lo hN hb hae hen hd hlim hB;have hrec:∀ lim',lim'<2 ^ 60->∀ x y,y-x<e-a->EM E b n cap lim' x y:=λlim' hl x y hxy bs d lo hb hx hy hd hB=>by
   obtain ⟨ys,d',lo1,c1,c2,c3,c4⟩:=ih x y lim' true true bs d bs.length (by omega) hb hx hy hd hl hB;obtain ⟨lo2,r1,r2⟩:=zq (lo:=lo) hb c4;exact ⟨ys,d',lo2,(hfun bs d x y lim' lo1 ys d' hb c1 lo).trans r1,c2,c3,r2⟩
  obtain ⟨l,hl⟩:∃ j,e-a=j:=⟨_,rfl⟩;have wl:=uU (x:=e) (y:=a) (k:=l) (by omega) (by omega);rw [key,KT];by_cases h12:l<=12
  . have h12':(l:Int)<=12:=by omega
    obtain ⟨lo1,q1,q2,q3⟩:=bj5 h334 hb (by omega) (a:=a) (e:=e) (by omega) hen (cap:=cap) d lo hd;obtain ⟨p1,p2⟩:=insertionSort_holds IQ d a e hae (by omega);refine ⟨[],_,lo1,?_,p1,p2,.of q2⟩;rw [List.append_nil];generalize Mz .u32 bs b d lo=M0 at *;generalize Mz .u32 bs b (insertionSort ltInt d a e) lo1=M1 at *;simp +decide [wl,h12',q1]
  have h12':¬ (l:Int)<=12:=by omega
  by_cases hl0:lim=0
  . subst hl0;obtain ⟨lo1,q1,q2,q3⟩:=bj6 h334 hb (by omega) (a:=a) (e:=e) (by omega) hen (cap:=cap) d lo hd;obtain ⟨p1,p2⟩:=heapSort_holds IQ d a e hae (by omega);refine ⟨[],_,lo1,?_,p1,p2,.of q2⟩;rw [List.append_nil];generalize Mz .u32 bs b d lo=M0 at *;generalize Mz .u32 bs b (heapSort ltInt d a e) lo1=M1 at *;simp +decide [wl,h12',q1]
  have fin_:∀ (lim':Nat) (o:jf),lim'<2 ^ 60->Round E b n cap lim' a e bs d lo o->∃ ys d' lo',iw [0,1,2,3,8,9] W (leave 1 o)=some (.ret,[],Mz .u32 (bs++ys) b d' lo')/\PermIn a e d d'/\SortedIn ltInt a e d'/\Kq b lo d ys lo' d':=by
   rintro lim' o hl' (⟨ys,d',lo',rfl,h2,h3,h4⟩ | ⟨a2,e2,wb2,wp2,ys,d2,lo2,h1,h2,h3,h4,h5,h6,h7,h8⟩)
   . exact ⟨ys,d',lo',rfl,h2,h3,h4⟩
   . have hKb:b<(bs++ys).length:=by simp; omega
     obtain ⟨zs,d',lo',c1,c2,c3,c4⟩:=ih a2 e2 lim' wb2 wp2 (bs++ys) d2 lo2 (by omega) hKb h2 (by omega) h5 hl' h6;refine ⟨ys++zs,d',lo',?_,(h7 d' c2 c3).1,(h7 d' c2 c3).2,h8.trans c4⟩;rw [h1 W,c1,List.append_assoc]
  cases wb with
  | true =>
   have st:=λev k0 k1 k2 k3 k8 k9 k10=>fin_ lim _ hlim (yE h334 hb hn (a:=a) (e:=e) (by omega) hen (cap:=cap) d lo hd hB true wp (hrec lim hlim) (ev:=ev) k0 k1 k2 k3 k8 k9 k10);generalize Mz .u32 bs b d lo=M0 at *;simp +decide [wl,h12',hl0];refine st _ ?_ ?_ ?_ ?_ ?_ ?_ ?_<;>simp [hl]
  | false =>
   obtain ⟨lm,hlm⟩:∃ j,lim=j+1:=⟨lim-1,by omega⟩;have wlm:=gM (x:=lim) (k:=lm) hlm (by omega);obtain ⟨ys,d1,lo1,q1,q2,q3⟩:=bj7 h241 hb hn (a:=a) (e:=e) (by omega) hen (cap:=cap) d lo hd;have hb1:b<(bs++ys).length:=by simp; omega
   have st:=λev k0 k1 k2 k3 k8 k9 k10=>fin_ lm _ (by omega) (Round.behind q2 (.inl q3) (yE h334 hb1 hn (a:=a) (e:=e) (by omega) hen (cap:=cap) d1 lo1 (q2.1.trans hd) (hB.perm (by omega) q2) false wp (hrec lm (by omega)) (ev:=ev) k0 k1 k2 k3 k8 k9 k10));generalize Mz .u32 bs b d lo=M0 at *;generalize Mz .u32 (bs++ys) b d1 lo1=M1 at *;simp +decide [wl,h12',hl0,q1,wlm];refine st _ ?_ ?_ ?_ ?_ ?_ ?_ ?_<;>simp [hl]
theorem bh5 {b n:Nat}(hn:n<2 ^ 59){cap:Option Nat}{lim:Nat}(hlim:lim<2 ^ 60){bs:List Blk}(hb:b<bs.length)(d:Array Int)(lo:Nat)(hd:d.size=n) :
 ∃ ys d' lo',Sm E TS aR 196 [.row b 0 n cap 1,.d (i64 0),.d (i64 n),.d (i64 lim)] (Mz .u32 bs b d lo)=some (.tup [],Mz .u32 (bs++ys) b d' lo')/\PermIn 0 n d d'/\SortedIn ltInt 0 n d'/\Kq b lo d ys lo' d':=by
 obtain ⟨ys,d',lo1,c1,c2,c3,c4⟩:=KU h334 h241 hn (cap:=cap) (n+1) 0 n lim true true bs d bs.length (by omega) hb (Nat.zero_le _) (br _) hd hlim (.inl rfl);obtain ⟨lo2,r1,r2⟩:=zq (lo:=lo) hb c4;refine ⟨ys,d',lo2,?_,c2,c3,r2⟩;refine Eq.trans ?_ r1;have hl:(Mz .u32 bs b d lo).bs.length=bs.length:=by simp [Mz,Mr]
 have hM:(⟨(Mz .u32 bs b d lo).bs,bs.length⟩:Hp)=Mz .u32 bs b d bs.length:=rfl;rw [av Vx VW,hl,hM]
 congr 1
 generalize Mz .u32 bs b d bs.length=M0 at *;generalize Mz .u32 (bs++ys) b d' lo1=M1 at *;simp [aa,H9];rw [aj];try simp at c1
 simp [c1];rfl
end
end
