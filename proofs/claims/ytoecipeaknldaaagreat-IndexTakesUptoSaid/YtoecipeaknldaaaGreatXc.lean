/- Sources, targets, rules, policies, as1 the document has them. -/
import Derived.Test.YtoecipeaknldaaaGreatAw
set_option maxRecDepth 100000
set_option linter.unusedVariables false
set_option linter.unusedSimpArgs false
namespace Go.Proofs.YtoecipeaknldaaaGreat
section
variable {E:Calls'}
theorem XT (s:Source)(hs:s.wf big):Cd E TX bW (.loop [1,3] tL) [(1,.ptr 0 0),(3,.d (i64 ((0:Nat):Int)))] ⟨[.cells (s.c.map .d)],0⟩=some (cond (s.nets.l.all ig) (.exit 0,[],⟨[.cells (s.c.map .d)],0⟩) (.ret,[(2,bl false)],⟨[.cells (s.c.map .d)],0⟩)):=by
 refine bR s.nets.l ig (λi=>[(1,.ptr 0 0),(3,.d (i64 i))]) _ _ _ (λi x hx hi W=>?_) (λW=>?_)
 . have hn:=λh=>av (z:=2) h hx (cells:=Cidr.c) rfl;have hw:=ay hi (fit.lt hs.2.2.1);have h0:((i:Int)<s.nets.l.length):=by omega
   have hc:=λh=>YK (E:=E) x (hs.2.2.2 x (cb hx)).1 h;cases hm:ig x<;>simp [tL,hn,h0,hw,hc,hm]
 . simp [tL]
theorem az0:TX 213=some Er:=by kernel_rfl
theorem ax9:bW 213=true:=by kernel_rfl
theorem YE (s:Source)(hs:s.wf big)(h:Hp):Sm E TX bW 213 [ag s.c] h=some (bl (dm s),h):=by
 rw [aQ az0 ax9,dm,nJ];have k1:=XT (E:=E) s hs;have a1:=λh=>Dp (E:=E) s.names hs.1.1 (λx hx=>(hs.1.2 x hx).2) h;have a2:=λh=>Dp (E:=E) s.spaces hs.2.1.1 (λx hx=>(hs.2.1.2 x hx).2) h;simp at k1;generalize aZ s.names=A at *;generalize aZ s.spaces=B at *;generalize s.nets.l.all ig=C at *;cases A with
 | false=>simp [aa,Er,a1]
 | true =>
  cases B with
  | false=>simp [aa,Er,a1,a2]
  | true =>
   by_cases c1:(s.nets.l.length:Int)>6
   . simp [aa,Er,a1,a2,c1,show ¬ ((s.nets.l.length:Int)<=6) from by omega]
   . simp [aa,Er,a1,a2,c1,show ((s.nets.l.length:Int)<=6) from by omega];rw [au];simp [k1];cases C<;>simp
def D7 (l:List Int)(i:Nat)(x:Int):Bool:=kH x&&(l.take i).all λy=>!(y==x)
theorem XU (t:Target)(ht:t.wf big)(j:Nat)(x:Int)(hx:t.ports.l[j]?=some x)(hj:j<t.ports.l.length):Cd E TX bW (.loop [1,3,4] qK) [(1,.ptr 0 0),(3,.d (i64 (j:Int))),(4,.d (i64 ((0:Nat):Int)))] ⟨[.cells (t.c.map .d)],0⟩=some (cond ((t.ports.l.take j).all λy=>!(y==x)) (.exit 2,[(1,.ptr 0 0),(3,.d (i64 (j:Int)))],⟨[.cells (t.c.map .d)],0⟩) (.ret,[(2,bl false)],⟨[.cells (t.c.map .d)],0⟩)):=by
 have hlen:(t.ports.l.take j).length=j:=by simp; omega
 refine bR (t.ports.l.take j) (λy=>!(y==x)) (λi=>[(1,.ptr 0 0),(3,.d (i64 (j:Int))),(4,.d (i64 i))]) _ _ _ (λi y hy hi W=>?_) (λW=>?_)
 . have hij:i<j:=by omega
   have hy':t.ports.l[i]?=some y:=by rw [List.getElem?_take] at hy; simpa [hij] using hy
   have hn:=λh=>av (z:=1) h hy' (cells:=iB) rfl;have hm:=λh=>av (z:=1) h hx (cells:=iB) rfl;have hw:=ay hij (Nat.lt_trans hj (fit.lt ht.1.1));have h0:((i:Int)<(j:Int)):=by omega
   by_cases he:y=x
   . subst he;simp [qK,hn,hm,h0,hw,iB]
   . simp [qK,hn,hm,h0,hw,he,iB]
 . simp only [hlen];simp [qK]
theorem X6 (t:Target)(ht:t.wf big):Cd E TX bW (.loop [1,3] nR) [(1,.ptr 0 0),(3,.d (i64 ((0:Nat):Int)))] ⟨[.cells (t.c.map .d)],0⟩=some (cond (fK (D7 t.ports.l) 0 t.ports.l) (.exit 0,[],⟨[.cells (t.c.map .d)],0⟩) (.ret,[(2,bl false)],⟨[.cells (t.c.map .d)],0⟩)):=by
 refine lg t.ports.l (D7 t.ports.l) (λi=>[(1,.ptr 0 0),(3,.d (i64 i))]) _ _ _ (λi x hx hi W=>?_) (λW=>?_)
 . have hn:=λh=>av (z:=1) h hx (cells:=iB) rfl;have hw:=ay hi (fit.lt ht.1.1);have h0:((i:Int)<t.ports.l.length):=by omega
   have k:=XU (E:=E) t ht i x hx hi;simp only [Int.natCast_zero] at k;unfold D7 kH;generalize ((t.ports.l.take i).all λy=>!(y==x))=G at *;by_cases c1:x<1
   . simp [nR,hn,h0,c1,iB,show ¬ (x>=1) from by omega]
   by_cases c2:x>65535
   . simp [nR,hn,h0,c1,c2,iB,show ¬ (x<=65535) from by omega]
   have e1:decide (x>=1)=true:=by simp; omega
   have e2:decide (x<=65535)=true:=by simp; omega
   simp [nR,hn,h0,c1,c2,iB];rw [au];simp [k];rw [show decide (1<=x)=true from e1,show decide (x<=65535)=true from e2];cases G<;>simp [hw]
 . simp [nR]
theorem yT {l:List Int}:∀ (m:List Int) (i:Nat),l.drop i=m->(fK (D7 l) i m=true↔m.all kH=true/\∀ k,i<=k->∀ (hk:k<l.length),∀ j,∀ (hj:j<k),l[j]≠l[k])
 | [],i,h=>by
  have:l.length<=i:=by simpa using h
  refine ⟨λ_=>⟨rfl,λk hik hk=>?_⟩,λ_=>rfl⟩;omega
 | x::m,i,h=>by
  have hi:i<l.length:=by
   obtain h1 | h1:=cm i l.length
   . exact h1
   . rw [aq h1] at h; cases h
  have hx:l[i]=x/\l.drop (i+1)=m:=by
   rw [ap hi] at h;exact ⟨(List.cons.inj h).1,(List.cons.inj h).2⟩
  rw [fK,ao,yT m (i+1) hx.2,List.all_cons,D7];simp only [ao,cj,Bool.not_eq_true',beq_eq_false_iff_ne];constructor
  . rintro ⟨⟨p1,p2⟩,p3,p4⟩;refine ⟨⟨p1,p3⟩,λk hik hk j hj=>?_⟩;by_cases hki:k=i
    . subst hki;rw [hx.1];exact p2 l[j] (List.mem_take_iff_getElem.2 ⟨j,by omega,rfl⟩)
    . exact p4 k (by omega) hk j hj
  . rintro ⟨⟨p1,p3⟩,p4⟩;refine ⟨⟨p1,λy hy=>?_⟩,p3,λk hik hk j hj=>p4 k (by omega) hk j hj⟩;obtain ⟨j,hj,rfl⟩:=List.mem_take_iff_getElem.1 hy;rw [← hx.1];exact p4 i (bp _) hi j (by omega)
theorem za:∀ {l:List Int},l.Pairwise (λa b=>a<=b)->l≠[]->(1+chg l=l.length↔l.Nodup)
 | [],_,h=>absurd rfl h
 | [x],_,_=>by simp [chg]
 | x::y::l,hp,_=>by
  have ih:=za (l:=y::l) (List.Pairwise.of_cons hp) (by simp);have hle:=uq (y::l);simp only [cg] at ih hle ⊢;simp only [chg];by_cases he:x=y
  . subst he;simp only [if_true,Nat.zero_add];constructor
    . intro h; omega
    . intro h; exact absurd (by simp) (List.nodup_cons.1 h).1
  . simp only [if_neg he];have hxy:x<y:=by have:=(List.pairwise_cons.1 hp).1 y (by simp); omega
    constructor
    . intro h;refine List.nodup_cons.2 ⟨λhm=>?_,ih.1 (by omega)⟩;obtain h1 | h1:=List.mem_cons.1 hm
      . exact he h1
      . have:=(List.pairwise_cons.1 (List.Pairwise.of_cons hp)).1 x h1;omega
    . intro h;have:=ih.2 (List.nodup_cons.1 h).2;omega
theorem GN (l:List Int):((pR (dz l):Int)==(l.length:Int))=decide l.Nodup:=by
 have hp:(dz l).Perm l:=List.mergeSort_perm _ _;have hs:(dz l).Pairwise (λa b=>a<=b):=by
  have:=List.pairwise_mergeSort (le:=λx y:Int=>decide (x<=y)) (λa b c h1 h2=>by simp at *; omega) (λa b=>by simp; omega) l;exact this.imp (λh=>by simpa using h)
 rw [Bool.eq_iff_iff];simp only [beq_iff_eq,br];rw [← hp.length_eq,← hp.nodup_iff];generalize dz l=z at *;unfold pR;by_cases h0:z=[]
 . subst h0; simp
 . rw [if_neg h0,← za hs h0]; omega
theorem EU (l:List Int):fK (D7 l) 0 l=(l.all kH&&((pR (dz l):Int)==(l.length:Int))):=by
 rw [GN,Bool.eq_iff_iff,yT l 0 rfl,ao,br];refine and_congr_right λ_=>?_;rw [List.nodup_iff_pairwise_ne,List.pairwise_iff_getElem];constructor
 . intro h i j hi hj hij;exact h j (Nat.zero_le _) hj i hij
 . intro h k _ hk j hj;exact h j k (by omega) hk hj
theorem az1:TX 214=some BC:=by kernel_rfl
theorem ay0:bW 214=true:=by kernel_rfl
theorem YF (t:Target)(ht:t.wf big)(h:Hp):Sm E TX bW 214 [ag t.c] h=some (bl (bq t),h):=by
 have k1:=X6 (E:=E) t ht;rw [EU] at k1;rw [aQ az1 ay0,bq];have a1:=λh=>Dp (E:=E) t.methods ht.2.1.1 (λx hx=>(ht.2.1.2 x hx).2) h;have a2:=λh=>Dp (E:=E) t.paths ht.2.2.1.1 (λx hx=>(ht.2.2.1.2 x hx).2) h;have a3:=λh=>Dp (E:=E) t.hosts ht.2.2.2.1 (λx hx=>(ht.2.2.2.2 x hx).2) h;generalize ((pR (dz t.ports.l):Int)==(t.ports.l.length:Int))=D at *;simp at k1;generalize aZ t.methods=A at *;generalize aZ t.paths=B at *;generalize aZ t.hosts=C at *;generalize t.ports.l.all kH=F at *;cases A with
 | false=>simp [aa,BC,a1]
 | true =>
  cases B with
  | false=>simp [aa,BC,a1,a2]
  | true =>
   cases C with
   | false=>simp [aa,BC,a1,a2,a3]
   | true =>
    by_cases c1:(t.ports.l.length:Int)>6
    . simp [aa,BC,a1,a2,a3,c1,show ¬ ((t.ports.l.length:Int)<=6) from by omega]
    . simp [aa,BC,a1,a2,a3,c1,show ((t.ports.l.length:Int)<=6) from by omega];rw [au];simp [k1];cases F<;>cases D<;>simp
section
variable (r:Rule)(hr:r.wf big)
include hr
theorem Xq:Cd E TX bW (.loop [1,3] tJ) [(1,.ptr 0 0),(3,.d (i64 ((0:Nat):Int)))] ⟨[.cells (r.c.map .d)],0⟩=some (cond (r.frm.l.all dm) (.exit 0,[(1,.ptr 0 0)],⟨[.cells (r.c.map .d)],0⟩) (.ret,[(2,bl false)],⟨[.cells (r.c.map .d)],0⟩)):=by
 refine bR r.frm.l dm (λi=>[(1,.ptr 0 0),(3,.d (i64 i))]) _ _ _ (λi x hx hi W=>?_) (λW=>?_)
 . have hn:=λh=>av (z:=3) h hx (cells:=Source.c) rfl;have hw:=ay hi (fit.lt hr.1.1);have h0:((i:Int)<r.frm.l.length):=by omega
   have hc:=λh=>YE (E:=E) x (hr.1.2 x (cb hx)) h;cases hm:dm x<;>simp [tJ,hn,h0,hw,hc,hm]
 . simp [tJ]
theorem Xr:Cd E TX bW (.loop [1,4] tK) [(1,.ptr 0 0),(4,.d (i64 ((0:Nat):Int)))] ⟨[.cells (r.c.map .d)],0⟩=some (cond (r.to.l.all bq) (.exit 2,[(1,.ptr 0 0)],⟨[.cells (r.c.map .d)],0⟩) (.ret,[(2,bl false)],⟨[.cells (r.c.map .d)],0⟩)):=by
 refine bR r.to.l bq (λi=>[(1,.ptr 0 0),(4,.d (i64 i))]) _ _ _ (λi x hx hi W=>?_) (λW=>?_)
 . have hn:=λh=>av (z:=4) h hx (cells:=Target.c) rfl;have hw:=ay hi (fit.lt hr.2.1.1);have h0:((i:Int)<r.to.l.length):=by omega
   have hc:=λh=>YF (E:=E) x (hr.2.1.2 x (cb hx)) h;cases hm:bq x<;>simp [tK,hn,h0,hw,hc,hm]
 . simp [tK]
theorem Xt:Cd E TX bW (.loop [1,5] nQ) [(1,.ptr 0 0),(5,.d (i64 ((0:Nat):Int)))] ⟨[.cells (r.c.map .d)],0⟩=some (cond (r.whn.l.all gK) (.exit 4,[],⟨[.cells (r.c.map .d)],0⟩) (.ret,[(2,bl false)],⟨[.cells (r.c.map .d)],0⟩)):=by
 refine bR r.whn.l gK (λi=>[(1,.ptr 0 0),(5,.d (i64 i))]) _ _ _ (λi x hx hi W=>?_) (λW=>?_)
 . have hn:=λh=>av (z:=2) h hx (cells:=When.c) rfl;have hw:=ay hi (fit.lt hr.2.2.1);have h0:((i:Int)<r.whn.l.length):=by omega
   have hwf:=hr.2.2.2 x (cb hx);have hc:=λh=>YG (E:=E) x.head hwf.1 h;have hd:=λh=>Dp (E:=E) x.terms hwf.2.1 (λy hy=>(hwf.2.2 y hy).2) h;unfold gK;generalize jN x.head=A at *;generalize aZ x.terms=B at *;cases A with
   | false=>simp [nQ,hn,h0,hc]
   | true =>
    by_cases c1:(x.terms.l.length:Int)=0
    . simp [nQ,hn,h0,hc,c1]
    . have c2:(x.terms.l.length:Int)>0:=by omega
      have c3:0<x.terms.l.length:=by omega
      have c4:x.terms.l≠[]:=by intro h; rw [h] at c2; simp at c2
      cases B<;>simp [nQ,hn,h0,hc,hd,hw,c1,c2,c3,c4]
 . simp [nQ]
end
theorem ay9:TX 167=some Ep:=by kernel_rfl
theorem ax8:bW 167=true:=by kernel_rfl
theorem Yz (r:Rule)(hr:r.wf big)(h:Hp):Sm E TX bW 167 [ag r.c] h=some (bl (fB r),h):=by
 have k1:=Xq (E:=E) r hr;have k2:=Xr (E:=E) r hr;have k3:=Xt (E:=E) r hr;rw [aQ ay9 ax8,fB];simp at k1 k2 k3;generalize r.frm.l.all dm=A at *;generalize r.to.l.all bq=B at *;generalize r.whn.l.all gK=C at *;by_cases c1:(r.frm.l.length:Int)>3
 . simp [aa,Ep,c1,show ¬ ((r.frm.l.length:Int)<=3) from by omega]
 by_cases c2:(r.to.l.length:Int)>3
 . simp [aa,Ep,c1,c2,show ¬ ((r.to.l.length:Int)<=3) from by omega]
 by_cases c3:(r.whn.l.length:Int)>3
 . simp [aa,Ep,c1,c2,c3,show ¬ ((r.whn.l.length:Int)<=3) from by omega]
 simp [aa,Ep,c1,c2,c3,show ((r.frm.l.length:Int)<=3) from by omega,show ((r.to.l.length:Int)<=3) from by omega,show ((r.whn.l.length:Int)<=3) from by omega];rw [au];simp [k1];cases A<;>simp;rw [au];simp [k2];cases B<;>simp;rw [au];simp [k3];cases C<;>simp
theorem XN (p:Pol)(hp:p.wf big):Cd E TX bW (.loop [1,3] tH) [(1,.ptr 0 0),(3,.d (i64 ((0:Nat):Int)))] ⟨[.cells (p.c.map .d)],0⟩=some (cond (p.rules.l.all fB) (.exit 0,[],⟨[.cells (p.c.map .d)],0⟩) (.ret,[(2,bl false)],⟨[.cells (p.c.map .d)],0⟩)):=by
 refine bR p.rules.l fB (λi=>[(1,.ptr 0 0),(3,.d (i64 i))]) _ _ _ (λi x hx hi W=>?_) (λW=>?_)
 . have hn:=λh=>av (z:=3) h hx (cells:=Rule.c) rfl;have hw:=ay hi (fit.lt hp.2.2.2.2.1);have h0:((i:Int)<p.rules.l.length):=by omega
   have hc:=λh=>Yz (E:=E) x (hp.2.2.2.2.2 x (cb hx)) h;cases hm:fB x<;>simp [tH,hn,h0,hw,hc,hm]
 . simp [tH]
theorem ay7:TX 120=some oJ:=by kernel_rfl
theorem ax6:bW 120=true:=by kernel_rfl
theorem Ym (p:Pol)(hp:p.wf big)(h:Hp):Sm E TX bW 120 [ag p.c] h=some (bl (dw p),h):=by
 have k1:=XN (E:=E) p hp;have k2:=λh=>Yp (E:=E) p.ns hp.2.1 h;rw [aQ ay7 ax6,dw];simp at k1;generalize p.rules.l.all fB=A at *;generalize iC p.ns=B at *;by_cases c1:p.id<1
 . simp [aa,oJ,c1,show ¬ (p.id>=1) from by omega]
 by_cases c2:p.id>4611686018427387903
 . simp [aa,oJ,c1,c2,show ¬ (p.id<=4611686018427387903) from by omega]
 have e1:p.id>=1:=by omega
 have e2:p.id<=4611686018427387903:=by omega
 cases c3:eqS p.ns ⟨#[]⟩ with
 | false =>
  cases B with
  | false=>simp [aa,oJ,c1,c2,c3,k2]
  | true =>
   by_cases c4:p.service>4611686018427387903
   . simp [aa,oJ,c1,c2,c3,k2,c4,show ¬ (p.service<=4611686018427387903) from by omega]
   by_cases c5:p.deny<0
   . simp [aa,oJ,c1,c2,c3,k2,c4,c5,show ¬ (p.deny=0) from by omega,show ¬ (p.deny=1) from by omega]
   by_cases c6:p.deny>1
   . simp [aa,oJ,c1,c2,c3,k2,c4,c5,c6,show ¬ (p.deny=0) from by omega,show ¬ (p.deny=1) from by omega]
   have e6:((p.deny==0)||(p.deny==1))=true:=by simp; omega
   have e4:p.service<=4611686018427387903:=by omega
   by_cases c7:(p.rules.l.length:Int)>6
   . simp [aa,oJ,c1,c2,c3,k2,c4,c5,c6,c7,show ¬ ((p.rules.l.length:Int)<=6) from by omega]
   have e7:(p.rules.l.length:Int)<=6:=by omega
   rw [e6];simp [aa,oJ,c1,c2,c3,k2,c4,c5,c6,c7,e1,e2,e4,e7];rw [au];simp [k1];cases A<;>simp
 | true =>
  by_cases c4:p.service>4611686018427387903
  . simp [aa,oJ,c1,c2,c3,k2,c4,show ¬ (p.service<=4611686018427387903) from by omega]
  by_cases c5:p.deny<0
  . simp [aa,oJ,c1,c2,c3,k2,c4,c5,show ¬ (p.deny=0) from by omega,show ¬ (p.deny=1) from by omega]
  by_cases c6:p.deny>1
  . simp [aa,oJ,c1,c2,c3,k2,c4,c5,c6,show ¬ (p.deny=0) from by omega,show ¬ (p.deny=1) from by omega]
  have e6:((p.deny==0)||(p.deny==1))=true:=by simp; omega
  have e4:p.service<=4611686018427387903:=by omega
  by_cases c7:(p.rules.l.length:Int)>6
  . simp [aa,oJ,c1,c2,c3,k2,c4,c5,c6,c7,show ¬ ((p.rules.l.length:Int)<=6) from by omega]
  have e7:(p.rules.l.length:Int)<=6:=by omega
  rw [e6];simp [aa,oJ,c1,c2,c3,k2,c4,c5,c6,c7,e1,e2,e4,e7];rw [au];simp [k1];cases A<;>simp
end
section
section
variable {E:Calls'}{T:FuncId->Option QF}{val:FuncId->Bool}
theorem nH {keep:List Nat}{body:QC}{α:Type}(l:List α)(q:Nat->α->Bool)(env:Nat->EA)(I:Hp->Prop)(R X:Ex×EA)
 (hr:∀ i x,l[i]?=some x->i<l.length->∀ h,I h->∃ h',I h'/\∀ W:EA->Hp->fu,dJ keep W (Cd E T val body (bN keep (env i)) h)=cond (q i x) (W (env (i+1)) h') (some (R.1,R.2,h')))
 (he:∀ h,I h->∀ W:EA->Hp->fu,dJ keep W (Cd E T val body (bN keep (env l.length)) h)=some (X.1,X.2,h)) (h:Hp) (hI:I h) :
 ∃ h',I h'/\Cd E T val (.loop keep body) (env 0) h=some (cond (fK q 0 l) (X.1,X.2,h') (R.1,R.2,h')):=by
 have:∀ (m i:Nat) (h:Hp),i+m=l.length->I h->∃ h',I h'/\Cd E T val (.loop keep body) (env i) h=some (cond (fK q i (l.drop i)) (X.1,X.2,h') (R.1,R.2,h')):=by
  intro m;have key:=aF (E:=E) (T:=T) (val:=val) keep body;generalize Cd E T val (.loop keep body)=W at key ⊢
  induction m with
  | zero =>
   intro i h hi hI;refine ⟨h,hI,?_⟩;rw [key,show i=l.length by omega,he h hI W,List.drop_length];rfl
  | succ m ih =>
   intro i h hi hI;have hlt:i<l.length:=by omega
   obtain ⟨h1,hI1,k1⟩:=hr i _ (ab hlt) hlt h hI;rw [key,k1 W,ap hlt,fK];cases hq:q i l[i] with
   | false=>exact ⟨h1,hI1,rfl⟩
   | true =>
    obtain ⟨h2,hI2,k2⟩:=ih (i+1) h1 (by omega) hI1;exact ⟨h2,hI2,by simpa using k2⟩
 simpa using this l.length 0 h (by omega) hI
end
def df {α:Type}(f:α->Int)(l:List α)(i:Nat)(x:α):Bool:=match i with
 | 0=>true
 | j+1=>match l[j]? with
  | some y=>decide (f y<f x)
  | none=>true
theorem yQ {α:Type}(p q:Nat->α->Bool):∀ (l:List α) (i:Nat),fK (λi x=>p i x&&q i x) i l=(fK p i l&&fK q i l)
 | [],_=>rfl
 | x::l,i=>by
  simp only [fK,yQ p q l];cases p i x<;>cases q i x<;>cases fK p (i+1) l<;>rfl
theorem Dq {α:Type}(f:α->Int)(l:List α):fK (df f l) 0 l=aX (l.map f):=by
 have:∀ (m:List α) (j:Nat) (x:α),l.drop j=x::m->fK (df f l) (j+1) m=aX ((x::m).map f):=by
  intro m
  induction m with
  | nil=>intro j x _; rfl
  | cons y m ih =>
   intro j x h;have hj:j<l.length:=by
    obtain h1 | h1:=cm j l.length
    . exact h1
    . rw [aq h1] at h; cases h
   rw [ap hj] at h;have h1:=(List.cons.inj h).1;have h2:=(List.cons.inj h).2;rw [fK,ih (j+1) y h2];simp only [cn,aX,df,ab hj,h1]
 cases l with
 | nil=>rfl
 | cons x m=>simpa [fK,df] using this m 0 x rfl
theorem yR {α:Type}(p:α->Bool):∀ (l:List α) (i:Nat),fK (λ_ x=>!p x) i l=!l.any p
 | [],_=>rfl
 | x::l,i=>by rw [fK,yR p l,List.any_cons,Bool.not_or]
theorem ll {α:Type}{f:α->Int}{l:List α}{i:Nat}{x:α}(h:¬ (i:Int)>0):df f l i x=true:=by
 obtain rfl:i=0:=by omega
 rfl
theorem qx {α:Type}{l:List α}{i:Nat}(hl:l.length<2 ^ 62)(hi:i<l.length)(h0:(i:Int)>0):∃ y j,i=j+1/\l[j]?=some y/\IntKind.wrap .i64 ((i:Int)-1)=(j:Int):=by
 cases i with
 | zero=>simp at h0
 | succ j =>
  refine ⟨l[j],j,rfl,ab (by omega),?_⟩;have e:(((j+1:Nat):Int)-1)=(j:Int):=by omega
  rw [e];rw [wrap64]<;>omega
variable {E:Calls'}
end
section
variable {E:Calls'}
end
section
abbrev Pr (α:Type):=List Int->Option (α×List Int)
def Pr.ret {α:Type}(x:α):Pr α:=λb=>some (x,b)
def Pr.seq {α β:Type}(p:Pr α)(q:Pr β):Pr (α×β):=λb=>match p b with
 | some (x,l)=>match q l with
  | some (y,m)=>some ((x,y),m)
  | none=>none
 | none=>none
def Pr.map {α β:Type}(f:α->β)(p:Pr α):Pr β:=λb=>match p b with
 | some (x,l)=>some (f x,l)
 | none=>none
def Pr.keep {α:Type}(p:Pr α)(ok:α->Bool):Pr α:=λb=>match p b with
 | some (x,l)=>if ok x=true then some (x,l) else none
 | none=>none
end
section
theorem dx {α β:Type}{f:α->α->Bool}{g:α->β}(h:∀ x y,f x y=true↔g x=g y):∀ {l m:List α},all2 f l m=true↔l.map g=m.map g
 | [],[]=>by simp [all2]
 | [],y::m=>by simp [all2]
 | x::l,[]=>by simp [all2]
 | x::l,y::m=>by
  have ih:=dx (f:=f) (g:=g) h (l:=l) (m:=m);simp only [all2,ao,cn,List.cons.injEq];rw [h x y,ih]
def Sl.nf {α:Type}(f:α->α)(s:Sl α):Sl α:=⟨false,s.l.map f⟩
theorem Sl.nf_iff {α:Type}{f:α->α}{s t:Sl α}:s.nf f=t.nf f↔s.l.map f=t.l.map f:=by
 simp [Sl.nf]
def Source.nf (s:Source):Source:=⟨s.names.nf id,s.spaces.nf id,s.nets.nf id⟩
def Target.nf (s:Target):Target:=⟨s.ports.nf id,s.methods.nf id,s.paths.nf id,s.hosts.nf id⟩
def When.nf (s:When):When:=⟨s.head,s.terms.nf id⟩
def Rule.nf (s:Rule):Rule:=⟨s.frm.nf Source.nf,s.to.nf Target.nf,s.whn.nf When.nf⟩
def Pol.nf (s:Pol):Pol:={ s with rules:=s.rules.nf Rule.nf }
theorem rW {l m:List Term}:all2 Term.eqB l m=true↔l.map id=m.map id:=dx (f:=Term.eqB) (g:=id) λ_ _=>Term.eqB_iff
theorem Dw {l m:List Cidr}:all2 Cidr.eqB l m=true↔l.map id=m.map id:=dx (f:=Cidr.eqB) (g:=id) λ_ _=>Cidr.eqB_iff
theorem zy {l m:List Int}:all2 (λx y:Int=>x==y) l m=true↔l.map id=m.map id:=dx (f:=λx y:Int=>x==y) (g:=id) λ_ _=>by simp
theorem Source.same_iff {a b:Source}:a.same b=true↔a.nf=b.nf:=by
 simp only [Source.same,ao,rW,Dw,Source.nf,Source.mk.injEq,Sl.nf_iff]
theorem Target.same_iff {a b:Target}:a.same b=true↔a.nf=b.nf:=by
 simp only [Target.same,ao,rW,zy,Target.nf,Target.mk.injEq,Sl.nf_iff];constructor
 . rintro ⟨h1,h2,h3,h4⟩; exact ⟨h4,h1,h2,h3⟩
 . rintro ⟨h4,h1,h2,h3⟩; exact ⟨h1,h2,h3,h4⟩
theorem When.same_iff {a b:When}:a.same b=true↔a.nf=b.nf:=by
 simp only [When.same,ao,rW,eqS_iff,When.nf,When.mk.injEq,Sl.nf_iff]
theorem Rule.same_iff {a b:Rule}:a.same b=true↔a.nf=b.nf:=by
 simp only [Rule.same,ao,dx (λx y=>Source.same_iff (a:=x) (b:=y)),dx (λx y=>Target.same_iff (a:=x) (b:=y)),dx (λx y=>When.same_iff (a:=x) (b:=y)),Rule.nf,Rule.mk.injEq,Sl.nf_iff]
theorem Pol.same_iff {a b:Pol}:a.same b=true↔a.nf=b.nf:=by
 simp only [Pol.same,ao,beq_iff_eq,eqS_iff,dx (λx y=>Rule.same_iff (a:=x) (b:=y)),Pol.nf,Pol.mk.injEq,Sl.nf_iff]
theorem wX {α:Type}{p:α->Bool}{f:α->α}(h:∀ x,p (f x)=p x)(s:Sl α):(s.nf f).l.all p=s.l.all p:=by
 simp only [Sl.nf,List.all_map]
 congr 1
 funext x;exact h x
theorem nC (s:Sl Term):aZ (s.nf id)=aZ s:=by simp [aZ,Sl.nf]
theorem yz (s:Source):dm s.nf=dm s:=by
 simp only [dm,Source.nf,nC];simp [nJ,Sl.nf]
theorem yG (s:Target):bq s.nf=bq s:=by
 simp only [bq,Target.nf,nC];simp [Sl.nf]
theorem Ce (s:When):gK s.nf=gK s:=by
 simp only [gK,When.nf,nC];simp [Sl.nf]
theorem BJ (s:Rule):fB s.nf=fB s:=by
 simp only [fB,Rule.nf,wX yz,wX yG,wX Ce];simp [Sl.nf]
theorem El (p:Pol):dw p.nf=dw p:=by
 simp only [dw,Pol.nf,wX BJ];simp only [Sl.nf,bx];rfl
end
section
abbrev VG (n:Int):Prop:=0<=n/\n<2 ^ 64
theorem Inr.u64 {n:Int}(h:Inr .u64 n):VG n:=by
 simp [Inr,Lit.wf,IntKind.min,IntKind.max,IntKind.bits,IntKind.signed] at h;exact ⟨h.1,by omega⟩
theorem Inr.u32 {n:Int}(h:Inr .u32 n):0<=n/\n<=4294967295:=by
 simp [Inr,Lit.wf,IntKind.min,IntKind.max,IntKind.bits,IntKind.signed] at h;exact ⟨h.1,by omega⟩
end
section
variable {E:Calls'}
theorem KC {l:List V}{i:Nat}(h:i<l.length):sub l i 1=some [l[i]]:=by
 rw [eT,if_pos (by omega),ap h]; rfl
end
section
variable {E:Calls'}
end
section
variable {E:Calls'}
end
section
variable {E:Calls'}
end
section
variable {E:Calls'}
structure K2 (p:Pol) (L:Nat) (r:Rule) (bs:List Blk):Prop where
 p0:ai bs 0=some (p.c.map .d)
 r0:ai bs L=some (r.c.map .d)
theorem K2.lay {p:Pol}{L:Nat}{r:Rule}{bs:List Blk}(h:K2 p L r bs)(ys:List Blk):K2 p L r (bs++ys):=⟨aj h.p0,aj h.r0⟩
end
section
variable {E:Calls'}
end
section
variable {E:Calls'}
end
section
variable {E:Calls'}
end
section
def Cfg.nf (c:Cfg):Cfg:=⟨c.epoch,c.next,c.hosts,c.ways,c.pods.nf id,c.services.nf id,c.bound.nf id,c.policies.nf Pol.nf⟩
theorem Cfg.same_iff {a b:Cfg}:a.same b=true↔a.nf=b.nf:=by
 simp only [Cfg.same,ao,beq_iff_eq,dx (g:=id) (λx y=>Pod.eqB_iff (x:=x) (y:=y)),dx (g:=id) (λx y=>Svc.eqB_iff (x:=x) (y:=y)),dx (g:=id) (λx y=>Way.eqB_iff (x:=x) (y:=y)),dx (λx y=>Pol.same_iff (a:=x) (b:=y)),Cfg.nf,Cfg.mk.injEq,Sl.nf_iff,and_assoc]
end
section
def Hng (w:Bool)(K:Nat->Prop)(bs:List Blk)(v:V)(d:D)(k:Nat):Prop:=∀ bs' lo,(∀ x,K x->bs'[x]?=bs[x]?)->∀ j,k<=j->dataV ⟨bs',lo⟩ j v=some d/\(w=true->mq ⟨bs',lo⟩ j v=true)
variable {w:Bool}
theorem Hng.d {K:Nat->Prop}{bs:List Blk}{d:D}{k:Nat}(h:∀ nl c cs,d≠.slice nl (c::cs)):Hng w K bs (.d d) d k:=λbs' lo _ j _=>by
 refine ⟨by cases j<;>rfl,λ_=>?_⟩;cases d with
 | slice nl es =>
  cases es with
  | nil=>cases j<;>rfl
  | cons c cs=>exact absurd rfl (h nl c cs)
 | _=>cases j<;>rfl
theorem Hng.on {K K':Nat->Prop}{bs bs':List Blk}{v:V}{d:D}{k:Nat}(h:Hng w K bs v d k)(hb:∀ x,K x->bs'[x]?=bs[x]?)(hK:∀ x,K x->K' x):Hng w K' bs' v d k :=
 λbs2 lo h2 j hj=>h bs2 lo (λx hx=>(h2 x (hK x hx)).trans (hb x hx)) j hj
def Hngs (w:Bool)(K:Nat->Prop)(bs:List Blk)(k:Nat):List V->List D->Prop
 | [],[]=>True
 | v::vs,d::ds=>Hng w K bs v d k/\Hngs w K bs k vs ds
 | _,_=>False
theorem Hngs.on {K K':Nat->Prop}{bs bs':List Blk}{k:Nat}(hb:∀ x,K x->bs'[x]?=bs[x]?)(hK:∀ x,K x->K' x):∀ {vs:List V} {ds:List D},Hngs w K bs k vs ds->Hngs w K' bs' k vs ds
 | [],[],_=>trivial
 | _::_,_::_,h=>⟨h.1.on hb hK,Hngs.on hb hK h.2⟩
 | [],_::_,h=>h.elim
 | _::_,[],h=>h.elim
theorem Hngs.app {K:Nat->Prop}{bs:List Blk}{k:Nat}:∀ {vs ws:List V} {ds es:List D},Hngs w K bs k vs ds->Hngs w K bs k ws es->Hngs w K bs k (vs++ws) (ds++es)
 | [],_,[],_,_,h=>h
 | _::_,_,_::_,_,h,h'=>⟨h.1,Hngs.app h.2 h'⟩
 | [],_,_::_,_,h,_=>h.elim
 | _::_,_,[],_,h,_=>h.elim
theorem Hngs.len {K:Nat->Prop}{bs:List Blk}{k:Nat}:∀ {vs:List V} {ds:List D},Hngs w K bs k vs ds->vs.length=ds.length
 | [],[],_=>rfl
 | _::_,_::_,h=>by simp [Hngs.len h.2]
 | [],_::_,h=>h.elim
 | _::_,[],h=>h.elim
theorem Hngs.mapM {K:Nat->Prop}{bs:List Blk}{k:Nat}{bs':List Blk}{lo:Nat}(hb:∀ x,K x->bs'[x]?=bs[x]?){j:Nat}(hj:k<=j):∀ {vs:List V} {ds:List D},Hngs w K bs k vs ds->vs.mapM (dataV ⟨bs',lo⟩ j)=some ds/\(w=true->vs.all (mq ⟨bs',lo⟩ j)=true)
 | [],[],_=>⟨rfl,λ_=>rfl⟩
 | v::vs,d::ds,h=>by
  obtain ⟨a1,a2⟩:=h.1 bs' lo hb j hj;obtain ⟨b1,b2⟩:=Hngs.mapM (lo:=lo) hb hj h.2;refine ⟨?_,λhw=>by simp [a2 hw,b2 hw]⟩;rw [List.mapM_cons,a1,b1];rfl
 | [],_::_,h=>h.elim
 | _::_,[],h=>h.elim
theorem lG {z:Nat}:∀ (es:List (List D)),(∀ e∈es,e.length=z)->dataV.chunks z es.flatten es.length=es
 | [],_=>rfl
 | e::es,h=>by
  have he:e.length=z:=h e (by simp);simp only [List.flatten_cons,cg,dataV.chunks];rw [List.take_left' he,List.drop_left' he,lG es λx hx=>h x (by simp [hx])]
theorem Hng.row {K:Nat->Prop}{bs:List Blk}{k b n z:Nat}{cap:Option Nat}{cs:List V}{es:List (List D)}(hKb:K b)(hb:ai bs b=some cs)(hcs:Hngs w K bs k cs es.flatten)(hz:∀ e∈es,e.length=z)(hn:n=es.length) :
 Hng w K bs (.row b 0 n cap z) (.slice false es) (k+1):=by
 intro bs' lo h j hj;cases j with
 | zero=>omega
 | succ j =>
  have hg:Hp.get ⟨bs',lo⟩ b=some cs:=by
   unfold ai at hb;simp only [Hp.get,h b hKb];split at hb
   . rename_i hb2; rw [hb2]; simpa using hb
   . cases hb
  obtain ⟨m1,m2⟩:=Hngs.mapM (lo:=lo) h (show k<=j by omega) hcs;have hlen:cs.length=n * z:=by
   rw [hcs.len,hn,List.length_flatten];have:es.map List.length=List.replicate es.length z:=by
    rw [List.eq_replicate_iff];exact ⟨by simp,λx hx=>by obtain ⟨e,he,rfl⟩:=b9.1 hx; exact hz e he⟩
   rw [this]; simp
  have hs:sub cs 0 (n * z)=some cs:=by
   unfold sub;rw [if_pos (by omega)];simp [← hlen]
  refine ⟨?_,?_⟩
  . simp only [dataV,hg,hs,m1];rw [hn,lG es hz]
  . intro hw;simp only [mq,hg];exact m2 hw
theorem Hng.data {K:Nat->Prop}{bs:List Blk}{d:D}{k:Nat}:Hng false K bs (.d d) d k:=λbs' lo _ j _=>⟨by cases j<;>rfl,λh=>by cases h⟩
theorem Hngs.data {K:Nat->Prop}{bs:List Blk}{k:Nat}:∀ {ds:List D},Hngs false K bs k (ds.map .d) ds
 | []=>trivial
 | _::_=>⟨Hng.data,Hngs.data⟩
end
section
variable {w:Bool}
variable {w:Bool}
def KB (L:Nat)(bs:List Blk)(B:Nat):Nat->Prop:=λx=>L<=x/\x<bs.length/\x≠B
def KL (L:Nat)(bs:List Blk):Nat->Prop:=λx=>L<=x/\x<bs.length
def AccV (w:Bool)(L z k n:Nat)(ds:List D)(bs:List Blk)(v:V):Prop:=(n=0/\ds=[]/\v=.d (.slice true []))\/(0<n/\∃ B cs,L<=B/\v=.row B 0 n none z/\ai bs B=some cs/\cs.length=n * z/\Hngs w (KB L bs B) bs k cs ds)
theorem AccV.nil (L z k:Nat)(bs:List Blk):AccV w L z k 0 [] bs (.d (.slice true [])):=.inl ⟨rfl,rfl,rfl⟩
theorem AccV.nu {L z k n:Nat}{ds:List D}{bs:List Blk}{v:V}(h:AccV w L z k n ds bs v):nu v=some v:=by
 obtain ⟨_,_,rfl⟩ | ⟨_,B,cs,_,rfl,_⟩:=h<;>rfl
theorem AccV.on {L z k n:Nat}{ds:List D}{bs bs':List Blk}{v:V}(h:AccV w L z k n ds bs v)(hl:bs.length<=bs'.length)(ho:∀ x,L<=x->x<bs.length->bs'[x]?=bs[x]?):AccV w L z k n ds bs' v:=by
 obtain h | ⟨h0,B,cs,h1,h2,h3,h4,h5⟩:=h
 . exact .inl h
 . refine .inr ⟨h0,B,cs,h1,h2,?_,h4,h5.on (λx hx=>ho x hx.1 hx.2.1) λx hx=>⟨hx.1,by have:=hx.2.1; omega,hx.2.2⟩⟩;rw [← h3]; unfold ai; rw [ho B h1 (aJ h3)]
theorem AccV.app {L L2 z k n:Nat}{ds es:List D}{bs:List Blk}{v:V}(h:AccV w L z k n ds bs v)(hz0:0<z){by_:Nat}(hby:by_<=4096)(hl:n<big){r:Nat}{cap:Option Nat}{vs:List V}(hvl:vs.length=z)(hr:ai bs r=some vs)
 (hL:L<=L2) (hB:∀ B n' c,v=.row B 0 n' c z->B<L2) (hv:Hngs w (KL L2 bs) bs k vs es) (hLb:L<=bs.length) :
 ∃ v' bs',∃ F:Nat->Nat,(∀ lo,fw ⟨bs,lo⟩ z by_ v (.row r 0 1 cap z)=some (v',⟨bs',F lo⟩))/\AccV w L z k (n+1) (ds++es) bs' v'/\bs.length<=bs'.length/\(∀ x,x<L->bs'[x]?=bs[x]?)/\∀ lo:Nat,F lo<=lo:=by
 have hrc:∀ lo,aO ⟨bs,lo⟩ (.row r 0 1 cap z) z=some (1,vs):=λlo=>by
  have:sub vs 0 z=some vs:=eB hvl;simp only [aO,if_true,get_eq,hr,Nat.one_mul,this,Option.map_some]
 have hroom:∀ n,n<=big->roomy n by_=true:=λn hn=>by simp only [roomy,ao,br]; exact ⟨hn,hby⟩
 obtain ⟨rfl,rfl,rfl⟩ | ⟨h0,B,cs,h1,rfl,h3,h4,h5⟩:=h
 . refine ⟨.row bs.length 0 1 none z,bs++[.cells vs],id,λlo=>by simp only [fw,hrc,aI,if_neg (show ¬ (1=0) by decide),if_neg (show ¬ z=0 by omega),hroom 1 (by decide),if_true]; rfl,.inr ⟨by omega,bs.length,vs,hLb,rfl,by simp,by simpa using hvl,?_⟩,by simp,λx hx=>by rw [al (by omega)],λlo=>bp _⟩;exact hv.on (λx hx=>by rw [al hx.2]) λx hx=>⟨by have:=hx.1; omega,by have:=hx.2; simp; omega,by have:=hx.2; omega⟩
 . have hsub:sub cs 0 (n * z)=some cs:=eB h4;have hpos:0<cs.length:=by rw [h4]; exact Nat.mul_pos h0 hz0
   have hbl:=aJ h3;have hBL:=hB B n none rfl;refine ⟨.row bs.length 0 (n+1) none z,bs.set B (.cells [])++[.cells (cs++vs)],λlo=>min lo B,λlo=>by simp only [fw,hrc,aI,ne_eq,not_true_eq_false,false_or,if_neg (show ¬ (1=0) by decide),if_neg (show ¬ z=0 by omega),get_eq,h3,hsub,hroom (n+1) (by omega),Bool.not_true,bm,if_false,hpos,and_self,if_true,Hp.size,Hp.alloc,Hp.set,List.length_set],.inr ⟨by omega,bs.length,cs++vs,hLb,rfl,?_,by rw [am,h4,hvl,Nat.succ_mul],?_⟩,by simp,λx hx=>?_,λlo=>Nat.min_le_left _ _⟩
   . have:ai (bs.set B (.cells [])++[.cells (cs++vs)]) (bs.set B (.cells [])).length=some (cs++vs):=by rw [cO]; rfl
     rw [List.length_set] at this;exact this
   . have ho:∀ x,x<bs.length->x≠B->(bs.set B (.cells [])++[.cells (cs++vs)])[x]?=bs[x]?:=λx hx hne=>by
      rw [al (by simpa using hx),ac (Ne.symm hne)]
     refine (h5.on (λx hx=>ho x hx.2.1 hx.2.2) λx hx=>⟨hx.1,by have:=hx.2.1; simp; omega,by have:=hx.2.1; omega⟩).app (hv.on (λx hx=>ho x hx.2 (by have:=hx.1; omega)) λx hx=>⟨by have:=hx.1; omega,by have:=hx.2; simp; omega,by have:=hx.2; omega⟩)
   . rw [al (by simp; omega),ac (by omega)]
theorem AccV.hng {L z k n:Nat}{bs:List Blk}{v:V}{es:List (List D)}(h:AccV w L z k n es.flatten bs v)(hz:∀ e∈es,e.length=z)(hn:n=es.length):Hng w (KL L bs) bs v (.slice es.isEmpty es) (k+1):=by
 obtain ⟨h0,h1,rfl⟩ | ⟨h0,B,cs,h1,rfl,h3,h4,h5⟩:=h
 . have:es=[]:=List.eq_nil_of_length_eq_zero (by omega);subst this;exact Hng.d λnl c cs hh=>by simp at hh
 . have he:es.isEmpty=false:=by cases es with
    | nil=>simp at hn; omega
    | cons _ _=>rfl
   rw [he];exact Hng.row ⟨h1,aJ h3⟩ h3 (h5.on (λ_ _=>rfl) λx hx=>⟨hx.1,hx.2.1⟩) hz hn
theorem cpy {α:Type}{cells:α->List D}{z by_:Nat}(hz:∀ x,(cells x).length=z)(hz0:0<z)(hby:by_<=4096){s:Sl α}(hs:short s)(bs:List Blk):∃ v ys,(∀ lo,fw ⟨bs++[.cells []],lo⟩ z by_ (.row bs.length 0 0 (some 0) z) (.d (s.d cells))=some (v,⟨bs++([.cells []]++ys),lo⟩))/\v.cells=some [v]/\nu v=some v/\Hng false (KL bs.length (bs++([.cells []]++ys))) (bs++([.cells []]++ys)) v (.slice false (s.l.map cells)) 1:=by
 have hzz:z≠0:=by omega
 have hrc:∀ h,aO h (.d (s.d cells)) z=some (s.l.length,flat (s.l.map cells)):=λh=>by
  have hall:((s.l.map cells).all λe=>e.length==z)=true:=cj.2 λx hx=>by
   obtain ⟨y,_,rfl⟩:=b9.1 hx;simp [hz]
  simp only [aO,Sl.d,hall,if_true,flat,bx]
 by_cases h0:s.l.length=0
 . have hl:s.l=[]:=List.length_eq_zero_iff.1 h0;refine ⟨.row bs.length 0 0 (some 0) z,[],λlo=>?_,rfl,rfl,?_⟩
   . simp only [fw,hrc,aI,if_pos h0];simp [hzz]
   . rw [hl];exact Hng.row (cs:=[]) (es:=[]) (k:=0) ⟨bp _,by simp⟩ (by simp) trivial (by simp) rfl
 . have hroom:roomy s.l.length by_=true:=by simp only [roomy,ao,br]; exact ⟨hs.1,hby⟩
   refine ⟨.row (bs.length+1) 0 s.l.length none z,[.cells (flat (s.l.map cells))],λlo=>?_,rfl,rfl,?_⟩
   . simp only [fw,hrc,aI,if_neg h0];simp [hzz,hroom,h0]
   . refine Hng.row (cs:=flat (s.l.map cells)) (k:=0) ⟨by omega,by simp⟩ ?_ ?_ (λe he=>by obtain ⟨y,_,rfl⟩:=b9.1 he; exact hz y) (by simp)
     . have:=iy (bs:=bs) (ys:=[.cells [],.cells (flat (s.l.map cells))]) (i:=1);rw [show bs++([Blk.cells []]++[Blk.cells (flat (s.l.map cells))])=bs++[.cells [],.cells (flat (s.l.map cells))] from rfl,this];rfl
     . exact Hngs.data
end
section
variable {E:Calls'}
def fT {α:Type}(s:Sl α):Sl α:=⟨false,s.l⟩
def bY {α:Type}(l:List α):Sl α:=⟨l.isEmpty,l⟩
def Source.cp (s:Source):Source:=⟨fT s.names,fT s.spaces,fT s.nets⟩
def Target.cp (t:Target):Target:=⟨fT t.ports,fT t.methods,fT t.paths,fT t.hosts⟩
def When.cp (w:When):When:=⟨w.head,fT w.terms⟩
def Rule.cp (r:Rule):Rule:=⟨bY (r.frm.l.map Source.cp),bY (r.to.l.map Target.cp),bY (r.whn.l.map When.cp)⟩
structure K3 (r:Rule) (ws:List V) (L:Nat) (B0 bs:List Blk):Prop where
 r0:ai bs 0=some (r.c.map .d)
 a0:ai bs 1=some [.d (.slice true []),.d (.slice true []),.d (.slice true [])]
 x0:ai bs 2=some ws
 L3:3<=L
 len:L<=bs.length
 old:∀ x,x<L->x≠2->bs[x]?=B0[x]?
theorem AccV.cl {w:Bool}{L z k n:Nat}{ds:List D}{bs:List Blk}{v:V}(h:AccV w L z k n ds bs v):v.cells=some [v]:=by
 obtain ⟨_,_,rfl⟩ | ⟨_,B,cs,_,rfl,_⟩:=h<;>rfl
theorem AccV.blk {w:Bool}{L z k n:Nat}{ds:List D}{bs:List Blk}{v:V}(h:AccV w L z k n ds bs v):v.blk=[]\/∃ B,v.blk=[B]/\L<=B/\B<bs.length:=by
 obtain ⟨_,_,rfl⟩ | ⟨_,B,cs,h1,rfl,h3,_⟩:=h
 . exact .inl rfl
 . exact .inr ⟨B,rfl,h1,aJ h3⟩
theorem Hng.ext {w:Bool}{L L' k:Nat}{bs:List Blk}{v:V}{d:D}(h:Hng w (KL L bs) bs v d k)(ys:List Blk)(hL:L'<=L):Hng w (KL L' (bs++ys)) (bs++ys) v d k :=
 h.on (λx hx=>al hx.2) λx hx=>⟨cf hL hx.1,by have:=hx.2; simp; omega⟩
theorem PD (r:Rule)(hr:r.fits big)(vT vW:V)(L:Nat)(B0:List Blk):∀ (m i:Nat) (bs:List Blk) (lo:Nat) (v:V),i+m=r.frm.l.length->K3 r [v,vT,vW] L B0 bs->AccV false L 3 1 i ((r.frm.l.take i).map λs=>s.cp.c).flatten bs v →
 ∃ bs' lo' v',Cd E TX bW (.loop [1,2,3,4] rJ) [(1,.ptr 0 0),(2,.ptr 1 0),(3,.ptr 2 0),(4,.d (i64 i))] ⟨bs,lo⟩=some (.exit 0,[(1,.ptr 0 0),(2,.ptr 1 0),(3,.ptr 2 0)],⟨bs',lo'⟩)/\K3 r [v',vT,vW] L B0 bs'/\AccV false L 3 1 r.frm.l.length (r.frm.l.map λs=>s.cp.c).flatten bs' v':=by
 intro m;have hlen:=hr.1.1.lt;have key:=aF (E:=E) (T:=TX) (val:=bW) [1,2,3,4] rJ;generalize Cd E TX bW (.loop [1,2,3,4] rJ)=W at key ⊢
 induction m with
 | zero =>
  intro i bs lo v hi hK hA;have:i=r.frm.l.length:=by omega
  subst this;rw [List.take_length] at hA;refine ⟨bs,lo,v,?_,hK,hA⟩;rw [key];simp [rJ,hK.r0]
 | succ m ih =>
  intro i bs lo v hi hK hA;have hlt:i<r.frm.l.length:=by omega
  have hx:=ab hlt;have hmem:=bh hlt;have htk:r.frm.l.take (i+1)=r.frm.l.take i++[r.frm.l[i]]:=by rw [List.take_add_one,hx]; rfl
  generalize r.frm.l[i]=s at *;have hfs:=hr.1.2 s hmem;have hsx:=λh=>av (z:=3) h hx (cells:=Source.c) rfl;have hw:=ay hlt hlen;have h0:((i:Int)<r.frm.l.length):=by omega
  have hnu:=hA.nu;have hL3:=hK.L3;have hk3:=hK.len;have hr1:=aj (ys:=[.cells (s.c.map .d)]) hK.r0;obtain ⟨v1,y1,a1,b1,c1,d1⟩:=cpy (cells:=Term.c) (z:=2) (by_:=24) (λ_=>rfl) (by decide) (by decide) hfs.1 (bs++[.cells (s.c.map .d)]);obtain ⟨v2,y2,a2,b2,c2,d2⟩:=cpy (cells:=Term.c) (z:=2) (by_:=24) (λ_=>rfl) (by decide) (by decide) hfs.2.1 (bs++[.cells (s.c.map .d)]++([.cells []]++y1));obtain ⟨v3,y3,a3,b3,c3,d3⟩:=cpy (cells:=Cidr.c) (z:=2) (by_:=16) (λ_=>rfl) (by decide) (by decide) hfs.2.2 (bs++[.cells (s.c.map .d)]++([.cells []]++y1)++([.cells []]++y2));obtain ⟨H,hH⟩:∃ H,H=bs++Blk.cells (List.map V.d s.c)::Blk.cells []::(y1++Blk.cells []::(y2++Blk.cells []::(y3++[Blk.cells [v1,v2,v3]]))):=⟨_,rfl⟩;have g1:=d1.ext (L':=bs.length) (([.cells []]++y2)++([.cells []]++y3)++[.cells [v1,v2,v3]]) (by simp);have g2:=d2.ext (L':=bs.length) (([.cells []]++y3)++[.cells [v1,v2,v3]]) (by simp);have g3:=d3.ext (L':=bs.length) ([.cells [v1,v2,v3]]) (by simp);have G1:Hng false (KL bs.length H) H v1 (.slice false (s.names.l.map Term.c)) 1:=by rw [hH]; simpa using g1
  have G2:Hng false (KL bs.length H) H v2 (.slice false (s.spaces.l.map Term.c)) 1:=by rw [hH]; simpa using g2
  have G3:Hng false (KL bs.length H) H v3 (.slice false (s.nets.l.map Cidr.c)) 1:=by rw [hH]; simpa using g3
  have hvs:Hngs false (KL bs.length H) H 1 [v1,v2,v3] s.cp.c:=⟨G1,G2,G3,trivial⟩;have hHp:∀ x,x<bs.length->H[x]?=bs[x]?:=λx hx=>by rw [hH,al hx]
  have hHl:bs.length<=H.length:=by rw [hH]; simp
  have hAH:=hA.on hHl λx _ hx=>hHp x hx;have hHr:ai H (bs.length+(y1.length+(y2.length+(y3.length+1)+1)+1+1))=some [v1,v2,v3]:=by
   rw [hH];have:=iy (bs:=bs) (ys:=Blk.cells (List.map V.d s.c)::Blk.cells []::(y1++Blk.cells []::(y2++Blk.cells []::(y3++[Blk.cells [v1,v2,v3]])))) (i:=y1.length+(y2.length+(y3.length+1)+1)+1+1);rw [this];have e:Blk.cells (List.map V.d s.c)::Blk.cells []::(y1++Blk.cells []::(y2++Blk.cells []::(y3++[Blk.cells [v1,v2,v3]])))=(Blk.cells (List.map V.d s.c)::Blk.cells []::(y1++Blk.cells []::(y2++Blk.cells []::y3)))++[Blk.cells [v1,v2,v3]]:=by simp
   unfold ai;rw [e,bk (by simp<;>omega)];have:y1.length+(y2.length+(y3.length+1)+1)+1+1-(Blk.cells (List.map V.d s.c)::Blk.cells []::(y1++Blk.cells []::(y2++Blk.cells []::y3))).length=0:=by simp<;>omega
   rw [this]; rfl
  have hlow:∀ B n' c,v=.row B 0 n' c 3->B<bs.length:=λB n' c hv=>by
   obtain ⟨_,_,rfl⟩ | ⟨_,B',cs,_,rfl,hb,_⟩:=hA
   . simp at hv
   . simp at hv; rw [← hv.1]; exact aJ hb
  obtain ⟨v',bs',F,ha,hA',hL',hlo',hF⟩:=hAH.app (by decide) (by_:=72) (by decide) (cd hlt hr.1.1.1) (vs:=[v1,v2,v3]) rfl (cap:=some 1) hHr (L2:=bs.length) hk3 hlow hvs (by omega);have hb':∀ x,x<L->bs'[x]?=bs[x]?:=λx hx=>by rw [hlo' x hx,hHp x (by omega)]
  have hx2:ai bs' 2=some [v,vT,vW]:=by rw [← hK.x0]; unfold ai; rw [hb' 2 (by omega)]
  have hx2H:ai H 2=some [v,vT,vW]:=by rw [← hK.x0]; unfold ai; rw [hHp 2 (by omega)]
  obtain ⟨bs2,lo2,v2',r1,r2,r3⟩:=ih (i+1) (bs'.set 2 (.cells [v',vT,vW])) (min (F (min lo bs.length)) 2) v' (by omega)
   ⟨by rw [← hK.r0]; unfold ai; rw [ac (by decide),hb' 0 (by omega)],by rw [← hK.a0]; unfold ai; rw [ac (by decide),hb' 1 (by omega)],by
    have:=aJ hx2;simp [ai,this],hL3,by simp; omega,λx h1 h2=>by rw [ac (by omega),hb' x h1,hK.old x h1 h2]⟩
   (by
     rw [htk,List.map_append,List.flatten_append];simp only [cn,List.map_nil,List.flatten_cons,List.flatten_nil,List.append_nil];exact hA'.on (by simp) λx hx _=>ac (by omega))
  refine ⟨bs2,lo2,v2',?_,r2,r3⟩
  . rw [key];have q1:=a1 (min lo bs.length);have q2:=a2 (min lo bs.length);have q3:=a3 (min lo bs.length);have ha':=ha (min lo bs.length);simp at q1 q2 q3;simp [rJ,hK.r0,hr1,h0,hsx,hnu,az,aL,aB,hK.x0,aj hK.x0,q1,q2,q3,b1,b2,b3,c1,c2,c3,← hH,ha',hx2,hx2H,hA'.cl];rw [if_pos]
    . simp [hw];exact r1
    . have hHn:H.length=bs.length+(y1.length+(y2.length+(y3.length+1)+1)+1+1)+1:=by rw [hH]; simp<;>omega
      have hne:¬ bs=[]:=λh=>by rw [h] at hk3; simp at hk3; omega
      obtain hb | ⟨B,hb,hB,hBl⟩:=hA.blk<;>rw [hb]
      . simp [aG,List.range,List.range.loop,Tr.spares,hne];omega
      . simp [aG,List.range,List.range.loop,Tr.spares,hne];omega
theorem PE (r:Rule)(hr:r.fits big)(vF vW:V)(L:Nat)(B0:List Blk):∀ (m i:Nat) (bs:List Blk) (lo:Nat) (v:V),i+m=r.to.l.length->K3 r [vF,v,vW] L B0 bs->AccV false L 4 1 i ((r.to.l.take i).map λs=>s.cp.c).flatten bs v →
 ∃ bs' lo' v',Cd E TX bW (.loop [1,2,3,6] rM) [(1,.ptr 0 0),(2,.ptr 1 0),(3,.ptr 2 0),(6,.d (i64 i))] ⟨bs,lo⟩=some (.exit 2,[(1,.ptr 0 0),(2,.ptr 1 0),(3,.ptr 2 0)],⟨bs',lo'⟩)/\K3 r [vF,v',vW] L B0 bs'/\AccV false L 4 1 r.to.l.length (r.to.l.map λs=>s.cp.c).flatten bs' v':=by
 intro m;have hlen:=hr.2.1.1.lt;have key:=aF (E:=E) (T:=TX) (val:=bW) [1,2,3,6] rM;generalize Cd E TX bW (.loop [1,2,3,6] rM)=W at key ⊢
 induction m with
 | zero =>
  intro i bs lo v hi hK hA;have:i=r.to.l.length:=by omega
  subst this;rw [List.take_length] at hA;refine ⟨bs,lo,v,?_,hK,hA⟩;rw [key];simp [rM,hK.r0]
 | succ m ih =>
  intro i bs lo v hi hK hA;have hlt:i<r.to.l.length:=by omega
  have hx:=ab hlt;have hmem:=bh hlt;have htk:r.to.l.take (i+1)=r.to.l.take i++[r.to.l[i]]:=by rw [List.take_add_one,hx]; rfl
  generalize r.to.l[i]=s at *;have hfs:=hr.2.1.2 s hmem;have hsx:=λh=>av (z:=4) h hx (cells:=Target.c) rfl;have hw:=ay hlt hlen;have h0:((i:Int)<r.to.l.length):=by omega
  have hnu:=hA.nu;have hL3:=hK.L3;have hk3:=hK.len;have hr1:=aj (ys:=[.cells (s.c.map .d)]) hK.r0;obtain ⟨v1,y1,a1,b1,c1,d1⟩:=cpy (cells:=iB) (z:=1) (by_:=8) (λ_=>rfl) (by decide) (by decide) hfs.1 (bs++[.cells (s.c.map .d)]);obtain ⟨v2,y2,a2,b2,c2,d2⟩:=cpy (cells:=Term.c) (z:=2) (by_:=24) (λ_=>rfl) (by decide) (by decide) hfs.2.1 (bs++[.cells (s.c.map .d)]++([.cells []]++y1));obtain ⟨v3,y3,a3,b3,c3,d3⟩:=cpy (cells:=Term.c) (z:=2) (by_:=24) (λ_=>rfl) (by decide) (by decide) hfs.2.2.1 (bs++[.cells (s.c.map .d)]++([.cells []]++y1)++([.cells []]++y2));obtain ⟨v4,y4,a4,b4,c4,d4⟩:=cpy (cells:=Term.c) (z:=2) (by_:=24) (λ_=>rfl) (by decide) (by decide) hfs.2.2.2 (bs++[.cells (s.c.map .d)]++([.cells []]++y1)++([.cells []]++y2)++([.cells []]++y3));obtain ⟨H,hH⟩:∃ H,H=bs++Blk.cells (List.map V.d s.c)::Blk.cells []::(y1++Blk.cells []::(y2++Blk.cells []::(y3++Blk.cells []::(y4++[Blk.cells [v1,v2,v3,v4]])))):=⟨_,rfl⟩;have g1:=d1.ext (L':=bs.length) (([.cells []]++y2)++([.cells []]++y3)++([.cells []]++y4)++[.cells [v1,v2,v3,v4]]) (by simp);have g2:=d2.ext (L':=bs.length) (([.cells []]++y3)++([.cells []]++y4)++[.cells [v1,v2,v3,v4]]) (by simp);have g3:=d3.ext (L':=bs.length) (([.cells []]++y4)++[.cells [v1,v2,v3,v4]]) (by simp);have g4:=d4.ext (L':=bs.length) ([.cells [v1,v2,v3,v4]]) (by simp)
  have G1:Hng false (KL bs.length H) H v1 (.slice false (s.ports.l.map iB)) 1:=by rw [hH]; simpa using g1
  have G2:Hng false (KL bs.length H) H v2 (.slice false (s.methods.l.map Term.c)) 1:=by rw [hH]; simpa using g2
  have G3:Hng false (KL bs.length H) H v3 (.slice false (s.paths.l.map Term.c)) 1:=by rw [hH]; simpa using g3
  have G4:Hng false (KL bs.length H) H v4 (.slice false (s.hosts.l.map Term.c)) 1:=by rw [hH]; simpa using g4
  have hvs:Hngs false (KL bs.length H) H 1 [v1,v2,v3,v4] s.cp.c:=⟨G1,G2,G3,G4,trivial⟩;have hHp:∀ x,x<bs.length->H[x]?=bs[x]?:=λx hx=>by rw [hH,al hx]
  have hHl:bs.length<=H.length:=by rw [hH]; simp
  have hAH:=hA.on hHl λx _ hx=>hHp x hx;have hHr:ai H (bs.length+(y1.length+(y2.length+(y3.length+(y4.length+1)+1)+1)+1+1))=some [v1,v2,v3,v4]:=by
   rw [hH];have:=iy (bs:=bs) (ys:=Blk.cells (List.map V.d s.c)::Blk.cells []::(y1++Blk.cells []::(y2++Blk.cells []::(y3++Blk.cells []::(y4++[Blk.cells [v1,v2,v3,v4]]))))) (i:=y1.length+(y2.length+(y3.length+(y4.length+1)+1)+1)+1+1);rw [this];have e:Blk.cells (List.map V.d s.c)::Blk.cells []::(y1++Blk.cells []::(y2++Blk.cells []::(y3++Blk.cells []::(y4++[Blk.cells [v1,v2,v3,v4]]))))=(Blk.cells (List.map V.d s.c)::Blk.cells []::(y1++Blk.cells []::(y2++Blk.cells []::(y3++Blk.cells []::y4))))++[Blk.cells [v1,v2,v3,v4]]:=by simp
   unfold ai;rw [e,bk (by simp<;>omega)];have:y1.length+(y2.length+(y3.length+(y4.length+1)+1)+1)+1+1-(Blk.cells (List.map V.d s.c)::Blk.cells []::(y1++Blk.cells []::(y2++Blk.cells []::(y3++Blk.cells []::y4)))).length=0:=by simp<;>omega
   rw [this]; rfl
  have hlow:∀ B n' c,v=.row B 0 n' c 4->B<bs.length:=λB n' c hv=>by
   obtain ⟨_,_,rfl⟩ | ⟨_,B',cs,_,rfl,hb,_⟩:=hA
   . simp at hv
   . simp at hv; rw [← hv.1]; exact aJ hb
  obtain ⟨v',bs',F,ha,hA',hL',hlo',hF⟩:=hAH.app (by decide) (by_:=96) (by decide) (cd hlt hr.2.1.1.1) (vs:=[v1,v2,v3,v4]) rfl (cap:=some 1) hHr (L2:=bs.length) hk3 hlow hvs (by omega);have hb':∀ x,x<L->bs'[x]?=bs[x]?:=λx hx=>by rw [hlo' x hx,hHp x (by omega)]
  have hx2:ai bs' 2=some [vF,v,vW]:=by rw [← hK.x0]; unfold ai; rw [hb' 2 (by omega)]
  have hx2H:ai H 2=some [vF,v,vW]:=by rw [← hK.x0]; unfold ai; rw [hHp 2 (by omega)]
  obtain ⟨bs2,lo2,v2',r1,r2,r3⟩:=ih (i+1) (bs'.set 2 (.cells [vF,v',vW])) (min (F (min lo bs.length)) 2) v' (by omega)
   ⟨by rw [← hK.r0]; unfold ai; rw [ac (by decide),hb' 0 (by omega)],by rw [← hK.a0]; unfold ai; rw [ac (by decide),hb' 1 (by omega)],by
    have:=aJ hx2;simp [ai,this],hL3,by simp; omega,λx h1 h2=>by rw [ac (by omega),hb' x h1,hK.old x h1 h2]⟩
   (by
     rw [htk,List.map_append,List.flatten_append];simp only [cn,List.map_nil,List.flatten_cons,List.flatten_nil,List.append_nil];exact hA'.on (by simp) λx hx _=>ac (by omega))
  refine ⟨bs2,lo2,v2',?_,r2,r3⟩
  . rw [key];have q1:=a1 (min lo bs.length);have q2:=a2 (min lo bs.length);have q3:=a3 (min lo bs.length);have q4:=a4 (min lo bs.length);have ha':=ha (min lo bs.length);simp at q1 q2 q3 q4;simp [rM,hK.r0,hr1,h0,hsx,hnu,az,aL,aB,hK.x0,aj hK.x0,q1,q2,q3,q4,b1,b2,b3,b4,c1,c2,c3,c4,← hH,ha',hx2,hx2H,hA'.cl];rw [if_pos]
    . simp [hw];exact r1
    . have hHn:H.length=bs.length+(y1.length+(y2.length+(y3.length+(y4.length+1)+1)+1)+1+1)+1:=by rw [hH]; simp<;>omega
      have hne:¬ bs=[]:=λh=>by rw [h] at hk3; simp at hk3; omega
      obtain hb | ⟨B,hb,hB,hBl⟩:=hA.blk<;>rw [hb]
      . simp [aG,List.range,List.range.loop,Tr.spares,hne];omega
      . simp [aG,List.range,List.range.loop,Tr.spares,hne];omega
theorem PG (r:Rule)(hr:r.fits big)(vF vT:V)(L:Nat)(B0:List Blk):∀ (m i:Nat) (bs:List Blk) (lo:Nat) (v:V),i+m=r.whn.l.length->K3 r [vF,vT,v] L B0 bs->AccV false L 2 1 i ((r.whn.l.take i).map λs=>s.cp.c).flatten bs v →
 ∃ bs' lo' v',Cd E TX bW (.loop [1,2,3,8] rO) [(1,.ptr 0 0),(2,.ptr 1 0),(3,.ptr 2 0),(8,.d (i64 i))] ⟨bs,lo⟩=some (.exit 4,[(2,.ptr 1 0),(3,.ptr 2 0)],⟨bs',lo'⟩)/\K3 r [vF,vT,v'] L B0 bs'/\AccV false L 2 1 r.whn.l.length (r.whn.l.map λs=>s.cp.c).flatten bs' v':=by
 intro m;have hlen:=hr.2.2.1.lt;have key:=aF (E:=E) (T:=TX) (val:=bW) [1,2,3,8] rO;generalize Cd E TX bW (.loop [1,2,3,8] rO)=W at key ⊢
 induction m with
 | zero =>
  intro i bs lo v hi hK hA;have:i=r.whn.l.length:=by omega
  subst this;rw [List.take_length] at hA;refine ⟨bs,lo,v,?_,hK,hA⟩;rw [key];simp [rO,hK.r0]
 | succ m ih =>
  intro i bs lo v hi hK hA;have hlt:i<r.whn.l.length:=by omega
  have hx:=ab hlt;have hmem:=bh hlt;have htk:r.whn.l.take (i+1)=r.whn.l.take i++[r.whn.l[i]]:=by rw [List.take_add_one,hx]; rfl
  generalize r.whn.l[i]=s at *;have hfs:=hr.2.2.2 s hmem;have hsx:=λh=>av (z:=2) h hx (cells:=When.c) rfl;have hw:=ay hlt hlen;have h0:((i:Int)<r.whn.l.length):=by omega
  have hnu:=hA.nu;have hL3:=hK.L3;have hk3:=hK.len;have hr1:=aj (ys:=[.cells []]) hK.r0;obtain ⟨v1,y1,a1,b1,c1,d1⟩:=cpy (cells:=Term.c) (z:=2) (by_:=24) (λ_=>rfl) (by decide) (by decide) hfs (bs);obtain ⟨H,hH⟩:∃ H,H=bs++Blk.cells []::(y1++[Blk.cells [V.d (D.str s.head),v1]]):=⟨_,rfl⟩;have g1:=d1.ext (L':=bs.length) ([.cells [.d (.str s.head),v1]]) (by simp);have G1:Hng false (KL bs.length H) H v1 (.slice false (s.terms.l.map Term.c)) 1:=by rw [hH]; simpa using g1
  have hvs:Hngs false (KL bs.length H) H 1 [.d (.str s.head),v1] s.cp.c:=⟨Hng.d λnl c cs hh=>by simp at hh,G1,trivial⟩;have hHp:∀ x,x<bs.length->H[x]?=bs[x]?:=λx hx=>by rw [hH,al hx]
  have hHl:bs.length<=H.length:=by rw [hH]; simp
  have hAH:=hA.on hHl λx _ hx=>hHp x hx;have hHr:ai H (bs.length+(y1.length+1))=some [.d (.str s.head),v1]:=by
   rw [hH];have:=iy (bs:=bs) (ys:=Blk.cells []::(y1++[Blk.cells [V.d (D.str s.head),v1]])) (i:=y1.length+1);rw [this];have e:Blk.cells []::(y1++[Blk.cells [V.d (D.str s.head),v1]])=(Blk.cells []::y1)++[Blk.cells [V.d (D.str s.head),v1]]:=by simp
   unfold ai;rw [e,bk (by simp<;>omega)];have:y1.length+1-(Blk.cells []::y1).length=0:=by simp<;>omega
   rw [this]; rfl
  have hlow:∀ B n' c,v=.row B 0 n' c 2->B<bs.length:=λB n' c hv=>by
   obtain ⟨_,_,rfl⟩ | ⟨_,B',cs,_,rfl,hb,_⟩:=hA
   . simp at hv
   . simp at hv; rw [← hv.1]; exact aJ hb
  obtain ⟨v',bs',F,ha,hA',hL',hlo',hF⟩:=hAH.app (by decide) (by_:=40) (by decide) (cd hlt hr.2.2.1.1) (vs:=[.d (.str s.head),v1]) rfl (cap:=some 1) hHr (L2:=bs.length) hk3 hlow hvs (by omega);have hb':∀ x,x<L->bs'[x]?=bs[x]?:=λx hx=>by rw [hlo' x hx,hHp x (by omega)]
  have hx2:ai bs' 2=some [vF,vT,v]:=by rw [← hK.x0]; unfold ai; rw [hb' 2 (by omega)]
  have hx2H:ai H 2=some [vF,vT,v]:=by rw [← hK.x0]; unfold ai; rw [hHp 2 (by omega)]
  obtain ⟨bs2,lo2,v2',r1,r2,r3⟩:=ih (i+1) (bs'.set 2 (.cells [vF,vT,v'])) (min (F lo) 2) v' (by omega)
   ⟨by rw [← hK.r0]; unfold ai; rw [ac (by decide),hb' 0 (by omega)],by rw [← hK.a0]; unfold ai; rw [ac (by decide),hb' 1 (by omega)],by
    have:=aJ hx2;simp [ai,this],hL3,by simp; omega,λx h1 h2=>by rw [ac (by omega),hb' x h1,hK.old x h1 h2]⟩
   (by
     rw [htk,List.map_append,List.flatten_append];simp only [cn,List.map_nil,List.flatten_cons,List.flatten_nil,List.append_nil];exact hA'.on (by simp) λx hx _=>ac (by omega))
  refine ⟨bs2,lo2,v2',?_,r2,r3⟩
  . rw [key];have q1:=a1 lo;have ha':=ha lo;simp at q1;simp [rO,hK.r0,hr1,h0,hsx,hnu,az,aL,aB,hK.x0,aj hK.x0,q1,b1,c1,← hH,ha',hx2,hx2H,hA'.cl];rw [if_pos]
    . simp [hw];exact r1
    . have hHn:H.length=bs.length+(y1.length+1)+1:=by rw [hH]; simp<;>omega
      have hne:¬ bs=[]:=λh=>by rw [h] at hk3; simp at hk3; omega
      obtain hb | ⟨B,hb,hB,hBl⟩:=hA.blk<;>rw [hb]
      . simp [aG,List.range,List.range.loop,Tr.spares,hne];omega
      . simp [aG,List.range,List.range.loop,Tr.spares,hne];omega
end
section
variable {E:Calls'}
theorem K3.next {r:Rule}{ws:List V}{L:Nat}{B0 bs:List Blk}(h:K3 r ws L B0 bs):K3 r ws bs.length bs bs:=⟨h.r0,h.a0,h.x0,cf h.L3 h.len,bp _,λ_ _ _=>rfl⟩
theorem AccV.old {r:Rule}{ws:List V}{L0 z k n:Nat}{ds:List D}{B0 bs:List Blk}{v:V}(h:AccV false L0 z k n ds B0 v)(hK:K3 r ws B0.length B0 bs)(h3:3<=L0):AccV false L0 z k n ds bs v :=
 h.on hK.len λx hx hl=>hK.old x hl (by omega)
theorem Rule.cp_c (r:Rule):r.cp.c=[.slice (r.frm.l.map λs=>s.cp.c).isEmpty (r.frm.l.map λs=>s.cp.c),.slice (r.to.l.map λs=>s.cp.c).isEmpty (r.to.l.map λs=>s.cp.c),.slice (r.whn.l.map λs=>s.cp.c).isEmpty (r.whn.l.map λs=>s.cp.c)]:=by
 simp [Rule.cp,Rule.c,Sl.d,bY,ck]
theorem x89:TX 121=some q89:=by kernel_rfl
theorem w89:bW 121=true:=by kernel_rfl
theorem S89 (r:Rule)(hr:r.fits big)(h:Hp):Sm E TX bW 121 [ag r.c] h=some (ag r.cp.c,h):=by
 have hK:K3 r [.d (.slice true []),.d (.slice true []),.d (.slice true [])] 3 [.cells (r.c.map .d),.cells [.d (.slice true []),.d (.slice true []),.d (.slice true [])],.cells [.d (.slice true []),.d (.slice true []),.d (.slice true [])]] [.cells (r.c.map .d),.cells [.d (.slice true []),.d (.slice true []),.d (.slice true [])],.cells [.d (.slice true []),.d (.slice true []),.d (.slice true [])]]:=⟨rfl,rfl,rfl,by decide,by simp,λ_ _ _=>rfl⟩;obtain ⟨bs1,lo1,v1,a1,k1,A1⟩:=PD (E:=E) r hr _ _ _ _ r.frm.l.length 0 _ 0 _ (by omega) hK (by simpa using AccV.nil 3 3 1 _);obtain ⟨bs2,lo2,v2,a2,k2,A2⟩:=PE (E:=E) r hr _ _ _ _ r.to.l.length 0 _ lo1 _ (by omega) k1.next (by simpa using AccV.nil bs1.length 4 1 _);obtain ⟨bs3,lo3,v3,a3,k3,A3⟩:=PG (E:=E) r hr _ _ _ _ r.whn.l.length 0 _ lo2 _ (by omega) k2.next (by simpa using AccV.nil bs2.length 2 1 _);have h1:=k1.len; have h2:=k2.len; have h3:=k3.len;have B1:=(A1.old k2 (by omega)).old k3 (by omega);have B2:=A2.old k3 (by omega);have G1:=B1.hng (λe he=>by obtain ⟨y,_,rfl⟩:=b9.1 he; rfl) (by simp);have G2:=B2.hng (λe he=>by obtain ⟨y,_,rfl⟩:=b9.1 he; rfl) (by simp);have G3:=A3.hng (λe he=>by obtain ⟨y,_,rfl⟩:=b9.1 he; rfl) (by simp);have c1:=B1.cl; have c2:=B2.cl; have c3:=A3.cl;have n1:=B1.nu; have n2:=B2.nu; have n3:=A3.nu;have e1:=λlo=>(G1 (bs3.set 1 (.cells [v1,v2,v3])) lo (λx hx=>ac (by have:=hx.1; omega)) 8 (by omega)).1
 have e2:=λlo=>(G2 (bs3.set 1 (.cells [v1,v2,v3])) lo (λx hx=>ac (by have:=hx.1; omega)) 8 (by omega)).1;have e3:=λlo=>(G3 (bs3.set 1 (.cells [v1,v2,v3])) lo (λx hx=>ac (by have:=hx.1; omega)) 8 (by omega)).1;have ha3:=k3.a0; have hx3:=k3.x0;have hl3:=aJ ha3;have hset:ai (bs3.set 1 (.cells [v1,v2,v3])) 1=some [v1,v2,v3]:=by simp [ai,hl3]
 rw [aQ x89 w89,Rule.cp_c];have a1':=a1; have a2':=a2; have a3':=a3;simp at a1' a2' a3';simp [aa,q89];rw [au];simp [a1'];rw [au];simp [a2'];rw [au];simp [a3',ha3,hx3,c1,c2,c3,n1,n2,n3,hl3,bP,e1,e2,e3,hset]
theorem zI {T:FuncId->Option QF}{val:FuncId->Bool}{keep:List Nat}{body:QC}{base:List Blk}{z:Nat}(n:Nat)(G:Nat->List (List D))(env:Nat->V->EA)(X:V->Ex×EA)
 (hr:∀ i,i<n->∀ bs lo v,Acc base z (G i) bs v->∃ bs' lo' v',Acc base z (G (i+1)) bs' v'/\∀ W:EA->Hp->fu,dJ keep W (Cd E T val body (bN keep (env i v)) ⟨bs,lo⟩)=W (env (i+1) v') ⟨bs',lo'⟩)
 (he:∀ bs lo v,Acc base z (G n) bs v->∀ W:EA->Hp->fu,dJ keep W (Cd E T val body (bN keep (env n v)) ⟨bs,lo⟩)=some ((X v).1,(X v).2,⟨bs,lo⟩)) (bs:List Blk) (lo:Nat) (v:V) (h0:Acc base z (G 0) bs v) :
 ∃ bs' lo' v',Cd E T val (.loop keep body) (env 0 v) ⟨bs,lo⟩=some ((X v').1,(X v').2,⟨bs',lo'⟩)/\Acc base z (G n) bs' v':=by
 have:∀ (m i:Nat) (bs:List Blk) (lo:Nat) (v:V),i+m=n->Acc base z (G i) bs v->∃ bs' lo' v',Cd E T val (.loop keep body) (env i v) ⟨bs,lo⟩=some ((X v').1,(X v').2,⟨bs',lo'⟩)/\Acc base z (G n) bs' v':=by
  intro m;have key:=aF (E:=E) (T:=T) (val:=val) keep body;generalize Cd E T val (.loop keep body)=W at key ⊢
  induction m with
  | zero =>
   intro i bs lo v hi hP;rw [show i=n by omega] at hP ⊢;exact ⟨bs,lo,v,by rw [key,he bs lo v hP W],hP⟩
  | succ m ih =>
   intro i bs lo v hi hP;obtain ⟨bs',lo',v',h1,h2⟩:=hr i (by omega) bs lo v hP;obtain ⟨bs2,lo2,v2,h3,h4⟩:=ih (i+1) bs' lo' v' (by omega) h1;exact ⟨bs2,lo2,v2,by rw [key,h2 W,h3],h4⟩
 exact this n 0 bs lo v (by omega) h0
def Pol.cp (p:Pol):Pol:={ p with rules:=bY (p.rules.l.map Rule.cp) }
theorem Pol.cp_c (p:Pol):p.cp.c=[u64 p.id,.str p.ns,u64 p.service,i64 p.deny,.slice (p.rules.l.map λr=>r.cp.c).isEmpty (p.rules.l.map λr=>r.cp.c)]:=by
 simp [Pol.cp,Pol.c,Sl.d,bY,ck]
theorem x35:TX 61=some q35:=by kernel_rfl
theorem w35:bW 61=true:=by kernel_rfl
theorem L35 (p:Pol)(hp:p.fits big)(base:List Blk)(hb:ai base 0=some (p.c.map .d))(lo:Nat):∃ bs' lo' v',Cd E TX bW (.loop [1,2,3,4] uZ) [(1,.ptr 0 0),(2,.ptr 1 0),(3,.d (.slice true [])),(4,.d (i64 0))] ⟨base,lo⟩=some (.exit 0,[(1,.ptr 0 0),(2,.ptr 1 0),(3,v')],⟨bs',lo'⟩)/\Acc base 3 (p.rules.l.map λr=>r.cp.c) bs' v':=by
 have hlen:=hp.1.lt;have key:=zI (E:=E) (T:=TX) (val:=bW) (base:=base) (z:=3) (keep:=[1,2,3,4]) (body:=uZ) p.rules.l.length (λi=>(p.rules.l.take i).map λr=>r.cp.c) (λi v=>[(1,.ptr 0 0),(2,.ptr 1 0),(3,v),(4,.d (i64 i))]) (λv=>(.exit 0,[(1,.ptr 0 0),(2,.ptr 1 0),(3,v)])) (λi hi bs lo v hA=>?_) (λbs lo v hA W=>?_) base lo _ (by simpa using Acc.nil base 3)
 . simpa using key
 . have hx:=ab hi;have hmem:=bh hi;have htk:p.rules.l.take (i+1)=p.rules.l.take i++[p.rules.l[i]]:=by rw [List.take_add_one,hx]; rfl
   generalize p.rules.l[i]=r at *;have hsx:=λh=>av (z:=3) h hx (cells:=Rule.c) rfl;have hw:=ay hi hlen;have h0:((i:Int)<p.rules.l.length):=by omega
   have hnu:=hA.nu;have hg:=hA.get hb;have hcall:=λh=>S89 (E:=E) r (hp.2 r hmem) h;obtain ⟨v',bs',lo',ha,hA'⟩:=(hA.lay [.cells (r.cp.c.map .d)]).app (by decide) (by_:=72) (by decide) (e:=r.cp.c) rfl (by simp; have:=hp.1.1; omega) lo (r:=bs.length) (cap:=some 1) (by simp);refine ⟨bs',lo',v',by rw [htk,List.map_append]; exact hA',λW=>?_⟩;simp [uZ,hg,h0,hsx,hnu,hcall,aB,ha,hw,hA'.nu]
 . simp [uZ,hA.get hb]
theorem Acc.hng {base:List Blk}{z:Nat}{acc:List (List D)}{bs:List Blk}{v:V}(h:Acc base z acc bs v):Hng false (KL base.length bs) bs v (.slice acc.isEmpty acc) 1:=by
 obtain ⟨rfl,rfl⟩ | ⟨h1,b,h2,rfl,h4⟩:=h.is
 . exact Hng.data
 . rw [show acc.isEmpty=false by cases acc with | nil=>exact absurd rfl h1 | cons _ _=>rfl];exact Hng.row (k:=0) ⟨h2,aJ h4⟩ h4 Hngs.data h.wid rfl
theorem Acc.cl {base:List Blk}{z:Nat}{acc:List (List D)}{bs:List Blk}{v:V}(h:Acc base z acc bs v):v.cells=some [v]:=by
 obtain ⟨_,rfl⟩ | ⟨_,b,_,rfl,_⟩:=h.is<;>rfl
theorem S35 (p:Pol)(hp:p.fits big)(h:Hp):Sm E TX bW 61 [ag p.c] h=some (ag p.cp.c,h):=by
 obtain ⟨bs,lo,v,a1,A⟩:=L35 (E:=E) p hp [.cells (p.c.map .d),.cells [.d (.int .u64 0),.d (.str ⟨#[]⟩),.d (.int .u64 0),.d (i64 0),.d (.slice true [])]] rfl 0;have hg:=A.get (x:=0) (cs:=p.c.map .d) rfl;have hg1:=A.get (x:=1) rfl;have hnu:=A.nu;rw [aQ x35 w35,Pol.cp_c];simp [aa,q35];rw [au];have hcl:=A.cl;have hl:=A.len;simp at hl;have hl0:0<bs.length:=by omega
 have hl1:1<bs.length:=by omega
 have e1:=λlo=>(A.hng ((bs.set 0 (.cells [.d (u64 p.id),.d (.str p.ns),.d (u64 p.service),.d (i64 p.deny),v])).set 1 (.cells [.d (u64 p.id),.d (.str p.ns),.d (u64 p.service),.d (i64 p.deny),v])) lo (λx hx=>by have:=hx.1; simp at this; rw [ac (by omega),ac (by omega)]) 8 (by omega)).1;have h0:ai (bs.set 0 (.cells [.d (u64 p.id),.d (.str p.ns),.d (u64 p.service),.d (i64 p.deny),v])) 0=some [.d (u64 p.id),.d (.str p.ns),.d (u64 p.service),.d (i64 p.deny),v]:=by
  simp [ai,hl0,hl1]
 have h1:ai (bs.set 0 (.cells [.d (u64 p.id),.d (.str p.ns),.d (u64 p.service),.d (i64 p.deny),v])) 1=some [.d (.int .u64 0),.d (.str ⟨#[]⟩),.d (.int .u64 0),.d (i64 0),.d (.slice true [])]:=by
  rw [← hg1]; unfold ai; rw [ac (by decide)]
 have h2:ai ((bs.set 0 (.cells [.d (u64 p.id),.d (.str p.ns),.d (u64 p.service),.d (i64 p.deny),v])).set 1 (.cells [.d (u64 p.id),.d (.str p.ns),.d (u64 p.service),.d (i64 p.deny),v])) 1=some [.d (u64 p.id),.d (.str p.ns),.d (u64 p.service),.d (i64 p.deny),v]:=by
  simp [ai,hl0,hl1]
 simp [a1];simp [hg,hg1,hnu,hcl,Pol.c,h0,h1,h2,bP,e1]
end
section
variable {E:Calls'}
theorem Acc.ownR {base:List Blk}{z:Nat}{acc:List (List D)}{bs:List Blk}{v:V}(h:Acc base z acc bs v)(hd:∀ e∈acc,∀ d∈e,∀ nl c cs,d≠.slice nl (c::cs))(lo:Nat):ownR ⟨bs,lo⟩ v=true:=by
 have hH:Hng true (KL base.length bs) bs v (.slice acc.isEmpty acc) 1:=by
  obtain ⟨rfl,rfl⟩ | ⟨h1,b,h2,rfl,h4⟩:=h.is
  . exact Hng.d λnl c cs hh=>by simp at hh
  . rw [show acc.isEmpty=false by cases acc with | nil=>exact absurd rfl h1 | cons _ _=>rfl];refine Hng.row (k:=0) ⟨h2,aJ h4⟩ h4 ?_ h.wid rfl;have:∀ ds:List D,(∀ d∈ds,∀ nl c cs,d≠.slice nl (c::cs))->Hngs true (KL base.length bs) bs 0 (ds.map .d) ds:=by
     intro ds
     induction ds with
     | nil=>intro _; trivial
     | cons d ds ih=>intro hh; exact ⟨Hng.d (hh d (by simp)),ih λd hd=>hh d (by simp [hd])⟩
    exact this _ λd hdm=>by
     obtain ⟨e,he,hde⟩:=List.mem_flatten.1 hdm;exact hd e he d hde
 have:=(hH bs lo (λ_ _=>rfl) 8 (by omega)).2 rfl;obtain ⟨rfl,rfl⟩ | ⟨h1,b,h2,rfl,h4⟩:=h.is
 . exact this
 . exact this
end
section
variable {E:Calls'}
theorem mE {α β:Type}{f:α->β->Bool}:∀ {l:List α} {m:List β},l.length=m.length->all2 f l m=(l.zip m).all λx=>f x.1 x.2
 | [],[],_=>rfl
 | x::l,y::m,h=>by simp [all2,mE (f:=f) (l:=l) (m:=m) (by simpa using h)]
theorem x38:TX 62=some q38:=by kernel_rfl
theorem w38:bW 62=true:=by kernel_rfl
theorem PR (a b:Cfg)(hc:a.ok)(hl:a.pods.l.length=b.pods.l.length):Cd E TX bW (.loop [2,3,5] xP) [(2,.ptr 0 0),(3,.ptr 1 0),(5,.d (i64 ((0:Nat):Int)))] ⟨[.cells (a.c.map .d),.cells (b.c.map .d)],0⟩=some (cond (all2 Pod.eqB a.pods.l b.pods.l) (.exit 0,[(2,.ptr 0 0),(3,.ptr 1 0)],⟨[.cells (a.c.map .d),.cells (b.c.map .d)],0⟩) (.ret,[(4,bl false)],⟨[.cells (a.c.map .d),.cells (b.c.map .d)],0⟩)):=by
 have hlen:=hc.1.lt;rw [mE hl];have hzl:(a.pods.l.zip b.pods.l).length=a.pods.l.length:=by simp; omega
 refine bR (a.pods.l.zip b.pods.l) (λx=>Pod.eqB x.1 x.2) (λi=>[(2,.ptr 0 0),(3,.ptr 1 0),(5,.d (i64 i))]) _ _ _ (λi x hx hi W=>?_) (λW=>?_)
 . obtain ⟨x,y⟩:=x;obtain ⟨h1,h2⟩:=List.getElem?_zip_eq_some.1 hx;have hsx:=λh=>av (z:=7) h h1 (cells:=Pod.c) rfl;have hsy:=λh=>av (z:=7) h h2 (cells:=Pod.c) rfl;rw [hzl] at hi;have hw:=ay hi hlen;have h0:((i:Int)<a.pods.l.length):=by omega
   cases hA:Pod.eqB x y<;>simp [xP,hsx,hsy,h0,hw,hA]
 . simp [xP,hzl]
theorem PS (a b:Cfg)(hc:a.ok)(hl:a.services.l.length=b.services.l.length):Cd E TX bW (.loop [2,3,6] xQ) [(2,.ptr 0 0),(3,.ptr 1 0),(6,.d (i64 ((0:Nat):Int)))] ⟨[.cells (a.c.map .d),.cells (b.c.map .d)],0⟩=some (cond (all2 Svc.eqB a.services.l b.services.l) (.exit 2,[(2,.ptr 0 0),(3,.ptr 1 0)],⟨[.cells (a.c.map .d),.cells (b.c.map .d)],0⟩) (.ret,[(4,bl false)],⟨[.cells (a.c.map .d),.cells (b.c.map .d)],0⟩)):=by
 have hlen:=hc.2.1.lt;rw [mE hl];have hzl:(a.services.l.zip b.services.l).length=a.services.l.length:=by simp; omega
 refine bR (a.services.l.zip b.services.l) (λx=>Svc.eqB x.1 x.2) (λi=>[(2,.ptr 0 0),(3,.ptr 1 0),(6,.d (i64 i))]) _ _ _ (λi x hx hi W=>?_) (λW=>?_)
 . obtain ⟨x,y⟩:=x;obtain ⟨h1,h2⟩:=List.getElem?_zip_eq_some.1 hx;have hsx:=λh=>av (z:=5) h h1 (cells:=Svc.c) rfl;have hsy:=λh=>av (z:=5) h h2 (cells:=Svc.c) rfl;rw [hzl] at hi;have hw:=ay hi hlen;have h0:((i:Int)<a.services.l.length):=by omega
   cases hA:Svc.eqB x y<;>simp [xQ,hsx,hsy,h0,hw,hA]
 . simp [xQ,hzl]
theorem PT (a b:Cfg)(hc:a.ok)(hl:a.bound.l.length=b.bound.l.length):Cd E TX bW (.loop [2,3,7] xR) [(2,.ptr 0 0),(3,.ptr 1 0),(7,.d (i64 ((0:Nat):Int)))] ⟨[.cells (a.c.map .d),.cells (b.c.map .d)],0⟩=some (cond (all2 Way.eqB a.bound.l b.bound.l) (.exit 4,[(2,.ptr 0 0),(3,.ptr 1 0)],⟨[.cells (a.c.map .d),.cells (b.c.map .d)],0⟩) (.ret,[(4,bl false)],⟨[.cells (a.c.map .d),.cells (b.c.map .d)],0⟩)):=by
 have hlen:=hc.2.2.1.lt;rw [mE hl];have hzl:(a.bound.l.zip b.bound.l).length=a.bound.l.length:=by simp; omega
 refine bR (a.bound.l.zip b.bound.l) (λx=>Way.eqB x.1 x.2) (λi=>[(2,.ptr 0 0),(3,.ptr 1 0),(7,.d (i64 i))]) _ _ _ (λi x hx hi W=>?_) (λW=>?_)
 . obtain ⟨x,y⟩:=x;obtain ⟨h1,h2⟩:=List.getElem?_zip_eq_some.1 hx;have hsx:=λh=>av (z:=2) h h1 (cells:=Way.c) rfl;have hsy:=λh=>av (z:=2) h h2 (cells:=Way.c) rfl;rw [hzl] at hi;have hw:=ay hi hlen;have h0:((i:Int)<a.bound.l.length):=by omega
   cases hA:Way.eqB x y<;>simp [xR,hsx,hsy,h0,hw,hA]
 . simp [xR,hzl]
theorem PU (hE:∀ x y:Pol,x.ok->∀ h,E 16 [ag x.c,ag y.c] h=some (bl (x.same y),h))(a b:Cfg)(hc:a.ok)(hl:a.policies.l.length=b.policies.l.length):Cd E TX bW (.loop [2,3,8] xS) [(2,.ptr 0 0),(3,.ptr 1 0),(8,.d (i64 ((0:Nat):Int)))] ⟨[.cells (a.c.map .d),.cells (b.c.map .d)],0⟩=some (cond (all2 Pol.same a.policies.l b.policies.l) (.exit 6,[],⟨[.cells (a.c.map .d),.cells (b.c.map .d)],0⟩) (.ret,[(4,bl false)],⟨[.cells (a.c.map .d),.cells (b.c.map .d)],0⟩)):=by
 have hlen:=hc.2.2.2.1.lt;rw [mE hl];have hzl:(a.policies.l.zip b.policies.l).length=a.policies.l.length:=by simp; omega
 refine bR (a.policies.l.zip b.policies.l) (λx=>Pol.same x.1 x.2) (λi=>[(2,.ptr 0 0),(3,.ptr 1 0),(8,.d (i64 i))]) _ _ _ (λi x hx hi W=>?_) (λW=>?_)
 . obtain ⟨x,y⟩:=x;obtain ⟨h1,h2⟩:=List.getElem?_zip_eq_some.1 hx;have hsx:=λh=>av (z:=5) h h1 (cells:=Pol.c) rfl;have hsy:=λh=>av (z:=5) h h2 (cells:=Pol.c) rfl;rw [hzl] at hi;have hw:=ay hi hlen;have h0:((i:Int)<a.policies.l.length):=by omega
   have hm:=cb h1;have hcall:=λh=>(aU (E:=E) (T:=TX) (val:=bW) (f:=16) (by kernel_rfl)).trans (hE x y (hc.2.2.2.2 x hm) h);cases hA:x.same y<;>rw [hA] at hcall<;>simp +decide [xS,hsx,hsy,h0,hw,az,ae,aL,hcall]
 . simp [xS,hzl]
theorem S38 (hE:∀ x y:Pol,x.ok->∀ h,E 16 [ag x.c,ag y.c] h=some (bl (x.same y),h))(a b:Cfg)(ha:a.ok)(h:Hp):Sm E TX bW 62 [a.v,b.v] h=some (bl (a.same b),h):=by
 rw [aQ x38 w38];unfold Cfg.same;cases e1:(a.epoch==b.epoch)
 case false=>simp [aa,q38,e1]
 cases e2:(a.next==b.next)
 case false=>simp [aa,q38,e1,e2]
 cases e3:(a.hosts==b.hosts)
 case false=>simp [aa,q38,e1,e2,e3]
 cases e4:(a.ways==b.ways)
 case false=>simp [aa,q38,e1,e2,e3,e4]
 by_cases h1:a.pods.l.length=b.pods.l.length
 case neg =>
  have h1':¬ ((a.pods.l.length:Int)=b.pods.l.length):=by omega
  simp [aa,q38,e1,e2,e3,e4,h1',gZ h1]
 by_cases h2:a.services.l.length=b.services.l.length
 case neg =>
  have h1':¬ ((a.services.l.length:Int)=b.services.l.length):=by omega
  simp [aa,q38,e1,e2,e3,e4,h1,h1',gZ h2]
 by_cases h3:a.bound.l.length=b.bound.l.length
 case neg =>
  have h1':¬ ((a.bound.l.length:Int)=b.bound.l.length):=by omega
  simp [aa,q38,e1,e2,e3,e4,h1,h2,h1',gZ h3]
 by_cases h4:a.policies.l.length=b.policies.l.length
 case neg =>
  have h1':¬ ((a.policies.l.length:Int)=b.policies.l.length):=by omega
  simp [aa,q38,e1,e2,e3,e4,h1,h2,h3,h1',gZ h4]
 have k1:=PR (E:=E) a b ha h1;have k2:=PS (E:=E) a b ha h2;have k3:=PT (E:=E) a b ha h3;have k4:=PU (E:=E) hE a b ha h4;simp at k1 k2 k3 k4;generalize all2 Pod.eqB a.pods.l b.pods.l=A1 at *;generalize all2 Svc.eqB a.services.l b.services.l=A2 at *;generalize all2 Way.eqB a.bound.l b.bound.l=A3 at *;generalize all2 Pol.same a.policies.l b.policies.l=A4 at *;simp [aa,q38,e1,e2,e3,e4,h1,h2,h3,h4];rw [au];cases A1
 case false=>simp [k1]
 simp [k1];rw [au];cases A2
 case false=>simp [k2]
 simp [k2];rw [au];cases A3
 case false=>simp [k3]
 simp [k3];rw [au];cases A4<;>simp [k4]
end
