/- The document's merge of two rows, plain and as1 a loop. -/
import Derived.Test.YtoecipeaknldaaaGreatIb
set_option maxHeartbeats 2000000
set_option maxRecDepth 100000
set_option linter.unusedVariables false
set_option linter.unusedSimpArgs false
namespace Go.Proofs.YtoecipeaknldaaaGreat
section
variable {E:Calls'}
def mrg {α:Type}(key:α->Int)(q:α->Bool):List α->List α->List α
 | l,[]=>l.filter q
 | [],f::fs=>f::fs
 | x::l,f::fs=>if key f<=key x then f::mrg key q (x::l) fs else (if q x then [x] else [])++mrg key q l (f::fs)
termination_by l fs=>l.length+fs.length
section
variable {α:Type}{key:α->Int}{q:α->Bool}
theorem tq (fs:List α):mrg key q [] fs=fs:=by
 cases fs with
 | nil=>simp [mrg]
 | cons f fs=>simp [mrg]
theorem Gt {l fs:List α}{f:α}(h:∀ x,l.head?=some x->key f<=key x):mrg key q l (f::fs)=f::mrg key q l fs:=by
 cases l with
 | nil=>rw [tq,tq]
 | cons x l=>rw [mrg,if_pos (h x rfl)]
theorem Gv {l fs:List α}{x:α}(h:∀ f,fs.head?=some f->¬ key f<=key x):mrg key q (x::l) fs=(if q x then [x] else [])++mrg key q l fs:=by
 cases fs with
 | nil =>
  rw [mrg,mrg,List.filter_cons];split<;>simp
 | cons f fs=>rw [mrg,if_neg (h f rfl)]
theorem xD {y:α}:∀ (n:Nat) (l fs:List α),l.length+fs.length=n->(y∈mrg key q l fs↔(y∈l/\q y=true)\/y∈fs):=by
 intro n
 induction n with
 | zero =>
  intro l fs h;have h1:l=[]:=List.eq_nil_of_length_eq_zero (by omega);have h2:fs=[]:=List.eq_nil_of_length_eq_zero (by omega);subst h1 h2;simp [mrg]
 | succ n ih =>
  intro l fs h;cases l with
  | nil=>rw [tq]; simp
  | cons x l =>
   cases fs with
   | nil=>rw [mrg,List.mem_filter]; simp
   | cons f fs =>
    by_cases hc:key f<=key x
    . rw [Gt (λy hy=>by cases hy; exact hc),List.mem_cons,ih (x::l) fs (by simp at h ⊢; omega),List.mem_cons,List.mem_cons];constructor
      . rintro (h | h | h)<;>simp [h]
      . rintro (h | h | h)<;>simp [h]
    . rw [Gv (λy hy=>by cases hy; exact hc),List.mem_append,ih l (f::fs) (by simp at h ⊢; omega)];by_cases hq:q x=true
      . rw [if_pos hq];simp only [List.mem_cons,List.not_mem_nil,or_false];constructor
        . rintro (h | h | h)
          . exact .inl ⟨.inl h,by rw [h]; exact hq⟩
          . exact .inl ⟨.inr h.1,h.2⟩
          . exact .inr h
        . rintro (⟨h | h,h2⟩ | h)
          . exact .inl h
          . exact .inr (.inl ⟨h,h2⟩)
          . exact .inr (.inr h)
      . rw [if_neg hq];simp only [List.mem_cons,List.not_mem_nil,false_or];constructor
        . rintro (h | h)
          . exact .inl ⟨.inr h.1,h.2⟩
          . exact .inr h
        . rintro (⟨h | h,h2⟩ | h)
          . subst h; exact absurd h2 hq
          . exact .inl ⟨h,h2⟩
          . exact .inr h
theorem Gu:∀ (n:Nat) (l fs:List α),l.length+fs.length=n->l.Pairwise (λa b=>key a<key b)->fs.Pairwise (λa b=>key a<key b)->(∀ x∈l,q x=true->∀ f∈fs,key x≠key f)->(mrg key q l fs).Pairwise λa b=>key a<key b:=by
 intro n
 induction n with
 | zero =>
  intro l fs h _ _ _;have h1:l=[]:=List.eq_nil_of_length_eq_zero (by omega);have h2:fs=[]:=List.eq_nil_of_length_eq_zero (by omega);subst h1 h2;simp [mrg]
 | succ n ih =>
  intro l fs h hl hf hd;cases l with
  | nil=>rw [tq]; exact hf
  | cons x l =>
   obtain ⟨l1,l2⟩:=List.pairwise_cons.1 hl;cases fs with
   | nil=>rw [mrg]; exact hl.sublist List.filter_sublist
   | cons f fs =>
    obtain ⟨f1,f2⟩:=List.pairwise_cons.1 hf;by_cases hc:key f<=key x
    . rw [Gt (λy hy=>by cases hy; exact hc)];refine List.pairwise_cons.2 ⟨λy hy=>?_,ih (x::l) fs (by simp at h ⊢; omega) hl f2 λa ha hq b hb=>hd a ha hq b (List.mem_cons_of_mem _ hb)⟩;obtain ⟨h1,h2⟩ | h1:=(xD _ (x::l) fs rfl).1 hy
      . have hne:=hd y h1 h2 f (by simp);obtain rfl | h3:=List.mem_cons.1 h1
        . omega
        . have:=l1 y h3; omega
      . exact f1 y h1
    . rw [Gv (λy hy=>by cases hy; exact hc)];have hrec:=ih l (f::fs) (by simp at h ⊢; omega) l2 hf λa ha hq b hb=>hd a (List.mem_cons_of_mem _ ha) hq b hb;split
      . refine List.pairwise_cons.2 ⟨λy hy=>?_,hrec⟩;obtain ⟨h1,h2⟩ | h1:=(xD _ l (f::fs) rfl).1 hy
        . exact l1 y h1
        . obtain rfl | h3:=List.mem_cons.1 h1
          . omega
          . have:=f1 y h3; omega
      . exact hrec
theorem qm {l fresh:List α}{gone:List Int}(hl:l.Pairwise λa b=>key a<key b)(hf:fresh.Pairwise λa b=>key a<key b):mrg key (λx=>!bE (fresh.map key) (key x)&&!bE gone (key x)) l fresh=bL key l fresh gone:=by
 have e:∀ x,(!bE (fresh.map key) (key x)&&!bE gone (key x))=fI key fresh gone x:=λx=>by
  unfold fI;have:bE (fresh.map key) (key x)=fresh.any λy=>key x==key y:=by
   rw [Bool.eq_iff_iff,hasT_iff,List.any_eq_true];constructor
   . intro h;obtain ⟨y,h1,h2⟩:=b9.1 h;exact ⟨y,h1,by simp [h2]⟩
   . rintro ⟨y,h1,h2⟩;exact b9.2 ⟨y,h1,by simpa using (by simpa using h2:key x=key y).symm⟩
  rw [this,Bool.and_comm]
 have nd:∀ {m:List α},m.Pairwise (λa b=>key a<key b)->(m.map key).Nodup:=λh=>by
  rw [List.nodup_iff_pairwise_ne,List.pairwise_map];exact h.imp λh=>by omega
 refine Ad (key:=key) (Gu _ l fresh rfl hl hf λx hx hq f hfm=>?_) (List.pairwise_map.1 (Eo (nd hl) (nd hf))) λy=>?_
 . simp only [ao,Bool.not_eq_true'] at hq;intro h;have:bE (fresh.map key) (key x)=true:=hasT_iff.2 (by rw [h]; exact List.mem_map_of_mem hfm);rw [this] at hq;cases hq.1
 . rw [xD _ l fresh rfl];have:y∈bL key l fresh gone↔y∈l.filter (fI key fresh gone)++fresh:=(List.mergeSort_perm _ _).mem_iff;rw [this,List.mem_append,List.mem_filter,e]
end
theorem qd {T:FuncId->Option QF}{val:FuncId->Bool}{keep:List Nat}{body:QC}{α:Type}{cells:α->List D}(l fs:List α)(key:α->Int)(q:α->Bool)(g:α->α){Q z:Nat}{bs0:List Blk}{F:V->List V}(env:Nat->Nat->EA)(X:Ex×EA)
 (hf:∀ i k f,fs[k]?=some f->i<=l.length->(∀ x,l[i]?=some x->key f<=key x)->∀ bs lo v es,MkF Q bs0 F z es bs v->es.length<=i+k->∃ bs' lo' v',MkF Q bs0 F z (es++[cells (g f)]) bs' v'/\∀ W:EA->Hp->fu,dJ keep W (Cd E T val body (bN keep (env i k)) ⟨bs,lo⟩)=W (env i (k+1)) ⟨bs',lo'⟩)
 (hx:∀ i k x,l[i]?=some x->k<=fs.length->(∀ f,fs[k]?=some f->¬ key f<=key x)->∀ bs lo v es,MkF Q bs0 F z es bs v->es.length<=i+k->∃ bs' lo' v',MkF Q bs0 F z (if q x then es++[cells (g x)] else es) bs' v'/\∀ W:EA->Hp->fu,dJ keep W (Cd E T val body (bN keep (env i k)) ⟨bs,lo⟩)=W (env (i+1) k) ⟨bs',lo'⟩)
 (he:∀ bs lo v es,MkF Q bs0 F z es bs v->∀ W:EA->Hp->fu,dJ keep W (Cd E T val body (bN keep (env l.length fs.length)) ⟨bs,lo⟩)=some (X.1,X.2,⟨bs,lo⟩)) (lo:Nat) (hD:ai bs0 Q=some (F aK)) :
 ∃ bs' lo' v',Cd E T val (.loop keep body) (env 0 0) ⟨bs0,lo⟩=some (X.1,X.2,⟨bs',lo'⟩)/\MkF Q bs0 F z (((mrg key q l fs).map g).map cells) bs' v':=by
 have main:∀ (m i k:Nat) (bs:List Blk) (lo:Nat) (v:V) (es:List (List D)),(l.length-i)+(fs.length-k)=m->i<=l.length->k<=fs.length->MkF Q bs0 F z es bs v->es.length<=i+k →
  ∃ bs' lo' v',Cd E T val (.loop keep body) (env i k) ⟨bs,lo⟩=some (X.1,X.2,⟨bs',lo'⟩)/\MkF Q bs0 F z (es++((mrg key q (l.drop i) (fs.drop k)).map g).map cells) bs' v':=by
  intro m;have rnd:=aF (E:=E) (T:=T) (val:=val) keep body;generalize Cd E T val (.loop keep body)=W at rnd ⊢
  induction m with
  | zero =>
   intro i k bs lo v es hm hi hk hM hes;have h1:i=l.length:=by omega
   have h2:k=fs.length:=by omega
   subst h1 h2;refine ⟨bs,lo,v,by rw [rnd,he bs lo v es hM W],?_⟩;rw [List.drop_length,List.drop_length];simpa [mrg] using hM
  | succ m ih =>
   intro i k bs lo v es hm hi hk hM hes;have hdh:∀ (n:Nat) (a:List α) (y:α),(a.drop n).head?=some y->a[n]?=some y:=λn a y h=>by rw [← List.head?_drop]; exact h
   by_cases hA:∃ f,fs[k]?=some f/\∀ x,l[i]?=some x->key f<=key x
   . obtain ⟨f,h1,h2⟩:=hA;have hlt:=(bw.1 h1).1;obtain ⟨bs1,lo1,v1,M1,e1⟩:=hf i k f h1 hi h2 bs lo v es hM hes;obtain ⟨bs2,lo2,v2,e2,M2⟩:=ih i (k+1) bs1 lo1 v1 _ (by omega) hi (by omega) M1 (by simp; omega);refine ⟨bs2,lo2,v2,by rw [rnd,e1 W,e2],?_⟩;have hd:fs.drop k=f::fs.drop (k+1):=by
      rw [ap hlt,← (bw.1 h1).2]
     rw [hd,Gt λx hx=>h2 x (hdh i l x hx)];simpa using M2
   . have hil:i<l.length:=by
      obtain h | h:=cm i l.length
      . exact h
      . have hkl:k<fs.length:=by omega
        exact absurd ⟨fs[k],ab hkl,λx hx=>by rw [aw h] at hx; cases hx⟩ hA
     have h1:=ab hil;have hd:=ap hil;generalize l[i]=x at h1 hd;have hn:∀ f,fs[k]?=some f->¬ key f<=key x:=λf hf' hle=>hA ⟨f,hf',λy hy=>by rw [h1] at hy; cases hy; exact hle⟩;obtain ⟨bs1,lo1,v1,M1,e1⟩:=hx i k x h1 hk hn bs lo v es hM hes;obtain ⟨bs2,lo2,v2,e2,M2⟩:=ih (i+1) k bs1 lo1 v1 _ (by omega) (by omega) hk M1 (by
      split
      . simp; omega
      . omega)
     refine ⟨bs2,lo2,v2,by rw [rnd,e1 W,e2],?_⟩;rw [hd,Gv λf hf'=>hn f (hdh k fs f hf')];cases hq:q x<;>simp [hq] at M2 ⊢<;>exact M2
 simpa using main _ 0 0 bs0 lo aK [] rfl (Nat.zero_le _) (Nat.zero_le _) (MkF.start z hD) (Nat.zero_le _)
end
section
variable {E:Calls'}
theorem xK (e:Int)(v w a b c d:V):put (ah e a v b c d) 2 [w]=some (ah e a w b c d):=rfl
theorem yA (e:Int)(v a b c d:V):sub (ah e a v b c d) 2 1=some [v]:=rfl
theorem xL (e:Int)(v w a b c d:V):put (ah e a b v c d) 3 [w]=some (ah e a b w c d):=rfl
theorem yB (e:Int)(v a b c d:V):sub (ah e a b v c d) 3 1=some [v]:=rfl
theorem xM (e:Int)(v w a b c d:V):put (ah e a b c v d) 4 [w]=some (ah e a b c w d):=rfl
theorem yC (e:Int)(v a b c d:V):sub (ah e a b c v d) 4 1=some [v]:=rfl
theorem xN (e:Int)(v w a b c d:V):put (ah e a b c d v) 5 [w]=some (ah e a b c d w):=rfl
theorem yD (e:Int)(v a b c d:V):sub (ah e a b c d v) 5 1=some [v]:=rfl
def stayQ {α:Type}(key:α->Int)(N G:List Int)(x:α):Bool:=!bE N (key x)&&!bE G (key x)
section
variable {v:Vw}{d:Dlt}{Q P R:Nat}{bs0:List Blk}{ep:Int}{w1 w2 w3 w4:V}{pc gc:List V}(b0:ai bs0 0=some (v.c.map .d))(b1:ai bs0 1=some (d.c.map .d))(hP:ai bs0 P=some pc)(hR:ai bs0 R=some gc)(n0:1<Q)(n1:P≠Q)(n2:R≠Q)
include b0 b1 hP hR n0 n1 n2
theorem PZ {N:Sl Int}(hN:short N)(hG:short d.gonePods)(sN:sub pc 0 1=some [.d (N.d aR)])(sG:sub gc 0 1=some [.d (d.gonePods.d aR)])(hl:v.pods.l.length<2 ^ 62)(hf:d.pods.l.length<2 ^ 62)(hlf:v.pods.l.length+d.pods.l.length<big)(hD:ai bs0 Q=some ((λx=>ah ep w1 x aK aK aK) aK))(lo:Nat) :
 ∃ bs' lo' v',Cd E TDp bJ (.loop [2,3,4,6,7,8,9,10] jG) [(2,.ptr 0 0),(3,.ptr 1 0),(4,.ptr 2 0),(6,.ptr Q 0),(7,.ptr P 0),(8,.ptr R 0),(9,.d (i64 ((0:Nat):Int))),(10,.d (i64 ((0:Nat):Int)))] ⟨bs0,lo⟩=some (.exit 0,[(2,.ptr 0 0),(3,.ptr 1 0),(4,.ptr 2 0),(6,.ptr Q 0),(7,.ptr P 0),(8,.ptr R 0)],⟨bs',lo'⟩)/\MkF Q bs0 (λx=>ah ep w1 x aK aK aK) 7 (((mrg Pod.uid (stayQ Pod.uid N.l d.gonePods.l) v.pods.l d.pods.l).map id).map Pod.c) bs' v':=by
 refine qd (E:=E) (T:=TDp) (val:=bJ) (keep:=[2,3,4,6,7,8,9,10]) (body:=jG) (cells:=Pod.c) v.pods.l d.pods.l Pod.uid _ id (Q:=Q) (z:=7) (bs0:=bs0) (F:=λx=>ah ep w1 x aK aK aK) (λi k=>[(2,.ptr 0 0),(3,.ptr 1 0),(4,.ptr 2 0),(6,.ptr Q 0),(7,.ptr P 0),(8,.ptr R 0),(9,.d (i64 i)),(10,.d (i64 k))]) (.exit 0,[(2,.ptr 0 0),(3,.ptr 1 0),(4,.ptr 2 0),(6,.ptr Q 0),(7,.ptr P 0),(8,.ptr R 0)]) (λi k f hk hi hle bs lo x es hM hes=>?_) (λi k y hi hk hgt bs lo x es hM hes=>?_) (λbs lo x es hM W=>?_) lo hD
 . have hkl:=(bw.1 hk).1;have hsf:=λh=>av (z:=7) h hk (cells:=Pod.c) rfl;have hw:=ay hkl hf;have h0:((k:Int)<d.pods.l.length):=by omega
   have h1:((i:Int)<=v.pods.l.length):=by omega
   have g0:=hM.get (x:=0) (by omega) b0;have g1:=hM.get (x:=1) (by omega) b1;have gD:=hM.atD;have gD':=λys=>aj (ys:=ys) hM.atD;have hnu:=hM.nu;have hM1:=hM.lay [.cells (f.c.map .d)];obtain ⟨v',bs',G,a1,a2,a3,a4,a5⟩:=hM1.app (by decide) (by_:=72) (by decide) (by omega) (e:=f.c) rfl (r:=bs.length) (cap:=some 1) (by simp);refine ⟨_,min (G lo) Q,v',by simpa using a5,λW=>?_⟩;obtain hil | hil:=cm i v.pods.l.length
   . have hi2:=ab hil;generalize v.pods.l[i]=y at hi2;have hsy:=λh=>av (z:=7) h hi2 (cells:=Pod.c) rfl;have h2:=hle y hi2;have h3:((i:Int)<v.pods.l.length):=by omega
     simp [jG,g0,g1,gD,gD',aJ gD,hsf,hsy,h0,h2,h3,show ¬ ((v.pods.l.length:Int)<=i) from by omega,hw,hnu,a1,a2,a3,a4,xK,yA,aB,az,ae,aL,aG,Tr.spares,List.range,List.range.loop,aA]
   . have h3:¬ ((i:Int)<v.pods.l.length):=by omega
     simp [jG,g0,g1,gD,gD',aJ gD,hsf,h0,h3,show ((v.pods.l.length:Int)<=i) from by omega,hw,hnu,a1,a2,a3,a4,xK,yA,aB,az,ae,aL,aG,Tr.spares,List.range,List.range.loop,aA]
 . have hil:=(bw.1 hi).1;have hsy:=λh=>av (z:=7) h hi (cells:=Pod.c) rfl;have hw:=ay hil hl;have h0:((i:Int)<v.pods.l.length):=by omega
   have g0:=hM.get (x:=0) (by omega) b0;have g1:=hM.get (x:=1) (by omega) b1;have gP:=hM.get n1 hP;have gR:=hM.get n2 hR;have gD:=hM.atD;have gD':=λys=>aj (ys:=ys) hM.atD;have hnu:=hM.nu;have m1:=λh=>wU (E:=E) hN (Pod.uid y) h;have m2:=λh=>wU (E:=E) hG (Pod.uid y) h;have hix:∀ b hp,cZ (some 4) 1 (.ptr b 0) (.d (.int .i64 0)) hp=some (.ptr b 0,hp):=λb hp=>rfl;have hsf:∀ (hkl:k<d.pods.l.length),∃ f,d.pods.l[k]?=some f/\¬ Pod.uid f<=Pod.uid y/\∀ h,cZ none 7 (.d (d.pods.d Pod.c)) (.d (.int .i64 k)) h=some (.eptr f.c 0,h):=λhkl=>⟨_,ab hkl,hgt _ (ab hkl),λh=>av (z:=7) h (ab hkl) (cells:=Pod.c) rfl⟩;cases hq:stayQ Pod.uid N.l d.gonePods.l y with
   | false =>
    refine ⟨bs,lo,x,by simpa using hM,λW=>?_⟩;unfold stayQ at hq;obtain hkl | hkl:=cm k d.pods.l.length
    . obtain ⟨f,e1,e2,e3⟩:=hsf hkl;have e2':Pod.uid y<Pod.uid f:=by omega
      cases q1:bE N.l (Pod.uid y) with
      | true=>rw [q1] at m1; simp [jG,g0,g1,gP,gR,sN,sG,hix,hsy,e3,h0,show ((k:Int)<d.pods.l.length) from by omega,show ¬ ((v.pods.l.length:Int)<=i) from by omega,e2,e2',m1,hw,az,ae,aL,aG,Tr.spares,List.range,List.range.loop,aA]
      | false =>
       have q2:bE d.gonePods.l (Pod.uid y)=true:=by simpa [q1] using hq
       rw [q1] at m1; rw [q2] at m2;simp [jG,g0,g1,gP,gR,sN,sG,hix,hsy,e3,h0,show ((k:Int)<d.pods.l.length) from by omega,show ¬ ((v.pods.l.length:Int)<=i) from by omega,e2,e2',m1,m2,hw,az,ae,aL,aG,Tr.spares,List.range,List.range.loop,aA]
    . cases q1:bE N.l (Pod.uid y) with
      | true=>rw [q1] at m1; simp [jG,g0,g1,gP,gR,sN,sG,hix,hsy,h0,show ¬ ((k:Int)<d.pods.l.length) from by omega,m1,hw,az,ae,aL,aG,Tr.spares,List.range,List.range.loop,aA]
      | false =>
       have q2:bE d.gonePods.l (Pod.uid y)=true:=by simpa [q1] using hq
       rw [q1] at m1; rw [q2] at m2;simp [jG,g0,g1,gP,gR,sN,sG,hix,hsy,h0,show ¬ ((k:Int)<d.pods.l.length) from by omega,m1,m2,hw,az,ae,aL,aG,Tr.spares,List.range,List.range.loop,aA]
   | true =>
    have hM1:=hM.lay [.cells (y.c.map .d)];obtain ⟨v',bs',G,a1,a2,a3,a4,a5⟩:=hM1.app (by decide) (by_:=72) (by decide) (by omega) (e:=y.c) rfl (r:=bs.length) (cap:=some 1) (by simp);refine ⟨_,min (G lo) Q,v',by simpa using a5,λW=>?_⟩;unfold stayQ at hq;simp only [ao,Bool.not_eq_true'] at hq;rw [hq.1] at m1; rw [hq.2] at m2;obtain hkl | hkl:=cm k d.pods.l.length
    . obtain ⟨f,e1,e2,e3⟩:=hsf hkl;have e2':Pod.uid y<Pod.uid f:=by omega
      simp [jG,g0,g1,gP,gR,gD,gD',aJ gD,sN,sG,hix,hsy,e3,h0,show ((k:Int)<d.pods.l.length) from by omega,show ¬ ((v.pods.l.length:Int)<=i) from by omega,e2,e2',m1,m2,hw,hnu,a1,a2,a3,a4,xK,yA,aB,az,ae,aL,aG,Tr.spares,List.range,List.range.loop,aA]
    . simp [jG,g0,g1,gP,gR,gD,gD',aJ gD,sN,sG,hix,hsy,h0,show ¬ ((k:Int)<d.pods.l.length) from by omega,m1,m2,hw,hnu,a1,a2,a3,a4,xK,yA,aB,az,ae,aL,aG,Tr.spares,List.range,List.range.loop,aA]
 . have g0:=hM.get (x:=0) (by omega) b0;have g1:=hM.get (x:=1) (by omega) b1;simp [jG,g0,g1]
theorem P5 {N:Sl Int}(hN:short N)(hG:short d.goneServices)(sN:sub pc 1 1=some [.d (N.d aR)])(sG:sub gc 1 1=some [.d (d.goneServices.d aR)])(hl:v.services.l.length<2 ^ 62)(hf:d.services.l.length<2 ^ 62)(hlf:v.services.l.length+d.services.l.length<big)(hD:ai bs0 Q=some ((λx=>ah ep w1 w2 x aK aK) aK))(lo:Nat) :
 ∃ bs' lo' v',Cd E TDp bJ (.loop [2,3,4,6,7,8,11,12] jH) [(2,.ptr 0 0),(3,.ptr 1 0),(4,.ptr 2 0),(6,.ptr Q 0),(7,.ptr P 0),(8,.ptr R 0),(11,.d (i64 ((0:Nat):Int))),(12,.d (i64 ((0:Nat):Int)))] ⟨bs0,lo⟩=some (.exit 2,[(2,.ptr 0 0),(3,.ptr 1 0),(4,.ptr 2 0),(6,.ptr Q 0),(7,.ptr P 0),(8,.ptr R 0)],⟨bs',lo'⟩)/\MkF Q bs0 (λx=>ah ep w1 w2 x aK aK) 5 (((mrg Svc.id (stayQ Svc.id N.l d.goneServices.l) v.services.l d.services.l).map id).map Svc.c) bs' v':=by
 refine qd (E:=E) (T:=TDp) (val:=bJ) (keep:=[2,3,4,6,7,8,11,12]) (body:=jH) (cells:=Svc.c) v.services.l d.services.l Svc.id _ id (Q:=Q) (z:=5) (bs0:=bs0) (F:=λx=>ah ep w1 w2 x aK aK) (λi k=>[(2,.ptr 0 0),(3,.ptr 1 0),(4,.ptr 2 0),(6,.ptr Q 0),(7,.ptr P 0),(8,.ptr R 0),(11,.d (i64 i)),(12,.d (i64 k))]) (.exit 2,[(2,.ptr 0 0),(3,.ptr 1 0),(4,.ptr 2 0),(6,.ptr Q 0),(7,.ptr P 0),(8,.ptr R 0)]) (λi k f hk hi hle bs lo x es hM hes=>?_) (λi k y hi hk hgt bs lo x es hM hes=>?_) (λbs lo x es hM W=>?_) lo hD
 . have hkl:=(bw.1 hk).1;have hsf:=λh=>av (z:=5) h hk (cells:=Svc.c) rfl;have hw:=ay hkl hf;have h0:((k:Int)<d.services.l.length):=by omega
   have h1:((i:Int)<=v.services.l.length):=by omega
   have g0:=hM.get (x:=0) (by omega) b0;have g1:=hM.get (x:=1) (by omega) b1;have gD:=hM.atD;have gD':=λys=>aj (ys:=ys) hM.atD;have hnu:=hM.nu;have hM1:=hM.lay [.cells (f.c.map .d)];obtain ⟨v',bs',G,a1,a2,a3,a4,a5⟩:=hM1.app (by decide) (by_:=48) (by decide) (by omega) (e:=f.c) rfl (r:=bs.length) (cap:=some 1) (by simp);refine ⟨_,min (G lo) Q,v',by simpa using a5,λW=>?_⟩;obtain hil | hil:=cm i v.services.l.length
   . have hi2:=ab hil;generalize v.services.l[i]=y at hi2;have hsy:=λh=>av (z:=5) h hi2 (cells:=Svc.c) rfl;have h2:=hle y hi2;have h3:((i:Int)<v.services.l.length):=by omega
     simp [jH,g0,g1,gD,gD',aJ gD,hsf,hsy,h0,h2,h3,show ¬ ((v.services.l.length:Int)<=i) from by omega,hw,hnu,a1,a2,a3,a4,xL,yB,aB,az,ae,aL,aG,Tr.spares,List.range,List.range.loop,aA]
   . have h3:¬ ((i:Int)<v.services.l.length):=by omega
     simp [jH,g0,g1,gD,gD',aJ gD,hsf,h0,h3,show ((v.services.l.length:Int)<=i) from by omega,hw,hnu,a1,a2,a3,a4,xL,yB,aB,az,ae,aL,aG,Tr.spares,List.range,List.range.loop,aA]
 . have hil:=(bw.1 hi).1;have hsy:=λh=>av (z:=5) h hi (cells:=Svc.c) rfl;have hw:=ay hil hl;have h0:((i:Int)<v.services.l.length):=by omega
   have g0:=hM.get (x:=0) (by omega) b0;have g1:=hM.get (x:=1) (by omega) b1;have gP:=hM.get n1 hP;have gR:=hM.get n2 hR;have gD:=hM.atD;have gD':=λys=>aj (ys:=ys) hM.atD;have hnu:=hM.nu;have m1:=λh=>wU (E:=E) hN (Svc.id y) h;have m2:=λh=>wU (E:=E) hG (Svc.id y) h;have hix:∀ b hp,cZ (some 4) 1 (.ptr b 0) (.d (.int .i64 1)) hp=some (.ptr b 1,hp):=λb hp=>rfl;have hsf:∀ (hkl:k<d.services.l.length),∃ f,d.services.l[k]?=some f/\¬ Svc.id f<=Svc.id y/\∀ h,cZ none 5 (.d (d.services.d Svc.c)) (.d (.int .i64 k)) h=some (.eptr f.c 0,h):=λhkl=>⟨_,ab hkl,hgt _ (ab hkl),λh=>av (z:=5) h (ab hkl) (cells:=Svc.c) rfl⟩;cases hq:stayQ Svc.id N.l d.goneServices.l y with
   | false =>
    refine ⟨bs,lo,x,by simpa using hM,λW=>?_⟩;unfold stayQ at hq;obtain hkl | hkl:=cm k d.services.l.length
    . obtain ⟨f,e1,e2,e3⟩:=hsf hkl;have e2':Svc.id y<Svc.id f:=by omega
      cases q1:bE N.l (Svc.id y) with
      | true=>rw [q1] at m1; simp [jH,g0,g1,gP,gR,sN,sG,hix,hsy,e3,h0,show ((k:Int)<d.services.l.length) from by omega,show ¬ ((v.services.l.length:Int)<=i) from by omega,e2,e2',m1,hw,az,ae,aL,aG,Tr.spares,List.range,List.range.loop,aA]
      | false =>
       have q2:bE d.goneServices.l (Svc.id y)=true:=by simpa [q1] using hq
       rw [q1] at m1; rw [q2] at m2;simp [jH,g0,g1,gP,gR,sN,sG,hix,hsy,e3,h0,show ((k:Int)<d.services.l.length) from by omega,show ¬ ((v.services.l.length:Int)<=i) from by omega,e2,e2',m1,m2,hw,az,ae,aL,aG,Tr.spares,List.range,List.range.loop,aA]
    . cases q1:bE N.l (Svc.id y) with
      | true=>rw [q1] at m1; simp [jH,g0,g1,gP,gR,sN,sG,hix,hsy,h0,show ¬ ((k:Int)<d.services.l.length) from by omega,m1,hw,az,ae,aL,aG,Tr.spares,List.range,List.range.loop,aA]
      | false =>
       have q2:bE d.goneServices.l (Svc.id y)=true:=by simpa [q1] using hq
       rw [q1] at m1; rw [q2] at m2;simp [jH,g0,g1,gP,gR,sN,sG,hix,hsy,h0,show ¬ ((k:Int)<d.services.l.length) from by omega,m1,m2,hw,az,ae,aL,aG,Tr.spares,List.range,List.range.loop,aA]
   | true =>
    have hM1:=hM.lay [.cells (y.c.map .d)];obtain ⟨v',bs',G,a1,a2,a3,a4,a5⟩:=hM1.app (by decide) (by_:=48) (by decide) (by omega) (e:=y.c) rfl (r:=bs.length) (cap:=some 1) (by simp);refine ⟨_,min (G lo) Q,v',by simpa using a5,λW=>?_⟩;unfold stayQ at hq;simp only [ao,Bool.not_eq_true'] at hq;rw [hq.1] at m1; rw [hq.2] at m2;obtain hkl | hkl:=cm k d.services.l.length
    . obtain ⟨f,e1,e2,e3⟩:=hsf hkl;have e2':Svc.id y<Svc.id f:=by omega
      simp [jH,g0,g1,gP,gR,gD,gD',aJ gD,sN,sG,hix,hsy,e3,h0,show ((k:Int)<d.services.l.length) from by omega,show ¬ ((v.services.l.length:Int)<=i) from by omega,e2,e2',m1,m2,hw,hnu,a1,a2,a3,a4,xL,yB,aB,az,ae,aL,aG,Tr.spares,List.range,List.range.loop,aA]
    . simp [jH,g0,g1,gP,gR,gD,gD',aJ gD,sN,sG,hix,hsy,h0,show ¬ ((k:Int)<d.services.l.length) from by omega,m1,m2,hw,hnu,a1,a2,a3,a4,xL,yB,aB,az,ae,aL,aG,Tr.spares,List.range,List.range.loop,aA]
 . have g0:=hM.get (x:=0) (by omega) b0;have g1:=hM.get (x:=1) (by omega) b1;simp [jH,g0,g1]
theorem P6 {N:Sl Int}(hN:short N)(hG:short d.goneBound)(sN:sub pc 2 1=some [.d (N.d aR)])(sG:sub gc 2 1=some [.d (d.goneBound.d aR)])(hl:v.bound.l.length<2 ^ 62)(hf:d.bound.l.length<2 ^ 62)(hlf:v.bound.l.length+d.bound.l.length<big)(hD:ai bs0 Q=some ((λx=>ah ep w1 w2 w3 x aK) aK))(lo:Nat) :
 ∃ bs' lo' v',Cd E TDp bJ (.loop [2,3,4,6,7,8,13,14] jI) [(2,.ptr 0 0),(3,.ptr 1 0),(4,.ptr 2 0),(6,.ptr Q 0),(7,.ptr P 0),(8,.ptr R 0),(13,.d (i64 ((0:Nat):Int))),(14,.d (i64 ((0:Nat):Int)))] ⟨bs0,lo⟩=some (.exit 4,[(2,.ptr 0 0),(3,.ptr 1 0),(4,.ptr 2 0),(6,.ptr Q 0),(7,.ptr P 0),(8,.ptr R 0)],⟨bs',lo'⟩)/\MkF Q bs0 (λx=>ah ep w1 w2 w3 x aK) 2 (((mrg Way.id (stayQ Way.id N.l d.goneBound.l) v.bound.l d.bound.l).map id).map Way.c) bs' v':=by
 refine qd (E:=E) (T:=TDp) (val:=bJ) (keep:=[2,3,4,6,7,8,13,14]) (body:=jI) (cells:=Way.c) v.bound.l d.bound.l Way.id _ id (Q:=Q) (z:=2) (bs0:=bs0) (F:=λx=>ah ep w1 w2 w3 x aK) (λi k=>[(2,.ptr 0 0),(3,.ptr 1 0),(4,.ptr 2 0),(6,.ptr Q 0),(7,.ptr P 0),(8,.ptr R 0),(13,.d (i64 i)),(14,.d (i64 k))]) (.exit 4,[(2,.ptr 0 0),(3,.ptr 1 0),(4,.ptr 2 0),(6,.ptr Q 0),(7,.ptr P 0),(8,.ptr R 0)]) (λi k f hk hi hle bs lo x es hM hes=>?_) (λi k y hi hk hgt bs lo x es hM hes=>?_) (λbs lo x es hM W=>?_) lo hD
 . have hkl:=(bw.1 hk).1;have hsf:=λh=>av (z:=2) h hk (cells:=Way.c) rfl;have hw:=ay hkl hf;have h0:((k:Int)<d.bound.l.length):=by omega
   have h1:((i:Int)<=v.bound.l.length):=by omega
   have g0:=hM.get (x:=0) (by omega) b0;have g1:=hM.get (x:=1) (by omega) b1;have gD:=hM.atD;have gD':=λys=>aj (ys:=ys) hM.atD;have hnu:=hM.nu;have hM1:=hM.lay [.cells (f.c.map .d)];obtain ⟨v',bs',G,a1,a2,a3,a4,a5⟩:=hM1.app (by decide) (by_:=16) (by decide) (by omega) (e:=f.c) rfl (r:=bs.length) (cap:=some 1) (by simp);refine ⟨_,min (G lo) Q,v',by simpa using a5,λW=>?_⟩;obtain hil | hil:=cm i v.bound.l.length
   . have hi2:=ab hil;generalize v.bound.l[i]=y at hi2;have hsy:=λh=>av (z:=2) h hi2 (cells:=Way.c) rfl;have h2:=hle y hi2;have h3:((i:Int)<v.bound.l.length):=by omega
     simp [jI,g0,g1,gD,gD',aJ gD,hsf,hsy,h0,h2,h3,show ¬ ((v.bound.l.length:Int)<=i) from by omega,hw,hnu,a1,a2,a3,a4,xM,yC,aB,az,ae,aL,aG,Tr.spares,List.range,List.range.loop,aA]
   . have h3:¬ ((i:Int)<v.bound.l.length):=by omega
     simp [jI,g0,g1,gD,gD',aJ gD,hsf,h0,h3,show ((v.bound.l.length:Int)<=i) from by omega,hw,hnu,a1,a2,a3,a4,xM,yC,aB,az,ae,aL,aG,Tr.spares,List.range,List.range.loop,aA]
 . have hil:=(bw.1 hi).1;have hsy:=λh=>av (z:=2) h hi (cells:=Way.c) rfl;have hw:=ay hil hl;have h0:((i:Int)<v.bound.l.length):=by omega
   have g0:=hM.get (x:=0) (by omega) b0;have g1:=hM.get (x:=1) (by omega) b1;have gP:=hM.get n1 hP;have gR:=hM.get n2 hR;have gD:=hM.atD;have gD':=λys=>aj (ys:=ys) hM.atD;have hnu:=hM.nu;have m1:=λh=>wU (E:=E) hN (Way.id y) h;have m2:=λh=>wU (E:=E) hG (Way.id y) h;have hix:∀ b hp,cZ (some 4) 1 (.ptr b 0) (.d (.int .i64 2)) hp=some (.ptr b 2,hp):=λb hp=>rfl;have hsf:∀ (hkl:k<d.bound.l.length),∃ f,d.bound.l[k]?=some f/\¬ Way.id f<=Way.id y/\∀ h,cZ none 2 (.d (d.bound.d Way.c)) (.d (.int .i64 k)) h=some (.eptr f.c 0,h):=λhkl=>⟨_,ab hkl,hgt _ (ab hkl),λh=>av (z:=2) h (ab hkl) (cells:=Way.c) rfl⟩;cases hq:stayQ Way.id N.l d.goneBound.l y with
   | false =>
    refine ⟨bs,lo,x,by simpa using hM,λW=>?_⟩;unfold stayQ at hq;obtain hkl | hkl:=cm k d.bound.l.length
    . obtain ⟨f,e1,e2,e3⟩:=hsf hkl;have e2':Way.id y<Way.id f:=by omega
      cases q1:bE N.l (Way.id y) with
      | true=>rw [q1] at m1; simp [jI,g0,g1,gP,gR,sN,sG,hix,hsy,e3,h0,show ((k:Int)<d.bound.l.length) from by omega,show ¬ ((v.bound.l.length:Int)<=i) from by omega,e2,e2',m1,hw,az,ae,aL,aG,Tr.spares,List.range,List.range.loop,aA]
      | false =>
       have q2:bE d.goneBound.l (Way.id y)=true:=by simpa [q1] using hq
       rw [q1] at m1; rw [q2] at m2;simp [jI,g0,g1,gP,gR,sN,sG,hix,hsy,e3,h0,show ((k:Int)<d.bound.l.length) from by omega,show ¬ ((v.bound.l.length:Int)<=i) from by omega,e2,e2',m1,m2,hw,az,ae,aL,aG,Tr.spares,List.range,List.range.loop,aA]
    . cases q1:bE N.l (Way.id y) with
      | true=>rw [q1] at m1; simp [jI,g0,g1,gP,gR,sN,sG,hix,hsy,h0,show ¬ ((k:Int)<d.bound.l.length) from by omega,m1,hw,az,ae,aL,aG,Tr.spares,List.range,List.range.loop,aA]
      | false =>
       have q2:bE d.goneBound.l (Way.id y)=true:=by simpa [q1] using hq
       rw [q1] at m1; rw [q2] at m2;simp [jI,g0,g1,gP,gR,sN,sG,hix,hsy,h0,show ¬ ((k:Int)<d.bound.l.length) from by omega,m1,m2,hw,az,ae,aL,aG,Tr.spares,List.range,List.range.loop,aA]
   | true =>
    have hM1:=hM.lay [.cells (y.c.map .d)];obtain ⟨v',bs',G,a1,a2,a3,a4,a5⟩:=hM1.app (by decide) (by_:=16) (by decide) (by omega) (e:=y.c) rfl (r:=bs.length) (cap:=some 1) (by simp);refine ⟨_,min (G lo) Q,v',by simpa using a5,λW=>?_⟩;unfold stayQ at hq;simp only [ao,Bool.not_eq_true'] at hq;rw [hq.1] at m1; rw [hq.2] at m2;obtain hkl | hkl:=cm k d.bound.l.length
    . obtain ⟨f,e1,e2,e3⟩:=hsf hkl;have e2':Way.id y<Way.id f:=by omega
      simp [jI,g0,g1,gP,gR,gD,gD',aJ gD,sN,sG,hix,hsy,e3,h0,show ((k:Int)<d.bound.l.length) from by omega,show ¬ ((v.bound.l.length:Int)<=i) from by omega,e2,e2',m1,m2,hw,hnu,a1,a2,a3,a4,xM,yC,aB,az,ae,aL,aG,Tr.spares,List.range,List.range.loop,aA]
    . simp [jI,g0,g1,gP,gR,gD,gD',aJ gD,sN,sG,hix,hsy,h0,show ¬ ((k:Int)<d.bound.l.length) from by omega,m1,m2,hw,hnu,a1,a2,a3,a4,xM,yC,aB,az,ae,aL,aG,Tr.spares,List.range,List.range.loop,aA]
 . have g0:=hM.get (x:=0) (by omega) b0;have g1:=hM.get (x:=1) (by omega) b1;simp [jI,g0,g1]
theorem P7 (h35:∀ p:Pol,p.fits big->∀ h,Sm E TDp bJ 61 [ag p.c] h=some (ag p.cp.c,h))(fl:∀ p∈v.policies.l,p.fits big)(fd:∀ p∈d.policies.l,p.fits big){N:Sl Int}(hN:short N)(hG:short d.gonePolicies)(sN:sub pc 3 1=some [.d (N.d aR)])(sG:sub gc 3 1=some [.d (d.gonePolicies.d aR)])(hl:v.policies.l.length<2 ^ 62)(hf:d.policies.l.length<2 ^ 62)(hlf:v.policies.l.length+d.policies.l.length<big)(hD:ai bs0 Q=some ((λx=>ah ep w1 w2 w3 w4 x) aK))(lo:Nat) :
 ∃ bs' lo' v',Cd E TDp bJ (.loop [2,3,4,6,7,8,15,16] jJ) [(2,.ptr 0 0),(3,.ptr 1 0),(4,.ptr 2 0),(6,.ptr Q 0),(7,.ptr P 0),(8,.ptr R 0),(15,.d (i64 ((0:Nat):Int))),(16,.d (i64 ((0:Nat):Int)))] ⟨bs0,lo⟩=some (.exit 6,[(4,.ptr 2 0),(6,.ptr Q 0)],⟨bs',lo'⟩)/\MkF Q bs0 (λx=>ah ep w1 w2 w3 w4 x) 5 (((mrg Pol.id (stayQ Pol.id N.l d.gonePolicies.l) v.policies.l d.policies.l).map Pol.cp).map Pol.c) bs' v':=by
 refine qd (E:=E) (T:=TDp) (val:=bJ) (keep:=[2,3,4,6,7,8,15,16]) (body:=jJ) (cells:=Pol.c) v.policies.l d.policies.l Pol.id _ Pol.cp (Q:=Q) (z:=5) (bs0:=bs0) (F:=λx=>ah ep w1 w2 w3 w4 x) (λi k=>[(2,.ptr 0 0),(3,.ptr 1 0),(4,.ptr 2 0),(6,.ptr Q 0),(7,.ptr P 0),(8,.ptr R 0),(15,.d (i64 i)),(16,.d (i64 k))]) (.exit 6,[(4,.ptr 2 0),(6,.ptr Q 0)]) (λi k f hk hi hle bs lo x es hM hes=>?_) (λi k y hi hk hgt bs lo x es hM hes=>?_) (λbs lo x es hM W=>?_) lo hD
 . have hkl:=(bw.1 hk).1;have hsf:=λh=>av (z:=5) h hk (cells:=Pol.c) rfl;have hw:=ay hkl hf;have h0:((k:Int)<d.policies.l.length):=by omega
   have h1:((i:Int)<=v.policies.l.length):=by omega
   have g0:=hM.get (x:=0) (by omega) b0;have g1:=hM.get (x:=1) (by omega) b1;have gD:=hM.atD;have gD':=λys=>aj (ys:=ys) hM.atD;have hnu:=hM.nu;have n5:=λh=>h35 f (fd f (cb hk)) h;have hM1:=hM.lay [.cells (f.cp.c.map .d)];obtain ⟨v',bs',G,a1,a2,a3,a4,a5⟩:=hM1.app (by decide) (by_:=64) (by decide) (by omega) (e:=f.cp.c) rfl (r:=bs.length) (cap:=some 1) (by simp);refine ⟨_,min (G lo) Q,v',by simpa using a5,λW=>?_⟩;obtain hil | hil:=cm i v.policies.l.length
   . have hi2:=ab hil;generalize v.policies.l[i]=y at hi2;have hsy:=λh=>av (z:=5) h hi2 (cells:=Pol.c) rfl;have h2:=hle y hi2;have h3:((i:Int)<v.policies.l.length):=by omega
     simp [jJ,g0,g1,gD,gD',aJ gD,hsf,hsy,h0,h2,h3,show ¬ ((v.policies.l.length:Int)<=i) from by omega,hw,hnu,a1,a2,a3,a4,n5,xN,yD,aB,az,ae,aL,aG,Tr.spares,List.range,List.range.loop,aA]
   . have h3:¬ ((i:Int)<v.policies.l.length):=by omega
     simp [jJ,g0,g1,gD,gD',aJ gD,hsf,h0,h3,show ((v.policies.l.length:Int)<=i) from by omega,hw,hnu,a1,a2,a3,a4,n5,xN,yD,aB,az,ae,aL,aG,Tr.spares,List.range,List.range.loop,aA]
 . have hil:=(bw.1 hi).1;have hsy:=λh=>av (z:=5) h hi (cells:=Pol.c) rfl;have hw:=ay hil hl;have h0:((i:Int)<v.policies.l.length):=by omega
   have g0:=hM.get (x:=0) (by omega) b0;have g1:=hM.get (x:=1) (by omega) b1;have gP:=hM.get n1 hP;have gR:=hM.get n2 hR;have gD:=hM.atD;have gD':=λys=>aj (ys:=ys) hM.atD;have hnu:=hM.nu;have m1:=λh=>wU (E:=E) hN (Pol.id y) h;have m2:=λh=>wU (E:=E) hG (Pol.id y) h;have hix:∀ b hp,cZ (some 4) 1 (.ptr b 0) (.d (.int .i64 3)) hp=some (.ptr b 3,hp):=λb hp=>rfl;have n5:=λh=>h35 y (fl y (cb hi)) h;have hsf:∀ (hkl:k<d.policies.l.length),∃ f,d.policies.l[k]?=some f/\¬ Pol.id f<=Pol.id y/\∀ h,cZ none 5 (.d (d.policies.d Pol.c)) (.d (.int .i64 k)) h=some (.eptr f.c 0,h):=λhkl=>⟨_,ab hkl,hgt _ (ab hkl),λh=>av (z:=5) h (ab hkl) (cells:=Pol.c) rfl⟩;cases hq:stayQ Pol.id N.l d.gonePolicies.l y with
   | false =>
    refine ⟨bs,lo,x,by simpa using hM,λW=>?_⟩;unfold stayQ at hq;obtain hkl | hkl:=cm k d.policies.l.length
    . obtain ⟨f,e1,e2,e3⟩:=hsf hkl;have e2':Pol.id y<Pol.id f:=by omega
      cases q1:bE N.l (Pol.id y) with
      | true=>rw [q1] at m1; simp [jJ,g0,g1,gP,gR,sN,sG,hix,hsy,e3,h0,show ((k:Int)<d.policies.l.length) from by omega,show ¬ ((v.policies.l.length:Int)<=i) from by omega,e2,e2',m1,hw,az,ae,aL,aG,Tr.spares,List.range,List.range.loop,aA]
      | false =>
       have q2:bE d.gonePolicies.l (Pol.id y)=true:=by simpa [q1] using hq
       rw [q1] at m1; rw [q2] at m2;simp [jJ,g0,g1,gP,gR,sN,sG,hix,hsy,e3,h0,show ((k:Int)<d.policies.l.length) from by omega,show ¬ ((v.policies.l.length:Int)<=i) from by omega,e2,e2',m1,m2,hw,az,ae,aL,aG,Tr.spares,List.range,List.range.loop,aA]
    . cases q1:bE N.l (Pol.id y) with
      | true=>rw [q1] at m1; simp [jJ,g0,g1,gP,gR,sN,sG,hix,hsy,h0,show ¬ ((k:Int)<d.policies.l.length) from by omega,m1,hw,az,ae,aL,aG,Tr.spares,List.range,List.range.loop,aA]
      | false =>
       have q2:bE d.gonePolicies.l (Pol.id y)=true:=by simpa [q1] using hq
       rw [q1] at m1; rw [q2] at m2;simp [jJ,g0,g1,gP,gR,sN,sG,hix,hsy,h0,show ¬ ((k:Int)<d.policies.l.length) from by omega,m1,m2,hw,az,ae,aL,aG,Tr.spares,List.range,List.range.loop,aA]
   | true =>
    have hM1:=hM.lay [.cells (y.cp.c.map .d)];obtain ⟨v',bs',G,a1,a2,a3,a4,a5⟩:=hM1.app (by decide) (by_:=64) (by decide) (by omega) (e:=y.cp.c) rfl (r:=bs.length) (cap:=some 1) (by simp);refine ⟨_,min (G lo) Q,v',by simpa using a5,λW=>?_⟩;unfold stayQ at hq;simp only [ao,Bool.not_eq_true'] at hq;rw [hq.1] at m1; rw [hq.2] at m2;obtain hkl | hkl:=cm k d.policies.l.length
    . obtain ⟨f,e1,e2,e3⟩:=hsf hkl;have e2':Pol.id y<Pol.id f:=by omega
      simp [jJ,g0,g1,gP,gR,gD,gD',aJ gD,sN,sG,hix,hsy,e3,h0,show ((k:Int)<d.policies.l.length) from by omega,show ¬ ((v.policies.l.length:Int)<=i) from by omega,e2,e2',m1,m2,hw,hnu,a1,a2,a3,a4,n5,xN,yD,aB,az,ae,aL,aG,Tr.spares,List.range,List.range.loop,aA]
    . simp [jJ,g0,g1,gP,gR,gD,gD',aJ gD,sN,sG,hix,hsy,h0,show ¬ ((k:Int)<d.policies.l.length) from by omega,m1,m2,hw,hnu,a1,a2,a3,a4,n5,xN,yD,aB,az,ae,aL,aG,Tr.spares,List.range,List.range.loop,aA]
 . have g0:=hM.get (x:=0) (by omega) b0;have g1:=hM.get (x:=1) (by omega) b1;simp [jJ,g0,g1]
end
end
section
def oc (p:Pol):List V:=p.own.c.map V.d
theorem Sy {l:List Pol}:∀ cs∈l.map oc,cs.length=5:=λcs hcs=>by obtain ⟨x,_,rfl⟩:=b9.1 hcs; rfl
section
variable {E:Calls'}{T:FuncId->Option QF}{val:FuncId->Bool}
theorem PK (l:List Pol)(h113:∀ p∈l,∀ h,Sm E T val 113 [ag p.c] h=some (ag p.own.c,h))(hl:l.length<2 ^ 62){b Lq:Nat}{cap:Option Nat}(hb:b<Lq)(B0:List Blk)(lo:Nat)(hLq:Lq<=B0.length)(hgb:ai B0 b=some (l.map λp=>p.c.map V.d).flatten){k:Nat}(hk:k<=b)(hkl:k<=lo) :
 ∃ bs' lo',Cd E T val (.loop [0,7,8,9] nN) [(0,.row b 0 l.length cap 5),(7,.row b 0 l.length cap 5),(8,.d (i64 l.length)),(9,.d (i64 ((0:Nat):Int)))] ⟨B0,lo⟩=some (.exit 0,[(0,.row b 0 l.length cap 5)],⟨bs',lo'⟩) ∧
  (∀ x,x<Lq->x≠b->bs'[x]?=B0[x]?)/\Lq<=bs'.length/\ai bs' b=some (l.map oc).flatten/\k<=lo':=by
 obtain ⟨bs',lo',h1,h2,h3,h7,h5⟩:=DZ (E:=E) (T:=T) (val:=val) (keep:=[0,7,8,9]) (body:=nN) l.length (λi=>[(0,.row b 0 l.length cap 5),(7,.row b 0 l.length cap 5),(8,.d (i64 l.length)),(9,.d (i64 i))])
  (λi bs' lo'=>(∀ x,x<Lq->x≠b->bs'[x]?=B0[x]?)/\Lq<=bs'.length/\k<=lo'/\ai bs' b=some ((l.take i).map oc++(l.drop i).map λp=>p.c.map V.d).flatten) (.exit 0,[(0,.row b 0 l.length cap 5)])
  (by
    intro i hi b1 lo1 ⟨q1,q2,q6,q4⟩;have hx:=ab hi;have hmem:=bh hi;have hdr:l.drop i=l[i]::l.drop (i+1):=ap hi;have htk:l.take (i+1)=l.take i++[l[i]]:=by rw [List.take_add_one,hx]; rfl
    have hpm:((l.take i).map oc).length=i:=by simp; omega
    rw [hdr] at q4;rw [htk];generalize l[i]=p at *;have hp5:(p.c.map V.d).length=5:=rfl;rw [cn] at q4;have hsub:=KA (b:=(l.drop (i+1)).map λp=>p.c.map V.d) Sy hp5 (a:=(l.take i).map oc);rw [hpm] at hsub;have hw:=ay hi hl;have h0:((i:Int)<l.length):=by omega
    have hix:∀ hp,cZ none 5 (.row b 0 l.length cap 5) (.d (.int .i64 i)) hp=some (.ptr b (i * 5),hp):=λhp=>by
     simp only [cZ];rw [if_pos ⟨by omega,by omega,trivial⟩];simp
    have a:=h113 p hmem;have hput:=Jy (b:=(l.drop (i+1)).map λp=>p.c.map V.d) (d:=oc p) Sy hp5 rfl (a:=(l.take i).map oc);rw [hpm] at hput;have q4b:ai (b1++[Blk.cells (p.c.map V.d)]) b=some _:=aj (ys:=[.cells (p.c.map .d)]) q4;refine ⟨(b1++[Blk.cells (p.c.map V.d)]).set b (Blk.cells ((l.take i).map oc++oc p::(l.drop (i+1)).map λp=>p.c.map V.d).flatten),min (min lo1 b1.length) b,⟨λx h1 h2=>?_,by simp; omega,by omega,?_⟩,λW=>?_⟩
    . rw [ac (Ne.symm h2),al (by omega),q1 x h1 h2]
    . rw [aN q4b]; simp
    . generalize ((l.take i).map oc++(p.c.map V.d)::(l.drop (i+1)).map λp=>p.c.map V.d).flatten=F0 at *;generalize ((l.take i).map oc++oc p::(l.drop (i+1)).map λp=>p.c.map V.d).flatten=F1 at *;have hpl5:(oc p).length=5:=rfl;have hz:put [V.d (.int .u64 0),.d (.str ⟨#[]⟩),.d (.int .u64 0),.d (.int .i64 0),.d (.slice true [])] 0 (p.c.map V.d)=some (p.c.map V.d):=rfl;have hoc:ag p.own.c=.agg (oc p):=rfl;rw [hoc] at a;simp [nN,h0,hix,q4,hsub,a,q4b,hput,hpl5,hw,hz])
  (by
    intro b1 lo1 ⟨q1,q2,q6,q4⟩ W;simp [nN])
  B0 lo ⟨λ_ _ _=>rfl,hLq,hkl,by simpa using hgb⟩
 rw [List.drop_length,List.map_nil,List.append_nil,List.take_length] at h5;exact ⟨bs',lo',h1,h2,h3,h5,h7⟩
theorem RowG.ret2 {bs m:List Blk}{z lo2:Nat}{es:List (List V)}{v:V}(h:RowG (fD bs m) m z es v)(hlo:bs.length<=lo2)(hl:bs.length<=m.length)(ho:∀ x,x<bs.length->m[x]?=bs[x]?) :
 ∃ r bs',∃ F:Nat->Nat,(∀ lo,dY ⟨bs,lo⟩ (some (v,⟨m,lo2⟩))=some (r,⟨bs',F lo⟩))/\bs.length<=bs'.length/\(∀ x,x<bs.length->bs'[x]?=bs[x]?)/\RowG (fD bs bs') bs' z es r/\∀ c lo,c<=bs.length->c<=lo->c<=F lo:=by
 by_cases hc:bs.length<=lo2/\v.under bs.length=true
 . refine ⟨v,bs,id,λlo=>by rw [eu]; exact if_pos hc,bp _,λ_ _=>rfl,?_,λ_ _ _ h=>h⟩;obtain h | ⟨B,cap,rest,h1,rfl,h3⟩:=h
   . exact .inl h
   . have:=hc.2;have:=h1.1;simp [V.under] at *;omega
 . exact ⟨v,m,λlo=>min lo lo2,λlo=>by rw [eu]; exact if_neg hc,hl,ho,h,λc lo h1 h2=>by show c<=min lo lo2; omega⟩
theorem Fg (KD:T 53=some oI)(KM:val 53=false){l:List Pol}(h113:∀ p∈l,∀ h,Sm E T val 113 [ag p.c] h=some (ag p.own.c,h))
 (hl:l.length<=big) {bs:List Blk} {a:V} (ha:∃ v m,Sm E T val 112 [a] ⟨bs,bs.length⟩=some (v,⟨m,bs.length⟩)/\bs.length<=m.length/\(∀ x,x<bs.length->m[x]?=bs[x]?)/\Row1 bs.length m.length m 5 (l.map Pol.c) v) (hnu:nu a=some a) (hok:okV a=true) :
 ∃ r bs',∃ F:Nat->Nat,(∀ lo,Sm E T val 53 [a] ⟨bs,lo⟩=some (r,⟨bs',F lo⟩))/\bs.length<=bs'.length/\(∀ x,x<bs.length->bs'[x]?=bs[x]?)/\RowG (fD bs bs') bs' 5 (l.map oc) r/\∀ c lo,c<=bs.length->c<=lo->c<=F lo:=by
 have hlt:l.length<2 ^ 62:=ce hl (by decide);obtain ⟨v,m,a1,a2,a3,a4⟩:=ha;have hvl:=a4.len;simp only [bx] at hvl;have hvn:=a4.nu;have out:∀ {v:V} {m:List Blk} {lo2:Nat},Bd E T val oI [a] ⟨bs,bs.length⟩=some (v,⟨m,lo2⟩)->RowG (fD bs m) m 5 (l.map oc) v->bs.length<=lo2->bs.length<=m.length->(∀ x,x<bs.length->m[x]?=bs[x]?)->∃ r bs',∃ F:Nat->Nat,(∀ lo,Sm E T val 53 [a] ⟨bs,lo⟩=some (r,⟨bs',F lo⟩))/\bs.length<=bs'.length/\(∀ x,x<bs.length->bs'[x]?=bs[x]?)/\RowG (fD bs bs') bs' 5 (l.map oc) r/\∀ c lo,c<=bs.length->c<=lo->c<=F lo:=λhB h1 h2 h3 h4=>by
  obtain ⟨r,bs',F,e1,e2⟩:=h1.ret2 h2 h3 h4;refine ⟨r,bs',F,λlo=>?_,e2⟩;rw [aT KD KM];show dY ⟨bs,lo⟩ (Bd E T val oI [a] ⟨bs,bs.length⟩)=_;rw [hB];exact e1 lo
 obtain ⟨h1,rfl⟩ | ⟨b,cap,h1,h2,rfl,h3,h4⟩:=a4.2
 . have hl0:l=[]:=by simpa using h1
   subst hl0;have hB:Bd E T val oI [a] ⟨bs,bs.length⟩=some (.d (.slice true []),⟨m,bs.length⟩):=by
    simp [aa,oI,hnu,hok,a1];rw [au];rw [aF];simp [nN,bH]
   exact out hB (.inl ⟨rfl,rfl⟩) (bp _) a2 a3
 . simp only [bx] at a1 hvl hvn ⊢;rw [DD] at h3;obtain ⟨m2,lo2,d1,d2,d3,d5,d7⟩:=PK (E:=E) l h113 hlt (b:=b) (Lq:=m.length) (cap:=cap) h2 m bs.length (bp _) h3 (k:=bs.length) h1 (bp _);have ez:((0:Nat):Int)=0:=rfl;rw [ez] at d1;have hB:Bd E T val oI [a] ⟨bs,bs.length⟩=some (.row b 0 l.length cap 5,⟨m2,lo2⟩):=by
    simp [aa,oI,hnu,hok,a1];rw [au];simp [d1,bH]
   exact out hB (.inr ⟨b,cap,[],⟨h1,by omega⟩,by simp,by rw [List.append_nil]; exact d5⟩) d7 (by omega) λx hx=>(d2 x (by omega) (by omega)).trans (a3 x hx)
end
end
section
structure ViewD (L0:Nat) (tag:Nat->Nat) (bs:List Blk) (cov:List Int) (pods:List Pod) (svcs:List Svc) (ways:List Way) (pols:List Pol) (w1 w2 w3 w4 w5:V):Prop where
 r1:RowG (Tg L0 bs.length tag 3) bs 1 (cov.map cU) w1
 r2:RowG (Tg L0 bs.length tag 4) bs 7 (pods.map Mq) w2
 r3:RowG (Tg L0 bs.length tag 5) bs 5 (svcs.map Ms) w3
 r4:RowG (Tg L0 bs.length tag 6) bs 2 (ways.map Mt) w4
 r5:RowG (Tg L0 bs.length tag 7) bs 5 (pols.map oc) w5
section
variable {L0:Nat}{tag:Nat->Nat}{bs:List Blk}{cov:List Int}{pods:List Pod}{svcs:List Svc}{ways:List Way}{pols:List Pol}{w1 w2 w3 w4 w5:V}(S:ViewD L0 tag bs cov pods svcs ways pols w1 w2 w3 w4 w5)
include S
theorem ViewD.none {n:Nat}(hn:n<=L0)(k1:w1.under n=true)(k2:w2.under n=true)(k3:w3.under n=true)(k4:w4.under n=true)(k5:w5.under n=true)(m:List Blk)(L1:Nat)(t1:Nat->Nat):ViewD L1 t1 m cov pods svcs ways pols w1 w2 w3 w4 w5:=by
 have row:∀ {i z:Nat} {es:List (List V)} {v:V},RowG (Tg L0 bs.length tag i) bs z es v->v.under n=true->es=[]/\v=.d (.slice true []):=λh hu=>by
  obtain h | ⟨b,cap,rest,h1,rfl,h3⟩:=h
  . exact h
  . have:=h1.1;simp [V.under] at hu;omega
 exact ⟨.inl (row S.r1 k1),.inl (row S.r2 k2),.inl (row S.r3 k3),.inl (row S.r4 k4),.inl (row S.r5 k5)⟩
theorem ViewD.next {bs2:List Blk}(hl:bs.length<=bs2.length)(ho:∀ x,L0<=x->x<bs.length->tag x≠0->bs2[x]?=bs[x]?):ViewD L0 tag bs2 cov pods svcs ways pols w1 w2 w3 w4 w5 :=
 ⟨S.r1.step (by decide) hl ho λ_ _=>rfl,S.r2.step (by decide) hl ho λ_ _=>rfl,S.r3.step (by decide) hl ho λ_ _=>rfl,S.r4.step (by decide) hl ho λ_ _=>rfl,S.r5.step (by decide) hl ho λ_ _=>rfl⟩
end
def VwD (e:Int)(cov:List Int)(pods:List Pod)(svcs:List Svc)(ways:List Way)(pols:List Pol)(w1 w2 w3 w4 w5:V):Vw:=⟨e,⟨gu w1,cov⟩,⟨gu w2,pods⟩,⟨gu w3,svcs⟩,⟨gu w4,ways⟩,⟨gu w5,pols.map Pol.own⟩⟩
section
variable {L0:Nat}{tag:Nat->Nat}{bs:List Blk}{cov:List Int}{pods:List Pod}{svcs:List Svc}{ways:List Way}{pols:List Pol}{w1 w2 w3 w4 w5:V}(S:ViewD L0 tag bs cov pods svcs ways pols w1 w2 w3 w4 w5)
include S
theorem ViewD.fz (e:Int)(bs2:List Blk)(lo2:Nat)(h:∀ x,L0<=x->x<bs.length->bs2[x]?=bs[x]?):bP ⟨bs2,lo2⟩ (ah e w1 w2 w3 w4 w5)=some (VwD e cov pods svcs ways pols w1 w2 w3 w4 w5).c:=by
 have hK:∀ x,TgA L0 bs.length tag x->bs2[x]?=bs[x]?:=λx hx=>h x hx.1 hx.2.1;have h1:=(((S.r1.all (by decide)).hngD (f:=bz) (λ_=>rfl)) bs2 lo2 hK 8 (by decide)).1;have h2:=(((S.r2.all (by decide)).hngD (f:=Pod.c) (λ_=>rfl)) bs2 lo2 hK 8 (by decide)).1;have h3:=(((S.r3.all (by decide)).hngD (f:=Svc.c) (λ_=>rfl)) bs2 lo2 hK 8 (by decide)).1;have h4:=(((S.r4.all (by decide)).hngD (f:=Way.c) (λ_=>rfl)) bs2 lo2 hK 8 (by decide)).1;have h5:=(((S.r5.all (by decide)).hngD (f:=λp:Pol=>p.own.c) (λ_=>rfl)) bs2 lo2 hK 8 (by decide)).1;simp only [ah,bP,List.mapM_cons,List.mapM_nil,h1,h2,h3,h4,h5];simp [VwD,Vw.c,Sl.d,ck]
theorem ViewD.ok (e:Int)(h1:cov.length<=big)(h2:pods.length<=big)(h3:svcs.length<=big)(h4:ways.length<=big)(h5:pols.length<=big)(h6:∀ p∈pols,p.own.ok):(VwD e cov pods svcs ways pols w1 w2 w3 w4 w5).ok:=by
 refine ⟨⟨h1,λh=>S.r1.short h⟩,⟨h2,λh=>S.r2.short h⟩,⟨h3,λh=>S.r3.short h⟩,⟨h4,λh=>S.r4.short h⟩,⟨by simpa [VwD,Vw.cfg] using h5,λh=>by have:=S.r5.short h; simp [VwD,Vw.cfg,this]⟩,λp hp=>?_⟩;obtain ⟨x,hx,rfl⟩:=b9.1 (show p∈pols.map Pol.own from hp);exact h6 x hx
end
section
variable {E:Calls'}{T:FuncId->Option QF}{val:FuncId->Bool}
structure ViewE (n:Nat) (bs:List Blk) (cov:List Int) (pods:List Pod) (svcs:List Svc) (ways:List Way) (pols:List Pol) (w1 w2 w3 w4 w5:V):Prop where
 is:∃ tag,ViewD n tag bs cov pods svcs ways pols w1 w2 w3 w4 w5
theorem Ql (t163:T 44=some zZ)(v163:val 44=false)(t135:T 43=some (cloneQ 1 4 [(.d (.int .u32 0))]))(v135:val 43=false)(Vq:T 84=some (cloneQ 7 72 CO))(VJ:val 84=false)(Vs:T 85=some (cloneQ 5 48 OQ))(VK:val 85=false)(Vt:T 86=some (cloneQ 2 16 O0))(VL:val 86=false)
 (KD:T 53=some oI) (KM:val 53=false) (Vu:T 112=some (cloneQ 5 64 Em)) (VM:val 112=false) (v:Vw) (hv:v.ok) (h113:∀ p∈v.policies.l,∀ h,Sm E T val 113 [ag p.c] h=some (ag p.own.c,h)) (bs:List Blk) :
 ∃ bs' w1 w2 w3 w4 w5,∃ F:Nat->Nat,(∀ lo,Sm E T val 44 [v.v] ⟨bs,lo⟩=some (.agg (ah v.epoch w1 w2 w3 w4 w5),⟨bs',F lo⟩))/\(∀ x,x<bs.length->bs'[x]?=bs[x]?)/\bs.length<=bs'.length/\ViewE bs.length bs' v.covers.l v.pods.l v.services.l v.bound.l v.policies.l w1 w2 w3 w4 w5/\∀ lo,bs.length<=lo->bs.length<=F lo:=by
 obtain ⟨w1,b3,a3,l3,k3,r3⟩:=kE (E:=E) (cells:=bz) (z:=1) (b:=4) (zero:=[(.d (.int .u32 0))]) t135 v135 (by decide) (by decide) (λ_=>rfl) hv.1 (bs++[.cells (v.c.map .d),.cells [.d (.int .u64 0),.d (.slice true []),.d (.slice true []),.d (.slice true []),.d (.slice true []),.d (.slice true [])]]);obtain ⟨w2,b4,a4,l4,k4,r4⟩:=kE (E:=E) (cells:=Pod.c) (z:=7) (b:=72) (zero:=CO) Vq VJ (by decide) (by decide) (λ_=>rfl) (s:=v.pods) hv.2.1 b3;obtain ⟨w3,b5,a5,l5,k5,r5⟩:=kE (E:=E) (cells:=Svc.c) (z:=5) (b:=48) (zero:=OQ) Vs VK (by decide) (by decide) (λ_=>rfl) (s:=v.services) hv.2.2.1 b4;obtain ⟨w4,b6,a6,l6,k6,r6⟩:=kE (E:=E) (cells:=Way.c) (z:=2) (b:=16) (zero:=O0) Vt VL (by decide) (by decide) (λ_=>rfl) (s:=v.bound) hv.2.2.2.1 b5;obtain ⟨c7,m7,e7,f7,g7,h7⟩:=kE (E:=E) (cells:=Pol.c) (z:=5) (b:=64) (zero:=Em) Vu VM (by decide) (by decide) (λ_=>rfl) (s:=v.policies) hv.2.2.2.2.1 b6;obtain ⟨w5,b7,F7,a7,l7,k7,r7,q7⟩:=Fg (E:=E) KD KM (l:=v.policies.l) h113 hv.2.2.2.2.1.1 (bs:=b6) (a:=.d (v.policies.d Pol.c)) ⟨c7,m7,e7,f7,g7,h7⟩ rfl rfl;have o3:=fM a3 (bp _) l3 k3;have o4:=fM a4 (bp _) l4 k4;have o5:=fM a5 (bp _) l5 k5;have o6:=fM a6 (bp _) l6 k6;have o7:=fM (a7 b6.length) (q7 _ _ (bp _) (bp _)) l7 k7;simp only [am,cg,ch] at l3 k3 r3
 have g3:ai b3 bs.length=some (v.c.map .d):=aM (k3 _ (by omega)) (by simp);have g4:ai b4 bs.length=some (v.c.map .d):=aM (k4 _ (by omega)) g3;have g5:ai b5 bs.length=some (v.c.map .d):=aM (k5 _ (by omega)) g4;have g6:ai b6 bs.length=some (v.c.map .d):=aM (k6 _ (by omega)) g5;have g7:ai b7 bs.length=some (v.c.map .d):=aM (k7 _ (by omega)) g6;have z3:ai b3 (bs.length+1)=some [.d (.int .u64 0),.d (.slice true []),.d (.slice true []),.d (.slice true []),.d (.slice true []),.d (.slice true [])]:=aM (k3 _ (by omega)) (by simp);have z7:=aM (k7 _ (by omega)) (aM (k6 _ (by omega)) (aM (k5 _ (by omega)) (aM (k4 _ (by omega)) z3)));have hcq:v.c.map V.d=ah v.epoch (.d (v.covers.d bz)) (.d (v.pods.d Pod.c)) (.d (v.services.d Svc.c)) (.d (v.bound.d Way.c)) (.d (v.policies.d Pol.c)):=rfl;have gs:∀ B,ai (b7.set bs.length (.cells B)) bs.length=some B:=λB=>aN g7;have zs:∀ B,ai (b7.set bs.length (.cells B)) (bs.length+1)=some [.d (.int .u64 0),.d (.slice true []),.d (.slice true []),.d (.slice true []),.d (.slice true []),.d (.slice true [])]:=λB=>(bi (by omega)).trans z7;have zss:∀ B C,ai ((b7.set bs.length (.cells B)).set (bs.length+1) (.cells C)) (bs.length+1)=some C:=λB C=>aN (zs B);have n7:=r7.okv;have u3:=r3.nu; have u4:=r4.nu; have u5:=r5.nu; have u6:=r6.nu;have ok3:=r3.ok; have ok4:=r4.ok; have ok5:=r5.ok; have ok6:=r6.ok
 have t3:=r3.cl; have t4:=r4.cl; have t5:=r5.cl; have t6:=r6.cl;have g7q:=g7;rw [hcq] at g7q;have hB:Bd E T val zZ [v.v] ⟨bs,bs.length⟩=some (.agg (ah v.epoch w1 w2 w3 w4 w5),⟨(b7.set bs.length (.cells (ah v.epoch w1 w2 w3 w4 w5))).set (bs.length+1) (.cells (ah v.epoch w1 w2 w3 w4 w5)),bs.length⟩):=by
  simp at o3;simp [aa,zZ,o3,o4,o5,o6,o7,g3,g4,g5,g6,g7q,gs,zs,zss,u3,u4,u5,u6,n7,ok3,ok4,ok5,ok6,t3,t4,t5,t6,Nl,Nn,Np,Nq,Nr,H9,GV,Gq,az,aL];rw [if_pos]
  . simp [gs,zs,zss,H9,GV,Gq,n7,Nat.min_def]
  . simp [aG,List.range,List.range.loop,Tr.spares];omega
 have hl7:b7.length=((b7.set bs.length (.cells (ah v.epoch w1 w2 w3 w4 w5))).set (bs.length+1) (.cells (ah v.epoch w1 w2 w3 w4 w5))).length:=by simp
 have hm:∀ x,x≠bs.length->x≠bs.length+1->((b7.set bs.length (.cells (ah v.epoch w1 w2 w3 w4 w5))).set (bs.length+1) (.cells (ah v.epoch w1 w2 w3 w4 w5)))[x]?=b7[x]?:=λx h1 h2=>by
  rw [ac (Ne.symm h2),ac (Ne.symm h1)]
 generalize (b7.set bs.length (.cells (ah v.epoch w1 w2 w3 w4 w5))).set (bs.length+1) (.cells (ah v.epoch w1 w2 w3 w4 w5))=m at *;have hold:∀ x,x<bs.length->m[x]?=bs[x]?:=λx hx=>by
  rw [hm x (by omega) (by omega),k7 x (by omega),k6 x (by omega),k5 x (by omega),k4 x (by omega),k3 x (by omega),al hx]
 let t:Nat->Nat:=λx=>if x<b3.length then 3 else if x<b4.length then 4 else if x<b5.length then 5 else if x<b6.length then 6 else 7
 have ht:∀ x i,t x=i↔(if x<b3.length then 3 else if x<b4.length then 4 else if x<b5.length then 5 else if x<b6.length then 6 else 7)=i:=λx i=>Iff.rfl;have m3:Row1 (bs.length+2) b3.length m 1 (v.covers.l.map bz) w1:=r3.on λx h1 h2=>by rw [hm x (by omega) (by omega),k7 x (by omega),k6 x (by omega),k5 x (by omega),k4 x h2]
 have m4:=r4.on (bs':=m) λx h1 h2=>by rw [hm x (by omega) (by omega),k7 x (by omega),k6 x (by omega),k5 x h2]
 have m5:=r5.on (bs':=m) λx h1 h2=>by rw [hm x (by omega) (by omega),k7 x (by omega),k6 x h2]
 have m6:=r6.on (bs':=m) λx h1 h2=>by rw [hm x (by omega) (by omega),k7 x h2]
 have S:ViewD bs.length t m v.covers.l v.pods.l v.services.l v.bound.l v.policies.l w1 w2 w3 w4 w5:=by
  refine ⟨m3.g (by omega) (by omega) λx h1 h2=>?_,m4.g (by omega) (by omega) λx h1 h2=>?_,m5.g (by omega) (by omega) λx h1 h2=>?_,m6.g (by omega) (by omega) λx h1 h2=>?_,r7.on λx hx=>⟨⟨?_,?_,?_⟩,?_⟩⟩
  . rw [ht,if_pos h2]
  . rw [ht,if_neg (by omega),if_pos h2]
  . rw [ht,if_neg (by omega),if_neg (by omega),if_pos h2]
  . rw [ht,if_neg (by omega),if_neg (by omega),if_neg (by omega),if_pos h2]
  . have:=hx.1; omega
  . have:=hx.2; omega
  . have:=hx.1; have:=hx.2;rw [ht,if_neg (by omega),if_neg (by omega),if_neg (by omega),if_neg (by omega)]
  . have:=hx.1; exact hm x (by omega) (by omega)
 by_cases hc:bs.length<=bs.length/\(V.agg (ah v.epoch w1 w2 w3 w4 w5)).under bs.length=true
 . have hu:=hc.2;simp [V.under,V.under.go,ah] at hu;refine ⟨bs,w1,w2,w3,w4,w5,id,λlo=>?_,λ_ _=>rfl,bp _,⟨t,S.none (bp _) hu.1 hu.2.1 hu.2.2.1 hu.2.2.2.1 hu.2.2.2.2 _ _ _⟩,λ_ h=>h⟩;rw [aT t163 v163];show dY ⟨bs,lo⟩ (Bd E T val zZ [v.v] ⟨bs,bs.length⟩)=_;rw [hB,eu];exact if_pos hc
 . refine ⟨m,w1,w2,w3,w4,w5,λlo=>min lo bs.length,λlo=>?_,hold,by omega,⟨t,S⟩,λlo h=>by show _<=min lo bs.length; omega⟩;rw [aT t163 v163];show dY ⟨bs,lo⟩ (Bd E T val zZ [v.v] ⟨bs,bs.length⟩)=_;rw [hB,eu];exact if_neg hc
end
end
section
def VC:List (Nat×QF):=[(8,q18),(24,q76),(25,q80),(63,GX),(65,GY),(147,Tc),(84,Jz),(122,GZ),(102,Nw),(43,Td),(92,Te),(100,Tf),(95,Ny),(106,Ti),(72,Nz),(53,oI),(44,zZ),(47,Tj),(49,Tk),(51,Tm),(54,Tn),(85,JE),(86,JF),(112,G7),(156,NR),(148,ae0),(154,Tq),(155,ae1),(150,NS),(158,Tt),(159,ae2),(124,NT),(125,Tu),(108,NW),(115,NY),(93,ae3),(96,ae4),(101,ae5),(103,ae6),(107,ae7),(109,ae8),(114,ae9),(116,af0),(164,N7),(168,JV),(160,Oe)]
def TSd:FuncId->Option QF:=iN VC
def bA (_:FuncId):Bool:=false
theorem UR:TSd 8=some (q18):=by kernel_rfl
theorem af9:TSd 24=some (q76):=by kernel_rfl
theorem Vg:TSd 25=some (q80):=by kernel_rfl
theorem Uw:TSd 63=some (idxQ 7):=by kernel_rfl
theorem Ux:TSd 65=some (idxQ 5):=by kernel_rfl
theorem Uy:TSd 147=some (delQ 7 63 CO):=by kernel_rfl
theorem Lf:TSd 84=some (cloneQ 7 72 CO):=by kernel_rfl
theorem Uz:TSd 122=some (idxQ 2):=by kernel_rfl
theorem UB:TSd 102=some (someQ 156):=by kernel_rfl
theorem Hy:TSd 43=some (cloneQ 1 4 [(.d (.int .u32 0))]):=by kernel_rfl
theorem UC:TSd 92=some (keepQ 84 148 147):=by kernel_rfl
theorem UD:TSd 100=some (keepQ 85 155 154):=by kernel_rfl
theorem UE:TSd 95=some (someQ 150):=by kernel_rfl
theorem UF:TSd 106=some (keepQ 86 159 158):=by kernel_rfl
theorem UG:TSd 72=some (keepQ 112 125 124):=by kernel_rfl
theorem Lg:TSd 53=some (oI):=by kernel_rfl
theorem UH:TSd 44=some (zZ):=by kernel_rfl
theorem UI:TSd 47=some (vputQ 7 72 93 92 98 97):=by kernel_rfl
theorem UK:TSd 49=some (vputQ 5 48 101 100 105 104):=by kernel_rfl
theorem UM:TSd 51=some (vputQ 2 16 107 106 111 110):=by kernel_rfl
theorem UO:TSd 54=some (vputQ 5 64 114 72 118 117):=by kernel_rfl
theorem Li:TSd 85=some (cloneQ 5 48 OQ):=by kernel_rfl
theorem Lj:TSd 86=some (cloneQ 2 16 O0):=by kernel_rfl
theorem Hz:TSd 112=some (cloneQ 5 64 Em):=by kernel_rfl
theorem UT:TSd 156=some (anyQ 65):=by kernel_rfl
theorem UU:TSd 148=some (notQ 7):=by kernel_rfl
theorem UV:TSd 154=some (delQ 5 65 Vn):=by kernel_rfl
theorem UW:TSd 155=some (notQ 5):=by kernel_rfl
theorem UX:TSd 150=some (anyQ 63):=by kernel_rfl
theorem UY:TSd 158=some (delQ 2 122 VN):=by kernel_rfl
theorem UZ:TSd 159=some (notQ 2):=by kernel_rfl
theorem U0:TSd 124=some (delQ 5 168 Lc):=by kernel_rfl
theorem U1:TSd 125=some (notQ 5):=by kernel_rfl
theorem U2:TSd 108=some (someQ 160):=by kernel_rfl
theorem U3:TSd 115=some (someQ 164):=by kernel_rfl
theorem U4:TSd 93=some (vpcQ 7 94 96 95):=by kernel_rfl
theorem U5:TSd 96=some (vpeQ 7):=by kernel_rfl
theorem U6:TSd 101=some (vpcQ 5 94 103 102):=by kernel_rfl
theorem U7:TSd 103=some (vpeQ 5):=by kernel_rfl
theorem U8:TSd 107=some (vpcQ 2 94 109 108):=by kernel_rfl
theorem U9:TSd 109=some (vpeQ 2):=by kernel_rfl
theorem Va:TSd 114=some (vpcQ 5 94 116 115):=by kernel_rfl
theorem Vb:TSd 116=some (vpeQ 5):=by kernel_rfl
theorem Vd:TSd 164=some (anyQ 168):=by kernel_rfl
theorem Ve:TSd 168=some (idxQ 5):=by kernel_rfl
theorem Vf:TSd 160=some (anyQ 122):=by kernel_rfl
theorem OL:TSd 45=none:=by kernel_rfl
theorem Lh:TSd 46=none:=by kernel_rfl
theorem UA:TSd 113=none:=by kernel_rfl
theorem C8:TSd 94=none:=by kernel_rfl
theorem UJ:TSd 48=none:=by kernel_rfl
theorem UL:TSd 50=none:=by kernel_rfl
theorem UN:TSd 52=none:=by kernel_rfl
theorem UQ:TSd 55=none:=by kernel_rfl
theorem Ll:TSd 97=none:=by kernel_rfl
theorem Lm:TSd 104=none:=by kernel_rfl
theorem Lp:TSd 110=none:=by kernel_rfl
theorem Lr:TSd 117=none:=by kernel_rfl
section
variable {E:Calls'}{T:FuncId->Option QF}{val:FuncId->Bool}
theorem Ba {α:Type}{cells:α->List D}{z b:Nat}{zero:List V}{id:FuncId}{a:V}(ht:T id=some (cloneQ z b zero))(hv:val id=false)(hz0:0<z)(hb:b<=4096)(hz:∀ x,(cells x).length=z){s:Sl α}(hs:short s){h:Hp}(ha:Vr.ArgIs h.bs a z s.nl (s.l.map λx=>(cells x).map V.d)) :
 Sm E T val id [a] h=Sm E T val id [.d (s.d cells)] h:=by
 have k1:=Vr.S_cloneA (E:=E) ht hv hz0 hb (nl:=s.nl) (es:=s.l.map λx=>(cells x).map V.d) (by simp; intro x _; simpa using hz x) (by simpa using hs.1) h ha;have k2:=jT (E:=E) ht hv hz0 hb (nl:=s.nl) (es:=s.l.map cells) (by simp; intro x _; simpa using hz x) (by simpa using hs.1) h;have hq:Vr.cloneR z s.nl (s.l.map λx=>(cells x).map V.d) h.bs h.low=cloneR z s.nl (s.l.map cells) h.bs h.low:=by
  obtain ⟨nl,l⟩:=s;cases nl with
  | true=>rfl
  | false =>
   cases l with
   | nil=>rfl
   | cons x l =>
    have:=wo cells (x::l);simp only [Vr.cloneR,cloneR,cn] at this ⊢;rw [this];simp
 rw [k1,hq];exact k2.symm
theorem wB {α:Type}{cells:α->List D}{z b cl clos del id:Nat}{zero:List V}(tcl:T cl=some (cloneQ z b zero))(vcl:val cl=false)(tid:T id=some (keepQ cl clos del))(vid:val id=false)(hz0:0<z)(hb:b<=4096)(hz:∀ x,(cells x).length=z){s:Sl α}(hs:short s){a:V}{f:FuncId}{caps:List V}{h:Hp}
 (ha:Vr.ArgIs h.bs a z s.nl (s.l.map λx=>(cells x).map V.d)):Sm E T val id [a,.fn f caps] h=Sm E T val id [.d (s.d cells),.fn f caps] h:=by
 rw [aT tid vid,aT tid vid];have hc:=Ba (E:=E) (cells:=cells) tcl vcl hz0 hb hz hs (h:=⟨h.bs++[.cells [.fn f caps]],h.bs.length⟩) (ha.lay _);obtain ⟨aok,anu⟩:=ha.ok
 congr 1
 have hr:∃ r m,Sm E T val cl [.d (s.d cells)] ⟨h.bs++[.cells [.fn f caps]],h.bs.length⟩=some (r,m)/\nu r=some r/\okV r=true:=by
  have k2:=jT (E:=E) tcl vcl hz0 hb (nl:=s.nl) (es:=s.l.map cells) (by simp; intro x _; simpa using hz x) (by simpa using hs.1) ⟨h.bs++[.cells [.fn f caps]],h.bs.length⟩;refine ⟨_,_,k2,?_⟩;cases s.nl with
  | true=>exact ⟨rfl,rfl⟩
  | false=>cases s.l.map cells<;>exact ⟨rfl,rfl⟩
 obtain ⟨r,m,r1,r2,r3⟩:=hr;rw [r1] at hc;cases hd:Sm E T val del [r,.fn clos [.ptr h.bs.length 0]] m with
 | none=>simp [aa,keepQ,aok,anu,hc,r1,r2,r3,hd]; rfl
 | some p =>
  obtain ⟨v,m2⟩:=p;cases hv:nu v with
  | none=>simp [aa,keepQ,aok,anu,hc,r1,r2,r3,hd,hv]; rfl
  | some v2=>simp [aa,keepQ,aok,anu,hc,r1,r2,r3,hd,hv]
theorem sS {α:Type}{cells:α->List D}{z b c1 c11 con sm any keep cl clos del idx g srt idf id:FuncId}{zero:List V}{key:α->Int}(tcl:T cl=some (cloneQ z b zero))(vcl:val cl=false)(tdel:T del=some (delQ z idx zero))(vdel:val del=false)(ti:T idx=some (idxQ z))(vi:val idx=false)
 (tn:T clos=some (notQ z)) (vn:val clos=false) (tk:T keep=some (keepQ cl clos del)) (vk:val keep=false) (t1:T c1=some (vpcQ z con c11 sm)) (v1:val c1=false) (t11:T c11=some (vpeQ z)) (v11:val c11=false) (ts:T sm=some (someQ any)) (vs:val sm=false) (ta:T any=some (anyQ idx)) (va:val any=false)
 (tid:T id=some (vputQ z b c1 keep g srt)) (vid:val id=false) {p:Nat} (hS:∀ {h:Hp} {B n k:Nat} {cap:Option Nat},0<n->Sm E T val srt [.row B 0 n cap z,.fn g [.ptr k 0]] h=ed ⟨z,p,g,idf⟩ [.row B 0 n cap z,.fn g [.ptr k 0]] h)
 (hS0:∀ v k,v=.d (.slice true [])\/(∃ B cap,v=.row B 0 0 cap z)->∀ h,Sm E T val srt [v,.fn g [.ptr k 0]] h=some (.tup [],h))
 (hz:∀ x,(cells x).length=z) (hz0:0<z) (hzero:zero.length=z) (hb:b<=4096) (hkey:∀ x,(cells x)[p]?=some (.int .u64 (key x))) {l fresh:Sl α} (hl:short l) (hf:short fresh) (hlf:l.l.length+fresh.l.length<=big) {gone:Sl Int}
 (hcon:∀ n h,Sm E T val con [.d (gone.d aR),.d (u64 n)] h=some (bl (bE gone.l n),h)) (hid:∀ e,e∈l.l\/e∈fresh.l->∀ h,Sm E T val idf [ag (cells e)] h=some (.d (u64 (key e)),h)) (hnd:(((l.l.filter (fI key fresh.l gone.l))++fresh.l).map key).Nodup) {a:V} {bs:List Blk} (ha:Vr.ArgIs bs a z l.nl (l.l.map λx=>(cells x).map V.d)) :
 ∃ r bs',∃ F:Nat->Nat,(∀ lo,Sm E T val id [a,.d (fresh.d cells),.d (gone.d aR),.fn idf []] ⟨bs,lo⟩=some (r,⟨bs',F lo⟩))/\bs.length<=bs'.length/\(∀ x,x<bs.length->bs'[x]?=bs[x]?)/\RowG (fD bs bs') bs' z ((bL key l.l fresh.l gone.l).map λx=>(cells x).map V.d) r:=by
 have g0:∀ (m:List Blk) (i:Nat) (cs:List V),(∀ x,x<bs.length+3->m[x]?=(bs++[Blk.cells [.d (fresh.d cells)],.cells [.d (gone.d aR)],.cells [.fn idf []]])[x]?)->i<3->([Blk.cells [.d (fresh.d cells)],.cells [.d (gone.d aR)],.cells [.fn idf []]])[i]?=some (.cells cs)->ai m (bs.length+i)=some cs:=λm i cs h hi hc=>by
  unfold ai;rw [h _ (by omega),bk (by omega),Nat.add_sub_cancel_left,hc]
 obtain ⟨r,bs1,lo1,k1,⟨k2,_⟩,k3,k4⟩:=Ch (E:=E) (T:=T) (val:=val) tcl vcl tdel vdel ti vi tn vn tk vk hz hz0 hzero hb hl (f:=c1) (caps:=[.ptr (bs.length+1) 0,.ptr (bs.length+2) 0,.ptr bs.length 0]) (q:=fI key fresh.l gone.l) (h:=⟨bs++[.cells [.d (fresh.d cells)],.cells [.d (gone.d aR)],.cells [.fn idf []]],bs.length⟩) λe he m lo hle ho=>by
  simp only [am,cg,ch] at hle ho;exact Qv t1 v1 t11 v11 ts vs ta va ti vi hz hf hcon (λx hx=>hid x (by obtain rfl | hx:=hx; exact .inl he; exact .inr hx)) (g0 m 1 _ ho (by decide) rfl) (g0 m 2 _ ho (by decide) rfl) (g0 m 0 _ ho (by decide) rfl)
 have k0:=wB (E:=E) (T:=T) (val:=val) (cells:=cells) tcl vcl tk vk hz0 hb hz hl (f:=c1) (caps:=[.ptr (bs.length+1) 0,.ptr (bs.length+2) 0,.ptr bs.length 0]) (h:=⟨bs++[.cells [.d (fresh.d cells)],.cells [.d (gone.d aR)],.cells [.fn idf []]],bs.length⟩) (ha.lay _);rw [k1] at k0;obtain ⟨aok,anu⟩:=ha.ok;simp only [am,cg,ch] at k2 k3 k4;have hkl:=List.length_filter_le (fI key fresh.l gone.l) l.l;obtain ⟨v2,bs2,f,a1,a2,a3⟩:=Fs hz hz0 hb k4 fresh hf (by omega) k2;have a2':∀ x,x<bs.length+3->bs2[x]?=(bs++[Blk.cells [.d (fresh.d cells)],.cells [.d (gone.d aR)],.cells [.fn idf []]])[x]?:=λx hx=>(a2 x hx).trans (k3 x hx);have hb10:ai bs1 bs.length=some [.d (fresh.d cells)]:=g0 bs1 0 _ k3 (by decide) rfl;have hb2:ai bs2 (bs.length+2)=some [.fn idf []]:=g0 bs2 2 _ a2' (by decide) rfl;have hl2:bs.length+3<=bs2.length:=aJ hb2;have hold:∀ x,x<bs.length->bs2[x]?=bs[x]?:=λx hx=>by rw [a2' x (by omega),al hx]
 have hnur:=k4.nu;have hPV:bL key l.l fresh.l gone.l=((l.l.filter (fI key fresh.l gone.l))++fresh.l).mergeSort λa b=>decide (key a<=key b):=rfl;generalize bL key l.l fresh.l gone.l=PV at *;generalize l.l.filter (fI key fresh.l gone.l)=K at *;have key:∃ v m lo2,Bd E T val (vputQ z b c1 keep g srt) [a,.d (fresh.d cells),.d (gone.d aR),.fn idf []] ⟨bs,bs.length⟩=some (v,⟨m,lo2⟩)/\bs.length<=m.length/\(∀ x,x<bs.length->m[x]?=bs[x]?)/\RowG (fD bs m) m z (PV.map λx=>(cells x).map V.d) v:=by
  obtain ⟨g1,g2,rfl⟩ | ⟨g1,B,cap,rest,g2,rfl,g3⟩:=a3
  . have hP0:PV=[]:=by rw [hPV,g2,List.mergeSort_nil]
    have hsrt:=λh=>hS0 (.d (.slice true [])) (bs.length+2) (.inl rfl) h;refine ⟨.d (.slice true []),bs2,f lo1,?_,by omega,hold,.inl ⟨by rw [hP0]; rfl,rfl⟩⟩;simp [vputQ,aa,aok,anu,k0,hb10,hnur.1,hnur.2,a1,hsrt,bH]
  . obtain h0 | h0:=Nat.eq_zero_or_pos (K++fresh.l).length
    . have hKF:K++fresh.l=[]:=List.eq_nil_of_length_eq_zero h0;have hP0:PV=[]:=by rw [hPV,hKF,List.mergeSort_nil]
      have hsrt:=λh=>hS0 (.row B 0 0 cap z) (bs.length+2) (.inr ⟨B,cap,rfl⟩) h;rw [h0] at a1;rw [hKF] at g3;refine ⟨.row B 0 0 cap z,bs2,f lo1,?_,by omega,hold,.inr ⟨B,cap,rest,⟨by omega,aJ g3⟩,by rw [hP0]; rfl,by rw [hP0]; exact g3⟩⟩;simp [vputQ,aa,aok,anu,k0,hb10,hnur.1,hnur.2,a1,hsrt,bH]
    . have hne:K++fresh.l≠[]:=List.length_pos_iff.1 h0;have hst:=λlo2=>EF (g:=g) (idf:=idf) (p:=p) hz hkey (L:=K++fresh.l) hnd hne (by rw [am]; simp only [big] at hlf; omega) (h:=⟨bs2,lo2⟩) (b:=B) (c:=bs.length+2) (cap:=cap) (rest:=rest) g3 hb2 (by omega);rw [← hPV] at hst;have hsm:∀ lo2,Sm E T val srt [.row B 0 (K++fresh.l).length cap z,.fn g [.ptr (bs.length+2) 0]] ⟨bs2,lo2⟩=some (.tup [],⟨bs2.set B (.cells (flat (PV.map cells)++rest)),min lo2 B⟩):=λlo2=>by
       rw [hS h0];exact hst lo2
      have hbl:=aJ g3;have hpl:PV.length=(K++fresh.l).length:=by rw [hPV,List.length_mergeSort]
      refine ⟨.row B 0 (K++fresh.l).length cap z,bs2.set B (.cells (flat (PV.map cells)++rest)),min (f lo1) B,?_,by simp; omega,λx hx=>by rw [ac (by omega)]; exact hold x hx,.inr ⟨B,cap,rest,⟨by omega,by simpa using hbl⟩,by rw [bx,hpl],?_⟩⟩
      . generalize (K++fresh.l).length=N at *;simp [vputQ,aa,aok,anu,k0,hb10,hnur.1,hnur.2,a1,hsm,bH]
      . rw [← wo]; exact aN g3
 obtain ⟨v,m,lo2,q1,q2,q3,q4⟩:=key;obtain ⟨r,bs',F,e1,e2⟩:=q4.ret (lo2:=lo2) q2 q3;refine ⟨r,bs',F,λlo=>?_,e2⟩;rw [aT tid vid];show dY ⟨bs,lo⟩ (Bd E T val (vputQ z b c1 keep g srt) [a,.d (fresh.d cells),.d (gone.d aR),.fn idf []] ⟨bs,bs.length⟩)=_;rw [q1];exact e1 lo
end
structure PutD (E:Calls'):Prop where
 h75:∀ v:Vw,v.ok->(∀ p∈v.policies.l,p.wf big)->∀ a h,frz h a=some v.v->E 45 [a] h=some (bl (bg v),h)
 h164:∀ d:Dlt,d.ok->(∀ p∈d.policies.l,p.wf big)->∀ h,E 46 [d.v] h=some (bl (dL d),h)
 h113:∀ p:Pol,p.ok->∀ h,E 113 [ag p.c] h=some (ag p.own.c,h)
 h269:∀ s:Sl Int,short s->∀ n h,E 94 [.d (s.d aR),.d (u64 n)] h=some (bl (bE s.l n),h)
 h166:∀ (p:Pod) h,E 48 [ag p.c] h=some (.d (u64 p.uid),h)
 h168:∀ (p:Svc) h,E 50 [ag p.c] h=some (.d (u64 p.id),h)
 h170:∀ (p:Way) h,E 52 [ag p.c] h=some (.d (u64 p.id),h)
 h172:∀ (p:Pol) h,E 55 [ag p.c] h=some (.d (u64 p.id),h)
 h271:∀ {h:Hp} {B n k:Nat} {cap:Option Nat},0<n->E 97 [.row B 0 n cap 7,.fn 98 [.ptr k 0]] h=ed ⟨7,0,98,48⟩ [.row B 0 n cap 7,.fn 98 [.ptr k 0]] h
 n271:∀ v k,v=.d (.slice true [])\/(∃ B cap,v=.row B 0 0 cap 7)->∀ h,E 97 [v,.fn 98 [.ptr k 0]] h=some (.tup [],h)
 h276:∀ {h:Hp} {B n k:Nat} {cap:Option Nat},0<n->E 104 [.row B 0 n cap 5,.fn 105 [.ptr k 0]] h=ed ⟨5,0,105,50⟩ [.row B 0 n cap 5,.fn 105 [.ptr k 0]] h
 n276:∀ v k,v=.d (.slice true [])\/(∃ B cap,v=.row B 0 0 cap 5)->∀ h,E 104 [v,.fn 105 [.ptr k 0]] h=some (.tup [],h)
 h280:∀ {h:Hp} {B n k:Nat} {cap:Option Nat},0<n->E 110 [.row B 0 n cap 2,.fn 111 [.ptr k 0]] h=ed ⟨2,0,111,52⟩ [.row B 0 n cap 2,.fn 111 [.ptr k 0]] h
 n280:∀ v k,v=.d (.slice true [])\/(∃ B cap,v=.row B 0 0 cap 2)->∀ h,E 110 [v,.fn 111 [.ptr k 0]] h=some (.tup [],h)
 h284:∀ {h:Hp} {B n k:Nat} {cap:Option Nat},0<n->E 117 [.row B 0 n cap 5,.fn 118 [.ptr k 0]] h=ed ⟨5,0,118,55⟩ [.row B 0 n cap 5,.fn 118 [.ptr k 0]] h
 n284:∀ v k,v=.d (.slice true [])\/(∃ B cap,v=.row B 0 0 cap 5)->∀ h,E 117 [v,.fn 118 [.ptr k 0]] h=some (.tup [],h)
section
variable {E:Calls'}(H:PutD E)
include H
theorem PutD.c113 (p:Pol)(hp:p.ok)(h:Hp):Sm E TSd bA 113 [ag p.c] h=some (ag p.own.c,h):=by rw [aU UA]; exact H.h113 p hp h
theorem Qy {l fresh:Sl Pod}(hl:short l){a:V}{bs:List Blk}(ha:Vr.ArgIs bs a 7 l.nl (l.l.map λx=>x.c.map V.d))(hf:short fresh)(hlf:l.l.length+fresh.l.length<=big){gone:Sl Int}(hg:short gone)(hnd:(((l.l.filter (fI Pod.uid fresh.l gone.l))++fresh.l).map Pod.uid).Nodup) :
 ∃ r bs',∃ F:Nat->Nat,(∀ lo,Sm E TSd bA 47 [a,.d (fresh.d Pod.c),.d (gone.d aR),.fn 48 []] ⟨bs,lo⟩=some (r,⟨bs',F lo⟩))/\bs.length<=bs'.length/\(∀ x,x<bs.length->bs'[x]?=bs[x]?)/\RowG (fD bs bs') bs' 7 ((bL Pod.uid l.l fresh.l gone.l).map λx=>x.c.map V.d) r :=
 sS (E:=E) (T:=TSd) (val:=bA) (cells:=Pod.c) (key:=Pod.uid) (z:=7) (b:=72) (p:=0) (idf:=48) (g:=98) (srt:=97) Lf rfl Uy rfl Uw rfl UU rfl UC rfl U4 rfl U5 rfl UE rfl UX rfl UI rfl
  (λhn=>by rw [aU Ll]; exact H.h271 hn) (λv k hv h=>by rw [aU Ll]; exact H.n271 v k hv h) (λ_=>rfl) (by decide) rfl (by decide) (λ_=>rfl) hl hf hlf (λn h=>by rw [aU C8]; exact H.h269 gone hg n h) (λe _ h=>by rw [aU UJ]; exact H.h166 e h) hnd ha
theorem Qz {l fresh:Sl Svc}(hl:short l){a:V}{bs:List Blk}(ha:Vr.ArgIs bs a 5 l.nl (l.l.map λx=>x.c.map V.d))(hf:short fresh)(hlf:l.l.length+fresh.l.length<=big){gone:Sl Int}(hg:short gone)(hnd:(((l.l.filter (fI Svc.id fresh.l gone.l))++fresh.l).map Svc.id).Nodup) :
 ∃ r bs',∃ F:Nat->Nat,(∀ lo,Sm E TSd bA 49 [a,.d (fresh.d Svc.c),.d (gone.d aR),.fn 50 []] ⟨bs,lo⟩=some (r,⟨bs',F lo⟩))/\bs.length<=bs'.length/\(∀ x,x<bs.length->bs'[x]?=bs[x]?)/\RowG (fD bs bs') bs' 5 ((bL Svc.id l.l fresh.l gone.l).map λx=>x.c.map V.d) r :=
 sS (E:=E) (T:=TSd) (val:=bA) (cells:=Svc.c) (key:=Svc.id) (z:=5) (b:=48) (p:=0) (idf:=50) (g:=105) (srt:=104) Li rfl UV rfl Ux rfl UW rfl UD rfl U6 rfl U7 rfl UB rfl UT rfl UK rfl
  (λhn=>by rw [aU Lm]; exact H.h276 hn) (λv k hv h=>by rw [aU Lm]; exact H.n276 v k hv h) (λ_=>rfl) (by decide) rfl (by decide) (λ_=>rfl) hl hf hlf (λn h=>by rw [aU C8]; exact H.h269 gone hg n h) (λe _ h=>by rw [aU UL]; exact H.h168 e h) hnd ha
theorem QA {l fresh:Sl Way}(hl:short l){a:V}{bs:List Blk}(ha:Vr.ArgIs bs a 2 l.nl (l.l.map λx=>x.c.map V.d))(hf:short fresh)(hlf:l.l.length+fresh.l.length<=big){gone:Sl Int}(hg:short gone)(hnd:(((l.l.filter (fI Way.id fresh.l gone.l))++fresh.l).map Way.id).Nodup) :
 ∃ r bs',∃ F:Nat->Nat,(∀ lo,Sm E TSd bA 51 [a,.d (fresh.d Way.c),.d (gone.d aR),.fn 52 []] ⟨bs,lo⟩=some (r,⟨bs',F lo⟩))/\bs.length<=bs'.length/\(∀ x,x<bs.length->bs'[x]?=bs[x]?)/\RowG (fD bs bs') bs' 2 ((bL Way.id l.l fresh.l gone.l).map λx=>x.c.map V.d) r :=
 sS (E:=E) (T:=TSd) (val:=bA) (cells:=Way.c) (key:=Way.id) (z:=2) (b:=16) (p:=0) (idf:=52) (g:=111) (srt:=110) Lj rfl UY rfl Uz rfl UZ rfl UF rfl U8 rfl U9 rfl U2 rfl Vf rfl UM rfl
  (λhn=>by rw [aU Lp]; exact H.h280 hn) (λv k hv h=>by rw [aU Lp]; exact H.n280 v k hv h) (λ_=>rfl) (by decide) rfl (by decide) (λ_=>rfl) hl hf hlf (λn h=>by rw [aU C8]; exact H.h269 gone hg n h) (λe _ h=>by rw [aU UN]; exact H.h170 e h) hnd ha
theorem QB {l fresh:Sl Pol}(hl:short l){a:V}{bs:List Blk}(ha:Vr.ArgIs bs a 5 l.nl (l.l.map λx=>x.c.map V.d))(hf:short fresh)(hlf:l.l.length+fresh.l.length<=big){gone:Sl Int}(hg:short gone)(hnd:(((l.l.filter (fI Pol.id fresh.l gone.l))++fresh.l).map Pol.id).Nodup) :
 ∃ r bs',∃ F:Nat->Nat,(∀ lo,Sm E TSd bA 54 [a,.d (fresh.d Pol.c),.d (gone.d aR),.fn 55 []] ⟨bs,lo⟩=some (r,⟨bs',F lo⟩))/\bs.length<=bs'.length/\(∀ x,x<bs.length->bs'[x]?=bs[x]?)/\RowG (fD bs bs') bs' 5 ((bL Pol.id l.l fresh.l gone.l).map λx=>x.c.map V.d) r :=
 sS (E:=E) (T:=TSd) (val:=bA) (cells:=Pol.c) (key:=Pol.id) (z:=5) (b:=64) (p:=0) (idf:=55) (g:=118) (srt:=117) Hz rfl U0 rfl Ve rfl U1 rfl UG rfl Va rfl Vb rfl U3 rfl Vd rfl UO rfl
  (λhn=>by rw [aU Lr]; exact H.h284 hn) (λv k hv h=>by rw [aU Lr]; exact H.n284 v k hv h) (λ_=>rfl) (by decide) rfl (by decide) (λ_=>rfl) hl hf hlf (λn h=>by rw [aU C8]; exact H.h269 gone hg n h) (λe _ h=>by rw [aU UQ]; exact H.h172 e h) hnd ha
theorem Qx (v:Vw)(hv:v.ok)(bs:List Blk) :
 ∃ bs' w1 w2 w3 w4 w5,∃ F:Nat->Nat,(∀ lo,Sm E TSd bA 44 [v.v] ⟨bs,lo⟩=some (.agg (ah v.epoch w1 w2 w3 w4 w5),⟨bs',F lo⟩))/\(∀ x,x<bs.length->bs'[x]?=bs[x]?)/\bs.length<=bs'.length/\ViewE bs.length bs' v.covers.l v.pods.l v.services.l v.bound.l v.policies.l w1 w2 w3 w4 w5/\∀ lo,bs.length<=lo->bs.length<=F lo :=
 Ql UH rfl Hy rfl Lf rfl Li rfl Lj rfl Lg rfl Hz rfl v hv (λp hp h=>H.c113 p (hv.2.2.2.2.2 p hp) h) bs
end
end
