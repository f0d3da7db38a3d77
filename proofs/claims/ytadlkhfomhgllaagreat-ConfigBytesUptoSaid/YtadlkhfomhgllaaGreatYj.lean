/- policy.Own, by reference: the rules' row lies in memory. -/
import Derived.Test.YtadlkhfomhgllaaGreatXy
set_option maxRecDepth 100000
set_option linter.unusedVariables false
set_option linter.unusedSimpArgs false
namespace Go.Proofs.YtadlkhfomhgllaaGreat
section
variable {E:Calls'}{T:FuncId->Option QF}{val:FuncId->Bool}
theorem Acc.low {base:List Blk}{z:Nat}{acc:List (List D)}{bs bs':List Blk}{v v' x:V}{by_ lo lo':Nat}(h:Acc base z acc bs v)(ha:dY ⟨bs,lo⟩ z by_ v x=some (v',⟨bs',lo'⟩))(hl:base.length<=lo):base.length<=lo':=by
 unfold dY at ha;split at ha
 case h_2=>cases ha
 case h_1 m xs _ =>
  obtain ⟨_,rfl⟩ | ⟨h1,b,h2,rfl,h4⟩:=h.is
  . simp only [aI] at ha
    repeat' split at ha
    all_goals first
     | (cases ha; exact hl)
     | (simp [] at ha; omega)
     | cases ha
  . simp only [aI] at ha
    repeat' split at ha
    all_goals first
     | (cases ha; done)
     | (cases ha; exact hl)
     | (simp [Hp.alloc,Hp.set] at ha; omega)
theorem Gl {T:FuncId->Option QF}{val:FuncId->Bool}{keep:List Nat}{body:QC}{base:List Blk}{z:Nat}(n:Nat)(G:Nat->List (List D))(env:Nat->V->EA)(X:V->Ex×EA)
 (hr:∀ i,i<n->∀ bs lo v,Acc base z (G i) bs v->∃ bs' lo' v',Acc base z (G (i+1)) bs' v'/\(base.length<=lo->base.length<=lo')/\∀ W:EA->Hp->dx,bH keep W (Cd E T val body (bq keep (env i v)) ⟨bs,lo⟩)=W (env (i+1) v') ⟨bs',lo'⟩)
 (he:∀ bs lo v,Acc base z (G n) bs v->∀ W:EA->Hp->dx,bH keep W (Cd E T val body (bq keep (env n v)) ⟨bs,lo⟩)=some ((X v).1,(X v).2,⟨bs,lo⟩)) (bs:List Blk) (lo:Nat) (v:V) (h0:Acc base z (G 0) bs v) :
 ∃ bs' lo' v',Cd E T val (.loop keep body) (env 0 v) ⟨bs,lo⟩=some ((X v').1,(X v').2,⟨bs',lo'⟩)/\Acc base z (G n) bs' v'/\(base.length<=lo->base.length<=lo'):=by
 have:∀ (m i:Nat) (bs:List Blk) (lo:Nat) (v:V),i+m=n->Acc base z (G i) bs v->∃ bs' lo' v',Cd E T val (.loop keep body) (env i v) ⟨bs,lo⟩=some ((X v').1,(X v').2,⟨bs',lo'⟩)/\Acc base z (G n) bs' v'/\(base.length<=lo->base.length<=lo'):=by
  intro m;have key:=aB (E:=E) (T:=T) (val:=val) keep body;generalize Cd E T val (.loop keep body)=W at key ⊢
  induction m with
  | zero =>
   intro i bs lo v hi hP;rw [show i=n by omega] at hP ⊢;exact ⟨bs,lo,v,by rw [key,he bs lo v hP W],hP,id⟩
  | succ m ih =>
   intro i bs lo v hi hP;obtain ⟨bs',lo',v',h1,hl,h2⟩:=hr i (by omega) bs lo v hP;obtain ⟨bs2,lo2,v2,h3,h4,h5⟩:=ih (i+1) bs' lo' v' (by omega) h1;exact ⟨bs2,lo2,v2,by rw [key,h2 W,h3],h4,λh=>h5 (hl h)⟩
 exact this n 0 bs lo v (by omega) h0
theorem Acc.retL {bs bs':List Blk}{z lo lo':Nat}{acc:List (List D)}{v:V}(h:Acc bs z acc bs' v)(hl:bs.length<=lo'):∃ bs2 lo2,fC ⟨bs,lo⟩ (some (v,⟨bs',lo'⟩))=some (v,⟨bs2,lo2⟩)/\Acc bs z acc bs2 v/\(∀ k,k<=lo->k<=bs.length->k<=lo2):=by
 rw [eu];by_cases hc:bs.length<=lo'/\v.under bs.length=true
 . rw [if_pos hc];refine ⟨bs,lo,rfl,?_,λk h _=>h⟩;obtain ⟨rfl,rfl⟩ | ⟨h1,b,h2,rfl,h4⟩:=h.is
   . exact Acc.nil bs z
   . have:=hc.2;simp [V.under] at this;omega
 . rw [if_neg hc];exact ⟨_,_,rfl,h,λk h h'=>by show k<=min lo lo'; omega⟩
theorem ae5 (Ct:T 111=some BZ)(Cw:val 111=false)(h231:∀ r:Rule,r.fits big->∀ h,Sm E T val 112 [ag r.c] h=some (ag r.own.c,h))(s:Sl Rule)(hs:short s)(hf:∀ r∈s.l,r.fits big)(bs:List Blk)(lo:Nat) :
 ∃ bs' lo' v,Sm E T val 111 [.d (s.d Rule.c),.fn 112 []] ⟨bs,lo⟩=some (v,⟨bs',lo'⟩)/\Acc bs 3 (s.l.map λr=>r.own.c) bs' v/\(∀ k,k<=lo->k<=bs.length->k<=lo'):=by
 have hlen:=hs.lt;have key:=Gl (E:=E) (T:=T) (val:=val) (base:=bs) (z:=3) (keep:=[1,5,8,9,10]) (body:=vB) s.l.length (λi=>(s.l.take i).map λr=>r.own.c) (λi v=>[(1,.fn 112 []),(5,v),(8,.d (s.d Rule.c)),(9,.d (i64 s.l.length)),(10,.d (i64 i))]) (λv=>(.exit 0,[(5,v)])) (λi hi b1 lo v hA=>?_) (λb1 lo v hA W=>?_) bs bs.length _ (by simpa using Acc.nil bs 3)
 . obtain ⟨b2,lo2,v,k1,k2,kl⟩:=key;rw [List.take_length] at k2;obtain ⟨b3,lo3,k3,k4,k5⟩:=k2.retL (lo:=lo) (lo':=lo2) (kl (bo _));refine ⟨b3,lo3,v,?_,k4,k5⟩;have hnu:=k2.nu;rw [aM Ct Cw];simp at k1;simp [ae,BZ];rw [ai];simp [k1];simp [hnu,dB,-eu];exact k3
 . have hx:=ab hi;have hmem:=bd hi;have htk:s.l.take (i+1)=s.l.take i++[s.l[i]]:=by rw [List.take_add_one,hx]; rfl
   generalize s.l[i]=r at *;have hsx:=λh=>aA (z:=3) h hx (cells:=Rule.c) rfl;have hw:=ax hi hlen;have h0:((i:Int)<s.l.length):=by omega
   have hnu:=hA.nu;have hcall:=λh=>h231 r (hf r hmem) h;obtain ⟨v',b2,lo2,ha,hA'⟩:=(hA.lay [.cells (r.c.map .d),.cells (r.own.c.map .d)]).app (by decide) (by_:=72) (by decide) (e:=r.own.c) rfl (by simp; have:=hs.1; omega) (min lo b1.length) (r:=b1.length+1) (cap:=some 1) (by
    have:=gK (bs:=b1) (ys:=[.cells (r.c.map .d),.cells (r.own.c.map .d)]) (i:=1);rw [this]; rfl)
   refine ⟨b2,lo2,v',by rw [htk,List.map_append]; exact hA',λhlo=>(hA.lay _).low ha (by have:=hA.len; omega),λW=>?_⟩;simp [vB,h0,hsx,hnu,hcall,az,ha,hw,hA'.nu]
 . simp [vB]
def pq (p:Pol)(v:V):List V:=[.d (u64 p.id),.d (.str p.ns),.d (u64 p.service),.d (i64 p.deny),v]
theorem ae3 (Ea:T 63=some yf)(Ei:val 63=false)(Ct:T 111=some BZ)(Cw:val 111=false)(h231:∀ r:Rule,r.fits big->∀ h,Sm E T val 112 [ag r.c] h=some (ag r.own.c,h))(p:Pol)(hp:p.fits big)(bs:List Blk)(lo:Nat) :
 ∃ bs' lo' v,Sm E T val 63 [ag p.c] ⟨bs,lo⟩=some (.agg (pq p v),⟨bs',lo'⟩)/\Acc bs 3 (p.rules.l.map λr=>r.own.c) bs' v/\(∀ k,k<=lo->k<=bs.length->k<=lo'):=by
 obtain ⟨b1,lo1,v,a,A,al⟩:=ae5 Ct Cw h231 p.rules hp.1 hp.2 (bs++[.cells (p.c.map .d),.cells (plL 0 ⟨#[]⟩ 0 0 nV)]) bs.length;have A':=A.weak;have hl:=A.len;simp at hl;have g0:aa b1 bs.length=some (p.c.map .d):=A.get (by simp);have g1:aa b1 (bs.length+1)=some (plL 0 ⟨#[]⟩ 0 0 nV):=A.get (by simp);have hcl:=A.cl;have hp4:put (p.c.map V.d) 4 [v]=some (pq p v):=rfl;have g0s:aa (b1.set bs.length (.cells (pq p v))) bs.length=some (pq p v):=aG g0;have g1s:aa (b1.set bs.length (.cells (pq p v))) (bs.length+1)=some _:=(fV (by omega)).trans g1;have g1t:aa ((b1.set bs.length (.cells (pq p v))).set (bs.length+1) (.cells (pq p v))) (bs.length+1)=some (pq p v):=aG g1s;have hs5:sub (pq p v) 0 5=some (pq p v):=rfl;have hpl:(pq p v).length=5:=rfl;have hpz:∀ z:List V,z.length=5->put z 0 (pq p v)=some (pq p v):=λz hz=>by simp [put,hz,hpl]
 have A2:Acc bs 3 (p.rules.l.map λr=>r.own.c) ((b1.set bs.length (.cells (pq p v))).set (bs.length+1) (.cells (pq p v))) v:=by
  refine ⟨by simp; omega,λx hx=>by rw [ac (by omega),ac (by omega)]; exact A'.old x hx,?_,A.wid⟩;obtain h1 | ⟨h1,b,h2,h3,h4⟩:=A.is
  . exact .inl h1
  . simp at h2;exact .inr ⟨h1,b,by omega,h3,by rw [fV (by omega),fV (by omega)]; exact h4⟩
 have hB:∃ l,bs.length<=l/\Bd E T val yf [ag p.c] ⟨bs,bs.length⟩=some (.agg (pq p v),⟨(b1.set bs.length (.cells (pq p v))).set (bs.length+1) (.cells (pq p v)),l⟩):=by
  refine ⟨min (min lo1 bs.length) (bs.length+1),?_,?_⟩
  . have:=al bs.length (bo _) (by simp);omega
  simp [ae,yf,a,g0,hcl,hp4,g0s,g1s,g1t,hs5,hpl,hpz]
 obtain ⟨l,hll,hB⟩:=hB;by_cases hc:bs.length<=l/\(V.agg (pq p v)).under bs.length=true
 . refine ⟨bs,lo,v,?_,?_,λk h _=>h⟩
   . rw [aM Ea Ei];show fC ⟨bs,lo⟩ (Bd E T val yf [ag p.c] ⟨bs,bs.length⟩)=_;rw [hB,eu,if_pos hc]
   . obtain ⟨h1,h2⟩ | ⟨h1,b,h2,h3,h4⟩:=A2.is
     . rw [h1,h2]; exact Acc.nil bs 3
     . have:=hc.2;rw [h3] at this;simp [V.under,V.under.go,pq] at this;omega
 . refine ⟨_,min lo l,v,?_,A2,λk h h'=>by omega⟩;rw [aM Ea Ei];show fC ⟨bs,lo⟩ (Bd E T val yf [ag p.c] ⟨bs,bs.length⟩)=_;rw [hB,eu,if_neg hc]
end
section
variable {E:Calls'}{T:FuncId->Option QF}{val:FuncId->Bool}
theorem lZ {f:FuncId}{args:List V}{v:V}{bs bs2:List Blk}{lo2:Nat}(hc:Sm E T val f args ⟨bs,bs.length⟩=some (v,⟨bs2,lo2⟩))(hl:bs.length<=lo2)(hlen:bs.length<=bs2.length)(hold:∀ x,x<bs.length->bs2[x]?=bs[x]?)(lo:Nat)(xs:List X)(ev:X->V)(ha:xs.all (λx=>okV (ev x))=true)(hx:xs.map ev=args)(hf:ev (.c (.fn f []))=.fn f []) :
 cB (Sm E T val) (.call (.c (.fn f [])) xs) ev ⟨bs,lo⟩=some (v,⟨bs2,lo⟩,⟨true,false,[],[],bs.length,bs2.length,0⟩):=by
 rw [aC,if_pos ha,hf,hx,jM,List.append_nil,hc];simp only [if_pos hl];by_cases h:bs2.length=bs.length
 . have:bs2=bs:=by
    refine List.ext_getElem? λx=>?_;by_cases hx:x<bs.length
    . exact hold x hx
    . rw [aE (by omega),aE (by omega)]
   subst this;simp
 . rw [if_neg h]
theorem uS {α:Type}{cells:α->List D}{z b:Nat}{zero:List V}{id:FuncId}(ht:T id=some (cloneQ z b zero))(hv:val id=false)(hz0:0<z)(hb:b<=4096)(hz:∀ x,(cells x).length=z){s:Sl α}(hs:short s)(bs:List Blk) :
 ∃ v bs2,Sm E T val id [.d (s.d cells)] ⟨bs,bs.length⟩=some (v,⟨bs2,bs.length⟩)/\bs.length<=bs2.length/\(∀ x,x<bs.length->bs2[x]?=bs[x]?)/\Row1 bs.length bs2.length bs2 z (s.l.map cells) v:=by
 have hw:∀ e∈s.l.map cells,e.length=z:=λe he=>by obtain ⟨y,_,rfl⟩:=cd.1 he; exact hz y
 have key:=qW (E:=E) (T:=T) (val:=val) ht hv hz0 hb (nl:=s.nl) hw (by simpa using hs.1) ⟨bs,bs.length⟩;have hd:s.d cells=.slice s.nl (s.l.map cells):=rfl;rw [hd,key];cases hnl:s.nl with
 | true =>
  have hl:=hs.2 hnl;refine ⟨nV,bs,by simp [gH],bo _,λ_ _=>rfl,hw,.inl ⟨by rw [hl]; rfl,rfl⟩⟩
 | false =>
  cases hc:s.l.map cells with
  | nil=>exact ⟨.row bs.length 0 0 (some 0) z,bs++[.cells []],by simp [gH],by simp,λx hx=>am hx,by simp,.inr ⟨bs.length,some 0,bo _,by simp,rfl,by simp,.inr ⟨rfl,rfl⟩⟩⟩
  | cons e es =>
   refine ⟨.row (bs.length+1) 0 (es.length+1) none z,bs++[.cells [],.cells (flat (e::es))],by simp [gH],by simp,λx hx=>am hx,by rw [← hc]; exact hw,.inr ⟨bs.length+1,none,by omega,by simp,rfl,?_,.inl ⟨rfl,by simp⟩⟩⟩;have:=gK (bs:=bs) (ys:=[.cells [],.cells (flat (e::es))]) (i:=1);rw [this]; rfl
theorem Row1.mono {L M M' z:Nat}{bs:List Blk}{es:List (List D)}{v:V}(h:Row1 L M bs z es v)(hm:M<=M'):Row1 L M' bs z es v:=by
 refine ⟨h.1,?_⟩;obtain h | ⟨b,cap,h1,h2,h3⟩:=h.2
 . exact .inl h
 . exact .inr ⟨b,cap,h1,by omega,h3⟩
def RulV (L M:Nat)(bs:List Blk)(p:Pol)(cs:List V):Prop:=∃ rv,cs=pq p rv/\Row1 L M bs 3 (p.rules.l.map λr=>r.own.c) rv/\(p.rules.l=[]->rv=.d (.slice true []))
theorem RulV.on {L M M':Nat}{bs bs':List Blk}{p:Pol}{cs:List V}(h:RulV L M bs p cs)(hm:M<=M')(ho:∀ x,L<=x->x<M->bs'[x]?=bs[x]?):RulV L M' bs' p cs:=by
 obtain ⟨rv,h1,h2,h3⟩:=h;exact ⟨rv,h1,(h2.on ho).mono hm,h3⟩
theorem yF {css:List (List V)}(h:∀ cs∈css,cs.length=5):css.flatten.length=css.length * 5:=by
 induction css with
 | nil=>rfl
 | cons c css ih=>simp [h c (by simp),ih λx hx=>h x (by simp [hx])]; omega
theorem Oh {a b:List (List V)}{c:List V}(ha:∀ cs∈a,cs.length=5)(hc:c.length=5):sub (a++c::b).flatten (a.length * 5) 5=some c:=by
 have hl:=yF ha;rw [List.flatten_append,List.flatten_cons,show a.length * 5=a.flatten.length+0 by omega,yU,Cs (by omega)];exact bB hc
theorem Mx {a b:List (List V)}{c d:List V}(ha:∀ cs∈a,cs.length=5)(hc:c.length=5)(hd:d.length=5):put (a++c::b).flatten (a.length * 5) d=some (a++d::b).flatten:=by
 have hl:=yF ha;rw [List.flatten_append,List.flatten_cons,List.flatten_append,List.flatten_cons];simp only [put];rw [if_pos (by rw [ao,ao]; omega)]
 congr 1
 rw [← hl,List.take_left' rfl,show a.flatten.length+d.length=a.flatten.length+c.length by omega,← bb,List.drop_left' rfl,List.drop_left' rfl,List.append_assoc]
theorem Ij (Ea:T 63=some yf)(Ei:val 63=false)(Ct:T 111=some BZ)(Cw:val 111=false)(h231:∀ r:Rule,r.fits big->∀ h,Sm E T val 112 [ag r.c] h=some (ag r.own.c,h))
 (l:List Pol) (hl:l.length<2 ^ 62) (hf:∀ p∈l,p.fits big) {n b Lq:Nat} {cap:Option Nat} {vs:List V} (hs7:sub vs 7 1=some [.row b 0 l.length cap 5]) (hn:n<Lq) (hb:b<Lq) (hnb:n≠b) (B0:List Blk) (lo:Nat) (hLq:Lq<=B0.length) (hg:aa B0 n=some vs) (hgb:aa B0 b=some (l.map λp=>p.c.map V.d).flatten) :
 ∃ bs' lo',Cd E T val (.loop [1,2,22,23,24] qL) [(1,.ptr n 0),(2,.ptr (n+1) 0),(22,.row b 0 l.length cap 5),(23,.d (i64 l.length)),(24,.d (i64 ((0:Nat):Int)))] ⟨B0,lo⟩=some (.exit 0,[(1,.ptr n 0),(2,.ptr (n+1) 0)],⟨bs',lo'⟩) ∧
  (∀ x,x<Lq->x≠b->bs'[x]?=B0[x]?)/\Lq<=bs'.length/\∃ css:List (List V),css.length=l.length/\aa bs' b=some css.flatten/\∀ (j:Nat) (p:Pol),l[j]?=some p->∃ cs,css[j]?=some cs/\RulV Lq bs'.length bs' p cs:=by
 obtain ⟨bs',lo',h1,h2,h3,css,h4,h5,h6⟩:=mg (E:=E) (T:=T) (val:=val) (keep:=[1,2,22,23,24]) (body:=qL) l.length (λi=>[(1,.ptr n 0),(2,.ptr (n+1) 0),(22,.row b 0 l.length cap 5),(23,.d (i64 l.length)),(24,.d (i64 i))])
  (λi bs'=>(∀ x,x<Lq->x≠b->bs'[x]?=B0[x]?)/\Lq<=bs'.length/\∃ css:List (List V),css.length=i/\aa bs' b=some (css++(l.drop i).map λp=>p.c.map V.d).flatten/\∀ (j:Nat) (p:Pol),j<i->l[j]?=some p->∃ cs,css[j]?=some cs/\RulV Lq bs'.length bs' p cs) (.exit 0,[(1,.ptr n 0),(2,.ptr (n+1) 0)])
  (by
    intro i hi b1 lo1 ⟨q1,q2,css,q3,q4,q5⟩;have hx:=ab hi;have hmem:=bd hi;have hdr:l.drop i=l[i]::l.drop (i+1):=aq hi;rw [hdr] at q4;generalize l[i]=p at *;have hc5:∀ cs∈css,cs.length=5:=λcs hcs=>by
     obtain ⟨j,hj,rfl⟩:=List.getElem_of_mem hcs;have hjl:j<l.length:=by omega
     obtain ⟨cs',e1,rv,e2,_⟩:=q5 j _ (by omega) (ab hjl);rw [ab hj] at e1;cases e1;rw [e2]; rfl
    have hp5:(p.c.map V.d).length=5:=rfl;rw [cr] at q4;have hsub:=Oh (b:=(l.drop (i+1)).map λp=>p.c.map V.d) hc5 hp5;rw [q3] at hsub;have hw:=ax hi hl;have h0:((i:Int)<l.length):=by omega
    have hgn:aa b1 n=some vs:=eB (q1 n hn hnb) hg;have hix:∀ hp,eY none 5 (.row b 0 l.length cap 5) (.d (.int .i64 i)) hp=some (.ptr b (i * 5),hp):=λhp=>by
     simp only [eY];rw [if_pos ⟨by omega,by omega,trivial⟩];simp
    obtain ⟨b2,lo2,rv,a,A,al⟩:=ae3 Ea Ei Ct Cw h231 p (hf p hmem) (b1++[.cells (p.c.map .d)]) (b1++[Blk.cells (p.c.map .d)]).length;have hlo2:=al _ (bo _) (bo _);have hA1:=A.len;have hcall:=lZ a hlo2 hA1 A.old;have hput:=Mx (b:=(l.drop (i+1)).map λp=>p.c.map V.d) (d:=pq p rv) hc5 hp5 rfl;rw [q3] at hput;have q4b:aa b2 b=some _:=A.get (ay (ys:=[.cells (p.c.map .d)]) q4);simp at hA1;refine ⟨b2.set b (.cells (css++pq p rv::(l.drop (i+1)).map λp=>p.c.map V.d).flatten),min (min lo1 b1.length) b,⟨λx h1 h2=>?_,by simp; omega,css++[pq p rv],by simp [q3],?_,λj p' hj hp'=>?_⟩,λW=>?_⟩
    . rw [ac (Ne.symm h2),A.old x (by simp; omega),am (by omega),q1 x h1 h2]
    . rw [aG q4b]; simp
    . have hold:∀ x,Lq<=x->x<b1.length->(b2.set b (.cells (css++pq p rv::(l.drop (i+1)).map λp=>p.c.map V.d).flatten))[x]?=b1[x]?:=λx h1 h2=>by
       rw [ac (by omega),A.old x (by simp; omega),am h2]
      by_cases hji:j<i
      . obtain ⟨cs,e1,e2⟩:=q5 j p' hji hp';refine ⟨cs,by rw [am (by omega)]; exact e1,e2.on (by simp; omega) hold⟩
      . have:j=i:=by omega
        subst this;rw [hx] at hp';cases hp';refine ⟨pq p rv,by rw [bj (by omega)]; simp [q3],rv,rfl,?_,λh0=>?_⟩
        . have hr:=A.row1;simp at hr;refine (⟨hr.1,?_⟩:Row1 Lq _ _ _ _ _);obtain hr2 | ⟨b',cap',f1,f2,f3,f4,f5⟩:=hr.2
          . exact .inl hr2
          . exact .inr ⟨b',cap',by omega,by simp; omega,f3,by rw [fV (by omega)]; exact f4,f5⟩
        . obtain ⟨_,h⟩ | ⟨h,_⟩:=A.is
          . exact h
          . exact absurd (by simp [h0]) h
    . generalize (css++(p.c.map V.d)::(l.drop (i+1)).map λp=>p.c.map V.d).flatten=F0 at *;generalize (css++pq p rv::(l.drop (i+1)).map λp=>p.c.map V.d).flatten=F1 at *;have hpl:(pq p rv).length=5:=rfl;simp at hcall;simp [qL,h0,hix,q4,hsub,ay hgn,hs7,aL,hcall,q4b,hput,hpl];rw [if_pos]
      . simp [hw]
      . simp [bI,List.range,List.range.loop,Tr.spares];omega)
  (by
    intro b1 lo1 ⟨q1,q2,css,q3,q4,q5⟩ W;simp [qL])
  B0 lo ⟨λ_ _ _=>rfl,hLq,[],rfl,by simpa using hgb,λj p hj=>by omega⟩
 refine ⟨bs',lo',h1,h2,h3,css,h4,by simpa using h5,λj p hp=>h6 j p (bx.1 hp).1 hp⟩
end
section
variable {E:Calls'}{T:FuncId->Option QF}{val:FuncId->Bool}
def Ik (L M Lq Mq:Nat)(bs:List Blk)(l:List Pol)(v:V):Prop:=(l=[]/\v=.d (.slice true []))\/∃ b cap css,L<=b/\b<M/\v=.row b 0 l.length cap 5/\aa bs b=some (List.flatten css)/\css.length=l.length/\(cap=none/\l≠[]\/cap=some 0/\l=[])/\∀ (j:Nat) (p:Pol),l[j]?=some p->∃ cs,css[j]?=some cs/\RulV Lq Mq bs p cs
theorem FY (l:List Pol):flat (l.map Pol.c)=(l.map λp=>p.c.map V.d).flatten:=by
 simp [flat,List.map_flatten,cn]
theorem P90 (t90:T 15=some q90)(v90:val 15=false)(YA:T 59=some (cloneQ 7 72 OZ))(YQ:val 59=false)(YD:T 60=some (cloneQ 5 48 Yy))(YT:val 60=false)(YE:T 61=some (cloneQ 2 16 Y0))(YU:val 61=false)(YF:T 62=some (cloneQ 5 64 WI))(YV:val 62=false)
 (Ea:T 63=some yf) (Ei:val 63=false) (Ct:T 111=some BZ) (Cw:val 111=false) (h231:∀ r:Rule,r.fits big->∀ h,Sm E T val 112 [ag r.c] h=some (ag r.own.c,h)) (c:Cfg) (hc:c.ok) (bs:List Blk) (lo:Nat) :
 ∃ bs' lo' v4 v5 v6 v7 L1 L2 L3 Lq,Sm E T val 15 [c.v] ⟨bs,lo⟩=some (.agg (cq c v4 v5 v6 v7),⟨bs',lo'⟩)/\(∀ x,x<bs.length->bs'[x]?=bs[x]?)/\bs.length<=bs'.length/\bs.length<=L1/\L1<=L2/\L2<=L3/\L3<=Lq/\Lq<=bs'.length ∧
  Row1 bs.length L1 bs' 7 (c.pods.l.map Pod.c) v4/\Row1 L1 L2 bs' 5 (c.services.l.map Svc.c) v5/\Row1 L2 L3 bs' 2 (c.bound.l.map Way.c) v6/\Ik L3 Lq Lq bs'.length bs' c.policies.l v7:=by
 obtain ⟨v4,b4,a4,l4,k4,r4⟩:=uS (E:=E) (cells:=Pod.c) (z:=7) (b:=72) (zero:=OZ) YA YQ (by decide) (by decide) (λ_=>rfl) hc.1 (bs++[.cells (c.c.map .d),.cells (cfL 0 0 0 0 nV nV nV nV)]);obtain ⟨v5,b5,a5,l5,k5,r5⟩:=uS (E:=E) (cells:=Svc.c) (z:=5) (b:=48) (zero:=Yy) YD YT (by decide) (by decide) (λ_=>rfl) hc.2.1 b4;obtain ⟨v6,b6,a6,l6,k6,r6⟩:=uS (E:=E) (cells:=Way.c) (z:=2) (b:=16) (zero:=Y0) YE YU (by decide) (by decide) (λ_=>rfl) hc.2.2.1 b5;obtain ⟨v7,b7,a7,l7,k7,r7⟩:=uS (E:=E) (cells:=Pol.c) (z:=5) (b:=64) (zero:=WI) YF YV (by decide) (by decide) (λ_=>rfl) hc.2.2.2.1 b6;have o4:=lZ a4 (bo _) l4 k4;have o5:=lZ a5 (bo _) l5 k5;have o6:=lZ a6 (bo _) l6 k6;have o7:=lZ a7 (bo _) l7 k7;simp only [ao,cj,ck] at l4 k4 r4;have g4:aa b4 bs.length=some (c.c.map .d):=eB (k4 _ (by omega)) (by simp);have g5:aa b5 bs.length=some (c.c.map .d):=eB (k5 _ (by omega)) g4;have g6:aa b6 bs.length=some (c.c.map .d):=eB (k6 _ (by omega)) g5;have g7:aa b7 bs.length=some (c.c.map .d):=eB (k7 _ (by omega)) g6;have z4:aa b4 (bs.length+1)=some (cfL 0 0 0 0 nV nV nV nV):=eB (k4 _ (by omega)) (by simp);have z7:=eB (k7 _ (by omega)) (eB (k6 _ (by omega)) (eB (k5 _ (by omega)) z4))
 have hcq:c.c.map V.d=cq c (.d (c.pods.d Pod.c)) (.d (c.services.d Svc.c)) (.d (c.bound.d Way.c)) (.d (c.policies.d Pol.c)):=rfl;have gs:∀ B,aa (b7.set bs.length (.cells B)) bs.length=some B:=λB=>aG g7;have t4:=r4.cl; have t5:=r5.cl; have t6:=r6.cl; have t7:=r7.cl;have vl7:=r7.len;simp only [cc] at vl7;obtain ⟨b8,lo8,hL,e1,e2,hP⟩:∃ b8 lo8,Cd E T val (.loop [1,2,22,23,24] qL) [(1,.ptr bs.length 0),(2,.ptr (bs.length+1) 0),(22,v7),(23,.d (i64 c.policies.l.length)),(24,.d (i64 0))] ⟨b7.set bs.length (.cells (cq c v4 v5 v6 v7)),bs.length⟩=some (.exit 0,[(1,.ptr bs.length 0),(2,.ptr (bs.length+1) 0)],⟨b8,lo8⟩) ∧
  (∀ x,x<b6.length->b8[x]?=(b7.set bs.length (.cells (cq c v4 v5 v6 v7)))[x]?)/\b7.length<=b8.length/\Ik b6.length b7.length b7.length b8.length b8 c.policies.l v7:=by
  obtain ⟨h1,rfl⟩ | ⟨b,cap,h1,h2,rfl,h3,h4⟩:=r7.2
  . have hl0:c.policies.l=[]:=by simpa using h1
    refine ⟨_,bs.length,?_,λ_ _=>rfl,by simp,.inl ⟨hl0,rfl⟩⟩;rw [aB];simp [qL,hl0]
  . have hgb:aa (b7.set bs.length (.cells (cq c v4 v5 v6 (.row b 0 (c.policies.l.map Pol.c).length cap 5)))) b=some (c.policies.l.map λp=>p.c.map V.d).flatten:=by
     rw [fV (by omega),h3,FY]
    simp only [cc] at hgb ⊢;obtain ⟨b8,lo8,d1,d2,d3,css,d4,d5,d6⟩:=Ij (E:=E) Ea Ei Ct Cw h231 c.policies.l hc.2.2.2.1.lt hc.2.2.2.2 (n:=bs.length) (b:=b) (Lq:=b7.length) (cap:=cap) (vs:=cq c v4 v5 v6 (.row b 0 c.policies.l.length cap 5)) rfl (by omega) h2 (by omega) _ bs.length (by simp) (aG g7) hgb;refine ⟨b8,lo8,by simpa using d1,λx hx=>d2 x (by omega) (by omega),d3,.inr ⟨b,cap,css,h1,h2,rfl,d5,d4,by simpa using h4,d6⟩⟩
 have g8:aa b8 bs.length=some (cq c v4 v5 v6 v7):=eB (e1 _ (by omega)) (gs _);have z8':aa b8 (bs.length+1)=some (cfL 0 0 0 0 nV nV nV nV):=eB (e1 _ (by omega)) ((fV (by omega)).trans z7);have z8s:aa (b8.set (bs.length+1) (.cells (cq c v4 v5 v6 v7))) (bs.length+1)=some (cq c v4 v5 v6 v7):=aG z8';have hh:∀ x,x<b6.length->x≠bs.length->x≠bs.length+1->(b8.set (bs.length+1) (.cells (cq c v4 v5 v6 v7)))[x]?=b6[x]?:=λx h1 h2 h3=>by
  rw [ac (Ne.symm h3),e1 x h1,ac (Ne.symm h2),k7 x h1]
 have g7q:=g7;rw [hcq] at g7q;have hB:Bd E T val q90 [c.v] ⟨bs,bs.length⟩=some (.agg (cq c v4 v5 v6 v7),⟨b8.set (bs.length+1) (.cells (cq c v4 v5 v6 v7)),min lo8 (bs.length+1)⟩):=by
  simp at o4;simp [ae,q90,o4,o5,o6,o7,g4,g5,g6,g7q,gs,t4,t5,t6,t7,cq4,cq5,cq6,cq7,aL];rw [if_pos]
  . simp [gs,cs7,vl7];rw [ai];simp [hL];simp [g8,z8',z8s,cs8,cql]
  . simp [bI,List.range,List.range.loop,Tr.spares];omega
 have hwin:∀ x,bs.length+2<=x->x<b6.length->(b8.set (bs.length+1) (.cells (cq c v4 v5 v6 v7)))[x]?=b6[x]?:=λx h1 h2=>hh x h2 (by omega) (by omega);have m4:Row1 (bs.length+2) b4.length (b8.set (bs.length+1) (.cells (cq c v4 v5 v6 v7))) 7 (c.pods.l.map Pod.c) v4:=r4.on λx h1 h2=>by rw [hwin x h1 (by omega),k6 x (by omega),k5 x h2]
 have m5:=r5.on (bs':=b8.set (bs.length+1) (.cells (cq c v4 v5 v6 v7))) λx h1 h2=>by rw [hwin x (by omega) (by omega),k6 x h2]
 have m6:=r6.on (bs':=b8.set (bs.length+1) (.cells (cq c v4 v5 v6 v7))) λx h1 h2=>by rw [hwin x (by omega) h2]
 have m7:Ik b6.length b7.length b7.length b8.length (b8.set (bs.length+1) (.cells (cq c v4 v5 v6 v7))) c.policies.l v7:=by
  obtain h | ⟨b,cap,css,h1,h2,h3,h4,h5,h6,h7⟩:=hP
  . exact .inl h
  . refine .inr ⟨b,cap,css,h1,h2,h3,(fV (by omega)).trans h4,h5,h6,λj p hj=>?_⟩;obtain ⟨cs,q1,q2⟩:=h7 j p hj;exact ⟨cs,q1,q2.on (bo _) λx h1 h2=>ac (by omega)⟩
 have m4':Row1 bs.length b4.length (b8.set (bs.length+1) (.cells (cq c v4 v5 v6 v7))) 7 (c.pods.l.map Pod.c) v4:=by
  refine ⟨m4.1,?_⟩;obtain h | ⟨b,cap,h1,h2⟩:=m4.2
  . exact .inl h
  . exact .inr ⟨b,cap,by omega,h2⟩
 have hl8:(b8.set (bs.length+1) (.cells (cq c v4 v5 v6 v7))).length=b8.length:=by simp
 have hold:∀ x,x<bs.length->(b8.set (bs.length+1) (.cells (cq c v4 v5 v6 v7)))[x]?=bs[x]?:=λx hx=>by
  rw [hh x (by omega) (by omega) (by omega),k6 x (by omega),k5 x (by omega),k4 x (by omega),am hx]
 by_cases hcnd:bs.length<=min lo8 (bs.length+1)/\(V.agg (cq c v4 v5 v6 v7)).under bs.length=true
 . have hu:=hcnd.2;simp [V.under,V.under.go,cq] at hu;have row_nil:∀ {L M z:Nat} {es:List (List D)} {v:V} {b:List Blk},bs.length<=L->Row1 L M b z es v->v.under bs.length=true->es=[]/\v=nV:=λhL hr hv=>by
    obtain h | ⟨b,cap,h1,h2,rfl,_⟩:=hr.2
    . exact h
    . simp [V.under] at hv; omega
   obtain ⟨n4,w4⟩:=row_nil (bo _) m4' hu.1;obtain ⟨n5,w5⟩:=row_nil (by omega) m5 hu.2.1;obtain ⟨n6,w6⟩:=row_nil (by omega) m6 hu.2.2.1;have n7:c.policies.l=[]/\v7=nV:=by
    obtain h | ⟨b,cap,css,h1,h2,h3,_⟩:=hP
    . exact h
    . have:=hu.2.2.2;rw [h3] at this;simp [V.under] at this;omega
   refine ⟨bs,lo,v4,v5,v6,v7,bs.length,bs.length,bs.length,bs.length,?_,λ_ _=>rfl,bo _,bo _,bo _,bo _,bo _,bo _,⟨m4.1,.inl ⟨n4,w4⟩⟩,⟨m5.1,.inl ⟨n5,w5⟩⟩,⟨m6.1,.inl ⟨n6,w6⟩⟩,.inl n7⟩;rw [aM t90 v90];show fC ⟨bs,lo⟩ (Bd E T val q90 [c.v] ⟨bs,bs.length⟩)=_;rw [hB,eu,if_pos hcnd]
 . refine ⟨_,min lo (min lo8 (bs.length+1)),v4,v5,v6,v7,b4.length,b5.length,b6.length,b7.length,?_,hold,by omega,by omega,l5,l6,l7,by omega,m4',m5,m6,by rw [hl8]; exact m7⟩;rw [aM t90 v90];show fC ⟨bs,lo⟩ (Bd E T val q90 [c.v] ⟨bs,bs.length⟩)=_;rw [hB,eu,if_neg hcnd]
end
namespace Vr
def RowIs (bs:List Blk)(v:V)(z:Nat)(es:List (List V)):Prop :=
 (∀ e∈es,e.length=z)/\((∃ nl,v=.d (.slice nl [])/\es=[])\/∃ b o cap cs,v=.row b o es.length cap z/\aa bs b=some cs/\sub cs o (es.length * z)=some es.flatten)
def flat (es:List (List V)):List V:=es.flatten
theorem flat_cons (e:List V)(es:List (List V)):flat (e::es)=e++flat es:=by simp [flat]
@[simp] theorem Bg:flat []=[]:=rfl
theorem flat_len {z:Nat}{es:List (List V)}(hz:∀ e∈es,e.length=z):(flat es).length=es.length * z:=by
 simp only [flat,nT hz]
end Vr
namespace Vr
end Vr
namespace Vr
end Vr
namespace Vr
end Vr
section
variable {E:Calls'}{T:FuncId->Option QF}{val:FuncId->Bool}
end
section
variable {E:Calls'}{T:FuncId->Option QF}{val:FuncId->Bool}
end
set_option maxHeartbeats 4000000
section
variable {E:Calls'}{T:FuncId->Option QF}{val:FuncId->Bool}
end
set_option maxHeartbeats 4000000
section
variable {E:Calls'}{T:FuncId->Option QF}{val:FuncId->Bool}
end
set_option maxHeartbeats 4000000
section
variable {E:Calls'}{T:FuncId->Option QF}{val:FuncId->Bool}
end
