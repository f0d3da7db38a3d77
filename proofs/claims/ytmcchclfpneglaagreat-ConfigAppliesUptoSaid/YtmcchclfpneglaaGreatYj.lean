/- policy.Own, by reference: the rules' row lies in memory. -/
import Derived.Test.YtmcchclfpneglaaGreatXy
set_option maxRecDepth 100000
set_option linter.unusedVariables false
set_option linter.unusedSimpArgs false
namespace Go.Proofs.YtmcchclfpneglaaGreat
open IntKind (wrap)
section
variable {E:Calls'}{T:FuncId->Option QF}{val:FuncId->Bool}
theorem Acc.low {base:List Blk}{z:Nat}{acc:List (List D)}{bs bs':List Blk}{v v' x:V}{by_ lo lo':Nat}(h:Acc base z acc bs v)(ha:dZ ⟨bs,lo⟩ z by_ v x=some (v',⟨bs',lo'⟩))(hl:base.length<=lo):base.length<=lo':=by
 unfold dZ at ha;split at ha
 case h_2=>cases ha
 case h_1 m xs _ =>
  rcases h.is with ⟨_,rfl⟩ | ⟨h1,b,h2,rfl,h4⟩
  · simp only [aF] at ha
    repeat' split at ha
    all_goals first
     | (cases ha; exact hl)
     | (simp [Hp.alloc] at ha; omega)
     | cases ha
  · simp only [aF] at ha
    repeat' split at ha
    all_goals first
     | (cases ha; done)
     | (cases ha; exact hl)
     | (simp [Hp.alloc,Hp.set] at ha; omega)
theorem FP {T:FuncId->Option QF}{val:FuncId->Bool}{keep:List Nat}{body:QC}{base:List Blk}{z:Nat}(n:Nat)(G:Nat->List (List D))(env:Nat->V->EA)(X:V->Ex×EA)
 (hr:∀ i,i<n->∀ bs lo v,Acc base z (G i) bs v->∃ bs' lo' v',Acc base z (G (i+1)) bs' v'/\(base.length<=lo->base.length<=lo')/\∀ W:EA->Hp->fZ,eD keep W (Cd E T val body (bU keep (env i v)) ⟨bs,lo⟩)=W (env (i+1) v') ⟨bs',lo'⟩)
 (he:∀ bs lo v,Acc base z (G n) bs v->∀ W:EA->Hp->fZ,eD keep W (Cd E T val body (bU keep (env n v)) ⟨bs,lo⟩)=some ((X v).1,(X v).2,⟨bs,lo⟩)) (bs:List Blk) (lo:Nat) (v:V) (h0:Acc base z (G 0) bs v) :
 ∃ bs' lo' v',Cd E T val (.loop keep body) (env 0 v) ⟨bs,lo⟩=some ((X v').1,(X v').2,⟨bs',lo'⟩)/\Acc base z (G n) bs' v'/\(base.length<=lo->base.length<=lo'):=by
 have:∀ (m i:Nat) (bs:List Blk) (lo:Nat) (v:V),i+m=n->Acc base z (G i) bs v->∃ bs' lo' v',Cd E T val (.loop keep body) (env i v) ⟨bs,lo⟩=some ((X v').1,(X v').2,⟨bs',lo'⟩)/\Acc base z (G n) bs' v'/\(base.length<=lo->base.length<=lo'):=by
  intro m;have key:=aC (E:=E) (T:=T) (val:=val) keep body;generalize Cd E T val (.loop keep body)=W at key ⊢
  induction m with
  | zero =>
   intro i bs lo v hi hP;rw [show i=n by omega] at hP ⊢;exact ⟨bs,lo,v,by rw [key,he bs lo v hP W],hP,id⟩
  | succ m ih =>
   intro i bs lo v hi hP;obtain ⟨bs',lo',v',h1,hl,h2⟩:=hr i (by omega) bs lo v hP;obtain ⟨bs2,lo2,v2,h3,h4,h5⟩:=ih (i+1) bs' lo' v' (by omega) h1;exact ⟨bs2,lo2,v2,by rw [key,h2 W,h3],h4,fun h=>h5 (hl h)⟩
 exact this n 0 bs lo v (by omega) h0
theorem Acc.retL {bs bs':List Blk}{z lo lo':Nat}{acc:List (List D)}{v:V}(h:Acc bs z acc bs' v)(hl:bs.length<=lo'):∃ bs2 lo2,dU ⟨bs,lo⟩ (some (v,⟨bs',lo'⟩))=some (v,⟨bs2,lo2⟩)/\Acc bs z acc bs2 v/\(∀ k,k<=lo->k<=bs.length->k<=lo2):=by
 rw [bY];by_cases hc:bs.length<=lo'/\v.under bs.length=true
 · rw [if_pos hc];refine ⟨bs,lo,rfl,?_,fun k h _=>h⟩;rcases h.is with ⟨rfl,rfl⟩ | ⟨h1,b,h2,rfl,h4⟩
   · exact Acc.nil bs z
   · have:=hc.2;simp [V.under] at this;omega
 · rw [if_neg hc];exact ⟨_,_,rfl,h,fun k h h'=>by show k<=min lo lo'; omega⟩
theorem XY (Cj:T 95=some BL)(Cn:val 95=false)(h231:∀ r:Rule,r.fits big->∀ h,Sm E T val 96 [ag r.c] h=some (ag r.own.c,h))(s:Sl Rule)(hs:short s)(hf:∀ r∈s.l,r.fits big)(bs:List Blk)(lo:Nat) :
 ∃ bs' lo' v,Sm E T val 95 [.d (s.d Rule.c),.fn 96 []] ⟨bs,lo⟩=some (v,⟨bs',lo'⟩)/\Acc bs 3 (s.l.map fun r=>r.own.c) bs' v/\(∀ k,k<=lo->k<=bs.length->k<=lo'):=by
 have hlen:=hs.lt;have key:=FP (E:=E) (T:=T) (val:=val) (base:=bs) (z:=3) (keep:=[1,5,8,9,10]) (body:=uZ) s.l.length (fun i=>(s.l.take i).map fun r=>r.own.c) (fun i v=>[(1,.fn 96 []),(5,v),(8,.d (s.d Rule.c)),(9,.d (i64 s.l.length)),(10,.d (i64 i))]) (fun v=>(.exit 0,[(5,v)])) (fun i hi b1 lo v hA=>?_) (fun b1 lo v hA W=>?_) bs bs.length _ (by simpa using Acc.nil bs 3)
 · obtain ⟨b2,lo2,v,k1,k2,kl⟩:=key;rw [List.take_length] at k2;obtain ⟨b3,lo3,k3,k4,k5⟩:=k2.retL (lo:=lo) (lo':=lo2) (kl (bp _));refine ⟨b3,lo3,v,?_,k4,k5⟩;have hnu:=k2.nu;rw [aN Cj Cn];simp at k1;simp [ae,BL];rw [au];simp [k1];simp [hnu,bG,-bY];exact k3
 · have hx:=ac hi;have hmem:=bh hi;have htk:s.l.take (i+1)=s.l.take i++[s.l[i]]:=by rw [List.take_add_one,hx]; rfl
   generalize s.l[i]=r at *;have hsx:=fun h=>ay (z:=3) h hx (cells:=Rule.c) rfl;have hw:=ak hi hlen;have h0:((i:Int)<s.l.length):=by omega
   have hnu:=hA.nu;have hcall:=fun h=>h231 r (hf r hmem) h;obtain ⟨v',b2,lo2,ha,hA'⟩:=(hA.lay [.cells (r.c.map .d),.cells (r.own.c.map .d)]).app (by decide) (by_:=72) (by decide) (e:=r.own.c) rfl (by simp; have:=hs.1; omega) (min lo b1.length) (r:=b1.length+1) (cap:=some 1) (by
    have:=gD (bs:=b1) (ys:=[.cells (r.c.map .d),.cells (r.own.c.map .d)]) (i:=1);rw [this]; rfl)
   refine ⟨b2,lo2,v',by rw [htk,List.map_append]; exact hA',fun hlo=>(hA.lay _).low ha (by have:=hA.len; omega),fun W=>?_⟩;simp [uZ,h0,hsx,hnu,hcall,aH,ha,hw,hA'.nu]
 · simp [uZ]
def pq (p:Pol)(v:V):List V:=[.d (u64 p.id),.d (.str p.ns),.d (u64 p.service),.d (i64 p.deny),v]
theorem Sa (DW:T 47=some xJ)(D8:val 47=false)(Cj:T 95=some BL)(Cn:val 95=false)(h231:∀ r:Rule,r.fits big->∀ h,Sm E T val 96 [ag r.c] h=some (ag r.own.c,h))(p:Pol)(hp:p.fits big)(bs:List Blk)(lo:Nat) :
 ∃ bs' lo' v,Sm E T val 47 [ag p.c] ⟨bs,lo⟩=some (.agg (pq p v),⟨bs',lo'⟩)/\Acc bs 3 (p.rules.l.map fun r=>r.own.c) bs' v/\(∀ k,k<=lo->k<=bs.length->k<=lo'):=by
 obtain ⟨b1,lo1,v,a,A,al⟩:=XY Cj Cn h231 p.rules hp.1 hp.2 (bs++[.cells (p.c.map .d),.cells [.d (.int .u64 0),.d (.str ⟨#[]⟩),.d (.int .u64 0),.d (i64 0),.d (.slice true [])]]) bs.length;have A':=A.weak;have hl:=A.len;simp at hl;have g0:af b1 bs.length=some (p.c.map .d):=A.get (by simp);have g1:af b1 (bs.length+1)=some [.d (.int .u64 0),.d (.str ⟨#[]⟩),.d (.int .u64 0),.d (i64 0),.d (.slice true [])]:=A.get (by simp);have hnu:=A.nu;have hcl:=A.cl;have hp4:put (p.c.map V.d) 4 [v]=some (pq p v):=rfl;have g0s:af (b1.set bs.length (.cells (pq p v))) bs.length=some (pq p v):=aK g0;have g1s:af (b1.set bs.length (.cells (pq p v))) (bs.length+1)=some _:=(aS (by omega)).trans g1;have g1t:af ((b1.set bs.length (.cells (pq p v))).set (bs.length+1) (.cells (pq p v))) (bs.length+1)=some (pq p v):=aK g1s;have hs5:sub (pq p v) 0 5=some (pq p v):=rfl;have hpl:(pq p v).length=5:=rfl;have hpz:∀ z:List V,z.length=5->put z 0 (pq p v)=some (pq p v):=fun z hz=>by simp [put,hz,hpl]
 have A2:Acc bs 3 (p.rules.l.map fun r=>r.own.c) ((b1.set bs.length (.cells (pq p v))).set (bs.length+1) (.cells (pq p v))) v:=by
  refine ⟨by simp; omega,fun x hx=>by rw [am (by omega),am (by omega)]; exact A'.old x hx,?_,A.wid⟩;rcases A.is with h1 | ⟨h1,b,h2,h3,h4⟩
  · exact .inl h1
  · simp at h2;exact .inr ⟨h1,b,by omega,h3,by rw [aS (by omega),aS (by omega)]; exact h4⟩
 have hB:∃ l,bs.length<=l/\Bd E T val xJ [ag p.c] ⟨bs,bs.length⟩=some (.agg (pq p v),⟨(b1.set bs.length (.cells (pq p v))).set (bs.length+1) (.cells (pq p v)),l⟩):=by
  refine ⟨min (min lo1 bs.length) (bs.length+1),?_,?_⟩
  · have:=al bs.length (bp _) (by simp);omega
  simp [ae,xJ,a,g0,g1,hnu,hcl,hp4,g0s,g1s,g1t,hs5,hpl,hpz]
 obtain ⟨l,hll,hB⟩:=hB;by_cases hc:bs.length<=l/\(V.agg (pq p v)).under bs.length=true
 · refine ⟨bs,lo,v,?_,?_,fun k h _=>h⟩
   · rw [aN DW D8];show dU ⟨bs,lo⟩ (Bd E T val xJ [ag p.c] ⟨bs,bs.length⟩)=_;rw [hB,bY,if_pos hc]
   · rcases A2.is with ⟨h1,h2⟩ | ⟨h1,b,h2,h3,h4⟩
     · rw [h1,h2]; exact Acc.nil bs 3
     · have:=hc.2;rw [h3] at this;simp [V.under,V.under.go,pq] at this;omega
 · refine ⟨_,min lo l,v,?_,A2,fun k h h'=>by omega⟩;rw [aN DW D8];show dU ⟨bs,lo⟩ (Bd E T val xJ [ag p.c] ⟨bs,bs.length⟩)=_;rw [hB,bY,if_neg hc]
end
section
variable {E:Calls'}{T:FuncId->Option QF}{val:FuncId->Bool}
theorem lG {f:FuncId}{args:List V}{v:V}{bs bs2:List Blk}{lo2:Nat}(hc:Sm E T val f args ⟨bs,bs.length⟩=some (v,⟨bs2,lo2⟩))(hl:bs.length<=lo2)(hlen:bs.length<=bs2.length)(hold:∀ x,x<bs.length->bs2[x]?=bs[x]?)(lo:Nat)(xs:List X)(ev:X->V)(ha:xs.all (fun x=>okV (ev x))=true)(hx:xs.map ev=args)(hf:ev (.c (.fn f []))=.fn f []) :
 dh (Sm E T val) (.call (.c (.fn f [])) xs) ev ⟨bs,lo⟩=some (v,⟨bs2,lo⟩,⟨true,false,[],[],bs.length,bs2.length,0⟩):=by
 rw [aa,if_pos ha,hf,hx,lD,List.append_nil,hc];simp only [if_pos hl];by_cases h:bs2.length=bs.length
 · have:bs2=bs:=by
    refine List.ext_getElem? fun x=>?_;by_cases hx:x<bs.length
    · exact hold x hx
    · rw [bb (by omega),bb (by omega)]
   subst this;simp
 · rw [if_neg h]
theorem uJ {α:Type}{cells:α->List D}{z b:Nat}{zero:List V}{id:FuncId}(ht:T id=some (cloneQ z b zero))(hv:val id=false)(hz0:0<z)(hb:b<=4096)(hz:∀ x,(cells x).length=z){s:Sl α}(hs:short s)(bs:List Blk) :
 ∃ v bs2,Sm E T val id [.d (s.d cells)] ⟨bs,bs.length⟩=some (v,⟨bs2,bs.length⟩)/\bs.length<=bs2.length/\(∀ x,x<bs.length->bs2[x]?=bs[x]?)/\Row1 bs.length bs2.length bs2 z (s.l.map cells) v:=by
 have hw:∀ e∈s.l.map cells,e.length=z:=fun e he=>by obtain ⟨y,_,rfl⟩:=b9.1 he; exact hz y
 have key:=qF (E:=E) (T:=T) (val:=val) ht hv hz0 hb (nl:=s.nl) hw (by simpa using hs.1) ⟨bs,bs.length⟩;have hd:s.d cells=.slice s.nl (s.l.map cells):=rfl;rw [hd,key];cases hnl:s.nl with
 | true =>
  have hl:=hs.2 hnl;refine ⟨.d (.slice true []),bs,by simp [dx],bp _,fun _ _=>rfl,hw,.inl ⟨by rw [hl]; rfl,rfl⟩⟩
 | false =>
  cases hc:s.l.map cells with
  | nil=>exact ⟨.row bs.length 0 0 (some 0) z,bs++[.cells []],by simp [dx],by simp,fun x hx=>ao hx,by simp,.inr ⟨bs.length,some 0,bp _,by simp,rfl,by simp,.inr ⟨rfl,rfl⟩⟩⟩
  | cons e es =>
   refine ⟨.row (bs.length+1) 0 (es.length+1) none z,bs++[.cells [],.cells (flat (e::es))],by simp [dx],by simp,fun x hx=>ao hx,by rw [← hc]; exact hw,.inr ⟨bs.length+1,none,by omega,by simp,rfl,?_,.inl ⟨rfl,by simp⟩⟩⟩;have:=gD (bs:=bs) (ys:=[.cells [],.cells (flat (e::es))]) (i:=1);rw [this]; rfl
theorem Row1.mono {L M M' z:Nat}{bs:List Blk}{es:List (List D)}{v:V}(h:Row1 L M bs z es v)(hm:M<=M'):Row1 L M' bs z es v:=by
 refine ⟨h.1,?_⟩;rcases h.2 with h | ⟨b,cap,h1,h2,h3⟩
 · exact .inl h
 · exact .inr ⟨b,cap,h1,by omega,h3⟩
def RulV (L M:Nat)(bs:List Blk)(p:Pol)(cs:List V):Prop:=∃ rv,cs=pq p rv/\Row1 L M bs 3 (p.rules.l.map fun r=>r.own.c) rv/\(p.rules.l=[]->rv=.d (.slice true []))
theorem RulV.on {L M M':Nat}{bs bs':List Blk}{p:Pol}{cs:List V}(h:RulV L M bs p cs)(hm:M<=M')(ho:∀ x,L<=x->x<M->bs'[x]?=bs[x]?):RulV L M' bs' p cs:=by
 obtain ⟨rv,h1,h2,h3⟩:=h;exact ⟨rv,h1,(h2.on ho).mono hm,h3⟩
theorem xW {css:List (List V)}(h:∀ cs∈css,cs.length=5):css.flatten.length=css.length * 5:=by
 induction css with
 | nil=>rfl
 | cons c css ih=>simp [h c (by simp),ih fun x hx=>h x (by simp [hx])]; omega
theorem MJ {a b:List (List V)}{c:List V}(ha:∀ cs∈a,cs.length=5)(hc:c.length=5):sub (a++c::b).flatten (a.length * 5) 5=some c:=by
 have hl:=xW ha;rw [List.flatten_append,List.flatten_cons,show a.length * 5=a.flatten.length+0 by omega,ug,su (by omega)];exact bH hc
theorem La {a b:List (List V)}{c d:List V}(ha:∀ cs∈a,cs.length=5)(hc:c.length=5)(hd:d.length=5):put (a++c::b).flatten (a.length * 5) d=some (a++d::b).flatten:=by
 have hl:=xW ha;rw [List.flatten_append,List.flatten_cons,List.flatten_append,List.flatten_cons];simp only [put];rw [if_pos (by rw [ap,ap]; omega)]
 congr 1
 rw [← hl,List.take_left' rfl,show a.flatten.length+d.length=a.flatten.length+c.length by omega,← be,List.drop_left' rfl,List.drop_left' rfl,List.append_assoc]
theorem GZ (DW:T 47=some xJ)(D8:val 47=false)(Cj:T 95=some BL)(Cn:val 95=false)(h231:∀ r:Rule,r.fits big->∀ h,Sm E T val 96 [ag r.c] h=some (ag r.own.c,h))
 (l:List Pol) (hl:l.length<2 ^ 62) (hf:∀ p∈l,p.fits big) {n b Lq:Nat} {cap:Option Nat} {vs:List V} (hs7:sub vs 7 1=some [.row b 0 l.length cap 5]) (hn:n<Lq) (hb:b<Lq) (hnb:n≠b) (B0:List Blk) (lo:Nat) (hLq:Lq<=B0.length) (hg:af B0 n=some vs) (hgb:af B0 b=some (l.map fun p=>p.c.map V.d).flatten) :
 ∃ bs' lo',Cd E T val (.loop [1,2,22,23,24] qx) [(1,.ptr n 0),(2,.ptr (n+1) 0),(22,.row b 0 l.length cap 5),(23,.d (i64 l.length)),(24,.d (i64 ((0:Nat):Int)))] ⟨B0,lo⟩=some (.exit 0,[(1,.ptr n 0),(2,.ptr (n+1) 0)],⟨bs',lo'⟩) ∧
  (∀ x,x<Lq->x≠b->bs'[x]?=B0[x]?)/\Lq<=bs'.length/\∃ css:List (List V),css.length=l.length/\af bs' b=some css.flatten/\∀ (j:Nat) (p:Pol),l[j]?=some p->∃ cs,css[j]?=some cs/\RulV Lq bs'.length bs' p cs:=by
 obtain ⟨bs',lo',h1,h2,h3,css,h4,h5,h6⟩:=lI (E:=E) (T:=T) (val:=val) (keep:=[1,2,22,23,24]) (body:=qx) l.length (fun i=>[(1,.ptr n 0),(2,.ptr (n+1) 0),(22,.row b 0 l.length cap 5),(23,.d (i64 l.length)),(24,.d (i64 i))])
  (fun i bs'=>(∀ x,x<Lq->x≠b->bs'[x]?=B0[x]?)/\Lq<=bs'.length/\∃ css:List (List V),css.length=i/\af bs' b=some (css++(l.drop i).map fun p=>p.c.map V.d).flatten/\∀ (j:Nat) (p:Pol),j<i->l[j]?=some p->∃ cs,css[j]?=some cs/\RulV Lq bs'.length bs' p cs) (.exit 0,[(1,.ptr n 0),(2,.ptr (n+1) 0)])
  (by
    intro i hi b1 lo1 ⟨q1,q2,css,q3,q4,q5⟩;have hx:=ac hi;have hmem:=bh hi;have hdr:l.drop i=l[i]::l.drop (i+1):=aw hi;rw [hdr] at q4;generalize l[i]=p at *;have hc5:∀ cs∈css,cs.length=5:=fun cs hcs=>by
     obtain ⟨j,hj,rfl⟩:=List.getElem_of_mem hcs;have hjl:j<l.length:=by omega
     obtain ⟨cs',e1,rv,e2,_⟩:=q5 j _ (by omega) (ac hjl);rw [ac hj] at e1;cases e1;rw [e2]; rfl
    have hp5:(p.c.map V.d).length=5:=rfl;rw [cm] at q4;have hsub:=MJ (b:=(l.drop (i+1)).map fun p=>p.c.map V.d) hc5 hp5;rw [q3] at hsub;have hw:=ak hi hl;have h0:((i:Int)<l.length):=by omega
    have hgn:af b1 n=some vs:=aX (q1 n hn hnb) hg;have hix:∀ hp,eP none 5 (.row b 0 l.length cap 5) (.d (.int .i64 i)) hp=some (.ptr b (i * 5),hp):=fun hp=>by
     simp only [eP];rw [if_pos ⟨by omega,by omega,trivial⟩];simp
    obtain ⟨b2,lo2,rv,a,A,al⟩:=Sa DW D8 Cj Cn h231 p (hf p hmem) (b1++[.cells (p.c.map .d)]) (b1++[Blk.cells (p.c.map .d)]).length;have hlo2:=al _ (bp _) (bp _);have hA1:=A.len;have hcall:=lG a hlo2 hA1 A.old;have hput:=La (b:=(l.drop (i+1)).map fun p=>p.c.map V.d) (d:=pq p rv) hc5 hp5 rfl;rw [q3] at hput;have q4b:af b2 b=some _:=A.get (ax (ys:=[.cells (p.c.map .d)]) q4);simp at hA1;refine ⟨b2.set b (.cells (css++pq p rv::(l.drop (i+1)).map fun p=>p.c.map V.d).flatten),min (min lo1 b1.length) b,⟨fun x h1 h2=>?_,by simp; omega,css++[pq p rv],by simp [q3],?_,fun j p' hj hp'=>?_⟩,fun W=>?_⟩
    · rw [am (Ne.symm h2),A.old x (by simp; omega),ao (by omega),q1 x h1 h2]
    · rw [aK q4b]; simp
    · have hold:∀ x,Lq<=x->x<b1.length->(b2.set b (.cells (css++pq p rv::(l.drop (i+1)).map fun p=>p.c.map V.d).flatten))[x]?=b1[x]?:=fun x h1 h2=>by
       rw [am (by omega),A.old x (by simp; omega),ao h2]
      by_cases hji:j<i
      · obtain ⟨cs,e1,e2⟩:=q5 j p' hji hp';refine ⟨cs,by rw [ao (by omega)]; exact e1,e2.on (by simp; omega) hold⟩
      · have:j=i:=by omega
        subst this;rw [hx] at hp';cases hp';refine ⟨pq p rv,by rw [bk (by omega)]; simp [q3],rv,rfl,?_,fun h0=>?_⟩
        · have hr:=A.row1;simp at hr;refine (⟨hr.1,?_⟩:Row1 Lq _ _ _ _ _);rcases hr.2 with hr2 | ⟨b',cap',f1,f2,f3,f4,f5⟩
          · exact .inl hr2
          · exact .inr ⟨b',cap',by omega,by simp; omega,f3,by rw [aS (by omega)]; exact f4,f5⟩
        · rcases A.is with ⟨_,h⟩ | ⟨h,_⟩
          · exact h
          · exact absurd (by simp [h0]) h
    · generalize (css++(p.c.map V.d)::(l.drop (i+1)).map fun p=>p.c.map V.d).flatten=F0 at *;generalize (css++pq p rv::(l.drop (i+1)).map fun p=>p.c.map V.d).flatten=F1 at *;have hpl:(pq p rv).length=5:=rfl;simp at hcall;simp [qx,h0,hix,q4,hsub,hgn,ax hgn,hs7,ai,av,hcall,q4b,hput,hpl,hw];rw [if_pos]
      · simp [hw]
      · simp [aT,List.range,List.range.loop,Tr.spares];omega)
  (by
    intro b1 lo1 ⟨q1,q2,css,q3,q4,q5⟩ W;simp [qx])
  B0 lo ⟨fun _ _ _=>rfl,hLq,[],rfl,by simpa using hgb,fun j p hj=>by omega⟩
 refine ⟨bs',lo',h1,h2,h3,css,h4,by simpa using h5,fun j p hp=>h6 j p (bw.1 hp).1 hp⟩
end
section
variable {E:Calls'}{T:FuncId->Option QF}{val:FuncId->Bool}
def G5 (L M Lq Mq:Nat)(bs:List Blk)(l:List Pol)(v:V):Prop:=(l=[]/\v=.d (.slice true []))\/∃ b cap css,L<=b/\b<M/\v=.row b 0 l.length cap 5/\af bs b=some (List.flatten css)/\css.length=l.length/\(cap=none/\l≠[]\/cap=some 0/\l=[])/\∀ (j:Nat) (p:Pol),l[j]?=some p->∃ cs,css[j]?=some cs/\RulV Lq Mq bs p cs
theorem FB (l:List Pol):flat (l.map Pol.c)=(l.map fun p=>p.c.map V.d).flatten:=by
 simp [flat,List.map_flatten,cj]
theorem P90 (t90:T 21=some q90)(v90:val 21=false)(Vl:T 42=some (cloneQ 7 72 EI))(Vz:val 42=false)(Vo:T 44=some (cloneQ 5 48 ML))(VC:val 44=false)(Vp:T 45=some (cloneQ 2 16 M0))(VD:val 45=false)(Vq:T 46=some (cloneQ 5 64 K6))(VE:val 46=false)
 (DW:T 47=some xJ) (D8:val 47=false) (Cj:T 95=some BL) (Cn:val 95=false) (h231:∀ r:Rule,r.fits big->∀ h,Sm E T val 96 [ag r.c] h=some (ag r.own.c,h)) (c:Cfg) (hc:c.ok) (bs:List Blk) (lo:Nat) :
 ∃ bs' lo' v4 v5 v6 v7 L1 L2 L3 Lq,Sm E T val 21 [c.v] ⟨bs,lo⟩=some (.agg (cq c v4 v5 v6 v7),⟨bs',lo'⟩)/\(∀ x,x<bs.length->bs'[x]?=bs[x]?)/\bs.length<=bs'.length/\bs.length<=L1/\L1<=L2/\L2<=L3/\L3<=Lq/\Lq<=bs'.length ∧
  Row1 bs.length L1 bs' 7 (c.pods.l.map Pod.c) v4/\Row1 L1 L2 bs' 5 (c.services.l.map Svc.c) v5/\Row1 L2 L3 bs' 2 (c.bound.l.map Way.c) v6/\G5 L3 Lq Lq bs'.length bs' c.policies.l v7:=by
 obtain ⟨v4,b4,a4,l4,k4,r4⟩:=uJ (E:=E) (cells:=Pod.c) (z:=7) (b:=72) (zero:=EI) Vl Vz (by decide) (by decide) (fun _=>rfl) hc.1 (bs++[.cells (c.c.map .d),.cells [.d (.int .u64 0),.d (.int .u64 0),.d (i64 0),.d (i64 0),.d (.slice true []),.d (.slice true []),.d (.slice true []),.d (.slice true [])]]);obtain ⟨v5,b5,a5,l5,k5,r5⟩:=uJ (E:=E) (cells:=Svc.c) (z:=5) (b:=48) (zero:=ML) Vo VC (by decide) (by decide) (fun _=>rfl) hc.2.1 b4;obtain ⟨v6,b6,a6,l6,k6,r6⟩:=uJ (E:=E) (cells:=Way.c) (z:=2) (b:=16) (zero:=M0) Vp VD (by decide) (by decide) (fun _=>rfl) hc.2.2.1 b5;obtain ⟨v7,b7,a7,l7,k7,r7⟩:=uJ (E:=E) (cells:=Pol.c) (z:=5) (b:=64) (zero:=K6) Vq VE (by decide) (by decide) (fun _=>rfl) hc.2.2.2.1 b6;have o4:=lG a4 (bp _) l4 k4;have o5:=lG a5 (bp _) l5 k5;have o6:=lG a6 (bp _) l6 k6;have o7:=lG a7 (bp _) l7 k7;simp only [ap,cf,cg] at l4 k4 r4;have g4:af b4 bs.length=some (c.c.map .d):=aX (k4 _ (by omega)) (by simp);have g5:af b5 bs.length=some (c.c.map .d):=aX (k5 _ (by omega)) g4;have g6:af b6 bs.length=some (c.c.map .d):=aX (k6 _ (by omega)) g5;have g7:af b7 bs.length=some (c.c.map .d):=aX (k7 _ (by omega)) g6
 have z4:af b4 (bs.length+1)=some [.d (.int .u64 0),.d (.int .u64 0),.d (i64 0),.d (i64 0),.d (.slice true []),.d (.slice true []),.d (.slice true []),.d (.slice true [])]:=aX (k4 _ (by omega)) (by simp);have z7:=aX (k7 _ (by omega)) (aX (k6 _ (by omega)) (aX (k5 _ (by omega)) z4));have hcq:c.c.map V.d=cq c (.d (c.pods.d Pod.c)) (.d (c.services.d Svc.c)) (.d (c.bound.d Way.c)) (.d (c.policies.d Pol.c)):=rfl;have gs:∀ B,af (b7.set bs.length (.cells B)) bs.length=some B:=fun B=>aK g7;have u4:=r4.nu; have u5:=r5.nu; have u6:=r6.nu; have u7:=r7.nu;have ok4:=r4.ok; have ok5:=r5.ok; have ok6:=r6.ok; have ok7:=r7.ok;have t4:=r4.cl; have t5:=r5.cl; have t6:=r6.cl; have t7:=r7.cl;have vl7:=r7.len;simp only [bx] at vl7;obtain ⟨b8,lo8,hL,e1,e2,hP⟩:∃ b8 lo8,Cd E T val (.loop [1,2,22,23,24] qx) [(1,.ptr bs.length 0),(2,.ptr (bs.length+1) 0),(22,v7),(23,.d (i64 c.policies.l.length)),(24,.d (i64 0))] ⟨b7.set bs.length (.cells (cq c v4 v5 v6 v7)),bs.length⟩=some (.exit 0,[(1,.ptr bs.length 0),(2,.ptr (bs.length+1) 0)],⟨b8,lo8⟩) ∧
  (∀ x,x<b6.length->b8[x]?=(b7.set bs.length (.cells (cq c v4 v5 v6 v7)))[x]?)/\b7.length<=b8.length/\G5 b6.length b7.length b7.length b8.length b8 c.policies.l v7:=by
  rcases r7.2 with ⟨h1,rfl⟩ | ⟨b,cap,h1,h2,rfl,h3,h4⟩
  · have hl0:c.policies.l=[]:=by simpa using h1
    refine ⟨_,bs.length,?_,fun _ _=>rfl,by simp,.inl ⟨hl0,rfl⟩⟩;rw [aC];simp [qx,hl0]
  · have hgb:af (b7.set bs.length (.cells (cq c v4 v5 v6 (.row b 0 (c.policies.l.map Pol.c).length cap 5)))) b=some (c.policies.l.map fun p=>p.c.map V.d).flatten:=by
     rw [aS (by omega),h3,FB]
    simp only [bx] at hgb ⊢;obtain ⟨b8,lo8,d1,d2,d3,css,d4,d5,d6⟩:=GZ (E:=E) DW D8 Cj Cn h231 c.policies.l hc.2.2.2.1.lt hc.2.2.2.2 (n:=bs.length) (b:=b) (Lq:=b7.length) (cap:=cap) (vs:=cq c v4 v5 v6 (.row b 0 c.policies.l.length cap 5)) rfl (by omega) h2 (by omega) _ bs.length (by simp) (aK g7) hgb;refine ⟨b8,lo8,by simpa using d1,fun x hx=>d2 x (by omega) (by omega),d3,.inr ⟨b,cap,css,h1,h2,rfl,d5,d4,by simpa using h4,d6⟩⟩
 have g8:af b8 bs.length=some (cq c v4 v5 v6 v7):=aX (e1 _ (by omega)) (gs _);have z8':af b8 (bs.length+1)=some [.d (.int .u64 0),.d (.int .u64 0),.d (i64 0),.d (i64 0),.d (.slice true []),.d (.slice true []),.d (.slice true []),.d (.slice true [])]:=aX (e1 _ (by omega)) ((aS (by omega)).trans z7);have z8s:af (b8.set (bs.length+1) (.cells (cq c v4 v5 v6 v7))) (bs.length+1)=some (cq c v4 v5 v6 v7):=aK z8';have hh:∀ x,x<b6.length->x≠bs.length->x≠bs.length+1->(b8.set (bs.length+1) (.cells (cq c v4 v5 v6 v7)))[x]?=b6[x]?:=fun x h1 h2 h3=>by
  rw [am (Ne.symm h3),e1 x h1,am (Ne.symm h2),k7 x h1]
 have g7q:=g7;rw [hcq] at g7q;have hB:Bd E T val q90 [c.v] ⟨bs,bs.length⟩=some (.agg (cq c v4 v5 v6 v7),⟨b8.set (bs.length+1) (.cells (cq c v4 v5 v6 v7)),min lo8 (bs.length+1)⟩):=by
  simp at o4;simp [ae,q90,o4,o5,o6,o7,g4,g5,g6,g7q,gs,u4,u5,u6,u7,ok4,ok5,ok6,ok7,t4,t5,t6,t7,cq4,cq5,cq6,cq7,cql,ai,av];rw [if_pos]
  · simp [gs,cs7,vl7,u7];rw [au];simp [hL];simp [g8,z8',z8s,cs8,cql,cqz]
  · simp [aT,List.range,List.range.loop,Tr.spares];omega
 have hwin:∀ x,bs.length+2<=x->x<b6.length->(b8.set (bs.length+1) (.cells (cq c v4 v5 v6 v7)))[x]?=b6[x]?:=fun x h1 h2=>hh x h2 (by omega) (by omega);have m4:Row1 (bs.length+2) b4.length (b8.set (bs.length+1) (.cells (cq c v4 v5 v6 v7))) 7 (c.pods.l.map Pod.c) v4:=r4.on fun x h1 h2=>by rw [hwin x h1 (by omega),k6 x (by omega),k5 x h2]
 have m5:=r5.on (bs':=b8.set (bs.length+1) (.cells (cq c v4 v5 v6 v7))) fun x h1 h2=>by rw [hwin x (by omega) (by omega),k6 x h2]
 have m6:=r6.on (bs':=b8.set (bs.length+1) (.cells (cq c v4 v5 v6 v7))) fun x h1 h2=>by rw [hwin x (by omega) h2]
 have m7:G5 b6.length b7.length b7.length b8.length (b8.set (bs.length+1) (.cells (cq c v4 v5 v6 v7))) c.policies.l v7:=by
  rcases hP with h | ⟨b,cap,css,h1,h2,h3,h4,h5,h6,h7⟩
  · exact .inl h
  · refine .inr ⟨b,cap,css,h1,h2,h3,(aS (by omega)).trans h4,h5,h6,fun j p hj=>?_⟩;obtain ⟨cs,q1,q2⟩:=h7 j p hj;exact ⟨cs,q1,q2.on (bp _) fun x h1 h2=>am (by omega)⟩
 have m4':Row1 bs.length b4.length (b8.set (bs.length+1) (.cells (cq c v4 v5 v6 v7))) 7 (c.pods.l.map Pod.c) v4:=by
  refine ⟨m4.1,?_⟩;rcases m4.2 with h | ⟨b,cap,h1,h2⟩
  · exact .inl h
  · exact .inr ⟨b,cap,by omega,h2⟩
 have hl8:(b8.set (bs.length+1) (.cells (cq c v4 v5 v6 v7))).length=b8.length:=by simp
 have hold:∀ x,x<bs.length->(b8.set (bs.length+1) (.cells (cq c v4 v5 v6 v7)))[x]?=bs[x]?:=fun x hx=>by
  rw [hh x (by omega) (by omega) (by omega),k6 x (by omega),k5 x (by omega),k4 x (by omega),ao hx]
 by_cases hcnd:bs.length<=min lo8 (bs.length+1)/\(V.agg (cq c v4 v5 v6 v7)).under bs.length=true
 · have hu:=hcnd.2;simp [V.under,V.under.go,cq] at hu;have row_nil:∀ {L M z:Nat} {es:List (List D)} {v:V} {b:List Blk},bs.length<=L->Row1 L M b z es v->v.under bs.length=true->es=[]/\v=.d (.slice true []):=fun hL hr hv=>by
    rcases hr.2 with h | ⟨b,cap,h1,h2,rfl,_⟩
    · exact h
    · simp [V.under] at hv; omega
   obtain ⟨n4,w4⟩:=row_nil (bp _) m4' hu.1;obtain ⟨n5,w5⟩:=row_nil (by omega) m5 hu.2.1;obtain ⟨n6,w6⟩:=row_nil (by omega) m6 hu.2.2.1;have n7:c.policies.l=[]/\v7=.d (.slice true []):=by
    rcases hP with h | ⟨b,cap,css,h1,h2,h3,_⟩
    · exact h
    · have:=hu.2.2.2;rw [h3] at this;simp [V.under] at this;omega
   refine ⟨bs,lo,v4,v5,v6,v7,bs.length,bs.length,bs.length,bs.length,?_,fun _ _=>rfl,bp _,bp _,bp _,bp _,bp _,bp _,⟨m4.1,.inl ⟨n4,w4⟩⟩,⟨m5.1,.inl ⟨n5,w5⟩⟩,⟨m6.1,.inl ⟨n6,w6⟩⟩,.inl n7⟩;rw [aN t90 v90];show dU ⟨bs,lo⟩ (Bd E T val q90 [c.v] ⟨bs,bs.length⟩)=_;rw [hB,bY,if_pos hcnd]
 · refine ⟨_,min lo (min lo8 (bs.length+1)),v4,v5,v6,v7,b4.length,b5.length,b6.length,b7.length,?_,hold,by omega,by omega,l5,l6,l7,by omega,m4',m5,m6,by rw [hl8]; exact m7⟩;rw [aN t90 v90];show dU ⟨bs,lo⟩ (Bd E T val q90 [c.v] ⟨bs,bs.length⟩)=_;rw [hB,bY,if_neg hcnd]
end
namespace Vr
def RowIs (bs:List Blk)(v:V)(z:Nat)(es:List (List V)):Prop :=
 (∀ e∈es,e.length=z)/\((∃ nl,v=.d (.slice nl [])/\es=[])\/∃ b o cap cs,v=.row b o es.length cap z/\af bs b=some cs/\sub cs o (es.length * z)=some es.flatten)
def flat (es:List (List V)):List V:=es.flatten
theorem flat_cons (e:List V)(es:List (List V)):flat (e::es)=e++flat es:=by simp [flat]
theorem jE (a b:List (List V)):flat (a++b)=flat a++flat b:=by simp only [flat,List.flatten_append]
@[simp] theorem qL:flat []=[]:=rfl
theorem flat_len {z:Nat}{es:List (List V)}(hz:∀ e∈es,e.length=z):(flat es).length=es.length * z:=by
 simp only [flat,nz hz]
theorem RowIs.len {bs:List Blk}{v:V}{z:Nat}{es:List (List V)}(h:RowIs bs v z es)(hp:Hp):nG false v hp=some (.d (.int .i64 es.length),hp):=by
 rcases h.2 with ⟨nl,rfl,he0⟩ | ⟨b,o,cap,cs,rfl,_⟩<;>simp [*]
theorem RowIs.ok {bs:List Blk}{v:V}{z:Nat}{es:List (List V)}(h:RowIs bs v z es):nu v=some v:=by
 rcases h.2 with ⟨nl,rfl,he0⟩ | ⟨b,o,cap,cs,rfl,_⟩<;>simp
theorem RowIs.elem {bs:List Blk}{v:V}{z:Nat}{es:List (List V)}(h:RowIs bs v z es){i:Nat}(hi:i<es.length){l:Nat} :
 ∃ p,eP none z v (.d (.int .i64 i)) ⟨bs,l⟩=some (p,⟨bs,l⟩)/\loadAt ⟨bs,l⟩ p z=some (es[i]):=by
 have hzi:=h.1 _ (bh hi);rcases h.2 with ⟨nl,rfl,he0⟩ | ⟨b,o,cap,cs,rfl,h1,h2⟩
 · subst he0; simp at hi
 · refine ⟨.ptr b (o+i * z),?_,?_⟩
   · simp only [eP];rw [if_pos ⟨by omega,by omega,trivial⟩];simp
   · simp only [lZ,get_eq,h1];rw [eY] at h2 ⊢;split at h2
     · rename_i hle;simp only [bd] at h2;have hiz:(i+1) * z<=es.length * z:=Nat.mul_le_mul_right z hi;rw [Nat.add_mul,Nat.one_mul] at hiz;rw [if_pos (by omega)]
       congr 1
       have hf:=kQ (α:=V) (es:=es) (i:=i) (z:=z) h.1 hi;rw [← h2] at hf
       skip
       rw [← hf,List.drop_take,be,List.take_take,Nat.min_eq_left (by omega)]
     · cases h2
section
variable {E:Calls'}{T:FuncId->Option QF}{val:FuncId->Bool}
theorem RowIs.at {α:Type}{cells:α->List V}{bs:List Blk}{v:V}{z:Nat}{es:List α}(h:RowIs bs v z (es.map cells)){i:Nat}(hi:i<es.length){l:Nat} :
 ∃ p,eP none z v (.d (.int .i64 i)) ⟨bs,l⟩=some (p,⟨bs,l⟩)/\loadAt ⟨bs,l⟩ p z=some (cells es[i]):=by
 have:=h.elem (i:=i) (by simpa using hi) (l:=l);simpa using this
theorem RowIs.lenT {α:Type}{cells:α->List V}{bs:List Blk}{v:V}{z:Nat}{es:List α}(h:RowIs bs v z (es.map cells))(hp:Hp):nG false v hp=some (.d (.int .i64 es.length),hp):=by
 simpa using h.len hp
theorem wy {α:Type}{cells:α->List V}{z:Nat}{bs:List Blk}{lo:Nat}{v:V}{es:List α}(hr:RowIs bs v z (es.map cells)){f:FuncId}{caps:List V}{q:α->Bool}(hlen:es.length<2 ^ 62)
 (hf:∀ e∈es,Sm E T val f (.agg (cells e)::caps) ⟨bs,lo⟩=some (.d (.bool (q e)),⟨bs,lo⟩)):∀ (m i:Nat),i+m=es.length →
   Cd E T val (.loop [0,1,7,8] (sU z)) [(0,v),(1,.fn f caps),(7,.d (.int .i64 es.length)),(8,.d (.int .i64 i))] ⟨bs,lo⟩ =
    match (es.drop i).findIdx? q with
    | some k=>some (.ret,[(4,.d (.int .i64 (i+k:Nat)))],⟨bs,lo⟩)
    | none=>some (.exit 0,[],⟨bs,lo⟩):=by
 intro m;have key:=aC (E:=E) (T:=T) (val:=val) [0,1,7,8] (sU z);generalize Cd E T val (.loop [0,1,7,8] (sU z))=W at key ⊢
 induction m with
 | zero =>
  intro i hi;have h0:es.drop i=[]:=ba (by omega);rw [key];simp [sU,h0,show ¬ ((i:Int)<es.length) from by omega]
 | succ m ih =>
  intro i hi;have hlt:i<es.length:=by omega
  have hd:es.drop i=es[i]::es.drop (i+1):=aw hlt;obtain ⟨p,hp1,hp2⟩:=hr.at hlt (l:=lo);have hv:=hr.ok;have hcall:=hf _ (bh hlt);generalize es[i]=x at *;rw [key,hd];cases hq:q x with
  | true=>simp [sU,hv,hp1,ldv,hp2,hcall,hq,List.findIdx?_cons,show ((i:Int)<es.length) from by omega,show okV (V.agg (cells x))=true from rfl]
  | false =>
   have hw:wrap .i64 ((i:Int)+1)=((i+1:Nat):Int):=by rw [wrap64]<;>omega
   have:=ih (i+1) (by omega);simp [sU,hv,hp1,ldv,hp2,hcall,hq,List.findIdx?_cons,hw,show ((i:Int)<es.length) from by omega,show okV (V.agg (cells x))=true from rfl];rw [show ((i:Int)+1)=((i+1:Nat):Int) from by omega,this];cases hfi:(es.drop (i+1)).findIdx? q with
   | none=>rfl
   | some k=>simp; omega
theorem S_idx {α:Type}(cells:α->List V){z:Nat}{id:FuncId}(ht:T id=some (idxQ z))(hvl:val id=false){v:V}{es:List α}{f:FuncId}{caps:List V}{q:α->Bool}{h:Hp}(hr:RowIs h.bs v z (es.map cells))(hlen:es.length<2 ^ 62)
 (hf:∀ e∈es,∀ lo,Sm E T val f (.agg (cells e)::caps) ⟨h.bs,lo⟩=some (.d (.bool (q e)),⟨h.bs,lo⟩)):Sm E T val id [v,.fn f caps] h=some (.d (.int .i64 (cu es q)),h):=by
 rw [aN ht hvl];have hl:=wy hr hlen (fun e he=>hf e he h.bs.length) es.length 0 (by omega);have hv:=hr.ok;have hn:=hr.lenT;simp [idxQ,ae,hv,hn,cu];rw [au];simp at hl;simp [hl];cases es.findIdx? q with
 | none=>simp [V.under]
 | some k=>simp [V.under]
theorem pJ {α:Type}(cells:α->List V){z idx id:Nat}{zero:List V}(hti:T idx=some (idxQ z))(hvi:val idx=false)(ht:T id=some (delQ z idx zero))(hv:val id=false){v:V}{es:List α}{f:FuncId}{caps:List V}{q:α->Bool}{h:Hp}
 (hr:RowIs h.bs v z (es.map cells)) (hlen:es.length<2 ^ 62) (hf:∀ e∈es,∀ lo,Sm E T val f (.agg (cells e)::caps) ⟨h.bs,lo⟩=some (.d (.bool (q e)),⟨h.bs,lo⟩)) (hq:∀ e∈es,q e=false) :
 Sm E T val id [v,.fn f caps] h=some (v,h):=by
 rw [aN ht hv];have h1:=S_idx (h:=⟨h.bs,h.bs.length⟩) cells hti hvi hr hlen hf;have h2:cu es q=-1:=by
  rcases gL es q with ⟨_,e⟩ | ⟨k,x,e,_,_⟩
  · exact e
  · exact absurd (List.find?_some e) (by simp [hq x (List.mem_of_find?_eq_some e)])
 have hok:=hr.ok;have hokv:okV v=true:=by rcases hr.2 with ⟨nl,rfl,he0⟩ | ⟨b,o,cap,cs,rfl,_⟩<;>rfl
 have hu:V.under h.bs.length v=true:=by
  rcases hr.2 with ⟨nl,rfl,he0⟩ | ⟨b,o,cap,cs,rfl,hb,_⟩
  · rfl
  · simpa [V.under] using aI hb
 simp [delQ,ae,hok,hokv,h1,h2,hu]
structure Thin {α:Type} (cells:α->List V) (z:Nat) (es:List α) (bs0:List Blk) (b:Nat) (kept:List α) (bs:List Blk):Prop where
 len:bs0.length<=bs.length
 old:∀ x,x≠b->x<bs0.length->bs[x]?=bs0[x]?
 row:af bs b=some (flat (kept.map cells)++(flat (es.map cells)).drop (kept.length * z))
section
variable {α:Type}{cells:α->List V}{z:Nat}(hz:∀ x,(cells x).length=z){es:List α}{bs0:List Blk}{b:Nat}
include hz
theorem eH (l:List α):(flat (l.map cells)).length=l.length * z:=by
 rw [flat_len (z:=z) (by simp; intro a _; exact hz a)]; simp
theorem Thin.read {kept:List α}{bs:List Blk}(h:Thin cells z es bs0 b kept bs){j:Nat}(hj:kept.length<=j)(hlt:j<es.length):sub (flat (kept.map cells)++(flat (es.map cells)).drop (kept.length * z)) (j * z) z=some (cells es[j]):=by
 have h1:=eH hz kept;have h2:=eH hz es;have h3:kept.length * z<=j * z:=Nat.mul_le_mul_right z hj;have h4:(j+1) * z<=es.length * z:=Nat.mul_le_mul_right z hlt;rw [Nat.add_mul,Nat.one_mul] at h4;rw [eY,if_pos (by simp only [ap,List.length_drop,h1,h2]; omega)];have h5:j * z=(flat (kept.map cells)).length+(j * z-kept.length * z):=by omega
 rw [h5,← be,List.drop_left,be,show kept.length * z+(j * z-kept.length * z)=j * z by omega];have hf:=kQ (α:=V) (es:=es.map cells) (i:=j) (z:=z) (by simp; intro a _; exact hz a) (by simpa using hlt);simp only [List.getElem_map] at hf;rw [← hf,flat]
omit hz in
theorem Thin.lay {kept:List α}{bs:List Blk}(h:Thin cells z es bs0 b kept bs)(x:Blk):Thin cells z es bs0 b kept (bs++[x]):=by
 refine ⟨by simp; have:=h.len; omega,fun y hy hlt=>?_,ax h.row⟩;rw [ao (by have:=h.len; omega)];exact h.old y hy hlt
theorem Thin.keep {kept:List α}{bs:List Blk}(h:Thin cells z es bs0 b kept bs){e:α}(hlt:kept.length<es.length) :
 ∃ cs,put (flat (kept.map cells)++(flat (es.map cells)).drop (kept.length * z)) (kept.length * z) (cells e)=some cs/\Thin cells z es bs0 b (kept++[e]) (bs.set b (.cells cs)):=by
 have h1:=eH hz kept;have h2:=eH hz es;have h4:(kept.length+1) * z<=es.length * z:=Nat.mul_le_mul_right z hlt;rw [Nat.add_mul,Nat.one_mul] at h4;refine ⟨flat (kept.map cells)++(cells e)++(flat (es.map cells)).drop ((kept.length+1) * z),?_,?_⟩
 · unfold put;rw [if_pos (by simp only [ap,List.length_drop,bx,h1,h2,hz]; omega)]
   congr 1
   rw [← h1,List.take_left,hz,← be,List.drop_left,be,h1,Nat.add_mul,Nat.one_mul]
 · have hb:=aI h.row;refine ⟨by simpa using h.len,fun y hy hlt=>?_,?_⟩
   · rw [am (fun q=>hy q.symm)]; exact h.old y hy hlt
   · simp only [af,List.getElem?_set_self hb,List.map_append,cm,List.map_nil,jE,flat_cons,qL,List.append_nil,ap,cf,cg]
end
theorem H7 {α:Type}{cells:α->List V}{z:Nat}(hz:∀ x,(cells x).length=z)(hz0:0<z){zero:List V}(hzero:zero.length=z){es:List α}{bs0:List Blk}{b:Nat}(hb0:b<bs0.length){cap:Option Nat}{f:FuncId}{caps:List V}{q:α->Bool}(hlen:es.length<2 ^ 62)
 (hf:∀ e∈es,∀ bs lo,bs0.length<=bs.length->(∀ x,x≠b->x<bs0.length->bs[x]?=bs0[x]?)->Sm E T val f (.agg (cells e)::caps) ⟨bs,lo⟩=some (.d (.bool (q e)),⟨bs,lo⟩)) :
 ∀ (m j:Nat) (kept:List α) (bs:List Blk) (lo:Nat),j+m=es.length->kept.length<j->Thin cells z es bs0 b kept bs->lo<=bs.length →
  ∃ bs' lo',Cd E T val (.loop [0,1,5,6] (CZ z zero)) [(0,.row b 0 es.length cap z),(1,.fn f caps),(5,.d (.int .i64 kept.length)),(6,.d (.int .i64 j))] ⟨bs,lo⟩ =
   some (.exit 0,[(0,.row b 0 es.length cap z),(5,.d (.int .i64 (kept++(es.drop j).filter fun e=>!q e).length))],⟨bs',lo'⟩)/\Thin cells z es bs0 b (kept++(es.drop j).filter fun e=>!q e) bs':=by
 intro m;have key:=aC (E:=E) (T:=T) (val:=val) [0,1,5,6] (CZ z zero);generalize Cd E T val (.loop [0,1,5,6] (CZ z zero))=W at key ⊢
 induction m with
 | zero =>
  intro j kept bs lo hj hk ht hlo;have h0:es.drop j=[]:=ba (by omega);refine ⟨bs,lo,?_,by simpa [h0] using ht⟩;rw [key];simp [CZ,h0,show ¬ ((j:Int)<es.length) from by omega]
 | succ m ih =>
  intro j kept bs lo hj hk ht hlo;have hlt:j<es.length:=by omega
  have hd:es.drop j=es[j]::es.drop (j+1):=aw hlt;have hread:=ht.read hz (by omega) hlt;have hrow:=ht.row;have hmem:es[j]∈es:=bh hlt;generalize es[j]=x at *;have hxl:(cells x).length=z:=by simp [hz]
  have hput:put zero 0 (cells x)=some (cells x):=by
   simp [put,hz,hzero]
  have ht1:=ht.lay (.cells (cells x));have hcall:=hf x hmem (bs++[.cells (cells x)]) lo ht1.len ht1.old;have hsubx:sub (cells x) 0 z=some (cells x):=bH (hz x);have hix:eP none z (.row b 0 es.length cap z) (.d (.int .i64 j)) ⟨bs,lo⟩=some (.ptr b (j * z),⟨bs,lo⟩):=by
   simp only [eP]; rw [if_pos ⟨by omega,by omega,trivial⟩]; simp
  have hw:wrap .i64 ((j:Int)+1)=((j+1:Nat):Int):=by rw [wrap64]<;>omega
  rw [key,hd];have hld:loadAt ⟨bs,lo⟩ (.ptr b (j * z)) z=some (cells x):=by simp only [lZ,get_eq,hrow,hread]
  have hok:okV (V.agg (cells x))=true:=rfl;have hcall:=fun lo=>hf x hmem (bs++[.cells (cells x)]) lo ht1.len ht1.old;cases hq:q x with
  | true =>
   obtain ⟨bs',lo',k1,k2⟩:=ih (j+1) kept (bs++[.cells (cells x)]) (min lo bs.length) (by omega) (by omega) ht1 (by simp; omega);refine ⟨bs',lo',?_,by simpa [hq] using k2⟩;simp [CZ,hix,ldv,hrow,hread,hput,hcall,hq,hw,hz,hz0,hsubx,show ((j:Int)<es.length) from by omega];simpa using k1
  | false =>
   obtain ⟨cs,hcs,ht2⟩:=ht1.keep hz (e:=x) (by omega);have hrow1:=ht1.row;have hix2:∀ lo,eP none z (.row b 0 es.length cap z) (.d (.int .i64 kept.length)) ⟨bs++[.cells (cells x)],lo⟩=some (.ptr b (kept.length * z),⟨bs++[.cells (cells x)],lo⟩):=by
    intro lo; simp only [eP]; rw [if_pos ⟨by omega,by omega,trivial⟩]; simp
   have hw2:wrap .i64 ((kept.length:Int)+1)=((kept.length+1:Nat):Int):=by rw [wrap64]<;>omega
   have hset:∀ lo,Hp.set ⟨bs++[Blk.cells (cells x)],lo⟩ b cs=⟨(bs++[Blk.cells (cells x)]).set b (Blk.cells cs),min lo b⟩:=fun _=>rfl;obtain ⟨bs',lo',k1,k2⟩:=ih (j+1) (kept++[x]) _ (min (min lo bs.length) b) (by omega) (by simp; omega) ht2 (by simp; omega);refine ⟨bs',lo',?_,by simpa [hq] using k2⟩;generalize hB:(bs++[Blk.cells (cells x)]).set b (Blk.cells cs)=B at *;simp [CZ,hix,ldv,hrow,hread,hput,hcall,hq,hw,hz,hz0,hsubx,hix2,hrow1,hcs,hset,hw2,show ((j:Int)<es.length) from by omega];simp at k1;rw [show ((kept.length:Int)+1)=(kept.length:Int)+1 from rfl] at k1;simpa [Int.add_assoc,Int.add_comm,Int.add_left_comm] using k1
theorem JH {h:Hp}{ev:X->V}{b len z:Nat}{cap:Option Nat}{x:X}{n:Nat}(hx:ev x=.d (.int .i64 n))(hn:n<len):∃ cap',bP h ev .sl z (.row b 0 len cap z) (some x) none none=some (.row b (n * z) (len-n) cap' z):=by
 simp only [bP,cZ,hx];rw [if_pos (by omega)];simp only [Int.toNat_natCast];rw [if_pos ⟨by omega,by omega,trivial⟩];by_cases h0:n=0
 · subst h0; exact ⟨cap,by simp⟩
 · exact ⟨_,by rw [if_neg h0,if_pos hn,Nat.zero_add]⟩
theorem rZ {h:Hp}{ev:X->V}{b len z:Nat}{cap:Option Nat}{x:X}{n:Nat}(hx:ev x=.d (.int .i64 n))(hn:n<=len):bP h ev .sl z (.row b 0 len cap z) none (some x) none=some (.row b 0 n cap z):=by
 simp only [bP,cZ,hx];rw [if_pos (by omega)];simp only [Int.toNat_natCast];rw [if_pos ⟨by omega,by omega,trivial⟩];simp
theorem CE {α:Type}{cells:α->List V}{z idx id:Nat}{zero:List V}(hz:∀ x,(cells x).length=z)(hz0:0<z)(hzero:zero.length=z)(hti:T idx=some (idxQ z))(hvi:val idx=false)(ht:T id=some (delQ z idx zero))(hv:val id=false)
 {es:List α} {b:Nat} {cap:Option Nat} {f:FuncId} {caps:List V} {q:α->Bool} {h:Hp} (hb:af h.bs b=some (flat (es.map cells))) (hlen:es.length<2 ^ 62)
 (hf:∀ e∈es,∀ bs lo,h.bs.length<=bs.length->(∀ x,x≠b->x<h.bs.length->bs[x]?=h.bs[x]?)->Sm E T val f (.agg (cells e)::caps) ⟨bs,lo⟩=some (.d (.bool (q e)),⟨bs,lo⟩)) (hq:∃ e∈es,q e=true) :
 ∃ bs' lo' rest,Sm E T val id [.row b 0 es.length cap z,.fn f caps] h=some (.row b 0 (es.filter fun e=>!q e).length cap z,⟨bs',lo'⟩)/\h.bs.length<=bs'.length/\(∀ x,x≠b->x<h.bs.length->bs'[x]?=h.bs[x]?) ∧
  af bs' b=some (flat ((es.filter fun e=>!q e).map cells)++rest)/\lo'<=b/\rest.length=(es.length-(es.filter fun e=>!q e).length) * z:=by
 obtain ⟨k,x,e1,e2,e3⟩:∃ k e,es.find? q=some e/\cu es q=(k:Nat)/\es[k]?=some e:=by
  rcases gL es q with ⟨e,_⟩ | h
  · obtain ⟨y,y1,y2⟩:=hq;exact absurd y2 (by simpa using List.find?_eq_none.1 e y y1)
  · exact h
 have hk:k<es.length:=(bw.1 e3).1;have hxk:es[k]=x:=(bw.1 e3).2;have hqx:q x=true:=List.find?_some e1;have hfirst:∀ y∈es.take k,q y=false:=by
  rw [List.find?_eq_some_iff_getElem] at e1;obtain ⟨_,i,hi,hxi,hlt⟩:=e1;have hik:i=k\/i≠k:=by omega
  intro y hy;obtain ⟨j,hj,rfl⟩:=List.mem_iff_getElem.1 hy;simp only [List.length_take] at hj;rw [List.getElem_take];have h2:cu es q=(i:Nat):=by
   unfold cu;rw [List.findIdx?_eq_some_iff_getElem.2 ⟨hi,by rw [hxi]; exact hqx,fun j hj=>by simpa using hlt j hj⟩]
  have:i=k:=by rw [h2] at e2; omega
  subst this;simpa using hlt j (by omega)
 have htk:es.take k++(es.drop (k+1)).filter (fun e=>!q e)=es.filter fun e=>!q e:=by
  conv=>rhs; rw [← List.take_append_drop k es,List.filter_append]
  congr 1
  · exact (List.filter_eq_self.2 fun y hy=>by simp [hfirst y hy]).symm
  · rw [aw hk,hxk,List.filter_cons]; simp [hqx]
 have hT0:Thin cells z es h.bs b (es.take k) h.bs:=by
  refine ⟨bp _,fun _ _ _=>rfl,?_⟩;have h1:=eH hz (es.take k);have hs:flat (es.map cells)=flat ((es.take k).map cells)++flat ((es.drop k).map cells):=by rw [← jE,← List.map_append,List.take_append_drop]
  rw [hb,hs,← h1,List.drop_left]
 have hbl:=aI hb;have hrowis:RowIs h.bs (.row b 0 es.length cap z) z (es.map cells):=by
  refine ⟨by simp; intro a _; exact hz a,.inr ⟨b,0,cap,_,by simp,hb,?_⟩⟩;rw [eY,if_pos (by rw [eH hz]; simp)];rw [List.drop_zero,bx,← eH hz,List.take_length]; rfl
 have h1:=S_idx (E:=E) (h:=⟨h.bs,h.bs.length⟩) cells hti hvi hrowis hlen (fun e he lo=>hf e he h.bs lo (bp _) fun _ _ _=>rfl);obtain ⟨bs',lo',k1,k2⟩:=H7 (E:=E) (T:=T) (val:=val) hz hz0 hzero hbl (cap:=cap) hlen hf (es.length-(k+1)) (k+1) (es.take k) h.bs h.bs.length (by omega) (by simp; omega) hT0 (bp _);rw [htk] at k1 k2;have hkl:(es.take k).length=k:=by simp; omega
 have hfl:(es.filter fun e=>!q e).length<es.length:=by
  rw [← htk,ap,hkl];have:=List.length_filter_le (fun e=>!q e) (es.drop (k+1));simp only [List.length_drop] at this;omega
 rw [hkl] at k1;generalize hK:es.filter (fun e=>!q e)=K at *;rw [aN ht hv];have hw:wrap .i64 ((k:Int)+1)=((k+1:Nat):Int):=by rw [wrap64]<;>omega
 have hrow:=k2.row;have hlenT:=eH hz K;have hlenE:=eH hz es;have hbl2:=aI hrow;have hmul:K.length * z<es.length * z:=Nat.mul_lt_mul_of_pos_right hfl hz0;have hput:put (flat (K.map cells)++(flat (es.map cells)).drop (K.length * z)) (K.length * z) (List.replicate (es.length-K.length) zero).flatten=some (flat (K.map cells)++(List.replicate (es.length-K.length) zero).flatten):=by
  have hr:((List.replicate (es.length-K.length) zero).flatten).length=(es.length-K.length) * z:=by simp [hzero]
  unfold put;rw [if_pos (by rw [ap,List.length_drop,hlenT,hlenE,hr,Nat.sub_mul]; omega),← hlenT,List.take_left,hlenT,hr,ba (by rw [ap,List.length_drop,hlenT,hlenE,Nat.sub_mul]; omega),List.append_nil]
 have hclr:∀ (e:EA) (cap':Option Nat),e.get 38=.row b (K.length * z) (es.length-K.length) cap' z->opE (Sm E T val) (.clear z zero (.t 38)) (X.ea e) ⟨bs',lo'⟩=some (.undef,⟨bs'.set b (.cells (flat (K.map cells)++(List.replicate (es.length-K.length) zero).flatten)),min lo' b⟩):=by
  intro e cap' he;have hne:¬ (es.length-K.length) * z=0:=by rw [Nat.sub_mul]; omega
  simp only [opE,Zu,he,if_true,get_eq,hrow,if_neg hne,hput,MC]
 refine ⟨bs'.set b (.cells (flat (K.map cells)++(List.replicate (es.length-K.length) zero).flatten)),min h.low (min lo' b),(List.replicate (es.length-K.length) zero).flatten,?_,by simpa using k2.len,fun y hy hlt=>by rw [am (fun q=>hy q.symm)]; exact k2.old y hy hlt,by simp [af,List.getElem?_set_self hbl2],by omega,by simp [hzero]⟩;have hne:¬ (h.bs.length<=lo'/\h.bs.length<=b/\b<h.bs.length):=by omega
 generalize hZ:flat (K.map cells)++(List.replicate (es.length-K.length) zero).flatten=Z at *;simp [delQ,ae,h1,e2,hw];rw [au];simp at k1;simp [k1];obtain ⟨cap',hsl⟩:=JH (h:=⟨bs',lo'⟩) (ev:=X.ea [(37,.d (.int .i64 K.length)),(36,.row b 0 es.length cap z),(0,.row b 0 es.length cap z),(5,.d (.int .i64 K.length))]) (x:=.t 37) (b:=b) (z:=z) (cap:=cap) (n:=K.length) (by simp) hfl;simp [hsl];rw [hclr _ cap' (by simp)];have hsh:=rZ (h:=⟨bs'.set b (.cells Z),min lo' b⟩) (ev:=X.ea [(40,.d (.int .i64 K.length)),(39,.row b 0 es.length cap z),(38,.row b (K.length * z) (es.length-K.length) cap' z),(37,.d (.int .i64 K.length)),(36,.row b 0 es.length cap z),(0,.row b 0 es.length cap z),(5,.d (.int .i64 K.length))]) (x:=.t 40) (b:=b) (z:=z) (len:=es.length) (cap:=cap) (n:=K.length) (by simp) (by omega);simp [hsh,V.under];intro h1 h2;exfalso;omega
end
end Vr
namespace Vr
section
variable {E:Calls'}{T:FuncId->Option QF}{val:FuncId->Bool}
theorem Hd {bs:List Blk}{z by_:Nat}{K:List (List V)}{v:V}{x:List V}(hw:∀ e∈K,e.length=z)(hx:x.length=z)(hz0:0<z)(hby:by_<=4096)(hl:K.length<big){r:Nat}{c:Option Nat}(hr:af bs r=some x){m:Nat}
 (hv:(K=[]/\v=.d (.slice true []))\/(∃ B,K=[]/\m<=B/\v=.row B 0 0 (some 0) z/\af bs B=some [])\/(∃ B rest q,m<=B/\v=.row B 0 K.length none z/\af bs B=some (flat K++rest)/\rest.length=q * z/\0<K.length+q)) (hm:m<=bs.length) :
 ∃ (B:Nat) (cap:Option Nat) (bs':List Blk) (rest:List V) (f:Nat->Nat),(∀ lo,dZ ⟨bs,lo⟩ z by_ v (.row r 0 1 c z)=some (.row B 0 (K.length+1) cap z,⟨bs',f lo⟩))/\m<=B/\af bs' B=some (flat (K++[x])++rest)/\∀ y,y<m->bs'[y]?=bs[y]?:=by
 have hrc:∀ lo,aD ⟨bs,lo⟩ (.row r 0 1 c z) z=some (1,x):=by
  intro lo;have:sub x 0 z=some x:=bH (by simpa using hx);simp only [aD,if_true,get_eq,hr,Nat.one_mul,this,Option.map_some]
 have hroom:∀ n,n<=big->roomy n by_=true:=fun n hn=>by simp only [roomy,aq,br]; exact ⟨hn,hby⟩
 have hfx:flat (K++[x])=flat K++x:=by rw [jE,flat_cons,qL,List.append_nil]
 rcases hv with ⟨h1,rfl⟩ | ⟨B,h1,h2,rfl,h4⟩ | ⟨B,rest,q,h2,rfl,h4,h5,h6⟩
 · subst h1;refine ⟨bs.length,none,bs++[.cells x],[],fun lo=>lo,fun lo=>by simp only [dZ,hrc,aF,if_neg (show ¬ (1=0) by decide),if_neg (show ¬ z=0 by omega),hroom 1 (by decide),if_true]; rfl,hm,by simp [Hp.alloc,flat],fun y hy=>?_⟩;rw [ao (by omega)]
 · subst h1;have hsub:sub ([]:List V) 0 (0 * z)=some []:=by simp [sub]
   refine ⟨bs.length,none,bs++[.cells ([]++x)],[],fun lo=>lo,fun lo=>by simp only [dZ,hrc,aF,ne_eq,not_true_eq_false,false_or,if_neg (show ¬ (1=0) by decide),if_neg (show ¬ z=0 by omega),get_eq,h4,hsub,hroom (0+1) (by decide),Bool.not_true,bm,if_false,if_neg (show ¬ (0+1<=0) by decide)]; rfl,hm,by simp [Hp.alloc,flat],fun y hy=>?_⟩;rw [ao (by omega)]
 · have hf:=flat_len hw;have hsub:sub (flat K++rest) 0 (K.length * z)=some (flat K):=by
    rw [eY,if_pos (by rw [ap,hf]; omega),List.drop_zero,← hf,List.take_left]
   have hbl:=aI h4;rcases Nat.eq_zero_or_pos q with hq | hq
   · subst hq;have hr0:rest=[]:=List.eq_nil_of_length_eq_zero (by simpa using h5);subst hr0;have hpos:0<(flat K).length:=by rw [hf]; exact Nat.mul_pos (by omega) hz0
     simp only [List.append_nil] at h4 hsub;refine ⟨bs.length,none,bs.set B (.cells [])++[.cells (flat K++x)],[],fun lo=>min lo B,fun lo=>by simp only [dZ,hrc,aF,ne_eq,not_true_eq_false,false_or,if_neg (show ¬ (1=0) by decide),if_neg (show ¬ z=0 by omega),get_eq,h4,hsub,hroom (K.length+1) (by omega),Bool.not_true,bm,if_false,hpos,and_self,if_true,Hp.size,Hp.alloc,Hp.set,List.length_set],hm,?_,fun y hy=>?_⟩
     · have:af (bs.set B (.cells [])++[.cells (flat K++x)]) (bs.set B (.cells [])).length=some (flat K++x):=by rw [di]; rfl
       rw [List.length_set] at this;rw [this,hfx,List.append_nil]
     · rw [ao (by simp; omega),am (by omega)]
   · have hqz:z<=q * z:=by have:=Nat.mul_le_mul_right z hq; rwa [Nat.one_mul] at this
     have hne:¬ (True/\(flat K).length=(flat K++rest).length/\0<(flat K++rest).length):=by
      rw [ap]; omega
     have hfit:0+(K.length+1) * z<=(flat K++rest).length:=by
      rw [ap,hf,Nat.add_mul]; omega
     have hput:put (flat K++rest) (0+K.length * z) x=some (flat K++x++rest.drop z):=by
      unfold put;rw [if_pos (by rw [ap,hx,hf]; omega),Nat.zero_add,← hf,List.take_left,hx,List.drop_append,ba (by omega),Nat.add_sub_cancel_left];simp
     refine ⟨B,none,bs.set B (.cells (flat K++x++rest.drop z)),rest.drop z,fun lo=>min lo B,fun lo=>by simp only [dZ,hrc,aF,ne_eq,not_true_eq_false,false_or,if_neg (show ¬ (1=0) by decide),if_neg (show ¬ z=0 by omega),get_eq,h4,hsub,hroom (K.length+1) (by omega),Bool.not_true,bm,if_false,if_neg hne,if_pos hfit,hput]; rfl,h2,?_,fun y hy=>?_⟩
     · simp [af,hbl,hfx,Hp.set]
     · rw [am (by omega)]
theorem vP {z:Nat}:∀ {l:List (List V)} {rest:List V},(∀ e∈l,e.length=z)->chunk z l.length (flat l++rest)=l
 | [],rest,_=>rfl
 | e::l,rest,h=>by
  have he:=h e (by simp);have ih:=vP (l:=l) (rest:=rest) fun x hx=>h x (List.mem_cons_of_mem _ hx);have hl:e.length=z:=by simp [he]
  simp only [chunk,cf,List.range_succ_eq_map,cm,List.map_map,flat_cons,List.append_assoc] at ih ⊢
  congr 1
  · rw [Nat.zero_mul,List.drop_zero,← hl,List.take_left]
  · conv=>rhs; rw [← ih]
    refine List.map_congr_left fun i _=>?_;simp only [Function.comp,Nat.succ_eq_add_one,Nat.add_mul,Nat.one_mul];rw [List.drop_append,ba (by omega),hl,List.nil_append,Nat.add_sub_cancel]
theorem GD {α:Type}{cells:α->List V}{key:α->Int}{z p:Nat}{g idf:FuncId}(hz:∀ x,(cells x).length=z)(hkey:∀ x,(cells x)[p]?=some (.d (.int .u64 (key x)))){L:List α}(hnd:(L.map key).Nodup)(hne:L≠[])(hlen:L.length<=2 ^ 40){h:Hp}{b c:Nat}{cap:Option Nat}{rest:List V}
 (hb:af h.bs b=some (flat (L.map cells)++rest)) (hc:af h.bs c=some [.fn idf []]) (hbc:b≠c) :
 fB ⟨z,p,g,idf⟩ [.row b 0 L.length cap z,.fn g [.ptr c 0]] h=some (.tup [],h.set b (flat ((L.mergeSort fun x y=>decide (key x<=key y)).map cells)++rest)):=by
 have hw:∀ e∈L.map cells,e.length=z:=by simp; intro a _; exact hz a
 have hch:=vP (rest:=rest) hw;rw [bx] at hch;have hkv:∀ x,FL p (cells x)=some (key x):=fun x=>by simp [FL,hkey]
 have hki:∀ x,nE p (cells x)=key x:=fun x=>by simp [nE,hkv]
 have hfl:=eH hz L;have h1:(L.map cells).map (nE p)=L.map key:=by
  rw [List.map_map];exact List.map_congr_left fun x _=>hki x
 have h2:gZ p (L.map cells)=((L.mergeSort fun x y=>decide (key x<=key y)).map cells):=by
  rw [gZ]
  symm
  refine List.map_mergeSort fun x _ y _=>?_;simp only [Function.comp,hki]
 have h3:∀ l:List (List V),l.flatten=flat l:=fun l=>by simp only [flat,List.map_flatten]
 simp only [fB,get_eq,hb,hc];rw [if_pos]
 · rw [hch,h2,h3,← hfl,List.drop_left]
 · refine ⟨trivial,trivial,trivial,hbc,List.length_pos_iff.2 hne,hlen,by rw [ap,hfl]; omega,?_,?_⟩
   · rw [hch];intro r hr;obtain ⟨x,_,rfl⟩:=b9.1 hr;rw [hkv]; rfl
   · rw [hch,h1]; exact hnd
end
end Vr
namespace Vr
section
variable {E:Calls'}{T:FuncId->Option QF}{val:FuncId->Bool}
structure ArgIs (bs:List Blk) (a:V) (z:Nat) (nl:Bool) (es:List (List V)):Prop where
 nil:nl=true->a=.d (.slice true [])
 row:nl=false->∃ b cap rest,a=.row b 0 es.length cap z/\af bs b=some (flat es++rest)
theorem ArgIs.lay {bs:List Blk}{a:V}{z:Nat}{nl:Bool}{es:List (List V)}(h:ArgIs bs a z nl es)(ys:List Blk):ArgIs (bs++ys) a z nl es:=⟨h.nil,fun hn=>by
 obtain ⟨b,cap,rest,h1,h2⟩:=h.row hn;exact ⟨b,cap,rest,h1,ax h2⟩⟩
def dx (z:Nat)(nl:Bool)(es:List (List V))(bs:List Blk)(lo:Nat):V×Hp:=match nl,es with
 | true,_=>(.d (.slice true []),⟨bs,lo⟩)
 | false,[]=>(.row bs.length 0 0 (some 0) z,⟨bs++[.cells []],lo⟩)
 | false,e::es=>(.row (bs.length+1) 0 (es.length+1) none z,⟨bs++[.cells [],.cells (flat (e::es))],lo⟩)
theorem G8 {z b:Nat}{zero:List V}{id:FuncId}{a:V}(ht:T id=some (cloneQ z b zero))(hv:val id=false)(hz0:0<z)(hb:b<=4096){nl:Bool}{es:List (List V)}(hz:∀ e∈es,e.length=z)(hlen:es.length<=big)(h:Hp)(ha:ArgIs h.bs a z nl es) :
 Sm E T val id [a] h=some ((dx z nl es h.bs h.low).1,⟨(dx z nl es h.bs h.low).2.bs,if nl then h.low else min h.low h.bs.length⟩):=by
 have hzz:z≠0:=by omega
 rw [aN ht hv];cases nl with
 | true =>
  obtain rfl:=ha.nil rfl;simp [cloneQ,ae,dx,V.under]
 | false =>
  obtain ⟨b0,cap,rest,rfl,h0⟩:=ha.row rfl;have hfl:=flat_len hz;have hr:roomy es.length b=true:=by
   simp only [roomy,aq,br];exact ⟨hlen,hb⟩
  have hrc:aD ⟨h.bs++[.cells []],h.bs.length⟩ (.row b0 0 es.length cap z) z=some (es.length,flat es):=by
   have hs:sub (flat es++rest) 0 (es.length * z)=some (flat es):=by rw [su (by omega)]; exact bH hfl
   simp only [aD,if_true,get_eq,ax h0,hs,Option.map_some]
  cases es with
  | nil =>
   simp only [cg] at hrc hr ⊢;simp [cloneQ,ae,dZ,hrc,aF,hzz,dx,V.under];try (intro hh; omega)
  | cons e es =>
   simp only [cf] at hrc hr ⊢;simp [cloneQ,ae,dZ,hrc,aF,hzz,hr,dx,V.under];try (intro hh; omega)
theorem SQ {α:Type}{cells:α->List V}{z c idf:FuncId}{key:α->Int}(ht:T c=some (woCQ z))(hv:val c=false){e:α}(hz:(cells e).length=z)(hid:∀ h,Sm E T val idf [.agg (cells e)] h=some (.d (u64 (key e)),h)){n:Int}{p r:Nat}{h:Hp}(hp:af h.bs p=some [.fn idf []])(hr:af h.bs r=some [.d (u64 n)]) :
 Sm E T val c [.agg (cells e),.ptr p 0,.ptr r 0] h=some (bl (key e==n),h):=by
 rw [aN ht hv];have hsub:sub (cells e) 0 z=some (cells e):=bH hz;simp [woCQ,ae,ai,aa,av,aA,Tr.mute,ax hp,ax hr,hid,hsub,V.under]
def Left {α:Type}(cells:α->List V)(z:Nat)(nl:Bool)(l:List α)(K:List α)(b0:List Blk)(r:V)(bs':List Blk)(lo lo':Nat):Prop :=
 (nl=true/\K=[]/\r=.d (.slice true [])/\bs'=b0/\lo'=lo) ∨
 (nl=false/\l=[]/\K=[]/\r=.row b0.length 0 0 (some 0) z/\bs'=b0++[.cells []]/\lo'=min lo b0.length) ∨
 (nl=false/\l≠[]/\r=.row (b0.length+1) 0 K.length none z/\b0.length+1<bs'.length/\(∀ x,x<b0.length+1->bs'[x]?=(b0++[.cells []])[x]?) ∧
   ∃ rest,af bs' (b0.length+1)=some (flat (K.map cells)++rest)/\rest.length=(l.length-K.length) * z)
theorem WW {α:Type}{cells:α->List V}{z b cl clos del idx idf:Nat}{zero:List V}{key:α->Int}(tcl:T cl=some (cloneQ z b zero))(vcl:val cl=false)(tdel:T del=some (delQ z idx zero))(vdel:val del=false)(tidx:T idx=some (idxQ z))(vidx:val idx=false)
 (tc:T clos=some (woCQ z)) (vc:val clos=false) (hz:∀ x,(cells x).length=z) (hz0:0<z) (hzero:zero.length=z) (hb:b<=4096) {nl:Bool} {l:List α} (hs:l.length<=big/\(nl=true->l=[])) (hid:∀ e∈l,∀ h,Sm E T val idf [.agg (cells e)] h=some (.d (u64 (key e)),h)) (n:Int) (bs:List Blk) (lo:Nat) {a:V} (ha:ArgIs bs a z nl (l.map cells)) :
 ∃ r bs' lo',Bd E T val (woQ cl clos del) [a,.d (u64 n),.fn idf []] ⟨bs,lo⟩=some (.tup [r,bl (decide ((l.filter fun e=>!(key e==n)).length<l.length))],⟨bs',lo'⟩) ∧
  Left cells z nl l (l.filter fun e=>!(key e==n)) (bs++[.cells [.d (u64 n)],.cells [.fn idf []]]) r bs' lo lo':=by
 have hp:∀ ys,af (bs++([.cells [.d (u64 n)],.cells [.fn idf []]]++ys)) (bs.length+1)=some [.fn idf []]:=fun ys=>by unfold af; rw [bk (by omega)]; simp
 have hr:∀ ys,af (bs++([.cells [.d (u64 n)],.cells [.fn idf []]]++ys)) bs.length=some [.d (u64 n)]:=fun ys=>by unfold af; rw [bk (by omega)]; simp
 have hcl:=G8 (E:=E) (T:=T) (val:=val) (a:=a) tcl vcl hz0 hb (nl:=nl) (es:=l.map cells) (by simp; intro a _; exact hz a) (by simpa using hs.1) ⟨bs++[.cells [.d (u64 n)],.cells [.fn idf []]],lo⟩ (ha.lay _);have hlen:l.length<2 ^ 62:=cd hs.1 (by decide);cases nl with
 | true =>
  have hl:=hs.2 rfl;subst hl;obtain rfl:=ha.nil rfl;have h1:=pJ (E:=E) (T:=T) (val:=val) cells (es:=[]) (z:=z) (idx:=idx) (zero:=zero) tidx vidx tdel vdel (v:=.d (.slice true [])) (f:=clos) (caps:=[.ptr (bs.length+1) 0,.ptr bs.length 0]) (q:=fun _=>false) (h:=⟨bs++[.cells [.d (u64 n)],.cells [.fn idf []]],lo⟩) ⟨by simp,.inl ⟨true,rfl,rfl⟩⟩ (by simp) (by simp) (by simp);simp [dx] at hcl;refine ⟨.d (.slice true []),bs++[.cells [.d (u64 n)],.cells [.fn idf []]],lo,?_,.inl ⟨rfl,rfl,rfl,rfl,rfl⟩⟩;simp [ae,woQ,Sl.d,hcl,h1]
 | false =>
  obtain ⟨ab,acap,arest,rfl,hab⟩:=ha.row rfl;cases hll:l with
  | nil =>
   subst hll;have h1:=pJ (E:=E) (T:=T) (val:=val) cells (es:=[]) (z:=z) (idx:=idx) (zero:=zero) tidx vidx tdel vdel (v:=.row (bs.length+2) 0 0 (some 0) z) (f:=clos) (caps:=[.ptr (bs.length+1) 0,.ptr bs.length 0]) (q:=fun _=>false) (h:=⟨bs++[.cells [.d (u64 n)],.cells [.fn idf []],.cells []],min lo (bs.length+2)⟩) ⟨by simp,.inr ⟨bs.length+2,0,some 0,[],rfl,by unfold af; rw [bk (by omega)]; simp,by simp⟩⟩ (by simp) (by simp) (by simp);simp [dx] at hcl;refine ⟨.row (bs.length+2) 0 0 (some 0) z,bs++[.cells [.d (u64 n)],.cells [.fn idf []],.cells []],min lo (bs.length+2),?_,.inr (.inl ⟨rfl,rfl,rfl,by simp,by simp,by simp⟩)⟩;simp [ae,woQ,Sl.d,hcl,h1]
  | cons p l' =>
   have hne:l≠[]:=by rw [hll]; simp
   rw [← hll];have hc2:dx z false (l.map cells) (bs++[.cells [.d (u64 n)],.cells [.fn idf []]]) lo=(.row (bs.length+3) 0 l.length none z,⟨bs++[.cells [.d (u64 n)],.cells [.fn idf []],.cells [],.cells (flat (l.map cells))],lo⟩):=by
    rw [hll]; simp [dx]
   rw [hc2] at hcl;simp at hcl;have hbF:af (bs++[.cells [.d (u64 n)],.cells [.fn idf []],.cells [],.cells (flat (l.map cells))]) (bs.length+3)=some (flat (l.map cells)):=by unfold af; rw [bk (by omega)]; simp
   have hcall:∀ e∈l,∀ bs2 lo2,(∀ x,x≠bs.length+3->x<bs.length+4->bs2[x]?=(bs++[.cells [.d (u64 n)],.cells [.fn idf []],.cells [],.cells (flat (l.map cells))])[x]?)->Sm E T val clos (.agg (cells e)::[.ptr (bs.length+1) 0,.ptr bs.length 0]) ⟨bs2,lo2⟩=some (.d (.bool (key e==n)),⟨bs2,lo2⟩):=by
    intro e he bs2 lo2 ho;refine SQ tc vc (hz e) (hid e he) ?_ ?_
    · have:=ho (bs.length+1) (by omega) (by omega);simp only [af];rw [this,bk (by omega)]; simp
    · have:=ho bs.length (by omega) (by omega);simp only [af];rw [this,bk (by omega)]; simp
   by_cases hq:∃ e∈l,(key e==n)=true
   · obtain ⟨bs',lo',rest,k1,k2,k3,k4,k5,k6⟩:=CE (E:=E) (T:=T) (val:=val) hz hz0 hzero tidx vidx tdel vdel (es:=l) (b:=bs.length+3) (cap:=none) (f:=clos) (caps:=[.ptr (bs.length+1) 0,.ptr bs.length 0]) (q:=fun e=>key e==n) (h:=⟨bs++[.cells [.d (u64 n)],.cells [.fn idf []],.cells [],.cells (flat (l.map cells))],min lo (bs.length+2)⟩) hbF hlen (fun e he bs2 lo2 _ ho=>hcall e he bs2 lo2 (by simpa using ho)) hq;refine ⟨.row (bs.length+3) 0 (l.filter fun e=>!(key e==n)).length none z,bs',lo',?_,.inr (.inr ⟨rfl,hne,by simp,by simp at k2 ⊢; omega,?_,rest,by simpa using k4,k6⟩)⟩
     · simp [ae,woQ,Sl.d,hcl,k1]
     · intro x hx;simp at hx;rw [k3 x (by omega) (by simp; omega)];have:∀ ys:List Blk,ys=bs++[.cells [.d (u64 n)],.cells [.fn idf []],.cells []]->(bs++[.cells [.d (u64 n)],.cells [.fn idf []],.cells [],.cells (flat (l.map cells))])[x]?=ys[x]?:=by
        rintro ys rfl;rw [show bs++[.cells [.d (u64 n)],.cells [.fn idf []],.cells [],.cells (flat (l.map cells))]=(bs++[.cells [.d (u64 n)],.cells [.fn idf []],.cells []])++[.cells (flat (l.map cells))] by simp,ao (by simp; omega)]
       exact this _ (by simp)
   · have hall:∀ e∈l,(key e==n)=false:=by
      intro e he;cases hh:(key e==n) with
      | false=>rfl
      | true=>exact absurd ⟨e,he,hh⟩ hq
     have hK:l.filter (fun e=>!(key e==n))=l:=List.filter_eq_self.2 fun e he=>by simp [hall e he]
     have h1:=pJ (E:=E) (T:=T) (val:=val) cells (es:=l) (z:=z) (idx:=idx) (zero:=zero) tidx vidx tdel vdel (v:=.row (bs.length+3) 0 l.length none z) (f:=clos) (caps:=[.ptr (bs.length+1) 0,.ptr bs.length 0]) (q:=fun e=>key e==n) (h:=⟨bs++[.cells [.d (u64 n)],.cells [.fn idf []],.cells [],.cells (flat (l.map cells))],min lo (bs.length+2)⟩)
      ⟨by simp; intro a _; exact hz a,.inr ⟨bs.length+3,0,none,_,by simp,hbF,by
       rw [eY,if_pos (by rw [eH hz]; simp),List.drop_zero,bx,← eH hz,List.take_length]; rfl⟩⟩ hlen (fun e he lo2=>hcall e he _ lo2 fun _ _ _=>rfl) hall
     rw [hK];refine ⟨.row (bs.length+3) 0 l.length none z,bs++[.cells [.d (u64 n)],.cells [.fn idf []],.cells [],.cells (flat (l.map cells))],min lo (bs.length+2),?_,.inr (.inr ⟨rfl,hne,by simp,by simp,?_,[],by
      have e:(bs++[Blk.cells [V.d (u64 n)],.cells [.fn idf []]]).length+1=bs.length+3:=by simp
      rw [e,hbF]; simp,by simp⟩)⟩
     · simp [ae,woQ,Sl.d,hcl,h1]
     · intro x hx;simp at hx;have:∀ ys:List Blk,ys=bs++[.cells [.d (u64 n)],.cells [.fn idf []],.cells []]->(bs++[.cells [.d (u64 n)],.cells [.fn idf []],.cells [],.cells (flat (l.map cells))])[x]?=ys[x]?:=by
        rintro ys rfl;rw [show bs++[.cells [.d (u64 n)],.cells [.fn idf []],.cells [],.cells (flat (l.map cells))]=(bs++[.cells [.d (u64 n)],.cells [.fn idf []],.cells []])++[.cells (flat (l.map cells))] by simp,ao (by simp; omega)]
       exact this _ (by simp)
theorem S_wo_ref {α:Type}{cells:α->List V}{z b cl clos del idx idf wo:Nat}{zero:List V}{key:α->Int}(tcl:T cl=some (cloneQ z b zero))(vcl:val cl=false)(tdel:T del=some (delQ z idx zero))(vdel:val del=false)(tidx:T idx=some (idxQ z))(vidx:val idx=false)
 (tc:T clos=some (woCQ z)) (vc:val clos=false) (two:T wo=some (woQ cl clos del)) (vwo:val wo=false) (hz:∀ x,(cells x).length=z) (hz0:0<z) (hzero:zero.length=z) (hb:b<=4096) {nl:Bool} {l:List α} (hs:l.length<=big/\(nl=true->l=[])) (hid:∀ e∈l,∀ h,Sm E T val idf [.agg (cells e)] h=some (.d (u64 (key e)),h)) (n:Int) (h:Hp) {a:V} (ha:ArgIs h.bs a z nl (l.map cells)) :
 ∃ r bs' lo',Sm E T val wo [a,.d (u64 n),.fn idf []] h=some (.tup [r,bl (decide ((l.filter fun e=>!(key e==n)).length<l.length))],⟨bs',lo'⟩)/\h.bs.length<=bs'.length/\(∀ x,x<h.bs.length->bs'[x]?=h.bs[x]?) ∧
  ((nl=true/\(l.filter fun e=>!(key e==n))=[]/\r=.d (.slice true []))\/(∃ B,(l.filter fun e=>!(key e==n))=[]/\h.bs.length<=B/\r=.row B 0 0 (some 0) z/\af bs' B=some []) ∨
   (∃ B rest q,h.bs.length<=B/\r=.row B 0 (l.filter fun e=>!(key e==n)).length none z/\af bs' B=some (flat ((l.filter fun e=>!(key e==n)).map cells)++rest)/\rest.length=q * z/\0<(l.filter fun e=>!(key e==n)).length+q)):=by
 obtain ⟨r,bs',lo',k1,k2⟩:=WW (E:=E) (T:=T) (val:=val) tcl vcl tdel vdel tidx vidx tc vc hz hz0 hzero hb hs hid n h.bs h.bs.length ha;have hfl:(l.filter fun e=>!(key e==n)).length<=l.length:=List.length_filter_le _ _;generalize hK:l.filter (fun e=>!(key e==n))=K at *;rw [aN two vwo,k1,bY];rcases k2 with ⟨h1,h2,h3,h4,h5⟩ | ⟨h1,h2,h3,h4,h5,h6⟩ | ⟨h1,h2,h3,h4,h5,rest,h6,h7⟩
 · refine ⟨r,h.bs,h.low,?_,bp _,fun _ _=>rfl,.inl ⟨h1,h2,h3⟩⟩;rw [if_pos ⟨by simp [h5],by subst h3; rfl⟩]
 · refine ⟨r,bs',min h.low lo',?_,by rw [h5]; simp,fun x hx=>?_,.inr (.inl ⟨_,h3,?_,h4,?_⟩)⟩
   · rw [if_neg (fun hh=>by have hu:=hh.2; subst h4; exact yF (by simp) hu)]
   · rw [h5,List.append_assoc,ao hx]
   · simp
   · rw [h5]; simp [af]
 · refine ⟨r,bs',min h.low lo',?_,by simp at h4; omega,fun x hx=>?_,.inr (.inr ⟨_,rest,l.length-K.length,?_,h3,h6,h7,?_⟩)⟩
   · rw [if_neg (fun hh=>by have hu:=hh.2; subst h3; exact yF (by simp; omega) hu)]
   · rw [h5 x (by simp; omega),List.append_assoc,ao hx]
   · simp; omega
   · have:=List.length_pos_iff.2 h2;omega
end
end Vr
namespace Vr
section
variable {E:Calls'}{T:FuncId->Option QF}{val:FuncId->Bool}
theorem ArgIs.ok {bs:List Blk}{a:V}{z:Nat}{nl:Bool}{es:List (List V)}(h:ArgIs bs a z nl es):okV a=true/\nu a=some a:=by
 cases nl with
 | true=>rw [h.nil rfl]; exact ⟨rfl,rfl⟩
 | false=>obtain ⟨b,cap,_,h1,_⟩:=h.row rfl; rw [h1]; exact ⟨rfl,rfl⟩
theorem S_wiR {α:Type}{cells:α->List V}{z b cl clos del idx idf wo wi g srt p:Nat}{zero:List V}{key:α->Int}(tcl:T cl=some (cloneQ z b zero))(vcl:val cl=false)(tdel:T del=some (delQ z idx zero))(vdel:val del=false)(tidx:T idx=some (idxQ z))(vidx:val idx=false)
 (tc:T clos=some (woCQ z)) (vc:val clos=false) (two:T wo=some (woQ cl clos del)) (vwo:val wo=false) (twi:T wi=some (wiQ z b wo g srt zero)) (vwi:val wi=false) (tsrt:T srt=none) (hE:∀ args h,E srt args h=fB ⟨z,p,g,idf⟩ args h)
 (hz:∀ x,(cells x).length=z) (hz0:0<z) (hzero:zero.length=z) (hb:b<=4096) (hkey:∀ x,(cells x)[p]?=some (.d (.int .u64 (key x)))) {nl:Bool} {l:List α} (hs:l.length<=big/\(nl=true->l=[])) (hl:l.length<big) (hnd:(l.map key).Nodup) {x:α}
 (hid:∀ e,e∈l\/e=x->∀ h,Sm E T val idf [.agg (cells e)] h=some (.d (u64 (key e)),h)) (base:List Blk) (lo:Nat) {a:V} (ha:ArgIs base a z nl (l.map cells)) :
 ∃ B cap bs' lo' rest,Sm E T val wi [a,.agg (cells x),.fn idf []] ⟨base,lo⟩=some (.row B 0 (dE key x l).length cap z,⟨bs',lo'⟩)/\base.length<=B/\af bs' B=some (flat ((dE key x l).map cells)++rest)/\∀ y,y<base.length->bs'[y]?=base[y]?:=by
 have hix:=hid x (.inr rfl);obtain ⟨oka,nua⟩:=ha.ok;obtain ⟨r,bs1,lo1,k1,k2,k3,k4⟩:=S_wo_ref (E:=E) (T:=T) (val:=val) tcl vcl tdel vdel tidx vidx tc vc two vwo hz hz0 hzero hb hs (fun e he=>hid e (.inl he)) (key x) ⟨base++[.cells (cells x),.cells [.fn idf []]],base.length+2⟩ (ha.lay _);simp only [ap,cf,cg] at k2 k3 k4;have hfl:(l.filter fun e=>!(key e==key x)).length<=l.length:=List.length_filter_le _ _;have hndK:((l.filter fun e=>!(key e==key x)).map key).Nodup:=List.Pairwise.sublist (List.Sublist.map key List.filter_sublist) hnd;have hxK:∀ e∈l.filter (fun e=>!(key e==key x)),key e≠key x:=fun e he=>by simpa using (List.mem_filter.1 he).2
 have hput:dE key x l=((l.filter fun e=>!(key e==key x))++[x]).mergeSort fun a b=>decide (key a<=key b):=rfl;generalize l.filter (fun e=>!(key e==key x))=K at *;generalize dE key x l=PL at *;have hw:∀ e∈K.map cells,e.length=z:=by simp; intro a _; exact hz a
 have hndL:((K++[x]).map key).Nodup:=by
  rw [List.map_append,List.nodup_append];refine ⟨hndK,by simp,?_⟩;intro a ha b hb hab;obtain ⟨e,he,rfl⟩:=b9.1 ha;simp at hb;exact hxK e he (hab.trans hb)
 have hsrc:af (bs1++[.cells (cells x)]) bs1.length=some (cells x):=by rw [di]; rfl
 obtain ⟨B,cap,bs2,rest2,f,a1,a2,a3,a4⟩:=Hd (bs:=bs1++[.cells (cells x)]) (by_:=b) (K:=K.map cells) (v:=r) (x:=cells x) hw (hz x) hz0 hb (by simp; omega) hsrc (c:=some 1) (m:=base.length+2) (by
  rcases k4 with ⟨q1,q2,q3⟩ | ⟨B,q1,q2,q3,q4⟩ | ⟨B,rest,q,q1,q2,q3,q4,q5⟩
  · exact .inl ⟨by rw [q2]; rfl,q3⟩
  · exact .inr (.inl ⟨B,by rw [q1]; rfl,by simpa using q2,q3,ax q4⟩)
  · exact .inr (.inr ⟨B,rest,q,by simpa using q1,by simpa using q2,ax q3,q4,by simpa using q5⟩)) (by simp; omega)
 have hold:∀ y,y<base.length+2->bs2[y]?=(base++[Blk.cells (cells x),.cells [.fn idf []]])[y]?:=fun y hy=>by
  rw [a4 y hy,ao (by omega),k3 y (by omega)]
 have hc:af bs2 (base.length+1)=some [.fn idf []]:=by
  unfold af; rw [hold _ (by omega)]; simp
 have hs':=fun lo2=>GD (g:=g) (idf:=idf) hz hkey (L:=K++[x]) hndL (by simp) (by simp; simp only [big] at hl; omega) (h:=⟨bs2,lo2⟩) (b:=B) (c:=base.length+1) (cap:=cap) (rest:=rest2) (by simpa using a3) hc (by omega);rw [← hput] at hs';have hsm:∀ lo2,Sm E T val srt [.row B 0 (K.length+1) cap z,.fn g [.ptr (base.length+1) 0]] ⟨bs2,lo2⟩=some (.tup [],⟨bs2.set B (.cells (flat (PL.map cells)++rest2)),min lo2 B⟩):=by
  intro lo2;rw [bC tsrt,hE];simpa using hs' lo2
 have hbl:=aI a3;have hpl:PL.length=K.length+1:=by rw [hput]; simp
 have hf1:∀ {ev:X->V} {t:X},ev t=.agg (cells x)->aH ev zero [(0,z,t)]=some (cells x):=fun he=>Fw hzero (by simp [hz x]) he;have hsub:sub (cells x) 0 z=some (cells x):=bH (hz x);have hb10:af bs1 base.length=some (cells x):=by
  unfold af; rw [k3 _ (by omega)]; simp
 simp only [bx] at a1;have hnu:nu r=some r:=by
  rcases k4 with ⟨q1,q2,q3⟩ | ⟨B,q1,q2,q3,q4⟩ | ⟨B,rest,q,q1,q2,q3,q4,q5⟩<;>rw [‹r=_›]<;>rfl
 have hap:∀ (pr:List (List Nat)) (L N:Nat) (bl:Bl) (bg:Bool),pr=[[],[],[],[1,2],[],[0,4,3,1,2],[5,0,4,3,1,2],[6,5,0,4,3,1,2],[6,5,0,4,3,1,2],[7,6,5,0,4,3,1,2],[8,9,7,6,5,0,4,3,1,2]] →
  aT pr [⟨false,false,[],[],L,L,0⟩,⟨false,false,[base.length+1],[],L,L,0⟩,⟨false,false,[base.length],[],L,L,0⟩,⟨true,false,[],[],L,L,0⟩,⟨false,false,[base.length+1],[],L,L,0⟩,⟨true,bg,[],[],L,N,bl⟩,
   ⟨false,false,[],[],N,N,0⟩,⟨false,false,[],[],N,N,0⟩,⟨false,false,[],[],N,N,0⟩,⟨false,false,[],[],N,N,0⟩,⟨false,false,[],[],N,N,0⟩]=true:=by
  rintro pr L N bl bg rfl;exact CJ 5 (by rfl) (by simp [Tr.mute])
 have hB:(Bd E T val (wiQ z b wo g srt zero) [a,.agg (cells x),.fn idf []] ⟨base,base.length⟩).map (fun o=>(o.1,o.2.bs))=some (.row B 0 (K.length+1) cap z,bs2.set B (.cells (flat (PL.map cells)++rest2))):=by
  by_cases c1:base.length+2<=lo1
  · by_cases c2:bs1.length=base.length+2
    · have hbb:bs1=base++[.cells (cells x),.cells [.fn idf []]]:=by
       refine List.ext_getElem? fun i=>?_;rcases ck i (base.length+2) with hi | hi
       · exact k3 i (by omega)
       · rw [bb (by omega),bb (by simpa using hi)]
      rw [hbb] at a1 hb10;simp at a1 hb10;simp +decide [wiQ,ae,ai,aa,av,hix,k1,c1,c2,oka,nua,hsub,hb10,hf1,a1,hsm,hnu,hap]
    · simp +decide [wiQ,ae,ai,aa,av,hix,k1,c1,c2,oka,nua,hsub,hb10,hf1,a1,hsm,hnu,hap]
  · simp +decide [wiQ,ae,ai,aa,av,hix,k1,c1,oka,nua,hsub,hb10,hf1,a1,hsm,hnu,hap]
 cases hbd:Bd E T val (wiQ z b wo g srt zero) [a,.agg (cells x),.fn idf []] ⟨base,base.length⟩ with
 | none=>rw [hbd] at hB; cases hB
 | some o =>
  obtain ⟨v,bs3,lo3⟩:=o;rw [hbd] at hB;simp at hB;obtain ⟨rfl,rfl⟩:=hB;refine ⟨B,cap,bs2.set B (.cells (flat (PL.map cells)++rest2)),min lo lo3,rest2,?_,by omega,?_,fun y hy=>?_⟩
  · rw [aN twi vwi];show dU ⟨base,lo⟩ (Bd E T val (wiQ z b wo g srt zero) [a,.agg (cells x),.fn idf []] ⟨base,base.length⟩)=_;rw [hbd,bY,if_neg (fun hh=>by have:=hh.2; simp [V.under] at this; omega),hpl]
  · simp [af,hbl]
  · rw [am (by omega),hold y (by omega),ao hy]
end
end Vr
section
variable {E:Calls'}{T:FuncId->Option QF}{val:FuncId->Bool}
theorem Vr.S_any {α:Type}(cells:α->List V){z:Nat}{idx id:FuncId}(hti:T idx=some (idxQ z))(hvi:val idx=false)(ht:T id=some (anyQ idx))(hv:val id=false){v:V}{es:List α}{f:FuncId}{caps:List V}{q:α->Bool}{h:Hp}(hr:Vr.RowIs h.bs v z (es.map cells))(hlen:es.length<2 ^ 62)
 (hf:∀ e∈es,∀ lo,Sm E T val f (.agg (cells e)::caps) ⟨h.bs,lo⟩=some (.d (.bool (q e)),⟨h.bs,lo⟩)):Sm E T val id [v,.fn f caps] h=some (bl (es.any q),h):=by
 have hokv:okV v=true:=by rcases hr.2 with ⟨nl,rfl,_⟩ | ⟨b,o,cap,cs,rfl,_⟩<;>rfl
 rw [CB ht hv hr.ok hokv (Vr.S_idx (h:=⟨h.bs,h.bs.length⟩) cells hti hvi hr hlen hf),kw]
theorem CW {h:Hp}{k:Nat}{c:V}{d:D}(hd:dataV h k c=some d)(hn:∀ nl es,d≠.slice nl es):c=.d d:=by
 cases c with
 | d x=>rw [uM] at hd; cases hd; rfl
 | row b o n cap z =>
  cases k with
  | zero=>simp [dataV] at hd
  | succ k =>
   obtain ⟨l,rfl⟩:=ic hd;exact absurd rfl (hn _ _)
 | _=>cases k<;>simp [dataV] at hd
theorem C9 {h:Hp}{r:V}{b:Bool}(hr:bQ h r=some (bl b)):r=bl b:=by
 cases r with
 | d x=>simpa using hr
 | row b' o n cap z =>
  exfalso;simp only [bQ] at hr;cases hd:dataV h 8 (.row b' o n cap z) with
  | none=>rw [hd] at hr; cases hr
  | some d =>
   rw [hd] at hr;obtain ⟨l,rfl⟩:=ic hd;cases hr
 | ptr b' o=>simp [bQ,dataV] at hr
 | eptr cs o=>simp [bQ,dataV] at hr
 | undef=>simp [bQ] at hr
 | fn f cs=>cases cs<;>simp [bQ] at hr
 | mfn f cs=>simp [bQ,dataV] at hr
 | agg cs =>
  simp only [bQ] at hr;split at hr<;>cases hr
 | tup vs=>simp [bQ,dataV] at hr
theorem um {h:Hp}:∀ {cs:List V} {p:List D},bW h cs=some p->(∀ d∈p,∀ nl es,d≠.slice nl es)->cs=p.map .d
 | [],p,hc,_=>by simp at hc; subst hc; rfl
 | c::cs,p,hc,hp=>by
  simp only [bW,List.mapM_cons] at hc;cases h1:dataV h 8 c with
  | none=>rw [h1] at hc; cases hc
  | some d =>
   rw [h1] at hc;cases h2:cs.mapM (dataV h 8) with
   | none=>rw [h2] at hc; cases hc
   | some ds =>
    rw [h2] at hc;simp at hc;subst hc;rw [CW h1 (hp d (by simp)),um (p:=ds) h2 fun d hd=>hp d (by simp [hd])];rfl
theorem FC {h:Hp}{r:V}{p:List D}(hp:∀ d∈p,∀ nl es,d≠.slice nl es)(hr:bQ h r=some (ag p)):r=ag p:=by
 cases r with
 | d x=>simp at hr; cases hr
 | row b' o n cap z =>
  exfalso;simp only [bQ] at hr;cases hd:dataV h 8 (.row b' o n cap z) with
  | none=>rw [hd] at hr; cases hr
  | some d=>rw [hd] at hr; cases hr
 | ptr b' o=>simp [bQ,dataV] at hr
 | eptr cs o=>simp [bQ,dataV] at hr
 | undef=>simp [bQ] at hr; cases hr
 | fn f cs=>cases cs with
  | nil=>simp [bQ] at hr; cases hr
  | cons _ _=>simp [bQ] at hr
 | mfn f cs=>simp [bQ,dataV] at hr
 | agg cs =>
  rw [Ij] at hr;cases hc:bW h cs with
  | none=>rw [hc] at hr; cases hr
  | some l =>
   rw [hc] at hr;have:l=p:=by
    have h2:ag l=ag p:=by simpa using hr
    have h3:l.map V.d=p.map V.d:=by
     have:=congrArg (fun v=>match v with | V.agg cs=>cs | _=>[]) h2;exact this
    exact (List.map_inj_right (fun a b h=>by cases h; rfl)).1 h3
   subst this;rw [um hc hp];rfl
 | tup vs=>simp [bQ,dataV] at hr
theorem Ga {h:Hp}{p:List D}{b:Bool}(hp:∀ d∈p,∀ nl es,d≠.slice nl es):ownR h (.tup [ag p,bl b])=true:=by
 have h1:∀ d∈p,ll h 8 (.d d)=true:=fun d hd=>by
  cases d with
  | slice nl es=>exact absurd rfl (hp _ hd nl es)
  | _=>rfl
 simp only [ownR,List.all_cons,List.all_nil,Bool.and_true,aq];refine ⟨?_,rfl⟩;show (p.map V.d).all (ll h 8)=true;rw [ch];intro v hv;obtain ⟨d,hd,rfl⟩:=b9.1 hv;exact h1 d hd
theorem Cq {f:FuncId}{q:QF}(ht:T f=some q)(hv:val f=true){l p:List D}{x:D}{b:Bool}(hp:∀ d∈p,∀ nl es,d≠.slice nl es)(h0:∀ h,Sm E T val f [ag l,.d x] h=some (.tup [ag p,bl b],h)){a:V}{h:Hp}(ha:frz h a=some (ag l)):Sm E T val f [a,.d x] h=some (.tup [ag p,bl b],h):=by
 have h1:=h0 h;rw [aV ht hv] at h1 ⊢;simp only [List.mapM_cons,List.mapM_nil,lg,Da,ha,Option.pure_def,Option.bind_eq_bind,Option.bind_some,lq,zX] at h1 ⊢;cases hB:Bd E T val q [ag l,.d x] ⟨[],0⟩ with
 | none=>rw [hB] at h1; cases h1
 | some o =>
  obtain ⟨r,h'⟩:=o;rw [hB] at h1;simp only [Co] at h1 ⊢;cases hr:frz h' r with
  | none=>rw [hr] at h1; cases h1
  | some r' =>
   rw [hr] at h1;have e1:r'=.tup [ag p,bl b]:=by
    simp at h1; exact h1
   subst e1;have hrr:r=.tup [ag p,bl b]:=by
    cases r with
    | tup vs =>
     rw [KC] at hr;cases hm:vs.mapM (bQ h') with
     | none=>rw [hm] at hr; cases hr
     | some ws =>
      rw [hm] at hr;have hw:ws=[ag p,bl b]:=by simpa using hr
      subst hw
      match vs,hm with
      | [],hm=>simp at hm
      | [v1],hm =>
       simp only [List.mapM_cons,List.mapM_nil,Option.pure_def,Option.bind_eq_bind] at hm;cases q1:bQ h' v1<;>rw [q1] at hm<;>simp at hm
      | v1::v2::v3::t,hm =>
       simp only [List.mapM_cons,Option.pure_def,Option.bind_eq_bind] at hm;cases q1:bQ h' v1<;>cases q2:bQ h' v2<;>cases q3:bQ h' v3<;>cases q4:t.mapM (bQ h')<;>rw [q1] at hm<;>simp [q2,q3,q4] at hm
      | [v1,v2],hm =>
       simp only [List.mapM_cons,List.mapM_nil,Option.pure_def,Option.bind_eq_bind] at hm;cases q1:bQ h' v1 with
       | none=>rw [q1] at hm; simp at hm
       | some w1 =>
        cases q2:bQ h' v2 with
        | none=>rw [q1,q2] at hm; simp at hm
        | some w2 =>
         rw [q1,q2] at hm;simp at hm;obtain ⟨rfl,rfl⟩:=hm;rw [FC hp q1,C9 q2]
    | d y=>simp at hr
    | row b' o n cap z =>
     exfalso;simp only [frz,bQ] at hr;cases hd:dataV h' 8 (.row b' o n cap z) with
     | none=>rw [hd] at hr; cases hr
     | some d=>rw [hd] at hr; cases hr
    | ptr b' o=>simp [frz,bQ,dataV] at hr
    | eptr cs o=>simp [frz,bQ,dataV] at hr
    | undef=>simp [frz,bQ] at hr
    | fn f cs=>cases cs<;>simp [frz,bQ] at hr
    | mfn f cs=>simp [frz,bQ,dataV] at hr
    | agg cs =>
     exfalso;simp only [frz,bQ] at hr;split at hr<;>cases hr
   subst hrr;simp [Ga hp]
end
section
variable {E:Calls'}{T:FuncId->Option QF}{val:FuncId->Bool}
def Ha (E:Calls')(T:FuncId->Option QF)(val:FuncId->Bool)(l:List Pod)(p:Pod)(a:V)(base:List Blk):Prop :=
 ∃ B cap bs' lo' rest,Sm E T val 97 [a,ag p.c,.fn 50 []] ⟨base,base.length⟩=some (.row B 0 (dE Pod.uid p l).length cap 7,⟨bs',lo'⟩)/\base.length<=B/\af bs' B=some (Vr.flat ((dE Pod.uid p l).map fun x=>x.c.map V.d)++rest)/\∀ y,y<base.length->bs'[y]?=base[y]?
theorem Sb (JM:T 48=some wK)(VF:val 48=false)(c:Cfg)(l:List Pod)(p:Pod){v4 v5 v6 v7:V}{b:Nat}{base:List Blk}(hb:af base b=some (cq c v4 v5 v6 v7))(h4:okV v4=true/\nu v4=some v4)
 (hw:Ha E T val l { p with uid:=c.next } v4 (base.set b (.cells (cq { c with next:=wrap .u64 (c.next+1) } v4 v5 v6 v7))++[.cells (({ p with uid:=c.next }:Pod).c.map .d)])) :
 ∃ B cap bs' lo3 rest,(∀ lo,Sm E T val 48 [.ptr b 0,ag p.c] ⟨base,lo⟩=some (.tup [],⟨bs',min lo lo3⟩))/\base.length<=B/\af bs' B=some (Vr.flat ((dE Pod.uid { p with uid:=c.next } l).map fun x=>x.c.map V.d)++rest) ∧
  af bs' b=some (cq { c with next:=wrap .u64 (c.next+1) } (.row B 0 (dE Pod.uid { p with uid:=c.next } l).length cap 7) v5 v6 v7)/\base.length<=bs'.length/\lo3<=b/\∀ y,y<base.length->y≠b->bs'[y]?=base[y]?:=by
 obtain ⟨B,cap,b2,lo2,rest,a,aB,aG,aO⟩:=hw;have hbl:=aI hb
 let cN:Cfg:={ c with next:=wrap .u64 (c.next+1) }
 let q:Pod:={ p with uid:=c.next }
 simp only [ap,List.length_set,cf,cg,Nat.zero_add] at aB aO a;have a':Sm E T val 97 [v4,ag q.c,.fn 50 []] ⟨base.set b (.cells (cq cN v4 v5 v6 v7))++[Blk.cells (q.c.map .d)],base.length+1⟩=some (.row B 0 (dE Pod.uid q l).length cap 7,⟨b2,lo2⟩):=a;have hg:af (base++[Blk.cells (p.c.map .d)]) b=some (cq c v4 v5 v6 v7):=ax hb;have hs:∀ A:List V,(base++[Blk.cells A]).set b (.cells (cq cN v4 v5 v6 v7))=base.set b (.cells (cq cN v4 v5 v6 v7))++[Blk.cells A]:=fun A=>List.set_append_left _ _ hbl;have hgq:∀ A:List V,af (base++[Blk.cells A]) b=some (cq c v4 v5 v6 v7):=fun A=>ax hb;have hgn:∀ ys,af (base.set b (.cells (cq cN v4 v5 v6 v7))++ys) b=some (cq cN v4 v5 v6 v7):=fun ys=>ax (aK hb);have hgp:∀ A:List V,af (base.set b (.cells (cq cN v4 v5 v6 v7))++[Blk.cells A]) base.length=some A:=fun A=>by
  have:=di (bs:=base.set b (.cells (cq cN v4 v5 v6 v7))) (ys:=[Blk.cells A]);rw [List.length_set] at this;rw [this]; rfl
 have g2:af b2 b=some (cq cN v4 v5 v6 v7):=aX (aO b (by omega)) (hgn _);have hp0:put (p.c.map V.d) 0 [.d (u64 c.next)]=some (q.c.map .d):=rfl;have hcp:put (cq c v4 v5 v6 v7) 1 [.d (u64 (wrap .u64 (c.next+1)))]=some (cq cN v4 v5 v6 v7):=rfl;have hs1:sub (cq c v4 v5 v6 v7) 1 1=some [.d (u64 c.next)]:=rfl;have hbn:b≠base.length:=by omega
 have hB:(Bd E T val wK [.ptr b 0,ag p.c] ⟨base,base.length⟩).map (fun o=>(o.1,o.2.bs,decide (o.2.low<=b)))=some (.tup [],b2.set b (.cells (cq cN (.row B 0 (dE Pod.uid q l).length cap 7) v5 v6 v7)),true):=by
  have e1:b2.length=base.length+1->b2=base.set b (.cells (cq cN v4 v5 v6 v7))++[Blk.cells (q.c.map .d)]:=fun hh=>by
   refine List.ext_getElem? fun i=>?_;rcases ck i (base.length+1) with hi | hi
   · exact aO i hi
   · rw [bb (by omega),bb (by simpa using hi)]
  by_cases c1:base.length+1<=lo2
  · by_cases c2:b2.length=base.length+1
    · exfalso;have:=aI aG;omega
    · simp +decide [wK,ae,hg,hgq,hs,hgn,hgp,hp0,hcp,hs1,h4.1,h4.2,ai,aa,av,a',c1,c2,g2,cs4,cq4,cql,bG,aT,List.range,List.range.loop,Tr.spares];omega
  · simp +decide [wK,ae,hg,hgq,hs,hgn,hgp,hp0,hcp,hs1,h4.1,h4.2,ai,aa,av,a',c1,g2,cs4,cq4,cql,bG,aT,List.range,List.range.loop,Tr.spares];omega
 cases hbd:Bd E T val wK [.ptr b 0,ag p.c] ⟨base,base.length⟩ with
 | none=>rw [hbd] at hB; cases hB
 | some o =>
  obtain ⟨v,bs3,lo3⟩:=o;rw [hbd] at hB;simp at hB;obtain ⟨rfl,rfl,hlo⟩:=hB;refine ⟨B,cap,b2.set b (.cells (cq cN (.row B 0 (dE Pod.uid q l).length cap 7) v5 v6 v7)),lo3,rest,fun lo=>?_,by omega,(aS (by omega)).trans aG,aK g2,?_,by omega,fun y hy hne=>?_⟩
  · rw [aN JM VF];show dU ⟨base,lo⟩ (Bd E T val wK [.ptr b 0,ag p.c] ⟨base,base.length⟩)=_;rw [hbd,bY,if_neg (fun hh=>by have:=hh.1; simp at this; omega)]
  · have:=aI aG;simp; omega
  · rw [am (Ne.symm hne),aO y (by omega),ao (by simpa using hy),am (Ne.symm hne)]
theorem Sc (t91:T 22=some q91)(v91:val 22=false)(e:Edt)(hk:e.kind=1){b:Nat}{base bs':List Blk}{lo':Nat}(lo:Nat)(hb:b<base.length)(hlo:lo'<=b)
 (h189:Sm E T val 48 [.ptr b 0,ag e.pod.c] ⟨base++[.cells (e.c.map .d)],base.length⟩=some (.tup [],⟨bs',lo'⟩)):∃ lo2,Sm E T val 22 [.ptr b 0,ag e.c] ⟨base,lo⟩=some (.d (i64 0),⟨bs',lo2⟩)/\lo2<=b:=by
 have hge:af (base++[Blk.cells (e.c.map .d)]) base.length=some (e.c.map .d):=by simp
 have hB:Bd E T val q91 [.ptr b 0,ag e.c] ⟨base,base.length⟩=some (.d (i64 0),⟨bs',lo'⟩):=by
  simp +decide [q91,ae,hge,hk,h189,ai,aa,av,bG]
 refine ⟨min lo lo',?_,by omega⟩;rw [aN t91 v91];show dU ⟨base,lo⟩ (Bd E T val q91 [.ptr b 0,ag e.c] ⟨base,base.length⟩)=_;rw [hB,bY,if_neg (fun hh=>by have:=hh.1; simp at this; omega)]
end
set_option maxHeartbeats 4000000
section
variable {E:Calls'}{T:FuncId->Option QF}{val:FuncId->Bool}
theorem uA (t91:T 22=some q91)(v91:val 22=false){e:Edt}{b:Nat}{base B:List Blk}{v:V}(hB:(Bd E T val q91 [.ptr b 0,ag e.c] ⟨base,base.length⟩).map (fun o=>(o.1,o.2.bs,decide (o.2.low<=b)))=some (v,B,true))(hb:b<base.length)(lo:Nat):∃ lo3,Sm E T val 22 [.ptr b 0,ag e.c] ⟨base,lo⟩=some (v,⟨B,lo3⟩)/\lo3<=b:=by
 cases hbd:Bd E T val q91 [.ptr b 0,ag e.c] ⟨base,base.length⟩ with
 | none=>rw [hbd] at hB; cases hB
 | some o =>
  obtain ⟨v,bs3,lo3⟩:=o;rw [hbd] at hB;simp only [Option.map_some,bd,co,br] at hB;obtain ⟨rfl,rfl,hlo⟩:=hB;refine ⟨min lo lo3,?_,by omega⟩;rw [aN t91 v91];show dU ⟨base,lo⟩ (Bd E T val q91 [.ptr b 0,ag e.c] ⟨base,base.length⟩)=_;rw [hbd,bY,if_neg (fun hh=>by have:=hh.1; simp at this; omega)]
theorem yg {e:Edt}{X:List V}{b:Nat}{base b2:List Blk}(hb:af base b=some X)(hold:∀ x,x<base.length+1->b2[x]?=(base++[Blk.cells (e.c.map .d)])[x]?):b<base.length/\af (base++[Blk.cells (e.c.map .d)]) base.length=some (e.c.map .d)/\af (base++[Blk.cells (e.c.map .d)]) b=some X/\af b2 b=some X/\(b2=base++[Blk.cells (e.c.map .d)]/\True\/True/\¬ b2.length=base.length+1):=by
 have hbl:=aI hb;have hgb:af (base++[Blk.cells (e.c.map .d)]) b=some X:=ax hb;refine ⟨hbl,by simp,hgb,aX (hold b (by omega)) hgb,?_⟩;by_cases hh:b2.length=base.length+1
 · refine .inl ⟨List.ext_getElem? fun i=>?_,trivial⟩;rcases ck i (base.length+1) with hi | hi
   · exact hold i hi
   · rw [bb (by omega),bb (by simpa using hi)]
 · exact .inr ⟨trivial,hh⟩
theorem Sd (t91:T 22=some q91)(v91:val 22=false)(c:Cfg)(e:Edt)(hk:e.kind=2){v4 v5 v6 v7 r:V}{w:Bool}{b:Nat}{base b2:List Blk}{lo2:Nat}(lo:Nat)(hb:af base b=some (cq c v4 v5 v6 v7))(hv:okV v4=true/\nu v4=some v4)(hr:okV r=true/\nu r=some r/\r.cells=some [r])
 (hw:Sm E T val 49 [v4,.d (u64 e.id),.fn 50 []] ⟨base++[.cells (e.c.map .d)],base.length+1⟩=some (.tup [r,bl w],⟨b2,lo2⟩)) (hlen:base.length+1<=b2.length) (hold:∀ x,x<base.length+1->b2[x]?=(base++[Blk.cells (e.c.map .d)])[x]?) :
 ∃ lo3,Sm E T val 22 [.ptr b 0,ag e.c] ⟨base,lo⟩=some (.d (i64 (if w then 0 else 4)),⟨b2.set b (.cells (cq c r v5 v6 v7)),lo3⟩)/\lo3<=b:=by
 obtain ⟨hbl,hge,hgb,g2,hbb⟩:=yg (e:=e) hb hold;refine uA t91 v91 ?_ hbl lo;rcases hbb with ⟨rfl,c2⟩ | ⟨_,c2⟩<;>by_cases c1:base.length+1<=lo2<;>cases w<;>simp +decide [q91,ae,hge,hgb,g2,hk,hw,c1,c2,hv,hr,cqs,cqp,ai,aa,av,bG,aT,List.range,List.range.loop,Tr.spares]<;>omega
theorem Sr (t91:T 22=some q91)(v91:val 22=false)(c:Cfg)(e:Edt)(hk:e.kind=9){v4 v5 v6 v7 r:V}{w:Bool}{b:Nat}{base b2:List Blk}{lo2:Nat}(lo:Nat)(hb:af base b=some (cq c v4 v5 v6 v7))(hv:okV v7=true/\nu v7=some v7)(hr:okV r=true/\nu r=some r/\r.cells=some [r])
 (hw:Sm E T val 66 [v7,.d (u64 e.id),.fn 65 []] ⟨base++[.cells (e.c.map .d)],base.length+1⟩=some (.tup [r,bl w],⟨b2,lo2⟩)) (hlen:base.length+1<=b2.length) (hold:∀ x,x<base.length+1->b2[x]?=(base++[Blk.cells (e.c.map .d)])[x]?) :
 ∃ lo3,Sm E T val 22 [.ptr b 0,ag e.c] ⟨base,lo⟩=some (.d (i64 (if w then 0 else 4)),⟨b2.set b (.cells (cq c v4 v5 v6 r)),lo3⟩)/\lo3<=b:=by
 obtain ⟨hbl,hge,hgb,g2,hbb⟩:=yg (e:=e) hb hold;refine uA t91 v91 ?_ hbl lo;rcases hbb with ⟨rfl,c2⟩ | ⟨_,c2⟩<;>by_cases c1:base.length+1<=lo2<;>cases w<;>simp +decide [q91,ae,hge,hgb,g2,hk,hw,c1,c2,hv,hr,cqs,cqp,ai,aa,av,bG,aT,List.range,List.range.loop,Tr.spares]<;>omega
end
set_option maxHeartbeats 4000000
section
variable {E:Calls'}{T:FuncId->Option QF}{val:FuncId->Bool}
theorem Si (t91:T 22=some q91)(v91:val 22=false)(c:Cfg)(e:Edt)(hk:e.kind=4){v4 v5 v6 v7 r:V}{b:Nat}{base b2:List Blk}{lo2:Nat}(lo:Nat)(hb:af base b=some (cq c v4 v5 v6 v7))(hv:okV v5=true/\nu v5=some v5)(hr:okV r=true/\nu r=some r/\r.cells=some [r])
 (hw:Sm E T val 52 [v5,ag e.svc.c,.fn 53 []] ⟨base++[.cells (e.c.map .d)],base.length+1⟩=some (r,⟨b2,lo2⟩)) (hlen:base.length+1<=b2.length) (hold:∀ x,x<base.length+1->b2[x]?=(base++[Blk.cells (e.c.map .d)])[x]?) :
 ∃ lo3,Sm E T val 22 [.ptr b 0,ag e.c] ⟨base,lo⟩=some (.d (i64 0),⟨b2.set b (.cells (cq c v4 r v6 v7)),lo3⟩)/\lo3<=b:=by
 obtain ⟨hbl,hge,hgb,g2,hbb⟩:=yg (e:=e) hb hold;refine uA t91 v91 ?_ hbl lo;rcases hbb with ⟨rfl,c2⟩ | ⟨_,c2⟩<;>by_cases c1:base.length+1<=lo2<;>simp +decide [q91,ae,hge,hgb,g2,hk,hw,c1,c2,hv,hr,cqs,cqp,ai,aa,av,bG,aT,List.range,List.range.loop,Tr.spares]<;>omega
theorem Sk (t91:T 22=some q91)(v91:val 22=false)(c:Cfg)(e:Edt)(hk:e.kind=6){v4 v5 v6 v7 r:V}{b:Nat}{base b2:List Blk}{lo2:Nat}(lo:Nat)(hb:af base b=some (cq c v4 v5 v6 v7))(hv:okV v6=true/\nu v6=some v6)(hr:okV r=true/\nu r=some r/\r.cells=some [r])
 (hw:Sm E T val 59 [v6,ag e.way.c,.fn 60 []] ⟨base++[.cells (e.c.map .d)],base.length+1⟩=some (r,⟨b2,lo2⟩)) (hlen:base.length+1<=b2.length) (hold:∀ x,x<base.length+1->b2[x]?=(base++[Blk.cells (e.c.map .d)])[x]?) :
 ∃ lo3,Sm E T val 22 [.ptr b 0,ag e.c] ⟨base,lo⟩=some (.d (i64 0),⟨b2.set b (.cells (cq c v4 v5 r v7)),lo3⟩)/\lo3<=b:=by
 obtain ⟨hbl,hge,hgb,g2,hbb⟩:=yg (e:=e) hb hold;refine uA t91 v91 ?_ hbl lo;rcases hbb with ⟨rfl,c2⟩ | ⟨_,c2⟩<;>by_cases c1:base.length+1<=lo2<;>simp +decide [q91,ae,hge,hgb,g2,hk,hw,c1,c2,hv,hr,cqs,cqp,ai,aa,av,bG,aT,List.range,List.range.loop,Tr.spares]<;>omega
end
set_option maxHeartbeats 4000000
section
variable {E:Calls'}{T:FuncId->Option QF}{val:FuncId->Bool}
theorem Sj (t91:T 22=some q91)(v91:val 22=false)(c:Cfg)(e:Edt)(hk:e.kind=5){v4 v5 v6 v7 r:V}{w u0 u1:Bool}{b:Nat}{base b2:List Blk}{lo2:Nat}(lo:Nat)(hb:af base b=some (cq c v4 v5 v6 v7))(hv:okV v5=true/\nu v5=some v5)(hr:okV r=true/\nu r=some r/\r.cells=some [r])
 (hu0:∀ lo,Sm E T val 54 [v4,.fn 55 [.ptr base.length 0]] ⟨base++[.cells (e.c.map .d)],lo⟩=some (bl u0,⟨base++[.cells (e.c.map .d)],lo⟩)) (hx0:okV v4=true/\nu v4=some v4)
 (hu1:∀ lo,Sm E T val 56 [v7,.fn 57 [.ptr base.length 0]] ⟨base++[.cells (e.c.map .d)],lo⟩=some (bl u1,⟨base++[.cells (e.c.map .d)],lo⟩)) (hx1:okV v7=true/\nu v7=some v7)
 (hw:Sm E T val 58 [v5,.d (u64 e.id),.fn 53 []] ⟨base++[.cells (e.c.map .d)],base.length+1⟩=some (.tup [r,bl w],⟨b2,lo2⟩)) (hlen:base.length+1<=b2.length) (hold:∀ x,x<base.length+1->b2[x]?=(base++[Blk.cells (e.c.map .d)])[x]?) :
 ∃ lo3,Sm E T val 22 [.ptr b 0,ag e.c] ⟨base,lo⟩=some (.d (i64 (if w then (if u0||u1 then 5 else 0) else 4)),⟨b2.set b (.cells (cq c v4 r v6 v7)),lo3⟩)/\lo3<=b:=by
 obtain ⟨hbl,hge,hgb,g2,hbb⟩:=yg (e:=e) hb hold;refine uA t91 v91 ?_ hbl lo;rcases hbb with ⟨rfl,c2⟩ | ⟨_,c2⟩<;>by_cases c1:base.length+1<=lo2<;>cases w<;>cases u0<;>cases u1<;>simp +decide [q91,ae,hge,hgb,g2,hk,hw,c1,c2,hv,hr,hu0,hx0,hu1,hx1,cqs,cqp,ai,aa,av,bG,aT,List.range,List.range.loop,Tr.spares]<;>omega
theorem Sn (t91:T 22=some q91)(v91:val 22=false)(c:Cfg)(e:Edt)(hk:e.kind=7){v4 v5 v6 v7 r:V}{w u0:Bool}{b:Nat}{base b2:List Blk}{lo2:Nat}(lo:Nat)(hb:af base b=some (cq c v4 v5 v6 v7))(hv:okV v6=true/\nu v6=some v6)(hr:okV r=true/\nu r=some r/\r.cells=some [r])
 (hu0:∀ lo,Sm E T val 61 [v5,.fn 62 [.ptr base.length 0]] ⟨base++[.cells (e.c.map .d)],lo⟩=some (bl u0,⟨base++[.cells (e.c.map .d)],lo⟩)) (hx0:okV v5=true/\nu v5=some v5)
 (hw:Sm E T val 63 [v6,.d (u64 e.id),.fn 60 []] ⟨base++[.cells (e.c.map .d)],base.length+1⟩=some (.tup [r,bl w],⟨b2,lo2⟩)) (hlen:base.length+1<=b2.length) (hold:∀ x,x<base.length+1->b2[x]?=(base++[Blk.cells (e.c.map .d)])[x]?) :
 ∃ lo3,Sm E T val 22 [.ptr b 0,ag e.c] ⟨base,lo⟩=some (.d (i64 (if w then (if u0 then 5 else 0) else 4)),⟨b2.set b (.cells (cq c v4 v5 r v7)),lo3⟩)/\lo3<=b:=by
 obtain ⟨hbl,hge,hgb,g2,hbb⟩:=yg (e:=e) hb hold;refine uA t91 v91 ?_ hbl lo;rcases hbb with ⟨rfl,c2⟩ | ⟨_,c2⟩<;>by_cases c1:base.length+1<=lo2<;>cases w<;>cases u0<;>simp +decide [q91,ae,hge,hgb,g2,hk,hw,c1,c2,hv,hr,hu0,hx0,cqs,cqp,ai,aa,av,bG,aT,List.range,List.range.loop,Tr.spares]<;>omega
end
