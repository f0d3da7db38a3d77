/- A rule's copy, as1 the document has it. -/
import Derived.Test.YtllbjfmiilckiaaGreatRa
set_option maxRecDepth 100000
set_option linter.unusedVariables false
set_option linter.unusedSimpArgs false
namespace Go.Proofs.YtllbjfmiilckiaaGreat
section
variable {E:Calls'}
def gG {α:Type}(s:Sl α):Sl α:=⟨false,s.l⟩
def bn {α:Type}(l:List α):Sl α:=⟨l.isEmpty,l⟩
def Source.cp (s:Source):Source:=⟨gG s.names,gG s.spaces,gG s.nets⟩
def Target.cp (t:Target):Target:=⟨gG t.ports,gG t.methods,gG t.paths,gG t.hosts⟩
def When.cp (w:When):When:=⟨w.head,gG w.terms⟩
def Rule.cp (r:Rule):Rule:=⟨bn (r.frm.l.map Source.cp),bn (r.to.l.map Target.cp),bn (r.whn.l.map When.cp)⟩
structure K3 (r:Rule) (ws:List V) (L:Nat) (B0 bs:List Blk):Prop where
 r0:ah bs 0=some (r.c.map .d)
 a0:ah bs 1=some [.d (.slice true []),.d (.slice true []),.d (.slice true [])]
 x0:ah bs 2=some ws
 L3:3<=L
 len:L<=bs.length
 old:∀ x,x<L->x≠2->bs[x]?=B0[x]?
theorem AccV.cl {w:Bool}{L z k n:Nat}{ds:List D}{bs:List Blk}{v:V}(h:AccV w L z k n ds bs v):v.cells=some [v]:=by
 obtain ⟨_,_,rfl⟩ | ⟨_,B,cs,_,rfl,_⟩:=h<;>rfl
theorem AccV.blk {w:Bool}{L z k n:Nat}{ds:List D}{bs:List Blk}{v:V}(h:AccV w L z k n ds bs v):v.blk=[]\/∃ B,v.blk=[B]/\L<=B/\B<bs.length:=by
 obtain ⟨_,_,rfl⟩ | ⟨_,B,cs,h1,rfl,h3,_⟩:=h
 . exact .inl rfl
 . exact .inr ⟨B,rfl,h1,aB h3⟩
theorem Hng.ext {w:Bool}{L L' k:Nat}{bs:List Blk}{v:V}{d:D}(h:Hng w (KL L bs) bs v d k)(ys:List Blk)(hL:L'<=L):Hng w (KL L' (bs++ys)) (bs++ys) v d k :=
 h.on (λx hx=>am hx.2) λx hx=>⟨cj hL hx.1,by have:=hx.2; simp; omega⟩
theorem Qj (r:Rule)(hr:r.fits big)(vT vW:V)(L:Nat)(B0:List Blk):∀ (m i:Nat) (bs:List Blk) (lo:Nat) (v:V),i+m=r.frm.l.length->K3 r [v,vT,vW] L B0 bs->AccV false L 3 1 i ((r.frm.l.take i).map λs=>s.cp.c).flatten bs v →
 ∃ bs' lo' v',Cd E TX bQ (.loop [1,2,3,4] qJ) [(1,.ptr 0 0),(2,.ptr 1 0),(3,.ptr 2 0),(4,.d (i64 i))] ⟨bs,lo⟩=some (.exit 0,[(1,.ptr 0 0),(2,.ptr 1 0),(3,.ptr 2 0)],⟨bs',lo'⟩)/\K3 r [v',vT,vW] L B0 bs'/\AccV false L 3 1 r.frm.l.length (r.frm.l.map λs=>s.cp.c).flatten bs' v':=by
 intro m;have hlen:=hr.1.1.lt;have key:=aC (E:=E) (T:=TX) (val:=bQ) [1,2,3,4] qJ;generalize Cd E TX bQ (.loop [1,2,3,4] qJ)=W at key ⊢
 induction m with
 | zero =>
  intro i bs lo v hi hK hA;have:i=r.frm.l.length:=by omega
  subst this;rw [List.take_length] at hA;refine ⟨bs,lo,v,?_,hK,hA⟩;rw [key];simp [qJ,hK.r0]
 | succ m ih =>
  intro i bs lo v hi hK hA;have hlt:i<r.frm.l.length:=by omega
  have hx:=ab hlt;have hmem:=bj hlt;have htk:r.frm.l.take (i+1)=r.frm.l.take i++[r.frm.l[i]]:=by rw [List.take_add_one,hx]; rfl
  generalize r.frm.l[i]=s at *;have hfs:=hr.1.2 s hmem;have hsx:=λh=>av (z:=3) h hx (cells:=Source.c) rfl;have hw:=ay hlt hlen;have h0:((i:Int)<r.frm.l.length):=by omega
  have hnu:=hA.nu;have hL3:=hK.L3;have hk3:=hK.len;have hr1:=aJ (ys:=[.cells (s.c.map .d)]) hK.r0;obtain ⟨v1,y1,a1,b1,c1,d1⟩:=cpy (cells:=Term.c) (z:=2) (by_:=24) (λ_=>rfl) (by decide) (by decide) hfs.1 (bs++[.cells (s.c.map .d)]);obtain ⟨v2,y2,a2,b2,c2,d2⟩:=cpy (cells:=Term.c) (z:=2) (by_:=24) (λ_=>rfl) (by decide) (by decide) hfs.2.1 (bs++[.cells (s.c.map .d)]++([.cells []]++y1));obtain ⟨v3,y3,a3,b3,c3,d3⟩:=cpy (cells:=Cidr.c) (z:=2) (by_:=16) (λ_=>rfl) (by decide) (by decide) hfs.2.2 (bs++[.cells (s.c.map .d)]++([.cells []]++y1)++([.cells []]++y2));obtain ⟨H,hH⟩:∃ H,H=bs++Blk.cells (List.map V.d s.c)::Blk.cells []::(y1++Blk.cells []::(y2++Blk.cells []::(y3++[Blk.cells [v1,v2,v3]]))):=⟨_,rfl⟩;have g1:=d1.ext (L':=bs.length) (([.cells []]++y2)++([.cells []]++y3)++[.cells [v1,v2,v3]]) (by simp);have g2:=d2.ext (L':=bs.length) (([.cells []]++y3)++[.cells [v1,v2,v3]]) (by simp);have g3:=d3.ext (L':=bs.length) ([.cells [v1,v2,v3]]) (by simp);have G1:Hng false (KL bs.length H) H v1 (.slice false (s.names.l.map Term.c)) 1:=by rw [hH]; simpa using g1
  have G2:Hng false (KL bs.length H) H v2 (.slice false (s.spaces.l.map Term.c)) 1:=by rw [hH]; simpa using g2
  have G3:Hng false (KL bs.length H) H v3 (.slice false (s.nets.l.map Cidr.c)) 1:=by rw [hH]; simpa using g3
  have hvs:Hngs false (KL bs.length H) H 1 [v1,v2,v3] s.cp.c:=⟨G1,G2,G3,trivial⟩;have hHp:∀ x,x<bs.length->H[x]?=bs[x]?:=λx hx=>by rw [hH,am hx]
  have hHl:bs.length<=H.length:=by rw [hH]; simp
  have hAH:=hA.on hHl λx _ hx=>hHp x hx;have hHr:ah H (bs.length+(y1.length+(y2.length+(y3.length+1)+1)+1+1))=some [v1,v2,v3]:=by
   rw [hH];have:=fu (bs:=bs) (ys:=Blk.cells (List.map V.d s.c)::Blk.cells []::(y1++Blk.cells []::(y2++Blk.cells []::(y3++[Blk.cells [v1,v2,v3]])))) (i:=y1.length+(y2.length+(y3.length+1)+1)+1+1);rw [this];have e:Blk.cells (List.map V.d s.c)::Blk.cells []::(y1++Blk.cells []::(y2++Blk.cells []::(y3++[Blk.cells [v1,v2,v3]])))=(Blk.cells (List.map V.d s.c)::Blk.cells []::(y1++Blk.cells []::(y2++Blk.cells []::y3)))++[Blk.cells [v1,v2,v3]]:=by simp
   unfold ah;rw [e,bm (by simp<;>omega)];have:y1.length+(y2.length+(y3.length+1)+1)+1+1-(Blk.cells (List.map V.d s.c)::Blk.cells []::(y1++Blk.cells []::(y2++Blk.cells []::y3))).length=0:=by simp<;>omega
   rw [this]; rfl
  have hlow:∀ B n' c,v=.row B 0 n' c 3->B<bs.length:=λB n' c hv=>by
   obtain ⟨_,_,rfl⟩ | ⟨_,B',cs,_,rfl,hb,_⟩:=hA
   . simp at hv
   . simp at hv; rw [← hv.1]; exact aB hb
  obtain ⟨v',bs',F,ha,hA',hL',hlo',hF⟩:=hAH.app (by decide) (by_:=72) (by decide) (cg hlt hr.1.1.1) (vs:=[v1,v2,v3]) rfl (cap:=some 1) hHr (L2:=bs.length) hk3 hlow hvs (by omega);have hb':∀ x,x<L->bs'[x]?=bs[x]?:=λx hx=>by rw [hlo' x hx,hHp x (by omega)]
  have hx2:ah bs' 2=some [v,vT,vW]:=by rw [← hK.x0]; unfold ah; rw [hb' 2 (by omega)]
  have hx2H:ah H 2=some [v,vT,vW]:=by rw [← hK.x0]; unfold ah; rw [hHp 2 (by omega)]
  obtain ⟨bs2,lo2,v2',r1,r2,r3⟩:=ih (i+1) (bs'.set 2 (.cells [v',vT,vW])) (min (F (min lo bs.length)) 2) v' (by omega)
   ⟨by rw [← hK.r0]; unfold ah; rw [ac (by decide),hb' 0 (by omega)],by rw [← hK.a0]; unfold ah; rw [ac (by decide),hb' 1 (by omega)],by
    have:=aB hx2;simp [ah,this],hL3,by simp; omega,λx h1 h2=>by rw [ac (by omega),hb' x h1,hK.old x h1 h2]⟩
   (by
     rw [htk,List.map_append,List.flatten_append];simp only [ct,List.map_nil,List.flatten_cons,List.flatten_nil,List.append_nil];exact hA'.on (by simp) λx hx _=>ac (by omega))
  refine ⟨bs2,lo2,v2',?_,r2,r3⟩
  . rw [key];have q1:=a1 (min lo bs.length);have q2:=a2 (min lo bs.length);have q3:=a3 (min lo bs.length);have ha':=ha (min lo bs.length);simp at q1 q2 q3;simp [qJ,hK.r0,hr1,h0,hsx,hnu,aA,aM,aN,hK.x0,aJ hK.x0,q1,q2,q3,b1,b2,b3,c1,c2,c3,← hH,ha',hx2,hx2H,hA'.cl];rw [if_pos]
    . simp [hw];exact r1
    . have hHn:H.length=bs.length+(y1.length+(y2.length+(y3.length+1)+1)+1+1)+1:=by rw [hH]; simp<;>omega
      have hne:¬ bs=[]:=λh=>by rw [h] at hk3; simp at hk3; omega
      obtain hb | ⟨B,hb,hB,hBl⟩:=hA.blk<;>rw [hb]
      . simp [aG,List.range,List.range.loop,Tr.spares,hne];omega
      . simp [aG,List.range,List.range.loop,Tr.spares,hne];omega
theorem Qk (r:Rule)(hr:r.fits big)(vF vW:V)(L:Nat)(B0:List Blk):∀ (m i:Nat) (bs:List Blk) (lo:Nat) (v:V),i+m=r.to.l.length->K3 r [vF,v,vW] L B0 bs->AccV false L 4 1 i ((r.to.l.take i).map λs=>s.cp.c).flatten bs v →
 ∃ bs' lo' v',Cd E TX bQ (.loop [1,2,3,6] qK) [(1,.ptr 0 0),(2,.ptr 1 0),(3,.ptr 2 0),(6,.d (i64 i))] ⟨bs,lo⟩=some (.exit 2,[(1,.ptr 0 0),(2,.ptr 1 0),(3,.ptr 2 0)],⟨bs',lo'⟩)/\K3 r [vF,v',vW] L B0 bs'/\AccV false L 4 1 r.to.l.length (r.to.l.map λs=>s.cp.c).flatten bs' v':=by
 intro m;have hlen:=hr.2.1.1.lt;have key:=aC (E:=E) (T:=TX) (val:=bQ) [1,2,3,6] qK;generalize Cd E TX bQ (.loop [1,2,3,6] qK)=W at key ⊢
 induction m with
 | zero =>
  intro i bs lo v hi hK hA;have:i=r.to.l.length:=by omega
  subst this;rw [List.take_length] at hA;refine ⟨bs,lo,v,?_,hK,hA⟩;rw [key];simp [qK,hK.r0]
 | succ m ih =>
  intro i bs lo v hi hK hA;have hlt:i<r.to.l.length:=by omega
  have hx:=ab hlt;have hmem:=bj hlt;have htk:r.to.l.take (i+1)=r.to.l.take i++[r.to.l[i]]:=by rw [List.take_add_one,hx]; rfl
  generalize r.to.l[i]=s at *;have hfs:=hr.2.1.2 s hmem;have hsx:=λh=>av (z:=4) h hx (cells:=Target.c) rfl;have hw:=ay hlt hlen;have h0:((i:Int)<r.to.l.length):=by omega
  have hnu:=hA.nu;have hL3:=hK.L3;have hk3:=hK.len;have hr1:=aJ (ys:=[.cells (s.c.map .d)]) hK.r0;obtain ⟨v1,y1,a1,b1,c1,d1⟩:=cpy (cells:=gq) (z:=1) (by_:=8) (λ_=>rfl) (by decide) (by decide) hfs.1 (bs++[.cells (s.c.map .d)]);obtain ⟨v2,y2,a2,b2,c2,d2⟩:=cpy (cells:=Term.c) (z:=2) (by_:=24) (λ_=>rfl) (by decide) (by decide) hfs.2.1 (bs++[.cells (s.c.map .d)]++([.cells []]++y1));obtain ⟨v3,y3,a3,b3,c3,d3⟩:=cpy (cells:=Term.c) (z:=2) (by_:=24) (λ_=>rfl) (by decide) (by decide) hfs.2.2.1 (bs++[.cells (s.c.map .d)]++([.cells []]++y1)++([.cells []]++y2));obtain ⟨v4,y4,a4,b4,c4,d4⟩:=cpy (cells:=Term.c) (z:=2) (by_:=24) (λ_=>rfl) (by decide) (by decide) hfs.2.2.2 (bs++[.cells (s.c.map .d)]++([.cells []]++y1)++([.cells []]++y2)++([.cells []]++y3));obtain ⟨H,hH⟩:∃ H,H=bs++Blk.cells (List.map V.d s.c)::Blk.cells []::(y1++Blk.cells []::(y2++Blk.cells []::(y3++Blk.cells []::(y4++[Blk.cells [v1,v2,v3,v4]])))):=⟨_,rfl⟩;have g1:=d1.ext (L':=bs.length) (([.cells []]++y2)++([.cells []]++y3)++([.cells []]++y4)++[.cells [v1,v2,v3,v4]]) (by simp);have g2:=d2.ext (L':=bs.length) (([.cells []]++y3)++([.cells []]++y4)++[.cells [v1,v2,v3,v4]]) (by simp);have g3:=d3.ext (L':=bs.length) (([.cells []]++y4)++[.cells [v1,v2,v3,v4]]) (by simp);have g4:=d4.ext (L':=bs.length) ([.cells [v1,v2,v3,v4]]) (by simp)
  have G1:Hng false (KL bs.length H) H v1 (.slice false (s.ports.l.map gq)) 1:=by rw [hH]; simpa using g1
  have G2:Hng false (KL bs.length H) H v2 (.slice false (s.methods.l.map Term.c)) 1:=by rw [hH]; simpa using g2
  have G3:Hng false (KL bs.length H) H v3 (.slice false (s.paths.l.map Term.c)) 1:=by rw [hH]; simpa using g3
  have G4:Hng false (KL bs.length H) H v4 (.slice false (s.hosts.l.map Term.c)) 1:=by rw [hH]; simpa using g4
  have hvs:Hngs false (KL bs.length H) H 1 [v1,v2,v3,v4] s.cp.c:=⟨G1,G2,G3,G4,trivial⟩;have hHp:∀ x,x<bs.length->H[x]?=bs[x]?:=λx hx=>by rw [hH,am hx]
  have hHl:bs.length<=H.length:=by rw [hH]; simp
  have hAH:=hA.on hHl λx _ hx=>hHp x hx;have hHr:ah H (bs.length+(y1.length+(y2.length+(y3.length+(y4.length+1)+1)+1)+1+1))=some [v1,v2,v3,v4]:=by
   rw [hH];have:=fu (bs:=bs) (ys:=Blk.cells (List.map V.d s.c)::Blk.cells []::(y1++Blk.cells []::(y2++Blk.cells []::(y3++Blk.cells []::(y4++[Blk.cells [v1,v2,v3,v4]]))))) (i:=y1.length+(y2.length+(y3.length+(y4.length+1)+1)+1)+1+1);rw [this];have e:Blk.cells (List.map V.d s.c)::Blk.cells []::(y1++Blk.cells []::(y2++Blk.cells []::(y3++Blk.cells []::(y4++[Blk.cells [v1,v2,v3,v4]]))))=(Blk.cells (List.map V.d s.c)::Blk.cells []::(y1++Blk.cells []::(y2++Blk.cells []::(y3++Blk.cells []::y4))))++[Blk.cells [v1,v2,v3,v4]]:=by simp
   unfold ah;rw [e,bm (by simp<;>omega)];have:y1.length+(y2.length+(y3.length+(y4.length+1)+1)+1)+1+1-(Blk.cells (List.map V.d s.c)::Blk.cells []::(y1++Blk.cells []::(y2++Blk.cells []::(y3++Blk.cells []::y4)))).length=0:=by simp<;>omega
   rw [this]; rfl
  have hlow:∀ B n' c,v=.row B 0 n' c 4->B<bs.length:=λB n' c hv=>by
   obtain ⟨_,_,rfl⟩ | ⟨_,B',cs,_,rfl,hb,_⟩:=hA
   . simp at hv
   . simp at hv; rw [← hv.1]; exact aB hb
  obtain ⟨v',bs',F,ha,hA',hL',hlo',hF⟩:=hAH.app (by decide) (by_:=96) (by decide) (cg hlt hr.2.1.1.1) (vs:=[v1,v2,v3,v4]) rfl (cap:=some 1) hHr (L2:=bs.length) hk3 hlow hvs (by omega);have hb':∀ x,x<L->bs'[x]?=bs[x]?:=λx hx=>by rw [hlo' x hx,hHp x (by omega)]
  have hx2:ah bs' 2=some [vF,v,vW]:=by rw [← hK.x0]; unfold ah; rw [hb' 2 (by omega)]
  have hx2H:ah H 2=some [vF,v,vW]:=by rw [← hK.x0]; unfold ah; rw [hHp 2 (by omega)]
  obtain ⟨bs2,lo2,v2',r1,r2,r3⟩:=ih (i+1) (bs'.set 2 (.cells [vF,v',vW])) (min (F (min lo bs.length)) 2) v' (by omega)
   ⟨by rw [← hK.r0]; unfold ah; rw [ac (by decide),hb' 0 (by omega)],by rw [← hK.a0]; unfold ah; rw [ac (by decide),hb' 1 (by omega)],by
    have:=aB hx2;simp [ah,this],hL3,by simp; omega,λx h1 h2=>by rw [ac (by omega),hb' x h1,hK.old x h1 h2]⟩
   (by
     rw [htk,List.map_append,List.flatten_append];simp only [ct,List.map_nil,List.flatten_cons,List.flatten_nil,List.append_nil];exact hA'.on (by simp) λx hx _=>ac (by omega))
  refine ⟨bs2,lo2,v2',?_,r2,r3⟩
  . rw [key];have q1:=a1 (min lo bs.length);have q2:=a2 (min lo bs.length);have q3:=a3 (min lo bs.length);have q4:=a4 (min lo bs.length);have ha':=ha (min lo bs.length);simp at q1 q2 q3 q4;simp [qK,hK.r0,hr1,h0,hsx,hnu,aA,aM,aN,hK.x0,aJ hK.x0,q1,q2,q3,q4,b1,b2,b3,b4,c1,c2,c3,c4,← hH,ha',hx2,hx2H,hA'.cl];rw [if_pos]
    . simp [hw];exact r1
    . have hHn:H.length=bs.length+(y1.length+(y2.length+(y3.length+(y4.length+1)+1)+1)+1+1)+1:=by rw [hH]; simp<;>omega
      have hne:¬ bs=[]:=λh=>by rw [h] at hk3; simp at hk3; omega
      obtain hb | ⟨B,hb,hB,hBl⟩:=hA.blk<;>rw [hb]
      . simp [aG,List.range,List.range.loop,Tr.spares,hne];omega
      . simp [aG,List.range,List.range.loop,Tr.spares,hne];omega
theorem Ql (r:Rule)(hr:r.fits big)(vF vT:V)(L:Nat)(B0:List Blk):∀ (m i:Nat) (bs:List Blk) (lo:Nat) (v:V),i+m=r.whn.l.length->K3 r [vF,vT,v] L B0 bs->AccV false L 2 1 i ((r.whn.l.take i).map λs=>s.cp.c).flatten bs v →
 ∃ bs' lo' v',Cd E TX bQ (.loop [1,2,3,8] qL) [(1,.ptr 0 0),(2,.ptr 1 0),(3,.ptr 2 0),(8,.d (i64 i))] ⟨bs,lo⟩=some (.exit 4,[(2,.ptr 1 0),(3,.ptr 2 0)],⟨bs',lo'⟩)/\K3 r [vF,vT,v'] L B0 bs'/\AccV false L 2 1 r.whn.l.length (r.whn.l.map λs=>s.cp.c).flatten bs' v':=by
 intro m;have hlen:=hr.2.2.1.lt;have key:=aC (E:=E) (T:=TX) (val:=bQ) [1,2,3,8] qL;generalize Cd E TX bQ (.loop [1,2,3,8] qL)=W at key ⊢
 induction m with
 | zero =>
  intro i bs lo v hi hK hA;have:i=r.whn.l.length:=by omega
  subst this;rw [List.take_length] at hA;refine ⟨bs,lo,v,?_,hK,hA⟩;rw [key];simp [qL,hK.r0]
 | succ m ih =>
  intro i bs lo v hi hK hA;have hlt:i<r.whn.l.length:=by omega
  have hx:=ab hlt;have hmem:=bj hlt;have htk:r.whn.l.take (i+1)=r.whn.l.take i++[r.whn.l[i]]:=by rw [List.take_add_one,hx]; rfl
  generalize r.whn.l[i]=s at *;have hfs:=hr.2.2.2 s hmem;have hsx:=λh=>av (z:=2) h hx (cells:=When.c) rfl;have hw:=ay hlt hlen;have h0:((i:Int)<r.whn.l.length):=by omega
  have hnu:=hA.nu;have hL3:=hK.L3;have hk3:=hK.len;have hr1:=aJ (ys:=[.cells []]) hK.r0;obtain ⟨v1,y1,a1,b1,c1,d1⟩:=cpy (cells:=Term.c) (z:=2) (by_:=24) (λ_=>rfl) (by decide) (by decide) hfs (bs);obtain ⟨H,hH⟩:∃ H,H=bs++Blk.cells []::(y1++[Blk.cells [V.d (D.str s.head),v1]]):=⟨_,rfl⟩;have g1:=d1.ext (L':=bs.length) ([.cells [.d (.str s.head),v1]]) (by simp);have G1:Hng false (KL bs.length H) H v1 (.slice false (s.terms.l.map Term.c)) 1:=by rw [hH]; simpa using g1
  have hvs:Hngs false (KL bs.length H) H 1 [.d (.str s.head),v1] s.cp.c:=⟨Hng.d λnl c cs hh=>by simp at hh,G1,trivial⟩;have hHp:∀ x,x<bs.length->H[x]?=bs[x]?:=λx hx=>by rw [hH,am hx]
  have hHl:bs.length<=H.length:=by rw [hH]; simp
  have hAH:=hA.on hHl λx _ hx=>hHp x hx;have hHr:ah H (bs.length+(y1.length+1))=some [.d (.str s.head),v1]:=by
   rw [hH];have:=fu (bs:=bs) (ys:=Blk.cells []::(y1++[Blk.cells [V.d (D.str s.head),v1]])) (i:=y1.length+1);rw [this];have e:Blk.cells []::(y1++[Blk.cells [V.d (D.str s.head),v1]])=(Blk.cells []::y1)++[Blk.cells [V.d (D.str s.head),v1]]:=by simp
   unfold ah;rw [e,bm (by simp<;>omega)];have:y1.length+1-(Blk.cells []::y1).length=0:=by simp<;>omega
   rw [this]; rfl
  have hlow:∀ B n' c,v=.row B 0 n' c 2->B<bs.length:=λB n' c hv=>by
   obtain ⟨_,_,rfl⟩ | ⟨_,B',cs,_,rfl,hb,_⟩:=hA
   . simp at hv
   . simp at hv; rw [← hv.1]; exact aB hb
  obtain ⟨v',bs',F,ha,hA',hL',hlo',hF⟩:=hAH.app (by decide) (by_:=40) (by decide) (cg hlt hr.2.2.1.1) (vs:=[.d (.str s.head),v1]) rfl (cap:=some 1) hHr (L2:=bs.length) hk3 hlow hvs (by omega);have hb':∀ x,x<L->bs'[x]?=bs[x]?:=λx hx=>by rw [hlo' x hx,hHp x (by omega)]
  have hx2:ah bs' 2=some [vF,vT,v]:=by rw [← hK.x0]; unfold ah; rw [hb' 2 (by omega)]
  have hx2H:ah H 2=some [vF,vT,v]:=by rw [← hK.x0]; unfold ah; rw [hHp 2 (by omega)]
  obtain ⟨bs2,lo2,v2',r1,r2,r3⟩:=ih (i+1) (bs'.set 2 (.cells [vF,vT,v'])) (min (F lo) 2) v' (by omega)
   ⟨by rw [← hK.r0]; unfold ah; rw [ac (by decide),hb' 0 (by omega)],by rw [← hK.a0]; unfold ah; rw [ac (by decide),hb' 1 (by omega)],by
    have:=aB hx2;simp [ah,this],hL3,by simp; omega,λx h1 h2=>by rw [ac (by omega),hb' x h1,hK.old x h1 h2]⟩
   (by
     rw [htk,List.map_append,List.flatten_append];simp only [ct,List.map_nil,List.flatten_cons,List.flatten_nil,List.append_nil];exact hA'.on (by simp) λx hx _=>ac (by omega))
  refine ⟨bs2,lo2,v2',?_,r2,r3⟩
  . rw [key];have q1:=a1 lo;have ha':=ha lo;simp at q1;simp [qL,hK.r0,hr1,h0,hsx,hnu,aA,aM,aN,hK.x0,aJ hK.x0,q1,b1,c1,← hH,ha',hx2,hx2H,hA'.cl];rw [if_pos]
    . simp [hw];exact r1
    . have hHn:H.length=bs.length+(y1.length+1)+1:=by rw [hH]; simp<;>omega
      have hne:¬ bs=[]:=λh=>by rw [h] at hk3; simp at hk3; omega
      obtain hb | ⟨B,hb,hB,hBl⟩:=hA.blk<;>rw [hb]
      . simp [aG,List.range,List.range.loop,Tr.spares,hne];omega
      . simp [aG,List.range,List.range.loop,Tr.spares,hne];omega
end
section
variable {E:Calls'}
theorem K3.next {r:Rule}{ws:List V}{L:Nat}{B0 bs:List Blk}(h:K3 r ws L B0 bs):K3 r ws bs.length bs bs:=⟨h.r0,h.a0,h.x0,cj h.L3 h.len,br _,λ_ _ _=>rfl⟩
theorem AccV.old {r:Rule}{ws:List V}{L0 z k n:Nat}{ds:List D}{B0 bs:List Blk}{v:V}(h:AccV false L0 z k n ds B0 v)(hK:K3 r ws B0.length B0 bs)(h3:3<=L0):AccV false L0 z k n ds bs v :=
 h.on hK.len λx hx hl=>hK.old x hl (by omega)
theorem Rule.cp_c (r:Rule):r.cp.c=[.slice (r.frm.l.map λs=>s.cp.c).isEmpty (r.frm.l.map λs=>s.cp.c),.slice (r.to.l.map λs=>s.cp.c).isEmpty (r.to.l.map λs=>s.cp.c),.slice (r.whn.l.map λs=>s.cp.c).isEmpty (r.whn.l.map λs=>s.cp.c)]:=by
 simp [Rule.cp,Rule.c,Sl.d,bn,co]
theorem x89:TX 144=some q89:=by kernel_rfl
theorem w89:bQ 144=true:=by kernel_rfl
theorem S89 (r:Rule)(hr:r.fits big)(h:Hp):Sm E TX bQ 144 [ag r.c] h=some (ag r.cp.c,h):=by
 have hK:K3 r [.d (.slice true []),.d (.slice true []),.d (.slice true [])] 3 [.cells (r.c.map .d),.cells [.d (.slice true []),.d (.slice true []),.d (.slice true [])],.cells [.d (.slice true []),.d (.slice true []),.d (.slice true [])]] [.cells (r.c.map .d),.cells [.d (.slice true []),.d (.slice true []),.d (.slice true [])],.cells [.d (.slice true []),.d (.slice true []),.d (.slice true [])]]:=⟨rfl,rfl,rfl,by decide,by simp,λ_ _ _=>rfl⟩;obtain ⟨bs1,lo1,v1,a1,k1,A1⟩:=Qj (E:=E) r hr _ _ _ _ r.frm.l.length 0 _ 0 _ (by omega) hK (by simpa using AccV.nil 3 3 1 _);obtain ⟨bs2,lo2,v2,a2,k2,A2⟩:=Qk (E:=E) r hr _ _ _ _ r.to.l.length 0 _ lo1 _ (by omega) k1.next (by simpa using AccV.nil bs1.length 4 1 _);obtain ⟨bs3,lo3,v3,a3,k3,A3⟩:=Ql (E:=E) r hr _ _ _ _ r.whn.l.length 0 _ lo2 _ (by omega) k2.next (by simpa using AccV.nil bs2.length 2 1 _);have h1:=k1.len; have h2:=k2.len; have h3:=k3.len;have B1:=(A1.old k2 (by omega)).old k3 (by omega);have B2:=A2.old k3 (by omega);have G1:=B1.hng (λe he=>by obtain ⟨y,_,rfl⟩:=ce.1 he; rfl) (by simp);have G2:=B2.hng (λe he=>by obtain ⟨y,_,rfl⟩:=ce.1 he; rfl) (by simp);have G3:=A3.hng (λe he=>by obtain ⟨y,_,rfl⟩:=ce.1 he; rfl) (by simp);have c1:=B1.cl; have c2:=B2.cl; have c3:=A3.cl;have n1:=B1.nu; have n2:=B2.nu; have n3:=A3.nu;have e1:=λlo=>(G1 (bs3.set 1 (.cells [v1,v2,v3])) lo (λx hx=>ac (by have:=hx.1; omega)) 8 (by omega)).1
 have e2:=λlo=>(G2 (bs3.set 1 (.cells [v1,v2,v3])) lo (λx hx=>ac (by have:=hx.1; omega)) 8 (by omega)).1;have e3:=λlo=>(G3 (bs3.set 1 (.cells [v1,v2,v3])) lo (λx hx=>ac (by have:=hx.1; omega)) 8 (by omega)).1;have ha3:=k3.a0; have hx3:=k3.x0;have hl3:=aB ha3;have hset:ah (bs3.set 1 (.cells [v1,v2,v3])) 1=some [v1,v2,v3]:=by simp [ah,hl3]
 rw [aY x89 w89,Rule.cp_c];have a1':=a1; have a2':=a2; have a3':=a3;simp at a1' a2' a3';simp [ae,q89];rw [au];simp [a1'];rw [au];simp [a2'];rw [au];simp [a3',ha3,hx3,c1,c2,c3,n1,n2,n3,hl3,bG,e1,e2,e3,hset]
theorem zn {T:FuncId->Option QF}{val:FuncId->Bool}{keep:List Nat}{body:QC}{base:List Blk}{z:Nat}(n:Nat)(G:Nat->List (List D))(env:Nat->V->EA)(X:V->Ex×EA)
 (hr:∀ i,i<n->∀ bs lo v,Acc base z (G i) bs v->∃ bs' lo' v',Acc base z (G (i+1)) bs' v'/\∀ W:EA->Hp->d9,bY keep W (Cd E T val body (bE keep (env i v)) ⟨bs,lo⟩)=W (env (i+1) v') ⟨bs',lo'⟩)
 (he:∀ bs lo v,Acc base z (G n) bs v->∀ W:EA->Hp->d9,bY keep W (Cd E T val body (bE keep (env n v)) ⟨bs,lo⟩)=some ((X v).1,(X v).2,⟨bs,lo⟩)) (bs:List Blk) (lo:Nat) (v:V) (h0:Acc base z (G 0) bs v) :
 ∃ bs' lo' v',Cd E T val (.loop keep body) (env 0 v) ⟨bs,lo⟩=some ((X v').1,(X v').2,⟨bs',lo'⟩)/\Acc base z (G n) bs' v':=by
 have:∀ (m i:Nat) (bs:List Blk) (lo:Nat) (v:V),i+m=n->Acc base z (G i) bs v->∃ bs' lo' v',Cd E T val (.loop keep body) (env i v) ⟨bs,lo⟩=some ((X v').1,(X v').2,⟨bs',lo'⟩)/\Acc base z (G n) bs' v':=by
  intro m;have key:=aC (E:=E) (T:=T) (val:=val) keep body;generalize Cd E T val (.loop keep body)=W at key ⊢
  induction m with
  | zero =>
   intro i bs lo v hi hP;rw [show i=n by omega] at hP ⊢;exact ⟨bs,lo,v,by rw [key,he bs lo v hP W],hP⟩
  | succ m ih =>
   intro i bs lo v hi hP;obtain ⟨bs',lo',v',h1,h2⟩:=hr i (by omega) bs lo v hP;obtain ⟨bs2,lo2,v2,h3,h4⟩:=ih (i+1) bs' lo' v' (by omega) h1;exact ⟨bs2,lo2,v2,by rw [key,h2 W,h3],h4⟩
 exact this n 0 bs lo v (by omega) h0
def Pol.cp (p:Pol):Pol:={ p with rules:=bn (p.rules.l.map Rule.cp) }
theorem Pol.cp_c (p:Pol):p.cp.c=[u64 p.id,.str p.ns,u64 p.service,i64 p.deny,.slice (p.rules.l.map λr=>r.cp.c).isEmpty (p.rules.l.map λr=>r.cp.c)]:=by
 simp [Pol.cp,Pol.c,Sl.d,bn,co]
theorem x35:TX 64=some q35:=by kernel_rfl
theorem w35:bQ 64=true:=by kernel_rfl
theorem L35 (p:Pol)(hp:p.fits big)(base:List Blk)(hb:ah base 0=some (p.c.map .d))(lo:Nat):∃ bs' lo' v',Cd E TX bQ (.loop [1,2,3,4] uL) [(1,.ptr 0 0),(2,.ptr 1 0),(3,.d (.slice true [])),(4,.d (i64 0))] ⟨base,lo⟩=some (.exit 0,[(1,.ptr 0 0),(2,.ptr 1 0),(3,v')],⟨bs',lo'⟩)/\Acc base 3 (p.rules.l.map λr=>r.cp.c) bs' v':=by
 have hlen:=hp.1.lt;have key:=zn (E:=E) (T:=TX) (val:=bQ) (base:=base) (z:=3) (keep:=[1,2,3,4]) (body:=uL) p.rules.l.length (λi=>(p.rules.l.take i).map λr=>r.cp.c) (λi v=>[(1,.ptr 0 0),(2,.ptr 1 0),(3,v),(4,.d (i64 i))]) (λv=>(.exit 0,[(1,.ptr 0 0),(2,.ptr 1 0),(3,v)])) (λi hi bs lo v hA=>?_) (λbs lo v hA W=>?_) base lo _ (by simpa using Acc.nil base 3)
 . simpa using key
 . have hx:=ab hi;have hmem:=bj hi;have htk:p.rules.l.take (i+1)=p.rules.l.take i++[p.rules.l[i]]:=by rw [List.take_add_one,hx]; rfl
   generalize p.rules.l[i]=r at *;have hsx:=λh=>av (z:=3) h hx (cells:=Rule.c) rfl;have hw:=ay hi hlen;have h0:((i:Int)<p.rules.l.length):=by omega
   have hnu:=hA.nu;have hg:=hA.get hb;have hcall:=λh=>S89 (E:=E) r (hp.2 r hmem) h;obtain ⟨v',bs',lo',ha,hA'⟩:=(hA.lay [.cells (r.cp.c.map .d)]).app (by decide) (by_:=72) (by decide) (e:=r.cp.c) rfl (by simp; have:=hp.1.1; omega) lo (r:=bs.length) (cap:=some 1) (by simp);refine ⟨bs',lo',v',by rw [htk,List.map_append]; exact hA',λW=>?_⟩;simp [uL,hg,h0,hsx,hnu,hcall,aN,ha,hw,hA'.nu]
 . simp [uL,hA.get hb]
theorem Acc.hng {base:List Blk}{z:Nat}{acc:List (List D)}{bs:List Blk}{v:V}(h:Acc base z acc bs v):Hng false (KL base.length bs) bs v (.slice acc.isEmpty acc) 1:=by
 obtain ⟨rfl,rfl⟩ | ⟨h1,b,h2,rfl,h4⟩:=h.is
 . exact Hng.data
 . rw [show acc.isEmpty=false by cases acc with | nil=>exact absurd rfl h1 | cons _ _=>rfl];exact Hng.row (k:=0) ⟨h2,aB h4⟩ h4 Hngs.data h.wid rfl
theorem Acc.cl {base:List Blk}{z:Nat}{acc:List (List D)}{bs:List Blk}{v:V}(h:Acc base z acc bs v):v.cells=some [v]:=by
 obtain ⟨_,rfl⟩ | ⟨_,b,_,rfl,_⟩:=h.is<;>rfl
theorem S35 (p:Pol)(hp:p.fits big)(h:Hp):Sm E TX bQ 64 [ag p.c] h=some (ag p.cp.c,h):=by
 obtain ⟨bs,lo,v,a1,A⟩:=L35 (E:=E) p hp [.cells (p.c.map .d),.cells [.d (.int .u64 0),.d (.str ⟨#[]⟩),.d (.int .u64 0),.d (i64 0),.d (.slice true [])]] rfl 0;have hg:=A.get (x:=0) (cs:=p.c.map .d) rfl;have hg1:=A.get (x:=1) rfl;have hnu:=A.nu;rw [aY x35 w35,Pol.cp_c];simp [ae,q35];rw [au];have hcl:=A.cl;have hl:=A.len;simp at hl;have hl0:0<bs.length:=by omega
 have hl1:1<bs.length:=by omega
 have e1:=λlo=>(A.hng ((bs.set 0 (.cells [.d (u64 p.id),.d (.str p.ns),.d (u64 p.service),.d (i64 p.deny),v])).set 1 (.cells [.d (u64 p.id),.d (.str p.ns),.d (u64 p.service),.d (i64 p.deny),v])) lo (λx hx=>by have:=hx.1; simp at this; rw [ac (by omega),ac (by omega)]) 8 (by omega)).1;have h0:ah (bs.set 0 (.cells [.d (u64 p.id),.d (.str p.ns),.d (u64 p.service),.d (i64 p.deny),v])) 0=some [.d (u64 p.id),.d (.str p.ns),.d (u64 p.service),.d (i64 p.deny),v]:=by
  simp [ah,hl0,hl1]
 have h1:ah (bs.set 0 (.cells [.d (u64 p.id),.d (.str p.ns),.d (u64 p.service),.d (i64 p.deny),v])) 1=some [.d (.int .u64 0),.d (.str ⟨#[]⟩),.d (.int .u64 0),.d (i64 0),.d (.slice true [])]:=by
  rw [← hg1]; unfold ah; rw [ac (by decide)]
 have h2:ah ((bs.set 0 (.cells [.d (u64 p.id),.d (.str p.ns),.d (u64 p.service),.d (i64 p.deny),v])).set 1 (.cells [.d (u64 p.id),.d (.str p.ns),.d (u64 p.service),.d (i64 p.deny),v])) 1=some [.d (u64 p.id),.d (.str p.ns),.d (u64 p.service),.d (i64 p.deny),v]:=by
  simp [ah,hl0,hl1]
 simp [a1];simp [hg,hg1,hnu,hcl,Pol.c,h0,h1,h2,bG,e1]
end
section
variable {E:Calls'}
theorem Acc.ownR {base:List Blk}{z:Nat}{acc:List (List D)}{bs:List Blk}{v:V}(h:Acc base z acc bs v)(hd:∀ e∈acc,∀ d∈e,∀ nl c cs,d≠.slice nl (c::cs))(lo:Nat):ownR ⟨bs,lo⟩ v=true:=by
 have hH:Hng true (KL base.length bs) bs v (.slice acc.isEmpty acc) 1:=by
  obtain ⟨rfl,rfl⟩ | ⟨h1,b,h2,rfl,h4⟩:=h.is
  . exact Hng.d λnl c cs hh=>by simp at hh
  . rw [show acc.isEmpty=false by cases acc with | nil=>exact absurd rfl h1 | cons _ _=>rfl];refine Hng.row (k:=0) ⟨h2,aB h4⟩ h4 ?_ h.wid rfl;have:∀ ds:List D,(∀ d∈ds,∀ nl c cs,d≠.slice nl (c::cs))->Hngs true (KL base.length bs) bs 0 (ds.map .d) ds:=by
     intro ds
     induction ds with
     | nil=>intro _; trivial
     | cons d ds ih=>intro hh; exact ⟨Hng.d (hh d (by simp)),ih λd hd=>hh d (by simp [hd])⟩
    exact this _ λd hdm=>by
     obtain ⟨e,he,hde⟩:=List.mem_flatten.1 hdm;exact hd e he d hde
 have:=(hH bs lo (λ_ _=>rfl) 8 (by omega)).2 rfl;obtain ⟨rfl,rfl⟩ | ⟨h1,b,h2,rfl,h4⟩:=h.is
 . exact this
 . exact this
end
section
variable {E:Calls'}
theorem lK {α β:Type}{f:α->β->Bool}:∀ {l:List α} {m:List β},l.length=m.length->all2 f l m=(l.zip m).all λx=>f x.1 x.2
 | [],[],_=>rfl
 | x::l,y::m,h=>by simp [all2,lK (f:=f) (l:=l) (m:=m) (by simpa using h)]
theorem x38:TX 36=some q38:=by kernel_rfl
theorem w38:bQ 36=true:=by kernel_rfl
theorem Qt (a b:Cfg)(hc:a.ok)(hl:a.pods.l.length=b.pods.l.length):Cd E TX bQ (.loop [2,3,5] xA) [(2,.ptr 0 0),(3,.ptr 1 0),(5,.d (i64 ((0:Nat):Int)))] ⟨[.cells (a.c.map .d),.cells (b.c.map .d)],0⟩=some (cond (all2 Pod.eqB a.pods.l b.pods.l) (.exit 0,[(2,.ptr 0 0),(3,.ptr 1 0)],⟨[.cells (a.c.map .d),.cells (b.c.map .d)],0⟩) (.ret,[(4,bl false)],⟨[.cells (a.c.map .d),.cells (b.c.map .d)],0⟩)):=by
 have hlen:=hc.1.lt;rw [lK hl];have hzl:(a.pods.l.zip b.pods.l).length=a.pods.l.length:=by simp; omega
 refine bK (a.pods.l.zip b.pods.l) (λx=>Pod.eqB x.1 x.2) (λi=>[(2,.ptr 0 0),(3,.ptr 1 0),(5,.d (i64 i))]) _ _ _ (λi x hx hi W=>?_) (λW=>?_)
 . obtain ⟨x,y⟩:=x;obtain ⟨h1,h2⟩:=List.getElem?_zip_eq_some.1 hx;have hsx:=λh=>av (z:=7) h h1 (cells:=Pod.c) rfl;have hsy:=λh=>av (z:=7) h h2 (cells:=Pod.c) rfl;rw [hzl] at hi;have hw:=ay hi hlen;have h0:((i:Int)<a.pods.l.length):=by omega
   cases hA:Pod.eqB x y<;>simp [xA,hsx,hsy,h0,hw,hA]
 . simp [xA,hzl]
theorem Qu (a b:Cfg)(hc:a.ok)(hl:a.services.l.length=b.services.l.length):Cd E TX bQ (.loop [2,3,6] xC) [(2,.ptr 0 0),(3,.ptr 1 0),(6,.d (i64 ((0:Nat):Int)))] ⟨[.cells (a.c.map .d),.cells (b.c.map .d)],0⟩=some (cond (all2 Svc.eqB a.services.l b.services.l) (.exit 2,[(2,.ptr 0 0),(3,.ptr 1 0)],⟨[.cells (a.c.map .d),.cells (b.c.map .d)],0⟩) (.ret,[(4,bl false)],⟨[.cells (a.c.map .d),.cells (b.c.map .d)],0⟩)):=by
 have hlen:=hc.2.1.lt;rw [lK hl];have hzl:(a.services.l.zip b.services.l).length=a.services.l.length:=by simp; omega
 refine bK (a.services.l.zip b.services.l) (λx=>Svc.eqB x.1 x.2) (λi=>[(2,.ptr 0 0),(3,.ptr 1 0),(6,.d (i64 i))]) _ _ _ (λi x hx hi W=>?_) (λW=>?_)
 . obtain ⟨x,y⟩:=x;obtain ⟨h1,h2⟩:=List.getElem?_zip_eq_some.1 hx;have hsx:=λh=>av (z:=5) h h1 (cells:=Svc.c) rfl;have hsy:=λh=>av (z:=5) h h2 (cells:=Svc.c) rfl;rw [hzl] at hi;have hw:=ay hi hlen;have h0:((i:Int)<a.services.l.length):=by omega
   cases hA:Svc.eqB x y<;>simp [xC,hsx,hsy,h0,hw,hA]
 . simp [xC,hzl]
theorem Qv (a b:Cfg)(hc:a.ok)(hl:a.bound.l.length=b.bound.l.length):Cd E TX bQ (.loop [2,3,7] xD) [(2,.ptr 0 0),(3,.ptr 1 0),(7,.d (i64 ((0:Nat):Int)))] ⟨[.cells (a.c.map .d),.cells (b.c.map .d)],0⟩=some (cond (all2 Way.eqB a.bound.l b.bound.l) (.exit 4,[(2,.ptr 0 0),(3,.ptr 1 0)],⟨[.cells (a.c.map .d),.cells (b.c.map .d)],0⟩) (.ret,[(4,bl false)],⟨[.cells (a.c.map .d),.cells (b.c.map .d)],0⟩)):=by
 have hlen:=hc.2.2.1.lt;rw [lK hl];have hzl:(a.bound.l.zip b.bound.l).length=a.bound.l.length:=by simp; omega
 refine bK (a.bound.l.zip b.bound.l) (λx=>Way.eqB x.1 x.2) (λi=>[(2,.ptr 0 0),(3,.ptr 1 0),(7,.d (i64 i))]) _ _ _ (λi x hx hi W=>?_) (λW=>?_)
 . obtain ⟨x,y⟩:=x;obtain ⟨h1,h2⟩:=List.getElem?_zip_eq_some.1 hx;have hsx:=λh=>av (z:=2) h h1 (cells:=Way.c) rfl;have hsy:=λh=>av (z:=2) h h2 (cells:=Way.c) rfl;rw [hzl] at hi;have hw:=ay hi hlen;have h0:((i:Int)<a.bound.l.length):=by omega
   cases hA:Way.eqB x y<;>simp [xD,hsx,hsy,h0,hw,hA]
 . simp [xD,hzl]
theorem Qw (hE:∀ x y:Pol,x.ok->∀ h,E 63 [ag x.c,ag y.c] h=some (bl (x.same y),h))(a b:Cfg)(hc:a.ok)(hl:a.policies.l.length=b.policies.l.length):Cd E TX bQ (.loop [2,3,8] xE) [(2,.ptr 0 0),(3,.ptr 1 0),(8,.d (i64 ((0:Nat):Int)))] ⟨[.cells (a.c.map .d),.cells (b.c.map .d)],0⟩=some (cond (all2 Pol.same a.policies.l b.policies.l) (.exit 6,[],⟨[.cells (a.c.map .d),.cells (b.c.map .d)],0⟩) (.ret,[(4,bl false)],⟨[.cells (a.c.map .d),.cells (b.c.map .d)],0⟩)):=by
 have hlen:=hc.2.2.2.1.lt;rw [lK hl];have hzl:(a.policies.l.zip b.policies.l).length=a.policies.l.length:=by simp; omega
 refine bK (a.policies.l.zip b.policies.l) (λx=>Pol.same x.1 x.2) (λi=>[(2,.ptr 0 0),(3,.ptr 1 0),(8,.d (i64 i))]) _ _ _ (λi x hx hi W=>?_) (λW=>?_)
 . obtain ⟨x,y⟩:=x;obtain ⟨h1,h2⟩:=List.getElem?_zip_eq_some.1 hx;have hsx:=λh=>av (z:=5) h h1 (cells:=Pol.c) rfl;have hsy:=λh=>av (z:=5) h h2 (cells:=Pol.c) rfl;rw [hzl] at hi;have hw:=ay hi hlen;have h0:((i:Int)<a.policies.l.length):=by omega
   have hm:=cf h1;have hcall:=λh=>(aO (E:=E) (T:=TX) (val:=bQ) (f:=63) (by kernel_rfl)).trans (hE x y (hc.2.2.2.2 x hm) h);cases hA:x.same y<;>rw [hA] at hcall<;>simp +decide [xE,hsx,hsy,h0,hw,aA,aa,aM,hcall]
 . simp [xE,hzl]
theorem S38 (hE:∀ x y:Pol,x.ok->∀ h,E 63 [ag x.c,ag y.c] h=some (bl (x.same y),h))(a b:Cfg)(ha:a.ok)(h:Hp):Sm E TX bQ 36 [a.v,b.v] h=some (bl (a.same b),h):=by
 rw [aY x38 w38];unfold Cfg.same;cases e1:(a.epoch==b.epoch)
 case false=>simp [ae,q38,e1]
 cases e2:(a.next==b.next)
 case false=>simp [ae,q38,e1,e2]
 cases e3:(a.hosts==b.hosts)
 case false=>simp [ae,q38,e1,e2,e3]
 cases e4:(a.ways==b.ways)
 case false=>simp [ae,q38,e1,e2,e3,e4]
 by_cases h1:a.pods.l.length=b.pods.l.length
 case neg =>
  have h1':¬ ((a.pods.l.length:Int)=b.pods.l.length):=by omega
  simp [ae,q38,e1,e2,e3,e4,h1',eU h1]
 by_cases h2:a.services.l.length=b.services.l.length
 case neg =>
  have h1':¬ ((a.services.l.length:Int)=b.services.l.length):=by omega
  simp [ae,q38,e1,e2,e3,e4,h1,h1',eU h2]
 by_cases h3:a.bound.l.length=b.bound.l.length
 case neg =>
  have h1':¬ ((a.bound.l.length:Int)=b.bound.l.length):=by omega
  simp [ae,q38,e1,e2,e3,e4,h1,h2,h1',eU h3]
 by_cases h4:a.policies.l.length=b.policies.l.length
 case neg =>
  have h1':¬ ((a.policies.l.length:Int)=b.policies.l.length):=by omega
  simp [ae,q38,e1,e2,e3,e4,h1,h2,h3,h1',eU h4]
 have k1:=Qt (E:=E) a b ha h1;have k2:=Qu (E:=E) a b ha h2;have k3:=Qv (E:=E) a b ha h3;have k4:=Qw (E:=E) hE a b ha h4;simp at k1 k2 k3 k4;generalize all2 Pod.eqB a.pods.l b.pods.l=A1 at *;generalize all2 Svc.eqB a.services.l b.services.l=A2 at *;generalize all2 Way.eqB a.bound.l b.bound.l=A3 at *;generalize all2 Pol.same a.policies.l b.policies.l=A4 at *;simp [ae,q38,e1,e2,e3,e4,h1,h2,h3,h4];rw [au];cases A1
 case false=>simp [k1]
 simp [k1];rw [au];cases A2
 case false=>simp [k2]
 simp [k2];rw [au];cases A3
 case false=>simp [k3]
 simp [k3];rw [au];cases A4<;>simp [k4]
end
section
variable {E:Calls'}
def Row1 (L M:Nat)(bs:List Blk)(z:Nat)(es:List (List D))(v:V):Prop :=
 (∀ e∈es,e.length=z)/\((es=[]/\v=.d (.slice true []))\/∃ b cap,L<=b/\b<M/\v=.row b 0 es.length cap z/\ah bs b=some (flat es)/\(cap=none/\es≠[]\/cap=some 0/\es=[]))
theorem Row1.on {L M z:Nat}{bs bs':List Blk}{es:List (List D)}{v:V}(h:Row1 L M bs z es v)(ho:∀ x,L<=x->x<M->bs'[x]?=bs[x]?):Row1 L M bs' z es v:=by
 refine ⟨h.1,?_⟩;obtain h | ⟨b,cap,h1,h2,h3,h4,h5⟩:=h.2
 . exact .inl h
 . refine .inr ⟨b,cap,h1,h2,h3,?_,h5⟩;rw [← h4]; unfold ah; rw [ho b h1 h2]
theorem Row1.cl {L M z:Nat}{bs:List Blk}{es:List (List D)}{v:V}(h:Row1 L M bs z es v):v.cells=some [v]:=by
 obtain ⟨_,rfl⟩ | ⟨b,cap,h1,h2,rfl,_⟩:=h.2<;>rfl
theorem Row1.nu {L M z:Nat}{bs:List Blk}{es:List (List D)}{v:V}(h:Row1 L M bs z es v):nu v=some v:=by
 obtain ⟨_,rfl⟩ | ⟨b,cap,h1,h2,rfl,_⟩:=h.2<;>rfl
theorem Row1.ok {L M z:Nat}{bs:List Blk}{es:List (List D)}{v:V}(h:Row1 L M bs z es v):okV v=true:=by
 obtain ⟨_,rfl⟩ | ⟨b,cap,h1,h2,rfl,_⟩:=h.2<;>rfl
theorem Dn {α:Type}{cells:α->List D}{z by_:Nat}(hz:∀ x,(cells x).length=z)(hz0:0<z)(hby:by_<=4096){s:Sl α}(hs:short s)(bs:List Blk) :
 ∃ v bs',(∀ lo,fH ⟨bs++[.cells []],lo⟩ z by_ (.row bs.length 0 0 (some 0) z) (.d (s.d cells))=some (v,⟨bs',lo⟩))/\bs.length<=bs'.length/\(∀ x,x<bs.length->bs'[x]?=bs[x]?)/\Row1 bs.length bs'.length bs' z (s.l.map cells) v/\∀ k,k<=bs.length->v.under k=false:=by
 have hzz:z≠0:=by omega
 have hw:∀ e∈s.l.map cells,e.length=z:=λe he=>by obtain ⟨y,_,rfl⟩:=ce.1 he; exact hz y
 have hrc:∀ h,aP h (.d (s.d cells)) z=some (s.l.length,flat (s.l.map cells)):=λh=>by
  have hall:((s.l.map cells).all λe=>e.length==z)=true:=cn.2 λx hx=>by simp [hw x hx]
  simp only [aP,Sl.d,hall,if_true,flat,b9]
 by_cases h0:s.l.length=0
 . have hl:s.l=[]:=List.length_eq_zero_iff.1 h0;refine ⟨.row bs.length 0 0 (some 0) z,bs++[.cells []],λlo=>?_,by simp,λx hx=>am hx,⟨hw,.inr ⟨bs.length,some 0,br _,by simp,by rw [hl]; rfl,by rw [hl]; simp,.inr ⟨rfl,by rw [hl]; rfl⟩⟩⟩,λk hk=>by simp [V.under]; omega⟩;simp only [fH,hrc,aK,if_pos h0];simp [hzz]
 . have hroom:roomy s.l.length by_=true:=by simp only [roomy,aq,bw]; exact ⟨hs.1,hby⟩
   have hne:s.l≠[]:=λh=>h0 (by rw [h]; rfl);refine ⟨.row (bs.length+1) 0 s.l.length none z,bs++[.cells [],.cells (flat (s.l.map cells))],λlo=>?_,by simp,λx hx=>am hx,⟨hw,.inr ⟨bs.length+1,none,by omega,by simp,by simp,?_,.inl ⟨rfl,by simpa using hne⟩⟩⟩,λk hk=>by simp [V.under]; omega⟩
   . simp only [fH,hrc,aK,if_neg h0];simp [hzz,hroom,h0]
   . have:=fu (bs:=bs) (ys:=[.cells [],.cells (flat (s.l.map cells))]) (i:=1);rw [this];rfl
theorem Acc.row1 {base:List Blk}{z:Nat}{acc:List (List D)}{bs:List Blk}{v:V}(h:Acc base z acc bs v):Row1 base.length bs.length bs z acc v:=by
 refine ⟨h.wid,?_⟩;obtain h1 | ⟨h1,b,h2,h3,h4⟩:=h.is
 . exact .inl h1
 . exact .inr ⟨b,none,h2,aB h4,h3,h4,.inl ⟨rfl,h1⟩⟩
structure DoesE (E:Calls'):Prop where
 e35:∀ p:Pol,p.fits big->∀ h,E 64 [ag p.c] h=some (ag p.cp.c,h)
theorem L34 {T:FuncId->Option QF}{val:FuncId->Bool}(h35:T 64=none)(hE:DoesE E)(c:Cfg)(hc:c.ok)(base:List Blk)(n:Nat)(vs:List V)(hb:ah base n=some vs)(h8:sub vs 7 1=some [.d (c.policies.d Pol.c)])(lo:Nat):∃ bs' lo' v',Cd E T val (.loop [1,2,3,4] uK) [(1,.ptr n 0),(2,.ptr (n+1) 0),(3,.d (.slice true [])),(4,.d (i64 0))] ⟨base,lo⟩=some (.exit 0,[(1,.ptr n 0),(2,.ptr (n+1) 0),(3,v')],⟨bs',lo'⟩)/\Acc base 5 (c.policies.l.map λr=>r.cp.c) bs' v':=by
 have hlen:=hc.2.2.2.1.lt;have key:=zn (E:=E) (T:=T) (val:=val) (base:=base) (z:=5) (keep:=[1,2,3,4]) (body:=uK) c.policies.l.length (λi=>(c.policies.l.take i).map λr=>r.cp.c) (λi v=>[(1,.ptr n 0),(2,.ptr (n+1) 0),(3,v),(4,.d (i64 i))]) (λv=>(.exit 0,[(1,.ptr n 0),(2,.ptr (n+1) 0),(3,v)])) (λi hi bs lo v hA=>?_) (λbs lo v hA W=>?_) base lo _ (by simpa using Acc.nil base 5)
 . simpa using key
 . have hx:=ab hi;have hmem:=bj hi;have htk:c.policies.l.take (i+1)=c.policies.l.take i++[c.policies.l[i]]:=by rw [List.take_add_one,hx]; rfl
   generalize c.policies.l[i]=r at *;have hsx:=λh=>av (z:=5) h hx (cells:=Pol.c) rfl;have hw:=ay hi hlen;have h0:((i:Int)<c.policies.l.length):=by omega
   have hnu:=hA.nu;have hg:=hA.get hb;have hcall:=λh=>(aO (E:=E) (val:=val) h35).trans (hE.e35 r (hc.2.2.2.2 r hmem) h);obtain ⟨v',bs',lo',ha,hA'⟩:=(hA.lay [.cells (r.cp.c.map .d)]).app (by decide) (by_:=64) (by decide) (e:=r.cp.c) rfl (by simp; have:=hc.2.2.2.1.1; omega) lo (r:=bs.length) (cap:=some 1) (by simp);refine ⟨bs',lo',v',by rw [htk,List.map_append]; exact hA',λW=>?_⟩;simp [uK,hg,h8,h0,hsx,hnu,hcall,aN,ha,hw,hA'.nu]
 . simp [uK,hA.get hb,h8]
def cq (c:Cfg)(v4 v5 v6 v7:V):List V:=[.d (u64 c.epoch),.d (u64 c.next),.d (i64 c.hosts),.d (i64 c.ways),v4,v5,v6,v7]
section
variable {c:Cfg}{a b d e x:V}
theorem cq4:put (cq c a b d e) 4 [x]=some (cq c x b d e):=(rfl)
theorem cq5:put (cq c a b d e) 5 [x]=some (cq c a x d e):=(rfl)
theorem cq6:put (cq c a b d e) 6 [x]=some (cq c a b x e):=(rfl)
theorem cq7:put (cq c a b d e) 7 [x]=some (cq c a b d x):=(rfl)
theorem cs4:sub (cq c a b d e) 4 1=some [a]:=(rfl)
theorem cs5:sub (cq c a b d e) 5 1=some [b]:=(rfl)
theorem cs6:sub (cq c a b d e) 6 1=some [d]:=(rfl)
theorem cs8:sub (cq c a b d e) 0 8=some (cq c a b d e):=(rfl)
theorem cql:(cq c a b d e).length=8:=(rfl)
theorem cqz {z:List V}(hz:z.length=8):put z 0 (cq c a b d e)=some (cq c a b d e):=by simp [put,hz,cql]
end
theorem B34 {T:FuncId->Option QF}{val:FuncId->Bool}(h35:T 64=none)(hE:DoesE E)(c:Cfg)(hc:c.ok)(bs:List Blk):∃ bs' lo' v4 v5 v6 v7 L0 L1 L2 L3,
 Bd E T val q34 [c.v] ⟨bs,bs.length⟩=some (.agg (cq c v4 v5 v6 v7),⟨bs',lo'⟩)/\(∀ x,x<bs.length->bs'[x]?=bs[x]?)/\bs.length<=L0/\L0<=L1/\L1<=L2/\L2<=L3/\L3<=bs'.length ∧
 Row1 L0 L1 bs' 7 (c.pods.l.map Pod.c) v4/\Row1 L1 L2 bs' 5 (c.services.l.map Svc.c) v5/\Row1 L2 L3 bs' 2 (c.bound.l.map Way.c) v6/\Row1 L3 bs'.length bs' 5 (c.policies.l.map λr=>r.cp.c) v7 ∧
 v4≠.d (.slice true [])/\v5≠.d (.slice true [])/\v6≠.d (.slice true [])/\(c.policies.l=[]->v7=.d (.slice true []))/\v4.under bs.length=false:=by
 obtain ⟨v4,b4,a4,l4,k4,r4,u4⟩:=Dn (cells:=Pod.c) (z:=7) (by_:=72) (λ_=>rfl) (by decide) (by decide) hc.1 (bs++[.cells (c.c.map .d),.cells [.d (.int .u64 0),.d (.int .u64 0),.d (i64 0),.d (i64 0),.d (.slice true []),.d (.slice true []),.d (.slice true []),.d (.slice true [])]]);have n4:bs.length+2<=b4.length:=by simpa using l4
 let c4:=cq c v4 (.d (c.services.d Svc.c)) (.d (c.bound.d Way.c)) (.d (c.policies.d Pol.c))
 obtain ⟨v5,b5,a5,l5,k5,r5,u5⟩:=Dn (cells:=Svc.c) (z:=5) (by_:=48) (λ_=>rfl) (by decide) (by decide) hc.2.1 (b4.set bs.length (.cells (cq c v4 (.d (c.services.d Svc.c)) (.d (c.bound.d Way.c)) (.d (c.policies.d Pol.c)))));have n5:b4.length<=b5.length:=by simpa using l5
 obtain ⟨v6,b6,a6,l6,k6,r6,u6⟩:=Dn (cells:=Way.c) (z:=2) (by_:=16) (λ_=>rfl) (by decide) (by decide) hc.2.2.1 (b5.set bs.length (.cells (cq c v4 v5 (.d (c.bound.d Way.c)) (.d (c.policies.d Pol.c)))));have n6:b5.length<=b6.length:=by simpa using l6
 have g0:ah b4 bs.length=some (cq c (.d (c.pods.d Pod.c)) (.d (c.services.d Svc.c)) (.d (c.bound.d Way.c)) (.d (c.policies.d Pol.c))):=by
  have:ah (bs++[.cells (c.c.map .d),.cells [.d (.int .u64 0),.d (.int .u64 0),.d (i64 0),.d (i64 0),.d (.slice true []),.d (.slice true []),.d (.slice true []),.d (.slice true [])]]) bs.length=some (c.c.map .d):=by simp
  rw [show cq c (.d (c.pods.d Pod.c)) (.d (c.services.d Svc.c)) (.d (c.bound.d Way.c)) (.d (c.policies.d Pol.c))=c.c.map .d from rfl,← this];unfold ah; rw [k4 _ (by simp)]
 have gset:∀ (b:List Blk) (cs:List V),bs.length<b.length->ah (b.set bs.length (.cells cs)) bs.length=some cs:=λb cs h=>by simp [ah,h]
 have g1:=gset b4 (cq c v4 (.d (c.services.d Svc.c)) (.d (c.bound.d Way.c)) (.d (c.policies.d Pol.c))) (by omega);have g1':ah b5 bs.length=some (cq c v4 (.d (c.services.d Svc.c)) (.d (c.bound.d Way.c)) (.d (c.policies.d Pol.c))):=by rw [← g1]; unfold ah; rw [k5 _ (by simp; omega)]
 have g2:=gset b5 (cq c v4 v5 (.d (c.bound.d Way.c)) (.d (c.policies.d Pol.c))) (by omega);have g2':ah b6 bs.length=some (cq c v4 v5 (.d (c.bound.d Way.c)) (.d (c.policies.d Pol.c))):=by rw [← g2]; unfold ah; rw [k6 _ (by simp; omega)]
 have g3:=gset b6 (cq c v4 v5 v6 (.d (c.policies.d Pol.c))) (by omega);obtain ⟨b7,lo7,v7,a7,A7⟩:=L34 (val:=val) h35 hE c hc (b6.set bs.length (.cells (cq c v4 v5 v6 (.d (c.policies.d Pol.c))))) bs.length _ g3 rfl bs.length;have r7:=A7.row1;have n7:=A7.len;simp at n7 r7;have g3':=A7.get g3;have g4:=gset b7 (cq c v4 v5 v6 v7) (by omega);have gz:ah b7 (bs.length+1)=some [.d (.int .u64 0),.d (.int .u64 0),.d (i64 0),.d (i64 0),.d (.slice true []),.d (.slice true []),.d (.slice true []),.d (.slice true [])]:=by
  refine A7.get ?_;have h0:ah (bs++[.cells (c.c.map .d),.cells [.d (.int .u64 0),.d (.int .u64 0),.d (i64 0),.d (i64 0),.d (.slice true []),.d (.slice true []),.d (.slice true []),.d (.slice true [])]]) (bs.length+1)=some [.d (.int .u64 0),.d (.int .u64 0),.d (i64 0),.d (i64 0),.d (.slice true []),.d (.slice true []),.d (.slice true []),.d (.slice true [])]:=by simp
  rw [← h0]; unfold ah;rw [ac (by omega),k6 _ (by simp; omega),ac (by omega),k5 _ (by simp; omega),ac (by omega),k4 _ (by simp)]
 have gz':ah (b7.set bs.length (.cells (cq c v4 v5 v6 v7))) (bs.length+1)=some [.d (.int .u64 0),.d (.int .u64 0),.d (i64 0),.d (i64 0),.d (.slice true []),.d (.slice true []),.d (.slice true []),.d (.slice true [])]:=by rw [← gz]; unfold ah; rw [ac (by omega)]
 have gy:ah ((b7.set bs.length (.cells (cq c v4 v5 v6 v7))).set (bs.length+1) (.cells (cq c v4 v5 v6 v7))) (bs.length+1)=some (cq c v4 v5 v6 v7):=by
  have:bs.length+1<b7.length:=by omega
  simp [ah,this]
 have hold:∀ x,bs.length+2<=x\/x<bs.length->((b7.set bs.length (.cells (cq c v4 v5 v6 v7))).set (bs.length+1) (.cells (cq c v4 v5 v6 v7)))[x]?=b7[x]?:=λx hx=>by rw [ac (by omega),ac (by omega)]
 have h7:∀ x,x<b6.length->x≠bs.length->b7[x]?=b6[x]?:=λx hx hne=>by rw [A7.old x (by simpa using hx),ac (Ne.symm hne)]
 have h6:∀ x,x<b5.length->x≠bs.length->b6[x]?=b5[x]?:=λx hx hne=>by rw [k6 x (by simpa using hx),ac (Ne.symm hne)]
 have h5:∀ x,x<b4.length->x≠bs.length->b5[x]?=b4[x]?:=λx hx hne=>by rw [k5 x (by simpa using hx),ac (Ne.symm hne)]
 refine ⟨(b7.set bs.length (.cells (cq c v4 v5 v6 v7))).set (bs.length+1) (.cells (cq c v4 v5 v6 v7)),min (min lo7 bs.length) (bs.length+1),v4,v5,v6,v7,bs.length+2,b4.length,b5.length,b6.length,?_,?_,by omega,n4,n5,n6,by simpa using n7,?_,?_,?_,?_,?_,?_,?_,?_,u4 bs.length (by simp)⟩
 . have q4:=a4 bs.length;have q5:=a5 bs.length;have q6:=a6 bs.length;have t4:=r4.cl; have t5:=r5.cl; have t6:=r6.cl; have t7:=r7.cl;have m4:=r4.nu; have m5:=r5.nu; have m6:=r6.nu; have m7:=r7.nu;simp at q4 q5 q6 a7;have hcv:c.v=.agg (cq c (.d (c.pods.d Pod.c)) (.d (c.services.d Svc.c)) (.d (c.bound.d Way.c)) (.d (c.policies.d Pol.c))):=rfl;simp [ae,q34,q4,q5,q6,m4,m5,m6,m7,t4,t5,t6,t7,g0,g1,g1',g2,g2',g3,aJ g1,aJ g2,cq4,cq5,cq6,cs4,cs5,cs6,cql];rw [au];simp [a7];simp [m7,t7,g3',cs8,cql,cqz,cq7,g4,gz',gy]
 . intro x hx;rw [hold x (.inr hx),h7 x (by omega) (by omega),h6 x (by omega) (by omega),h5 x (by omega) (by omega),k4 x (by simp; omega)];exact am hx
 . exact (by simpa using r4:Row1 (bs.length+2) b4.length b4 7 _ v4).on λx h1 h2=>by rw [hold x (.inl h1),h7 x (by omega) (by omega),h6 x (by omega) (by omega),h5 x h2 (by omega)]
 . exact (by simpa using r5:Row1 b4.length b5.length b5 5 _ v5).on λx h1 h2=>by rw [hold x (.inl (by omega)),h7 x (by omega) (by omega),h6 x h2 (by omega)]
 . exact (by simpa using r6:Row1 b5.length b6.length b6 2 _ v6).on λx h1 h2=>by rw [hold x (.inl (by omega)),h7 x h2 (by omega)]
 . simpa using r7.on λx h1 h2=>hold x (.inl (by omega))
 . rintro rfl; exact absurd (u4 0 (by simp)) (by simp [V.under])
 . rintro rfl; exact absurd (u5 0 (by simp)) (by simp [V.under])
 . rintro rfl; exact absurd (u6 0 (by simp)) (by simp [V.under])
 . intro h0;obtain ⟨_,h⟩ | ⟨h,_⟩:=A7.is
   . exact h
   . exact absurd (by simp [h0]) h
end
section
variable {E:Calls'}
theorem Ae {α:Type}{a b:List α}{o k:Nat}(h:o+k<=a.length):sub (a++b) o k=sub a o k:=by
 rw [fJ,fJ,if_pos (by simp; omega),if_pos h,List.drop_append_of_le_length (by omega),List.take_append_of_le_length (by simp; omega)]
theorem wB {α:Type}{a b:List α}{o k:Nat}:sub (a++b) (a.length+o) k=sub b o k:=by
 rw [fJ,fJ,ao,List.drop_append];by_cases h:o+k<=b.length
 . rw [if_pos (by omega),if_pos h,ba (show a.length<=a.length+o by omega)];simp
 . rw [if_neg (by omega),if_neg h]
theorem uS {z:Nat}:∀ {es:List (List D)} {i:Nat} {e:List D},(∀ e∈es,e.length=z)->es[i]?=some e->∀ {o k:Nat},o+k<=z->sub (flat es) (i * z+o) k=sub (e.map V.d) o k
 | x::es,0,e,hz,hi,o,k,h=>by
  simp at hi;subst hi;rw [flat_cons,Nat.zero_mul,Nat.zero_add,Ae (by simp [hz x (by simp)]; omega)]
 | x::es,i+1,e,hz,hi,o,k,h=>by
  have hx:=hz x (by simp);have:(i+1) * z+o=(x.map V.d).length+(i * z+o):=by simp [hx,Nat.succ_mul]; omega
  rw [flat_cons,this,wB];exact uS (λe he=>hz e (by simp [he])) (by simpa using hi) h
theorem Row1.len {L M z:Nat}{bs:List Blk}{es:List (List D)}{v:V}(h:Row1 L M bs z es v)(hp:Hp):rM false v hp=some (.d (i64 es.length),hp):=by
 obtain ⟨rfl,rfl⟩ | ⟨b,cap,h1,h2,rfl,_⟩:=h.2<;>rfl
theorem Row1.at {L M z:Nat}{bs:List Blk}{es:List (List D)}{v:V}(h:Row1 L M bs z es v){i:Nat}{e:List D}(hi:es[i]?=some e) :
 ∃ b,L<=b/\b<M/\(∀ hp,bg none z v (.d (.int .i64 i)) hp=some (.ptr b (i * z),hp))/\ah bs b=some (flat es)/\(∀ o k,o+k<=z->sub (flat es) (i * z+o) k=sub (e.map V.d) o k)/\∀ k,k<=z->sub (flat es) (i * z) k=sub (e.map V.d) 0 k:=by
 have hlt:=(bx.1 hi).1;obtain ⟨rfl,rfl⟩ | ⟨b,cap,h1,h2,rfl,h3,_⟩:=h.2
 . simp at hlt
 . refine ⟨b,h1,h2,λhp=>?_,h3,λo k hk=>uS h.1 hi hk,λk hk=>by simpa using uS (o:=0) h.1 hi (by omega)⟩;simp only [bg];rw [if_pos ⟨by omega,by omega,trivial⟩];simp
theorem Acc.ret {bs bs':List Blk}{z lo lo':Nat}{acc:List (List D)}{v:V}(h:Acc bs z acc bs' v):∃ bs2 lo2,dL ⟨bs,lo⟩ (some (v,⟨bs',lo'⟩))=some (v,⟨bs2,lo2⟩)/\Acc bs z acc bs2 v:=by
 rw [dn];by_cases hc:bs.length<=lo'/\v.under bs.length=true
 . rw [if_pos hc];refine ⟨bs,lo,rfl,?_⟩;obtain ⟨rfl,rfl⟩ | ⟨h1,b,h2,rfl,h4⟩:=h.is
   . exact Acc.nil bs z
   . have:=hc.2;simp [V.under] at this;omega
 . rw [if_neg hc];exact ⟨_,_,rfl,h⟩
end
section
variable {E:Calls'}
theorem Acc.weak {bs ys bs':List Blk}{z:Nat}{acc:List (List D)}{v:V}(h:Acc (bs++ys) z acc bs' v):Acc bs z acc bs' v:=by
 have:=h.len;simp at this;refine ⟨by omega,λx hx=>by rw [h.old x (by simp; omega),am hx],?_,h.wid⟩;obtain h1 | ⟨h1,b,h2,h3,h4⟩:=h.is
 . exact .inl h1
 . exact .inr ⟨h1,b,by simp at h2; omega,h3,h4⟩
end
section
variable {E:Calls'}
theorem Row1.datN {L M z:Nat}{bs:List Blk}{es:List (List D)}{v:V}(h:Row1 L M bs z es v)(hn:v≠.d (.slice true []))(lo k:Nat):dataV ⟨bs,lo⟩ (k+1) v=some (.slice false es):=by
 obtain ⟨_,rfl⟩ | ⟨b,cap,h1,h2,rfl,h3,_⟩:=h.2
 . exact absurd rfl hn
 . rw [iC h.1 rfl (rest:=[]) (by simpa using h3)]
theorem Row1.datE {L M z:Nat}{bs:List Blk}{es:List (List D)}{v:V}(h:Row1 L M bs z es v)(hn:es=[]->v=.d (.slice true []))(lo k:Nat):dataV ⟨bs,lo⟩ (k+1) v=some (.slice es.isEmpty es):=by
 obtain ⟨rfl,rfl⟩ | ⟨b,cap,h1,h2,rfl,h3,h4 | h4⟩:=h.2
 . rfl
 . rw [iC h.1 rfl (rest:=[]) (by simpa using h3)];cases es with
   | nil=>exact absurd rfl h4.2
   | cons _ _=>rfl
 . cases hn h4.2
def Cfg.cp (c:Cfg):Cfg:={ c with pods:=gG c.pods,services:=gG c.services,bound:=gG c.bound,policies:=bn (c.policies.l.map Pol.cp) }
theorem vR {c:Cfg}{h:Hp}{v4 v5 v6 v7:V}{d4 d5 d6 d7:D}(h4:dataV h 8 v4=some d4)(h5:dataV h 8 v5=some d5)(h6:dataV h 8 v6=some d6)(h7:dataV h 8 v7=some d7) :
 bG h (cq c v4 v5 v6 v7)=some [u64 c.epoch,u64 c.next,i64 c.hosts,i64 c.ways,d4,d5,d6,d7]:=by
 simp only [cq,yL];simp [bG,h4,h5,h6,h7]
theorem Cfg.cp_c (c:Cfg):c.cp.c=[u64 c.epoch,u64 c.next,i64 c.hosts,i64 c.ways,.slice false (c.pods.l.map Pod.c),.slice false (c.services.l.map Svc.c),.slice false (c.bound.l.map Way.c),.slice (c.policies.l.map λr=>r.cp.c).isEmpty (c.policies.l.map λr=>r.cp.c)]:=by
 simp [Cfg.cp,Cfg.c,Sl.d,gG,bn,co]
end
section
variable {E:Calls'}
theorem aU {bs:List Blk}{x:Nat}{cs cs0:List V}(h:ah bs x=some cs0):ah (bs.set x (.cells cs)) x=some cs:=by simp [ah,aB h]
theorem eQ {bs:List Blk}{x y:Nat}{cs:List V}(h:y≠x):ah (bs.set y (.cells cs)) x=ah bs x:=by unfold ah; rw [ac h]
theorem cs1 {c:Cfg}{a b d e:V}:sub (cq c a b d e) 1 1=some [.d (u64 c.next)]:=(rfl)
theorem Row1.app {L M z:Nat}{bs:List Blk}{es:List (List D)}{v:V}(h:Row1 L M bs z es v)(hz0:0<z){by_:Nat}(hby:by_<=4096)(hl:es.length<big){e:List D}(he:e.length=z){r:Nat}{cap:Option Nat}(hr:ah bs r=some (e.map .d))(hM:M<=bs.length) :
 ∃ v' bs',∃ F:Nat->Nat,(∀ lo,fH ⟨bs,lo⟩ z by_ v (.row r 0 1 cap z)=some (v',⟨bs',F lo⟩))/\Row1 bs.length bs'.length bs' z (es++[e]) v'/\v'≠.d (.slice true [])/\(∀ x,x<bs.length->x<L\/M<=x->bs'[x]?=bs[x]?)/\bs.length<=bs'.length:=by
 have hrc:∀ lo,aP ⟨bs,lo⟩ (.row r 0 1 cap z) z=some (1,e.map .d):=λlo=>by
  have:sub (e.map V.d) 0 z=some (e.map V.d):=cO (by simpa using he);simp only [aP,if_true,get_eq,hr,Nat.one_mul,this,Option.map_some]
 have hroom:∀ n,n<=big->roomy n by_=true:=λn hn=>by simp only [roomy,aq,bw]; exact ⟨hn,hby⟩
 have hwid:∀ x∈es++[e],x.length=z:=λx hx=>by
  obtain h1 | h1:=List.mem_append.1 hx
  . exact h.1 x h1
  . simp at h1; rw [h1]; exact he
 have hfe:flat (es++[e])=flat es++e.map .d:=by rw [ky]; simp [flat]
 obtain ⟨rfl,rfl⟩ | ⟨b,cap',h1,h2,rfl,h3,⟨rfl,h4⟩ | ⟨rfl,rfl⟩⟩:=h.2
 . refine ⟨.row bs.length 0 1 none z,bs++[.cells (e.map .d)],id,λlo=>by simp only [fH,hrc,aK,if_neg (show ¬ (1=0) by decide),if_neg (show ¬ z=0 by omega),hroom 1 (by decide),if_true]; rfl,⟨hwid,.inr ⟨bs.length,none,br _,by simp,rfl,by simp [flat],.inl ⟨rfl,by simp⟩⟩⟩,by simp,λx hx _=>am hx,by simp⟩
 . have hfl:=flat_len h.1;have hsub:sub (flat es) 0 (es.length * z)=some (flat es):=cO hfl;have hpos:0<(flat es).length:=by rw [hfl]; exact Nat.mul_pos (by cases es with | nil=>exact absurd rfl h4 | cons _ _=>simp) hz0
   have hbl:=aB h3;refine ⟨.row bs.length 0 (es.length+1) none z,bs.set b (.cells [])++[.cells (flat es++e.map .d)],λlo=>min lo b,λlo=>by simp only [fH,hrc,aK,ne_eq,not_true_eq_false,false_or,if_neg (show ¬ (1=0) by decide),if_neg (show ¬ z=0 by omega),get_eq,h3,hsub,hroom (es.length+1) (by omega),Bool.not_true,bo,if_false,hpos,and_self,if_true,Hp.size,Hp.alloc,Hp.set,List.length_set],⟨hwid,.inr ⟨bs.length,none,br _,by simp,by simp,?_,.inl ⟨rfl,by simp⟩⟩⟩,by simp,λx hx hx2=>?_,by simp⟩
   . have:ah (bs.set b (.cells [])++[.cells (flat es++e.map .d)]) (bs.set b (.cells [])).length=some (flat es++e.map .d):=by rw [eF]; rfl
     rw [List.length_set] at this;rw [hfe];exact this
   . rw [am (by simpa using hx),ac (by omega)]
 . have hsub:sub (flat []) 0 (0 * z)=some (flat []):=by simp
   refine ⟨.row bs.length 0 1 none z,bs++[.cells (e.map .d)],id,λlo=>by
    simp only [fH,hrc,aK,ne_eq,not_true_eq_false,false_or,if_neg (show ¬ (1=0) by decide),if_neg (show ¬ z=0 by omega),get_eq,h3,hsub,cm,hroom (0+1) (by decide),Bool.not_true,bo,if_false,show ¬ (0+1<=0) by omega,Hp.size,Hp.alloc]; rfl,⟨hwid,.inr ⟨bs.length,none,br _,by simp,rfl,by simp [flat],.inl ⟨rfl,by simp⟩⟩⟩,by simp,λx hx _=>am hx,by simp⟩
end
section
variable {E:Calls'}
theorem b0 {ev:X->V}{d:Nat}:dH ev none d=some d:=rfl
end
section
variable {E:Calls'}
end
section
variable {E:Calls'}
end
section
end
section
theorem fq {α:Type}{B:Nat}{f:Nat->α->Prop}{s:Sl α}(h:s.wf B f):(gG s).wf B f:=⟨⟨h.1.1,λh=>by cases h⟩,h.2⟩
theorem pz {α β:Type}{B:Nat}{f:Nat->α->Prop}{g:Nat->β->Prop}{s:Sl α}{k:α->β}(h:s.wf B f)(hk:∀ x∈s.l,f B x->g B (k x)):(bn (s.l.map k)).wf B g :=
 ⟨⟨by simpa [bn] using h.1.1,λh=>by simpa [bn] using h⟩,λy hy=>by
  obtain ⟨x,hx,rfl⟩:=ce.1 (show y∈s.l.map k from hy);exact hk x hx (h.2 x hx)⟩
theorem Source.cp_wf {B:Nat}{s:Source}(h:s.wf B):s.cp.wf B:=⟨fq h.1,fq h.2.1,fq h.2.2⟩
theorem Target.cp_wf {B:Nat}{s:Target}(h:s.wf B):s.cp.wf B:=⟨fq h.1,fq h.2.1,fq h.2.2.1,fq h.2.2.2⟩
theorem When.cp_wf {B:Nat}{s:When}(h:s.wf B):s.cp.wf B:=⟨h.1,fq h.2⟩
theorem Rule.cp_wf {B:Nat}{s:Rule}(h:s.wf B):s.cp.wf B:=⟨pz h.1 λ_ _ h=>Source.cp_wf h,pz h.2.1 λ_ _ h=>Target.cp_wf h,pz h.2.2 λ_ _ h=>When.cp_wf h⟩
theorem Pol.cp_wf {B:Nat}{s:Pol}(h:s.wf B):s.cp.wf B:=⟨h.1,h.2.1,h.2.2.1,h.2.2.2.1,pz h.2.2.2.2 λ_ _ h=>Rule.cp_wf h⟩
theorem Cfg.cp_wf {B:Nat}{c:Cfg}(h:c.wf B):c.cp.wf B:=⟨h.1,h.2.1,h.2.2.1,h.2.2.2.1,fq h.2.2.2.2.1,fq h.2.2.2.2.2.1,fq h.2.2.2.2.2.2.1,pz h.2.2.2.2.2.2.2 λ_ _ h=>Pol.cp_wf h⟩
end
section
variable {E:Calls'}
noncomputable def EX1 (E:Calls'):Calls':=Sm E TX bQ
end
section
theorem Source.cp_nf (s:Source):s.cp.nf=s.nf:=rfl
theorem Target.cp_nf (s:Target):s.cp.nf=s.nf:=rfl
theorem When.cp_nf (s:When):s.cp.nf=s.nf:=rfl
theorem Rule.cp_nf (r:Rule):r.cp.nf=r.nf:=by
 simp [Rule.cp,Rule.nf,Sl.nf,bn,co,Source.cp_nf,Target.cp_nf,When.cp_nf]
theorem Pol.cp_nf (p:Pol):p.cp.nf=p.nf:=by
 simp [Pol.cp,Pol.nf,Sl.nf,bn,co,Rule.cp_nf]
theorem Bp (p:Pol):p.own.nf=p.nf:=Pol.same_iff.1 (own_same p)
theorem Cfg.cp_nf (c:Cfg):c.cp.nf=c.nf:=by
 simp [Cfg.cp,Cfg.nf,Sl.nf,gG,bn,co,Pol.cp_nf]
theorem Cfg.own_nf (c:Cfg):c.own.nf=c.nf:=by
 simp [Cfg.own,Cfg.nf,Sl.nf,co,Bp]
end
section
theorem MQ {c d:Cfg}(h1:c.epoch=d.epoch)(h2:c.next=d.next)(h3:c.hosts=d.hosts)(h4:c.ways=d.ways)(h5:c.pods.l=d.pods.l)(h6:c.services.l=d.services.l)(h7:c.bound.l=d.bound.l)(h8:c.policies.l.map Pol.nf=d.policies.l.map Pol.nf):c.nf=d.nf:=by
 simp [Cfg.nf,Sl.nf,h1,h2,h3,h4,h5,h6,h7,h8]
theorem own_epoch (c:Cfg)(e:Edt):(K6 c.own e).1.epoch=c.epoch:=by
 unfold K6 MF
 repeat' first
  | rfl
  | split
end
section
variable {E:Calls'}
def WU:List (Nat×QF):=[(26,q34)]
def TVq:FuncId->Option QF:=gI WU
def CV (f:FuncId):Bool:=Nat.beq 26 f
theorem V34 (hE:DoesE E)(c:Cfg)(hc:c.ok)(h:Hp):Sm E TVq CV 26 [c.v] h=some (ag c.cp.c,h):=by
 obtain ⟨bs',lo',v4,v5,v6,v7,L0,L1,L2,L3,a,r1,r2,r3,r4,r5,r6,r7,r8,r9,r10,r11,r12,r13,r14,u4⟩:=B34 (T:=TVq) (val:=CV) (by kernel_rfl) hE c hc [];have hcv:[c.v].mapM (frz h)=some [c.v]:=by simp [Cfg.v]
 rw [aY (q:=q34) (by kernel_rfl) (by kernel_rfl),hcv,uW];have a':Bd E TVq CV q34 [c.v] ⟨[],0⟩=some (.agg (cq c v4 v5 v6 v7),⟨bs',lo'⟩):=a;rw [a',H9,jB,vR (r7.datN r11 lo' 7) (r8.datN r12 lo' 7) (r9.datN r13 lo' 7) (r10.datE (λh0=>r14 (by simpa using h0)) lo' 7),← Cfg.cp_c];simp [Cfg.v]
theorem Ak {T:FuncId->Option QF}{val:FuncId->Bool}{f:FuncId}{q:QF}(ht:T f=some q)(hv:val f=true){l m:List D}{b:Bool}(h0:∀ h,Sm E T val f [ag l,ag m] h=some (bl b,h)){a a':V}{h:Hp}(ha:frz h a=some (ag l))(ha':frz h a'=some (ag m)):Sm E T val f [a,a'] h=some (bl b,h):=by
 have h1:=h0 h;rw [aY ht hv] at h1 ⊢;simp only [List.mapM_cons,List.mapM_nil,lX,ha,ha',Option.pure_def,Option.bind_eq_bind,Option.bind_some,uW,BP] at h1 ⊢;cases hB:Bd E T val q [ag l,ag m] ⟨[],0⟩ with
 | none=>rw [hB] at h1; cases h1
 | some p =>
  obtain ⟨r,h'⟩:=p;rw [hB] at h1;simp only [EM] at h1 ⊢;cases hr:frz h' r with
  | none=>rw [hr] at h1; cases h1
  | some r' =>
   rw [hr] at h1;have e1:r'=bl b:=by
    simp at h1; exact h1
   subst e1;have:=yY hr;subst this;simp [ownR,vD,mW]
end
section
variable {E:Calls'}
theorem wu {cs:List V}{o:Nat}{y:V}(h:o<cs.length):∃ cs',put cs o [y]=some cs'/\cs'.length=cs.length/\∀ j,cs'[j]?=if j=o then some y else cs[j]?:=by
 refine ⟨cs.set o y,?_,by simp,λj=>?_⟩
 . simp only [put,List.length_singleton];rw [if_pos (by omega)]
   congr 1
   rw [List.set_eq_take_append_cons_drop,if_pos h];simp
 . rw [List.getElem?_set];by_cases hj:j=o
   . subst hj; simp [h]
   . rw [if_neg hj,if_neg (Ne.symm hj)]
theorem qV {cs:List V}{o:Nat}{y:V}(h:cs[o]?=some y):sub cs o 1=some [y]:=by
 obtain ⟨h1,rfl⟩:=bx.1 h;exact KJ h1
theorem jE {T:FuncId->Option QF}{val:FuncId->Bool}{keep:List Nat}{body:QC}(n:Nat)(env:Nat->EA)(P:Nat->List Blk->Prop)(X:Ex×EA)
 (hr:∀ i,i<n->∀ bs lo,P i bs->∃ bs' lo',P (i+1) bs'/\∀ W:EA->Hp->d9,bY keep W (Cd E T val body (bE keep (env i)) ⟨bs,lo⟩)=W (env (i+1)) ⟨bs',lo'⟩)
 (he:∀ bs lo,P n bs->∀ W:EA->Hp->d9,bY keep W (Cd E T val body (bE keep (env n)) ⟨bs,lo⟩)=some (X.1,X.2,⟨bs,lo⟩)) (bs:List Blk) (lo:Nat) (h0:P 0 bs) :
 ∃ bs' lo',Cd E T val (.loop keep body) (env 0) ⟨bs,lo⟩=some (X.1,X.2,⟨bs',lo'⟩)/\P n bs':=by
 have:∀ (m i:Nat) (bs:List Blk) (lo:Nat),i+m=n->P i bs->∃ bs' lo',Cd E T val (.loop keep body) (env i) ⟨bs,lo⟩=some (X.1,X.2,⟨bs',lo'⟩)/\P n bs':=by
  intro m;have key:=aC (E:=E) (T:=T) (val:=val) keep body;generalize Cd E T val (.loop keep body)=W at key ⊢
  induction m with
  | zero =>
   intro i bs lo hi hP;rw [show i=n by omega] at hP ⊢;exact ⟨bs,lo,by rw [key,he bs lo hP W],hP⟩
  | succ m ih =>
   intro i bs lo hi hP;obtain ⟨bs',lo',h1,h2⟩:=hr i (by omega) bs lo hP;obtain ⟨bs2,lo2,h3,h4⟩:=ih (i+1) bs' lo' (by omega) h1;exact ⟨bs2,lo2,by rw [key,h2 W,h3],h4⟩
 exact this n 0 bs lo (by omega) h0
def Idc (z n:Nat)(cs:List V):Prop:=∀ i,i<n->∃ x,cs[i * z]?=some (.d (u64 x))
theorem Idc.put {z n o:Nat}{cs cs':List V}{x:Int}(h:Idc z n cs)(hc:∀ j,cs'[j]?=if j=o then some (.d (u64 x)) else cs[j]?):Idc z n cs':=λi hi=>by
 rw [hc];by_cases ho:i * z=o
 . rw [if_pos ho]; exact ⟨_,rfl⟩
 . rw [if_neg ho]; exact h i hi
def IdRow (K:Nat->Prop)(bs:List Blk)(z:Nat)(v:V):Prop:=(∃ nl,v=.d (.slice nl []))\/∃ b n cap cs,K b/\v=.row b 0 n cap z/\n<2 ^ 62/\ah bs b=some cs/\Idc z n cs
def Keeps (K:Nat->Prop)(bs bs':List Blk):Prop:=(∀ x,¬ K x->bs'[x]?=bs[x]?)/\∀ x cs,ah bs x=some cs->∃ cs',ah bs' x=some cs'/\cs'.length=cs.length
theorem Keeps.refl {K:Nat->Prop}{bs:List Blk}:Keeps K bs bs:=⟨λ_ _=>rfl,λx cs h=>⟨cs,h,rfl⟩⟩
theorem Keeps.trans {K:Nat->Prop}{a b c:List Blk}(h:Keeps K a b)(k:Keeps K b c):Keeps K a c:=⟨λx hx=>(k.1 x hx).trans (h.1 x hx),λx cs hc=>by
 obtain ⟨c1,h1,h2⟩:=h.2 x cs hc;obtain ⟨c2,h3,h4⟩:=k.2 x c1 h1;exact ⟨c2,h3,h4.trans h2⟩⟩
theorem Keeps.set {K:Nat->Prop}{x:Nat}{bs:List Blk}{cs cs0:List V}(h:K x)(h0:ah bs x=some cs0)(hl:cs.length=cs0.length):Keeps K bs (bs.set x (.cells cs)):=⟨λy hy=>ac (by rintro rfl; exact hy h),λy c hc=>by
 by_cases hy:x=y
 . subst hy;rw [h0] at hc;cases hc;exact ⟨cs,aU h0,hl⟩
 . exact ⟨c,by rw [eQ hy]; exact hc,rfl⟩⟩
theorem Keeps.get {K:Nat->Prop}{x:Nat}{bs bs':List Blk}{cs:List V}(h:Keeps K bs bs')(hx:¬ K x)(hg:ah bs x=some cs):ah bs' x=some cs:=by
 rw [← hg]; unfold ah; rw [h.1 x hx]
def RulOk (K:Nat->Prop)(b:Nat)(bs:List Blk)(r:V):Prop:=(∃ nl,r=.d (.slice nl []))\/∃ b' m cap cs,K b'/\b'≠b/\r=.row b' 0 m cap 3/\m<2 ^ 62/\ah bs b'=some cs/\m * 3<=cs.length
theorem RulOk.keep {K:Nat->Prop}{b:Nat}{bs bs':List Blk}{r:V}(h:RulOk K b bs r)(k:Keeps K bs bs'):RulOk K b bs' r:=by
 obtain h | ⟨b',m,cap,cs,h1,h2,h3,h4,h5,h6⟩:=h
 . exact .inl h
 . obtain ⟨cs',q1,q2⟩:=k.2 b' cs h5;exact .inr ⟨b',m,cap,cs',h1,h2,h3,h4,q1,by omega⟩
def PolRow (K:Nat->Prop)(bs:List Blk)(v:V):Prop:=(∃ nl,v=.d (.slice nl []))\/∃ b n cap cs,K b/\v=.row b 0 n cap 5/\n<2 ^ 62/\ah bs b=some cs/\Idc 5 n cs/\∀ i,i<n->∃ r,cs[i * 5+4]?=some r/\RulOk K b bs r
end
section
variable {E:Calls'}
def Tg (L M:Nat)(tag:Nat->Nat)(i:Nat):Nat->Prop:=λx=>L<=x/\x<M/\tag x=i
def Tg2 (L M:Nat)(tag:Nat->Nat):Nat->Prop:=λx=>L<=x/\x<M/\(tag x=7\/tag x=8)
theorem aS {bs bs':List Blk}{x:Nat}{cs:List V}(h:bs'[x]?=bs[x]?)(hg:ah bs x=some cs):ah bs' x=some cs:=by
 rw [← hg]; unfold ah; rw [h]
theorem IdRow.on {K:Nat->Prop}{bs bs':List Blk}{z:Nat}{v:V}(h:IdRow K bs z v)(k:∀ x,K x->bs'[x]?=bs[x]?):IdRow K bs' z v:=by
 obtain h | ⟨b,n,cap,cs,h1,h2,h3,h4,h5⟩:=h
 . exact .inl h
 . exact .inr ⟨b,n,cap,cs,h1,h2,h3,aS (k b h1) h4,h5⟩
theorem PolRow.on {K:Nat->Prop}{bs bs':List Blk}{v:V}(h:PolRow K bs v)(k:∀ x,K x->bs'[x]?=bs[x]?):PolRow K bs' v:=by
 obtain h | ⟨b,n,cap,cs,h1,h2,h3,h4,h5,h6⟩:=h
 . exact .inl h
 . refine .inr ⟨b,n,cap,cs,h1,h2,h3,aS (k b h1) h4,h5,λi hi=>?_⟩;obtain ⟨r,q1,q2⟩:=h6 i hi;refine ⟨r,q1,?_⟩;obtain q2 | ⟨b',m,cap',cs',e1,e2,e3,e4,e5,e6⟩:=q2
   . exact .inl q2
   . exact .inr ⟨b',m,cap',cs',e1,e2,e3,e4,aS (k b' e1) e5,e6⟩
structure Spoils (L0 M:Nat) (bs:List Blk) (cells:List V):Prop where
 len:cells.length=8
 low:L0<=M
 top:M<=bs.length
 is:∃ (tag:Nat->Nat) (v4 v5 v6 v7:V),sub cells 4 1=some [v4]/\sub cells 5 1=some [v5]/\sub cells 6 1=some [v6]/\sub cells 7 1=some [v7] ∧
  IdRow (Tg L0 M tag 4) bs 7 v4/\IdRow (Tg L0 M tag 5) bs 5 v5/\IdRow (Tg L0 M tag 6) bs 2 v6/\PolRow (Tg2 L0 M tag) bs v7
theorem Spoils.on {L0 M:Nat}{bs bs':List Blk}{cells:List V}(h:Spoils L0 M bs cells)(hl:M<=bs'.length)(k:∀ x,L0<=x->x<M->bs'[x]?=bs[x]?):Spoils L0 M bs' cells:=by
 obtain ⟨tag,v4,v5,v6,v7,s4,s5,s6,s7,r4,r5,r6,r7⟩:=h.is;exact ⟨h.len,h.low,hl,tag,v4,v5,v6,v7,s4,s5,s6,s7,r4.on λx hx=>k x hx.1 hx.2.1,r5.on λx hx=>k x hx.1 hx.2.1,r6.on λx hx=>k x hx.1 hx.2.1,r7.on λx hx=>k x hx.1 hx.2.1⟩
end
section
variable {E:Calls'}
end
section
variable {E:Calls'}{T:FuncId->Option QF}{val:FuncId->Bool}
theorem Acc.low {base:List Blk}{z:Nat}{acc:List (List D)}{bs bs':List Blk}{v v' x:V}{by_ lo lo':Nat}(h:Acc base z acc bs v)(ha:fH ⟨bs,lo⟩ z by_ v x=some (v',⟨bs',lo'⟩))(hl:base.length<=lo):base.length<=lo':=by
 unfold fH at ha;split at ha
 case h_2=>cases ha
 case h_1 m xs _ =>
  obtain ⟨_,rfl⟩ | ⟨h1,b,h2,rfl,h4⟩:=h.is
  . simp only [aK] at ha
    repeat' split at ha
    all_goals first
     | (cases ha; exact hl)
     | (simp [Hp.alloc] at ha; omega)
     | cases ha
  . simp only [aK] at ha
    repeat' split at ha
    all_goals first
     | (cases ha; done)
     | (cases ha; exact hl)
     | (simp [Hp.alloc,Hp.set] at ha; omega)
theorem DT {T:FuncId->Option QF}{val:FuncId->Bool}{keep:List Nat}{body:QC}{base:List Blk}{z:Nat}(n:Nat)(G:Nat->List (List D))(env:Nat->V->EA)(X:V->Ex×EA)
 (hr:∀ i,i<n->∀ bs lo v,Acc base z (G i) bs v->∃ bs' lo' v',Acc base z (G (i+1)) bs' v'/\(base.length<=lo->base.length<=lo')/\∀ W:EA->Hp->d9,bY keep W (Cd E T val body (bE keep (env i v)) ⟨bs,lo⟩)=W (env (i+1) v') ⟨bs',lo'⟩)
 (he:∀ bs lo v,Acc base z (G n) bs v->∀ W:EA->Hp->d9,bY keep W (Cd E T val body (bE keep (env n v)) ⟨bs,lo⟩)=some ((X v).1,(X v).2,⟨bs,lo⟩)) (bs:List Blk) (lo:Nat) (v:V) (h0:Acc base z (G 0) bs v) :
 ∃ bs' lo' v',Cd E T val (.loop keep body) (env 0 v) ⟨bs,lo⟩=some ((X v').1,(X v').2,⟨bs',lo'⟩)/\Acc base z (G n) bs' v'/\(base.length<=lo->base.length<=lo'):=by
 have:∀ (m i:Nat) (bs:List Blk) (lo:Nat) (v:V),i+m=n->Acc base z (G i) bs v->∃ bs' lo' v',Cd E T val (.loop keep body) (env i v) ⟨bs,lo⟩=some ((X v').1,(X v').2,⟨bs',lo'⟩)/\Acc base z (G n) bs' v'/\(base.length<=lo->base.length<=lo'):=by
  intro m;have key:=aC (E:=E) (T:=T) (val:=val) keep body;generalize Cd E T val (.loop keep body)=W at key ⊢
  induction m with
  | zero =>
   intro i bs lo v hi hP;rw [show i=n by omega] at hP ⊢;exact ⟨bs,lo,v,by rw [key,he bs lo v hP W],hP,id⟩
  | succ m ih =>
   intro i bs lo v hi hP;obtain ⟨bs',lo',v',h1,hl,h2⟩:=hr i (by omega) bs lo v hP;obtain ⟨bs2,lo2,v2,h3,h4,h5⟩:=ih (i+1) bs' lo' v' (by omega) h1;exact ⟨bs2,lo2,v2,by rw [key,h2 W,h3],h4,λh=>h5 (hl h)⟩
 exact this n 0 bs lo v (by omega) h0
theorem Acc.retL {bs bs':List Blk}{z lo lo':Nat}{acc:List (List D)}{v:V}(h:Acc bs z acc bs' v)(hl:bs.length<=lo'):∃ bs2 lo2,dL ⟨bs,lo⟩ (some (v,⟨bs',lo'⟩))=some (v,⟨bs2,lo2⟩)/\Acc bs z acc bs2 v/\(∀ k,k<=lo->k<=bs.length->k<=lo2):=by
 rw [dn];by_cases hc:bs.length<=lo'/\v.under bs.length=true
 . rw [if_pos hc];refine ⟨bs,lo,rfl,?_,λk h _=>h⟩;obtain ⟨rfl,rfl⟩ | ⟨h1,b,h2,rfl,h4⟩:=h.is
   . exact Acc.nil bs z
   . have:=hc.2;simp [V.under] at this;omega
 . rw [if_neg hc];exact ⟨_,_,rfl,h,λk h h'=>by show k<=min lo lo'; omega⟩
theorem Zf (vL:T 203=some rP)(vM:val 203=false)(h231:∀ r:Rule,r.fits big->∀ h,Sm E T val 204 [ag r.c] h=some (ag r.own.c,h))(s:Sl Rule)(hs:short s)(hf:∀ r∈s.l,r.fits big)(bs:List Blk)(lo:Nat) :
 ∃ bs' lo' v,Sm E T val 203 [.d (s.d Rule.c),.fn 204 []] ⟨bs,lo⟩=some (v,⟨bs',lo'⟩)/\Acc bs 3 (s.l.map λr=>r.own.c) bs' v/\(∀ k,k<=lo->k<=bs.length->k<=lo'):=by
 have hlen:=hs.lt;have key:=DT (E:=E) (T:=T) (val:=val) (base:=bs) (z:=3) (keep:=[1,5,8,9,10]) (body:=sj) s.l.length (λi=>(s.l.take i).map λr=>r.own.c) (λi v=>[(1,.fn 204 []),(5,v),(8,.d (s.d Rule.c)),(9,.d (i64 s.l.length)),(10,.d (i64 i))]) (λv=>(.exit 0,[(5,v)])) (λi hi b1 lo v hA=>?_) (λb1 lo v hA W=>?_) bs bs.length _ (by simpa using Acc.nil bs 3)
 . obtain ⟨b2,lo2,v,k1,k2,kl⟩:=key;rw [List.take_length] at k2;obtain ⟨b3,lo3,k3,k4,k5⟩:=k2.retL (lo:=lo) (lo':=lo2) (kl (br _));refine ⟨b3,lo3,v,?_,k4,k5⟩;have hnu:=k2.nu;rw [aW vL vM];simp at k1;simp [ae,rP];rw [au];simp [k1];simp [hnu,bD,-dn];exact k3
 . have hx:=ab hi;have hmem:=bj hi;have htk:s.l.take (i+1)=s.l.take i++[s.l[i]]:=by rw [List.take_add_one,hx]; rfl
   generalize s.l[i]=r at *;have hsx:=λh=>av (z:=3) h hx (cells:=Rule.c) rfl;have hw:=ay hi hlen;have h0:((i:Int)<s.l.length):=by omega
   have hnu:=hA.nu;have hcall:=λh=>h231 r (hf r hmem) h;obtain ⟨v',b2,lo2,ha,hA'⟩:=(hA.lay [.cells (r.c.map .d),.cells (r.own.c.map .d)]).app (by decide) (by_:=72) (by decide) (e:=r.own.c) rfl (by simp; have:=hs.1; omega) (min lo b1.length) (r:=b1.length+1) (cap:=some 1) (by
    have:=fu (bs:=b1) (ys:=[.cells (r.c.map .d),.cells (r.own.c.map .d)]) (i:=1);rw [this]; rfl)
   refine ⟨b2,lo2,v',by rw [htk,List.map_append]; exact hA',λhlo=>(hA.lay _).low ha (by have:=hA.len; omega),λW=>?_⟩;simp [sj,h0,hsx,hnu,hcall,aN,ha,hw,hA'.nu]
 . simp [sj]
def pq (p:Pol)(v:V):List V:=[.d (u64 p.id),.d (.str p.ns),.d (u64 p.service),.d (i64 p.deny),v]
theorem Ze (yc:T 130=some pK)(yj:val 130=false)(vL:T 203=some rP)(vM:val 203=false)(h231:∀ r:Rule,r.fits big->∀ h,Sm E T val 204 [ag r.c] h=some (ag r.own.c,h))(p:Pol)(hp:p.fits big)(bs:List Blk)(lo:Nat) :
 ∃ bs' lo' v,Sm E T val 130 [ag p.c] ⟨bs,lo⟩=some (.agg (pq p v),⟨bs',lo'⟩)/\Acc bs 3 (p.rules.l.map λr=>r.own.c) bs' v/\(∀ k,k<=lo->k<=bs.length->k<=lo'):=by
 obtain ⟨b1,lo1,v,a,A,al⟩:=Zf vL vM h231 p.rules hp.1 hp.2 (bs++[.cells (p.c.map .d),.cells [.d (.int .u64 0),.d (.str ⟨#[]⟩),.d (.int .u64 0),.d (i64 0),.d (.slice true [])]]) bs.length;have A':=A.weak;have hl:=A.len;simp at hl;have g0:ah b1 bs.length=some (p.c.map .d):=A.get (by simp);have g1:ah b1 (bs.length+1)=some [.d (.int .u64 0),.d (.str ⟨#[]⟩),.d (.int .u64 0),.d (i64 0),.d (.slice true [])]:=A.get (by simp);have hnu:=A.nu;have hcl:=A.cl;have hp4:put (p.c.map V.d) 4 [v]=some (pq p v):=rfl;have g0s:ah (b1.set bs.length (.cells (pq p v))) bs.length=some (pq p v):=aU g0;have g1s:ah (b1.set bs.length (.cells (pq p v))) (bs.length+1)=some _:=(eQ (by omega)).trans g1;have g1t:ah ((b1.set bs.length (.cells (pq p v))).set (bs.length+1) (.cells (pq p v))) (bs.length+1)=some (pq p v):=aU g1s;have hs5:sub (pq p v) 0 5=some (pq p v):=rfl;have hpl:(pq p v).length=5:=rfl;have hpz:∀ z:List V,z.length=5->put z 0 (pq p v)=some (pq p v):=λz hz=>by simp [put,hz,hpl]
 have A2:Acc bs 3 (p.rules.l.map λr=>r.own.c) ((b1.set bs.length (.cells (pq p v))).set (bs.length+1) (.cells (pq p v))) v:=by
  refine ⟨by simp; omega,λx hx=>by rw [ac (by omega),ac (by omega)]; exact A'.old x hx,?_,A.wid⟩;obtain h1 | ⟨h1,b,h2,h3,h4⟩:=A.is
  . exact .inl h1
  . simp at h2;exact .inr ⟨h1,b,by omega,h3,by rw [eQ (by omega),eQ (by omega)]; exact h4⟩
 have hB:∃ l,bs.length<=l/\Bd E T val pK [ag p.c] ⟨bs,bs.length⟩=some (.agg (pq p v),⟨(b1.set bs.length (.cells (pq p v))).set (bs.length+1) (.cells (pq p v)),l⟩):=by
  refine ⟨min (min lo1 bs.length) (bs.length+1),?_,?_⟩
  . have:=al bs.length (br _) (by simp);omega
  simp [ae,pK,a,g0,g1,hnu,hcl,hp4,g0s,g1s,g1t,hs5,hpl,hpz]
 obtain ⟨l,hll,hB⟩:=hB;by_cases hc:bs.length<=l/\(V.agg (pq p v)).under bs.length=true
 . refine ⟨bs,lo,v,?_,?_,λk h _=>h⟩
   . rw [aW yc yj];show dL ⟨bs,lo⟩ (Bd E T val pK [ag p.c] ⟨bs,bs.length⟩)=_;rw [hB,dn,if_pos hc]
   . obtain ⟨h1,h2⟩ | ⟨h1,b,h2,h3,h4⟩:=A2.is
     . rw [h1,h2]; exact Acc.nil bs 3
     . have:=hc.2;rw [h3] at this;simp [V.under,V.under.go,pq] at this;omega
 . refine ⟨_,min lo l,v,?_,A2,λk h h'=>by omega⟩;rw [aW yc yj];show dL ⟨bs,lo⟩ (Bd E T val pK [ag p.c] ⟨bs,bs.length⟩)=_;rw [hB,dn,if_neg hc]
end
