/- A rule's copy, as1 the document has it. -/
import Derived.Test.YtmakbdpnlfmclaaGreatHb
set_option maxRecDepth 100000
set_option linter.unusedVariables false
set_option linter.unusedSimpArgs false
namespace Go.Proofs.YtmakbdpnlfmclaaGreat
section
variable {E:Calls'}
def iG {α:Type}(s:Sl α):Sl α:=⟨false,s.l⟩
def uI {α:Type}(l:List α):Sl α:=⟨l.isEmpty,l⟩
def Source.cp (s:Source):Source:=⟨iG s.names,iG s.spaces,iG s.nets⟩
def Target.cp (t:Target):Target:=⟨iG t.ports,iG t.methods,iG t.paths,iG t.hosts⟩
def When.cp (w:When):When:=⟨w.head,iG w.terms⟩
def Rule.cp (r:Rule):Rule:=⟨uI (r.frm.l.map Source.cp),uI (r.to.l.map Target.cp),uI (r.whn.l.map When.cp)⟩
structure K3 (r:Rule) (ws:List V) (L:Nat) (B0 bs:List Blk):Prop where
 r0:ai bs 0=some (r.c.map .d)
 a0:ai bs 1=some [.d (.slice true []),.d (.slice true []),.d (.slice true [])]
 x0:ai bs 2=some ws
 L3:3<=L
 len:L<=bs.length
 old:∀ x,x<L->x≠2->bs[x]?=B0[x]?
theorem AccV.cl {w:Bool}{L z k n:Nat}{ds:List D}{bs:List Blk}{v:V}(h:AccV w L z k n ds bs v):v.cells=some [v]:=by
 obtain ⟨_,_,rfl⟩ | ⟨_,B,cs,_,rfl,_⟩:=h<;>rfl
theorem AccV.blk {w:Bool}{L z k n:Nat}{ds:List D}{bs:List Blk}{v:V}(h:AccV w L z k n ds bs v):v.blk=[]\/∃ B,v.blk=[B]/\L<=B/\B<bs.length:=by
 obtain ⟨_,_,rfl⟩ | ⟨_,B,cs,h1,rfl,h3,_⟩:=h
 . exact .inl rfl
 . exact .inr ⟨B,rfl,h1,aI h3⟩
theorem Hng.ext {w:Bool}{L L' k:Nat}{bs:List Blk}{v:V}{d:D}(h:Hng w (KL L bs) bs v d k)(ys:List Blk)(hL:L'<=L):Hng w (KL L' (bs++ys)) (bs++ys) v d k :=
 h.on (λx hx=>al hx.2) λx hx=>⟨cg hL hx.1,by have:=hx.2; simp; omega⟩
theorem Wv (r:Rule)(hr:r.fits big)(vT vW:V)(L:Nat)(B0:List Blk):∀ (m i:Nat) (bs:List Blk) (lo:Nat) (v:V),i+m=r.frm.l.length->K3 r [v,vT,vW] L B0 bs->AccV false L 3 1 i ((r.frm.l.take i).map λs=>s.cp.c).flatten bs v →
 ∃ bs' lo' v',Cd E TX kW (.loop [1,2,3,4] tK) [(1,.ptr 0 0),(2,.ptr 1 0),(3,.ptr 2 0),(4,.d (i64 i))] ⟨bs,lo⟩=some (.exit 0,[(1,.ptr 0 0),(2,.ptr 1 0),(3,.ptr 2 0)],⟨bs',lo'⟩)/\K3 r [v',vT,vW] L B0 bs'/\AccV false L 3 1 r.frm.l.length (r.frm.l.map λs=>s.cp.c).flatten bs' v':=by
 intro m;have hlen:=hr.1.1.lt;have key:=ak (E:=E) (T:=TX) (val:=kW) [1,2,3,4] tK;generalize Cd E TX kW (.loop [1,2,3,4] tK)=W at key ⊢
 induction m with
 | zero =>
  intro i bs lo v hi hK hA;have:i=r.frm.l.length:=by omega
  subst this;rw [List.take_length] at hA;refine ⟨bs,lo,v,?_,hK,hA⟩;rw [key];simp [tK,hK.r0]
 | succ m ih =>
  intro i bs lo v hi hK hA;have hlt:i<r.frm.l.length:=by omega
  have hx:=ab hlt;have hmem:=bh hlt;have htk:r.frm.l.take (i+1)=r.frm.l.take i++[r.frm.l[i]]:=by rw [List.take_add_one,hx]; rfl
  generalize r.frm.l[i]=s at *;have hfs:=hr.1.2 s hmem;have hsx:=λh=>aK (z:=3) h hx (cells:=Source.c) rfl;have hw:=aA hlt hlen;have h0:((i:Int)<r.frm.l.length):=by omega
  have hL3:=hK.L3;have hk3:=hK.len;obtain ⟨v1,y1,a1,b1,c1,d1⟩:=cpy (cells:=Term.c) (z:=2) (by_:=24) (λ_=>rfl) (by decide) (by decide) hfs.1 (bs++[.cells (s.c.map .d)]);obtain ⟨v2,y2,a2,b2,c2,d2⟩:=cpy (cells:=Term.c) (z:=2) (by_:=24) (λ_=>rfl) (by decide) (by decide) hfs.2.1 (bs++[.cells (s.c.map .d)]++([.cells []]++y1));obtain ⟨v3,y3,a3,b3,c3,d3⟩:=cpy (cells:=Cidr.c) (z:=2) (by_:=16) (λ_=>rfl) (by decide) (by decide) hfs.2.2 (bs++[.cells (s.c.map .d)]++([.cells []]++y1)++([.cells []]++y2));obtain ⟨H,hH⟩:∃ H,H=bs++Blk.cells (List.map V.d s.c)::Blk.cells []::(y1++Blk.cells []::(y2++Blk.cells []::(y3++[Blk.cells [v1,v2,v3]]))):=⟨_,rfl⟩;have g1:=d1.ext (L':=bs.length) (([.cells []]++y2)++([.cells []]++y3)++[.cells [v1,v2,v3]]) (by simp);have g2:=d2.ext (L':=bs.length) (([.cells []]++y3)++[.cells [v1,v2,v3]]) (by simp);have g3:=d3.ext (L':=bs.length) ([.cells [v1,v2,v3]]) (by simp);have G1:Hng false (KL bs.length H) H v1 (.slice false (s.names.l.map Term.c)) 1:=by rw [hH]; simpa using g1
  have G2:Hng false (KL bs.length H) H v2 (.slice false (s.spaces.l.map Term.c)) 1:=by rw [hH]; simpa using g2
  have G3:Hng false (KL bs.length H) H v3 (.slice false (s.nets.l.map Cidr.c)) 1:=by rw [hH]; simpa using g3
  have hvs:Hngs false (KL bs.length H) H 1 [v1,v2,v3] s.cp.c:=⟨G1,G2,G3,trivial⟩;have hHp:∀ x,x<bs.length->H[x]?=bs[x]?:=λx hx=>by rw [hH,al hx]
  have hHl:bs.length<=H.length:=by rw [hH]; simp
  have hAH:=hA.on hHl λx _ hx=>hHp x hx;have hHr:ai H (bs.length+(y1.length+(y2.length+(y3.length+1)+1)+1+1))=some [v1,v2,v3]:=by
   rw [hH];have:=oJ (bs:=bs) (ys:=Blk.cells (List.map V.d s.c)::Blk.cells []::(y1++Blk.cells []::(y2++Blk.cells []::(y3++[Blk.cells [v1,v2,v3]])))) (i:=y1.length+(y2.length+(y3.length+1)+1)+1+1);rw [this];have e:Blk.cells (List.map V.d s.c)::Blk.cells []::(y1++Blk.cells []::(y2++Blk.cells []::(y3++[Blk.cells [v1,v2,v3]])))=(Blk.cells (List.map V.d s.c)::Blk.cells []::(y1++Blk.cells []::(y2++Blk.cells []::y3)))++[Blk.cells [v1,v2,v3]]:=by simp
   unfold ai;rw [e,bk (by simp<;>omega)];have:y1.length+(y2.length+(y3.length+1)+1)+1+1-(Blk.cells (List.map V.d s.c)::Blk.cells []::(y1++Blk.cells []::(y2++Blk.cells []::y3))).length=0:=by simp<;>omega
   rw [this]; rfl
  have hlow:∀ B n' c,v=.row B 0 n' c 3->B<bs.length:=λB n' c hv=>by
   obtain ⟨_,_,rfl⟩ | ⟨_,B',cs,_,rfl,hb,_⟩:=hA
   . simp at hv
   . simp at hv; rw [← hv.1]; exact aI hb
  obtain ⟨v',bs',F,ha,hA',hL',hlo',hF⟩:=hAH.app (by decide) (by_:=72) (by decide) (ce hlt hr.1.1.1) (vs:=[v1,v2,v3]) rfl (cap:=some 1) hHr (L2:=bs.length) hk3 hlow hvs (by omega);have hb':∀ x,x<L->bs'[x]?=bs[x]?:=λx hx=>by rw [hlo' x hx,hHp x (by omega)]
  have hx2:ai bs' 2=some [v,vT,vW]:=by rw [← hK.x0]; unfold ai; rw [hb' 2 (by omega)]
  obtain ⟨bs2,lo2,v2',r1,r2,r3⟩:=ih (i+1) (bs'.set 2 (.cells [v',vT,vW])) (min (F (min lo bs.length)) 2) v' (by omega)
   ⟨by rw [← hK.r0]; unfold ai; rw [ac (by decide),hb' 0 (by omega)],by rw [← hK.a0]; unfold ai; rw [ac (by decide),hb' 1 (by omega)],by
    have:=aI hx2;simp [ai,this],hL3,by simp; omega,λx h1 h2=>by rw [ac (by omega),hb' x h1,hK.old x h1 h2]⟩
   (by
     rw [htk,List.map_append,List.flatten_append];simp only [co,List.map_nil,List.flatten_cons,List.flatten_nil,List.append_nil];exact hA'.on (by simp) λx hx _=>ac (by omega))
  refine ⟨bs2,lo2,v2',?_,r2,r3⟩
  . rw [key];have q1:=a1 (min lo bs.length);have q2:=a2 (min lo bs.length);have q3:=a3 (min lo bs.length);have ha':=ha (min lo bs.length);simp at q1 q2 q3;simp [tK,hK.r0,h0,hsx,ay,aC,az hK.x0,q1,q2,q3,b1,b2,b3,← hH,ha',hx2,hA'.cl];rw [if_pos]
    . simp [hw];exact r1
    . have hHn:H.length=bs.length+(y1.length+(y2.length+(y3.length+1)+1)+1+1)+1:=by rw [hH]; simp<;>omega
      have hne:¬ bs=[]:=λh=>by rw [h] at hk3; simp at hk3; omega
      obtain hb | ⟨B,hb,hB,hBl⟩:=hA.blk<;>rw [hb]
      . simp [bv,List.range,List.range.loop,Tr.spares,hne];omega
      . simp [bv,List.range,List.range.loop,Tr.spares,hne];omega
theorem Ww (r:Rule)(hr:r.fits big)(vF vW:V)(L:Nat)(B0:List Blk):∀ (m i:Nat) (bs:List Blk) (lo:Nat) (v:V),i+m=r.to.l.length->K3 r [vF,v,vW] L B0 bs->AccV false L 4 1 i ((r.to.l.take i).map λs=>s.cp.c).flatten bs v →
 ∃ bs' lo' v',Cd E TX kW (.loop [1,2,3,6] tL) [(1,.ptr 0 0),(2,.ptr 1 0),(3,.ptr 2 0),(6,.d (i64 i))] ⟨bs,lo⟩=some (.exit 2,[(1,.ptr 0 0),(2,.ptr 1 0),(3,.ptr 2 0)],⟨bs',lo'⟩)/\K3 r [vF,v',vW] L B0 bs'/\AccV false L 4 1 r.to.l.length (r.to.l.map λs=>s.cp.c).flatten bs' v':=by
 intro m;have hlen:=hr.2.1.1.lt;have key:=ak (E:=E) (T:=TX) (val:=kW) [1,2,3,6] tL;generalize Cd E TX kW (.loop [1,2,3,6] tL)=W at key ⊢
 induction m with
 | zero =>
  intro i bs lo v hi hK hA;have:i=r.to.l.length:=by omega
  subst this;rw [List.take_length] at hA;refine ⟨bs,lo,v,?_,hK,hA⟩;rw [key];simp [tL,hK.r0]
 | succ m ih =>
  intro i bs lo v hi hK hA;have hlt:i<r.to.l.length:=by omega
  have hx:=ab hlt;have hmem:=bh hlt;have htk:r.to.l.take (i+1)=r.to.l.take i++[r.to.l[i]]:=by rw [List.take_add_one,hx]; rfl
  generalize r.to.l[i]=s at *;have hfs:=hr.2.1.2 s hmem;have hsx:=λh=>aK (z:=4) h hx (cells:=Target.c) rfl;have hw:=aA hlt hlen;have h0:((i:Int)<r.to.l.length):=by omega
  have hL3:=hK.L3;have hk3:=hK.len;obtain ⟨v1,y1,a1,b1,c1,d1⟩:=cpy (cells:=jU) (z:=1) (by_:=8) (λ_=>rfl) (by decide) (by decide) hfs.1 (bs++[.cells (s.c.map .d)]);obtain ⟨v2,y2,a2,b2,c2,d2⟩:=cpy (cells:=Term.c) (z:=2) (by_:=24) (λ_=>rfl) (by decide) (by decide) hfs.2.1 (bs++[.cells (s.c.map .d)]++([.cells []]++y1));obtain ⟨v3,y3,a3,b3,c3,d3⟩:=cpy (cells:=Term.c) (z:=2) (by_:=24) (λ_=>rfl) (by decide) (by decide) hfs.2.2.1 (bs++[.cells (s.c.map .d)]++([.cells []]++y1)++([.cells []]++y2));obtain ⟨v4,y4,a4,b4,c4,d4⟩:=cpy (cells:=Term.c) (z:=2) (by_:=24) (λ_=>rfl) (by decide) (by decide) hfs.2.2.2 (bs++[.cells (s.c.map .d)]++([.cells []]++y1)++([.cells []]++y2)++([.cells []]++y3));obtain ⟨H,hH⟩:∃ H,H=bs++Blk.cells (List.map V.d s.c)::Blk.cells []::(y1++Blk.cells []::(y2++Blk.cells []::(y3++Blk.cells []::(y4++[Blk.cells [v1,v2,v3,v4]])))):=⟨_,rfl⟩;have g1:=d1.ext (L':=bs.length) (([.cells []]++y2)++([.cells []]++y3)++([.cells []]++y4)++[.cells [v1,v2,v3,v4]]) (by simp);have g2:=d2.ext (L':=bs.length) (([.cells []]++y3)++([.cells []]++y4)++[.cells [v1,v2,v3,v4]]) (by simp);have g3:=d3.ext (L':=bs.length) (([.cells []]++y4)++[.cells [v1,v2,v3,v4]]) (by simp);have g4:=d4.ext (L':=bs.length) ([.cells [v1,v2,v3,v4]]) (by simp);have G1:Hng false (KL bs.length H) H v1 (.slice false (s.ports.l.map jU)) 1:=by rw [hH]; simpa using g1
  have G2:Hng false (KL bs.length H) H v2 (.slice false (s.methods.l.map Term.c)) 1:=by rw [hH]; simpa using g2
  have G3:Hng false (KL bs.length H) H v3 (.slice false (s.paths.l.map Term.c)) 1:=by rw [hH]; simpa using g3
  have G4:Hng false (KL bs.length H) H v4 (.slice false (s.hosts.l.map Term.c)) 1:=by rw [hH]; simpa using g4
  have hvs:Hngs false (KL bs.length H) H 1 [v1,v2,v3,v4] s.cp.c:=⟨G1,G2,G3,G4,trivial⟩;have hHp:∀ x,x<bs.length->H[x]?=bs[x]?:=λx hx=>by rw [hH,al hx]
  have hHl:bs.length<=H.length:=by rw [hH]; simp
  have hAH:=hA.on hHl λx _ hx=>hHp x hx;have hHr:ai H (bs.length+(y1.length+(y2.length+(y3.length+(y4.length+1)+1)+1)+1+1))=some [v1,v2,v3,v4]:=by
   rw [hH];have:=oJ (bs:=bs) (ys:=Blk.cells (List.map V.d s.c)::Blk.cells []::(y1++Blk.cells []::(y2++Blk.cells []::(y3++Blk.cells []::(y4++[Blk.cells [v1,v2,v3,v4]]))))) (i:=y1.length+(y2.length+(y3.length+(y4.length+1)+1)+1)+1+1);rw [this];have e:Blk.cells (List.map V.d s.c)::Blk.cells []::(y1++Blk.cells []::(y2++Blk.cells []::(y3++Blk.cells []::(y4++[Blk.cells [v1,v2,v3,v4]]))))=(Blk.cells (List.map V.d s.c)::Blk.cells []::(y1++Blk.cells []::(y2++Blk.cells []::(y3++Blk.cells []::y4))))++[Blk.cells [v1,v2,v3,v4]]:=by simp
   unfold ai;rw [e,bk (by simp<;>omega)];have:y1.length+(y2.length+(y3.length+(y4.length+1)+1)+1)+1+1-(Blk.cells (List.map V.d s.c)::Blk.cells []::(y1++Blk.cells []::(y2++Blk.cells []::(y3++Blk.cells []::y4)))).length=0:=by simp<;>omega
   rw [this]; rfl
  have hlow:∀ B n' c,v=.row B 0 n' c 4->B<bs.length:=λB n' c hv=>by
   obtain ⟨_,_,rfl⟩ | ⟨_,B',cs,_,rfl,hb,_⟩:=hA
   . simp at hv
   . simp at hv; rw [← hv.1]; exact aI hb
  obtain ⟨v',bs',F,ha,hA',hL',hlo',hF⟩:=hAH.app (by decide) (by_:=96) (by decide) (ce hlt hr.2.1.1.1) (vs:=[v1,v2,v3,v4]) rfl (cap:=some 1) hHr (L2:=bs.length) hk3 hlow hvs (by omega);have hb':∀ x,x<L->bs'[x]?=bs[x]?:=λx hx=>by rw [hlo' x hx,hHp x (by omega)]
  have hx2:ai bs' 2=some [vF,v,vW]:=by rw [← hK.x0]; unfold ai; rw [hb' 2 (by omega)]
  obtain ⟨bs2,lo2,v2',r1,r2,r3⟩:=ih (i+1) (bs'.set 2 (.cells [vF,v',vW])) (min (F (min lo bs.length)) 2) v' (by omega)
   ⟨by rw [← hK.r0]; unfold ai; rw [ac (by decide),hb' 0 (by omega)],by rw [← hK.a0]; unfold ai; rw [ac (by decide),hb' 1 (by omega)],by
    have:=aI hx2;simp [ai,this],hL3,by simp; omega,λx h1 h2=>by rw [ac (by omega),hb' x h1,hK.old x h1 h2]⟩
   (by
     rw [htk,List.map_append,List.flatten_append];simp only [co,List.map_nil,List.flatten_cons,List.flatten_nil,List.append_nil];exact hA'.on (by simp) λx hx _=>ac (by omega))
  refine ⟨bs2,lo2,v2',?_,r2,r3⟩
  . rw [key];have q1:=a1 (min lo bs.length);have q2:=a2 (min lo bs.length);have q3:=a3 (min lo bs.length);have q4:=a4 (min lo bs.length);have ha':=ha (min lo bs.length);simp at q1 q2 q3 q4;simp [tL,hK.r0,h0,hsx,ay,aC,az hK.x0,q1,q2,q3,q4,b1,b2,b3,b4,← hH,ha',hx2,hA'.cl];rw [if_pos]
    . simp [hw];exact r1
    . have hHn:H.length=bs.length+(y1.length+(y2.length+(y3.length+(y4.length+1)+1)+1)+1+1)+1:=by rw [hH]; simp<;>omega
      have hne:¬ bs=[]:=λh=>by rw [h] at hk3; simp at hk3; omega
      obtain hb | ⟨B,hb,hB,hBl⟩:=hA.blk<;>rw [hb]
      . simp [bv,List.range,List.range.loop,Tr.spares,hne];omega
      . simp [bv,List.range,List.range.loop,Tr.spares,hne];omega
theorem Wx (r:Rule)(hr:r.fits big)(vF vT:V)(L:Nat)(B0:List Blk):∀ (m i:Nat) (bs:List Blk) (lo:Nat) (v:V),i+m=r.whn.l.length->K3 r [vF,vT,v] L B0 bs->AccV false L 2 1 i ((r.whn.l.take i).map λs=>s.cp.c).flatten bs v →
 ∃ bs' lo' v',Cd E TX kW (.loop [1,2,3,8] tN) [(1,.ptr 0 0),(2,.ptr 1 0),(3,.ptr 2 0),(8,.d (i64 i))] ⟨bs,lo⟩=some (.exit 4,[(2,.ptr 1 0),(3,.ptr 2 0)],⟨bs',lo'⟩)/\K3 r [vF,vT,v'] L B0 bs'/\AccV false L 2 1 r.whn.l.length (r.whn.l.map λs=>s.cp.c).flatten bs' v':=by
 intro m;have hlen:=hr.2.2.1.lt;have key:=ak (E:=E) (T:=TX) (val:=kW) [1,2,3,8] tN;generalize Cd E TX kW (.loop [1,2,3,8] tN)=W at key ⊢
 induction m with
 | zero =>
  intro i bs lo v hi hK hA;have:i=r.whn.l.length:=by omega
  subst this;rw [List.take_length] at hA;refine ⟨bs,lo,v,?_,hK,hA⟩;rw [key];simp [tN,hK.r0]
 | succ m ih =>
  intro i bs lo v hi hK hA;have hlt:i<r.whn.l.length:=by omega
  have hx:=ab hlt;have hmem:=bh hlt;have htk:r.whn.l.take (i+1)=r.whn.l.take i++[r.whn.l[i]]:=by rw [List.take_add_one,hx]; rfl
  generalize r.whn.l[i]=s at *;have hfs:=hr.2.2.2 s hmem;have hsx:=λh=>aK (z:=2) h hx (cells:=When.c) rfl;have hw:=aA hlt hlen;have h0:((i:Int)<r.whn.l.length):=by omega
  have hL3:=hK.L3;have hk3:=hK.len;have hr1:=az (ys:=[.cells []]) hK.r0;obtain ⟨v1,y1,a1,b1,c1,d1⟩:=cpy (cells:=Term.c) (z:=2) (by_:=24) (λ_=>rfl) (by decide) (by decide) hfs (bs);obtain ⟨H,hH⟩:∃ H,H=bs++Blk.cells []::(y1++[Blk.cells [V.d (D.str s.head),v1]]):=⟨_,rfl⟩;have g1:=d1.ext (L':=bs.length) ([.cells [.d (.str s.head),v1]]) (by simp);have G1:Hng false (KL bs.length H) H v1 (.slice false (s.terms.l.map Term.c)) 1:=by rw [hH]; simpa using g1
  have hvs:Hngs false (KL bs.length H) H 1 [.d (.str s.head),v1] s.cp.c:=⟨Hng.d λnl c cs hh=>by simp at hh,G1,trivial⟩;have hHp:∀ x,x<bs.length->H[x]?=bs[x]?:=λx hx=>by rw [hH,al hx]
  have hHl:bs.length<=H.length:=by rw [hH]; simp
  have hAH:=hA.on hHl λx _ hx=>hHp x hx;have hHr:ai H (bs.length+(y1.length+1))=some [.d (.str s.head),v1]:=by
   rw [hH];have:=oJ (bs:=bs) (ys:=Blk.cells []::(y1++[Blk.cells [V.d (D.str s.head),v1]])) (i:=y1.length+1);rw [this];have e:Blk.cells []::(y1++[Blk.cells [V.d (D.str s.head),v1]])=(Blk.cells []::y1)++[Blk.cells [V.d (D.str s.head),v1]]:=by simp
   unfold ai;rw [e,bk (by simp<;>omega)];have:y1.length+1-(Blk.cells []::y1).length=0:=by simp<;>omega
   rw [this]; rfl
  have hlow:∀ B n' c,v=.row B 0 n' c 2->B<bs.length:=λB n' c hv=>by
   obtain ⟨_,_,rfl⟩ | ⟨_,B',cs,_,rfl,hb,_⟩:=hA
   . simp at hv
   . simp at hv; rw [← hv.1]; exact aI hb
  obtain ⟨v',bs',F,ha,hA',hL',hlo',hF⟩:=hAH.app (by decide) (by_:=40) (by decide) (ce hlt hr.2.2.1.1) (vs:=[.d (.str s.head),v1]) rfl (cap:=some 1) hHr (L2:=bs.length) hk3 hlow hvs (by omega);have hb':∀ x,x<L->bs'[x]?=bs[x]?:=λx hx=>by rw [hlo' x hx,hHp x (by omega)]
  have hx2:ai bs' 2=some [vF,vT,v]:=by rw [← hK.x0]; unfold ai; rw [hb' 2 (by omega)]
  obtain ⟨bs2,lo2,v2',r1,r2,r3⟩:=ih (i+1) (bs'.set 2 (.cells [vF,vT,v'])) (min (F lo) 2) v' (by omega)
   ⟨by rw [← hK.r0]; unfold ai; rw [ac (by decide),hb' 0 (by omega)],by rw [← hK.a0]; unfold ai; rw [ac (by decide),hb' 1 (by omega)],by
    have:=aI hx2;simp [ai,this],hL3,by simp; omega,λx h1 h2=>by rw [ac (by omega),hb' x h1,hK.old x h1 h2]⟩
   (by
     rw [htk,List.map_append,List.flatten_append];simp only [co,List.map_nil,List.flatten_cons,List.flatten_nil,List.append_nil];exact hA'.on (by simp) λx hx _=>ac (by omega))
  refine ⟨bs2,lo2,v2',?_,r2,r3⟩
  . rw [key];have q1:=a1 lo;have ha':=ha lo;simp at q1;simp [tN,hK.r0,hr1,h0,hsx,ay,aC,hK.x0,q1,b1,← hH,ha',hx2,hA'.cl];rw [if_pos]
    . simp [hw];exact r1
    . have hHn:H.length=bs.length+(y1.length+1)+1:=by rw [hH]; simp<;>omega
      have hne:¬ bs=[]:=λh=>by rw [h] at hk3; simp at hk3; omega
      obtain hb | ⟨B,hb,hB,hBl⟩:=hA.blk<;>rw [hb]
      . simp [bv,List.range,List.range.loop,Tr.spares,hne];omega
      . simp [bv,List.range,List.range.loop,Tr.spares,hne];omega
end
section
variable {E:Calls'}
theorem K3.next {r:Rule}{ws:List V}{L:Nat}{B0 bs:List Blk}(h:K3 r ws L B0 bs):K3 r ws bs.length bs bs:=⟨h.r0,h.a0,h.x0,cg h.L3 h.len,bp _,λ_ _ _=>rfl⟩
theorem AccV.old {r:Rule}{ws:List V}{L0 z k n:Nat}{ds:List D}{B0 bs:List Blk}{v:V}(h:AccV false L0 z k n ds B0 v)(hK:K3 r ws B0.length B0 bs)(h3:3<=L0):AccV false L0 z k n ds bs v :=
 h.on hK.len λx hx hl=>hK.old x hl (by omega)
theorem Rule.cp_c (r:Rule):r.cp.c=[.slice (r.frm.l.map λs=>s.cp.c).isEmpty (r.frm.l.map λs=>s.cp.c),.slice (r.to.l.map λs=>s.cp.c).isEmpty (r.to.l.map λs=>s.cp.c),.slice (r.whn.l.map λs=>s.cp.c).isEmpty (r.whn.l.map λs=>s.cp.c)]:=by
 simp [Rule.cp,Rule.c,Sl.d,uI,cm]
theorem x89:TX 288=some q89:=by kernel_rfl
theorem w89:kW 288=true:=by kernel_rfl
theorem S89 (r:Rule)(hr:r.fits big)(h:Hp):Sm E TX kW 288 [ag r.c] h=some (ag r.cp.c,h):=by
 have hK:K3 r [.d (.slice true []),.d (.slice true []),.d (.slice true [])] 3 [.cells (r.c.map .d),.cells [.d (.slice true []),.d (.slice true []),.d (.slice true [])],.cells [.d (.slice true []),.d (.slice true []),.d (.slice true [])]] [.cells (r.c.map .d),.cells [.d (.slice true []),.d (.slice true []),.d (.slice true [])],.cells [.d (.slice true []),.d (.slice true []),.d (.slice true [])]]:=⟨rfl,rfl,rfl,by decide,by simp,λ_ _ _=>rfl⟩;obtain ⟨bs1,lo1,v1,a1,k1,A1⟩:=Wv (E:=E) r hr _ _ _ _ r.frm.l.length 0 _ 0 _ (by omega) hK (by simpa using AccV.nil 3 3 1 _);obtain ⟨bs2,lo2,v2,a2,k2,A2⟩:=Ww (E:=E) r hr _ _ _ _ r.to.l.length 0 _ lo1 _ (by omega) k1.next (by simpa using AccV.nil bs1.length 4 1 _);obtain ⟨bs3,lo3,v3,a3,k3,A3⟩:=Wx (E:=E) r hr _ _ _ _ r.whn.l.length 0 _ lo2 _ (by omega) k2.next (by simpa using AccV.nil bs2.length 2 1 _);have h1:=k1.len; have h2:=k2.len; have h3:=k3.len;have B1:=(A1.old k2 (by omega)).old k3 (by omega);have B2:=A2.old k3 (by omega);have G1:=B1.hng (λe he=>by obtain ⟨y,_,rfl⟩:=cb.1 he; rfl) (by simp);have G2:=B2.hng (λe he=>by obtain ⟨y,_,rfl⟩:=cb.1 he; rfl) (by simp);have G3:=A3.hng (λe he=>by obtain ⟨y,_,rfl⟩:=cb.1 he; rfl) (by simp);have c1:=B1.cl; have c2:=B2.cl; have c3:=A3.cl;have n1:=B1.nu; have n2:=B2.nu; have n3:=A3.nu;have e1:=λlo=>(G1 (bs3.set 1 (.cells [v1,v2,v3])) lo (λx hx=>ac (by have:=hx.1; omega)) 8 (by omega)).1
 have e2:=λlo=>(G2 (bs3.set 1 (.cells [v1,v2,v3])) lo (λx hx=>ac (by have:=hx.1; omega)) 8 (by omega)).1;have e3:=λlo=>(G3 (bs3.set 1 (.cells [v1,v2,v3])) lo (λx hx=>ac (by have:=hx.1; omega)) 8 (by omega)).1;have ha3:=k3.a0; have hx3:=k3.x0;have hl3:=aI ha3;have hset:ai (bs3.set 1 (.cells [v1,v2,v3])) 1=some [v1,v2,v3]:=by simp [ai,hl3]
 rw [aN x89 w89,Rule.cp_c];have a1':=a1; have a2':=a2; have a3':=a3;simp at a1' a2' a3';simp [aa,q89];rw [aj];simp [a1'];rw [aj];simp [a2'];rw [aj];simp [a3',ha3,hx3,eZ,e1,e2,e3,hset]
theorem Bf {T:FuncId->Option QF}{val:FuncId->Bool}{keep:List Nat}{body:QC}{base:List Blk}{z:Nat}(n:Nat)(G:Nat->List (List D))(env:Nat->V->EA)(X:V->Ex×EA)
 (hr:∀ i,i<n->∀ bs lo v,Acc base z (G i) bs v->∃ bs' lo' v',Acc base z (G (i+1)) bs' v'/\∀ W:EA->Hp->iN,iP keep W (Cd E T val body (dU keep (env i v)) ⟨bs,lo⟩)=W (env (i+1) v') ⟨bs',lo'⟩)
 (he:∀ bs lo v,Acc base z (G n) bs v->∀ W:EA->Hp->iN,iP keep W (Cd E T val body (dU keep (env n v)) ⟨bs,lo⟩)=some ((X v).1,(X v).2,⟨bs,lo⟩)) (bs:List Blk) (lo:Nat) (v:V) (h0:Acc base z (G 0) bs v) :
 ∃ bs' lo' v',Cd E T val (.loop keep body) (env 0 v) ⟨bs,lo⟩=some ((X v').1,(X v').2,⟨bs',lo'⟩)/\Acc base z (G n) bs' v':=by
 have:∀ (m i:Nat) (bs:List Blk) (lo:Nat) (v:V),i+m=n->Acc base z (G i) bs v->∃ bs' lo' v',Cd E T val (.loop keep body) (env i v) ⟨bs,lo⟩=some ((X v').1,(X v').2,⟨bs',lo'⟩)/\Acc base z (G n) bs' v':=by
  intro m;have key:=ak (E:=E) (T:=T) (val:=val) keep body;generalize Cd E T val (.loop keep body)=W at key ⊢
  induction m with
  | zero =>
   intro i bs lo v hi hP;rw [show i=n by omega] at hP ⊢;exact ⟨bs,lo,v,by rw [key,he bs lo v hP W],hP⟩
  | succ m ih =>
   intro i bs lo v hi hP;obtain ⟨bs',lo',v',h1,h2⟩:=hr i (by omega) bs lo v hP;obtain ⟨bs2,lo2,v2,h3,h4⟩:=ih (i+1) bs' lo' v' (by omega) h1;exact ⟨bs2,lo2,v2,by rw [key,h2 W,h3],h4⟩
 exact this n 0 bs lo v (by omega) h0
def Pol.cp (p:Pol):Pol:={ p with rules:=uI (p.rules.l.map Rule.cp) }
theorem Pol.cp_c (p:Pol):p.cp.c=[u64 p.id,.str p.ns,u64 p.service,i64 p.deny,.slice (p.rules.l.map λr=>r.cp.c).isEmpty (p.rules.l.map λr=>r.cp.c)]:=by
 simp [Pol.cp,Pol.c,Sl.d,uI,cm]
theorem x35:TX 228=some q35:=by kernel_rfl
theorem w35:kW 228=true:=by kernel_rfl
theorem L35 (p:Pol)(hp:p.fits big)(base:List Blk)(hb:ai base 0=some (p.c.map .d))(lo:Nat):∃ bs' lo' v',Cd E TX kW (.loop [1,2,3,4] wP) [(1,.ptr 0 0),(2,.ptr 1 0),(3,.d (.slice true [])),(4,.d (i64 0))] ⟨base,lo⟩=some (.exit 0,[(1,.ptr 0 0),(2,.ptr 1 0),(3,v')],⟨bs',lo'⟩)/\Acc base 3 (p.rules.l.map λr=>r.cp.c) bs' v':=by
 have hlen:=hp.1.lt;have key:=Bf (E:=E) (T:=TX) (val:=kW) (base:=base) (z:=3) (keep:=[1,2,3,4]) (body:=wP) p.rules.l.length (λi=>(p.rules.l.take i).map λr=>r.cp.c) (λi v=>[(1,.ptr 0 0),(2,.ptr 1 0),(3,v),(4,.d (i64 i))]) (λv=>(.exit 0,[(1,.ptr 0 0),(2,.ptr 1 0),(3,v)])) (λi hi bs lo v hA=>?_) (λbs lo v hA W=>?_) base lo _ (by simpa using Acc.nil base 3)
 . simpa using key
 . have hx:=ab hi;have hmem:=bh hi;have htk:p.rules.l.take (i+1)=p.rules.l.take i++[p.rules.l[i]]:=by rw [List.take_add_one,hx]; rfl
   generalize p.rules.l[i]=r at *;have hsx:=λh=>aK (z:=3) h hx (cells:=Rule.c) rfl;have hw:=aA hi hlen;have h0:((i:Int)<p.rules.l.length):=by omega
   have hnu:=hA.nu;have hg:=hA.get hb;have hcall:=λh=>S89 (E:=E) r (hp.2 r hmem) h;obtain ⟨v',bs',lo',ha,hA'⟩:=(hA.lay [.cells (r.cp.c.map .d)]).app (by decide) (by_:=72) (by decide) (e:=r.cp.c) rfl (by simp; have:=hp.1.1; omega) lo (r:=bs.length) (cap:=some 1) (by simp);refine ⟨bs',lo',v',by rw [htk,List.map_append]; exact hA',λW=>?_⟩;simp [wP,hg,h0,hsx,hnu,hcall,aC,ha,hw,hA'.nu]
 . simp [wP,hA.get hb]
theorem Acc.hng {base:List Blk}{z:Nat}{acc:List (List D)}{bs:List Blk}{v:V}(h:Acc base z acc bs v):Hng false (KL base.length bs) bs v (.slice acc.isEmpty acc) 1:=by
 obtain ⟨rfl,rfl⟩ | ⟨h1,b,h2,rfl,h4⟩:=h.is
 . exact Hng.data
 . rw [show acc.isEmpty=false by cases acc with | nil=>exact absurd rfl h1 | cons _ _=>rfl];exact Hng.row (k:=0) ⟨h2,aI h4⟩ h4 Hngs.data h.wid rfl
theorem Acc.cl {base:List Blk}{z:Nat}{acc:List (List D)}{bs:List Blk}{v:V}(h:Acc base z acc bs v):v.cells=some [v]:=by
 obtain ⟨_,rfl⟩ | ⟨_,b,_,rfl,_⟩:=h.is<;>rfl
theorem S35 (p:Pol)(hp:p.fits big)(h:Hp):Sm E TX kW 228 [ag p.c] h=some (ag p.cp.c,h):=by
 obtain ⟨bs,lo,v,a1,A⟩:=L35 (E:=E) p hp [.cells (p.c.map .d),.cells [.d (.int .u64 0),.d (.str ⟨#[]⟩),.d (.int .u64 0),.d (i64 0),.d (.slice true [])]] rfl 0;have hg:=A.get (x:=0) (cs:=p.c.map .d) rfl;have hg1:=A.get (x:=1) rfl;have hnu:=A.nu;rw [aN x35 w35,Pol.cp_c];simp [aa,q35];rw [aj];have hcl:=A.cl;have hl:=A.len;simp at hl;have hl0:0<bs.length:=by omega
 have hl1:1<bs.length:=by omega
 have e1:=λlo=>(A.hng ((bs.set 0 (.cells [.d (u64 p.id),.d (.str p.ns),.d (u64 p.service),.d (i64 p.deny),v])).set 1 (.cells [.d (u64 p.id),.d (.str p.ns),.d (u64 p.service),.d (i64 p.deny),v])) lo (λx hx=>by have:=hx.1; simp at this; rw [ac (by omega),ac (by omega)]) 8 (by omega)).1;have h0:ai (bs.set 0 (.cells [.d (u64 p.id),.d (.str p.ns),.d (u64 p.service),.d (i64 p.deny),v])) 0=some [.d (u64 p.id),.d (.str p.ns),.d (u64 p.service),.d (i64 p.deny),v]:=by
  simp [ai,hl0]
 have h1:ai (bs.set 0 (.cells [.d (u64 p.id),.d (.str p.ns),.d (u64 p.service),.d (i64 p.deny),v])) 1=some [.d (.int .u64 0),.d (.str ⟨#[]⟩),.d (.int .u64 0),.d (i64 0),.d (.slice true [])]:=by
  rw [← hg1]; unfold ai; rw [ac (by decide)]
 have h2:ai ((bs.set 0 (.cells [.d (u64 p.id),.d (.str p.ns),.d (u64 p.service),.d (i64 p.deny),v])).set 1 (.cells [.d (u64 p.id),.d (.str p.ns),.d (u64 p.service),.d (i64 p.deny),v])) 1=some [.d (u64 p.id),.d (.str p.ns),.d (u64 p.service),.d (i64 p.deny),v]:=by
  simp [ai,hl1]
 simp [a1];simp [hg,hnu,hcl,Pol.c,h0,h1,h2,eZ,e1]
end
section
variable {E:Calls'}
theorem Acc.ownR {base:List Blk}{z:Nat}{acc:List (List D)}{bs:List Blk}{v:V}(h:Acc base z acc bs v)(hd:∀ e∈acc,∀ d∈e,∀ nl c cs,d≠.slice nl (c::cs))(lo:Nat):ownR ⟨bs,lo⟩ v=true:=by
 have hH:Hng true (KL base.length bs) bs v (.slice acc.isEmpty acc) 1:=by
  obtain ⟨rfl,rfl⟩ | ⟨h1,b,h2,rfl,h4⟩:=h.is
  . exact Hng.d λnl c cs hh=>by simp at hh
  . rw [show acc.isEmpty=false by cases acc with | nil=>exact absurd rfl h1 | cons _ _=>rfl];refine Hng.row (k:=0) ⟨h2,aI h4⟩ h4 ?_ h.wid rfl;have:∀ ds:List D,(∀ d∈ds,∀ nl c cs,d≠.slice nl (c::cs))->Hngs true (KL base.length bs) bs 0 (ds.map .d) ds:=by
     intro ds
     induction ds with
     | nil=>intro _; trivial
     | cons d ds ih=>intro hh; exact ⟨Hng.d (hh d (by simp)),ih λd hd=>hh d (by simp [hd])⟩
    exact this _ λd hdm=>by
     obtain ⟨e,he,hde⟩:=List.mem_flatten.1 hdm;exact hd e he d hde
 have:=(hH bs lo (λ_ _=>rfl) 8 (by omega)).2 rfl;obtain ⟨rfl,rfl⟩ | ⟨h1,b,h2,rfl,h4⟩:=h.is
 . exact this
 . exact this
end
section
variable {E:Calls'}
theorem oh {α β:Type}{f:α->β->Bool}:∀ {l:List α} {m:List β},l.length=m.length->all2 f l m=(l.zip m).all λx=>f x.1 x.2
 | [],[],_=>rfl
 | x::l,y::m,h=>by simp [all2,oh (f:=f) (l:=l) (m:=m) (by simpa using h)]
theorem x38:TX 138=some q38:=by kernel_rfl
theorem w38:kW 138=true:=by kernel_rfl
theorem WM (a b:Cfg)(hc:a.ok)(hl:a.pods.l.length=b.pods.l.length):Cd E TX kW (.loop [2,3,5] zF) [(2,.ptr 0 0),(3,.ptr 1 0),(5,.d (i64 ((0:Nat):Int)))] ⟨[.cells (a.c.map .d),.cells (b.c.map .d)],0⟩=some (cond (all2 Pod.eqB a.pods.l b.pods.l) (.exit 0,[(2,.ptr 0 0),(3,.ptr 1 0)],⟨[.cells (a.c.map .d),.cells (b.c.map .d)],0⟩) (.ret,[(4,bl false)],⟨[.cells (a.c.map .d),.cells (b.c.map .d)],0⟩)):=by
 have hlen:=hc.1.lt;rw [oh hl];have hzl:(a.pods.l.zip b.pods.l).length=a.pods.l.length:=by simp; omega
 refine mG (a.pods.l.zip b.pods.l) (λx=>Pod.eqB x.1 x.2) (λi=>[(2,.ptr 0 0),(3,.ptr 1 0),(5,.d (i64 i))]) _ _ _ (λi x hx hi W=>?_) (λW=>?_)
 . obtain ⟨x,y⟩:=x;obtain ⟨h1,h2⟩:=List.getElem?_zip_eq_some.1 hx;have hsx:=λh=>aK (z:=7) h h1 (cells:=Pod.c) rfl;have hsy:=λh=>aK (z:=7) h h2 (cells:=Pod.c) rfl;rw [hzl] at hi;have hw:=aA hi hlen;have h0:((i:Int)<a.pods.l.length):=by omega
   cases hA:Pod.eqB x y<;>simp [zF,hsx,hsy,h0,hw,hA]
 . simp [zF,hzl]
theorem WN (a b:Cfg)(hc:a.ok)(hl:a.services.l.length=b.services.l.length):Cd E TX kW (.loop [2,3,6] zG) [(2,.ptr 0 0),(3,.ptr 1 0),(6,.d (i64 ((0:Nat):Int)))] ⟨[.cells (a.c.map .d),.cells (b.c.map .d)],0⟩=some (cond (all2 Svc.eqB a.services.l b.services.l) (.exit 2,[(2,.ptr 0 0),(3,.ptr 1 0)],⟨[.cells (a.c.map .d),.cells (b.c.map .d)],0⟩) (.ret,[(4,bl false)],⟨[.cells (a.c.map .d),.cells (b.c.map .d)],0⟩)):=by
 have hlen:=hc.2.1.lt;rw [oh hl];have hzl:(a.services.l.zip b.services.l).length=a.services.l.length:=by simp; omega
 refine mG (a.services.l.zip b.services.l) (λx=>Svc.eqB x.1 x.2) (λi=>[(2,.ptr 0 0),(3,.ptr 1 0),(6,.d (i64 i))]) _ _ _ (λi x hx hi W=>?_) (λW=>?_)
 . obtain ⟨x,y⟩:=x;obtain ⟨h1,h2⟩:=List.getElem?_zip_eq_some.1 hx;have hsx:=λh=>aK (z:=5) h h1 (cells:=Svc.c) rfl;have hsy:=λh=>aK (z:=5) h h2 (cells:=Svc.c) rfl;rw [hzl] at hi;have hw:=aA hi hlen;have h0:((i:Int)<a.services.l.length):=by omega
   cases hA:Svc.eqB x y<;>simp [zG,hsx,hsy,h0,hw,hA]
 . simp [zG,hzl]
theorem WO (a b:Cfg)(hc:a.ok)(hl:a.bound.l.length=b.bound.l.length):Cd E TX kW (.loop [2,3,7] zH) [(2,.ptr 0 0),(3,.ptr 1 0),(7,.d (i64 ((0:Nat):Int)))] ⟨[.cells (a.c.map .d),.cells (b.c.map .d)],0⟩=some (cond (all2 Way.eqB a.bound.l b.bound.l) (.exit 4,[(2,.ptr 0 0),(3,.ptr 1 0)],⟨[.cells (a.c.map .d),.cells (b.c.map .d)],0⟩) (.ret,[(4,bl false)],⟨[.cells (a.c.map .d),.cells (b.c.map .d)],0⟩)):=by
 have hlen:=hc.2.2.1.lt;rw [oh hl];have hzl:(a.bound.l.zip b.bound.l).length=a.bound.l.length:=by simp; omega
 refine mG (a.bound.l.zip b.bound.l) (λx=>Way.eqB x.1 x.2) (λi=>[(2,.ptr 0 0),(3,.ptr 1 0),(7,.d (i64 i))]) _ _ _ (λi x hx hi W=>?_) (λW=>?_)
 . obtain ⟨x,y⟩:=x;obtain ⟨h1,h2⟩:=List.getElem?_zip_eq_some.1 hx;have hsx:=λh=>aK (z:=2) h h1 (cells:=Way.c) rfl;have hsy:=λh=>aK (z:=2) h h2 (cells:=Way.c) rfl;rw [hzl] at hi;have hw:=aA hi hlen;have h0:((i:Int)<a.bound.l.length):=by omega
   cases hA:Way.eqB x y<;>simp [zH,hsx,hsy,h0,hw,hA]
 . simp [zH,hzl]
theorem WP (hE:∀ x y:Pol,x.ok->∀ h,E 227 [ag x.c,ag y.c] h=some (bl (x.same y),h))(a b:Cfg)(hc:a.ok)(hl:a.policies.l.length=b.policies.l.length):Cd E TX kW (.loop [2,3,8] zI) [(2,.ptr 0 0),(3,.ptr 1 0),(8,.d (i64 ((0:Nat):Int)))] ⟨[.cells (a.c.map .d),.cells (b.c.map .d)],0⟩=some (cond (all2 Pol.same a.policies.l b.policies.l) (.exit 6,[],⟨[.cells (a.c.map .d),.cells (b.c.map .d)],0⟩) (.ret,[(4,bl false)],⟨[.cells (a.c.map .d),.cells (b.c.map .d)],0⟩)):=by
 have hlen:=hc.2.2.2.1.lt;rw [oh hl];have hzl:(a.policies.l.zip b.policies.l).length=a.policies.l.length:=by simp; omega
 refine mG (a.policies.l.zip b.policies.l) (λx=>Pol.same x.1 x.2) (λi=>[(2,.ptr 0 0),(3,.ptr 1 0),(8,.d (i64 i))]) _ _ _ (λi x hx hi W=>?_) (λW=>?_)
 . obtain ⟨x,y⟩:=x;obtain ⟨h1,h2⟩:=List.getElem?_zip_eq_some.1 hx;have hsx:=λh=>aK (z:=5) h h1 (cells:=Pol.c) rfl;have hsy:=λh=>aK (z:=5) h h2 (cells:=Pol.c) rfl;rw [hzl] at hi;have hw:=aA hi hlen;have h0:((i:Int)<a.policies.l.length):=by omega
   have hm:=List.mem_of_getElem? h1;have hcall:=λh=>(aL (E:=E) (T:=TX) (val:=kW) (f:=227) (by kernel_rfl)).trans (hE x y (hc.2.2.2.2 x hm) h);cases hA:x.same y<;>rw [hA] at hcall<;>simp +decide [zI,hsx,hsy,h0,hw,ay,ae,hcall]
 . simp [zI,hzl]
theorem S38 (hE:∀ x y:Pol,x.ok->∀ h,E 227 [ag x.c,ag y.c] h=some (bl (x.same y),h))(a b:Cfg)(ha:a.ok)(h:Hp):Sm E TX kW 138 [a.v,b.v] h=some (bl (a.same b),h):=by
 rw [aN x38 w38];unfold Cfg.same;cases e1:(a.epoch==b.epoch)
 case false=>simp [aa,q38,e1]
 cases e2:(a.next==b.next)
 case false=>simp [aa,q38,e1,e2]
 cases e3:(a.hosts==b.hosts)
 case false=>simp [aa,q38,e1,e2,e3]
 cases e4:(a.ways==b.ways)
 case false=>simp [aa,q38,e1,e2,e3,e4]
 by_cases h1:a.pods.l.length=b.pods.l.length
 case neg =>
  have h1':¬ ((a.pods.l.length:Int)=b.pods.l.length):=by omega
  simp [aa,q38,e1,e2,e3,e4,h1',fZ h1]
 by_cases h2:a.services.l.length=b.services.l.length
 case neg =>
  have h1':¬ ((a.services.l.length:Int)=b.services.l.length):=by omega
  simp [aa,q38,e1,e2,e3,e4,h1,h1',fZ h2]
 by_cases h3:a.bound.l.length=b.bound.l.length
 case neg =>
  have h1':¬ ((a.bound.l.length:Int)=b.bound.l.length):=by omega
  simp [aa,q38,e1,e2,e3,e4,h1,h2,h1',fZ h3]
 by_cases h4:a.policies.l.length=b.policies.l.length
 case neg =>
  have h1':¬ ((a.policies.l.length:Int)=b.policies.l.length):=by omega
  simp [aa,q38,e1,e2,e3,e4,h1,h2,h3,h1',fZ h4]
 have k1:=WM (E:=E) a b ha h1;have k2:=WN (E:=E) a b ha h2;have k3:=WO (E:=E) a b ha h3;have k4:=WP (E:=E) hE a b ha h4;simp at k1 k2 k3 k4;generalize all2 Pod.eqB a.pods.l b.pods.l=A1 at *;generalize all2 Svc.eqB a.services.l b.services.l=A2 at *;generalize all2 Way.eqB a.bound.l b.bound.l=A3 at *;generalize all2 Pol.same a.policies.l b.policies.l=A4 at *;simp [aa,q38,e1,e2,e3,e4,h1,h2,h3,h4];rw [aj];cases A1
 case false=>simp [k1]
 simp [k1];rw [aj];cases A2
 case false=>simp [k2]
 simp [k2];rw [aj];cases A3
 case false=>simp [k3]
 simp [k3];rw [aj];cases A4<;>simp [k4]
end
section
variable {E:Calls'}
def Row1 (L M:Nat)(bs:List Blk)(z:Nat)(es:List (List D))(v:V):Prop :=
 (∀ e∈es,e.length=z)/\((es=[]/\v=.d (.slice true []))\/∃ b cap,L<=b/\b<M/\v=.row b 0 es.length cap z/\ai bs b=some (flat es)/\(cap=none/\es≠[]\/cap=some 0/\es=[]))
theorem Row1.on {L M z:Nat}{bs bs':List Blk}{es:List (List D)}{v:V}(h:Row1 L M bs z es v)(ho:∀ x,L<=x->x<M->bs'[x]?=bs[x]?):Row1 L M bs' z es v:=by
 refine ⟨h.1,?_⟩;obtain h | ⟨b,cap,h1,h2,h3,h4,h5⟩:=h.2
 . exact .inl h
 . refine .inr ⟨b,cap,h1,h2,h3,?_,h5⟩;rw [← h4]; unfold ai; rw [ho b h1 h2]
theorem Row1.cl {L M z:Nat}{bs:List Blk}{es:List (List D)}{v:V}(h:Row1 L M bs z es v):v.cells=some [v]:=by
 obtain ⟨_,rfl⟩ | ⟨b,cap,h1,h2,rfl,_⟩:=h.2<;>rfl
theorem Row1.nu {L M z:Nat}{bs:List Blk}{es:List (List D)}{v:V}(h:Row1 L M bs z es v):nu v=some v:=by
 obtain ⟨_,rfl⟩ | ⟨b,cap,h1,h2,rfl,_⟩:=h.2<;>rfl
theorem Row1.ok {L M z:Nat}{bs:List Blk}{es:List (List D)}{v:V}(h:Row1 L M bs z es v):okV v=true:=by
 obtain ⟨_,rfl⟩ | ⟨b,cap,h1,h2,rfl,_⟩:=h.2<;>rfl
theorem Jr {α:Type}{cells:α->List D}{z by_:Nat}(hz:∀ x,(cells x).length=z)(hz0:0<z)(hby:by_<=4096){s:Sl α}(hs:short s)(bs:List Blk) :
 ∃ v bs',(∀ lo,dZ ⟨bs++[.cells []],lo⟩ z by_ (.row bs.length 0 0 (some 0) z) (.d (s.d cells))=some (v,⟨bs',lo⟩))/\bs.length<=bs'.length/\(∀ x,x<bs.length->bs'[x]?=bs[x]?)/\Row1 bs.length bs'.length bs' z (s.l.map cells) v/\∀ k,k<=bs.length->v.under k=false:=by
 have hzz:z≠0:=by omega
 have hw:∀ e∈s.l.map cells,e.length=z:=λe he=>by obtain ⟨y,_,rfl⟩:=cb.1 he; exact hz y
 have hrc:∀ h,aF h (.d (s.d cells)) z=some (s.l.length,flat (s.l.map cells)):=λh=>by
  have hall:((s.l.map cells).all λe=>e.length==z)=true:=ck.2 λx hx=>by simp [hw x hx]
  simp only [aF,Sl.d,hall,if_true,flat,bx]
 by_cases h0:s.l.length=0
 . have hl:s.l=[]:=List.length_eq_zero_iff.1 h0;refine ⟨.row bs.length 0 0 (some 0) z,bs++[.cells []],λlo=>?_,by simp,λx hx=>al hx,⟨hw,.inr ⟨bs.length,some 0,bp _,by simp,by rw [hl]; rfl,by rw [hl]; simp,.inr ⟨rfl,by rw [hl]; rfl⟩⟩⟩,λk hk=>by simp [V.under]; omega⟩;simp only [dZ,hrc,aD,if_pos h0];simp [hzz]
 . have hroom:roomy s.l.length by_=true:=by simp only [roomy,aq,br]; exact ⟨hs.1,hby⟩
   have hne:s.l≠[]:=λh=>h0 (by rw [h]; rfl);refine ⟨.row (bs.length+1) 0 s.l.length none z,bs++[.cells [],.cells (flat (s.l.map cells))],λlo=>?_,by simp,λx hx=>al hx,⟨hw,.inr ⟨bs.length+1,none,by omega,by simp,by simp,?_,.inl ⟨rfl,by simpa using hne⟩⟩⟩,λk hk=>by simp [V.under]; omega⟩
   . simp only [dZ,hrc,aD,if_neg h0];simp [hzz,hroom,h0]
   . have:=oJ (bs:=bs) (ys:=[.cells [],.cells (flat (s.l.map cells))]) (i:=1);rw [this];rfl
theorem Acc.row1 {base:List Blk}{z:Nat}{acc:List (List D)}{bs:List Blk}{v:V}(h:Acc base z acc bs v):Row1 base.length bs.length bs z acc v:=by
 refine ⟨h.wid,?_⟩;obtain h1 | ⟨h1,b,h2,h3,h4⟩:=h.is
 . exact .inl h1
 . exact .inr ⟨b,none,h2,aI h4,h3,h4,.inl ⟨rfl,h1⟩⟩
structure DoesE (E:Calls'):Prop where
 e35:∀ p:Pol,p.fits big->∀ h,E 228 [ag p.c] h=some (ag p.cp.c,h)
theorem L34 {T:FuncId->Option QF}{val:FuncId->Bool}(h35:T 228=none)(hE:DoesE E)(c:Cfg)(hc:c.ok)(base:List Blk)(n:Nat)(vs:List V)(hb:ai base n=some vs)(h8:sub vs 7 1=some [.d (c.policies.d Pol.c)])(lo:Nat):∃ bs' lo' v',Cd E T val (.loop [1,2,3,4] wO) [(1,.ptr n 0),(2,.ptr (n+1) 0),(3,.d (.slice true [])),(4,.d (i64 0))] ⟨base,lo⟩=some (.exit 0,[(1,.ptr n 0),(2,.ptr (n+1) 0),(3,v')],⟨bs',lo'⟩)/\Acc base 5 (c.policies.l.map λr=>r.cp.c) bs' v':=by
 have hlen:=hc.2.2.2.1.lt;have key:=Bf (E:=E) (T:=T) (val:=val) (base:=base) (z:=5) (keep:=[1,2,3,4]) (body:=wO) c.policies.l.length (λi=>(c.policies.l.take i).map λr=>r.cp.c) (λi v=>[(1,.ptr n 0),(2,.ptr (n+1) 0),(3,v),(4,.d (i64 i))]) (λv=>(.exit 0,[(1,.ptr n 0),(2,.ptr (n+1) 0),(3,v)])) (λi hi bs lo v hA=>?_) (λbs lo v hA W=>?_) base lo _ (by simpa using Acc.nil base 5)
 . simpa using key
 . have hx:=ab hi;have hmem:=bh hi;have htk:c.policies.l.take (i+1)=c.policies.l.take i++[c.policies.l[i]]:=by rw [List.take_add_one,hx]; rfl
   generalize c.policies.l[i]=r at *;have hsx:=λh=>aK (z:=5) h hx (cells:=Pol.c) rfl;have hw:=aA hi hlen;have h0:((i:Int)<c.policies.l.length):=by omega
   have hnu:=hA.nu;have hg:=hA.get hb;have hcall:=λh=>(aL (E:=E) (val:=val) h35).trans (hE.e35 r (hc.2.2.2.2 r hmem) h);obtain ⟨v',bs',lo',ha,hA'⟩:=(hA.lay [.cells (r.cp.c.map .d)]).app (by decide) (by_:=64) (by decide) (e:=r.cp.c) rfl (by simp; have:=hc.2.2.2.1.1; omega) lo (r:=bs.length) (cap:=some 1) (by simp);refine ⟨bs',lo',v',by rw [htk,List.map_append]; exact hA',λW=>?_⟩;simp [wO,hg,h8,h0,hsx,hnu,hcall,aC,ha,hw,hA'.nu]
 . simp [wO,hA.get hb,h8]
def cq (c:Cfg)(v4 v5 v6 v7:V):List V:=[.d (u64 c.epoch),.d (u64 c.next),.d (i64 c.hosts),.d (i64 c.ways),v4,v5,v6,v7]
section
variable {c:Cfg}{a b d e x:V}
theorem cq4:put (cq c a b d e) 4 [x]=some (cq c x b d e):=(rfl)
theorem cq5:put (cq c a b d e) 5 [x]=some (cq c a x d e):=(rfl)
theorem cq6:put (cq c a b d e) 6 [x]=some (cq c a b x e):=(rfl)
theorem cq7:put (cq c a b d e) 7 [x]=some (cq c a b d x):=(rfl)
theorem cs5:sub (cq c a b d e) 5 1=some [b]:=(rfl)
theorem cs6:sub (cq c a b d e) 6 1=some [d]:=(rfl)
theorem cs8:sub (cq c a b d e) 0 8=some (cq c a b d e):=(rfl)
theorem cql:(cq c a b d e).length=8:=(rfl)
end
theorem B34 {T:FuncId->Option QF}{val:FuncId->Bool}(h35:T 228=none)(hE:DoesE E)(c:Cfg)(hc:c.ok)(bs:List Blk):∃ bs' lo' v4 v5 v6 v7 L0 L1 L2 L3,
 Bd E T val q34 [c.v] ⟨bs,bs.length⟩=some (.agg (cq c v4 v5 v6 v7),⟨bs',lo'⟩)/\(∀ x,x<bs.length->bs'[x]?=bs[x]?)/\bs.length<=L0/\L0<=L1/\L1<=L2/\L2<=L3/\L3<=bs'.length ∧
 Row1 L0 L1 bs' 7 (c.pods.l.map Pod.c) v4/\Row1 L1 L2 bs' 5 (c.services.l.map Svc.c) v5/\Row1 L2 L3 bs' 2 (c.bound.l.map Way.c) v6/\Row1 L3 bs'.length bs' 5 (c.policies.l.map λr=>r.cp.c) v7 ∧
 v4≠.d (.slice true [])/\v5≠.d (.slice true [])/\v6≠.d (.slice true [])/\(c.policies.l=[]->v7=.d (.slice true []))/\v4.under bs.length=false:=by
 obtain ⟨v4,b4,a4,l4,k4,r4,u4⟩:=Jr (cells:=Pod.c) (z:=7) (by_:=72) (λ_=>rfl) (by decide) (by decide) hc.1 (bs++[.cells (c.c.map .d),.cells [.d (.int .u64 0),.d (.int .u64 0),.d (i64 0),.d (i64 0),.d (.slice true []),.d (.slice true []),.d (.slice true []),.d (.slice true [])]]);have n4:bs.length+2<=b4.length:=by simpa using l4
 let c4:=cq c v4 (.d (c.services.d Svc.c)) (.d (c.bound.d Way.c)) (.d (c.policies.d Pol.c))
 obtain ⟨v5,b5,a5,l5,k5,r5,u5⟩:=Jr (cells:=Svc.c) (z:=5) (by_:=48) (λ_=>rfl) (by decide) (by decide) hc.2.1 (b4.set bs.length (.cells (cq c v4 (.d (c.services.d Svc.c)) (.d (c.bound.d Way.c)) (.d (c.policies.d Pol.c)))));have n5:b4.length<=b5.length:=by simpa using l5
 obtain ⟨v6,b6,a6,l6,k6,r6,u6⟩:=Jr (cells:=Way.c) (z:=2) (by_:=16) (λ_=>rfl) (by decide) (by decide) hc.2.2.1 (b5.set bs.length (.cells (cq c v4 v5 (.d (c.bound.d Way.c)) (.d (c.policies.d Pol.c)))));have n6:b5.length<=b6.length:=by simpa using l6
 have g0:ai b4 bs.length=some (cq c (.d (c.pods.d Pod.c)) (.d (c.services.d Svc.c)) (.d (c.bound.d Way.c)) (.d (c.policies.d Pol.c))):=by
  have:ai (bs++[.cells (c.c.map .d),.cells [.d (.int .u64 0),.d (.int .u64 0),.d (i64 0),.d (i64 0),.d (.slice true []),.d (.slice true []),.d (.slice true []),.d (.slice true [])]]) bs.length=some (c.c.map .d):=by simp
  rw [show cq c (.d (c.pods.d Pod.c)) (.d (c.services.d Svc.c)) (.d (c.bound.d Way.c)) (.d (c.policies.d Pol.c))=c.c.map .d from rfl,← this];unfold ai; rw [k4 _ (by simp)]
 have gset:∀ (b:List Blk) (cs:List V),bs.length<b.length->ai (b.set bs.length (.cells cs)) bs.length=some cs:=λb cs h=>by simp [ai,h]
 have g1:=gset b4 (cq c v4 (.d (c.services.d Svc.c)) (.d (c.bound.d Way.c)) (.d (c.policies.d Pol.c))) (by omega);have g1':ai b5 bs.length=some (cq c v4 (.d (c.services.d Svc.c)) (.d (c.bound.d Way.c)) (.d (c.policies.d Pol.c))):=by rw [← g1]; unfold ai; rw [k5 _ (by simp; omega)]
 have g2:=gset b5 (cq c v4 v5 (.d (c.bound.d Way.c)) (.d (c.policies.d Pol.c))) (by omega);have g2':ai b6 bs.length=some (cq c v4 v5 (.d (c.bound.d Way.c)) (.d (c.policies.d Pol.c))):=by rw [← g2]; unfold ai; rw [k6 _ (by simp; omega)]
 have g3:=gset b6 (cq c v4 v5 v6 (.d (c.policies.d Pol.c))) (by omega);obtain ⟨b7,lo7,v7,a7,A7⟩:=L34 (val:=val) h35 hE c hc (b6.set bs.length (.cells (cq c v4 v5 v6 (.d (c.policies.d Pol.c))))) bs.length _ g3 rfl bs.length;have r7:=A7.row1;have n7:=A7.len;simp at n7 r7;have g3':=A7.get g3;have g4:=gset b7 (cq c v4 v5 v6 v7) (by omega);have gz:ai b7 (bs.length+1)=some [.d (.int .u64 0),.d (.int .u64 0),.d (i64 0),.d (i64 0),.d (.slice true []),.d (.slice true []),.d (.slice true []),.d (.slice true [])]:=by
  refine A7.get ?_;have h0:ai (bs++[.cells (c.c.map .d),.cells [.d (.int .u64 0),.d (.int .u64 0),.d (i64 0),.d (i64 0),.d (.slice true []),.d (.slice true []),.d (.slice true []),.d (.slice true [])]]) (bs.length+1)=some [.d (.int .u64 0),.d (.int .u64 0),.d (i64 0),.d (i64 0),.d (.slice true []),.d (.slice true []),.d (.slice true []),.d (.slice true [])]:=by simp
  rw [← h0]; unfold ai;rw [ac (by omega),k6 _ (by simp; omega),ac (by omega),k5 _ (by simp; omega),ac (by omega),k4 _ (by simp)]
 have gz':ai (b7.set bs.length (.cells (cq c v4 v5 v6 v7))) (bs.length+1)=some [.d (.int .u64 0),.d (.int .u64 0),.d (i64 0),.d (i64 0),.d (.slice true []),.d (.slice true []),.d (.slice true []),.d (.slice true [])]:=by rw [← gz]; unfold ai; rw [ac (by omega)]
 have gy:ai ((b7.set bs.length (.cells (cq c v4 v5 v6 v7))).set (bs.length+1) (.cells (cq c v4 v5 v6 v7))) (bs.length+1)=some (cq c v4 v5 v6 v7):=by
  have:bs.length+1<b7.length:=by omega
  simp [ai,this]
 have hold:∀ x,bs.length+2<=x\/x<bs.length->((b7.set bs.length (.cells (cq c v4 v5 v6 v7))).set (bs.length+1) (.cells (cq c v4 v5 v6 v7)))[x]?=b7[x]?:=λx hx=>by rw [ac (by omega),ac (by omega)]
 have h7:∀ x,x<b6.length->x≠bs.length->b7[x]?=b6[x]?:=λx hx hne=>by rw [A7.old x (by simpa using hx),ac (Ne.symm hne)]
 have h6:∀ x,x<b5.length->x≠bs.length->b6[x]?=b5[x]?:=λx hx hne=>by rw [k6 x (by simpa using hx),ac (Ne.symm hne)]
 have h5:∀ x,x<b4.length->x≠bs.length->b5[x]?=b4[x]?:=λx hx hne=>by rw [k5 x (by simpa using hx),ac (Ne.symm hne)]
 refine ⟨(b7.set bs.length (.cells (cq c v4 v5 v6 v7))).set (bs.length+1) (.cells (cq c v4 v5 v6 v7)),min (min lo7 bs.length) (bs.length+1),v4,v5,v6,v7,bs.length+2,b4.length,b5.length,b6.length,?_,?_,by omega,n4,n5,n6,by simpa using n7,?_,?_,?_,?_,?_,?_,?_,?_,u4 bs.length (by simp)⟩
 . have q4:=a4 bs.length;have q5:=a5 bs.length;have q6:=a6 bs.length;have t4:=r4.cl; have t5:=r5.cl; have t6:=r6.cl; have t7:=r7.cl;have m4:=r4.nu; have m5:=r5.nu; have m6:=r6.nu; have m7:=r7.nu;simp at q4 q5 q6 a7;have hcv:c.v=.agg (cq c (.d (c.pods.d Pod.c)) (.d (c.services.d Svc.c)) (.d (c.bound.d Way.c)) (.d (c.policies.d Pol.c))):=rfl;simp [aa,q34,q4,q5,q6,t4,t5,t6,g0,g1',g2',az g1,az g2,cq4,cq5,cq6,cs5,cs6];rw [aj];simp [a7];simp [m7,t7,g3',cs8,cql,cq7,g4,gz',gy]
 . intro x hx;rw [hold x (.inr hx),h7 x (by omega) (by omega),h6 x (by omega) (by omega),h5 x (by omega) (by omega),k4 x (by simp; omega)];exact al hx
 . exact (by simpa using r4:Row1 (bs.length+2) b4.length b4 7 _ v4).on λx h1 h2=>by rw [hold x (.inl h1),h7 x (by omega) (by omega),h6 x (by omega) (by omega),h5 x h2 (by omega)]
 . exact (by simpa using r5:Row1 b4.length b5.length b5 5 _ v5).on λx h1 h2=>by rw [hold x (.inl (by omega)),h7 x (by omega) (by omega),h6 x h2 (by omega)]
 . exact (by simpa using r6:Row1 b5.length b6.length b6 2 _ v6).on λx h1 h2=>by rw [hold x (.inl (by omega)),h7 x h2 (by omega)]
 . simpa using r7.on λx h1 h2=>hold x (.inl (by omega))
 . rintro rfl; exact absurd (u4 0 (by simp)) (by simp [V.under])
 . rintro rfl; exact absurd (u5 0 (by simp)) (by simp [V.under])
 . rintro rfl; exact absurd (u6 0 (by simp)) (by simp [V.under])
 . intro h0;obtain ⟨_,h⟩ | ⟨h,_⟩:=A7.is
   . exact h
   . exact absurd (by simp [h0]) h
end
section
variable {E:Calls'}
theorem LG {α:Type}{a b:List α}{o k:Nat}(h:o+k<=a.length):sub (a++b) o k=sub a o k:=by
 rw [eT,eT,if_pos (by simp; omega),if_pos h,List.drop_append_of_le_length (by omega),List.take_append_of_le_length (by simp; omega)]
theorem Im {α:Type}{a b:List α}{o k:Nat}:sub (a++b) (a.length+o) k=sub b o k:=by
 rw [eT,eT,am,List.drop_append];by_cases h:o+k<=b.length
 . rw [if_pos (by omega),if_pos h,ba (show a.length<=a.length+o by omega)];simp
 . rw [if_neg (by omega),if_neg h]
theorem wX {z:Nat}:∀ {es:List (List D)} {i:Nat} {e:List D},(∀ e∈es,e.length=z)->es[i]?=some e->∀ {o k:Nat},o+k<=z->sub (flat es) (i * z+o) k=sub (e.map V.d) o k
 | x::es,0,e,hz,hi,o,k,h=>by
  simp at hi;subst hi;rw [ky,Nat.zero_mul,Nat.zero_add,LG (by simp [hz x (by simp)]; omega)]
 | x::es,i+1,e,hz,hi,o,k,h=>by
  have hx:=hz x (by simp);have:(i+1) * z+o=(x.map V.d).length+(i * z+o):=by simp [hx,Nat.succ_mul]; omega
  rw [ky,this,Im];exact wX (λe he=>hz e (by simp [he])) (by simpa using hi) h
theorem Row1.len {L M z:Nat}{bs:List Blk}{es:List (List D)}{v:V}(h:Row1 L M bs z es v)(hp:Hp):sZ false v hp=some (.d (i64 es.length),hp):=by
 obtain ⟨rfl,rfl⟩ | ⟨b,cap,h1,h2,rfl,_⟩:=h.2<;>rfl
theorem Row1.at {L M z:Nat}{bs:List Blk}{es:List (List D)}{v:V}(h:Row1 L M bs z es v){i:Nat}{e:List D}(hi:es[i]?=some e) :
 ∃ b,L<=b/\b<M/\(∀ hp,iB none z v (.d (.int .i64 i)) hp=some (.ptr b (i * z),hp))/\ai bs b=some (flat es)/\(∀ o k,o+k<=z->sub (flat es) (i * z+o) k=sub (e.map V.d) o k)/\∀ k,k<=z->sub (flat es) (i * z) k=sub (e.map V.d) 0 k:=by
 have hlt:=(bw.1 hi).1;obtain ⟨rfl,rfl⟩ | ⟨b,cap,h1,h2,rfl,h3,_⟩:=h.2
 . simp at hlt
 . refine ⟨b,h1,h2,λhp=>?_,h3,λo k hk=>wX h.1 hi hk,λk hk=>by simpa using wX (o:=0) h.1 hi (by omega)⟩;simp only [iB];rw [if_pos ⟨by omega,by omega,trivial⟩];simp
theorem Acc.ret {bs bs':List Blk}{z lo lo':Nat}{acc:List (List D)}{v:V}(h:Acc bs z acc bs' v):∃ bs2 lo2,gm ⟨bs,lo⟩ (some (v,⟨bs',lo'⟩))=some (v,⟨bs2,lo2⟩)/\Acc bs z acc bs2 v:=by
 rw [iQ];by_cases hc:bs.length<=lo'/\v.under bs.length=true
 . rw [if_pos hc];refine ⟨bs,lo,rfl,?_⟩;obtain ⟨rfl,rfl⟩ | ⟨h1,b,h2,rfl,h4⟩:=h.is
   . exact Acc.nil bs z
   . have:=hc.2;simp [V.under] at this;omega
 . rw [if_neg hc];exact ⟨_,_,rfl,h⟩
end
section
variable {E:Calls'}
end
section
variable {E:Calls'}
theorem Row1.datN {L M z:Nat}{bs:List Blk}{es:List (List D)}{v:V}(h:Row1 L M bs z es v)(hn:v≠.d (.slice true []))(lo k:Nat):dataV ⟨bs,lo⟩ (k+1) v=some (.slice false es):=by
 obtain ⟨_,rfl⟩ | ⟨b,cap,h1,h2,rfl,h3,_⟩:=h.2
 . exact absurd rfl hn
 . rw [bz h.1 rfl (rest:=[]) (by simpa using h3)]
theorem Row1.datE {L M z:Nat}{bs:List Blk}{es:List (List D)}{v:V}(h:Row1 L M bs z es v)(hn:es=[]->v=.d (.slice true []))(lo k:Nat):dataV ⟨bs,lo⟩ (k+1) v=some (.slice es.isEmpty es):=by
 obtain ⟨rfl,rfl⟩ | ⟨b,cap,h1,h2,rfl,h3,h4 | h4⟩:=h.2
 . rfl
 . rw [bz h.1 rfl (rest:=[]) (by simpa using h3)];cases es with
   | nil=>exact absurd rfl h4.2
   | cons _ _=>rfl
 . cases hn h4.2
def z8:List V:=[.d (.int .u64 0),.d (.int .u64 0),.d (i64 0),.d (i64 0),.d (.slice true []),.d (.slice true []),.d (.slice true []),.d (.slice true [])]
def Cfg.cp (c:Cfg):Cfg:={ c with pods:=iG c.pods,services:=iG c.services,bound:=iG c.bound,policies:=uI (c.policies.l.map Pol.cp) }
theorem Gf {c:Cfg}{h:Hp}{v4 v5 v6 v7:V}{d4 d5 d6 d7:D}(h4:dataV h 8 v4=some d4)(h5:dataV h 8 v5=some d5)(h6:dataV h 8 v6=some d6)(h7:dataV h 8 v7=some d7) :
 eZ h (cq c v4 v5 v6 v7)=some [u64 c.epoch,u64 c.next,i64 c.hosts,i64 c.ways,d4,d5,d6,d7]:=by
 simp only [cq,ut];simp [eZ,h4,h5,h6,h7]
theorem Cfg.cp_c (c:Cfg):c.cp.c=[u64 c.epoch,u64 c.next,i64 c.hosts,i64 c.ways,.slice false (c.pods.l.map Pod.c),.slice false (c.services.l.map Svc.c),.slice false (c.bound.l.map Way.c),.slice (c.policies.l.map λr=>r.cp.c).isEmpty (c.policies.l.map λr=>r.cp.c)]:=by
 simp [Cfg.cp,Cfg.c,Sl.d,iG,uI,cm]
end
section
variable {E:Calls'}
theorem iH {bs:List Blk}{x:Nat}{cs cs0:List V}(h:ai bs x=some cs0):ai (bs.set x (.cells cs)) x=some cs:=by simp [ai,aI h]
theorem fC {bs:List Blk}{x y:Nat}{cs:List V}(h:y≠x):ai (bs.set y (.cells cs)) x=ai bs x:=by unfold ai; rw [ac h]
theorem Row1.app {L M z:Nat}{bs:List Blk}{es:List (List D)}{v:V}(h:Row1 L M bs z es v)(hz0:0<z){by_:Nat}(hby:by_<=4096)(hl:es.length<big){e:List D}(he:e.length=z){r:Nat}{cap:Option Nat}(hr:ai bs r=some (e.map .d))(hM:M<=bs.length) :
 ∃ v' bs',∃ F:Nat->Nat,(∀ lo,dZ ⟨bs,lo⟩ z by_ v (.row r 0 1 cap z)=some (v',⟨bs',F lo⟩))/\Row1 bs.length bs'.length bs' z (es++[e]) v'/\v'≠.d (.slice true [])/\(∀ x,x<bs.length->x<L\/M<=x->bs'[x]?=bs[x]?)/\bs.length<=bs'.length:=by
 have hrc:∀ lo,aF ⟨bs,lo⟩ (.row r 0 1 cap z) z=some (1,e.map .d):=λlo=>by
  have:sub (e.map V.d) 0 z=some (e.map V.d):=bL (by simpa using he);simp only [aF,if_true,get_eq,hr,Nat.one_mul,this,Option.map_some]
 have hroom:∀ n,n<=big->roomy n by_=true:=λn hn=>by simp only [roomy,aq,br]; exact ⟨hn,hby⟩
 have hwid:∀ x∈es++[e],x.length=z:=λx hx=>by
  obtain h1 | h1:=List.mem_append.1 hx
  . exact h.1 x h1
  . simp at h1; rw [h1]; exact he
 have hfe:flat (es++[e])=flat es++e.map .d:=by rw [kH]; simp [flat]
 obtain ⟨rfl,rfl⟩ | ⟨b,cap',h1,h2,rfl,h3,⟨rfl,h4⟩ | ⟨rfl,rfl⟩⟩:=h.2
 . refine ⟨.row bs.length 0 1 none z,bs++[.cells (e.map .d)],id,λlo=>by simp only [dZ,hrc,aD,if_neg (show ¬ (1=0) by decide),if_neg (show ¬ z=0 by omega),hroom 1 (by decide),if_true]; rfl,⟨hwid,.inr ⟨bs.length,none,bp _,by simp,rfl,by simp [flat],.inl ⟨rfl,by simp⟩⟩⟩,by simp,λx hx _=>al hx,by simp⟩
 . have hfl:=oG h.1;have hsub:sub (flat es) 0 (es.length * z)=some (flat es):=bL hfl;have hpos:0<(flat es).length:=by rw [hfl]; exact Nat.mul_pos (by cases es with | nil=>exact absurd rfl h4 | cons _ _=>simp) hz0
   refine ⟨.row bs.length 0 (es.length+1) none z,bs.set b (.cells [])++[.cells (flat es++e.map .d)],λlo=>min lo b,λlo=>by simp only [dZ,hrc,aD,ne_eq,not_true_eq_false,false_or,if_neg (show ¬ (1=0) by decide),if_neg (show ¬ z=0 by omega),get_eq,h3,hsub,hroom (es.length+1) (by omega),Bool.not_true,bm,if_false,hpos,and_self,if_true,Hp.size,Hp.alloc,Hp.set],⟨hwid,.inr ⟨bs.length,none,bp _,by simp,by simp,?_,.inl ⟨rfl,by simp⟩⟩⟩,by simp,λx hx hx2=>?_,by simp⟩
   . have:ai (bs.set b (.cells [])++[.cells (flat es++e.map .d)]) (bs.set b (.cells [])).length=some (flat es++e.map .d):=by rw [eG]; rfl
     rw [List.length_set] at this;rw [hfe];exact this
   . rw [al (by simpa using hx),ac (by omega)]
 . have hsub:sub (flat []) 0 (0 * z)=some (flat []):=by simp
   refine ⟨.row bs.length 0 1 none z,bs++[.cells (e.map .d)],id,λlo=>by
    simp only [dZ,hrc,aD,ne_eq,not_true_eq_false,false_or,if_neg (show ¬ (1=0) by decide),if_neg (show ¬ z=0 by omega),get_eq,h3,hsub,cj,hroom (0+1) (by decide),Bool.not_true,bm,if_false,show ¬ (0+1<=0) by omega,Hp.size,Hp.alloc]; rfl,⟨hwid,.inr ⟨bs.length,none,bp _,by simp,rfl,by simp [flat],.inl ⟨rfl,by simp⟩⟩⟩,by simp,λx hx _=>al hx,by simp⟩
end
section
structure Nde where
 inc:Int
 asked:Int
 seq:Int
 v:Vw
 whole:Bool
def Nde.c (n:Nde):List D:=u64 n.inc::u64 n.asked::u64 n.seq::(n.v.c++[.bool n.whole])
def ai9:List (Nat×QF):=[(13,r98)]
def TN8:FuncId->Option QF:=gM ai9
def yA (f:FuncId):Bool:=false
theorem ck3:TN8 13=some r98:=by kernel_rfl
theorem ck4:TN8 33=none:=by kernel_rfl
theorem Ke (n:Nde):sub n.c 0 1=some [u64 n.inc]:=(rfl)
theorem Kg (n:Nde):sub n.c 2 1=some [u64 n.seq]:=(rfl)
theorem SV (n:Nde):sub n.c 3 6=some n.v.c:=(rfl)
theorem Bi (n:Nde):sub n.c 9 1=some [.bool n.whole]:=(rfl)
theorem Qq (n:Nde)(x:Vw):put (n.c.map V.d) 3 (x.c.map .d)=some (Nde.c { n with v:=x } |>.map .d):=(rfl)
theorem Qp (n:Nde)(k:Int):put (n.c.map V.d) 2 [.d (u64 k)]=some (Nde.c { n with seq:=k } |>.map .d):=(rfl)
theorem Qr (n:Nde)(b:Bool):put (n.c.map V.d) 9 [.d (.bool b)]=some (Nde.c { n with whole:=b } |>.map .d):=(rfl)
section
variable {E:Calls'}
theorem S98 {bs:List Blk}{nb:Nat}{n:Nde}(hb:ai bs nb=some (n.c.map .d)){p:Psh}{x base:Vw}(hi:p.inc=n.inc)(hs:¬ p.seq<n.seq)
 (hc:(n.whole=false/\p.upon=0/\base=vw0)\/(n.whole=true/\p.seq≠n.seq/\p.upon≠0/\p.upon=n.seq/\base=n.v))
 (k33:∀ h,E 33 [base.v,ag p.delta.c] h=some (.tup [x.v,.d (i64 0)],h)) :
 ∃ b1 b2 b3 b4,∃ F:Nat->Nat,∀ lo,Sm E TN8 yA 13 [.ptr nb 0,ag p.c] ⟨bs,lo⟩=some (.row (bs.length+4) 0 1 (some 1) 4,⟨bs.set nb (.cells (Nde.c ⟨n.inc,n.asked,p.seq,x,true⟩ |>.map .d))++[b1,b2,b3,b4,.cells ((Ack.c ⟨p.life,p.inc,p.seq,1⟩).map .d)],F lo⟩):=by
 have hnl:=aI hb;have n33:∀ h,Sm E TN8 yA 33 [base.v,ag p.delta.c] h=some (.tup [x.v,.d (i64 0)],h):=λh=>(aL ck4).trans (k33 h);have g:=λys=>az (ys:=ys) hb;have gs:∀ ys X,ai (bs.set nb (.cells X)++ys) nb=some X:=λys X=>az (iH hb);have gn:∀ X a b ys,ai (bs.set nb (.cells X)++a::.cells b::ys) (bs.length+1)=some b:=λX a b ys=>by
  unfold ai;rw [bk (by simp)];simp
 have hn0:¬ bs.length=nb:=by omega
 have hn3:¬ bs.length+3=nb:=by omega
 have ack:∀ k:Int,(Ack.c ⟨p.life,n.inc,p.seq,k⟩).map V.d=[.d (u64 p.life),.d (u64 n.inc),.d (u64 p.seq),.d (i64 k)]:=λ_=>rfl;have hB:(Bd E TN8 yA r98 [.ptr nb 0,ag p.c] ⟨bs,bs.length⟩).map (λo=>(o.1,o.2.bs))=some (.row (bs.length+4) 0 1 (some 1) 4,bs.set nb (.cells (Nde.c ⟨n.inc,n.asked,p.seq,x,true⟩ |>.map .d))++[.cells (p.c.map .d),.cells ((Ack.c ⟨p.life,p.inc,p.seq,1⟩).map .d),.cells (base.c.map .d),.cells (x.c.map .d),.cells ((Ack.c ⟨p.life,p.inc,p.seq,1⟩).map .d)]):=by
  obtain ⟨h1,h2,rfl⟩ | ⟨h1,h2,h3,h4,rfl⟩:=hc
  . have e0:vw0.v=.agg [.d (.int .u64 0),.d (.slice true []),.d (.slice true []),.d (.slice true []),.d (.slice true []),.d (.slice true [])]:=rfl;have e1:vw0.c.map V.d=[.d (.int .u64 0),.d (.slice true []),.d (.slice true []),.d (.slice true []),.d (.slice true []),.d (.slice true [])]:=rfl;have hdr:List.drop 6 (List.map V.d n.v.c)=[]:=rfl;rw [e0] at n33;rw [e1];simp +decide [aa,r98,hdr,g,Ke,Kg,SV,Bi,Qq,Qp,Qr,hi,hs,h1,h2,n33,gs,gn,hnl,hn0,hn3,ack,aC,ay,bv,Tr.spares,List.range,List.range.loop]
  . have hdr:List.drop 6 (List.map V.d n.v.c)=[]:=rfl;have h5:¬ n.seq=0:=h4 ▸ h3;simp +decide [aa,r98,g,Ke,Kg,SV,Bi,Qq,Qp,Qr,hi,hs,h1,h2,h4,h5,n33,gs,gn,hnl,hn0,hn3,ack,aC,ay,bv,Tr.spares,List.range,List.range.loop]
 cases hbd:Bd E TN8 yA r98 [.ptr nb 0,ag p.c] ⟨bs,bs.length⟩ with
 | none=>rw [hbd] at hB; cases hB
 | some o =>
  obtain ⟨r,b',lo'⟩:=o;rw [hbd] at hB;simp only [Option.map_some,bd,ct] at hB;obtain ⟨rfl,rfl⟩:=hB;refine ⟨.cells (p.c.map .d),.cells ((Ack.c ⟨p.life,p.inc,p.seq,1⟩).map .d),.cells (base.c.map .d),.cells (x.c.map .d),λlo=>min lo lo',λlo=>?_⟩;rw [ax ck3 rfl];show gm ⟨bs,lo⟩ (Bd E TN8 yA r98 [.ptr nb 0,ag p.c] ⟨bs,bs.length⟩)=_;rw [hbd,iQ,if_neg (by rintro ⟨_,h⟩; simp [V.under] at h; omega)]
end
end
section
end
section
variable {E:Calls'}
end
section
theorem I8 {B:Nat}{c:Cfg}{e:Edt}(h:c.wf B)(he:e.wf B)(hB:17<=B)(hok:(eY c e).2=0):(eY c e).1.wf B:=by
 obtain ⟨h1,h2,h3,h4⟩:=Aj hok;rw [h3];have hsm:eQ c.own=true:=by
  have hso:eQ c.own=eQ c:=by unfold eQ; simp only [Cfg.own,bx]; rfl
  simp only [bG,aq] at h1;rw [hso]; exact h1.1.1
 have:=vL (Cfg.own_wf h) he hB hsm;exact ⟨uT _,this.2⟩
end
