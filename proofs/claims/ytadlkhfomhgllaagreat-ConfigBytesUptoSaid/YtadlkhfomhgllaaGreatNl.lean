/- The document's reader: terms. -/
import Derived.Test.YtadlkhfomhgllaaGreatNa
set_option maxHeartbeats 2000000
set_option maxRecDepth 100000
set_option linter.unusedVariables false
set_option linter.unusedSimpArgs false
namespace Go.Proofs.YtadlkhfomhgllaaGreat
open IntKind (wrap)
section
variable {E:Calls'}
theorem VS:TDr 173=some J5:=by kernel_rfl
theorem yz {p:Nat}{bs:List Blk}{st st1:Option (List Int)}{c:Int}(hR:RwS p bs st)(h:Step pByte st c st1)(h0:st1=none->c=0):0<=c/\c<256:=by
 cases st with
 | none=>rw [h0 h]; decide
 | some b =>
  cases b with
  | nil=>rw [h0 h]; decide
  | cons x l =>
   have h:c=x/\st1=some l:=h;obtain ⟨v,m,g1,g2,g3,g4,g5,g6⟩:=hR;have:=g5 _ rfl;subst this;rw [h.1]; exact g3 x (by simp)
theorem FK (hE:dL E){p:Nat}{bs:List Blk}{st:Option (List Int)}(hR:RwS p bs st):af8 E 173 [.ptr p 0] p bs st pTerms Term.c 1:=by
 have hpl:=hR.lt;have hmin:min bs.length p=p:=Nat.min_eq_right (Nat.le_of_lt hpl);obtain ⟨N,st1,bs1,a1,a2,a3,a4,a5⟩:=kw hE hR (most:=6) (by decide) (by decide);have hN:N<=6:=by omega
 have hp1:p<bs1.length:=a4.lt;obtain ⟨xs,v,bs2,st2,FF,c1,c2,c3,c4,c5⟩:=iA (E:=E) (P:=yP) (cells:=Term.c) (keep:=[0,3,4,5]) (body:=vL) (λi v=>[(0,.ptr p 0),(3,v),(4,.d (i64 N)),(5,.d (i64 (i:Int)))]) (AccI p bs1 2 0) (λv=>(.exit 0,[(3,v)])) N
  (λi bs v st ds hi hI=>by
    obtain ⟨x1,s1,b1,e1,f1,g1,h1,o1⟩:=OC (E:=E) hI.1;obtain ⟨x2,s2,b2,e2,f2,g2,h2,o2⟩:=CO hE h1 (most:=64) (by decide) (by decide);have hc:=yz hI.1 f1 g1;have hw1:wrap .i64 x1=x1:=wrap64 (by omega) (by omega);obtain ⟨v2,b3,F,k1,k2,k3⟩:=hI.app hp1 h2 (o1.trans o2) (vs:=[.d (i64 x1),.d (.str x2)]) (es:=Term.c ⟨x1,x2⟩) (by
     refine ⟨Hng.d (by simp),Hng.d (by simp),trivial⟩) rfl (by decide) (by_:=24) (by decide) (Nat.lt_trans (by omega:i<7) (by decide))
    refine ⟨⟨x1,x2⟩,b3,v2,s2,k2,Step.map (λx:Int×ByteArray=>(⟨x.1,x.2⟩:Term)) (f1.seq f2),λlo=>⟨F (min (min lo p) p),ch (k3 _) (by omega),λW=>?_⟩⟩;have hlt:(i:Int)<N:=by omega
    have hw:=ax (i:=i) (n:=N) (by omega) (by omega);have hnu:=hI.2.1.nu;simp [vL,hlt,e1,e2,hw1,hnu,az,k1,k2.2.1.nu,hw,put])
  (λbs v st ds lo hI W=>by
    have hnu:=hI.2.1.nu;simp [vL])
  (AccI.nil a4)
 have c1:=c1 (min bs.length p);have c5:=c5 (min bs.length p);generalize FF (min bs.length p)=lo2 at c1 c5;have hflat:(xs.map Term.c).length=N:=by simp [c2]
 have hH:=AccV.hng (es:=xs.map Term.c) (by simpa using c3.2.1) (λe he=>by obtain ⟨x,_,rfl⟩:=cd.1 he; rfl) hflat.symm;have hS:Step pTerms st ⟨xs.isEmpty,xs⟩ st2:=by
  have:=(StepZ.seq a2 (l:=xs) (s2:=st2) (by simpa using c4)).map λl=>(⟨l.isEmpty,l⟩:Sl Term);exact this
 have hlo:lo2<=p:=by omega
 refine ⟨v,⟨xs.isEmpty,xs⟩,st2,bs2,lo2,hlo,λlo=>?_,⟨c3.2.1.cells.1,c3.2.1.nu,c3.2.1.cells.2⟩,?_,hS,c3.1,a5.trans c3.2.2.1⟩
 . rw [aM VS rfl];show fC ⟨bs,lo⟩ (Bd E TDr aV J5 [.ptr p 0] ⟨bs,bs.length⟩)=_;have hB:Bd E TDr aV J5 [.ptr p 0] ⟨bs,bs.length⟩=some (v,⟨bs2,lo2⟩):=by
    simp only [Int.natCast_zero] at c1;simp [ae,J5,a1];rw [ai];simp [c1,c3.2.1.nu]
   rw [hB,eu,if_neg (λh=>by have:=h.1; simp only at this; omega)]
 . have:Sl.d Term.c ⟨xs.isEmpty,xs⟩=.slice (xs.map Term.c).isEmpty (xs.map Term.c):=by simp [Sl.d]
   rw [this];exact hH.on (λ_ _=>rfl) λx hx=>⟨ch a5.1.1 hx.1,hx.2⟩
end
section
variable {E:Calls'}
def OldQ (p q:Nat)(bs bs':List Blk):Prop:=bs.length<=bs'.length/\(∀ y,y≠p->y≠q->y<bs.length->bs'[y]?=bs[y]?)/\∀ b,RdBk p bs' b->RdBk p bs b\/bs.length<=b
theorem OldR.q {p:Nat}{bs bs':List Blk}(h:OldR p bs bs')(q:Nat):OldQ p q bs bs':=⟨h.1.1,λy h1 _ h2=>h.1.2 y h1 h2,h.2⟩
theorem OldQ.refl (p q:Nat)(bs:List Blk):OldQ p q bs bs:=⟨bo _,λ_ _ _ _=>rfl,λ_ h=>.inl h⟩
theorem OldQ.trans {p q:Nat}{a b c:List Blk}(h:OldQ p q a b)(k:OldQ p q b c):OldQ p q a c:=⟨ch h.1 k.1,λy h1 h2 h3=>(k.2.1 y h1 h2 (cf h3 h.1)).trans (h.2.1 y h1 h2 h3),λx hx=>by
 obtain h1 | h1:=k.2.2 x hx
 . exact h.2.2 x h1
 . exact .inr (ch h.1 h1)⟩
theorem OldQ.set {p q:Nat}(bs:List Blk)(x:Blk)(hq:q≠p):OldQ p q bs (bs.set q x):=⟨by simp,λy _ h2 _=>by rw [ac (Ne.symm h2)],λb hb=>.inl (hb.same (by rw [ac hq]))⟩
theorem OldQ.new {p q:Nat}{a b c:List Blk}(h:OldR p a b)(k:OldQ p q b c)(hq:a.length<=q):OldR p a c:=⟨⟨ch h.1.1 k.1,λy h1 h2=>(k.2.1 y h1 (by omega) (cf h2 h.1.1)).trans (h.1.2 y h1 h2)⟩,λx hx=>by
 obtain h1 | h1:=k.2.2 x hx
 . exact h.2 x h1
 . exact .inr (ch h.1.1 h1)⟩
def Free (p q:Nat)(bs:List Blk):Prop:=∀ b,RdBk p bs b->b≠q
theorem Free.on {p q q':Nat}{bs bs':List Blk}(h:Free p q bs)(ho:OldQ p q' bs bs')(hq:q<bs.length):Free p q bs':=λb hb=>by
 obtain h1 | h1:=ho.2.2 b hb
 . exact h b h1
 . omega
theorem Free.new {p:Nat}{bs:List Blk}{st:Option (List Int)}(h:RwS p bs st)(ys:List Blk):Free p bs.length (bs++ys):=λb hb=>by
 have:=(RdBk.lt h (hb.same (am h.lt))).1;omega
theorem RwS.setq {p q:Nat}{bs:List Blk}{st:Option (List Int)}(h:RwS p bs st)(hq:q≠p)(hf:Free p q bs)(x:Blk):RwS p (bs.set q x) st :=
 h.keep (by rw [ac hq]) λb hb=>by rw [ac (Ne.symm (hf b hb))]
def HG (p q:Nat)(bs:List Blk)(v:V)(d:D)(k:Nat):Prop:=∃ L,q<L/\p<L/\Hng true (KL L bs) bs v d k
theorem HG.on {p q:Nat}{bs bs':List Blk}{v:V}{d:D}{k:Nat}(h:HG p q bs v d k)(ho:OldQ p q bs bs'):HG p q bs' v d k:=by
 obtain ⟨L,h1,h2,h3⟩:=h;exact ⟨L,h1,h2,h3.on (λx hx=>ho.2.1 x (by have:=hx.1; omega) (by have:=hx.1; omega) hx.2) λx hx=>⟨hx.1,cf hx.2 ho.1⟩⟩
theorem HG.of {p q:Nat}{bs bs':List Blk}{v:V}{d:D}{k:Nat}(h:Hng true (KL bs.length bs') bs' v d k)(hq:q<bs.length)(hp:p<bs.length):HG p q bs' v d k:=⟨_,hq,hp,h⟩
theorem HG.hng {p q L:Nat}{bs:List Blk}{v:V}{d:D}{k:Nat}(h:HG p q bs v d k)(hL:L<=q):Hng true (KL L bs) bs v d k:=by
 obtain ⟨M,h1,h2,h3⟩:=h;exact h3.on (λ_ _=>rfl) λx hx=>⟨by have:=hx.1; omega,hx.2⟩
def AccQW (w:Bool)(p q:Nat)(bs0:List Blk)(z k i:Nat)(bs:List Blk)(v:V)(st:Option (List Int))(ds:List D):Prop:=RwS p bs st/\AccV w bs0.length z k i ds bs v/\OldQ p q bs0 bs/\(∀ b,RdBk p bs b->ym v b)/\Free p q bs
abbrev AccQ:=AccQW true
theorem AccQW.nil {w:Bool}{p q:Nat}{bs:List Blk}{z k:Nat}{st:Option (List Int)}(h:RwS p bs st)(hf:Free p q bs):AccQW w p q bs z k 0 bs (nV) st []:=⟨h,AccV.nil _ _ _ _,OldQ.refl _ _ _,λb _ o n c z hh=>by (cases hh),hf⟩
theorem AccQ.nil {p q:Nat}{bs:List Blk}{z k:Nat}{st:Option (List Int)}(h:RwS p bs st)(hf:Free p q bs):AccQ p q bs z k 0 bs (nV) st []:=AccQW.nil h hf
theorem AccQW.app {w:Bool}{p q:Nat}{bs0 bs bs2:List Blk}{z k i:Nat}{v:V}{st st2:Option (List Int)}{ds es:List D}(h:AccQW w p q bs0 z k i bs v st ds)(hp:p<bs0.length)(hq:q<bs0.length)(hqp:q≠p)(hR:RwS p bs2 st2)(ho:OldR p bs bs2){vs:List V}(hv:Hngs w (KL bs.length bs2) bs2 k vs es)(hvl:vs.length=z)(hz0:0<z){by_:Nat}(hby:by_<=4096)(hl:i<big) :
 ∃ v2 bs3,∃ F:Nat->Nat,(∀ lo,dY ⟨bs2++[.cells vs],lo⟩ z by_ v (.row bs2.length 0 1 (some 1) z)=some (v2,⟨bs3,F lo⟩))/\bs3[q]?=bs[q]?/\(∀ x,AccQW w p q bs0 z k (i+1) (bs3.set q x) v2 st2 (ds++es))/\(nu v2=some v2/\v2.cells=some [v2]/\okV v2=true)/\(∀ lo,F lo<=lo):=by
 obtain ⟨a1,a2,a3,a4,a5⟩:=h;have hle:=a3.1;have hle2:=ho.1.1;have hA:AccV w bs0.length z k i ds (bs2++[.cells vs]) v:=a2.on (by simp; omega) λx h1 h2=>by
  rw [am (by omega),ho.1.2 x (by omega) h2]
 obtain ⟨v2,bs3,F,b1,b2,b3,b4,b5,b6⟩:=hA.appD hz0 hby hl (r:=bs2.length) (cap:=some 1) hvl (by simp) (L2:=bs.length) hle (λB n' c hh=>(a2.lt hh).2)
  (hv.on (λy hy=>by rw [am hy.2]) λy hy=>⟨hy.1,by have:=hy.2; simp; omega⟩) (by simp; omega)
 have hpp:bs3[p]?=bs2[p]?:=by rw [b4 p (by simp; omega) (.inl hp),am (by omega)]
 have hd:∀ b,RdBk p bs2 b->b<bs2.length/\ym v b:=λb hb=>⟨(RdBk.lt hR hb).1,by
  obtain h1 | h1:=ho.2 b hb
  . exact a4 b h1
  . rintro o n c z' rfl;have:=(a2.lt rfl).2;omega⟩
 have hR3:RwS p bs3 st2:=hR.keep hpp λb hb=>by
  obtain ⟨h1,h2⟩:=hd b hb;rw [b4 b (by simp; omega) (.inr h2),am h1]
 have hf2:Free p q bs2:=a5.on (ho.q q) (by omega);have hf3:Free p q bs3:=λb hb=>hf2 b (hb.same hpp);have ho3:OldQ p q bs0 bs3:=⟨by simp at b3; omega,λy h1 h2 h3=>by
  rw [b4 y (by simp; omega) (.inl h3),am (by omega)];exact (a3.trans (ho.q q)).2.1 y h1 h2 h3,λb hb=>(a3.trans (ho.q q)).2.2 b (hb.same hpp)⟩
 refine ⟨v2,bs3,F,b1,?_,λx=>⟨hR3.setq hqp hf3 x,b2.on (by simp) λy h1 _=>by rw [ac (by omega)],ho3.trans (OldQ.set _ _ hqp),λb hb=>b6 b ?_,hf3.on (OldQ.set _ _ hqp) (by simp at b3; omega)⟩,⟨b2.nu,b2.cells⟩,b5⟩
 . rw [b4 q (by simp; omega) (.inl hq),am (by omega),ho.1.2 q hqp (by omega)]
 . have:=(hd b ((hb.same (by rw [ac hqp])).same hpp)).1;simp; omega
theorem AccQ.hg {p q:Nat}{bs0 bs:List Blk}{z k i:Nat}{v:V}{st:Option (List Int)}{es:List (List D)}(h:AccQ p q bs0 z k i bs v st es.flatten)(hz:∀ e∈es,e.length=z)(hn:i=es.length)(hp:p<bs0.length)(hq:q<bs0.length):HG p q bs v (.slice es.isEmpty es) (k+1):=⟨_,hq,hp,AccV.hng h.2.1 hz hn⟩
end
section
variable {E:Calls'}
theorem KN {p:Nat}{bs:List Blk}{st st1:Option (List Int)}{c:Int}(hR:RwS p bs st)(h:Step pU32 st c st1)(h0:st1=none->c=0):0<=c/\c<4294967296:=by
 cases st with
 | none=>rw [h0 h]; decide
 | some b =>
  obtain ⟨m,h1,_⟩ | ⟨_,h1⟩:=Step.of h
  . obtain ⟨v,l,g1,g2,g3,g4,g5,g6⟩:=hR;exact (u32_cod.bwd b c m (by rw [g5 b rfl]; exact g3) h1).2
  . rw [h0 h1]; decide
theorem aO {p q x:Nat}{bs bs':List Blk}{cs:List V}(ho:OldR p bs bs')(hx:x≠p)(h:aa bs x=some cs):aa bs' x=some cs:=bC (ho.1.2 x hx (aN h)) h
theorem Aj {n:Int}(h:0<=n/\n<4294967296):wrap .u32 n=n:=by
 simp only [wrap,IntKind.bits,IntKind.signed,Bool.false_and,bk,if_false];exact Int.emod_eq_of_lt h.1 h.2
theorem P9 (hE:dL E){p q:Nat}{bs:List Blk}{st:Option (List Int)}(hR:RwS p bs st)(hf:Free p q bs)(hqp:q≠p)(hq:q<bs.length){w1 w2:V}(hg:aa bs q=some [w1,w2,nV])(c2 c3 c4 c5 c6 c7 c8:V){N:Nat}(hN:N<=6) :
 ∃ xs v bs' st',∃ F:Nat->Nat,(∀ lo,Cd E TDr aV (.loop [0,2,3,4,5,6,7,8,9,10,11] pI) [(0,.ptr p 0),(2,c2),(3,c3),(4,c4),(5,c5),(6,c6),(7,c7),(8,c8),(9,.ptr q 0),(10,.d (i64 N)),(11,.d (i64 0))] ⟨bs,lo⟩=some (.exit 4,[(0,.ptr p 0),(2,c2),(3,c3),(4,c4),(5,c5),(6,c6),(7,c7),(8,c8),(9,.ptr q 0)],⟨bs',F lo⟩)) ∧
  xs.length=N/\(AccQ p q bs 2 0 N bs' v st' (xs.map Cidr.c).flatten/\aa bs' q=some [w1,w2,v])/\Step (gX uN N) st xs st'/\∀ lo,F lo<=lo:=by
 have hpl:=hR.lt;have key:=iA (E:=E) (P:=uN) (cells:=Cidr.c) (keep:=[0,2,3,4,5,6,7,8,9,10,11]) (body:=pI) (λi v=>[(0,.ptr p 0),(2,c2),(3,c3),(4,c4),(5,c5),(6,c6),(7,c7),(8,c8),(9,.ptr q 0),(10,.d (i64 N)),(11,.d (i64 (i:Int)))])
  (λi bs' v st' ds=>AccQ p q bs 2 0 i bs' v st' ds/\aa bs' q=some [w1,w2,v]) (λv=>(.exit 4,[(0,.ptr p 0),(2,c2),(3,c3),(4,c4),(5,c5),(6,c6),(7,c7),(8,c8),(9,.ptr q 0)])) N
  (λi bs1 v st ds hi hI=>by
    obtain ⟨hI,hgv⟩:=hI;have hR1:=hI.1;have hl1:=hR1.lt;have hle:=hI.2.2.1.1;have hB:∀ xs:List V,Free p bs1.length (bs1++[.cells xs]):=λxs=>Free.new hR1 _;obtain ⟨x1,s1,b1,e1,f1,g1,h1,o1⟩:=Vv (E:=E) (hR1.lay [.cells [.d (u32 0),.d (i64 0)]]);have gb1:aa b1 bs1.length=some [.d (u32 0),.d (i64 0)]:=aO (q:=q) o1 (by omega) (by simp);have fr1:Free p bs1.length b1:=(hB _).on (o1.q q) (by simp);have hs1:=h1.setq (q:=bs1.length) (by omega) fr1 (.cells [.d (u32 x1),.d (i64 0)]);have fs1:=fr1.on (OldQ.set (q:=bs1.length) b1 (.cells [.d (u32 x1),.d (i64 0)]) (by omega)) (by have:=o1.1.1; simp at this; omega);obtain ⟨x2,s2,b2,e2,f2,g2,h2,o2⟩:=OC (E:=E) hs1;have gb2:aa b2 bs1.length=some [.d (u32 x1),.d (i64 0)]:=aO (q:=q) o2 (by omega) (aG gb1);have fr2:Free p bs1.length b2:=fs1.on (o2.q q) (by have:=o1.1.1; simp at this ⊢; omega);have hs2:=h2.setq (q:=bs1.length) (by omega) fr2 (.cells [.d (u32 x1),.d (i64 x2)]);have oq:OldQ p bs1.length b1 (b2.set bs1.length (.cells [.d (u32 x1),.d (i64 x2)])):=(OldQ.set _ _ (by omega)).trans ((o2.q _).trans (OldQ.set _ _ (by omega)));have oR:OldR p bs1 (b2.set bs1.length (.cells [.d (u32 x1),.d (i64 x2)])):=OldQ.new ((OldR.lay bs1 _ hl1).trans o1) oq (bo _);have hc1:=KN (hR1.lay [.cells [.d (u32 0),.d (i64 0)]]) f1 g1;have hc2:=yz hs1 f2 g2;have hw1:wrap .u32 x1=x1:=Aj hc1;have hw2:wrap .i64 x2=x2:=wrap64 (by omega) (by omega)
    have gq2:aa (b2.set bs1.length (.cells [.d (u32 x1),.d (i64 x2)])) q=some [w1,w2,v]:=aO (q:=q) oR hqp hgv;obtain ⟨v2,b3,F,k1,k2,k3,k4,k5⟩:=hI.app hpl hq hqp hs2 oR (vs:=[.d (u32 x1),.d (i64 x2)]) (es:=Cidr.c ⟨x1,x2⟩) (by
     refine ⟨Hng.d (by simp),Hng.d (by simp),trivial⟩) rfl (by decide) (by_:=16) (by decide) (Nat.lt_trans (by omega:i<7) (by decide))
    simp only [List.length_set] at k1;have gq3:aa b3 q=some [w1,w2,v]:=bC k2 hgv;have gb3:aa (b2.set bs1.length (.cells [.d (u32 x1),.d (i64 x2)])) bs1.length=some [.d (u32 x1),.d (i64 x2)]:=aG gb2;have hlt:(i:Int)<N:=by omega
    have hw:=ax (i:=i) (n:=N) (by omega) (by omega);have hnu:=hI.2.1.nu;have hok:=hI.2.1.cells;have hst:=Step.map (λx:Int×Int=>(⟨x.1,x.2⟩:Cidr)) (f1.seq f2);have hput:put [w1,w2,v] 2 [v2]=some [w1,w2,v2]:=rfl;have hF:∀ lo,∃ lo2,lo2<=lo/\∀ W:EA->Hp->dx,bH [0,2,3,4,5,6,7,8,9,10,11] W (Cd E TDr aV pI (bq [0,2,3,4,5,6,7,8,9,10,11] [(0,.ptr p 0),(2,c2),(3,c3),(4,c4),(5,c5),(6,c6),(7,c7),(8,c8),(9,.ptr q 0),(10,.d (i64 N)),(11,.d (i64 (i:Int)))]) ⟨bs1,lo⟩)=W [(0,.ptr p 0),(2,c2),(3,c3),(4,c4),(5,c5),(6,c6),(7,c7),(8,c8),(9,.ptr q 0),(10,.d (i64 N)),(11,.d (i64 ((i+1:Nat):Int)))] ⟨b3.set q (.cells [w1,w2,v2]),lo2⟩:=by
     intro lo;refine ⟨_,?_,λW=>by
      simp +decide [pI,hlt,e1,e2,hw1,hw2,az,storeAt,put,sub,Hp.set,gb1,gb2,gb3,gq2,gq3,k1,k4,hw]; exact rfl⟩
     exact ch (Nat.min_le_left _ _) (ch (k5 _) (Nat.min_le_left _ _))
    exact ⟨⟨x1,x2⟩,b3.set q (.cells [w1,w2,v2]),v2,s2,⟨k3 _,aG gq3⟩,hst,hF⟩)
  (λbs v st ds lo hI W=>by simp [pI])
  (v:=nV) ⟨AccQ.nil hR hf,hg⟩
 simpa using key
end
section
variable {E:Calls'}
theorem Qd (hE:dL E){p q:Nat}{bs:List Blk}{st:Option (List Int)}(hR:RwS p bs st)(hf:Free p q bs)(hqp:q≠p)(hq:q<bs.length){w1 w2:V}(hg:aa bs q=some [w1,w2,nV])(c2 c3 c4 c5:V){N:Nat}(hN:N<=3) :
 ∃ xs v bs' st',∃ F:Nat->Nat,(∀ lo,Cd E TDr aV (.loop [0,2,3,4,5,6,7,17] pO) [(0,.ptr p 0),(2,c2),(3,c3),(4,c4),(5,c5),(6,.ptr q 0),(7,.d (i64 N)),(17,.d (i64 0))] ⟨bs,lo⟩=some (.exit 10,[(0,.ptr p 0),(2,c2),(3,c3),(4,c4),(5,c5),(6,.ptr q 0)],⟨bs',F lo⟩)) ∧
  xs.length=N/\(AccQ p q bs 2 1 N bs' v st' (xs.map When.c).flatten/\aa bs' q=some [w1,w2,v])/\Step (gX uP N) st xs st'/\∀ lo,F lo<=lo:=by
 have hpl:=hR.lt;have key:=iA (E:=E) (P:=uP) (cells:=When.c) (keep:=[0,2,3,4,5,6,7,17]) (body:=pO) (λi v=>[(0,.ptr p 0),(2,c2),(3,c3),(4,c4),(5,c5),(6,.ptr q 0),(7,.d (i64 N)),(17,.d (i64 (i:Int)))])
  (λi bs' v st' ds=>AccQ p q bs 2 1 i bs' v st' ds/\aa bs' q=some [w1,w2,v]) (λv=>(.exit 10,[(0,.ptr p 0),(2,c2),(3,c3),(4,c4),(5,c5),(6,.ptr q 0)])) N
  (λi bs1 v st ds hi hI=>by
    obtain ⟨hI,hgv⟩:=hI;have hR1:=hI.1;have hl1:=hR1.lt;have hB:∀ xs:List V,Free p bs1.length (bs1++[.cells xs]):=λxs=>Free.new hR1 _;obtain ⟨x1,s1,b1,e1,f1,g1,h1,o1⟩:=CO hE (hR1.lay [.cells [.d (.str ⟨#[]⟩),nV]]) (most:=64) (by decide) (by decide);have gb1:aa b1 bs1.length=some [.d (.str ⟨#[]⟩),nV]:=aO (q:=q) o1 (by omega) (by simp);have fr1:Free p bs1.length b1:=(hB _).on (o1.q q) (by simp);have hs1:=h1.setq (q:=bs1.length) (by omega) fr1 (.cells [.d (.str x1),nV]);have fs1:=fr1.on (OldQ.set (q:=bs1.length) b1 (.cells [.d (.str x1),nV]) (by omega)) (by have:=o1.1.1; simp at this; omega);obtain ⟨y2,x2,s2,b2,d2,u2,e2,n2,hh2,f2,h2,o2⟩:=FK hE hs1;have gb2:aa b2 bs1.length=some [.d (.str x1),nV]:=aO (q:=q) o2 (by omega) (aG gb1);have fr2:Free p bs1.length b2:=fs1.on (o2.q q) (by have:=o1.1.1; simp at this ⊢; omega);have hs2:=h2.setq (q:=bs1.length) (by omega) fr2 (.cells [.d (.str x1),y2]);have hl2:bs1.length<b1.length:=by have:=o1.1.1; simp at this; omega
    have og2:OldQ p bs1.length b2 (b2.set bs1.length (.cells [.d (.str x1),y2])):=OldQ.set _ _ (by omega);have oq:OldQ p bs1.length b1 (b2.set bs1.length (.cells [.d (.str x1),y2])):=(OldQ.set _ _ (by omega)).trans ((o2.q _).trans og2);have oR:OldR p bs1 (b2.set bs1.length (.cells [.d (.str x1),y2])):=OldQ.new ((OldR.lay bs1 _ hl1).trans o1) oq (bo _);have hh:HG p bs1.length b2 y2 (Sl.d Term.c x2) 1:=HG.of hh2 (by simpa using hl2) (by simp; omega);have hh:=(hh.on og2).hng (bo _);have gq2:aa (b2.set bs1.length (.cells [.d (.str x1),y2])) q=some [w1,w2,v]:=aO (q:=q) oR hqp hgv;obtain ⟨v2,b3,F,k1,k2,k3,k4,k5⟩:=hI.app hpl hq hqp hs2 oR (vs:=[.d (.str x1),y2]) (es:=When.c ⟨x1,x2⟩) (by
     refine ⟨Hng.d (by simp),hh,trivial⟩) rfl (by decide) (by_:=40) (by decide) (Nat.lt_trans (by omega:i<7) (by decide))
    simp only [List.length_set] at k1;have gq3:aa b3 q=some [w1,w2,v]:=bC k2 hgv;have gb3:aa (b2.set bs1.length (.cells [.d (.str x1),y2])) bs1.length=some [.d (.str x1),y2]:=aG gb2;have hlt:(i:Int)<N:=by omega
    have hw:=ax (i:=i) (n:=N) (by omega) (by omega);have hst:=Step.map (λx:ByteArray×Sl Term=>(⟨x.1,x.2⟩:When)) (f1.seq f2);have hF:∀ lo,∃ lo2,lo2<=lo/\∀ W:EA->Hp->dx,bH [0,2,3,4,5,6,7,17] W (Cd E TDr aV pO (bq [0,2,3,4,5,6,7,17] [(0,.ptr p 0),(2,c2),(3,c3),(4,c4),(5,c5),(6,.ptr q 0),(7,.d (i64 N)),(17,.d (i64 (i:Int)))]) ⟨bs1,lo⟩)=W [(0,.ptr p 0),(2,c2),(3,c3),(4,c4),(5,c5),(6,.ptr q 0),(7,.d (i64 N)),(17,.d (i64 ((i+1:Nat):Int)))] ⟨b3.set q (.cells [w1,w2,v2]),lo2⟩:=by
     intro lo;refine ⟨_,?_,λW=>by
      simp +decide [pO,hlt,e1,e2,n2,az,storeAt,put,sub,Hp.set,gb1,gb2,gb3,gq2,gq3,k1,k4,hw]; exact rfl⟩
     exact ch (Nat.min_le_left _ _) (ch (k5 _) (Nat.min_le_left _ _))
    exact ⟨⟨x1,x2⟩,b3.set q (.cells [w1,w2,v2]),v2,s2,⟨k3 _,aG gq3⟩,hst,hF⟩)
  (λbs v st ds lo hI W=>by simp [pO])
  (v:=nV) ⟨AccQ.nil hR hf,hg⟩
 simpa using key
end
section
variable {E:Calls'}
theorem Fg {α:Type}{cells:α->List D}(xs:List α):Sl.d cells ⟨xs.isEmpty,xs⟩=.slice (xs.map cells).isEmpty (xs.map cells):=by simp [Sl.d]
theorem AccQ.sl {α:Type}{cells:α->List D}{p q:Nat}{bs0 bs:List Blk}{z k i:Nat}{v:V}{st:Option (List Int)}{xs:List α}(h:AccQ p q bs0 z k i bs v st (xs.map cells).flatten)(hz:∀ x,(cells x).length=z)(hn:xs.length=i)(hp:p<bs0.length)(hq:q<bs0.length):HG p q bs v (Sl.d cells ⟨xs.isEmpty,xs⟩) (k+1):=by
 rw [Fg];exact h.hg (λe he=>by obtain ⟨x,_,rfl⟩:=cd.1 he; exact hz x) (by simp [hn]) hp hq
theorem Qa (hE:dL E){p q:Nat}{bs:List Blk}{st:Option (List Int)}(hR:RwS p bs st)(hf:Free p q bs)(hqp:q≠p)(hq:q<bs.length){w1 w2:V}(hg:aa bs q=some [nV,w1,w2])(c2 c3 c4 c5:V){N:Nat}(hN:N<=3) :
 ∃ xs v bs' st',∃ F:Nat->Nat,(∀ lo,Cd E TDr aV (.loop [0,2,3,4,5,6,7,8] pJ) [(0,.ptr p 0),(2,c2),(3,c3),(4,c4),(5,c5),(6,.ptr q 0),(7,.d (i64 N)),(8,.d (i64 0))] ⟨bs,lo⟩=some (.exit 2,[(0,.ptr p 0),(2,c2),(3,c3),(4,c4),(5,c5),(6,.ptr q 0)],⟨bs',F lo⟩)) ∧
  xs.length=N/\(AccQ p q bs 3 1 N bs' v st' (xs.map Source.c).flatten/\aa bs' q=some [v,w1,w2])/\Step (gX lC N) st xs st'/\∀ lo,F lo<=lo:=by
 have hpl:=hR.lt;have key:=iA (E:=E) (P:=lC) (cells:=Source.c) (keep:=[0,2,3,4,5,6,7,8]) (body:=pJ) (λi v=>[(0,.ptr p 0),(2,c2),(3,c3),(4,c4),(5,c5),(6,.ptr q 0),(7,.d (i64 N)),(8,.d (i64 (i:Int)))])
  (λi bs' v st' ds=>AccQ p q bs 3 1 i bs' v st' ds/\aa bs' q=some [v,w1,w2]) (λv=>(.exit 2,[(0,.ptr p 0),(2,c2),(3,c3),(4,c4),(5,c5),(6,.ptr q 0)])) N
  (λi bs1 v st ds hi hI=>by
    obtain ⟨hI,hgv⟩:=hI;have hR1:=hI.1;have hl1:=hR1.lt;have hB:∀ xs:List V,Free p bs1.length (bs1++[.cells xs]):=λxs=>Free.new hR1 _;obtain ⟨y1,x1,s1,b1,d1,u1,e1,n1,hh1,f1,h1,o1⟩:=FK hE (hR1.lay [.cells [nV,nV,nV]]);have l1:bs1.length<b1.length:=by have:=o1.1.1; simp at this; omega
    have gb1:aa b1 bs1.length=some [nV,nV,nV]:=aO (q:=q) o1 (by omega) (by simp);have fr1:Free p bs1.length b1:=(hB _).on (o1.q q) (by simp);have og1:OldQ p bs1.length b1 (b1.set bs1.length (.cells [y1,nV,nV])):=OldQ.set _ _ (by omega);have fs1:=fr1.on og1 l1;obtain ⟨y2,x2,s2,b2,d2,u2,e2,n2,hh2,f2,h2,o2⟩:=FK hE (h1.setq (q:=bs1.length) (by omega) fr1 (.cells [y1,nV,nV]));have l2:bs1.length<b2.length:=by have:=o2.1.1; simp at this; omega
    have gb2:aa b2 bs1.length=some [y1,nV,nV]:=aO (q:=q) o2 (by omega) (aG gb1);have fr2:Free p bs1.length b2:=fs1.on (o2.q q) (by simpa using l1);have og2:OldQ p bs1.length b2 (b2.set bs1.length (.cells [y1,y2,nV])):=OldQ.set _ _ (by omega);have fs2:=fr2.on og2 l2;obtain ⟨n3,s3,b3',e3,f3,m3,h3,o3⟩:=kw hE (h2.setq (q:=bs1.length) (by omega) fr2 (.cells [y1,y2,nV])) (most:=6) (by decide) (by decide);have l3:bs1.length<b3'.length:=by have:=o3.1.1; simp at this; omega
    have gb3':aa b3' bs1.length=some [y1,y2,nV]:=aO (q:=q) o3 (by omega) (aG gb2);have fr3:Free p bs1.length b3':=fs2.on (o3.q q) (by simpa using l2);obtain ⟨x3,y3,b4,s4,F4,e4,n4,⟨A4,gb4⟩,f4,k4'⟩:=P9 hE h3 fr3 (by omega) l3 gb3' c2 c3 c4 c5 (.ptr q 0) (.d (i64 N)) (.d (i64 (i:Int))) (N:=n3) (by omega);have hs2:=A4.1;have q4:=A4.2.2.1;have oq:OldQ p bs1.length b1 b4:=og1.trans ((o2.q _).trans (og2.trans ((o3.q _).trans q4)));have oR:OldR p bs1 b4:=OldQ.new ((OldR.lay bs1 _ hl1).trans o1) oq (bo _);have g1:=((HG.of (q:=bs1.length) hh1 (by simp) (by simp; omega)).on oq).hng (bo _);have g2:=((HG.of (q:=bs1.length) hh2 (by simpa using l1) (by simp; omega)).on (og2.trans ((o3.q _).trans q4))).hng (bo _);have g3:=(A4.sl (cells:=Cidr.c) (λ_=>rfl) n4 (by omega) l3).hng (bo _);have f4:Step (pSl 6 uN) s2 ⟨x3.isEmpty,x3⟩ s4:=by
     have:=(StepZ.seq f3 (l:=x3) (s2:=s4) (by simpa using f4)).map λl=>(⟨l.isEmpty,l⟩:Sl Cidr);exact this
    have gq2:aa b4 q=some [v,w1,w2]:=aO (q:=q) oR hqp hgv;obtain ⟨v2,b3,F,k1,k2,k3,k4,k5⟩:=hI.app hpl hq hqp hs2 oR (vs:=[y1,y2,y3]) (es:=Source.c ⟨x1,x2,⟨x3.isEmpty,x3⟩⟩) (by
     refine ⟨g1,g2,g3,trivial⟩) rfl (by decide) (by_:=72) (by decide) (Nat.lt_trans (by omega:i<4) (by decide))
    have gq3:aa b3 q=some [v,w1,w2]:=bC k2 hgv;have gb3:aa b4 bs1.length=some [y1,y2,y3]:=gb4;have hlt:(i:Int)<N:=by omega
    have hw:=ax (i:=i) (n:=N) (by omega) (by omega);have hst:=Step.map (λx:Sl Term×Sl Term×Sl Cidr=>(⟨x.1,x.2.1,x.2.2⟩:Source)) (f1.seq (f2.seq f4));have hF:∀ lo,∃ lo2,lo2<=lo/\∀ W:EA->Hp->dx,bH [0,2,3,4,5,6,7,8] W (Cd E TDr aV pJ (bq [0,2,3,4,5,6,7,8] [(0,.ptr p 0),(2,c2),(3,c3),(4,c4),(5,c5),(6,.ptr q 0),(7,.d (i64 N)),(8,.d (i64 (i:Int)))]) ⟨bs1,lo⟩)=W [(0,.ptr p 0),(2,c2),(3,c3),(4,c4),(5,c5),(6,.ptr q 0),(7,.d (i64 N)),(8,.d (i64 ((i+1:Nat):Int)))] ⟨b3.set q (.cells [v2,w1,w2]),lo2⟩:=by
     intro lo;refine ⟨_,?_,λW=>by
      simp +decide [pJ,hlt,e1,e2,e3,n1,n2,az,storeAt,put,Hp.set,gb1,gb2];rw [ai];simp +decide [e4,az,storeAt,put,sub,Hp.set,gb3,gq2,gq3,k1,k4,hw]; exact rfl⟩
     exact ch (Nat.min_le_left _ _) (ch (k5 _) (ch (k4' _) (Nat.min_le_left _ _)))
    exact ⟨⟨x1,x2,⟨x3.isEmpty,x3⟩⟩,b3.set q (.cells [v2,w1,w2]),v2,s4,⟨k3 _,aG gq3⟩,hst,hF⟩)
  (λbs v st ds lo hI W=>by simp [pJ])
  (v:=nV) ⟨AccQ.nil hR hf,hg⟩
 simpa using key
end
section
variable {E:Calls'}
theorem CS {q L M m:Nat}{t1 x5 x6 x7:Tr}(T:TrR [q] M t1)(hq:q<m):bI [[],[0],[],[2],[3,2],[1,0,4,3,2],[5,1,0,4,3,2],[6,5,1,0,4,3,2]] [⟨false,false,[],[],L,L,0⟩,⟨false,false,[q],[],L,L,0⟩,⟨false,false,[],[],L,L,0⟩,t1,⟨false,false,[],[],m,m+1,0⟩,x5,x6,x7]=true:=by
 have a1:=T.1 ⟨false,false,[],[],L,L,0⟩ ⟨rfl,rfl,rfl,rfl,by simp⟩;have a2:=T.1 ⟨false,false,[q],[],L,L,0⟩ ⟨rfl,rfl,rfl,rfl,by simp⟩;simp [bI,List.range,List.range.loop,a1,a2];simp [Tr.spares];omega
theorem Qb (hE:dL E){p q:Nat}{bs:List Blk}{st:Option (List Int)}(hR:RwS p bs st)(hf:Free p q bs)(hqp:q≠p)(hq:q<bs.length)(hg:aa bs q=some [nV,nV,nV,nV])(c2 c3 c4 c5 c6 c7 c13:V){N:Nat}(hN:N<=6) :
 ∃ xs v bs' st',∃ F:Nat->Nat,(∀ lo,Cd E TDr aV (.loop [0,2,3,4,5,6,7,13,14,15,16] pK) [(0,.ptr p 0),(2,c2),(3,c3),(4,c4),(5,c5),(6,c6),(7,c7),(13,c13),(14,.ptr q 0),(15,.d (i64 N)),(16,.d (i64 0))] ⟨bs,lo⟩=some (.exit 8,[(0,.ptr p 0),(2,c2),(3,c3),(4,c4),(5,c5),(6,c6),(7,c7),(13,c13),(14,.ptr q 0)],⟨bs',F lo⟩)) ∧
  xs.length=N/\(AccQ p q bs 1 0 N bs' v st' (xs.map fE).flatten/\aa bs' q=some [v,nV,nV,nV])/\Step (gX xg N) st xs st'/\∀ lo,F lo<=lo:=by
 have hpl:=hR.lt;have key:=iA (E:=E) (P:=xg) (cells:=fE) (keep:=[0,2,3,4,5,6,7,13,14,15,16]) (body:=pK) (λi v=>[(0,.ptr p 0),(2,c2),(3,c3),(4,c4),(5,c5),(6,c6),(7,c7),(13,c13),(14,.ptr q 0),(15,.d (i64 N)),(16,.d (i64 (i:Int)))])
  (λi bs' v st' ds=>AccQ p q bs 1 0 i bs' v st' ds/\aa bs' q=some [v,nV,nV,nV]) (λv=>(.exit 8,[(0,.ptr p 0),(2,c2),(3,c3),(4,c4),(5,c5),(6,c6),(7,c7),(13,c13),(14,.ptr q 0)])) N
  (λi bs1 v st ds hi hI=>by
    obtain ⟨hI,hgv⟩:=hI;have hR1:=hI.1;have hl1:=hR1.lt;have hle:=hI.2.2.1.1;obtain ⟨n,s1,b1,e1,f1,m1,h1,o1⟩:=kw hE hR1 (most:=65536) (by decide) (by decide);have l1:=o1.1.1;obtain ⟨t1,G1,k1',T1,g1,_,_⟩:=cz e1 hl1 o1.1 (st:=some []) (λh=>by cases h) (λ_ lo=>Nat.min_le_right _ _) (K:=[q]) (λb hb=>by
     simp only [List.mem_singleton] at hb;subst hb;refine ⟨hqp,_,hgv,?_⟩;obtain ⟨_,_,rfl⟩ | ⟨_,B,cs,_,rfl,_⟩:=hI.2.1<;>simp [dm,jc]) (m:=b1.length) l1
    obtain ⟨v2,b3,F,k1,k2,k3,k4,k5⟩:=hI.app hpl hq hqp h1 o1 (vs:=[.d (i64 n)]) (es:=fE n) (by
     refine ⟨Hng.d (by simp),trivial⟩) rfl (by decide) (by_:=8) (by decide) (Nat.lt_trans (by omega:i<7) (by decide))
    have gq1:aa b1 q=some [v,nV,nV,nV]:=aO (q:=q) o1 hqp hgv;have gq3:aa b3 q=some [v,nV,nV,nV]:=bC k2 hgv;have hlt:(i:Int)<N:=by omega
    have hw:=ax (i:=i) (n:=N) (by omega) (by omega);have hnu:=hI.2.1.nu;have hok:=hI.2.1.cells;have hput:put [v,nV,nV,nV] 0 [v2]=some [v2,nV,nV,nV]:=rfl;have hF:∀ lo,∃ lo2,lo2<=lo/\∀ W:EA->Hp->dx,bH [0,2,3,4,5,6,7,13,14,15,16] W (Cd E TDr aV pK (bq [0,2,3,4,5,6,7,13,14,15,16] [(0,.ptr p 0),(2,c2),(3,c3),(4,c4),(5,c5),(6,c6),(7,c7),(13,c13),(14,.ptr q 0),(15,.d (i64 N)),(16,.d (i64 (i:Int)))]) ⟨bs1,lo⟩)=W [(0,.ptr p 0),(2,c2),(3,c3),(4,c4),(5,c5),(6,c6),(7,c7),(13,c13),(14,.ptr q 0),(15,.d (i64 N)),(16,.d (i64 ((i+1:Nat):Int)))] ⟨b3.set q (.cells [v2,nV,nV,nV]),lo2⟩:=by
     intro lo;refine ⟨_,?_,λW=>by
      simp +decide [pK,hlt,k1',aL,az,storeAt,put,sub,Hp.set,hgv,gq3,k1,k4];rw [if_pos (CS T1 (by omega))];simp [hw];exact rfl⟩
     exact ch (Nat.min_le_left _ _) (ch (k5 _) (g1 _))
    exact ⟨n,b3.set q (.cells [v2,nV,nV,nV]),v2,s1,⟨k3 _,aG gq3⟩,f1.1,hF⟩)
  (λbs v st ds lo hi W=>by simp [pK])
  (v:=nV) ⟨AccQ.nil hR hf,hg⟩
 simpa using key
end
section
variable {E:Calls'}
theorem Qc (hE:dL E){p q:Nat}{bs:List Blk}{st:Option (List Int)}(hR:RwS p bs st)(hf:Free p q bs)(hqp:q≠p)(hq:q<bs.length){w1 w2:V}(hg:aa bs q=some [w1,nV,w2])(c2 c3 c4 c5:V){N:Nat}(hN:N<=3) :
 ∃ xs v bs' st',∃ F:Nat->Nat,(∀ lo,Cd E TDr aV (.loop [0,2,3,4,5,6,7,13] pM) [(0,.ptr p 0),(2,c2),(3,c3),(4,c4),(5,c5),(6,.ptr q 0),(7,.d (i64 N)),(13,.d (i64 0))] ⟨bs,lo⟩=some (.exit 6,[(0,.ptr p 0),(2,c2),(3,c3),(4,c4),(5,c5),(6,.ptr q 0)],⟨bs',F lo⟩)) ∧
  xs.length=N/\(AccQ p q bs 4 1 N bs' v st' (xs.map Target.c).flatten/\aa bs' q=some [w1,v,w2])/\Step (gX lD N) st xs st'/\∀ lo,F lo<=lo:=by
 have hpl:=hR.lt;have key:=iA (E:=E) (P:=lD) (cells:=Target.c) (keep:=[0,2,3,4,5,6,7,13]) (body:=pM) (λi v=>[(0,.ptr p 0),(2,c2),(3,c3),(4,c4),(5,c5),(6,.ptr q 0),(7,.d (i64 N)),(13,.d (i64 (i:Int)))])
  (λi bs' v st' ds=>AccQ p q bs 4 1 i bs' v st' ds/\aa bs' q=some [w1,v,w2]) (λv=>(.exit 6,[(0,.ptr p 0),(2,c2),(3,c3),(4,c4),(5,c5),(6,.ptr q 0)])) N
  (λi bs1 v st ds hi hI=>by
    obtain ⟨hI,hgv⟩:=hI;have hR1:=hI.1;have hl1:=hR1.lt;have hB:∀ xs:List V,Free p bs1.length (bs1++[.cells xs]):=λxs=>Free.new hR1 _;obtain ⟨n1,s1,b1,e1,f1,m1,h1,o1⟩:=kw hE (hR1.lay [.cells [nV,nV,nV,nV]]) (most:=6) (by decide) (by decide);have l1:bs1.length<b1.length:=by have:=o1.1.1; simp at this; omega
    have gb1:aa b1 bs1.length=some [nV,nV,nV,nV]:=aO (q:=q) o1 (by omega) (by simp);have fr1:Free p bs1.length b1:=(hB _).on (o1.q q) (by simp);obtain ⟨x1,y1,b2,s2,F2,e2,n2,⟨A2,gb2⟩,f2,k2'⟩:=Qb hE h1 fr1 (by omega) l1 gb1 c2 c3 c4 c5 (.ptr q 0) (.d (i64 N)) (.d (i64 (i:Int))) (N:=n1) (by omega);have l2:bs1.length<b2.length:=cf l1 A2.2.2.1.1;obtain ⟨y2,x2,s3,b3',d3,u3,e3,n3,hh3,f3,h3,o3⟩:=FK hE A2.1;have l3:bs1.length<b3'.length:=cf l2 o3.1.1;have gb3':aa b3' bs1.length=some [y1,nV,nV,nV]:=aO (q:=q) o3 (by omega) gb2;have fr3:Free p bs1.length b3':=A2.2.2.2.2.on (o3.q q) l2;have og3:OldQ p bs1.length b3' (b3'.set bs1.length (.cells [y1,y2,nV,nV])):=OldQ.set _ _ (by omega);have fs3:=fr3.on og3 l3;obtain ⟨y3,x3,s4,b4,d4,u4,e4,n4,hh4,f4,h4,o4⟩:=FK hE (h3.setq (q:=bs1.length) (by omega) fr3 (.cells [y1,y2,nV,nV]));have l4:bs1.length<b4.length:=by have:=o4.1.1; simp at this; omega
    have gb4:aa b4 bs1.length=some [y1,y2,nV,nV]:=aO (q:=q) o4 (by omega) (aG gb3');have fr4:Free p bs1.length b4:=fs3.on (o4.q q) (by simpa using l3);have og4:OldQ p bs1.length b4 (b4.set bs1.length (.cells [y1,y2,y3,nV])):=OldQ.set _ _ (by omega);have fs4:=fr4.on og4 l4;obtain ⟨y4,x4,s5,b5,d5,u5,e5,n5,hh5,f5,h5,o5⟩:=FK hE (h4.setq (q:=bs1.length) (by omega) fr4 (.cells [y1,y2,y3,nV]));have gb5:aa b5 bs1.length=some [y1,y2,y3,nV]:=aO (q:=q) o5 (by omega) (aG gb4);have fr5:Free p bs1.length b5:=fs4.on (o5.q q) (by simpa using l4);have og5:OldQ p bs1.length b5 (b5.set bs1.length (.cells [y1,y2,y3,y4])):=OldQ.set _ _ (by omega);have hs2:=h5.setq (q:=bs1.length) (by omega) fr5 (.cells [y1,y2,y3,y4]);have q5:OldQ p bs1.length b4 (b5.set bs1.length (.cells [y1,y2,y3,y4])):=og4.trans ((o5.q _).trans og5);have q4:OldQ p bs1.length b3' (b5.set bs1.length (.cells [y1,y2,y3,y4])):=og3.trans ((o4.q _).trans q5);have q3:OldQ p bs1.length b2 (b5.set bs1.length (.cells [y1,y2,y3,y4])):=(o3.q _).trans q4;have oR:OldR p bs1 (b5.set bs1.length (.cells [y1,y2,y3,y4])):=OldQ.new ((OldR.lay bs1 _ hl1).trans o1) (A2.2.2.1.trans q3) (bo _);have g1:=((A2.sl (cells:=fE) (λ_=>rfl) n2 (by omega) l1).on q3).hng (bo _);have g2:=((HG.of (q:=bs1.length) hh3 l2 (by omega)).on q4).hng (bo _);have g3:=((HG.of (q:=bs1.length) hh4 (by simpa using l3) (by simp; omega)).on q5).hng (bo _)
    have g4:=((HG.of (q:=bs1.length) hh5 (by simpa using l4) (by simp; omega)).on og5).hng (bo _);have f2:Step (pSl 6 xg) st ⟨x1.isEmpty,x1⟩ s2:=by
     have:=(StepZ.seq f1 (l:=x1) (s2:=s2) (by simpa using f2)).map λl=>(⟨l.isEmpty,l⟩:Sl Int);exact this
    have gq2:aa (b5.set bs1.length (.cells [y1,y2,y3,y4])) q=some [w1,v,w2]:=aO (q:=q) oR hqp hgv;obtain ⟨v2,b3,F,k1,k2,k3,k4,k5⟩:=hI.app hpl hq hqp hs2 oR (vs:=[y1,y2,y3,y4]) (es:=Target.c ⟨⟨x1.isEmpty,x1⟩,x2,x3,x4⟩) (by
     refine ⟨g1,g2,g3,g4,trivial⟩) rfl (by decide) (by_:=96) (by decide) (Nat.lt_trans (by omega:i<4) (by decide))
    simp only [List.length_set] at k1;have gq3:aa b3 q=some [w1,v,w2]:=bC k2 hgv;have gb3:aa (b5.set bs1.length (.cells [y1,y2,y3,y4])) bs1.length=some [y1,y2,y3,y4]:=aG gb5;have hlt:(i:Int)<N:=by omega
    have hw:=ax (i:=i) (n:=N) (by omega) (by omega);have hst:=Step.map (λx:Sl Int×Sl Term×Sl Term×Sl Term=>(⟨x.1,x.2.1,x.2.2.1,x.2.2.2⟩:Target)) (f2.seq (f3.seq (f4.seq f5)));have hF:∀ lo,∃ lo2,lo2<=lo/\∀ W:EA->Hp->dx,bH [0,2,3,4,5,6,7,13] W (Cd E TDr aV pM (bq [0,2,3,4,5,6,7,13] [(0,.ptr p 0),(2,c2),(3,c3),(4,c4),(5,c5),(6,.ptr q 0),(7,.d (i64 N)),(13,.d (i64 (i:Int)))]) ⟨bs1,lo⟩)=W [(0,.ptr p 0),(2,c2),(3,c3),(4,c4),(5,c5),(6,.ptr q 0),(7,.d (i64 N)),(13,.d (i64 ((i+1:Nat):Int)))] ⟨b3.set q (.cells [w1,v2,w2]),lo2⟩:=by
     intro lo;refine ⟨_,?_,λW=>by
      simp +decide [pM,hlt,e1,az,storeAt,put,Hp.set];rw [ai];simp +decide [e2,e3,e4,e5,az,storeAt,put,sub,Hp.set,gb3',gb4,gb5,gb3,gq2,gq3,n3,n4,n5,k1,k4,hw]; exact rfl⟩
     exact ch (Nat.min_le_left _ _) (ch (k5 _) (ch (Nat.min_le_left _ _) (ch (k2' _) (Nat.min_le_left _ _))))
    exact ⟨⟨⟨x1.isEmpty,x1⟩,x2,x3,x4⟩,b3.set q (.cells [w1,v2,w2]),v2,s5,⟨k3 _,aG gq3⟩,hst,hF⟩)
  (λbs v st ds lo hI W=>by simp [pM])
  (v:=nV) ⟨AccQ.nil hR hf,hg⟩
 simpa using key
end
section
variable {E:Calls'}
theorem Qe (hE:dL E){p q:Nat}{bs:List Blk}{st:Option (List Int)}(hR:RwS p bs st)(hf:Free p q bs)(hqp:q≠p)(hq:q<bs.length){w1 w2 w3 w4:V}(hg:aa bs q=some [w1,w2,w3,w4,nV])(c2:V){N:Nat}(hN:N<=6) :
 ∃ xs v bs' st',∃ F:Nat->Nat,(∀ lo,Cd E TDr aV (.loop [0,2,3,4,5] pQ) [(0,.ptr p 0),(2,c2),(3,.ptr q 0),(4,.d (i64 N)),(5,.d (i64 0))] ⟨bs,lo⟩=some (.exit 0,[(2,c2),(3,.ptr q 0)],⟨bs',F lo⟩)) ∧
  xs.length=N/\(AccQ p q bs 3 2 N bs' v st' (xs.map Rule.c).flatten/\aa bs' q=some [w1,w2,w3,w4,v])/\Step (gX uO N) st xs st'/\∀ lo,F lo<=lo:=by
 have hpl:=hR.lt;have key:=iA (E:=E) (P:=uO) (cells:=Rule.c) (keep:=[0,2,3,4,5]) (body:=pQ) (λi v=>[(0,.ptr p 0),(2,c2),(3,.ptr q 0),(4,.d (i64 N)),(5,.d (i64 (i:Int)))])
  (λi bs' v st' ds=>AccQ p q bs 3 2 i bs' v st' ds/\aa bs' q=some [w1,w2,w3,w4,v]) (λv=>(.exit 0,[(2,c2),(3,.ptr q 0)])) N
  (λi bs1 v st ds hi hI=>by
    obtain ⟨hI,hgv⟩:=hI;have hR1:=hI.1;have hl1:=hR1.lt;have hB:∀ xs:List V,Free p bs1.length (bs1++[.cells xs]):=λxs=>Free.new hR1 _;obtain ⟨n1,s1,b1,e1,f1,m1,h1,o1⟩:=kw hE (hR1.lay [.cells [nV,nV,nV]]) (most:=3) (by decide) (by decide);have l1:bs1.length<b1.length:=by have:=o1.1.1; simp at this; omega
    have gb1:aa b1 bs1.length=some [nV,nV,nV]:=aO (q:=q) o1 (by omega) (by simp);have fr1:Free p bs1.length b1:=(hB _).on (o1.q q) (by simp);obtain ⟨x1,y1,b2,s2,F2,e2,n2,⟨A2,gb2⟩,f2,k2'⟩:=Qa hE h1 fr1 (by omega) l1 gb1 c2 (.ptr q 0) (.d (i64 N)) (.d (i64 (i:Int))) (N:=n1) (by omega);have l2:bs1.length<b2.length:=cf l1 A2.2.2.1.1;obtain ⟨n3,s3,b3',e3,f3,m3,h3,o3⟩:=kw hE A2.1 (most:=3) (by decide) (by decide);have l3:bs1.length<b3'.length:=cf l2 o3.1.1;have gb3':aa b3' bs1.length=some [y1,nV,nV]:=aO (q:=q) o3 (by omega) gb2;obtain ⟨x2,y2,b4,s4,F4,e4,n4,⟨A4,gb4⟩,f4,k4'⟩:=Qc hE h3 (A2.2.2.2.2.on (o3.q q) l2) (by omega) l3 gb3' c2 (.ptr q 0) (.d (i64 N)) (.d (i64 (i:Int))) (N:=n3) (by omega);have l4:bs1.length<b4.length:=cf l3 A4.2.2.1.1;obtain ⟨n5,s5,b5,e5,f5,m5,h5,o5⟩:=kw hE A4.1 (most:=3) (by decide) (by decide);have l5:bs1.length<b5.length:=cf l4 o5.1.1;have gb5:aa b5 bs1.length=some [y1,y2,nV]:=aO (q:=q) o5 (by omega) gb4;obtain ⟨x3,y3,b6,s6,F6,e6,n6,⟨A6,gb6⟩,f6,k6'⟩:=Qd hE h5 (A4.2.2.2.2.on (o5.q q) l4) (by omega) l5 gb5 c2 (.ptr q 0) (.d (i64 N)) (.d (i64 (i:Int))) (N:=n5) (by omega);have q6:OldQ p bs1.length b4 b6:=(o5.q _).trans A6.2.2.1;have q4:OldQ p bs1.length b2 b6:=(o3.q _).trans (A4.2.2.1.trans q6);have oR:OldR p bs1 b6:=OldQ.new ((OldR.lay bs1 _ hl1).trans o1) (A2.2.2.1.trans q4) (bo _)
    have g1:=((A2.sl (cells:=Source.c) (λ_=>rfl) n2 (by omega) l1).on q4).hng (bo _);have g2:=((A4.sl (cells:=Target.c) (λ_=>rfl) n4 (by omega) l3).on q6).hng (bo _);have g3:=(A6.sl (cells:=When.c) (λ_=>rfl) n6 (by omega) l5).hng (bo _);have p2:Step (pSl 3 lC) st ⟨x1.isEmpty,x1⟩ s2:=by
     have:=(StepZ.seq f1 (l:=x1) (s2:=s2) (by simpa using f2)).map λl=>(⟨l.isEmpty,l⟩:Sl Source);exact this
    have p4:Step (pSl 3 lD) s2 ⟨x2.isEmpty,x2⟩ s4:=by
     have:=(StepZ.seq f3 (l:=x2) (s2:=s4) (by simpa using f4)).map λl=>(⟨l.isEmpty,l⟩:Sl Target);exact this
    have p6:Step (pSl 3 uP) s4 ⟨x3.isEmpty,x3⟩ s6:=by
     have:=(StepZ.seq f5 (l:=x3) (s2:=s6) (by simpa using f6)).map λl=>(⟨l.isEmpty,l⟩:Sl When);exact this
    have gq2:aa b6 q=some [w1,w2,w3,w4,v]:=aO (q:=q) oR hqp hgv;obtain ⟨v2,b7,F,k1,k2,k3,k4,k5⟩:=hI.app hpl hq hqp A6.1 oR (vs:=[y1,y2,y3]) (es:=Rule.c ⟨⟨x1.isEmpty,x1⟩,⟨x2.isEmpty,x2⟩,⟨x3.isEmpty,x3⟩⟩) (by
     refine ⟨g1,g2,g3,trivial⟩) rfl (by decide) (by_:=72) (by decide) (Nat.lt_trans (by omega:i<7) (by decide))
    have gq3:aa b7 q=some [w1,w2,w3,w4,v]:=bC k2 hgv;have hlt:(i:Int)<N:=by omega
    have hw:=ax (i:=i) (n:=N) (by omega) (by omega);have hst:=Step.map (λx:Sl Source×Sl Target×Sl When=>(⟨x.1,x.2.1,x.2.2⟩:Rule)) (p2.seq (p4.seq p6));have hF:∀ lo,∃ lo2,lo2<=lo/\∀ W:EA->Hp->dx,bH [0,2,3,4,5] W (Cd E TDr aV pQ (bq [0,2,3,4,5] [(0,.ptr p 0),(2,c2),(3,.ptr q 0),(4,.d (i64 N)),(5,.d (i64 (i:Int)))]) ⟨bs1,lo⟩)=W [(0,.ptr p 0),(2,c2),(3,.ptr q 0),(4,.d (i64 N)),(5,.d (i64 ((i+1:Nat):Int)))] ⟨b7.set q (.cells [w1,w2,w3,w4,v2]),lo2⟩:=by
     intro lo;refine ⟨_,?_,λW=>by
      simp +decide [pQ,hlt,e1,az,storeAt,put,Hp.set];rw [ai];simp +decide [e2,e3];rw [ai];simp +decide [e4,e5];rw [ai];simp +decide [e6,az,storeAt,put,sub,Hp.set,gb6,gq2,gq3,k1,k4,hw]; exact rfl⟩
     exact ch (Nat.min_le_left _ _) (ch (k5 _) (ch (k6' _) (ch (Nat.min_le_left _ _) (ch (k4' _) (ch (Nat.min_le_left _ _) (ch (k2' _) (Nat.min_le_left _ _)))))))
    exact ⟨⟨⟨x1.isEmpty,x1⟩,⟨x2.isEmpty,x2⟩,⟨x3.isEmpty,x3⟩⟩,b7.set q (.cells [w1,w2,w3,w4,v2]),v2,s6,⟨k3 _,aG gq3⟩,hst,hF⟩)
  (λbs v st ds lo hi W=>by simp [pQ])
  (v:=nV) ⟨AccQ.nil hR hf,hg⟩
 simpa using key
end
section
variable {E:Calls'}
theorem VP:TDr 109=some J4:=by kernel_rfl
theorem am3 (hE:dL E){p:Nat}{bs:List Blk}{st:Option (List Int)}(hR:RwS p bs st) :
 ∃ y x st' bs' c,c<=p/\(∀ lo,Sm E TDr aV 109 [.ptr p 0] ⟨bs,lo⟩=some (.agg (plL x.id x.ns x.service x.deny y),⟨bs',min lo c⟩))/\(y.cells=some [y]/\nu y=some y/\okV y=true)/\Hng true (KL bs.length bs') bs' y (Sl.d Rule.c x.rules) 3/\Step Gz st x st'/\RwS p bs' st'/\OldR p bs bs':=by
 have hpl:=hR.lt;have hB:∀ xs ys:List V,Free p (bs.length+1) (bs++[.cells xs,.cells ys]):=λxs ys b hb=>by
  have:=(RdBk.lt hR (hb.same (am hpl))).1;omega
 have hB0:∀ xs ys:List V,Free p bs.length (bs++[.cells xs,.cells ys]):=λxs ys=>Free.new hR _;obtain ⟨x1,s1,b1,e1,f1,g1,h1,o1⟩:=vV hE (hR.lay [.cells (plL 0 ⟨#[]⟩ 0 0 nV),.cells (plL 0 ⟨#[]⟩ 0 0 nV)]);have l1:bs.length+1<b1.length:=by have:=o1.1.1; simp at this; omega
 have gb1:aa b1 (bs.length+1)=some (plL 0 ⟨#[]⟩ 0 0 nV):=aO (q:=0) o1 (by omega) (by
  have:=gK (bs:=bs) (ys:=[.cells (plL 0 ⟨#[]⟩ 0 0 nV),.cells (plL 0 ⟨#[]⟩ 0 0 nV)]) (i:=1);rw [this]; rfl)
 have fr1:Free p (bs.length+1) b1:=(hB _ _).on (o1.q 0) (by simp);have og1:OldQ p (bs.length+1) b1 (b1.set (bs.length+1) (.cells (plL x1 ⟨#[]⟩ 0 0 nV))):=OldQ.set _ _ (by omega);obtain ⟨x2,s2,b2,e2,f2,g2,h2,o2⟩:=CO hE (h1.setq (q:=bs.length+1) (by omega) fr1 (.cells (plL x1 ⟨#[]⟩ 0 0 nV))) (most:=20) (by decide) (by decide);have l2:bs.length+1<b2.length:=by have:=o2.1.1; simp at this; omega
 have gb2:aa b2 (bs.length+1)=some (plL x1 ⟨#[]⟩ 0 0 nV):=aO (q:=0) o2 (by omega) (aG gb1);have fr2:Free p (bs.length+1) b2:=(fr1.on og1 l1).on (o2.q 0) (by simpa using l1);have og2:OldQ p (bs.length+1) b2 (b2.set (bs.length+1) (.cells (plL x1 x2 0 0 nV))):=OldQ.set _ _ (by omega);obtain ⟨x3,s3,b3,e3,f3,g3,h3,o3⟩:=vV hE (h2.setq (q:=bs.length+1) (by omega) fr2 (.cells (plL x1 x2 0 0 nV)));have l3:bs.length+1<b3.length:=by have:=o3.1.1; simp at this; omega
 have gb3:aa b3 (bs.length+1)=some (plL x1 x2 0 0 nV):=aO (q:=0) o3 (by omega) (aG gb2);have fr3:Free p (bs.length+1) b3:=(fr2.on og2 l2).on (o3.q 0) (by simpa using l2);have og3:OldQ p (bs.length+1) b3 (b3.set (bs.length+1) (.cells (plL x1 x2 x3 0 nV))):=OldQ.set _ _ (by omega);obtain ⟨n4,s4,b4,e4,f4,m4,h4,o4⟩:=kw hE (h3.setq (q:=bs.length+1) (by omega) fr3 (.cells (plL x1 x2 x3 0 nV))) (most:=1) (by decide) (by decide);have l4:bs.length+1<b4.length:=by have:=o4.1.1; simp at this; omega
 have gb4:aa b4 (bs.length+1)=some (plL x1 x2 x3 0 nV):=aO (q:=0) o4 (by omega) (aG gb3);have fr4:Free p (bs.length+1) b4:=(fr3.on og3 l3).on (o4.q 0) (by simpa using l3);have og4:OldQ p (bs.length+1) b4 (b4.set (bs.length+1) (.cells (plL x1 x2 x3 n4 nV))):=OldQ.set _ _ (by omega);obtain ⟨n5,s5,b5,e5,f5,m5,h5,o5⟩:=kw hE (h4.setq (q:=bs.length+1) (by omega) fr4 (.cells (plL x1 x2 x3 n4 nV))) (most:=6) (by decide) (by decide);have l5:bs.length+1<b5.length:=by have:=o5.1.1; simp at this; omega
 have gb5:aa b5 (bs.length+1)=some (plL x1 x2 x3 n4 nV):=aO (q:=0) o5 (by omega) (aG gb4);have fr5:Free p (bs.length+1) b5:=(fr4.on og4 l4).on (o5.q 0) (by simpa using l4);obtain ⟨xs,y,b6,s6,F6,e6,n6,⟨A6,gb6⟩,f6,k6⟩:=Qe hE h5 fr5 (by omega) l5 gb5 (.ptr bs.length 0) (N:=n5) (by omega);have q1:OldQ p (bs.length+1) b1 b6:=og1.trans ((o2.q _).trans (og2.trans ((o3.q _).trans (og3.trans ((o4.q _).trans (og4.trans ((o5.q _).trans A6.2.2.1)))))));have oR:OldR p bs b6:=OldQ.new ((OldR.lay bs _ hpl).trans o1) q1 (by omega);have g0:aa b1 bs.length=some (plL 0 ⟨#[]⟩ 0 0 nV):=aO (q:=0) o1 (by omega) (by simp);have g6:aa b6 bs.length=some (plL 0 ⟨#[]⟩ 0 0 nV):=bC (q1.2.1 _ (by omega) (by omega) (by omega)) g0;have fr6:Free p bs.length b6:=((hB0 _ _).on (o1.q 0) (by simp)).on q1 (by omega);have hh:=((A6.sl (cells:=Rule.c) (λ_=>rfl) n6 (by omega) l5));have hp6:Step (pSl 6 uO) s4 ⟨xs.isEmpty,xs⟩ s6:=by
  have:=(StepZ.seq f5 (l:=xs) (s2:=s6) (by simpa using f6)).map λl=>(⟨l.isEmpty,l⟩:Sl Rule);exact this
 have hst:=Step.map (λx:Int×ByteArray×Int×Int×Sl Rule=>(⟨x.1,x.2.1,x.2.2.1,x.2.2.2.1,x.2.2.2.2⟩:Pol)) (f1.seq (f2.seq (f3.seq (f4.1.seq hp6))));have hnu:=A6.2.1.nu;have hok:=A6.2.1.cells;have g7:aa (b6.set bs.length (.cells (plL x1 x2 x3 n4 y))) bs.length=some (plL x1 x2 x3 n4 y):=aG g6;have hBd:∃ c,c<=p/\Bd E TDr aV J4 [.ptr p 0] ⟨bs,bs.length⟩=some (.agg (plL x1 x2 x3 n4 y),⟨b6.set bs.length (.cells (plL x1 x2 x3 n4 y)),c⟩):=by
  refine ⟨_,?_,by
   simp +decide [ae,J4,e1,e2,e3,e4,e5,az,storeAt,put,Hp.set,gb1,gb2,gb3,gb4];rw [ai];simp +decide [e6,storeAt,put,sub,Hp.set,gb6,g6,g7]; exact rfl⟩
  have:=k6 (min bs.length (min p (bs.length+1)));omega
 obtain ⟨c,hc,hBd⟩:=hBd;refine ⟨y,⟨x1,x2,x3,n4,⟨xs.isEmpty,xs⟩⟩,s6,b6.set bs.length (.cells (plL x1 x2 x3 n4 y)),c,hc,λlo=>?_,⟨hok.1,hnu,hok.2⟩,?_,hst,A6.1.setq (by omega) fr6 _,OldQ.new (q:=bs.length) oR (OldQ.set _ _ (by omega)) (bo _)⟩
 . rw [aM VP rfl];show fC ⟨bs,lo⟩ (Bd E TDr aV J4 [.ptr p 0] ⟨bs,bs.length⟩)=_;rw [hBd,eu,if_neg (λh=>by have:=h.1; simp only at this; omega)]
 . exact (hh.hng (bo _)).on (λx hx=>by rw [ac (by have:=hx.1; omega)]) λx hx=>⟨by have:=hx.1; omega,by have:=hx.2; simpa using this⟩
end
