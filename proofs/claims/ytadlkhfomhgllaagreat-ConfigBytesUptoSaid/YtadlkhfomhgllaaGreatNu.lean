/- The document's reader: Read (a policy as bytes). -/
import Derived.Test.YtadlkhfomhgllaaGreatNl
set_option maxHeartbeats 4000000
set_option maxRecDepth 100000
set_option linter.unusedVariables false
set_option linter.unusedSimpArgs false
namespace Go.Proofs.YtadlkhfomhgllaaGreat
open IntKind (wrap)
section
variable {E:Calls'}
theorem ar4:TDr 57=some DC:=by kernel_rfl
theorem VQ:TDr 110=none:=by kernel_rfl
theorem aa1 (hE:dL E)(h110:∀ p:Pol,p.wf big->∀ (h:Hp) (v:V),frz h v=some (ag p.c)->E 110 [v] h=some (bl (bz p),h)){nl:Bool}{l:List Int}(hb:byteL l)(hl:l.length<=big) :
 match lh l with
 | some p=>∃ cs h' K,Bd E TDr aV DC [.d (Sl.d u8C ⟨nl,l⟩)] ⟨[],0⟩=some (.tup [.agg cs,.d (i64 0)],h')/\Hngs true K h'.bs 4 cs p.c
 | none=>∃ h',Bd E TDr aV DC [.d (Sl.d u8C ⟨nl,l⟩)] ⟨[],0⟩=some (.tup [.agg (plL 0 ⟨#[]⟩ 0 0 nV),.d (i64 2)],h'):=by
 have hW:Byts [.cells (plL 0 ⟨#[]⟩ 0 0 nV)] (.d (Sl.d u8C ⟨nl,l⟩)) l:=.inl ⟨nl,rfl⟩;obtain ⟨v,M,a1,a2,a3,a4,a5,a6,a7,a8⟩:=hW.cpy hl;simp only [cj,ck,Nat.zero_add,List.cons_append,List.nil_append] at a1 a2 a3 a5;have hp0:0<M.length:=by omega
 have g0:aa M 0=some (plL 0 ⟨#[]⟩ 0 0 nV):=bC (a3 0 (by omega)) rfl;have hR:RwS M.length (M++[.cells [v,.d (.bool false)]]) (some l):=⟨v,l,by simp [bl],a4.lay _,hb,hl,λb hb'=>by (cases hb'; rfl),λb o n cap z hh=>by
  obtain ⟨nl,h⟩ | ⟨b',o',cap',cs,h,h2,_⟩:=a4
  . rw [h] at hh; cases hh
  . rw [h] at hh; cases hh; exact Nat.ne_of_lt (aN h2)⟩
 obtain ⟨y,x,st,b3,c,hc,e,hy,hg,hS,r,ho⟩:=am3 hE hR;obtain ⟨x1,x2,x3,x4,x5⟩:=x;have l3:M.length<b3.length:=by have:=ho.1.1; simp at this; omega
 obtain ⟨b4,e4,o4⟩:=Vi (E:=E) (r.lay [.cells (plL x1 x2 x3 x4 y)]);have g3:aa b4 b3.length=some (plL x1 x2 x3 x4 y):=bC (o4.2 _ (by omega) (by simp)) (by simp);have gR:aa b4 0=some (plL 0 ⟨#[]⟩ 0 0 nV):=bC (o4.2 0 (by omega) (by simp)) (ay (bC (ho.1.2 0 (by omega) (by simp)) (ay g0)));have hcs:Hngs true (KL (M.length+1) b3) b4 4 (plL x1 x2 x3 x4 y) (Pol.c ⟨x1,x2,x3,x4,x5⟩):=by
  have hg4:Hng true (KL (M.length+1) b3) b4 y (Sl.d Rule.c x5) 3:=by
   have:=hg.on (K':=KL (M.length+1) b3) (bs':=b4) (λx hx=>by
    have h1:=hx.1;simp at h1;rw [o4.2 x (by omega) (by have:=hx.2; simp; omega),am hx.2]) λx hx=>⟨by have:=hx.1; simpa using this,hx.2⟩
   exact this
  exact ⟨Hng.d (by simp),Hng.d (by simp),Hng.d (by simp),Hng.d (by simp),hg4.up (by omega),trivial⟩
 have hfrz:∀ lo,frz ⟨b4,lo⟩ (.agg (plL x1 x2 x3 x4 y))=some (ag (Pol.c ⟨x1,x2,x3,x4,x5⟩)):=λlo=>by
  have:=(Hngs.mapM (lo:=lo) (λ_ _=>rfl) (show 4<=8 by decide) hcs).1;simp only [frz,dh,cK,this]; rfl
 have p4:0<b4.length:=aN gR;by_cases he:st=some []
 . have he':decide (st≠some [])=false:=by simp [he]
   rw [he'] at e4;have hpp:Gz l=some (⟨x1,x2,x3,x4,x5⟩,[]):=by
    obtain ⟨l',h1,h2⟩ | ⟨h1,h2⟩:=hS.of
    . rw [he] at h2;cases h2;exact h1
    . rw [he] at h2; cases h2
   have hok:=(pol_cod.bwd l _ _ hb hpp).2;have hw:=polOk.wf (B:=big) (by decide) hok;have k110:∀ lo,Sm E TDr aV 110 [.agg (plL x1 x2 x3 x4 y)] ⟨b4,lo⟩=some (bl (bz ⟨x1,x2,x3,x4,x5⟩),⟨b4,lo⟩):=λlo=>(fA VQ).trans (h110 _ hw ⟨b4,lo⟩ _ (hfrz lo));have hd:lh l=if bz ⟨x1,x2,x3,x4,x5⟩=true then some ⟨x1,x2,x3,x4,x5⟩ else none:=by simp only [lh,hpp]
   rw [hd];cases hm:bz ⟨x1,x2,x3,x4,x5⟩ with
   | true =>
    simp only [hm] at k110;simp only [if_true];refine ⟨(plL x1 x2 x3 x4 y),⟨b4.set 0 (.cells (plL x1 x2 x3 x4 y)),0⟩,KL (M.length+1) b3,?_,hcs.on (λx hx=>by have h1:=hx.1; rw [ac (by omega)]) λ_ h=>h⟩;simp +decide [ae,DC,a1,e,az,storeAt,put,sub,Hp.set,g3,gR,ak,a6,au,p4,dB,e4,k110]
   | false =>
    simp only [hm] at k110;simp only [bk,if_false];exact ⟨_,by simp +decide [ae,DC,a1,e,az,storeAt,put,sub,Hp.set,g3,gR,ak,a6,au,p4,dB,e4,k110]; exact rfl⟩
 . have he':decide (st≠some [])=true:=by simp [he]
   rw [he'] at e4;have hd:lh l=none:=by
    unfold lh;obtain ⟨l',h1,h2⟩ | ⟨h1,h2⟩:=hS.of
    . rw [h1];cases l' with
      | nil=>exact absurd h2 he
      | cons _ _=>rfl
    . rw [h1]
   rw [hd];exact ⟨_,by simp +decide [ae,DC,a1,e,az,storeAt,put,sub,Hp.set,gR,ak,a6,au,p4,dB,e4]; exact rfl⟩
theorem ai7 (hE:dL E)(h110:∀ p:Pol,p.wf big->∀ (h:Hp) (v:V),frz h v=some (ag p.c)->E 110 [v] h=some (bl (bz p),h)){nl:Bool}{l:List Int}(hb:byteL l)(hl:l.length<=big){v:V}{h:Hp}(hv:frz h v=some (.d (Sl.d u8C ⟨nl,l⟩))) :
 Sm E TDr aV 57 [v] h=some (match lh l with | some p=>.tup [ag p.c,.d (i64 0)] | none=>.tup [ag (Pol.c ⟨0,⟨#[]⟩,0,0,⟨true,[]⟩⟩),.d (i64 2)],h):=by
 have k:=aa1 hE h110 (nl:=nl) hb hl;rw [aY ar4 (show aV 57=true by kernel_rfl)];cases hd:lh l with
 | some p =>
  rw [hd] at k;obtain ⟨cs,h',K,k1,k2⟩:=k;have k3:=Hngs.mapM (bs':=h'.bs) (lo:=h'.low) (λ_ _=>rfl) (show 4<=8 by decide) k2;have hz:frz h' (.tup [.agg cs,.d (i64 0)])=some (.tup [ag p.c,.d (i64 0)]):=by
   simp only [frz,List.mapM_cons,List.mapM_nil,dh,cK,k3.1,ky]; rfl
  have ho:ownR h' (.tup [.agg cs,.d (i64 0)])=true:=by
   simp only [ownR,List.all_cons,List.all_nil,rV,k3.2 rfl]; rfl
  simp [hv,k1,hz,ho]
 | none =>
  rw [hd] at k;obtain ⟨h',k1⟩:=k;have hz:frz h' (.tup [.agg [.d (u64 0),.d (.str ⟨#[]⟩),.d (u64 0),.d (i64 0),.d (.slice true [])],.d (i64 2)])=some (.tup [ag (Pol.c ⟨0,⟨#[]⟩,0,0,⟨true,[]⟩⟩),.d (i64 2)]):=by
   have:dh h' (.agg [.d (u64 0),.d (.str ⟨#[]⟩),.d (u64 0),.d (i64 0),.d (.slice true [])])=some (ag (Pol.c ⟨0,⟨#[]⟩,0,0,⟨true,[]⟩⟩)):=by
    have:=fM h' 8 (Pol.c ⟨0,⟨#[]⟩,0,0,⟨true,[]⟩⟩);simp only [dh,cK];rw [show [V.d (u64 0),V.d (.str ⟨#[]⟩),V.d (u64 0),V.d (i64 0),V.d (.slice true [])]=(Pol.c ⟨0,⟨#[]⟩,0,0,⟨true,[]⟩⟩).map V.d from rfl,this];rfl
   simp only [frz,List.mapM_cons,List.mapM_nil,dh,ky]; rfl
  have ho:ownR h' (.tup [.agg [.d (u64 0),.d (.str ⟨#[]⟩),.d (u64 0),.d (i64 0),.d (.slice true [])],.d (i64 2)])=true:=rfl;simp [hv,k1,hz,ho]
end
section
variable {E:Calls'}
theorem sS {i n:Nat}(h:i<n)(hn:n<2 ^ 62):wrap .u64 ((i:Int)+1)=(i:Int)+1:=by rw [wrap_u64]; omega
theorem jT (hE:dL E){p:Nat}{bs:List Blk}{st:Option (List Int)}(hR:RwS p bs st){most:Int}(h0:0<=most) :
 ∃ (n:Nat) (st':Option (List Int)) (bs':List Blk),(∀ lo,Sm E TDr aV 55 [.ptr p 0,.d (u64 most)] ⟨bs,lo⟩=some (.d (u64 n),⟨bs',min lo p⟩))/\StepZ (bT most) st n st'/\(n:Int)<=most/\RwS p bs' st'/\OldR p bs bs':=by
 obtain ⟨x,st',bs',k1,k2,k3,k4,k5⟩:=ai6 hE hR h0;have hx:0<=x/\x<=most:=by
  obtain ⟨v,l,g1,g2,g3,g4,g5,g6⟩:=hR;cases st with
  | none=>have:st'=none:=k2; rw [k3 this]; exact ⟨Int.le_refl _,h0⟩
  | some b =>
   obtain rfl:=g5 b rfl;obtain ⟨m,h1,_⟩ | ⟨_,h1⟩:=Step.of k2
   . simp only [bT,Pr.keep] at h1;cases hp:pUint b with
     | none=>rw [hp] at h1; cases h1
     | some r =>
      obtain ⟨y,l'⟩:=r;rw [hp] at h1;simp only at h1;split at h1
      . rename_i hh;simp only [br] at hh;cases h1;exact ⟨(uint_cod.bwd b x m g3 hp).2.1,hh⟩
      . cases h1
   . rw [k3 h1]; exact ⟨Int.le_refl _,h0⟩
 obtain ⟨N,rfl⟩:=Int.eq_ofNat_of_zero_le hx.1;exact ⟨N,st',bs',k1,⟨k2,k3⟩,hx.2,k4,k5⟩
theorem UR (hE:dL E){p q:Nat}{bs:List Blk}{st:Option (List Int)}(hR:RwS p bs st)(hf:Free p q bs)(hqp:q≠p)(hq:q<bs.length){w1 w2 w3 w4 w5 w6 w8:V}(hg:aa bs q=some [w1,w2,w3,w4,w5,w6,nV,w8])(c0 c2:V){N:Nat}(hN:N<=4) :
 ∃ xs v bs' st',∃ F:Nat->Nat,(∀ lo,Cd E TDr aV (.loop [0,2,4,5,6,11] um) [(0,c0),(2,c2),(4,.ptr p 0),(5,.ptr q 0),(6,.d (u64 N)),(11,.d (u64 0))] ⟨bs,lo⟩=some (.exit 4,[(0,c0),(2,c2),(4,.ptr p 0),(5,.ptr q 0)],⟨bs',F lo⟩)) ∧
  xs.length=N/\(AccQ p q bs 2 0 N bs' v st' (xs.map Way.c).flatten/\aa bs' q=some [w1,w2,w3,w4,w5,w6,v,w8])/\Step (gX BP N) st xs st'/\∀ lo,F lo<=lo:=by
 have hpl:=hR.lt;have key:=iA (E:=E) (P:=BP) (cells:=Way.c) (keep:=[0,2,4,5,6,11]) (body:=um) (λi v=>[(0,c0),(2,c2),(4,.ptr p 0),(5,.ptr q 0),(6,.d (u64 N)),(11,.d (u64 (i:Int)))])
  (λi bs' v st' ds=>AccQ p q bs 2 0 i bs' v st' ds/\aa bs' q=some [w1,w2,w3,w4,w5,w6,v,w8]) (λv=>(.exit 4,[(0,c0),(2,c2),(4,.ptr p 0),(5,.ptr q 0)])) N
  (λi bs1 v st ds hi hI=>by
    obtain ⟨hI,hgv⟩:=hI;have hR1:=hI.1;have hl1:=hR1.lt;have hB:∀ xs:List V,Free p bs1.length (bs1++[.cells xs]):=λxs=>Free.new hR1 _;obtain ⟨x1,s1,b1,e1,f1,g1,h1,o1⟩:=vV hE (hR1.lay [.cells [.d (u64 0),.d (i64 0)]]);have gb1:aa b1 bs1.length=some [.d (u64 0),.d (i64 0)]:=aO (q:=q) o1 (by omega) (by simp);have fr1:Free p bs1.length b1:=(hB _).on (o1.q q) (by simp);have hs1:=h1.setq (q:=bs1.length) (by omega) fr1 (.cells [.d (u64 x1),.d (i64 0)]);have fs1:=fr1.on (OldQ.set (q:=bs1.length) b1 (.cells [.d (u64 x1),.d (i64 0)]) (by omega)) (by have:=o1.1.1; simp at this; omega);obtain ⟨x2,s2,b2,e2,f2,m2,h2,o2⟩:=jT hE hs1 (most:=9) (by decide);have gb2:aa b2 bs1.length=some [.d (u64 x1),.d (i64 0)]:=aO (q:=q) o2 (by omega) (aG gb1);have fr2:Free p bs1.length b2:=fs1.on (o2.q q) (by have:=o1.1.1; simp at this ⊢; omega);have hs2:=h2.setq (q:=bs1.length) (by omega) fr2 (.cells [.d (u64 x1),.d (i64 x2)]);have oq:OldQ p bs1.length b1 (b2.set bs1.length (.cells [.d (u64 x1),.d (i64 x2)])):=(OldQ.set _ _ (by omega)).trans ((o2.q _).trans (OldQ.set _ _ (by omega)));have oR:OldR p bs1 (b2.set bs1.length (.cells [.d (u64 x1),.d (i64 x2)])):=OldQ.new ((OldR.lay bs1 _ hl1).trans o1) oq (bo _);have hw2:wrap .i64 x2=x2:=wrap64 (by omega) (by omega);have gq2:aa (b2.set bs1.length (.cells [.d (u64 x1),.d (i64 x2)])) q=some [w1,w2,w3,w4,w5,w6,v,w8]:=aO (q:=q) oR hqp hgv
    obtain ⟨v2,b3,F,k1,k2,k3,k4,k5⟩:=hI.app hpl hq hqp hs2 oR (vs:=[.d (u64 x1),.d (i64 x2)]) (es:=Way.c ⟨x1,x2⟩) (by
     refine ⟨Hng.d (by simp),Hng.d (by simp),trivial⟩) rfl (by decide) (by_:=16) (by decide) (Nat.lt_trans (by omega:i<7) (by decide))
    simp only [List.length_set] at k1;have gq3:aa b3 q=some [w1,w2,w3,w4,w5,w6,v,w8]:=bC k2 hgv;have gb3:aa (b2.set bs1.length (.cells [.d (u64 x1),.d (i64 x2)])) bs1.length=some [.d (u64 x1),.d (i64 x2)]:=aG gb2;have hlt:(i:Int)<N:=by omega
    have hw:=sS (i:=i) (n:=N) (by omega) (by omega);have hst:=Step.map (λx:Int×Int=>(⟨x.1,x.2⟩:Way)) (f1.seq f2.1);have hF:∀ lo,∃ lo2,lo2<=lo/\∀ W:EA->Hp->dx,bH [0,2,4,5,6,11] W (Cd E TDr aV um (bq [0,2,4,5,6,11] [(0,c0),(2,c2),(4,.ptr p 0),(5,.ptr q 0),(6,.d (u64 N)),(11,.d (u64 (i:Int)))]) ⟨bs1,lo⟩)=W [(0,c0),(2,c2),(4,.ptr p 0),(5,.ptr q 0),(6,.d (u64 N)),(11,.d (u64 ((i+1:Nat):Int)))] ⟨b3.set q (.cells [w1,w2,w3,w4,w5,w6,v2,w8]),lo2⟩:=by
     intro lo;refine ⟨_,?_,λW=>by
      simp +decide [um,hlt,e1,e2,hw2,az,storeAt,put,sub,Hp.set,gb1,gb2,gb3,gq2,gq3,k1,k4,hw]; exact rfl⟩
     exact ch (Nat.min_le_left _ _) (ch (k5 _) (Nat.min_le_left _ _))
    exact ⟨⟨x1,x2⟩,b3.set q (.cells [w1,w2,w3,w4,w5,w6,v2,w8]),v2,s2,⟨k3 _,aG gq3⟩,hst,hF⟩)
  (λbs v st ds lo hI W=>by simp [um])
  (v:=nV) ⟨AccQ.nil hR hf,hg⟩
 simpa using key
end
section
variable {E:Calls'}
theorem UQ (hE:dL E){p q:Nat}{bs:List Blk}{st:Option (List Int)}(hR:RwS p bs st)(hf:Free p q bs)(hqp:q≠p)(hq:q<bs.length){w1 w2 w3 w4 w5 w7 w8:V}(hg:aa bs q=some [w1,w2,w3,w4,w5,nV,w7,w8])(c0 c2:V){N:Nat}(hN:N<=6) :
 ∃ xs v bs' st',∃ F:Nat->Nat,(∀ lo,Cd E TDr aV (.loop [0,2,4,5,6,9] ul) [(0,c0),(2,c2),(4,.ptr p 0),(5,.ptr q 0),(6,.d (u64 N)),(9,.d (u64 0))] ⟨bs,lo⟩=some (.exit 2,[(0,c0),(2,c2),(4,.ptr p 0),(5,.ptr q 0)],⟨bs',F lo⟩)) ∧
  xs.length=N/\(AccQ p q bs 5 0 N bs' v st' (xs.map Svc.c).flatten/\aa bs' q=some [w1,w2,w3,w4,w5,v,w7,w8])/\Step (gX BO N) st xs st'/\∀ lo,F lo<=lo:=by
 have hpl:=hR.lt;have key:=iA (E:=E) (P:=BO) (cells:=Svc.c) (keep:=[0,2,4,5,6,9]) (body:=ul) (λi v=>[(0,c0),(2,c2),(4,.ptr p 0),(5,.ptr q 0),(6,.d (u64 N)),(9,.d (u64 (i:Int)))])
  (λi bs' v st' ds=>AccQ p q bs 5 0 i bs' v st' ds/\aa bs' q=some [w1,w2,w3,w4,w5,v,w7,w8]) (λv=>(.exit 2,[(0,c0),(2,c2),(4,.ptr p 0),(5,.ptr q 0)])) N
  (λi bs1 v st ds hi hI=>by
    obtain ⟨hI,hgv⟩:=hI;have hR1:=hI.1;have hl1:=hR1.lt;have hB:∀ xs:List V,Free p bs1.length (bs1++[.cells xs]):=λxs=>Free.new hR1 _;obtain ⟨x1,s1,b1,e1,f1,g1,h1,o1⟩:=vV hE (hR1.lay [.cells (svL 0 ⟨#[]⟩ 0 0 0)]);have l1:bs1.length<b1.length:=by have:=o1.1.1; simp at this; omega
    have gb1:aa b1 bs1.length=some (svL 0 ⟨#[]⟩ 0 0 0):=aO (q:=q) o1 (by omega) (by simp);have fr1:Free p bs1.length b1:=(hB _).on (o1.q q) (by simp);have og1:OldQ p bs1.length b1 (b1.set bs1.length (.cells (svL x1 ⟨#[]⟩ 0 0 0))):=OldQ.set _ _ (by omega);obtain ⟨x2,s2,b2,e2,f2,g2,h2,o2⟩:=CO hE (h1.setq (q:=bs1.length) (by omega) fr1 (.cells (svL x1 ⟨#[]⟩ 0 0 0))) (most:=20) (by decide) (by decide);have l2:bs1.length<b2.length:=by have:=o2.1.1; simp at this; omega
    have gb2:aa b2 bs1.length=some (svL x1 ⟨#[]⟩ 0 0 0):=aO (q:=q) o2 (by omega) (aG gb1);have fr2:Free p bs1.length b2:=(fr1.on og1 l1).on (o2.q q) (by simpa using l1);have og2:OldQ p bs1.length b2 (b2.set bs1.length (.cells (svL x1 x2 0 0 0))):=OldQ.set _ _ (by omega);obtain ⟨x3,s3,b3,e3,f3,m3,h3,o3⟩:=jT hE (h2.setq (q:=bs1.length) (by omega) fr2 (.cells (svL x1 x2 0 0 0))) (most:=4294967295) (by decide);have hw3:wrap .u32 (x3:Int)=x3:=Aj (by omega);have l3:bs1.length<b3.length:=by have:=o3.1.1; simp at this; omega
    have gb3:aa b3 bs1.length=some (svL x1 x2 0 0 0):=aO (q:=q) o3 (by omega) (aG gb2);have fr3:Free p bs1.length b3:=(fr2.on og2 l2).on (o3.q q) (by simpa using l2);have og3:OldQ p bs1.length b3 (b3.set bs1.length (.cells (svL x1 x2 x3 0 0))):=OldQ.set _ _ (by omega);obtain ⟨x4,s4,b4,e4,f4,m4,h4,o4⟩:=jT hE (h3.setq (q:=bs1.length) (by omega) fr3 (.cells (svL x1 x2 x3 0 0))) (most:=65535) (by decide);have hw4:wrap .i64 (x4:Int)=x4:=wrap64 (by omega) (by omega);have l4:bs1.length<b4.length:=by have:=o4.1.1; simp at this; omega
    have gb4:aa b4 bs1.length=some (svL x1 x2 x3 0 0):=aO (q:=q) o4 (by omega) (aG gb3);have fr4:Free p bs1.length b4:=(fr3.on og3 l3).on (o4.q q) (by simpa using l3);have og4:OldQ p bs1.length b4 (b4.set bs1.length (.cells (svL x1 x2 x3 x4 0))):=OldQ.set _ _ (by omega);obtain ⟨x5,s5,b5,e5,f5,g5,h5,o5⟩:=vV hE (h4.setq (q:=bs1.length) (by omega) fr4 (.cells (svL x1 x2 x3 x4 0)));have gb5:aa b5 bs1.length=some (svL x1 x2 x3 x4 0):=aO (q:=q) o5 (by omega) (aG gb4);have fr5:Free p bs1.length b5:=(fr4.on og4 l4).on (o5.q q) (by simpa using l4);have og5:OldQ p bs1.length b5 (b5.set bs1.length (.cells (svL x1 x2 x3 x4 x5))):=OldQ.set _ _ (by omega);have hs2:=(h5.setq (q:=bs1.length) (by omega) fr5 (.cells (svL x1 x2 x3 x4 x5)));have oq:OldQ p bs1.length b1 (b5.set bs1.length (.cells (svL x1 x2 x3 x4 x5))):=og1.trans ((o2.q _).trans (og2.trans ((o3.q _).trans (og3.trans ((o4.q _).trans (og4.trans ((o5.q _).trans (og5))))))));have oR:OldR p bs1 (b5.set bs1.length (.cells (svL x1 x2 x3 x4 x5))):=OldQ.new ((OldR.lay bs1 _ hl1).trans o1) oq (bo _);have gq2:aa (b5.set bs1.length (.cells (svL x1 x2 x3 x4 x5))) q=some [w1,w2,w3,w4,w5,v,w7,w8]:=aO (q:=q) oR hqp hgv;obtain ⟨v2,bZ,F,k1,k2,k3,k4,k5⟩:=hI.app hpl hq hqp hs2 oR (vs:=(svL x1 x2 x3 x4 x5)) (es:=Svc.c ⟨x1,x2,x3,x4,x5⟩) (by
     refine ⟨Hng.d (by simp),Hng.d (by simp),Hng.d (by simp),Hng.d (by simp),Hng.d (by simp),trivial⟩) rfl (by decide) (by_:=48) (by decide) (Nat.lt_trans (by omega:i<17) (by decide))
    simp only [List.length_set] at k1;have gq3:aa bZ q=some [w1,w2,w3,w4,w5,v,w7,w8]:=bC k2 hgv;have gbL:aa (b5.set bs1.length (.cells (svL x1 x2 x3 x4 x5))) bs1.length=some (svL x1 x2 x3 x4 x5):=aG gb5;have hlt:(i:Int)<N:=by omega
    have hw:=sS (i:=i) (n:=N) (by omega) (by omega);have hst:=Step.map (λx:Int×ByteArray×Int×Int×Int=>(⟨x.1,x.2.1,x.2.2.1,x.2.2.2.1,x.2.2.2.2⟩:Svc)) (f1.seq (f2.seq (f3.1.seq (f4.1.seq (f5)))));have hF:∀ lo,∃ lo2,lo2<=lo/\∀ W:EA->Hp->dx,bH [0,2,4,5,6,9] W (Cd E TDr aV ul (bq [0,2,4,5,6,9] [(0,c0),(2,c2),(4,.ptr p 0),(5,.ptr q 0),(6,.d (u64 N)),(9,.d (u64 (i:Int)))]) ⟨bs1,lo⟩)=W [(0,c0),(2,c2),(4,.ptr p 0),(5,.ptr q 0),(6,.d (u64 N)),(9,.d (u64 ((i+1:Nat):Int)))] ⟨bZ.set q (.cells [w1,w2,w3,w4,w5,v2,w7,w8]),lo2⟩:=by
     intro lo;refine ⟨_,?_,λW=>by
      simp +decide [ul,hlt,e1,e2,e3,e4,e5,hw3,hw4,az,storeAt,put,sub,Hp.set,gb1,gb2,gb3,gb4,gb5,gbL,gq2,gq3,k1,k4,hw]; exact rfl⟩
     exact ch (Nat.min_le_left _ _) (ch (k5 _) (Nat.min_le_left _ _))
    exact ⟨⟨x1,x2,x3,x4,x5⟩,bZ.set q (.cells [w1,w2,w3,w4,w5,v2,w7,w8]),v2,s5,⟨k3 _,aG gq3⟩,hst,hF⟩)
  (λbs v st ds lo hI W=>by simp [ul])
  (v:=nV) ⟨AccQ.nil hR hf,hg⟩
 simpa using key
theorem UO (hE:dL E){p q:Nat}{bs:List Blk}{st:Option (List Int)}(hR:RwS p bs st)(hf:Free p q bs)(hqp:q≠p)(hq:q<bs.length){w1 w2 w3 w4 w6 w7 w8:V}(hg:aa bs q=some [w1,w2,w3,w4,nV,w6,w7,w8])(c0 c2:V){N:Nat}(hN:N<=16) :
 ∃ xs v bs' st',∃ F:Nat->Nat,(∀ lo,Cd E TDr aV (.loop [0,2,4,5,6,7] uk) [(0,c0),(2,c2),(4,.ptr p 0),(5,.ptr q 0),(6,.d (u64 N)),(7,.d (u64 0))] ⟨bs,lo⟩=some (.exit 0,[(0,c0),(2,c2),(4,.ptr p 0),(5,.ptr q 0)],⟨bs',F lo⟩)) ∧
  xs.length=N/\(AccQ p q bs 7 0 N bs' v st' (xs.map Pod.c).flatten/\aa bs' q=some [w1,w2,w3,w4,v,w6,w7,w8])/\Step (gX BN N) st xs st'/\∀ lo,F lo<=lo:=by
 have hpl:=hR.lt;have key:=iA (E:=E) (P:=BN) (cells:=Pod.c) (keep:=[0,2,4,5,6,7]) (body:=uk) (λi v=>[(0,c0),(2,c2),(4,.ptr p 0),(5,.ptr q 0),(6,.d (u64 N)),(7,.d (u64 (i:Int)))])
  (λi bs' v st' ds=>AccQ p q bs 7 0 i bs' v st' ds/\aa bs' q=some [w1,w2,w3,w4,v,w6,w7,w8]) (λv=>(.exit 0,[(0,c0),(2,c2),(4,.ptr p 0),(5,.ptr q 0)])) N
  (λi bs1 v st ds hi hI=>by
    obtain ⟨hI,hgv⟩:=hI;have hR1:=hI.1;have hl1:=hR1.lt;have hB:∀ xs:List V,Free p bs1.length (bs1++[.cells xs]):=λxs=>Free.new hR1 _;obtain ⟨x1,s1,b1,e1,f1,g1,h1,o1⟩:=vV hE (hR1.lay [.cells (pdL 0 ⟨#[]⟩ ⟨#[]⟩ 0 0 0 0)]);have l1:bs1.length<b1.length:=by have:=o1.1.1; simp at this; omega
    have gb1:aa b1 bs1.length=some (pdL 0 ⟨#[]⟩ ⟨#[]⟩ 0 0 0 0):=aO (q:=q) o1 (by omega) (by simp);have fr1:Free p bs1.length b1:=(hB _).on (o1.q q) (by simp);have og1:OldQ p bs1.length b1 (b1.set bs1.length (.cells (pdL x1 ⟨#[]⟩ ⟨#[]⟩ 0 0 0 0))):=OldQ.set _ _ (by omega);obtain ⟨x2,s2,b2,e2,f2,g2,h2,o2⟩:=CO hE (h1.setq (q:=bs1.length) (by omega) fr1 (.cells (pdL x1 ⟨#[]⟩ ⟨#[]⟩ 0 0 0 0))) (most:=20) (by decide) (by decide);have l2:bs1.length<b2.length:=by have:=o2.1.1; simp at this; omega
    have gb2:aa b2 bs1.length=some (pdL x1 ⟨#[]⟩ ⟨#[]⟩ 0 0 0 0):=aO (q:=q) o2 (by omega) (aG gb1);have fr2:Free p bs1.length b2:=(fr1.on og1 l1).on (o2.q q) (by simpa using l1);have og2:OldQ p bs1.length b2 (b2.set bs1.length (.cells (pdL x1 x2 ⟨#[]⟩ 0 0 0 0))):=OldQ.set _ _ (by omega);obtain ⟨x3,s3,b3,e3,f3,g3,h3,o3⟩:=CO hE (h2.setq (q:=bs1.length) (by omega) fr2 (.cells (pdL x1 x2 ⟨#[]⟩ 0 0 0 0))) (most:=20) (by decide) (by decide);have l3:bs1.length<b3.length:=by have:=o3.1.1; simp at this; omega
    have gb3:aa b3 bs1.length=some (pdL x1 x2 ⟨#[]⟩ 0 0 0 0):=aO (q:=q) o3 (by omega) (aG gb2);have fr3:Free p bs1.length b3:=(fr2.on og2 l2).on (o3.q q) (by simpa using l2);have og3:OldQ p bs1.length b3 (b3.set bs1.length (.cells (pdL x1 x2 x3 0 0 0 0))):=OldQ.set _ _ (by omega);obtain ⟨x4,s4,b4,e4,f4,m4,h4,o4⟩:=jT hE (h3.setq (q:=bs1.length) (by omega) fr3 (.cells (pdL x1 x2 x3 0 0 0 0))) (most:=9) (by decide);have hw4:wrap .i64 (x4:Int)=x4:=wrap64 (by omega) (by omega);have l4:bs1.length<b4.length:=by have:=o4.1.1; simp at this; omega
    have gb4:aa b4 bs1.length=some (pdL x1 x2 x3 0 0 0 0):=aO (q:=q) o4 (by omega) (aG gb3);have fr4:Free p bs1.length b4:=(fr3.on og3 l3).on (o4.q q) (by simpa using l3);have og4:OldQ p bs1.length b4 (b4.set bs1.length (.cells (pdL x1 x2 x3 x4 0 0 0))):=OldQ.set _ _ (by omega);obtain ⟨x5,s5,b5,e5,f5,m5,h5,o5⟩:=jT hE (h4.setq (q:=bs1.length) (by omega) fr4 (.cells (pdL x1 x2 x3 x4 0 0 0))) (most:=4294967295) (by decide);have hw5:wrap .u32 (x5:Int)=x5:=Aj (by omega);have l5:bs1.length<b5.length:=by have:=o5.1.1; simp at this; omega
    have gb5:aa b5 bs1.length=some (pdL x1 x2 x3 x4 0 0 0):=aO (q:=q) o5 (by omega) (aG gb4);have fr5:Free p bs1.length b5:=(fr4.on og4 l4).on (o5.q q) (by simpa using l4);have og5:OldQ p bs1.length b5 (b5.set bs1.length (.cells (pdL x1 x2 x3 x4 x5 0 0))):=OldQ.set _ _ (by omega);obtain ⟨x6,s6,b6,e6,f6,m6,h6,o6⟩:=jT hE (h5.setq (q:=bs1.length) (by omega) fr5 (.cells (pdL x1 x2 x3 x4 x5 0 0))) (most:=65535) (by decide);have hw6:wrap .i64 (x6:Int)=x6:=wrap64 (by omega) (by omega);have l6:bs1.length<b6.length:=by have:=o6.1.1; simp at this; omega
    have gb6:aa b6 bs1.length=some (pdL x1 x2 x3 x4 x5 0 0):=aO (q:=q) o6 (by omega) (aG gb5);have fr6:Free p bs1.length b6:=(fr5.on og5 l5).on (o6.q q) (by simpa using l5);have og6:OldQ p bs1.length b6 (b6.set bs1.length (.cells (pdL x1 x2 x3 x4 x5 x6 0))):=OldQ.set _ _ (by omega);obtain ⟨x7,s7,b7,e7,f7,g7,h7,o7⟩:=vV hE (h6.setq (q:=bs1.length) (by omega) fr6 (.cells (pdL x1 x2 x3 x4 x5 x6 0)));have gb7:aa b7 bs1.length=some (pdL x1 x2 x3 x4 x5 x6 0):=aO (q:=q) o7 (by omega) (aG gb6);have fr7:Free p bs1.length b7:=(fr6.on og6 l6).on (o7.q q) (by simpa using l6);have og7:OldQ p bs1.length b7 (b7.set bs1.length (.cells (pdL x1 x2 x3 x4 x5 x6 x7))):=OldQ.set _ _ (by omega);have hs2:=(h7.setq (q:=bs1.length) (by omega) fr7 (.cells (pdL x1 x2 x3 x4 x5 x6 x7)));have oq:OldQ p bs1.length b1 (b7.set bs1.length (.cells (pdL x1 x2 x3 x4 x5 x6 x7))):=og1.trans ((o2.q _).trans (og2.trans ((o3.q _).trans (og3.trans ((o4.q _).trans (og4.trans ((o5.q _).trans (og5.trans ((o6.q _).trans (og6.trans ((o7.q _).trans (og7))))))))))));have oR:OldR p bs1 (b7.set bs1.length (.cells (pdL x1 x2 x3 x4 x5 x6 x7))):=OldQ.new ((OldR.lay bs1 _ hl1).trans o1) oq (bo _);have gq2:aa (b7.set bs1.length (.cells (pdL x1 x2 x3 x4 x5 x6 x7))) q=some [w1,w2,w3,w4,v,w6,w7,w8]:=aO (q:=q) oR hqp hgv;obtain ⟨v2,bZ,F,k1,k2,k3,k4,k5⟩:=hI.app hpl hq hqp hs2 oR (vs:=(pdL x1 x2 x3 x4 x5 x6 x7)) (es:=Pod.c ⟨x1,x2,x3,x4,x5,x6,x7⟩) (by
     refine ⟨Hng.d (by simp),Hng.d (by simp),Hng.d (by simp),Hng.d (by simp),Hng.d (by simp),Hng.d (by simp),Hng.d (by simp),trivial⟩) rfl (by decide) (by_:=72) (by decide) (Nat.lt_trans (by omega:i<17) (by decide))
    simp only [List.length_set] at k1;have gq3:aa bZ q=some [w1,w2,w3,w4,v,w6,w7,w8]:=bC k2 hgv;have gbL:aa (b7.set bs1.length (.cells (pdL x1 x2 x3 x4 x5 x6 x7))) bs1.length=some (pdL x1 x2 x3 x4 x5 x6 x7):=aG gb7;have hlt:(i:Int)<N:=by omega
    have hw:=sS (i:=i) (n:=N) (by omega) (by omega);have hst:=Step.map (λx:Int×ByteArray×ByteArray×Int×Int×Int×Int=>(⟨x.1,x.2.1,x.2.2.1,x.2.2.2.1,x.2.2.2.2.1,x.2.2.2.2.2.1,x.2.2.2.2.2.2⟩:Pod)) (f1.seq (f2.seq (f3.seq (f4.1.seq (f5.1.seq (f6.1.seq (f7)))))));have hF:∀ lo,∃ lo2,lo2<=lo/\∀ W:EA->Hp->dx,bH [0,2,4,5,6,7] W (Cd E TDr aV uk (bq [0,2,4,5,6,7] [(0,c0),(2,c2),(4,.ptr p 0),(5,.ptr q 0),(6,.d (u64 N)),(7,.d (u64 (i:Int)))]) ⟨bs1,lo⟩)=W [(0,c0),(2,c2),(4,.ptr p 0),(5,.ptr q 0),(6,.d (u64 N)),(7,.d (u64 ((i+1:Nat):Int)))] ⟨bZ.set q (.cells [w1,w2,w3,w4,v2,w6,w7,w8]),lo2⟩:=by
     intro lo;refine ⟨_,?_,λW=>by
      simp +decide [uk,hlt,e1,e2,e3,e4,e5,e6,e7,hw4,hw5,hw6,az,storeAt,put,sub,Hp.set,gb1,gb2,gb3,gb4,gb5,gb6,gb7,gbL,gq2,gq3,k1,k4,hw]; exact rfl⟩
     exact ch (Nat.min_le_left _ _) (ch (k5 _) (Nat.min_le_left _ _))
    exact ⟨⟨x1,x2,x3,x4,x5,x6,x7⟩,bZ.set q (.cells [w1,w2,w3,w4,v2,w6,w7,w8]),v2,s7,⟨k3 _,aG gq3⟩,hst,hF⟩)
  (λbs v st ds lo hI W=>by simp [uk])
  (v:=nV) ⟨AccQ.nil hR hf,hg⟩
 simpa using key
end
section
variable {E:Calls'}
theorem FL {α:Type}{P:Pr α}{cells:α->List D}{keep:List Nat}{body:QC}(env:Nat->V->EA)(I:Nat->List Blk->V->Option (List Int)->List D->Prop)(R:V->Ex×EA)(Z:Ex×EA)(J:List Blk->Prop)(N:Nat)
 (hr:∀ i bs v st ds,i<N->I i bs v st ds->(∃ x bs2 v2 st2,I (i+1) bs2 v2 st2 (ds++cells x)/\Step P st x st2/\∀ lo,∃ lo2,lo2<=lo/\∀ W:EA->Hp->dx,bH keep W (Cd E TDr aV body (bq keep (env i v)) ⟨bs,lo⟩)=W (env (i+1) v2) ⟨bs2,lo2⟩) ∨
   ((∀ b,st=some b->P b=none)/\∃ bs2,J bs2/\∀ lo,∃ lo2,lo2<=lo/\∀ W:EA->Hp->dx,bH keep W (Cd E TDr aV body (bq keep (env i v)) ⟨bs,lo⟩)=some (Z.1,Z.2,⟨bs2,lo2⟩)))
 (he:∀ bs v st ds lo,I N bs v st ds->∀ W:EA->Hp->dx,bH keep W (Cd E TDr aV body (bq keep (env N v)) ⟨bs,lo⟩)=some ((R v).1,(R v).2,⟨bs,lo⟩))
 {bs:List Blk} {v:V} {st:Option (List Int)} (hI:I 0 bs v st []) :
 (∃ xs v' bs' st',∃ F:Nat->Nat,(∀ lo,Cd E TDr aV (.loop keep body) (env 0 v) ⟨bs,lo⟩=some ((R v').1,(R v').2,⟨bs',F lo⟩))/\xs.length=N/\I N bs' v' st' (xs.map cells).flatten/\Step (gX P N) st xs st'/\∀ lo,F lo<=lo) ∨
 ((∀ b,st=some b->gX P N b=none)/\∃ bs',J bs'/\∃ F:Nat->Nat,(∀ lo,Cd E TDr aV (.loop keep body) (env 0 v) ⟨bs,lo⟩=some (Z.1,Z.2,⟨bs',F lo⟩))/\∀ lo,F lo<=lo):=by
 have key:=aB (E:=E) (T:=TDr) (val:=aV) keep body;generalize Cd E TDr aV (.loop keep body)=W at key ⊢;have:∀ (m i:Nat) (bs:List Blk) (v:V) (st:Option (List Int)) (ds:List D),i+m=N->I i bs v st ds →
  (∃ xs v' bs' st',xs.length=m/\I N bs' v' st' (ds++(xs.map cells).flatten)/\Step (gX P m) st xs st'/\∀ lo,∃ lo',lo'<=lo/\W (env i v) ⟨bs,lo⟩=some ((R v').1,(R v').2,⟨bs',lo'⟩)) ∨
  ((∀ b,st=some b->gX P m b=none)/\∃ bs',J bs'/\∀ lo,∃ lo',lo'<=lo/\W (env i v) ⟨bs,lo⟩=some (Z.1,Z.2,⟨bs',lo'⟩)):=by
  intro m
  induction m with
  | zero =>
   intro i bs v st ds hi hI;have:i=N:=by omega
   subst this;exact .inl ⟨[],v,bs,st,rfl,by simpa using hI,Step.nil,λlo=>⟨lo,bo _,by rw [key,he bs v st ds lo hI]⟩⟩
  | succ m ih =>
   intro i bs v st ds hi hI;obtain ⟨x,bs2,v2,st2,h1,h2,h4⟩ | ⟨h1,bs2,hJ,h4⟩:=hr i bs v st ds (by omega) hI
   . obtain ⟨xs,v',bs',st',c2,c3,c4,c5⟩ | ⟨c1,bs',c2,c3⟩:=ih (i+1) bs2 v2 st2 _ (by omega) h1
     . refine .inl ⟨x::xs,v',bs',st',by simp [c2],by simpa using c3,Step.row h2 c4,λlo=>?_⟩;obtain ⟨lo2,h3,h4⟩:=h4 lo;obtain ⟨lo',c5,c1⟩:=c5 lo2;exact ⟨lo',ch c5 h3,by rw [key,h4 W,c1]⟩
     . refine .inr ⟨λb hb=>?_,bs',c2,λlo=>?_⟩
       . subst hb;obtain ⟨l,k1,k2⟩ | ⟨k1,k2⟩:=Step.of h2
         . have:=c1 l k2;simp [gX,Pr.map,Pr.seq,k1,this]
         . simp [gX,Pr.map,Pr.seq,k1]
       . obtain ⟨lo2,h3,h4⟩:=h4 lo;obtain ⟨lo',c5,c1⟩:=c3 lo2;exact ⟨lo',ch c5 h3,by rw [key,h4 W,c1]⟩
   . refine .inr ⟨λb hb=>?_,bs2,hJ,λlo=>?_⟩
     . have:=h1 b hb;simp [gX,Pr.map,Pr.seq,this]
     . obtain ⟨lo2,h3,h4⟩:=h4 lo;exact ⟨lo2,h3,by rw [key,h4 W]⟩
 obtain ⟨xs,v',bs',st',h1,h2,h3,h4⟩ | ⟨h1,bs',h2,h4⟩:=this N 0 bs v st [] (by omega) hI
 . exact .inl ⟨xs,v',bs',st',λlo=>Classical.choose (h4 lo),λlo=>(Classical.choose_spec (h4 lo)).2,h1,by simpa using h2,h3,λlo=>(Classical.choose_spec (h4 lo)).1⟩
 . exact .inr ⟨h1,bs',h2,λlo=>Classical.choose (h4 lo),λlo=>(Classical.choose_spec (h4 lo)).2,λlo=>(Classical.choose_spec (h4 lo)).1⟩
end
section
variable {E:Calls'}
theorem Ef {p:Nat}{bs:List Blk}{st st':Option (List Int)}{s:ByteArray}{most:Int}(hm:0<=most)(hR:RwS p bs st)(h:Step (gN most) st s st')(hz:st'=none->s=⟨#[]⟩):(s.size:Int)<=most:=by
 have e0:((⟨#[]⟩:ByteArray).size:Int)<=most:=hm;cases st with
 | none=>rw [hz h]; exact e0
 | some b =>
  obtain ⟨v,m,g1,g2,g3,g4,g5,g6⟩:=hR;have:=g5 b rfl;subst this;obtain ⟨l,h1,h2⟩ | ⟨h1,h2⟩:=h.of
  . exact ((gU most).bwd b s l g3 h1).2.1
  . rw [hz h2]; exact e0
theorem UT (hE:dL E)(h110:∀ p:Pol,p.wf big->∀ (h:Hp) (v:V),frz h v=some (ag p.c)->E 110 [v] h=some (bl (bz p),h)){p q r:Nat}{bs:List Blk}{st:Option (List Int)}(hR:RwS p bs st)(hf:Free p q bs)(hqp:q≠p)(hq:q<bs.length)(hrp:r≠p)(hrq:r≠q){w1 w2 w3 w4 w5 w6 w7:V}(hg:aa bs q=some [w1,w2,w3,w4,w5,w6,w7,nV])(hgr:aa bs r=some (cfL 0 0 0 0 nV nV nV nV))(c0:V){N:Nat}(hN:N<=12) :
 (∃ xs v bs' st',∃ F:Nat->Nat,(∀ lo,Cd E TDr aV (.loop [0,2,4,5,6,13] qN) [(0,c0),(2,.ptr r 0),(4,.ptr p 0),(5,.ptr q 0),(6,.d (u64 N)),(13,.d (u64 0))] ⟨bs,lo⟩=some (.exit 6,[(0,c0),(2,.ptr r 0),(4,.ptr p 0),(5,.ptr q 0)],⟨bs',F lo⟩)) ∧
  xs.length=N/\(AccQW false p q bs 5 0 N bs' v st' (xs.map Pol.c).flatten/\aa bs' q=some [w1,w2,w3,w4,w5,w6,w7,v])/\Step (gX (iP 8192) N) st xs st'/\∀ lo,F lo<=lo) ∨
 ((∀ b,st=some b->gX (iP 8192) N b=none)/\∃ bs',aa bs' r=some (cfL 0 0 0 0 nV nV nV nV)/\∃ F:Nat->Nat,(∀ lo,Cd E TDr aV (.loop [0,2,4,5,6,13] qN) [(0,c0),(2,.ptr r 0),(4,.ptr p 0),(5,.ptr q 0),(6,.d (u64 N)),(13,.d (u64 0))] ⟨bs,lo⟩=some (.ret,[(2,.ptr r 0),(3,.d (i64 2))],⟨bs',F lo⟩))/\∀ lo,F lo<=lo):=by
 have hpl:=hR.lt;have hrl:=aN hgr;have key:=FL (E:=E) (P:=iP 8192) (cells:=Pol.c) (keep:=[0,2,4,5,6,13]) (body:=qN) (λi v=>[(0,c0),(2,.ptr r 0),(4,.ptr p 0),(5,.ptr q 0),(6,.d (u64 N)),(13,.d (u64 (i:Int)))])
  (λi bs' v st' ds=>AccQW false p q bs 5 0 i bs' v st' ds/\aa bs' q=some [w1,w2,w3,w4,w5,w6,w7,v]) (λv=>(.exit 6,[(0,c0),(2,.ptr r 0),(4,.ptr p 0),(5,.ptr q 0)])) (.ret,[(2,.ptr r 0),(3,.d (i64 2))]) (λbs'=>aa bs' r=some (cfL 0 0 0 0 nV nV nV nV)) N
  (λi bs1 v st ds hi hI=>by
    obtain ⟨hI,hgv⟩:=hI;have hR1:=hI.1;have hl1:=hR1.lt;have hle:=hI.2.2.1.1;obtain ⟨s,s1,b1,e1,f1,g1,h1,o1⟩:=CO hE hR1 (most:=8192) (by decide) (by decide);have l1:=o1.1.1;have hs:=Ef (by decide) hR1 f1 g1;have hs40:s.size<=2 ^ 40:=by omega
    have hcell:=wW s;have hnl:=kQ s;have hv:∀ ys lo,frz ⟨b1++.cells ((dA s).map (iv .u8))::ys,lo⟩ (.row b1.length 0 s.size none 1)=some (.d (Sl.d u8C ⟨false,dA s⟩)):=λys lo=>by
     rw [← hnl]; exact yQ (by simp) lo
    have k242:=λlo=>ai7 hE h110 (nl:=false) (lv s) (by rw [hnl]; exact ch (show s.size<=8192 by omega) (by decide)) (hv [] lo);have gr1:aa bs1 r=some (cfL 0 0 0 0 nV nV nV nV):=bC (hI.2.2.1.2.1 r hrp hrq hrl) hgr;have gr2:aa b1 r=some (cfL 0 0 0 0 nV nV nV nV):=aO (q:=q) o1 hrp gr1;have hlt:(i:Int)<N:=by omega
    have hw:=sS (i:=i) (n:=N) hi (by omega);have hnu:=hI.2.1.nu;have hok:=hI.2.1.cells;cases hd:lh (dA s) with
    | none =>
     rw [hd] at k242;refine .inr ⟨λb hb=>?_,(b1++[Blk.cells ((dA s).map (iv .u8)),Blk.cells (plL 0 ⟨#[]⟩ 0 0 nV)]).set r (.cells (cfL 0 0 0 0 nV nV nV nV)),aG (ay gr2),λlo=>?_⟩
     . subst hb;obtain ⟨l,k1,k2⟩ | ⟨k1,k2⟩:=f1.of
       . simp only [iP,k1,hd]
       . simp only [iP,k1]
     . refine ⟨_,?_,λW=>by
        simp +decide [qN,hlt,e1,mM,Fb hs40,hcell,k242,Pol.c,Sl.d,az,storeAt,put,Hp.set,λys=>ay (ys:=ys) gr2]; exact rfl⟩
       exact Nat.min_le_left _ _
    | some pol =>
     rw [hd] at k242;have hne:s1≠none:=λh=>by rw [g1 h,Ba] at hd; cases hd
     generalize hPc:pol.c.map V.d=Pc at *;have hPl:Pc.length=5:=by rw [← hPc]; rfl
     have hag:(ag pol.c:V)=.agg Pc:=by rw [← hPc]; rfl
     have hput:put (plL 0 ⟨#[]⟩ 0 0 nV) 0 Pc=some Pc:=by simp [put,hPl]
     have hcc:(V.agg Pc).cells=some Pc:=rfl;have hput7:∀ v2,put [w1,w2,w3,w4,w5,w6,w7,v] 7 [v2]=some [w1,w2,w3,w4,w5,w6,w7,v2]:=λ_=>rfl;have hsub:sub Pc 0 5=some Pc:=bB hPl;simp only [hag] at k242;have oR:OldR p bs1 (b1++[Blk.cells ((dA s).map (iv .u8)),Blk.cells Pc]):=o1.trans (OldR.lay _ _ (by omega));obtain ⟨v2,bZ,F,k1,k2,k3,k4,k5⟩:=hI.app hpl hq hqp (h1.lay _) oR (vs:=Pc) (es:=pol.c) (by rw [← hPc]; exact Hngs.data) hPl (by decide) (by_:=64) (by decide) (Nat.lt_trans (by omega:i<13) (by decide));simp only [List.append_assoc,List.cons_append,List.nil_append,ao,cj,ck,Nat.zero_add,Nat.reduceAdd] at k1;have gq2:∀ ys,aa (b1++ys) q=some [w1,w2,w3,w4,w5,w6,w7,v]:=λys=>ay (aO (q:=q) o1 hqp hgv);have gq3:aa bZ q=some [w1,w2,w3,w4,w5,w6,w7,v]:=bC k2 hgv;have hst:Step (iP 8192) st pol s1:=by
      cases st with
      | none=>exact absurd f1 hne
      | some b =>
       obtain ⟨l,h1,h2⟩ | ⟨h1,h2⟩:=f1.of
       . rw [h2];exact Step.ok (by simp only [iP,h1,hd])
       . exact absurd h2 hne
     refine .inl ⟨pol,bZ.set q (.cells [w1,w2,w3,w4,w5,w6,w7,v2]),v2,s1,⟨k3 _,aG gq3⟩,hst,λlo=>?_⟩;refine ⟨_,?_,λW=>by
      simp +decide [qN,hlt,e1,mM,Fb hs40,hcell,k242,az,storeAt,Hp.set,hput,hsub,hPl,hcc,hput7,gq2,gq3,k1,k4,hw]; exact rfl⟩
     exact ch (Nat.min_le_left _ _) (ch (k5 _) (Nat.min_le_left _ _)))
  (λbs v st ds lo hi W=>by simp [qN])
  (v:=nV) ⟨AccQW.nil hR hf,hg⟩
 simpa using key
end
section
variable {E:Calls'}
theorem ar3:TDr 14=some r95:=by kernel_rfl
theorem dr8:TDr 8=none:=by kernel_rfl
theorem Step.slOf {α:Type}{P:Pr α}{most:Int}{n:Nat}{s s1 s2:Option (List Int)}{xs:List α}(h:StepZ (bT most) s n s1)(k:Step (gX P n) s1 xs s2):Step (pSl most P) s ⟨xs.isEmpty,xs⟩ s2:=by
 have:=(StepZ.seq h (l:=xs) (s2:=s2) (by simpa using k)).map λl=>(⟨l.isEmpty,l⟩:Sl α);exact this
theorem F95 (hE:dL E)(h110:∀ p:Pol,p.wf big->∀ (h:Hp) (v:V),frz h v=some (ag p.c)->E 110 [v] h=some (bl (bz p),h))(h8:∀ c:Cfg,c.wf 1048576->c.wf big->∀ (h:Hp) (v:V),frz h v=some (ag c.c)->E 8 [v] h=some (bl (bL c),h)){nl:Bool}{l:List Int}(hb:byteL l)(hl:l.length<=big) :
 match lM l with
 | some c=>∃ cs h' K,Bd E TDr aV r95 [.d (Sl.d u8C ⟨nl,l⟩)] ⟨[],0⟩=some (.tup [.agg cs,.d (i64 0)],h')/\Hngs false K h'.bs 1 cs c.c
 | none=>∃ h',Bd E TDr aV r95 [.d (Sl.d u8C ⟨nl,l⟩)] ⟨[],0⟩=some (.tup [.agg (cfL 0 0 0 0 nV nV nV nV),.d (i64 2)],h'):=by
 have hR:RwS 1 [.cells (cfL 0 0 0 0 nV nV nV nV),.cells [.d (Sl.d u8C ⟨nl,l⟩),.d (.bool false)],.cells (cfL 0 0 0 0 nV nV nV nV)] (some l):=⟨.d (Sl.d u8C ⟨nl,l⟩),l,rfl,.inl ⟨nl,rfl⟩,hb,hl,λb hb'=>by (cases hb'; rfl),λb o n cap z hh=>by cases hh⟩;have fr0:Free 1 2 [.cells (cfL 0 0 0 0 nV nV nV nV),.cells [.d (Sl.d u8C ⟨nl,l⟩),.d (.bool false)],.cells (cfL 0 0 0 0 nV nV nV nV)]:=λb ⟨o,n,c,z,x,hx⟩=>by cases hx
 have gb0:aa [.cells (cfL 0 0 0 0 nV nV nV nV),.cells [.d (Sl.d u8C ⟨nl,l⟩),.d (.bool false)],.cells (cfL 0 0 0 0 nV nV nV nV)] 2=some (cfL 0 0 0 0 nV nV nV nV):=rfl;have ga0:aa [.cells (cfL 0 0 0 0 nV nV nV nV),.cells [.d (Sl.d u8C ⟨nl,l⟩),.d (.bool false)],.cells (cfL 0 0 0 0 nV nV nV nV)] 0=some (cfL 0 0 0 0 nV nV nV nV):=rfl;obtain ⟨x1,s1,b1,e1,f1,g1,h1,o1⟩:=vV hE hR;have l1:2<b1.length:=by have:=o1.1.1; simp at this; omega
 have gb1:aa b1 2=some (cfL 0 0 0 0 nV nV nV nV):=aO (q:=2) o1 (by decide) gb0;have ga1:aa b1 0=some (cfL 0 0 0 0 nV nV nV nV):=aO (q:=2) o1 (by decide) ga0;have fr1:Free 1 2 b1:=Free.on fr0 (o1.q 2) (by simp);have og1:OldQ 1 2 b1 (b1.set 2 (.cells (cfL x1 0 0 0 nV nV nV nV))):=OldQ.set _ _ (by decide);obtain ⟨x2,s2,b2,e2,f2,g2,h2,o2⟩:=vV hE (h1.setq (q:=2) (by decide) fr1 (.cells (cfL x1 0 0 0 nV nV nV nV)));have l2:2<b2.length:=by have:=o2.1.1; simp at this; omega
 have gb2:aa b2 2=some (cfL x1 0 0 0 nV nV nV nV):=aO (q:=2) o2 (by decide) (aG gb1);have ga2:aa b2 0=some (cfL 0 0 0 0 nV nV nV nV):=aO (q:=2) o2 (by decide) (bC (og1.2.1 0 (by decide) (by decide) (by omega)) ga1);have fr2:Free 1 2 b2:=Free.on (fr1.on og1 l1) (o2.q 2) (by simpa using l1);have og2:OldQ 1 2 b2 (b2.set 2 (.cells (cfL x1 x2 0 0 nV nV nV nV))):=OldQ.set _ _ (by decide);obtain ⟨x3,s3,b3,e3,f3,m3,h3,o3⟩:=jT hE (h2.setq (q:=2) (by decide) fr2 (.cells (cfL x1 x2 0 0 nV nV nV nV))) (most:=4) (by decide);have hw3:wrap .i64 (x3:Int)=x3:=wrap64 (by omega) (by omega);have l3:2<b3.length:=by have:=o3.1.1; simp at this; omega
 have gb3:aa b3 2=some (cfL x1 x2 0 0 nV nV nV nV):=aO (q:=2) o3 (by decide) (aG gb2);have ga3:aa b3 0=some (cfL 0 0 0 0 nV nV nV nV):=aO (q:=2) o3 (by decide) (bC (og2.2.1 0 (by decide) (by decide) (by omega)) ga2);have fr3:Free 1 2 b3:=Free.on (fr2.on og2 l2) (o3.q 2) (by simpa using l2);have og3:OldQ 1 2 b3 (b3.set 2 (.cells (cfL x1 x2 x3 0 nV nV nV nV))):=OldQ.set _ _ (by decide);obtain ⟨x4,s4,b4,e4,f4,m4,h4,o4⟩:=jT hE (h3.setq (q:=2) (by decide) fr3 (.cells (cfL x1 x2 x3 0 nV nV nV nV))) (most:=4) (by decide);have hw4:wrap .i64 (x4:Int)=x4:=wrap64 (by omega) (by omega);have l4:2<b4.length:=by have:=o4.1.1; simp at this; omega
 have gb4:aa b4 2=some (cfL x1 x2 x3 0 nV nV nV nV):=aO (q:=2) o4 (by decide) (aG gb3);have ga4:aa b4 0=some (cfL 0 0 0 0 nV nV nV nV):=aO (q:=2) o4 (by decide) (bC (og3.2.1 0 (by decide) (by decide) (by omega)) ga3);have fr4:Free 1 2 b4:=Free.on (fr3.on og3 l3) (o4.q 2) (by simpa using l3);have og4:OldQ 1 2 b4 (b4.set 2 (.cells (cfL x1 x2 x3 x4 nV nV nV nV))):=OldQ.set _ _ (by decide);obtain ⟨n5,t5,d5,e5,f5,m5,h5,o5⟩:=jT hE (h4.setq (q:=2) (by decide) fr4 (.cells (cfL x1 x2 x3 x4 nV nV nV nV))) (most:=16) (by decide);have j5:2<d5.length:=by have:=o5.1.1; simp at this; omega
 have gd5:aa d5 2=some (cfL x1 x2 x3 x4 nV nV nV nV):=aO (q:=2) o5 (by decide) (aG gb4);have gz5:aa d5 0=some (cfL 0 0 0 0 nV nV nV nV):=aO (q:=2) o5 (by decide) (bC (og4.2.1 0 (by decide) (by decide) (by omega)) ga4);have fd5:Free 1 2 d5:=Free.on (fr4.on og4 l4) (o5.q 2) (by simpa using l4);obtain ⟨x5,y5,b5,s5,F5,i5,z5,⟨A5,gb5⟩,q5,k5⟩:=UO hE h5 fd5 (by decide) j5 gd5 (.d (Sl.d u8C ⟨nl,l⟩)) (.ptr 0 0) (N:=n5) (by omega);have l5:2<b5.length:=cf j5 A5.2.2.1.1;have ga5:aa b5 0=some (cfL 0 0 0 0 nV nV nV nV):=bC (A5.2.2.1.2.1 0 (by decide) (by decide) (by omega)) gz5;have p5:Step (pSl 16 BN) s4 ⟨x5.isEmpty,x5⟩ s5:=Step.slOf f5 q5;obtain ⟨n6,t6,d6,e6,f6,m6,h6,o6⟩:=jT hE A5.1 (most:=6) (by decide);have j6:2<d6.length:=cf l5 o6.1.1;have gd6:aa d6 2=some (cfL x1 x2 x3 x4 y5 nV nV nV):=aO (q:=2) o6 (by decide) gb5;have gz6:aa d6 0=some (cfL 0 0 0 0 nV nV nV nV):=aO (q:=2) o6 (by decide) ga5;have fd6:Free 1 2 d6:=Free.on A5.2.2.2.2 (o6.q 2) l5;obtain ⟨x6,y6,b6,s6,F6,i6,z6,⟨A6,gb6⟩,q6,k6⟩:=UQ hE h6 fd6 (by decide) j6 gd6 (.d (Sl.d u8C ⟨nl,l⟩)) (.ptr 0 0) (N:=n6) (by omega);have l6:2<b6.length:=cf j6 A6.2.2.1.1;have ga6:aa b6 0=some (cfL 0 0 0 0 nV nV nV nV):=bC (A6.2.2.1.2.1 0 (by decide) (by decide) (by omega)) gz6;have p6:Step (pSl 6 BO) s5 ⟨x6.isEmpty,x6⟩ s6:=Step.slOf f6 q6;obtain ⟨n7,t7,d7,e7,f7,m7,h7,o7⟩:=jT hE A6.1 (most:=4) (by decide)
 have j7:2<d7.length:=cf l6 o7.1.1;have gd7:aa d7 2=some (cfL x1 x2 x3 x4 y5 y6 nV nV):=aO (q:=2) o7 (by decide) gb6;have gz7:aa d7 0=some (cfL 0 0 0 0 nV nV nV nV):=aO (q:=2) o7 (by decide) ga6;have fd7:Free 1 2 d7:=Free.on A6.2.2.2.2 (o7.q 2) l6;obtain ⟨x7,y7,b7,s7,F7,i7,z7,⟨A7,gb7⟩,q7,k7⟩:=UR hE h7 fd7 (by decide) j7 gd7 (.d (Sl.d u8C ⟨nl,l⟩)) (.ptr 0 0) (N:=n7) (by omega);have l7:2<b7.length:=cf j7 A7.2.2.1.1;have ga7:aa b7 0=some (cfL 0 0 0 0 nV nV nV nV):=bC (A7.2.2.1.2.1 0 (by decide) (by decide) (by omega)) gz7;have p7:Step (pSl 4 BP) s6 ⟨x7.isEmpty,x7⟩ s7:=Step.slOf f7 q7;obtain ⟨n8,t8,d8,e8,f8,m8,h8',o8⟩:=jT hE A7.1 (most:=12) (by decide);have j8:2<d8.length:=cf l7 o8.1.1;have gd8:aa d8 2=some (cfL x1 x2 x3 x4 y5 y6 y7 nV):=aO (q:=2) o8 (by decide) gb7;have gz8:aa d8 0=some (cfL 0 0 0 0 nV nV nV nV):=aO (q:=2) o8 (by decide) ga7;have fd8:Free 1 2 d8:=Free.on A7.2.2.2.2 (o8.q 2) l7;have hpre:∀ (x8:Sl Pol) (s8:Option (List Int)),Step (pSl 12 (iP 8192)) s7 x8 s8->Step Gy (some l) ⟨x1,x2,x3,x4,⟨x5.isEmpty,x5⟩,⟨x6.isEmpty,x6⟩,⟨x7.isEmpty,x7⟩,x8⟩ s8:=λx8 s8 h=>Step.map (λx:Int×Int×Int×Int×Sl Pod×Sl Svc×Sl Way×Sl Pol=>(⟨x.1,x.2.1,x.2.2.1,x.2.2.2.1,x.2.2.2.2.1,x.2.2.2.2.2.1,x.2.2.2.2.2.2.1,x.2.2.2.2.2.2.2⟩:Cfg)) (f1.seq (f2.seq (f3.1.seq (f4.1.seq (p5.seq (p6.seq (p7.seq h)))))))
 obtain ⟨x8,y8,b8,s8,F8,i8,z8,⟨A8,gb8⟩,q8,k8⟩ | ⟨hno,b8,ga8,F8,i8,k8⟩:=UT hE h110 h8' fd8 (by decide) j8 (r:=0) (by decide) (by decide) gd8 gz8 (.d (Sl.d u8C ⟨nl,l⟩)) (N:=n8) (by omega)
 . have p8:Step (pSl 12 (iP 8192)) s7 ⟨x8.isEmpty,x8⟩ s8:=Step.slOf f8 q8;have hS:=hpre _ _ p8;obtain ⟨b9,e9,o9⟩:=Vi (E:=E) A8.1;have l8:2<b8.length:=cf j8 A8.2.2.1.1;have gb9:aa b9 2=some (cfL x1 x2 x3 x4 y5 y6 y7 y8):=bC (o9.2 2 (by decide) l8) gb8;have ga8:aa b8 0=some (cfL 0 0 0 0 nV nV nV nV):=bC (A8.2.2.1.2.1 0 (by decide) (by decide) (by omega)) gz8;have ga9:aa b9 0=some (cfL 0 0 0 0 nV nV nV nV):=bC (o9.2 0 (by decide) (by omega)) ga8;have p9:0<b9.length:=aN ga9;have c8:OldQ 1 2 b7 b8:=(o8.q 2).trans A8.2.2.1;have c7:OldQ 1 2 b6 b8:=(o7.q 2).trans (A7.2.2.1.trans c8);have c6:OldQ 1 2 b5 b8:=(o6.q 2).trans (A6.2.2.1.trans c7);have hon:∀ {v:V} {d:D} {k:Nat} {L:Nat},2<L->Hng false (KL L b8) b8 v d k->Hng false (λx=>2<x) b9 v d k:=λhL h=>h.on (λx hx=>o9.2 x (by have:=hx.1; omega) hx.2) λx hx=>cf hL hx.1;have hhg:∀ {v:V} {d:D} {k:Nat},HG 1 2 b8 v d k->Hng false (λx=>2<x) b9 v d k:=λ⟨L,a1,_,h⟩=>hon a1 h.weak;have g5:=hhg ((A5.sl (cells:=Pod.c) (λ_=>rfl) z5 (by omega) j5).on c6);have g6:=hhg ((A6.sl (cells:=Svc.c) (λ_=>rfl) z6 (by omega) j6).on c7);have g7:=hhg ((A7.sl (cells:=Way.c) (λ_=>rfl) z7 (by omega) j7).on c8);have g8:Hng false (λx=>2<x) b9 y8 (Sl.d Pol.c ⟨x8.isEmpty,x8⟩) 1:=by
    have:=AccV.hng A8.2.1 (λe he=>by obtain ⟨x,_,rfl⟩:=cd.1 he; rfl) (by simp [z8]);rw [Fg];exact hon j8 this
   have hcs:Hngs false (λx=>2<x) b9 1 (cfL x1 x2 x3 x4 y5 y6 y7 y8) (Cfg.c ⟨x1,x2,x3,x4,⟨x5.isEmpty,x5⟩,⟨x6.isEmpty,x6⟩,⟨x7.isEmpty,x7⟩,⟨x8.isEmpty,x8⟩⟩):=⟨Hng.data,Hng.data,Hng.data,Hng.data,g5,g6,g7,g8,trivial⟩;have hfrz:∀ lo,frz ⟨b9,lo⟩ (.agg (cfL x1 x2 x3 x4 y5 y6 y7 y8))=some (ag (Cfg.c ⟨x1,x2,x3,x4,⟨x5.isEmpty,x5⟩,⟨x6.isEmpty,x6⟩,⟨x7.isEmpty,x7⟩,⟨x8.isEmpty,x8⟩⟩)):=λlo=>by
    have:=(Hngs.mapM (lo:=lo) (λ_ _=>rfl) (show 1<=8 by decide) hcs).1;simp only [frz,dh,cK,this]; rfl
   by_cases he:s8=some []
   . have he':decide (s8≠some [])=false:=by simp [he]
     rw [he'] at e9;have hpp:Gy l=some (⟨x1,x2,x3,x4,⟨x5.isEmpty,x5⟩,⟨x6.isEmpty,x6⟩,⟨x7.isEmpty,x7⟩,⟨x8.isEmpty,x8⟩⟩,[]):=by
      obtain ⟨l',h1,h2⟩ | ⟨h1,h2⟩:=hS.of
      . rw [he] at h2;cases h2;exact h1
      . rw [he] at h2; cases h2
     have hok:=(cfg_cod.bwd l _ _ hb hpp).2;have k8':∀ lo,Sm E TDr aV 8 [.agg (cfL x1 x2 x3 x4 y5 y6 y7 y8)] ⟨b9,lo⟩=some (bl (bL ⟨x1,x2,x3,x4,⟨x5.isEmpty,x5⟩,⟨x6.isEmpty,x6⟩,⟨x7.isEmpty,x7⟩,⟨x8.isEmpty,x8⟩⟩),⟨b9,lo⟩):=λlo=>(fA dr8).trans (h8 _ (cfgOk.wf (by decide) hok) (cfgOk.wf (by decide) hok) ⟨b9,lo⟩ _ (hfrz lo));have hd:lM l=if bL ⟨x1,x2,x3,x4,⟨x5.isEmpty,x5⟩,⟨x6.isEmpty,x6⟩,⟨x7.isEmpty,x7⟩,⟨x8.isEmpty,x8⟩⟩=true/\l.length<=8192 then some ⟨x1,x2,x3,x4,⟨x5.isEmpty,x5⟩,⟨x6.isEmpty,x6⟩,⟨x7.isEmpty,x7⟩,⟨x8.isEmpty,x8⟩⟩ else none:=by simp only [lM,hpp]
     rw [hd];cases hm:bL ⟨x1,x2,x3,x4,⟨x5.isEmpty,x5⟩,⟨x6.isEmpty,x6⟩,⟨x7.isEmpty,x7⟩,⟨x8.isEmpty,x8⟩⟩ with
     | true =>
      simp only [hm] at k8';by_cases hlen:l.length<=8192
      . have hgt:¬ ((8192:Int)<(l.length:Int)):=by omega
        rw [if_pos ⟨rfl,hlen⟩];refine ⟨(cfL x1 x2 x3 x4 y5 y6 y7 y8),⟨b9.set 0 (.cells (cfL x1 x2 x3 x4 y5 y6 y7 y8)),0⟩,λx=>2<x,?_,hcs.on (λx hx=>by have h1:2<x:=hx; rw [ac (by omega)]) λ_ h=>h⟩;simp +decide [ae,r95,e1,e2,e3,e4,hw3,hw4,az,storeAt,put,Hp.set,gb1,gb2,gb3,gb4,e5];rw [ai];simp +decide [i5,e6];rw [ai];simp +decide [i6,e7];rw [ai];simp +decide [i7,e8];rw [ai];simp +decide [i8,e9,k8',hgt,ak,ga9,gb9,p9,dB,au,storeAt,put,sub,Hp.set]
      . have hgt:(8192:Int)<(l.length:Int):=by omega
        rw [if_neg (λh=>hlen h.2)];exact ⟨_,by
         simp +decide [ae,r95,e1,e2,e3,e4,hw3,hw4,az,storeAt,put,Hp.set,gb1,gb2,gb3,gb4,e5];rw [ai];simp +decide [i5,e6];rw [ai];simp +decide [i6,e7];rw [ai];simp +decide [i7,e8];rw [ai];simp +decide [i8,e9,k8',hgt,ak,ga9,gb9,p9,dB,au,storeAt,put,sub,Hp.set,az]; exact rfl⟩
     | false =>
      simp only [hm] at k8';rw [if_neg (λh=>by cases h.1)];exact ⟨_,by
       simp +decide [ae,r95,e1,e2,e3,e4,hw3,hw4,az,storeAt,put,Hp.set,gb1,gb2,gb3,gb4,e5];rw [ai];simp +decide [i5,e6];rw [ai];simp +decide [i6,e7];rw [ai];simp +decide [i7,e8];rw [ai];simp +decide [i8,e9,k8',ak,ga9,gb9,p9,dB,au,storeAt,put,sub,Hp.set,az]; exact rfl⟩
   . have he':decide (s8≠some [])=true:=by simp [he]
     rw [he'] at e9;have hd:lM l=none:=by
      unfold lM;obtain ⟨l',h1,h2⟩ | ⟨h1,h2⟩:=hS.of
      . rw [h1];cases l' with
        | nil=>exact absurd h2 he
        | cons _ _=>rfl
      . rw [h1]
     rw [hd];exact ⟨_,by
      simp +decide [ae,r95,e1,e2,e3,e4,hw3,hw4,az,storeAt,put,Hp.set,gb1,gb2,gb3,gb4,e5];rw [ai];simp +decide [i5,e6];rw [ai];simp +decide [i6,e7];rw [ai];simp +decide [i7,e8];rw [ai];simp +decide [i8,e9,ak,ga9,p9,dB,au,storeAt,put,sub,Hp.set,az]; exact rfl⟩
 . have hS:=hpre ⟨true,[]⟩ none (Step.slOf (xs:=[]) f8 (by
    cases t8 with
    | none=>rfl
    | some b=>exact Step.fails (hno b rfl)))
   have hd:lM l=none:=by
    unfold lM;obtain ⟨l',h1,h2⟩ | ⟨h1,h2⟩:=hS.of
    . cases h2
    . rw [h1]
   rw [hd];exact ⟨_,by
    simp +decide [ae,r95,e1,e2,e3,e4,hw3,hw4,az,storeAt,put,Hp.set,gb1,gb2,gb3,gb4,e5];rw [ai];simp +decide [i5,e6];rw [ai];simp +decide [i6,e7];rw [ai];simp +decide [i7,e8];rw [ai];simp +decide [i8,ga8,dB]; exact rfl⟩
end
