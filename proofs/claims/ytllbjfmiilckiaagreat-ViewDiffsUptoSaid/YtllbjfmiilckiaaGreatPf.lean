/- Calls: what is returned, and what becomes of memory. -/
import Derived.Test.YtllbjfmiilckiaaGreatPd
set_option linter.unusedVariables false
set_option linter.unusedSimpArgs false
namespace Go.Proofs.YtllbjfmiilckiaaGreat
section
open Go.RowKit
section
variable {n:Nat}{ρ ρ':Rh}{S S':Nat->Prop}{w:World}
mutual
theorem VR.under (hN:∀ i,ρ.N i->i<n):∀ {x:V} {v:Value},VR ρ S w x v->x.under n=true
 | .d x,v,_=>by simp [V.under]
 | .ptr b o,v,k=>by simp only [VR] at k; simp [V.under,hN _ k.1]
 | .eptr cs o,v,_=>by simp [V.under]
 | .row b o len cap z,v,k=>by simp only [VR] at k; simp [V.under,hN _ k.1]
 | .fn f cs,v,k=>by simp only [VR] at k; obtain ⟨vs,_,hv⟩:=k; simp only [V.under]; exact VRs.under hN hv
 | .mfn f cs,v,k=>by simp only [VR] at k; obtain ⟨vs,_,hv⟩:=k; simp only [V.under]; exact VRs.under hN hv
 | .agg cs,v,k=>by simp only [VR] at k; obtain ⟨vs,_,hv,_⟩:=k; simp only [V.under]; exact VRs.under hN hv
 | .tup cs,v,k=>by simp only [VR] at k; obtain ⟨vs,_,hv⟩:=k; simp only [V.under]; exact VRs.under hN hv
 | .undef,v,_=>by simp [V.under]
theorem VRs.under (hN:∀ i,ρ.N i->i<n):∀ {xs:List V} {vs:List Value},VRs ρ S w xs vs->V.under.go n xs=true
 | [],_,_=>by simp [V.under.go]
 | x::xs,_,k=>by
  simp only [VRs] at k;obtain ⟨u,us,_,h1,h2⟩:=k;simp only [V.under.go,aq];exact ⟨VR.under hN h1,VRs.under hN h2⟩
end
mutual
theorem VR.shrink (hN:∀ i,ρ'.N i->i<n->ρ.N i)(hρ:∀ i,ρ.N i->ρ' i=ρ i)(hS:∀ b,S' b->S b):∀ {x:V} {v:Value},VR ρ' S' w x v->x.under n=true->VR ρ S w x v
 | .d x,v,k,_=>by simp only [VR] at k ⊢; exact DR.mono hS (λ_ _=>rfl) k
 | .ptr b o,v,k,hu=>by
  simp [V.under] at hu;simp only [VR] at k ⊢;have:=hN b k.1 hu;exact ⟨this,by rw [← hρ b this]; exact k.2⟩
 | .eptr cs o,v,k,_=>by
  simp only [VR] at k ⊢;obtain ⟨b,base,e,hb,hd⟩:=k;exact ⟨b,base,e,hS b hb,DRs.mono hS (λ_ _=>rfl) hb hd⟩
 | .row b o len cap z,v,k,hu=>by
  simp [V.under] at hu;simp only [VR] at k ⊢;obtain ⟨hb,c,e,h1,h2,h3,h4⟩:=k;have:=hN b hb hu;exact ⟨this,c,by rw [← hρ b this]; exact e,h1,h2,h3,by rw [← hρ b this]; exact h4⟩
 | .fn f cs,v,k,hu=>by
  simp only [V.under] at hu;simp only [VR] at k ⊢;obtain ⟨vs,e,hv⟩:=k;exact ⟨vs,e,VRs.shrink hN hρ hS hv hu⟩
 | .mfn f cs,v,k,hu=>by
  simp only [V.under] at hu;simp only [VR] at k ⊢;obtain ⟨vs,e,hv⟩:=k;exact ⟨vs,e,VRs.shrink hN hρ hS hv hu⟩
 | .agg cs,v,k,hu=>by
  simp only [V.under] at hu;simp only [VR] at k ⊢;obtain ⟨vs,e,hv,h1⟩:=k;exact ⟨vs,e,VRs.shrink hN hρ hS hv hu,h1⟩
 | .tup cs,v,k,hu=>by
  simp only [V.under] at hu;simp only [VR] at k ⊢;obtain ⟨vs,e,hv⟩:=k;exact ⟨vs,e,VRs.shrink hN hρ hS hv hu⟩
 | .undef,v,_,_=>by simp only [VR]
theorem VRs.shrink (hN:∀ i,ρ'.N i->i<n->ρ.N i)(hρ:∀ i,ρ.N i->ρ' i=ρ i)(hS:∀ b,S' b->S b):∀ {xs:List V} {vs:List Value},VRs ρ' S' w xs vs->V.under.go n xs=true->VRs ρ S w xs vs
 | [],_,k,_=>by simp only [VRs] at k ⊢; exact k
 | x::xs,_,k,hu=>by
  simp only [V.under.go,aq] at hu;simp only [VRs] at k ⊢;obtain ⟨u,us,e,h1,h2⟩:=k;exact ⟨u,us,e,VR.shrink hN hρ hS h1 hu.1,VRs.shrink hN hρ hS h2 hu.2⟩
end
end
section
variable {P:Program}{B:Nat}{ρ ρ':Rh}{h h':Hp}{w w':World}
def cutρ (ρ:Rh)(n:Nat):Rh:=⟨ρ.f,ρ.X,λi=>ρ.N i/\i<n,λi=>ρ.L i/\i<n,ρ.G⟩
theorem Eg (hR:Rel B ρ h w)(hR':Rel B ρ' h' w')(hG:Goes B ρ w ρ' w')(hle:h.bs.length<=h'.bs.length)(hbs:∀ i,i<h.bs.length->h'.bs[i]?=h.bs[i]?) :
 Rel B (cutρ ρ' h.bs.length) h w'/\Goes B ρ w (cutρ ρ' h.bs.length) w'/\∀ {x:V} {v:Value},VR ρ' (St ρ' w') w' x v->x.under h.bs.length=true->VR (cutρ ρ' h.bs.length) (St (cutρ ρ' h.bs.length) w') w' x v:=by
 have hsz:w.heap.size<=w'.heap.size:=hG.below.size;have hSS:∀ b,St ρ' w' b->St (cutρ ρ' h.bs.length) w' b:=λb hb=>⟨hb.1,λi=>⟨λhi=>(hb.2 i).1 hi.1,(hb.2 i).2⟩⟩;have hsh:∀ {x:V} {v:Value},VR ρ' (St ρ' w') w' x v->x.under h.bs.length=true->VR (cutρ ρ' h.bs.length) (St (cutρ ρ' h.bs.length) w') w' x v:=λk hu =>
  VR.shrink (ρ:=cutρ ρ' h.bs.length) (ρ':=ρ') (λi h1 h2=>⟨h1,h2⟩) (λi _=>rfl) hSS k hu
 have hG':Goes B ρ w (cutρ ρ' h.bs.length) w':=⟨⟨λi hi=>⟨hG.ext.le i hi,hR.dom i hi⟩,hG.ext.rho,λb hb=>hSS b (hG.ext.st b hb),hG.ext.same,hG.ext.own,hG.ext.x,hG.ext.xs,hG.ext.g⟩,hG.below⟩;have heq:∀ i (hi:i<h.bs.length),h'.bs[i]'(cg hi hle)=h.bs[i]:=by
  intro i hi;have:=hbs i hi;rw [ab (cg hi hle),ab hi] at this;exact cv this
 refine ⟨⟨λi hi=>hi.2,λi hi=>⟨hR'.ln i hi.1,hi.2⟩,λi hi hl=>⟨hR'.live i (cg hi hle) (by rw [heq i hi]; exact hl),hi⟩,λi hi=>hR'.lo i hi.1,cj hR.base hsz,λi j hij li lj=>hR'.inj i j hij li.1 lj.1,λi hi=>?_,λc hc=>⟨(hR'.xB c hc).1,λi hi=>(hR'.xB c hc).2 i hi.1⟩,λc hc=>⟨λhN=>(hR'.gB c hc).1 hN.1,(hR.gB c (by have:=hG.ext.g; rw [← this]; exact hc)).2⟩⟩,hG',hsh⟩;have m0:=hR.mem i hi;have m1:=hR'.mem i (cg hi hle);rw [heq i hi] at m1;cases hb:h.bs[i] with
 | iter s p=>rw [hb] at m1; simp only [BR] at m1 ⊢; exact m1
 | cells cs =>
  cases cs with
  | nil=>simp only [BR]
  | cons c cs =>
   rw [hb] at m0 m1;simp only [BR] at m0 m1 ⊢;obtain ⟨arr0,_,_,_,a1,_,a2⟩:=m0;obtain ⟨arr,e,fz,b1,b2,b3,b4⟩:=m1;refine ⟨arr,e,fz,b1,b2,b3,λj h1 h2=>⟨?_,(b4 j h1 h2).2⟩⟩;exact hsh (b4 j h1 h2).1 ((a2 j h1 (by omega)).1.under hR.dom)
theorem C8 {S T:Nat->Prop}{d:D}{v:Value}(hd:DR S w d v)(hs:∀ nl c cs,d≠.slice nl (c::cs)):DR T w d v:=by
 cases d with
 | slice nl es =>
  cases es with
  | nil =>
   simp only [DR] at hd ⊢;obtain ⟨a,c,e,h1,h2,h3,h4,_⟩:=hd;exact ⟨a,c,e,h1,h2,h3,h4,λhne=>absurd rfl hne⟩
  | cons c cs=>exact absurd rfl (hs nl c cs)
 | _=>simpa only [DR] using hd
theorem tN (z:Nat):∀ (len:Nat) (ds:List D) (i:Nat) (hi:i<(dataV.chunks z ds len).length),(dataV.chunks z ds len)[i]=(ds.drop (i * z)).take z
 | 0,ds,i,hi=>by simp [dataV.chunks] at hi
 | len+1,ds,0,hi=>by simp [dataV.chunks]
 | len+1,ds,i+1,hi=>by
  simp only [dataV.chunks,List.getElem_cons_succ];rw [tN z len (ds.drop z) i];rw [bh]
  congr 2
  rw [Nat.add_mul]; omega
theorem iM (z:Nat):∀ (len:Nat) (ds:List D),(dataV.chunks z ds len).length=len
 | 0,ds=>rfl
 | len+1,ds=>by simp [dataV.chunks,iM z len]
theorem rq (hR:Rel B ρ h w){S:Nat->Prop}(hS2:∀ i,ρ.N i->S (ρ i)):∀ (k:Nat) {v:V} {u:Value} {d:D},VRx h ρ w v u->dataV h k v=some d->(mW h k v=true\/∀ b,St ρ w b->S b)->DR S w d u:=by
 have data:∀ {k:Nat} {x:D} {u:Value} , VRx h ρ w (.d x) u->(mW h k (.d x)=true\/∀ b,St ρ w b->S b)->DR S w x u:=by
  intro k x u hv ho;simp only [VR] at hv;obtain ho | ho:=ho
  . refine C8 hv ?_;rintro nl c cs rfl;cases k<;>simp [mW] at ho
  . exact DR.mono ho (λ_ _=>rfl) hv
 intro k
 induction k with
 | zero =>
  intro v u d hv hd ho;cases v<;>simp [dataV] at hd;subst hd;exact data hv ho
 | succ k ih =>
  intro v u d hv hd ho;cases v with
  | d x =>
   simp [dataV] at hd;subst hd;exact data hv ho
  | row b o len cap z =>
   simp only [dataV] at hd;split at hd
   . rename_i cs hg;split at hd
     . rename_i l hs;split at hd
       . rename_i ds hm;cases hd;obtain ⟨s1,rfl⟩:=jP hs;have hmm:=mapM_some hm;have hdl:ds.length=len * z:=by rw [hmm.1]; simp; omega
         simp only [VR] at hv;obtain ⟨hb,c,rfl,h1,h2,h3,arr0,e0,fz0,h4,h5⟩:=hv;simp only [DR];refine ⟨_,c,by rw [iM],by rw [iM]; exact h1,h2,by simp,by simp,λhne=>⟨ρ b,o,z,rfl,hS2 b hb,DRss.of_get λi hi=>?_⟩⟩;rw [iM] at hi;have hiz:i * z+z<=len * z:=by
          have:=Nat.mul_le_mul_right z hi;rw [Nat.succ_mul] at this;exact this
         rw [tN];refine ⟨by simp; omega,DRs.of_get λj hj=>?_⟩;simp only [List.length_take,List.length_drop] at hj;have hjz:j<z:=by omega
         simp only [List.getElem_take,List.getElem_drop];have hne':cs≠[]:=by rintro rfl; simp only [cm] at s1; omega
         obtain ⟨arr,e,fz,g1,g2,g3,g4⟩:=fK hR hg hne';have hlt:o+(i * z+j)<cs.length:=by omega
         have hla:o+(i * z+j)<arr.size:=by omega
         have hcv:=(g4 _ hlt hla).1;have hdm:=hmm.2 (i * z+j) (by simp; omega) (by omega);simp only [List.getElem_take,List.getElem_drop] at hdm;refine ⟨arr[o+(i * z+j)],?_,ih hcv hdm ?_⟩
         . simp [cellAt,World.cell?,g1,Nat.add_assoc,hla]
         . obtain ho | ho:=ho
           . left;simp only [mW,hg,cn] at ho;exact ho _ (bj _)
           . exact .inr ho
       . cases hd
     . cases hd
   . cases hd
  | _=>simp [dataV] at hd
theorem wU (hR:Rel B ρ h w){S:Nat->Prop}(hS2:∀ i,ρ.N i->S (ρ i)){cs:List V}{us:List Value}{l:List D}(hv:VRs ρ (St ρ w) w cs us)(hl:bG h cs=some l)
 (ho:cs.all (mW h 8)=true\/∀ b,St ρ w b->S b) {ρ2:Rh}:VRs ρ2 S w (l.map .d) us:=by
 have hm:=mapM_some hl;have hlen:=hv.length;refine VRs.of_data (by omega) λi h1 h2=>?_;refine rq hR hS2 8 (hv.get i (by omega) h2) (hm.2 i (by omega) h1) ?_;obtain ho | ho:=ho
 . left; exact cn.1 ho _ (bj _)
 . exact .inr ho
theorem uh (hR:Rel B ρ h w){S:Nat->Prop}(hS2:∀ i,ρ.N i->S (ρ i)){v v':V}{u:Value}(hv:VRx h ρ w v u)(hf:jk h v=some v')(ho:vD h v=true\/∀ b,St ρ w b->S b)(ρ2:Rh) :
 VR ρ2 S w v' u:=by
 unfold jk at hf;split at hf
 . split at hf
   . rename_i cs l hl;cases hf;simp only [VR] at hv ⊢;obtain ⟨vs,e,h1,h2⟩:=hv;exact ⟨vs,e,wU hR hS2 h1 hl (by simpa only [vD] using ho),h2⟩
   . cases hf
 . cases hf;simp only [VR,VRs] at hv ⊢;exact hv
 . cases hf
 . cases hf; simp only [VR]
 . rename_i h1 h2 h3 h4;split at hf
   . rename_i d hd;cases hf;simp only [VR];refine rq hR hS2 8 hv hd ?_;obtain ho | ho:=ho
     . left;unfold vD at ho;split at ho
       . exact absurd rfl (h1 _)
       . exact absurd rfl h4
       . exact absurd rfl (h2 _)
       . exact ho
     . exact .inr ho
   . cases hf
theorem vV (hR:Rel B ρ h w){S:Nat->Prop}(hS2:∀ i,ρ.N i->S (ρ i)){v v':V}{u:Value}(hv:VRx h ρ w v u)(hf:frz h v=some v')(ho:ownR h v=true\/∀ b,St ρ w b->S b)(ρ2:Rh) :
 VR ρ2 S w v' u:=by
 unfold frz at hf;split at hf
 . rename_i vs;split at hf
   . rename_i l hl;cases hf;simp only [VR] at hv ⊢;obtain ⟨us,e,h1⟩:=hv;have hm:=mapM_some hl;have hlen:=h1.length;refine ⟨us,e,VRs.of_get (by omega) λi a b=>uh hR hS2 (h1.get i (by omega) b) (hm.2 i (by omega) a) ?_ ρ2⟩;obtain ho | ho:=ho
     . left;simp only [ownR,cn] at ho;exact ho _ (bj _)
     . exact .inr ho
   . cases hf
 . rename_i hnt;refine uh hR hS2 hv hf ?_ ρ2;obtain ho | ho:=ho
   . left;unfold ownR at ho;split at ho
     . exact absurd rfl (hnt _)
     . exact ho
   . exact .inr ho
theorem Ga {v v':V}(hp:dY v=true)(hf:frz h v=some v'):v'=v:=by
 unfold dY at hp;split at hp
 . simp [frz,jk,dataV] at hf; exact hf.symm
 . simp [frz,jk] at hf; exact hf.symm
 . simp [frz,jk] at hf; exact hf.symm
 . rename_i cs;simp only [frz,jk] at hf;split at hf
   . rename_i l hl;cases hf
     congr 1
     have hm:=mapM_some hl;apply List.ext_getElem
     . simp [hm.1]
     . intro i a b;simp only [List.getElem_map];have h1:=hm.2 i b (by simpa using a);have h2:=cn.1 hp cs[i] (bj _);split at h2
       . rename_i x hx;rw [hx] at h1 ⊢;simp [dataV] at h1;rw [h1]
       . cases h2
   . cases hf
 . cases hp
end
end
section
open Go.RowKit
section
variable {P:Program}{B:Nat}{ρ ρ':Rh}{h h':Hp}{w w':World}{e:Env}{a:Act}
theorem qP (hR:Rel B ρ h w)(hE:ER ρ w e a.tmps)(g:ResultVar->Sem Value)(g1:∀ t,g (.tmp t)=pure (a.tmps.getD t undef))(g2:∀ x t,g (.cell x t)=(do loadVar t (← asAddr (a.tmps.getD x undef)))) :
 ∀ (l:List ResultVar) (rs:List RV) (vs:List V),l.mapM (BD P)=some rs->qO h e rs=some vs →
 ∃ us:List Value,(l.mapM g).run P w=.ok us w/\VRs ρ (St ρ w) w vs us
 | [],rs,vs,hm,hv=>by
  simp at hm; subst hm;simp [qO] at hv; subst hv;exact ⟨[],by simp,by simp [VRs]⟩
 | r::l,rs,vs,hm,hv=>by
  simp only [List.mapM_cons] at hm;replace hm:=af hm; obtain ⟨q,hq,hm⟩:=hm;replace hm:=af hm; obtain ⟨qs,hqs,hm⟩:=hm;cases hm;cases r with
  | tmp t =>
   simp [BD] at hq;subst hq;simp only [qO] at hv;split at hv
   . rename_i us1 h1;cases hv;obtain ⟨us,k1,k2⟩:=qP hR hE g g1 g2 l qs _ hqs h1;refine ⟨a.tmps.getD t undef::us,?_,?_⟩
     . simp only [List.mapM_cons,g1,Sem.run_bind,Sem.run_pure,Result.andThen_ok,k1]
     . simp only [VRs]; exact ⟨_,_,rfl,hE.2 t,k2⟩
   . cases hv
  | cell x t =>
   simp only [BD] at hq;replace hq:=af hq; obtain ⟨n,hn,hq⟩:=hq;split at hq
   . cases hq
   . rename_i hn0;replace hq:=af hq; obtain ⟨ag,ha,hq⟩:=hq;cases hq;simp only [qO] at hv;split at hv
     . rename_i cs hcs;split at hv
       . rename_i v vs1 hmk h1;cases hv;obtain ⟨us,k1,k2⟩:=qP hR hE g g1 g2 l qs _ hqs h1;obtain ⟨b,o,ws,e1,l1,l2,l3,l4⟩:=oO hR (by omega) (hE.2 x) hcs;have hlist:=run_loadCells_list (P:=P) w ⟨b,o,none⟩ ws (λj v hv=>by rw [add_plain']; exact l2 j v hv);have hload:(loadVar t ⟨b,o,none⟩).run P w=.ok (bX ag ws) w:=by
          cases ag with
          | true=>simp [loadVar,jr ha,run_sizeOf hn,← l1,hlist,bX]
          | false =>
           obtain ⟨_,rfl⟩ | ⟨h2,_⟩:=oW hmk
           . simp only [VRs] at l3;obtain ⟨u,us',rfl,h3,rfl⟩:=l3;have:=l2 0 u rfl;simp only [Nat.add_zero] at this;simp [loadVar,jr ha,load,Sem.run,this,bX]
           . cases h2
         refine ⟨bX ag ws::us,?_,?_⟩
         . simp only [List.mapM_cons,g2,Sem.run_bind,e1,asAddr,Sem.run_pure,Result.andThen_ok,hload,k1]
         . simp only [VRs]; exact ⟨_,_,rfl,oZ l3 l4 hmk,k2⟩
       . cases hv
     . cases hv
theorem vG (hR:Rel B ρ h w)(hE:ER ρ w e a.tmps){fn:Func}{rs:List RV}{vs:List V}(hm:fn.results.toList.mapM (BD P)=some rs)(hv:qO h e rs=some vs) :
 ∃ u,(results fn a.tmps).run P w=.ok u w/\VRx h ρ w (bD vs) u:=by
 obtain ⟨us,k1,k2⟩:=qP hR hE (λ
  | .tmp t=>pure (a.tmps.getD t undef)
  | .cell x t=>do loadVar t (← asAddr (a.tmps.getD x undef))) (λ_=>rfl) (λ_ _=>rfl) _ rs vs hm hv
 have hrun:(results fn a.tmps).run P w=.ok (if h:us.toArray.size=1 then us.toArray[0] else .tuple us.toArray) w:=by
  unfold results;rw [Array.mapM_eq_mapM_toList];simp only [Sem.run_bind];have:∀ (x:Sem (List Value)),x.run P w=.ok us w->(Functor.map List.toArray x).run P w=.ok us.toArray w:=by
   intro x hx;simp [hx]
  have h2:=this _ k1;first | (rw [h2]; rfl) | (erw [h2]; rfl)
 refine ⟨_,hrun,?_⟩;unfold bD;split
 . rename_i v;simp only [VRs] at k2;obtain ⟨u,us',rfl,h1,rfl⟩:=k2;simpa using h1
 . rename_i hne;have hl:=k2.length;have:us.toArray.size≠1:=by
    intro h1;simp at h1;rw [h1] at hl
    match vs,hl with
    | [v],_=>exact hne v rfl
   rw [dif_neg this];simp only [VR];exact ⟨_,rfl,by simpa using k2⟩
def Ca (P:Program)(F:FuncId->Option RF):Prop:=∀ f rf,F f=some rf->∃ fn c,P.funcs[f]?=some fn/\fn.body=some c/\comp P c=some rf.code.strip/\rf.ntmps=fn.ntmps/\fn.results.toList.mapM (BD P)=some rf.res/\fn.name ≠ "runtime.NumGoroutine"
theorem tu {C:Calls'}(hC:aQ P C)(hD:wH P C){f:FuncId}{fn:Func}{c:Code}{rf:RF}(hf:P.funcs[f]?=some fn)(hb:fn.body=some c)(hc:comp P c=some rf.code.strip)(hn:rf.ntmps=fn.ntmps)(hr:fn.results.toList.mapM (BD P)=some rf.res)
 {n:Nat} {args:List V} {r:V} (hm:mZ C n rf args h=some (r,h')) (hR:Rel B ρ h w) {vs:Array Value} (hv:VRs ρ (St ρ w) w args vs.toList):Calls P f vs w (jR B ρ h w r h'):=by
 have hlen:=hv.length;simp only [Array.length_toList] at hlen;have hE:ER ρ w (args++List.replicate (rf.ntmps-args.length) .undef) (vs++Array.replicate (fn.ntmps-vs.size) undef):=by
  refine ⟨by simp [hlen,hn],λi=>?_⟩;rw [bp,Array.getD_eq_getD_getElem?];obtain h1 | h1:=cr i args.length
  . rw [am h1,Array.getElem?_append_left (by omega)];have:=hv.get i h1 (by simpa using (by omega:i<vs.size));simp only [Array.getElem_toList] at this;rw [ab h1,Array.getElem?_eq_getElem (by omega)];exact this
  . rw [bm h1];have:((List.replicate (rf.ntmps-args.length) V.undef)[i-args.length]?).getD .undef=.undef:=by
     obtain h2 | h2:=cr (i-args.length) (rf.ntmps-args.length)
     . simp [h2]
     . rw [bb (by simpa using h2)]; rfl
    rw [this];simp only [VR]
 refine calls_of_wp hf hb ?_;have fin:∀ (ex:Ex) (e1:Env) (h1:Hp),(ex=.normal\/ex=.ret)->bi C n rf.code (args++List.replicate (rf.ntmps-args.length) .undef) h=some (ex,e1,h1)->(match qO h1 e1 rf.res with | some vs=>some (bD vs,h1) | none=>none)=some (r,h') →
  c.wp P (bodyPost P fn (jR B ρ h w r h')) { tmps:=vs++Array.replicate (fn.ntmps-vs.size) undef,defers:=[] } w:=by
  intro ex e1 h1 hex hcode hres;split at hres
  . rename_i us hus;cases hres;refine II hC hD n c rf.code hc hcode hR hE λa' w' ⟨ρ',k1,k2,k3,k4⟩=>?_;obtain ⟨u,q1,q2⟩:=vG k1 k3 hr hus;have:a'.defers=[]:=k4;obtain rfl | rfl:=hex
    . exact ⟨this,u,q1,u,ρ',rfl,k1,k2,q2⟩
    . exact ⟨this,u,q1,u,ρ',rfl,k1,k2,q2⟩
  . cases hres
 unfold mZ at hm;split at hm
 . rename_i e1 h1 hcode;exact fin .normal e1 h1 (.inl rfl) hcode hm
 . rename_i e1 h1 hcode;exact fin .ret e1 h1 (.inr rfl) hcode hm
 . cases hm
theorem bJ {f:FuncId}{fn:Func}{c:Code}(hf:P.funcs[f]?=some fn)(hb:fn.body=some c)(hn:fn.name ≠ "runtime.NumGoroutine") (vs:Array Value) (w:World):(callFunc f vs).run P w=.ok (.enter f vs) w:=by
 simp [callFunc,run_program,hf,hb,hn]
theorem l9 {C:Calls'}(hC:aQ P C):∀ {os:List RO} {e:Env} {h:Hp} {e':Env} {h':Hp},jF C os e h=some (e',h')->LowOk h h'
 | [],e,h,e',h',hm=>by simp only [jF,bd,cy] at hm; rw [hm.2]; exact LowOk.refl _
 | o::os,e,h,e',h',hm=>by
  simp only [jF] at hm;split at hm
  . split at hm
    . split at hm
      . split at hm
        . rename_i v h1 h2;exact (rY hC h2).trans (l9 hC hm)
        . cases hm
      . exact l9 hC hm
    . exact l9 hC hm
    . cases hm
  . split at hm
    . rename_i v h1 h2;exact (rY hC h2).trans (l9 hC hm)
    . cases hm
theorem Ji {C:Calls'}(hC:aQ P C){r:R}{e:Env}{h:Hp}{v:V}{h':Hp}{t:Tr}(hm:opD C r e h=some (v,h',t)):LowOk h h':=by
 have other:(match opM C r e h with | some (v,h')=>some (v,h',(⟨false,false,fM e r,dI e r,h.bs.length,h'.bs.length,0⟩:Tr)) | none=>none)=some (v,h',t)->LowOk h h':=by
  intro hm;split at hm
  . rename_i v1 h1 h2;cases hm;exact rY hC h2
  . cases hm
 cases r with
 | call f args =>
  simp only [opD] at hm;split at hm
  . rename_i v1 h1 h2;have hl:LowOk ⟨h.bs,h.bs.length⟩ h1:=by
     unfold gK at h2;split at h2
     . exact (hC _ _ _ _ _ h2).2.1
     . exact (hC _ _ _ _ _ h2).2.1
     . cases h2
    split at hm
    . rename_i hlow;split at hm
      . cases hm; exact LowOk.refl _
      . cases hm; exact ⟨hl.1,br _,λi hi _=>hl.2.2 i hi (by omega)⟩
    . cases hm;exact ⟨hl.1,Nat.min_le_left _ _,λi hi hlt=>hl.2.2 i hi (by simp only at hlt; omega)⟩
  . cases hm
 | _=>exact other hm
theorem EH {C:Calls'}(hC:aQ P C){o:RO}{e:Env}{h:Hp}{x:Stp}(hm:stepD C o e h=some x):LowOk h x.h':=by
 have key:∀ y:Stp,(match opD C o.r e h with | some (v,h',t)=>some (⟨h,v,h',t⟩:Stp) | none=>none)=some y->LowOk h y.h':=by
  intro y hy;split at hy
  . rename_i v h1 t h2;cases hy;exact Ji hC h2
  . cases hy
 simp only [stepD] at hm;split at hm
 . exact key _ hm
 . split at hm
   . split at hm
     . exact key _ hm
     . cases hm; exact LowOk.refl _
   . cases hm; exact LowOk.refl _
   . cases hm
theorem zQ {C:Calls'}(hC:aQ P C):∀ {os:List RO} {e:Env} {h:Hp} {l:List Stp} {e':Env} {h':Hp},lq C os e h=some (l,e',h')->LowOk h h'
 | [],e,h,l,e',h',hm=>by simp only [lq,bd,cy] at hm; rw [hm.2.2]; exact LowOk.refl _
 | o::os,e,h,l,e',h',hm=>by
  simp only [lq] at hm;split at hm
  . rename_i s hs;split at hm
    . rename_i l1 e1 h1 hr;cases hm;exact (EH hC hs).trans (zQ hC hr)
    . cases hm
  . cases hm
theorem dN {C:Calls'}(hC:aQ P C):∀ {n:Nat} {c:RC} {e:Env} {h:Hp} {ex:Ex} {e':Env} {h':Hp},bi C n c e h=some (ex,e',h')->LowOk h h'
 | 0,c,e,h,ex,e',h',hm=>by simp [bi] at hm
 | n+1,c,e,h,ex,e',h',hm=>by
  cases c with
  | skip=>simp only [bi] at hm; cases hm; exact LowOk.refl _
  | ret=>simp only [bi] at hm; cases hm; exact LowOk.refl _
  | exit i=>simp only [bi] at hm; cases hm; exact LowOk.refl _
  | reg pr os =>
   cases pr with
   | none =>
    simp only [bi] at hm;split at hm
    . rename_i e1 h1 ho; cases hm; exact l9 hC ho
    . cases hm
   | some pr =>
    simp only [bi,uE] at hm;split at hm
    . rename_i e1 h1 ho;cases hm;split at ho
      . rename_i l e2 h2 hr;split at ho
        . cases ho; exact zQ hC hr
        . cases ho
      . cases ho
    . cases hm
  | seq a b =>
   simp only [bi] at hm;split at hm
   . rename_i e1 h1 h2;exact (dN hC h2).trans (dN hC hm)
   . exact dN hC hm
  | cond x a b =>
   simp only [bi] at hm;split at hm
   . exact dN hC hm
   . cases hm
  | block i b =>
   simp only [bi] at hm;split at hm
   . rename_i j e1 h1 h2;split at hm
     . cases hm; exact dN hC h2
     . cases hm; exact dN hC h2
   . exact dN hC hm
  | loop dead b =>
   simp only [bi] at hm;split at hm
   . rename_i e1 h1 h2;exact (dN hC h2).trans (dN hC hm)
   . exact dN hC hm
theorem vP {C:Calls'}(hC:aQ P C){n:Nat}{rf:RF}{args:List V}{h:Hp}{r:V}{h':Hp}(hm:mZ C n rf args h=some (r,h')):LowOk h h':=by
 have key:∀ (e1:Env) (h1:Hp),(match qO h1 e1 rf.res with | some vs=>some (bD vs,h1) | none=>none)=some (r,h')->h'=h1:=by
  intro e1 h1 hh;split at hh
  . cases hh; rfl
  . cases hh
 unfold mZ at hm;split at hm
 . rename_i e1 h1 hcode;rw [key e1 h1 hm]; exact dN hC hcode
 . rename_i e1 h1 hcode;rw [key e1 h1 hm]; exact dN hC hcode
 . cases hm
theorem qo (hR:Rel B ρ h w)(hb:Below w.heap.size w w'):Rel B ρ h w'/\Goes B ρ w ρ w':=by
 have hx:Ext ρ (St ρ w) w ρ (St ρ w') w':=⟨λ_ h=>h,λ_ _=>rfl,λb hs=>⟨cg hs.1 hb.size,hs.2⟩,λb hs=>hb.block b hs.1,
  λi hi arr e fz k=>⟨arr,fz,by rw [hb.block _ (hR.lo i hi).2]; exact k,rfl⟩,rfl,λb hs=>hb.block b (hR.xB b hs).1,rfl⟩
 refine ⟨⟨hR.dom,hR.ln,hR.live,λi hi=>⟨(hR.lo i hi).1,cg (hR.lo i hi).2 hb.size⟩,cj hR.base hb.size,hR.inj,λi hi=>?_,λc hc=>⟨cg (hR.xB c hc).1 hb.size,(hR.xB c hc).2⟩,hR.gB⟩,hx,hb.mono hR.base⟩;by_cases l:h.bs[i].live=true
 . exact (hR.mem i hi).ext hx (hb.block _ (hR.lo i (hR.ln i (hR.live i hi l))).2)
 . rw [rU l]; simp only [BR]
theorem Jl {ρ2:Rh}{S S':Nat->Prop}(hS:∀ b,S b->S' b){v:V}{u:Value}(hp:dY v=true)(hv:VR ρ S w v u):VR ρ2 S' w v u:=by
 unfold dY at hp;split at hp
 . simp only [VR] at hv ⊢; exact DR.mono hS (λ_ _=>rfl) hv
 . simp only [VR,VRs] at hv ⊢; exact hv
 . simp only [VR]
 . rename_i cs;simp only [VR] at hv ⊢;obtain ⟨vs,e,h1,h2⟩:=hv;refine ⟨vs,e,VRs.of_get h1.length λi a b=>?_,h2⟩;have h3:=h1.get i a b;have h4:=cn.1 hp cs[i] (bj _);split at h4
   . rename_i x hx;rw [hx] at h3 ⊢;simp only [VR] at h3 ⊢;exact DR.mono hS (λ_ _=>rfl) h3
   . cases h4
 . cases hp
theorem byValue {f:FuncId}{vs:Array Value}{args as1:List V}{r1 r':V}{h1:Hp}(hR:Rel B ρ h w)(hv:VRs ρ (St ρ w) w args vs.toList)(has:args.mapM (frz h)=some as1)(hfr:frz h1 r1=some r')(hcond:args.all dY=true\/ownR h1 r1=true)
 (hcall:∀ (ρc:Rh),Rel w.heap.size ρc ⟨[],0⟩ w->VRs ρc (St ρc w) w as1 vs.toList->Calls P f vs w (jR w.heap.size ρc ⟨[],0⟩ w r1 h1)):Calls P f vs w (jR B ρ h w r' h):=by
 have hlen:=hv.length;have hmm:=mapM_some has;have hX:∀ b,(ρ.X b\/∃ i,ρ.L i/\ρ i=b)->b<w.heap.size:=by
  rintro b (hb | ⟨i,hi,rfl⟩)
  . exact (hR.xB b hb).1
  . exact (hR.lo i (hR.ln i hi)).2
 have Ku:∀ X:Nat->Prop,(∀ b,X b->b<w.heap.size)->Rel w.heap.size ⟨λ_=>0,X,λ_=>False,λ_=>False,λ_=>False⟩ ⟨[],0⟩ w:=λX hXX =>
  ⟨λi hi=>hi.elim,λi hi=>hi.elim,λi hi=>by simp at hi,λi hi=>hi.elim,br _,λi j _ hi=>hi.elim,λi hi=>by simp at hi,λb hb=>⟨hXX b hb,λi hi=>hi.elim⟩,λb hb=>hb.elim⟩
 have back:∀ (ρc:Rh) (e':Ending) (w':World),(ownR h1 r1=true\/ρc.X=λb=>ρ.X b\/∃ i,ρ.L i/\ρ i=b)->jR w.heap.size ρc ⟨[],0⟩ w r1 h1 e' w'->jR B ρ h w r' h e' w':=by
  intro ρc e' w' ho ⟨u,ρ',q1,q2,q3,q4⟩;obtain ⟨k1,k2⟩:=qo hR q3.below;refine ⟨u,ρ,q1,k1,k2,?_⟩;have hS2:∀ i,ρ'.N i->St ρ w' (ρ' i):=λi hi=>by
   have:=q2.lo i hi;refine ⟨this.2,λj=>⟨λhj e=>?_,λhx=>?_⟩⟩
   . have:=(hR.lo j (hR.ln j hj)).2; omega
   . have:=hX _ (.inl hx); omega
  refine vV q2 hS2 q4 hfr ?_ _;obtain ho | ho:=ho
  . exact .inl ho
  . right;intro b hb;have hx:¬ ρ'.X b:=(hb.2 0).2;rw [q3.ext.x,ho] at hx;refine ⟨hb.1,λi=>⟨λhi e=>hx (.inr ⟨i,hi,e⟩),λh9=>hx (.inl h9)⟩⟩
 obtain hp | ho:=hcond
 . have hall:=cn.1 hp;have heq:as1=args:=by
    apply List.ext_getElem hmm.1;intro i a b;exact Ga (hall _ (bj b)) (hmm.2 i b a)
   refine (hcall ⟨λ_=>0,λb=>ρ.X b\/∃ i,ρ.L i/\ρ i=b,λ_=>False,λ_=>False,λ_=>False⟩ (Ku _ hX) ?_).mono λe' w' hq=>back _ e' w' (.inr rfl) hq;have hS:∀ b,St ρ w b->St ⟨λ_=>0,λb=>ρ.X b\/∃ i,ρ.L i/\ρ i=b,λ_=>False,λ_=>False,λ_=>False⟩ w b:=λb hb=>⟨hb.1,λi=>⟨λhi=>hi.elim,λhx=>by
    obtain hx | ⟨j,hj,e⟩:=hx
    . exact (hb.2 0).2 hx
    . exact (hb.2 j).1 hj e⟩⟩
   rw [heq];exact VRs.of_get hlen λi a b=>Jl hS (hall _ (bj a)) (hv.get i a b)
 . refine (hcall ⟨λ_=>0,λ_=>False,λ_=>False,λ_=>False,λ_=>False⟩ (Ku _ (λb hb=>hb.elim)) ?_).mono λe' w' hq=>back _ e' w' (.inl ho) hq;refine VRs.of_get (by rw [hmm.1]; exact hlen) λi a b=>?_;have hS:∀ b,b<w.heap.size->St ⟨λ_=>0,λ_=>False,λ_=>False,λ_=>False,λ_=>False⟩ w b:=λb hb=>⟨hb,λi=>⟨λhi=>hi.elim,λhx=>hx⟩⟩;exact vV hR (S:=St ⟨λ_=>0,λ_=>False,λ_=>False,λ_=>False,λ_=>False⟩ w) (λi hi=>hS _ (hR.lo i hi).2) (hv.get i (by omega) b) (hmm.2 i (by omega) a) (.inr λb hb=>hS b hb.1) _
theorem Hm {E:Calls'}(hE:aQ P E){F:FuncId->Option RF}(val:FuncId->Bool)(hT:Ca P F)(hD:∀ C,aQ P C->wH P C):∀ k,aQ P (vI E F val k)
 | 0=>λf args h r h' hm=>by simp [vI] at hm
 | k+1=>by
  have ih:=Hm hE val hT hD k;intro f args h r h' hm;simp only [vI] at hm;split at hm
  . exact hE _ _ _ _ _ hm
  . rename_i rf hF;obtain ⟨fn,c,hf,hb,hc,hn,hr,hname⟩:=hT f rf hF;refine ⟨λvs w=>bJ hf hb hname vs w,?_,?_⟩
    . split at hm
      . split at hm
        . cases hm
        . split at hm
          . cases hm
          . split at hm
            . cases hm
            . split at hm
              . cases hm; exact LowOk.refl _
              . cases hm
      . split at hm
        . cases hm
        . rename_i r1 h1 hbody;have hl:=vP ih hbody;split at hm
          . cases hm; exact LowOk.refl _
          . cases hm;exact ⟨hl.1,Nat.min_le_left _ _,λi hi hlt=>hl.2.2 i hi (by simp only at hlt; omega)⟩
    . intro B ρ w vs hR hv;split at hm
      ·
        split at hm
        . cases hm
        . rename_i as1 has;split at hm
          . cases hm
          . rename_i r1 h1 hbody;split at hm
            . cases hm
            . rename_i r2 hfr;split at hm
              . rename_i hcond;cases hm;exact byValue hR hv has hfr hcond fun ρc k1 k2=>tu ih (hD _ ih) hf hb hc hn hr hbody k1 k2
              . cases hm
      . split at hm
        . cases hm
        . rename_i r1 h1 hbody;have hR0:Rel B ρ ⟨h.bs,h.bs.length⟩ w:=⟨hR.dom,hR.ln,hR.live,hR.lo,hR.base,hR.inj,hR.mem,hR.xB,hR.gB⟩;have hl:=vP ih hbody;refine (tu ih (hD _ ih) hf hb hc hn hr hbody hR0 hv).mono λe' w' ⟨u,ρ',q1,q2,q3,q4⟩=>?_;split at hm
          . rename_i hpop;cases hm;obtain ⟨k1,k2,k3⟩:=Eg hR q2 q3 hl.1 (λi hi=>hl.2.2 i hi (by omega));exact ⟨u,_,q1,k1,k2,k3 q4 hpop.2⟩
          . cases hm;exact ⟨u,ρ',q1,⟨q2.dom,q2.ln,q2.live,q2.lo,q2.base,q2.inj,q2.mem,q2.xB,q2.gB⟩,q3,q4⟩
end
end
section
open Go.RowKit
def BU (n:Nat):Blk->Prop
 | .cells cs=>∀ c∈cs,c.under n=true
 | .iter _ _=>True
def viewρ (ρ:Rh)(m:Nat)(K:Nat->Prop):Rh :=
 ⟨ρ.f,λb=>ρ.X b\/∃ i,ρ.L i/\¬ (K i/\i<m)/\ρ i=b,λi=>ρ.N i/\i<m,λi=>ρ.L i/\K i/\i<m,λi=>i<m/\¬ ρ.N i⟩
section
variable {P:Program}{B:Nat}{ρ ρ1:Rh}{hS hV h1 hS':Hp}{w w':World}{m:Nat}{K:Nat->Prop}
theorem ym (c:Nat):St (viewρ ρ m K) w c↔St ρ w c:=by
 constructor
 . intro hc;refine ⟨hc.1,λi=>⟨λhi e=>?_,λhx=>(hc.2 0).2 (.inl hx)⟩⟩;by_cases hk:K i/\i<m
   . exact (hc.2 i).1 ⟨hi,hk⟩ e
   . exact (hc.2 0).2 (.inr ⟨i,hi,hk,e⟩)
 . intro hc;refine ⟨hc.1,λi=>⟨λhi=>(hc.2 i).1 hi.1,λhx=>?_⟩⟩;obtain hx | ⟨j,hj,_,e⟩:=hx
   . exact (hc.2 0).2 hx
   . exact (hc.2 j).1 hj e
theorem CX {x:V}{v:Value}(k:VR ρ (St ρ w) w x v)(hu:x.under m=true):VR (viewρ ρ m K) (St (viewρ ρ m K) w) w x v :=
 VR.shrink (ρ:=viewρ ρ m K) (ρ':=ρ) (λi h1 h2=>⟨h1,h2⟩) (λ_ _=>rfl) (λb hb=>(ym b).2 hb) k hu
theorem Ic (hR:Rel B ρ hS w)(hm:hV.bs.length=m)(hml:m<=hS.bs.length)(hK:∀ b,b<m->K b->hV.bs[b]?=hS.bs[b]?)(hd:∀ b,b<m->¬ K b->hV.bs[b]?=some (.cells []))
 (hU:∀ b blk,b<m->K b->hV.bs[b]?=some blk->BU m blk):Rel B (viewρ ρ m K) hV w:=by
 refine ⟨λi hi=>by rw [hm]; exact hi.2,λi hi=>⟨hR.ln i hi.1,hi.2.2⟩,λi hi hl=>?_,λi hi=>hR.lo i hi.1,hR.base,λi j hij hi hj=>hR.inj i j hij hi.1 hj.1,λi hi=>?_,λc hc=>?_,λc hc=>?_⟩
 . have him:i<m:=by rw [← hm]; exact hi
   by_cases hk:K i
   . have:=hK i him hk;rw [ab hi,ab (cg him hml)] at this;exact ⟨hR.live i _ (by rw [← cv this]; exact hl),hk,him⟩
   . have:=hd i him hk;rw [ab hi] at this;rw [cv this] at hl;simp [Blk.live] at hl
 . have him:i<m:=by rw [← hm]; exact hi
   by_cases hk:K i
   . have heq:=hK i him hk;have hu:=hU i _ him hk (ab hi);rw [ab hi,ab (cg him hml)] at heq;have hmem:=hR.mem i (cg him hml);rw [← cv heq] at hmem;show BR (viewρ ρ m K) w (ρ i) hV.bs[i];cases hb:hV.bs[i] with
     | iter s p=>rw [hb] at hmem; simp only [BR] at hmem ⊢; exact hmem
     | cells cs =>
      rw [hb] at hmem hu;cases cs with
      | nil=>simp only [BR]
      | cons c cs =>
       simp only [BR] at hmem ⊢;obtain ⟨arr,e,fz,b1,b2,b3,b4⟩:=hmem;exact ⟨arr,e,fz,b1,b2,b3,λj k1 k2=>⟨CX (b4 j k1 k2).1 (hu _ (bj _)),(b4 j k1 k2).2⟩⟩
   . have:=hd i him hk;rw [ab hi] at this;rw [cv this];simp only [BR]
 . obtain hc | ⟨i,hi,hk,e⟩:=hc
   . exact ⟨(hR.xB c hc).1,λj hj=>(hR.xB c hc).2 j hj.1⟩
   . refine ⟨by rw [← e]; exact (hR.lo i (hR.ln i hi)).2,λj hj e'=>?_⟩;have hne:j≠i:=by rintro rfl; exact hk hj.2
     exact hR.inj j i hne hj.1 hi (e'.trans e.symm)
 . exact ⟨λhN=>hc.2 hN.1,by rw [hm]; exact hc.1⟩
open Classical in
noncomputable def backρ (ρ ρ1:Rh) (m m':Nat) (K:Nat->Prop):Rh :=
 ⟨λb=>if ρ1.N b then ρ1 b else ρ b,ρ.X,λb=>ρ1.N b\/ρ.N b,λb=>if (m<=b/\b<m')\/(K b/\b<m) then ρ1.L b else ρ.L b,ρ.G⟩
theorem Fh (hR:Rel B ρ hS w)(hR1:Rel B ρ1 h1 w')(hG:Goes B (viewρ ρ m K) w ρ1 w')(hmm:m<=h1.bs.length)(hT:h1.bs.length<=hS.bs.length)(hT':hS'.bs.length=hS.bs.length)
 (hslot:∀ b,m<=b->b<h1.bs.length->¬ ρ.N b/\¬ ρ.G b) (hnew:∀ b,((m<=b/\b<h1.bs.length)\/(K b/\b<m))->hS'.bs[b]?=h1.bs[b]?) (hold:∀ b,¬ ((m<=b/\b<h1.bs.length)\/(K b/\b<m))->hS'.bs[b]?=hS.bs[b]?) :
 Rel B (backρ ρ ρ1 m h1.bs.length K) hS' w'/\Goes B ρ w (backρ ρ ρ1 m h1.bs.length K) w'/\(∀ b,(backρ ρ ρ1 m h1.bs.length K).N b->ρ.N b\/(m<=b/\b<h1.bs.length)) ∧
 ∀ {x:V} {v:Value},VR ρ1 (St ρ1 w') w' x v->VR (backρ ρ ρ1 m h1.bs.length K) (St (backρ ρ ρ1 m h1.bs.length K) w') w' x v:=by
 have hf1:∀ b,ρ1.N b->backρ ρ ρ1 m h1.bs.length K b=ρ1 b:=λb hb=>by simp [backρ,hb]
 have hle:∀ b,ρ.N b->b<m->ρ1.N b/\ρ1 b=ρ b:=λb hb hm=>⟨hG.ext.le b ⟨hb,hm⟩,hG.ext.rho b ⟨hb,hm⟩⟩;have hf:∀ b,ρ.N b->backρ ρ ρ1 m h1.bs.length K b=ρ b:=λb hb=>by
  by_cases h9:ρ1.N b
  . rw [hf1 b h9];have hlt:=hR1.dom b h9;by_cases hm:b<m
    . exact (hle b hb hm).2
    . exact absurd hb (hslot b (by omega) hlt).1
  . simp [backρ,h9]
 have hX1:∀ c,(viewρ ρ m K).X c->ρ1.X c:=λc hc=>by rw [hG.ext.x]; exact hc
 have hkeep:∀ b,ρ.L b->¬ ((m<=b/\b<h1.bs.length)\/(K b/\b<m))->(viewρ ρ m K).X (ρ b):=λb hb hk=>.inr ⟨b,hb,λh=>hk (.inr h),rfl⟩;have hLin:∀ b,((m<=b/\b<h1.bs.length)\/(K b/\b<m))->((backρ ρ ρ1 m h1.bs.length K).L b↔ρ1.L b):=λb hb=>by simp [backρ,hb]
 have hLout:∀ b,¬ ((m<=b/\b<h1.bs.length)\/(K b/\b<m))->((backρ ρ ρ1 m h1.bs.length K).L b↔ρ.L b):=λb hb=>by simp [backρ,hb]
 have hG1:∀ b,ρ1.N b->b<m->ρ.N b:=λb hb hlt=>Classical.byContradiction λhn=>(hR1.gB b (by rw [hG.ext.g]; exact ⟨hlt,hn⟩)).1 hb;have hst1:∀ c,St ρ1 w' c->St (backρ ρ ρ1 m h1.bs.length K) w' c:=λc hc=>by
  refine ⟨hc.1,λi=>⟨λhi e=>?_,λhx=>(hc.2 0).2 (hX1 c (.inl hx))⟩⟩;by_cases hk:(m<=i/\i<h1.bs.length)\/(K i/\i<m)
  . have hi1:=(hLin i hk).1 hi;rw [hf1 i (hR1.ln i hi1)] at e;exact (hc.2 i).1 hi1 e
  . have hi0:=(hLout i hk).1 hi;rw [hf i (hR.ln i hi0)] at e;exact (hc.2 0).2 (hX1 c (e ▸ hkeep i hi0 hk))
 have hst:∀ c,St ρ w c->St (backρ ρ ρ1 m h1.bs.length K) w' c:=λc hc=>hst1 c (hG.ext.st c ((ym c).2 hc));have hxs:∀ c,(viewρ ρ m K).X c->w'.heap[c]?=w.heap[c]?:=hG.ext.xs;have hsame:∀ c,St ρ w c->w'.heap[c]?=w.heap[c]?:=λc hc=>hG.ext.same c ((ym c).2 hc);have hext:Ext ρ (St ρ w) w (backρ ρ ρ1 m h1.bs.length K) (St (backρ ρ ρ1 m h1.bs.length K) w') w':=by
  refine ⟨λi hi=>.inr hi,hf,hst,hsame,λi hi arr e fz k=>?_,rfl,λc hc=>hxs c (.inl hc),rfl⟩;by_cases hs:St (viewρ ρ m K) w (ρ i)
  . exact ⟨arr,fz,by rw [hG.ext.same _ hs]; exact k,rfl⟩
  . have hlt:=(hR.lo i hi).2;have:(∃ j,(viewρ ρ m K).L j/\ρ j=ρ i)\/(viewρ ρ m K).X (ρ i):=by
     apply Classical.byContradiction;intro hno;refine hs ⟨hlt,λj=>⟨λhj e=>hno (.inl ⟨j,hj,e⟩),λhx=>hno (.inr hx)⟩⟩
    obtain ⟨j,hj,e1⟩ | hx:=this
    . have:=hG.ext.own j ⟨hR.ln j hj.1,hj.2.2⟩ arr e fz (by show w.heap[ρ j]?=_; rw [e1]; exact k);have e2:(viewρ ρ m K) j=ρ i:=e1;rw [e2] at this;exact this
    . exact ⟨arr,fz,by rw [hxs _ hx]; exact k,rfl⟩
 have hlift:∀ {x:V} {v:Value},VR ρ1 (St ρ1 w') w' x v->VR (backρ ρ ρ1 m h1.bs.length K) (St (backρ ρ ρ1 m h1.bs.length K) w') w' x v:=by
  intro x v k;have k':VR ⟨ρ1.f,ρ.X,ρ1.N,ρ1.L,ρ.G⟩ (St ρ1 w') w' x v:=VR.shrink (ρ:=⟨ρ1.f,ρ.X,ρ1.N,ρ1.L,ρ.G⟩) (ρ':=ρ1) (n:=h1.bs.length) (λi h _=>h) (λ_ _=>rfl) (λ_ h=>h) k (k.under hR1.dom);refine VR.ext (ρ:=⟨ρ1.f,ρ.X,ρ1.N,ρ1.L,ρ.G⟩) (S:=St ρ1 w') (w:=w') ?_ k';exact ⟨λi hi=>Or.inl hi,hf1,hst1,λ_ _=>rfl,λi hi arr e fz k=>⟨arr,fz,k,rfl⟩,rfl,λ_ _=>rfl,rfl⟩
 refine ⟨⟨λi hi=>?_,λi hi=>?_,λi hi hl=>?_,λi hi=>?_,cj hR.base hG.below.size,λi j hij li lj=>?_,λi hi=>?_,λc hc=>⟨cg (hR.xB c hc).1 hG.below.size,λi hi=>?_⟩,λc hc=>⟨λhN=>?_,by rw [hT']; exact (hR.gB c hc).2⟩⟩,⟨hext,hG.below⟩,λb hb=>?_,hlift⟩
 . rw [hT'];obtain hi | hi:=hi
   . exact cg (hR1.dom i hi) hT
   . exact hR.dom i hi
 . by_cases hk:(m<=i/\i<h1.bs.length)\/(K i/\i<m)
   . exact .inl (hR1.ln i ((hLin i hk).1 hi))
   . exact .inr (hR.ln i ((hLout i hk).1 hi))
 . by_cases hk:(m<=i/\i<h1.bs.length)\/(K i/\i<m)
   . have hlt:i<h1.bs.length:=by obtain h | h:=hk<;>omega
     have:=hnew i hk;rw [ab hi,ab hlt] at this;exact (hLin i hk).2 (hR1.live i hlt (by rw [← cv this]; exact hl))
   . have:=hold i hk;have hlt:i<hS.bs.length:=by rw [← hT']; exact hi
     rw [ab hi,ab hlt] at this;exact (hLout i hk).2 (hR.live i hlt (by rw [← cv this]; exact hl))
 . obtain hi | hi:=hi
   . rw [hf1 i hi]; exact hR1.lo i hi
   . rw [hf i hi]; exact ⟨(hR.lo i hi).1,cg (hR.lo i hi).2 hG.below.size⟩
 . by_cases hk:(m<=i/\i<h1.bs.length)\/(K i/\i<m)<;>by_cases hk2:(m<=j/\j<h1.bs.length)\/(K j/\j<m)
   . have a:=(hLin i hk).1 li;have b:=(hLin j hk2).1 lj;rw [hf1 i (hR1.ln i a),hf1 j (hR1.ln j b)];exact hR1.inj i j hij a b
   . have a:=(hLin i hk).1 li;have b:=(hLout j hk2).1 lj;rw [hf1 i (hR1.ln i a),hf j (hR.ln j b)];exact (hR1.xB _ (hX1 _ (hkeep j b hk2))).2 i a
   . have a:=(hLout i hk).1 li;have b:=(hLin j hk2).1 lj;rw [hf i (hR.ln i a),hf1 j (hR1.ln j b)];exact λe=>(hR1.xB _ (hX1 _ (hkeep i a hk))).2 j b e.symm
   . have a:=(hLout i hk).1 li;have b:=(hLout j hk2).1 lj;rw [hf i (hR.ln i a),hf j (hR.ln j b)];exact hR.inj i j hij a b
 . by_cases hl:hS'.bs[i].live=true
   . by_cases hk:(m<=i/\i<h1.bs.length)\/(K i/\i<m)
     . have hlt:i<h1.bs.length:=by obtain h | h:=hk<;>omega
       have heq:=hnew i hk;rw [ab hi,ab hlt] at heq;have hmem:=hR1.mem i hlt;rw [← cv heq] at hmem;rw [hf1 i (hR1.ln i (hR1.live i hlt (by rw [← cv heq]; exact hl)))];cases hb:hS'.bs[i] with
       | iter s p=>rw [hb] at hmem; simp only [BR] at hmem ⊢; exact hmem
       | cells cs =>
        rw [hb] at hmem;cases cs with
        | nil=>simp only [BR]
        | cons c cs =>
         simp only [BR] at hmem ⊢;obtain ⟨arr,e,fz,b1,b2,b3,b4⟩:=hmem;exact ⟨arr,e,fz,b1,b2,b3,λj k1 k2=>⟨hlift (b4 j k1 k2).1,(b4 j k1 k2).2⟩⟩
     . have heq:=hold i hk;have hlt:i<hS.bs.length:=by rw [← hT']; exact hi
       rw [ab hi,ab hlt] at heq;have hL:=hR.live i hlt (by rw [← cv heq]; exact hl);rw [cv heq,hf i (hR.ln i hL)];exact (hR.mem i hlt).ext hext (hxs _ (hkeep i hL hk))
   . rw [rU hl]; simp only [BR]
 . by_cases hk:(m<=i/\i<h1.bs.length)\/(K i/\i<m)
   . have a:=(hLin i hk).1 hi;rw [hf1 i (hR1.ln i a)];exact (hR1.xB c (hX1 c (.inl hc))).2 i a
   . have a:=(hLout i hk).1 hi;rw [hf i (hR.ln i a)];exact (hR.xB c hc).2 i a
 . obtain hN | hN:=hN
   . by_cases hlt:c<m
     . exact (hR.gB c hc).1 (hG1 c hN hlt)
     . exact (hslot c (by omega) (hR1.dom c hN)).2 hc
   . exact (hR.gB c hc).1 hN
 . obtain hb | hb:=hb
   . by_cases hlt:b<m
     . exact .inl (hG1 b hb hlt)
     . exact .inr ⟨by omega,hR1.dom b hb⟩
   . exact .inl hb
end
end
section
open Go.RowKit
theorem lT {e e':Env}:∀ (ps:List (Nat×Nat×X)) (cs:List V),(∀ p∈ps,p.2.2.ev e=p.2.2.ev e')->fills e cs ps=fills e' cs ps
 | [],cs,_=>rfl
 | (o,n,x)::ps,cs,h=>by
  have h1:x.ev e=x.ev e':=h (o,n,x) (by simp);simp only [fills,h1];split
  . split
    . split
      . exact lT ps _ λp hp=>h p (by simp [hp])
      . rfl
    . rfl
  . rfl
theorem lL {e e':Env}{x:Option X}{d:Nat}(h:∀ y∈x.toList,y.ev e=y.ev e'):bound e x d=bound e' x d:=by
 cases x with
 | none=>rfl
 | some x=>simp only [bound,h x (by simp)]
theorem vJ {e e':Env}{hp:Hp}{k:SK}{z:Nat}{v:V}{lo hi mx:Option X}(h1:∀ y∈lo.toList,y.ev e=y.ev e')(h2:∀ y∈hi.toList,y.ev e=y.ev e')(h3:∀ y∈mx.toList,y.ev e=y.ev e') :
 dA hp e k z v lo hi mx=dA hp e' k z v lo hi mx:=by
 have b1:∀ d,bound e lo d=bound e' lo d:=λd=>lL h1;have b2:∀ d,bound e hi d=bound e' hi d:=λd=>lL h2;have b3:∀ m d,mx=some m->bound e (some m) d=bound e' (some m) d:=λm d hm=>lL λy hy=>by subst hm; exact h3 y hy
 unfold dA;split
 . simp only [b1,b2]
 . rename_i b o len cap z';simp only [b1,b2];obtain _ | l:=bound e' lo 0<;>obtain _ | h:=bound e' hi len<;>cases mx<;>first | rfl | (simp only [b3 _ _ rfl]; done)
 . simp only [b1,b2]
 . simp only [b1,b2]
 . rfl
theorem Ea {C:Calls'}{r:R}{e e':Env}{h:Hp}(hx:∀ x∈r.xs,x.ev e=x.ev e'):opM C r e h=opM C r e' h:=by
 cases r with
 | build zero ps=>simp only [opM]; rw [lT ps _ λp hp=>hx _ (by simp only [R.xs]; exact ce.2 ⟨p,hp,rfl⟩)]
 | buildS z n zero ps=>simp only [opM]; rw [lT ps _ λp hp=>hx _ (by simp only [R.xs]; exact ce.2 ⟨p,hp,rfl⟩)]
 | mkmv f caps =>
  have this:caps.map (·.ev e)=caps.map (·.ev e'):=List.map_congr_left λx h=>hx x (by simpa [R.xs] using h);simp only [opM,this]
 | mkfn f caps =>
  have this:caps.map (·.ev e)=caps.map (·.ev e'):=List.map_congr_left λx h=>hx x (by simpa [R.xs] using h);simp only [opM,this]
 | call f args =>
  have this:args.map (·.ev e)=args.map (·.ev e'):=List.map_congr_left λx h=>hx x (by simp [R.xs,h]);simp only [opM,this,hx f (by simp [R.xs])]
 | minmax mx xs =>
  cases xs with
  | nil=>rfl
  | cons x xs =>
   have this:xs.map (·.ev e)=xs.map (·.ev e'):=List.map_congr_left λy h=>hx y (by simp [R.xs,h]);simp only [opM,this,hx x (by simp [R.xs])]
 | slc k z x lo hi mx =>
  simp only [opM];rw [hx x (by simp [R.xs]),vJ (e:=e) (e':=e') (λy h=>hx y (by simp only [R.xs]; simp [List.mem_append]; simp at h; simp [h])) (λy h=>hx y (by simp only [R.xs]; simp [List.mem_append]; simp at h; simp [h])) (λy h=>hx y (by simp only [R.xs]; simp [List.mem_append]; simp at h; simp [h]))]
 | _ =>
  simp only [R.xs,List.mem_cons,List.not_mem_nil,or_false,forall_eq_or_imp,forall_eq] at hx;first
   | simp only [opM,hx]
   | (obtain ⟨h1,h2⟩:=hx; simp only [opM,h1,h2])
   | (obtain ⟨h1,h2,h3⟩:=hx; simp only [opM,h1,h2,h3])
   | rfl
structure Loc (wr:List Nat) (h h' hV hV':Hp):Prop where
 len:hV'.bs.length=h'.bs.length
 le:h.bs.length<=h'.bs.length
 new:∀ b,b∈wr\/h.bs.length<=b->hV'.bs[b]?=h'.bs[b]?
 old:∀ b,b<h.bs.length->b ∉ wr->h'.bs[b]?=h.bs[b]?/\hV'.bs[b]?=hV.bs[b]?
theorem Loc.refl {wr:List Nat}{h hV:Hp}(hl:hV.bs.length=h.bs.length)(hw:∀ b∈wr,hV.bs[b]?=h.bs[b]?):Loc wr h h hV hV :=
 ⟨hl,br _,λb hb=>by
  obtain hb | hb:=hb
  . exact hw b hb
  . rw [bb hb,bb (by omega)],λb _ _=>⟨rfl,rfl⟩⟩
theorem Loc.add {wr:List Nat}{h hV:Hp}(hl:hV.bs.length=h.bs.length)(hw:∀ b∈wr,hV.bs[b]?=h.bs[b]?)(x:Blk){l1 l2:Nat}:Loc wr h ⟨h.bs++[x],l1⟩ hV ⟨hV.bs++[x],l2⟩ :=
 ⟨by simp [hl],by simp,λb hb=>by
  simp only;obtain hlt | hge:=cr b h.bs.length
  . rw [am hlt,am (by omega)];obtain hb | hb:=hb
    . exact hw b hb
    . omega
  . rw [bm hge,bm (by omega),hl],λb hb _=>by
  simp only;rw [am hb,am (by omega)]; exact ⟨rfl,rfl⟩⟩
theorem Loc.set {wr:List Nat}{h hV:Hp}(hl:hV.bs.length=h.bs.length)(hw:∀ b∈wr,hV.bs[b]?=h.bs[b]?)(c:Nat)(hc:c∈wr)(x:Blk){l1 l2:Nat}:Loc wr h ⟨h.bs.set c x,l1⟩ hV ⟨hV.bs.set c x,l2⟩ :=
 ⟨by simp [hl],by simp,λb hb=>by
  simp only;by_cases e:c=b
  . subst e; simp [List.getElem?_set,hl]
  . rw [ac e,ac e];obtain hb | hb:=hb
    . exact hw b hb
    . rw [bb hb,bb (by omega)],λb hb hn=>by
  have e:c≠b:=λe=>hn (e ▸ hc);simp only;rw [ac e,ac e]; exact ⟨rfl,rfl⟩⟩
theorem iD {h hV:Hp}{b:Nat}(hb:hV.bs[b]?=h.bs[b]?):hV.get b=h.get b:=by simp only [Hp.get,hb]
theorem jM {h hV:Hp}{x:V}{z:Nat}(hb:∀ b∈x.blk,hV.bs[b]?=h.bs[b]?):aP hV x z=aP h x z:=by
 cases x with
 | row b o len cap z'=>simp only [aP,iD (hb b (by simp [V.blk]))]
 | d y=>cases y<;>rfl
 | _=>rfl
theorem xc {h hV:Hp}{x:V}{n:Nat}(hb:∀ b∈x.blk,hV.bs[b]?=h.bs[b]?):loadAt hV x n=loadAt h x n:=by
 cases x with
 | ptr b o=>simp only [loadAt,iD (hb b (by simp [V.blk]))]
 | _=>rfl
theorem vK {h hV:Hp}{e:Env}{k:SK}{z:Nat}{x:V}{lo hi mx:Option X}(hb:∀ b∈x.blk,hV.bs[b]?=h.bs[b]?):dA hV e k z x lo hi mx=dA h e k z x lo hi mx:=by
 unfold dA;split
 . rfl
 . rfl
 . rfl
 . rename_i b o;simp only [iD (hb b (by simp [V.blk]))]
 . rfl
theorem wP {h hV:Hp}{z bytes m:Nat}{s:V}{xs:List V}{r:V}{h':Hp}(hl:hV.bs.length=h.bs.length)(hb:∀ b∈s.blk,hV.bs[b]?=h.bs[b]?)(ha:aK h z bytes s m xs=some (r,h')) :
 ∃ hV',aK hV z bytes s m xs=some (r,hV')/\Loc s.blk h h' hV hV':=by
 have hsz:hV.size=h.size:=hl;cases s with
 | d y =>
  cases y with
  | slice nl es =>
   cases nl with
   | true =>
    simp only [aK] at ha ⊢;split at ha
    . rename_i h0; cases ha; exact ⟨hV,by rw [if_pos h0],Loc.refl hl hb⟩
    . rename_i h0;split at ha
      . cases ha
      . rename_i h1;split at ha
        . rename_i h2;cases ha;exact ⟨hV.alloc xs,by rw [if_neg h0,if_neg h1,if_pos h2,hsz],Loc.add hl hb _⟩
        . cases ha
   | false =>
    cases es with
    | nil =>
     simp only [aK] at ha ⊢;split at ha
     . rename_i h0; cases ha; exact ⟨hV,by rw [if_pos h0],Loc.refl hl hb⟩
     . cases ha
    | cons c cs=>simp [aK] at ha
  | _=>simp [aK] at ha
 | row b o len cap z' =>
  simp only [aK,iD (hb b (by simp [V.blk]))] at ha ⊢;split at ha
  . cases ha
  . rename_i h0;rw [if_neg h0];split at ha
    . rename_i h1; cases ha; exact ⟨hV,by rw [if_pos h1],Loc.refl hl hb⟩
    . rename_i h1;rw [if_neg h1];split at ha
      . cases ha
      . rename_i cs hg;split at ha
        . cases ha
        . rename_i old hs;split at ha
          . cases ha
          . rename_i h2;rw [if_neg h2];split at ha
            . rename_i c;split at ha
              . rename_i h3;split at ha
                . rename_i cs' hp;cases ha;exact ⟨hV.set b cs',by rw [if_pos h3],Loc.set hl hb b (by simp [V.blk]) _⟩
                . cases ha
              . rename_i h3;cases ha;exact ⟨hV.alloc (old++xs),by rw [if_neg h3,hsz],Loc.add hl hb _⟩
            . split at ha
              . rename_i h3;cases ha;refine ⟨(hV.set b []).alloc (old++xs),by rw [if_pos h3,hsz],?_⟩;have k1:Loc [b] h (h.set b []) hV (hV.set b []):=Loc.set hl (λc hc=>hb c (by simpa [V.blk] using hc)) b (by simp) _;refine ⟨by simp [Hp.alloc,Hp.set,hl],by simp [Hp.alloc,Hp.set],λc hc=>?_,λc hc hn=>?_⟩
                . simp only [Hp.alloc];obtain hlt | hge:=cr c h.bs.length
                  . rw [am (by simp [Hp.set]; omega),am (by simp [Hp.set]; omega)];exact k1.new c hc
                  . rw [bm (by simp [Hp.set]; omega),bm (by simp [Hp.set]; omega)];simp [Hp.set,hl]
                . simp only [Hp.alloc];rw [am (by simpa [Hp.set] using hc),am (by simp [Hp.set]; omega)];exact k1.old c hc hn
              . rename_i h3;split at ha
                . rename_i h4;split at ha
                  . rename_i cs' hp;cases ha;exact ⟨hV.set b cs',by rw [if_neg h3,if_pos h4],Loc.set hl hb b (by simp [V.blk]) _⟩
                  . cases ha
                . rename_i h4;split at ha
                  . rename_i h5;cases ha;refine ⟨(hV.set b []).alloc (old++xs),by rw [if_neg h3,if_neg h4,if_pos h5,hsz],?_⟩;have k1:Loc [b] h (h.set b []) hV (hV.set b []):=Loc.set hl (λc hc=>hb c (by simpa [V.blk] using hc)) b (by simp) _;refine ⟨by simp [Hp.alloc,Hp.set,hl],by simp [Hp.alloc,Hp.set],λc hc=>?_,λc hc hn=>?_⟩
                    . simp only [Hp.alloc];obtain hlt | hge:=cr c h.bs.length
                      . rw [am (by simp [Hp.set]; omega),am (by simp [Hp.set]; omega)];exact k1.new c hc
                      . rw [bm (by simp [Hp.set]; omega),bm (by simp [Hp.set]; omega)];simp [Hp.set,hl]
                    . simp only [Hp.alloc];rw [am (by simpa [Hp.set] using hc),am (by simp [Hp.set]; omega)];exact k1.old c hc hn
                  . cases ha
 | _=>simp [aK] at ha
theorem wo {C:Calls'}{r:R}(hnc:∀ f args,r≠.call f args){e:Env}{h hV:Hp}{v:V}{h':Hp}(hm:opM C r e h=some (v,h'))(hl:hV.bs.length=h.bs.length)(hN:∀ b∈fM e r,hV.bs[b]?=h.bs[b]?) :
 ∃ hV',opM C r e hV=some (v,hV')/\Loc (dI e r) h h' hV hV':=by
 have hsz:hV.size=h.size:=hl;have still:∀ {x:Option V},dI e r=[]->(∀ q:Hp,opM C r e q=x.map (·,q))->∃ hV',opM C r e hV=some (v,hV')/\Loc (dI e r) h h' hV hV':=by
  intro x hw hq;rw [hq h] at hm;cases x with
  | none=>cases hm
  | some u =>
   simp at hm;obtain ⟨rfl,rfl⟩:=hm;exact ⟨hV,by rw [hq]; rfl,by rw [hw]; exact Loc.refl hl (by simp)⟩
 have fresh:∀ {x:Option Blk} {f:Nat->V},dI e r=[]->(∀ q:Hp,opM C r e q=x.map (λb=>(f q.bs.length,⟨q.bs++[b],q.low⟩)))->∃ hV',opM C r e hV=some (v,hV')/\Loc (dI e r) h h' hV hV':=by
  intro x f hw hq;rw [hq h] at hm;cases x with
  | none=>cases hm
  | some u =>
   simp at hm;obtain ⟨rfl,rfl⟩:=hm;exact ⟨⟨hV.bs++[u],hV.low⟩,by rw [hq]; simp [hl],by rw [hw]; exact Loc.add hl (by simp) _⟩
 cases r with
 | call f args=>exact absurd rfl (hnc f args)
 | mov x=>exact still (x:=some (x.ev e)) rfl λq=>rfl
 | pick c a b =>
  refine still (x:=match c.ev e with | .d (.bool t)=>some (if t then a.ev e else b.ev e) | _=>none) rfl λq=>?_;simp only [opM]; split<;>simp_all
 | new z=>exact fresh (x:=some (.cells z)) (f:=λn=>.ptr n 0) rfl λq=>rfl
 | box x =>
  refine fresh (x:=(x.ev e).cells.map .cells) (f:=λn=>.ptr n 0) rfl λq=>?_;simp only [opM]; cases (x.ev e).cells<;>rfl
 | build zero ps =>
  refine still (x:=(fills e zero ps).map .agg) rfl λq=>?_;simp only [opM]; cases fills e zero ps<;>rfl
 | buildS z n zero ps =>
  refine fresh (x:=(fills e (List.replicate n zero).flatten ps).map .cells) (f:=λk=>.row k 0 n (some n) z) rfl λq=>?_;simp only [opM]; cases fills e (List.replicate n zero).flatten ps<;>rfl
 | load sc n x =>
  simp only [opM] at hm ⊢;rw [xc (h:=h) (hV:=hV) hN];split at hm
  . simp only [bk] at hm ⊢;obtain ⟨u,hu,hm⟩:=hm;cases hm;exact ⟨hV,⟨_,hu,rfl⟩,Loc.refl hl (by simp [dI])⟩
  . cases hm
 | store n x y =>
  simp only [opM] at hm ⊢;split at hm
  . rename_i xs hx;split at hm
    . rename_i hn;simp only [bk] at hm;obtain ⟨h2,hs,hm⟩:=hm;cases hm;cases hp:x.ev e with
      | ptr b o =>
       rw [hp] at hs;have hb:b∈fM e (.store n x y):=by simp [fM,hp,V.blk]
       simp only [storeAt] at hs;split at hs
       . rename_i cs hg;split at hs
         . rename_i cs' hput;cases hs;refine ⟨hV.set b cs',?_,Loc.set hl hN b hb _⟩;rw [if_pos hn];simp only [storeAt,iD (hN b hb),hg,hput];rfl
         . cases hs
       . cases hs
      | _=>rw [hp] at hs; simp [storeAt] at hs
    . cases hm
  . cases hm
 | nilchk x =>
  refine still (x:=match x.ev e with | .ptr b o=>some (.ptr b o) | .eptr cs o=>some (.eptr cs o) | .fn f cs=>some (.fn f cs) | .mfn f cs=>some (.mfn f cs) | _=>none) rfl λq=>?_;simp only [opM]; split<;>simp_all
 | bin op x y =>
  refine still (x:=(dP op (x.ev e) (y.ev e)).map .d) rfl λq=>?_;simp only [opM,one]; cases dP op (x.ev e) (y.ev e)<;>rfl
 | eq k neg x y =>
  refine still (x:=(fQ k (x.ev e) (y.ev e)).map λb=>.d (.bool (b != neg))) rfl λq=>?_;simp only [opM]; cases fQ k (x.ev e) (y.ev e)<;>rfl
 | un op x =>
  refine still (x:=(unD op (x.ev e)).map .d) rfl λq=>?_;simp only [opM,one]; cases unD op (x.ev e)<;>rfl
 | convI k x =>
  refine still (x:=match x.ev e with | .d (.int _ n)=>some (.d (.int k (k.wrap n))) | _=>none) rfl λq=>?_;simp only [opM]; split<;>simp_all
 | convBS x =>
  simp only [opM] at hm ⊢;split at hm
  . cases hm
  . rename_i hne;split at hm
    . rename_i m cs hr;split at hm
      . rename_i l hl2;cases hm;refine ⟨hV,?_,Loc.refl hl (by simp [dI])⟩;rw [jM (h:=h) (hV:=hV) hN,hr];simp only [hl2]
      . cases hm
    . cases hm
 | convSB x =>
  refine fresh (x:=match x.ev e with | .d (.str s)=>if s.size<=2 ^ 40 then some (.cells (s.toList.map λb=>.d (.int .u8 b.toNat))) else none | _=>none) (f:=λk=>match x.ev e with | .d (.str s)=>.row k 0 s.size none 1 | _=>.undef) rfl λq=>?_;simp only [opM];split
  . split<;>simp_all<;>exact ⟨rfl,rfl⟩
  . simp_all
 | convSS x =>
  refine still (x:=match x.ev e with | .d (.str s)=>some (.d (.str s)) | _=>none) rfl λq=>?_;simp only [opM]; split<;>simp_all
 | fldA x off =>
  refine still (x:=match x.ev e with | .ptr b o=>some (.ptr b (o+off)) | .eptr cs o=>some (.eptr cs (o+off)) | _=>none) rfl λq=>?_;simp only [opM]; split<;>simp_all
 | fld sc x off n =>
  refine still (x:=match x.ev e with | .agg cs=>(match sub cs off n with | some l=>mk sc l | none=>none) | _=>none) rfl λq=>?_;simp only [opM];split
  . split<;>simp_all
  . simp_all
 | idxA arr z x i =>
  have:∀ q1 q2:Hp,(opM C (.idxA arr z x i) e q1).map (·.1)=(opM C (.idxA arr z x i) e q2).map (·.1)/\(∀ u q',opM C (.idxA arr z x i) e q1=some (u,q')->q'=q1):=by
   intro q1 q2;simp only [opM];split
   . split
     . split
       . split
         . exact ⟨rfl,λu q' h=>by cases h; rfl⟩
         . exact ⟨rfl,λu q' h=>by cases h⟩
       . exact ⟨rfl,λu q' h=>by cases h⟩
     . exact ⟨rfl,λu q' h=>by cases h⟩
   . split
     . exact ⟨rfl,λu q' h=>by cases h; rfl⟩
     . exact ⟨rfl,λu q' h=>by cases h⟩
   . split
     . exact ⟨rfl,λu q' h=>by cases h; rfl⟩
     . exact ⟨rfl,λu q' h=>by cases h⟩
   . split
     . exact ⟨rfl,λu q' h=>by cases h; rfl⟩
     . exact ⟨rfl,λu q' h=>by cases h⟩
   . exact ⟨rfl,λu q' h=>by cases h⟩
  refine still (x:=(opM C (.idxA arr z x i) e h).map (·.1)) rfl λq=>?_;have a1:=(this h q).1;have a2:=(this q h).2;rw [a1];cases hq:opM C (.idxA arr z x i) e q with
  | none=>rfl
  | some u=>obtain ⟨u1,u2⟩:=u; rw [a2 u1 u2 hq]; rfl
 | idx sc n z x i =>
  refine still (x:=match i.ev e,x.ev e with | .d (.int _ i),.agg cs=>if 0<=i/\i<n then (match sub cs (i.toNat * z) z with | some l=>mk sc l | none=>none) else none | _,_=>none) rfl λq=>?_;simp only [opM];split
  . rename_i heq1 heq2;split
    . split<;>simp_all
    . rename_i hf;simp only [heq1,heq2,if_neg hf]; rfl
  . simp_all
 | idxS x i =>
  refine still (x:=match i.ev e,x.ev e with | .d (.int _ i),.d (.str s)=>if 0<=i then (match s.toList[i.toNat]? with | some b=>some (.d (.int .u8 b.toNat)) | none=>none) else none | _,_=>none) rfl λq=>?_;simp only [opM];split
  . rename_i heq1 heq2;split
    . split<;>simp_all
    . rename_i hf;simp only [heq1,heq2,if_neg hf]; rfl
  . simp_all
 | slc k z x lo hi mx =>
  simp only [opM] at hm ⊢;rw [vK (h:=h) (hV:=hV) hN];simp only [bk] at hm ⊢;obtain ⟨u,hu,hm⟩:=hm;cases hm;exact ⟨hV,⟨_,hu,rfl⟩,Loc.refl hl (by simp [dI])⟩
 | mkfn f caps=>exact still (x:=some (.fn f (caps.map (·.ev e)))) rfl λq=>rfl
 | mkmv f caps=>exact still (x:=some (.mfn f (caps.map (·.ev e)))) rfl λq=>rfl
 | mksl z bytes zero len cap =>
  refine fresh (x:=match len.ev e,cap.ev e with | .d (.int .i64 l),.d (.int .i64 c)=>if 0<=l/\l<=c/\c<=2 ^ 30/\bytes<=2 ^ 12 then some (.cells (List.replicate c.toNat zero).flatten) else none | _,_=>none)
   (f:=λk=>match len.ev e,cap.ev e with | .d (.int .i64 l),.d (.int .i64 c)=>.row k 0 l.toNat (some c.toNat) z | _,_=>.undef) rfl λq=>?_
  simp only [opM];split
  . split<;>simp_all<;>exact ⟨rfl,rfl⟩
  . simp_all
 | ext x i =>
  refine still (x:=match x.ev e with | .tup vs=>vs[i]? | _=>none) rfl λq=>?_;simp only [opM]; split<;>simp_all
 | app z bytes s x =>
  simp only [opM] at hm ⊢;rw [jM (h:=h) (hV:=hV) (λb hb=>hN b (by simp [fM,hb]))];split at hm
  . exact wP hl (λb hb=>hN b (by simp [fM,hb])) hm
  . cases hm
 | len st x =>
  refine still (x:=((x.ev e).len st).map λn=>.d (.int .i64 n)) rfl λq=>?_;simp only [opM]; cases (x.ev e).len st<;>rfl
 | copy z x y =>
  simp only [opM] at hm ⊢;rw [jM (h:=h) (hV:=hV) (λb hb=>hN b (by simp [fM,hb]))];split at hm
  . rename_i m xs b o len cap z' hr hp;have hb:b∈dI e (.copy z x y):=by simp [dI,hp,V.blk]
    have hbn:hV.bs[b]?=h.bs[b]?:=hN b (by simp [fM,hp,V.blk]);have hW:∀ c∈dI e (.copy z x y),hV.bs[c]?=h.bs[c]?:=λc hc=>hN c (by simp only [fM,dI] at hc ⊢; exact List.mem_append_left _ hc);split at hm
    . rename_i hz;simp only [iD hbn];split at hm
      . rename_i cs hg;split at hm
        . rename_i h0;cases hm;exact ⟨hV,by rw [if_pos hz]; simp only [if_pos h0],Loc.refl hl hW⟩
        . rename_i h0;split at hm
          . rename_i cs' hput;cases hm;exact ⟨hV.set b cs',by rw [if_pos hz]; simp only [if_neg h0,hput],Loc.set hl hW b hb _⟩
          . cases hm
      . cases hm
    . cases hm
  . cases hm
 | clear z zero x =>
  simp only [opM] at hm ⊢;split at hm
  . rename_i b o len cap z' hp;have hb:b∈fM e (.clear z zero x):=by simp [fM,hp,V.blk]
    split at hm
    . rename_i hz;simp only [iD (hN b hb)];split at hm
      . rename_i cs hg;split at hm
        . rename_i h0;cases hm;exact ⟨hV,by rw [if_pos hz]; simp only [if_pos h0],Loc.refl hl hN⟩
        . rename_i h0;split at hm
          . rename_i cs' hput;cases hm;exact ⟨hV.set b cs',by rw [if_pos hz]; simp only [if_neg h0,hput],Loc.set hl hN b hb _⟩
          . cases hm
      . cases hm
    . cases hm
  . cases hm; exact ⟨hV,rfl,Loc.refl hl hN⟩
  . cases hm
 | minmax mx xs =>
  refine still (x:=match xs with | []=>none | x::xs=>fT mx (x.ev e) (xs.map (·.ev e))) rfl λq=>?_;simp only [opM];cases xs with
  | nil=>rfl
  | cons x xs=>simp only; cases fT mx (x.ev e) (xs.map (·.ev e))<;>rfl
 | range x =>
  refine fresh (x:=match x.ev e with | .d (.str s)=>some (.iter s 0) | _=>none) (f:=λk=>.ptr k 0) rfl λq=>?_;simp only [opM]; split<;>simp_all; rfl
 | next x =>
  simp only [opM] at hm ⊢;split at hm
  . rename_i b hp;have hb:b∈fM e (.next x):=by simp [fM,hp,V.blk]
    rw [hN b hb];split at hm
    . rename_i s pos hg;split at hm
      . rename_i h0;cases hm;exact ⟨⟨hV.bs.set b (Blk.iter s (pos+(Utf8.decode s pos).2)),min hV.low b⟩,by simp only [if_pos h0],Loc.set hl hN b hb _⟩
      . rename_i h0;cases hm;exact ⟨hV,by simp only [if_neg h0],Loc.refl hl hN⟩
    . cases hm
  . cases hm
end
section
open Go.RowKit
def Stands (e:Env)(h:Hp):Prop:=∃ B ρ w,∃ t:Array Value,Rel B ρ h w/\ER ρ w e t
theorem Rel.bs {B:Nat}{ρ:Rh}{h h':Hp}{w:World}(hR:Rel B ρ h w)(hb:h'.bs=h.bs):Rel B ρ h' w:=by
 obtain ⟨bs,l⟩:=h;obtain ⟨bs',l'⟩:=h';simp only at hb;subst hb;exact ⟨hR.dom,hR.ln,hR.live,hR.lo,hR.base,hR.inj,hR.mem,hR.xB,hR.gB⟩
section
variable {P:Program}{C:Calls'}{e:Env}{h h':Hp}
theorem Stands.env (hS:Stands e h)(i:Nat):(e.getD i .undef).under h.bs.length=true:=by
 obtain ⟨B,ρ,w,t,hR,hE⟩:=hS;exact (hE.2 i).under hR.dom
theorem Stands.blk (hS:Stands e h){b:Nat}{x:Blk}(hb:h.bs[b]?=some x):BU h.bs.length x:=by
 obtain ⟨B,ρ,w,t,hR,hE⟩:=hS;obtain ⟨hlt,hx⟩:=bx.1 hb;have hm:=hR.mem b hlt;rw [hx] at hm;cases x with
 | iter s p=>simp only [BU]
 | cells cs =>
  simp only [BU];cases cs with
  | nil=>simp
  | cons c cs =>
   simp only [BR] at hm;obtain ⟨arr,el,fz,_,b2,_,b4⟩:=hm;intro y hy;obtain ⟨j,hj,rfl⟩:=List.getElem_of_mem hy;exact (b4 j hj (by omega)).1.under hR.dom
theorem Stands.bs (hS:Stands e h)(hb:h'.bs=h.bs):Stands e h':=by
 obtain ⟨B,ρ,w,t,hR,hE⟩:=hS;exact ⟨B,ρ,w,t,hR.bs hb,hE⟩
theorem EN {o:Oper}{a:Act}{w:World}{K:Act->World->Prop}(hh:o.wp P a w K (λ_ _ _=>False)):∃ a' w',K a' w':=by
 unfold Oper.wp at hh;generalize (execOp a.eval o).run P w=r at hh;cases r with
 | ok n w' =>
  cases n<;>simp only [Oper.upon] at hh
  case value=>exact ⟨_,_,hh⟩
  case skip=>exact ⟨_,_,hh⟩
  case defer=>exact ⟨_,_,hh⟩
  case enter f args =>
   obtain ⟨x,w'',fr,hr,_⟩:=hh [];cases x with
   | returned u=>exact ⟨_,_,hr⟩
   | panicked c=>exact hr.elim
   | outgrown=>obtain ⟨_,_,hf⟩:=hr; exact hf.elim
  case row row args =>
   obtain ⟨v,w'',hr,_⟩:=hh (Frame.ofRow P row args .normal) [];exact ⟨_,_,hr⟩
 | halt x w'=>cases x<;>simp only [Oper.upon] at hh
theorem Stands.step (hS:Stands e h)(hC:aQ P C){o:Oper}{r:R}(hc:tQ P o=some r){x:V}(hm:opM C r e h=some (x,h'))(d:Option Nat):Stands (gu e d x) h':=by
 obtain ⟨B,ρ,w,t,hR,hE⟩:=hS;have:=GI (a:=⟨t,[]⟩) (K:=λ_ w'=>∃ v ρ',Rel B ρ' h' w'/\Goes B ρ w ρ' w'/\VRx h' ρ' w' x v) (Q:=λ_ _ _=>False) hC hR hE hc hm λv ρ' w' k1 k2 k3=>⟨v,ρ',k1,k2,k3⟩;obtain ⟨_,w',v,ρ',k1,k2,k3⟩:=EN this;exact ⟨B,ρ',w',_,k1,si (a:=⟨t,[]⟩) (hE.ext k2.ext) k3 d⟩
theorem Stands.skip (hS:Stands e h)(d:Option Nat):Stands (gu e d (.tup [])) h:=by
 obtain ⟨B,ρ,w,t,hR,hE⟩:=hS;exact ⟨B,ρ,w,_,hR,xU (a:=⟨t,[]⟩) hE d⟩
end
theorem Hf {a b:V}(h:He a b=true):a=b:=by
 unfold He at h;split at h
 . simp only [aq,beq_iff_eq] at h; rw [h.1,h.2]
 . rfl
 . simp only [beq_iff_eq] at h; rw [h]
 . simp only [aq,beq_iff_eq] at h;obtain ⟨⟨⟨⟨rfl,rfl⟩,rfl⟩,rfl⟩,rfl⟩:=h;rfl
 . cases h
theorem wy:∀ {a b:List V},qR a b=true->a=b
 | [],[],_=>rfl
 | v::vs,w::ws,h=>by
  simp only [qR,aq] at h;rw [Hf h.1,wy h.2]
 | [],_::_,h=>by simp [qR] at h
 | _::_,[],h=>by simp [qR] at h
theorem Hd {a b:Option Blk}(h:Ha a b=true):a=b:=by
 unfold Ha at h;split at h
 . rw [wy h]
 . cases h
theorem I7 {bs bs':List Blk}{b:Nat}(h:b∈uu bs bs'):bs'[b]?=bs[b]?:=by
 simp only [uu,List.mem_filter] at h;exact (Hd h.2).symm
structure TrOk (h h':Hp) (t:Tr):Prop where
 lo:t.lo=h.bs.length
 hi:t.hi=h'.bs.length
 le:h.bs.length<=h'.bs.length
 big:t.big=true->t.call=true
 call:t.call=true->t.nd=[]
 wr:∀ b∈t.wr,b∈t.nd
 bl:t.big=true->t.bl.n<=t.lo
 kp:t.big=true->∀ b∈t.bl.kp,¬ t.lo<=b
 chg:∀ b,h'.bs[b]?≠h.bs[b]?->b∈t.wr\/(t.lo<=b/\b<t.hi)\/(t.big=true/\t.bl.n<=b/\b<t.lo/\b ∉ t.bl.kp)
def Tr.looks (u:Tr)(b:Nat):Prop:=b∈u.nd\/(u.call=true/\b<u.lo)
theorem TrOk.no {h h':Hp}:TrOk h h (aM h):=⟨rfl,rfl,br _,by simp [aM],by simp [aM],by simp [aM],by simp [aM],by simp [aM],λb hb=>absurd rfl hb⟩
theorem EC {h h':Hp}{t u:Tr}(ht:TrOk h h' t)(hu:u.call=true->u.nd=[])(hub:u.big=true->u.call=true)(hs:t.spares u=true){b:Nat}(hc:h'.bs[b]?≠h.bs[b]?)(hl:u.looks b):False:=by
 have hch:=ht.chg b hc;unfold Tr.spares at hs;split at hs
 . simp only [Bool.or_eq_true] at hs;obtain ((h1 | h1) | h1) | h1:=hs
   . simp [Tr.calm] at h1;obtain ⟨⟨a2,a4⟩,a5⟩:=h1;obtain q | q | q:=hch
     . rw [a4] at q; cases q
     . omega
     . rw [a2] at q; cases q.1
   . simp [Tr.still] at h1;obtain ⟨⟨⟨⟨a1,a2⟩,a3⟩,a4⟩,a5⟩:=h1;obtain q | q:=hl
     . rw [a3] at q; cases q
     . rw [a1] at q; cases q.1
   . simp at h1;obtain ⟨⟨a1,a2⟩,a3⟩:=h1;obtain p | p:=hl
     . obtain q | q | q:=hch
       . have:=ht.wr b q;rw [ht.call (ht.big a1)] at this;cases this
       . have:=ht.bl a1;obtain hlt | hk:=a3 b p
         . omega
         . exact (ht.kp a1 b hk q.1).elim
       . obtain hlt | hk:=a3 b p
         . omega
         . exact q.2.2.2 hk
     . rw [a2] at p; cases p.1
   . simp at h1;obtain ⟨⟨⟨a1,a2⟩,a3⟩,a4⟩:=h1;obtain q | q | q:=hch
     . rw [a3] at q; cases q
     . obtain p | p:=hl
       . rw [hu a2] at p; cases p
       . omega
     . rw [a1] at q; cases q.1
 . rename_i hb;simp at hb;split at hs
   . rename_i hcall;simp at hs;obtain q | q | q:=hch
     . rw [hs.1] at q; cases q
     . obtain p | p:=hl
       . rw [hu hcall] at p; cases p
       . omega
     . rw [hb.1] at q; cases q.1
   . rename_i hcall;obtain p | p:=hl
     . simp at hs;have:=hs b p;obtain q | q | q:=hch
       . exact this.1 q
       . obtain q2 | q2:=this.2<;>omega
       . rw [hb.1] at q; cases q.1
     . exact hcall p.1
theorem uZ (e:Env)(r:R):∀ b∈dI e r,b∈fM e r:=by
 cases r<;>simp only [dI,fM]<;>intro b hb<;>simp_all
theorem uB {P:Program}{C:Calls'}(hC:aQ P C){r:R}{e:Env}{h:Hp}{v:V}{h':Hp}{t:Tr}(hd:opD C r e h=some (v,h',t)) :
 TrOk h h' t/\(∃ h2,opM C r e ⟨h.bs,if t.call=true then h.bs.length else h.low⟩=some (v,h2)/\h2.bs=h'.bs) ∧
 ∀ hV:Hp,hV.bs.length=h.bs.length->hV.low=h.bs.length->(∀ b,b<h.bs.length->(t.call=true\/b∈t.nd)->hV.bs[b]?=h.bs[b]?) →
  ∃ h1,opM C r e hV=some (v,h1)/\h1.bs.length=h'.bs.length/\(∀ b,(h.bs.length<=b\/t.call=true\/b∈t.nd)->h1.bs[b]?=h'.bs[b]?)/\(∀ b,b<h.bs.length->¬ (t.call=true\/b∈t.nd)->h'.bs[b]?=h.bs[b]?):=by
 by_cases hcall:∃ f args,r=.call f args
 . obtain ⟨f,args,rfl⟩:=hcall;simp only [opD] at hd;split at hd
   . rename_i v1 h1 hm;have hm2:opM C (.call f args) e ⟨h.bs,h.bs.length⟩=some (v1,h1):=hm;have hl:=rY hC hm2;have key:h'.bs=h1.bs->t.call=true->v=v1 ->  (∃ h2,opM C (.call f args) e ⟨h.bs,if t.call=true then h.bs.length else h.low⟩=some (v,h2)/\h2.bs=h'.bs)/\∀ hV:Hp,hV.bs.length=h.bs.length->hV.low=h.bs.length->(∀ b,b<h.bs.length->(t.call=true\/b∈t.nd)->hV.bs[b]?=h.bs[b]?) →
      ∃ h1,opM C (.call f args) e hV=some (v,h1)/\h1.bs.length=h'.bs.length/\(∀ b,(h.bs.length<=b\/t.call=true\/b∈t.nd)->h1.bs[b]?=h'.bs[b]?)/\(∀ b,b<h.bs.length->¬ (t.call=true\/b∈t.nd)->h'.bs[b]?=h.bs[b]?):=by
      intro hb hct hv;subst hv;refine ⟨⟨h1,by rw [if_pos hct]; exact hm2,hb.symm⟩,?_⟩;intro hV k1 k2 k3;have:hV=⟨h.bs,h.bs.length⟩:=by
       obtain ⟨bs,l⟩:=hV;simp only at k1 k2 k3;have:bs=h.bs:=List.ext_getElem? λb=>by
        obtain q | q:=cr b h.bs.length
        . exact k3 b q (.inl hct)
        . rw [bb q,bb (by omega)]
       rw [this,k2]
      subst this;exact ⟨h1,hm2,by rw [hb],λb _=>by rw [hb],λb _ hn=>absurd (.inl hct) hn⟩
     split at hd
     . rename_i hlow;split at hd
       . rename_i hlen;cases hd;have hbs:h.bs=h1.bs:=List.ext_getElem? λb=>by
          obtain q | q:=cr b h.bs.length
          . exact (hl.2.2 b q (by omega)).symm
          . rw [bb q,bb (by omega)]
         exact ⟨⟨rfl,rfl,br _,by simp,by simp,by simp,by simp,by simp,λb hb=>absurd rfl hb⟩,key hbs rfl rfl⟩
       . cases hd;refine ⟨⟨rfl,rfl,hl.1,by simp,by simp,by simp,by simp,by simp,λb hb=>?_⟩,key rfl rfl rfl⟩;right; left;simp only at hb ⊢;obtain q | q:=cr b h.bs.length
         . exact absurd (hl.2.2 b q (by omega)) hb
         . refine ⟨q,Nat.lt_of_not_le λq2=>hb ?_⟩;rw [bb q,bb q2]
     . rename_i hlow;cases hd;refine ⟨⟨rfl,rfl,hl.1,by simp,by simp,by simp,λ_=>by simp only; omega,λ_ b hk hle=>?_,λb hb=>?_⟩,key rfl rfl rfl⟩
       . simp only [uu,List.mem_filter,List.mem_range] at hk hle;omega
       right;simp only at hb ⊢;obtain q | q:=cr b h.bs.length
       . exact .inr ⟨trivial,Nat.le_of_not_lt λq2=>hb (hl.2.2 b q q2),q,λhk=>hb (I7 hk)⟩
       . refine .inl ⟨q,Nat.lt_of_not_le λq2=>hb ?_⟩;rw [bb q,bb q2]
   . cases hd
 . have hnc:∀ f args,r≠.call f args:=λf args hh=>hcall ⟨f,args,hh⟩;have hd':∃ h1,opM C r e h=some (v,h1)/\h'=h1/\t=⟨false,false,fM e r,dI e r,h.bs.length,h1.bs.length,0⟩:=by
    cases r<;>first | (exact absurd rfl (hnc _ _)) | skip
    all_goals
     simp only [opD] at hd;split at hd
     . rename_i v1 h1 hm;cases hd;exact ⟨_,hm,rfl,rfl⟩
     . cases hd
   obtain ⟨h1,hm,rfl,rfl⟩:=hd';obtain ⟨_,hm0,hL⟩:=wo hnc hm rfl (λ_ _=>rfl);rw [hm] at hm0;cases hm0;refine ⟨⟨rfl,rfl,hL.le,by simp,by simp,uZ e r,by simp,by simp,λb hb=>?_⟩,⟨_,by simpa using hm,rfl⟩,λhV k1 k2 k3=>?_⟩
   . by_cases hw:b∈dI e r
     . exact .inl hw
     . right; left;simp only;obtain q | q:=cr b h.bs.length
       . exact absurd (hL.old b q hw).1 hb
       . refine ⟨q,Nat.lt_of_not_le λq2=>hb ?_⟩;rw [bb q,bb q2]
   . obtain ⟨hV',m1,L⟩:=wo (hV:=hV) hnc hm k1 (λb hb=>by
      obtain q | q:=cr b h.bs.length
      . exact k3 b q (.inr hb)
      . rw [bb q,bb (by omega)])
     refine ⟨hV',m1,L.len,λb hb=>?_,λb q hn=>(L.old b q λhw=>hn (.inr (uZ e r b hw))).1⟩;obtain hb | hb | hb:=hb
     . exact L.new b (.inr hb)
     . cases hb
     . by_cases hw:b∈dI e r
       . exact L.new b (.inl hw)
       . obtain q | q:=cr b h.bs.length
         . rw [(L.old b q hw).1,(L.old b q hw).2]; exact k3 b q (.inr hb)
         . exact L.new b (.inr q)
theorem mq {C:Calls'}{o:RO}{e:Env}{h:Hp}{s:Stp}(hs:stepD C o e h=some s) :
 (opD C o.r e h=some (s.v,s.h',s.t)/\(o.g=none\/∃ j want,o.g=some (j,want)/\e.getD j .undef=.d (.bool want))) ∨
 (s.v=.tup []/\s.h'=h/\s.t=aM h/\∃ j want,o.g=some (j,want)/\((∃ t,e.getD j .undef=.d (.bool t)/\t≠want)\/e.getD j .undef=.tup [])):=by
 have key:(match opD C o.r e h with | some (v,h',t)=>some (⟨h,v,h',t⟩:Stp) | none=>none)=some s->opD C o.r e h=some (s.v,s.h',s.t):=by
  intro hy;split at hy
  . rename_i heq; cases hy; exact heq
  . cases hy
 simp only [stepD] at hs;split at hs
 . rename_i hg;exact .inl ⟨key hs,.inl hg⟩
 . rename_i j want hg;split at hs
   . rename_i t ht;split at hs
     . rename_i htw;exact .inl ⟨key hs,.inr ⟨j,want,hg,by rw [ht,htw]⟩⟩
     . rename_i htw;cases hs;exact .inr ⟨rfl,rfl,rfl,j,want,hg,.inl ⟨t,ht,htw⟩⟩
   . rename_i ht;cases hs;exact .inr ⟨rfl,rfl,rfl,j,want,hg,.inr ht⟩
   . cases hs
theorem Hr {P:Program}{C:Calls'}(hC:aQ P C){o:RO}{e:Env}{h:Hp}{s:Stp}(hs:stepD C o e h=some s):TrOk h s.h' s.t:=by
 obtain ⟨h1,_⟩ | ⟨_,h2,h3,_⟩:=mq hs
 . exact (uB hC h1).1
 . rw [h2,h3]; exact TrOk.no (h':=h)
theorem Stands.stepD {P:Program}{C:Calls'}(hC:aQ P C){ops:Array Oper}{oo:Oper}{o:RO}(hc:q9 P ops oo=some o){e:Env}{h:Hp}{s:Stp}(hs:Go.Proofs.YtllbjfmiilckiaaGreat.stepD C o e h=some s)(hS:Stands e h):Stands (gu e o.d s.v) s.h':=by
 obtain ⟨h1,_⟩ | ⟨h0,h2,h3,_⟩:=mq hs
 . obtain ⟨_,⟨h2,m1,m2⟩,_⟩:=uB hC h1;exact ((hS.bs (h':=⟨h.bs,if s.t.call=true then h.bs.length else h.low⟩) rfl).step hC (lS hc).1 m1 o.d).bs m2.symm
 . rw [h0,h2]; exact hS.skip o.d
theorem zP {C:Calls'}:∀ {os:List RO} {e:Env} {h:Hp} {l:List Stp} {e':Env} {h':Hp},lq C os e h=some (l,e',h') →
 ∃ (E:Nat->Env) (H:Nat->Hp),E 0=e/\H 0=h/\E os.length=e'/\H os.length=h'/\l.length=os.length ∧
  ∀ k (hk:k<os.length),∃ s,l[k]?=some s/\stepD C os[k] (E k) (H k)=some s/\E (k+1)=gu (E k) os[k].d s.v/\H (k+1)=s.h'
 | [],e,h,l,e',h',hr=>by
  simp only [lq,bd,cy] at hr;obtain ⟨rfl,rfl,rfl⟩:=hr;exact ⟨λ_=>e,λ_=>h,rfl,rfl,rfl,rfl,rfl,λk hk=>absurd hk (Nat.not_lt_zero _)⟩
 | o::os,e,h,l,e',h',hr=>by
  simp only [lq] at hr;split at hr
  . rename_i s hs;split at hr
    . rename_i l1 e1 h1 hr1;cases hr;obtain ⟨E,H,q1,q2,q3,q4,q5,q6⟩:=zP hr1;refine ⟨λk=>match k with | 0=>e | k+1=>E k,λk=>match k with | 0=>h | k+1=>H k,rfl,rfl,q3,q4,by simp [q5],λk hk=>?_⟩;cases k with
      | zero=>exact ⟨s,rfl,hs,q1,q2⟩
      | succ k =>
       obtain ⟨s',p1,p2,p3,p4⟩:=q6 k (by simpa using hk);exact ⟨s',by simpa using p1,by simpa using p2,by simpa using p3,p4⟩
    . cases hr
  . cases hr
theorem yQ {α:Type}{n i:Nat}{chg:Nat->Prop}{val:Nat->α}{cur cur':α}{lst lst':Nat->Prop}(hi:i<n)(hl:∀ k,lst' k↔(lst k\/k=i))(hnl:¬ lst i)(hv:∀ k,k<n->¬ chg k->val (k+1)=val k)
 (inv:∀ j,j<=n->(∀ k,k<j->chg k->lst k)->(∀ k,j<=k->k<n->chg k->¬ lst k)->cur=val j)
 (h1:chg i->cur'=val (i+1)/\∀ k,i<k->k<n->chg k->¬ lst k) (h2:¬ chg i->cur'=cur) :
 ∀ j,j<=n->(∀ k,k<j->chg k->lst' k)->(∀ k,j<=k->k<n->chg k->¬ lst' k)->cur'=val j:=by
 intro j hj ha hb;by_cases hc:chg i
 . obtain ⟨e1,e2⟩:=h1 hc;have hij:i<j:=Nat.lt_of_not_le λhle=>hb i hle hi hc ((hl i).2 (.inr rfl));have:∀ d,i+1+d<=j->val (i+1+d)=val (i+1):=by
    intro d
    induction d with
    | zero=>intro _; rfl
    | succ d ih =>
     intro hd;rw [← ih (by omega)];refine hv (i+1+d) (by omega) λhc2=>?_;obtain q | q:=(hl _).1 (ha (i+1+d) (by omega) hc2)
     . exact e2 (i+1+d) (by omega) (by omega) hc2 q
     . omega
   rw [e1,← this (j-(i+1)) (by omega)]
   congr 1; omega
 . rw [h2 hc];refine inv j hj (λk hk hck=>?_) λk hk hkn hck hlk=>hb k hk hkn hck ((hl k).2 (.inl hlk));obtain q | rfl:=(hl k).1 (ha k hk hck)
   . exact q
   . exact absurd hck hc
end
