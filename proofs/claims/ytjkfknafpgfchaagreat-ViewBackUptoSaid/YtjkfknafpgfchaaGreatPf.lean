/- Calls: what is returned, and what becomes of memory. -/
import Derived.Test.YtjkfknafpgfchaaGreatPn
set_option linter.unusedVariables false
set_option linter.unusedSimpArgs false
namespace Go.Proofs.YtjkfknafpgfchaaGreat
section
open Go.RowKit
theorem Rc (n:Nat):∀ (cs:List V),V.under.go n cs = cs.all (V.under n)
 | []=>by simp [V.under.go]
 | c :: cs=>by simp [V.under.go,Rc n cs]
section
variable {n:Nat} {ρ ρ':Rh} {S S':Nat -> Prop} {w:World}
mutual
theorem VR.under (hN:∀ i,ρ.N i -> i < n):∀ {x:V} {v:Value},VR ρ S w x v -> x.under n = true
 | .d x,v,_=>by simp [V.under]
 | .ptr b o,v,k=>by simp only [VR] at k; simp [V.under,hN _ k.1]
 | .eptr cs o,v,_=>by simp [V.under]
 | .row b o len cap z,v,k=>by simp only [VR] at k; simp [V.under,hN _ k.1]
 | .fn f cs,v,k=>by simp only [VR] at k; obtain ⟨vs,_,hv⟩:=k; simp only [V.under]; exact VRs.under hN hv
 | .mfn f cs,v,k=>by simp only [VR] at k; obtain ⟨vs,_,hv⟩:=k; simp only [V.under]; exact VRs.under hN hv
 | .agg cs,v,k=>by simp only [VR] at k; obtain ⟨vs,_,hv,_⟩:=k; simp only [V.under]; exact VRs.under hN hv
 | .tup cs,v,k=>by simp only [VR] at k; obtain ⟨vs,_,hv⟩:=k; simp only [V.under]; exact VRs.under hN hv
 | .undef,v,_=>by simp [V.under]
theorem VRs.under (hN:∀ i,ρ.N i -> i < n):∀ {xs:List V} {vs:List Value},VRs ρ S w xs vs -> V.under.go n xs = true
 | [],_,_=>by simp [V.under.go]
 | x :: xs,_,k=>by
  simp only [VRs] at k;obtain ⟨u,us,_,h1,h2⟩:=k;simp only [V.under.go,Bool.and_eq_true];exact ⟨VR.under hN h1,VRs.under hN h2⟩
end
mutual
theorem VR.shrink (hN:∀ i,ρ'.N i -> i < n -> ρ.N i) (hρ:∀ i,ρ.N i -> ρ' i = ρ i) (hS:∀ b,S' b -> S b):∀ {x:V} {v:Value},VR ρ' S' w x v -> x.under n = true -> VR ρ S w x v
 | .d x,v,k,_=>by simp only [VR] at k ⊢; exact DR.mono hS (fun _ _=>rfl) k
 | .ptr b o,v,k,hu=>by
  simp [V.under] at hu;simp only [VR] at k ⊢;have:=hN b k.1 hu;exact ⟨this,by rw [← hρ b this]; exact k.2⟩
 | .eptr cs o,v,k,_=>by
  simp only [VR] at k ⊢;obtain ⟨b,base,e,hb,hd⟩:=k;exact ⟨b,base,e,hS b hb,DRs.mono hS (fun _ _=>rfl) hb hd⟩
 | .row b o len cap z,v,k,hu=>by
  simp [V.under] at hu;simp only [VR] at k ⊢;obtain ⟨hb,c,e,h1,h2,h3,h4⟩:=k;have:=hN b hb hu;exact ⟨this,c,by rw [← hρ b this]; exact e,h1,h2,h3,by rw [← hρ b this]; exact h4⟩
 | .fn f cs,v,k,hu=>by
  simp only [V.under] at hu;simp only [VR] at k ⊢;obtain ⟨vs,e,hv⟩:=k;exact ⟨vs,e,VRs.shrink hN hρ hS hv hu⟩
 | .mfn f cs,v,k,hu=>by
  simp only [V.under] at hu;simp only [VR] at k ⊢;obtain ⟨vs,e,hv⟩:=k;exact ⟨vs,e,VRs.shrink hN hρ hS hv hu⟩
 | .agg cs,v,k,hu=>by
  simp only [V.under] at hu;simp only [VR] at k ⊢;obtain ⟨vs,e,hv,h1⟩:=k;exact ⟨vs,e,VRs.shrink hN hρ hS hv hu,h1⟩
 | .tup cs,v,k,hu=>by
  simp only [V.under] at hu;simp only [VR] at k ⊢;obtain ⟨vs,e,hv⟩:=k;exact ⟨vs,e,VRs.shrink hN hρ hS hv hu⟩
 | .undef,v,_,_=>by simp only [VR]
theorem VRs.shrink (hN:∀ i,ρ'.N i -> i < n -> ρ.N i) (hρ:∀ i,ρ.N i -> ρ' i = ρ i) (hS:∀ b,S' b -> S b):∀ {xs:List V} {vs:List Value},VRs ρ' S' w xs vs -> V.under.go n xs = true -> VRs ρ S w xs vs
 | [],_,k,_=>by simp only [VRs] at k ⊢; exact k
 | x :: xs,_,k,hu=>by
  simp only [V.under.go,Bool.and_eq_true] at hu;simp only [VRs] at k ⊢;obtain ⟨u,us,e,h1,h2⟩:=k;exact ⟨u,us,e,VR.shrink hN hρ hS h1 hu.1,VRs.shrink hN hρ hS h2 hu.2⟩
end
end
section
variable {P:Program} {B:Nat} {ρ ρ':Rh} {h h':Hp} {w w':World}
def cutρ (ρ:Rh) (n:Nat):Rh:=⟨ρ.f,ρ.X,fun i=>ρ.N i /\ i < n,fun i=>ρ.L i /\ i < n,ρ.G⟩
theorem D6 (hR:Rel B ρ h w) (hR':Rel B ρ' h' w') (hG:Goes B ρ w ρ' w') (hle:h.bs.length <= h'.bs.length) (hbs:∀ i,i < h.bs.length -> h'.bs[i]? = h.bs[i]?) :
 Rel B (cutρ ρ' h.bs.length) h w' /\ Goes B ρ w (cutρ ρ' h.bs.length) w' /\ ∀ {x:V} {v:Value},VR ρ' (St ρ' w') w' x v -> x.under h.bs.length = true -> VR (cutρ ρ' h.bs.length) (St (cutρ ρ' h.bs.length) w') w' x v:=by
 have hsz:w.heap.size <= w'.heap.size:=hG.below.size;have hSS:∀ b,St ρ' w' b -> St (cutρ ρ' h.bs.length) w' b:=fun b hb=>⟨hb.1,fun i=>⟨fun hi=>(hb.2 i).1 hi.1,(hb.2 i).2⟩⟩;have hsh:∀ {x:V} {v:Value},VR ρ' (St ρ' w') w' x v -> x.under h.bs.length = true -> VR (cutρ ρ' h.bs.length) (St (cutρ ρ' h.bs.length) w') w' x v:=fun k hu =>
  VR.shrink (ρ:=cutρ ρ' h.bs.length) (ρ':=ρ') (fun i h1 h2=>⟨h1,h2⟩) (fun i _=>rfl) hSS k hu
 have hG':Goes B ρ w (cutρ ρ' h.bs.length) w':=⟨⟨fun i hi=>⟨hG.ext.le i hi,hR.dom i hi⟩,hG.ext.rho,fun b hb=>hSS b (hG.ext.st b hb),hG.ext.same,hG.ext.own,hG.ext.x,hG.ext.xs,hG.ext.g⟩,hG.below⟩;have heq:∀ i (hi:i < h.bs.length),h'.bs[i]'(Nat.lt_of_lt_of_le hi hle) = h.bs[i]:=by
  intro i hi;have:=hbs i hi;rw [List.getElem?_eq_getElem (Nat.lt_of_lt_of_le hi hle),List.getElem?_eq_getElem hi] at this;exact Option.some.inj this
 refine ⟨⟨fun i hi=>hi.2,fun i hi=>⟨hR'.ln i hi.1,hi.2⟩,fun i hi hl=>⟨hR'.live i (Nat.lt_of_lt_of_le hi hle) (by rw [heq i hi]; exact hl),hi⟩,fun i hi=>hR'.lo i hi.1,Nat.le_trans hR.base hsz,fun i j hij li lj=>hR'.inj i j hij li.1 lj.1,fun i hi=>?_,fun c hc=>⟨(hR'.xB c hc).1,fun i hi=>(hR'.xB c hc).2 i hi.1⟩,fun c hc=>⟨fun hN=>(hR'.gB c hc).1 hN.1,(hR.gB c (by have:=hG.ext.g; rw [← this]; exact hc)).2⟩⟩,hG',hsh⟩;have m0:=hR.mem i hi;have m1:=hR'.mem i (Nat.lt_of_lt_of_le hi hle);rw [heq i hi] at m1;cases hb:h.bs[i] with
 | iter s p=>rw [hb] at m1; simp only [BR] at m1 ⊢; exact m1
 | cells cs =>
  cases cs with
  | nil=>simp only [BR]
  | cons c cs =>
   rw [hb] at m0 m1;simp only [BR] at m0 m1 ⊢;obtain ⟨arr0,_,_,_,a1,_,a2⟩:=m0;obtain ⟨arr,e,fz,b1,b2,b3,b4⟩:=m1;refine ⟨arr,e,fz,b1,b2,b3,fun j h1 h2=>⟨?_,(b4 j h1 h2).2⟩⟩;exact hsh (b4 j h1 h2).1 ((a2 j h1 (by omega)).1.under hR.dom)
theorem CU {S T:Nat -> Prop} {d:D} {v:Value} (hd:DR S w d v) (hs:∀ nl c cs,d ≠ .slice nl (c :: cs)):DR T w d v:=by
 cases d with
 | slice nl es =>
  cases es with
  | nil =>
   simp only [DR] at hd ⊢;obtain ⟨a,c,e,h1,h2,h3,h4,_⟩:=hd;exact ⟨a,c,e,h1,h2,h3,h4,fun hne=>absurd rfl hne⟩
  | cons c cs=>exact absurd rfl (hs nl c cs)
 | _=>simpa only [DR] using hd
theorem rQ (z:Nat):∀ (len:Nat) (ds:List D) (i:Nat) (hi:i < (dataV.chunks z ds len).length),(dataV.chunks z ds len)[i] = (ds.drop (i * z)).take z
 | 0,ds,i,hi=>by simp [dataV.chunks] at hi
 | len + 1,ds,0,hi=>by simp [dataV.chunks]
 | len + 1,ds,i + 1,hi=>by
  simp only [dataV.chunks,List.getElem_cons_succ];rw [rQ z len (ds.drop z) i];rw [List.drop_drop]
  congr 2
  rw [Nat.add_mul]; omega
theorem gU (z:Nat):∀ (len:Nat) (ds:List D),(dataV.chunks z ds len).length = len
 | 0,ds=>rfl
 | len + 1,ds=>by simp [dataV.chunks,gU z len]
theorem qy (hR:Rel B ρ h w) {S:Nat -> Prop} (hS2:∀ i,ρ.N i -> S (ρ i)):∀ (k:Nat) {v:V} {u:Value} {d:D},VRx h ρ w v u -> dataV h k v = some d -> (ni h k v = true \/ ∀ b,St ρ w b -> S b) -> DR S w d u:=by
 have data:∀ {k:Nat} {x:D} {u:Value} , VRx h ρ w (.d x) u -> (ni h k (.d x) = true \/ ∀ b,St ρ w b -> S b) -> DR S w x u:=by
  intro k x u hv ho;simp only [VR] at hv;rcases ho with ho | ho
  · refine CU hv ?_;rintro nl c cs rfl;cases k <;> simp [ni] at ho
  · exact DR.mono ho (fun _ _=>rfl) hv
 intro k
 induction k with
 | zero =>
  intro v u d hv hd ho;cases v <;> simp [dataV] at hd;subst hd;exact data hv ho
 | succ k ih =>
  intro v u d hv hd ho;cases v with
  | d x =>
   simp [dataV] at hd;subst hd;exact data hv ho
  | row b o len cap z =>
   simp only [dataV] at hd;split at hd
   · rename_i cs hg;split at hd
     · rename_i l hs;split at hd
       · rename_i ds hm;cases hd;obtain ⟨s1,rfl⟩:=jb hs;have hmm:=mapM_some hm;have hdl:ds.length = len * z:=by rw [hmm.1]; simp; omega
         simp only [VR] at hv;obtain ⟨hb,c,rfl,h1,h2,h3,arr0,e0,fz0,h4,h5⟩:=hv;simp only [DR];refine ⟨_,c,by rw [gU],by rw [gU]; exact h1,h2,by simp,by simp,fun hne=>⟨ρ b,o,z,rfl,hS2 b hb,DRss.of_get fun i hi=>?_⟩⟩;rw [gU] at hi;have hiz:i * z + z <= len * z:=by
          have:=Nat.mul_le_mul_right z hi;rw [Nat.succ_mul] at this;exact this
         rw [rQ];refine ⟨by simp; omega,DRs.of_get fun j hj=>?_⟩;simp only [List.length_take,List.length_drop] at hj;have hjz:j < z:=by omega
         simp only [List.getElem_take,List.getElem_drop];have hne':cs ≠ []:=by rintro rfl; simp only [List.length_nil] at s1; omega
         obtain ⟨arr,e,fz,g1,g2,g3,g4⟩:=eQ hR hg hne';have hlt:o + (i * z + j) < cs.length:=by omega
         have hla:o + (i * z + j) < arr.size:=by omega
         have hcv:=(g4 _ hlt hla).1;have hdm:=hmm.2 (i * z + j) (by simp; omega) (by omega);simp only [List.getElem_take,List.getElem_drop] at hdm;refine ⟨arr[o + (i * z + j)],?_,ih hcv hdm ?_⟩
         · simp [cellAt,World.cell?,g1,Nat.add_assoc,hla]
         · rcases ho with ho | ho
           · left;simp only [ni,hg,List.all_eq_true] at ho;exact ho _ (List.getElem_mem _)
           · exact .inr ho
       · cases hd
     · cases hd
   · cases hd
  | _=>simp [dataV] at hd
theorem uZ (hR:Rel B ρ h w) {S:Nat -> Prop} (hS2:∀ i,ρ.N i -> S (ρ i)) {cs:List V} {us:List Value} {l:List D} (hv:VRs ρ (St ρ w) w cs us) (hl:fC h cs = some l)
 (ho:cs.all (ni h 8) = true \/ ∀ b,St ρ w b -> S b) {ρ2:Rh}:VRs ρ2 S w (l.map .d) us:=by
 have hm:=mapM_some hl;have hlen:=hv.length;refine VRs.of_data (by omega) fun i h1 h2=>?_;refine qy hR hS2 8 (hv.get i (by omega) h2) (hm.2 i (by omega) h1) ?_;rcases ho with ho | ho
 · left; exact List.all_eq_true.1 ho _ (List.getElem_mem _)
 · exact .inr ho
theorem sD (hR:Rel B ρ h w) {S:Nat -> Prop} (hS2:∀ i,ρ.N i -> S (ρ i)) {v v':V} {u:Value} (hv:VRx h ρ w v u) (hf:dD h v = some v') (ho:tY h v = true \/ ∀ b,St ρ w b -> S b) (ρ2:Rh) :
 VR ρ2 S w v' u:=by
 unfold dD at hf;split at hf
 · split at hf
   · rename_i cs l hl;cases hf;simp only [VR] at hv ⊢;obtain ⟨vs,e,h1,h2⟩:=hv;exact ⟨vs,e,uZ hR hS2 h1 hl (by simpa only [tY] using ho),h2⟩
   · cases hf
 · cases hf;simp only [VR,VRs] at hv ⊢;exact hv
 · cases hf
 · cases hf; simp only [VR]
 · rename_i h1 h2 h3 h4;split at hf
   · rename_i d hd;cases hf;simp only [VR];refine qy hR hS2 8 hv hd ?_;rcases ho with ho | ho
     · left;unfold tY at ho;split at ho
       · exact absurd rfl (h1 _)
       · exact absurd rfl h4
       · exact absurd rfl (h2 _)
       · exact ho
     · exact .inr ho
   · cases hf
theorem uu (hR:Rel B ρ h w) {S:Nat -> Prop} (hS2:∀ i,ρ.N i -> S (ρ i)) {v v':V} {u:Value} (hv:VRx h ρ w v u) (hf:frz h v = some v') (ho:lv h v = true \/ ∀ b,St ρ w b -> S b) (ρ2:Rh) :
 VR ρ2 S w v' u:=by
 unfold frz at hf;split at hf
 · rename_i vs;split at hf
   · rename_i l hl;cases hf;simp only [VR] at hv ⊢;obtain ⟨us,e,h1⟩:=hv;have hm:=mapM_some hl;have hlen:=h1.length;refine ⟨us,e,VRs.of_get (by omega) fun i a b=>sD hR hS2 (h1.get i (by omega) b) (hm.2 i (by omega) a) ?_ ρ2⟩;rcases ho with ho | ho
     · left;simp only [lv,List.all_eq_true] at ho;exact ho _ (List.getElem_mem _)
     · exact .inr ho
   · cases hf
 · rename_i hnt;refine sD hR hS2 hv hf ?_ ρ2;rcases ho with ho | ho
   · left;unfold lv at ho;split at ho
     · exact absurd rfl (hnt _)
     · exact ho
   · exact .inr ho
theorem Gj {v v':V} (hp:cO v = true) (hf:frz h v = some v'):v' = v:=by
 unfold cO at hp;split at hp
 · simp [frz,dD,dataV] at hf; exact hf.symm
 · simp [frz,dD] at hf; exact hf.symm
 · simp [frz,dD] at hf; exact hf.symm
 · rename_i cs;simp only [frz,dD] at hf;split at hf
   · rename_i l hl;cases hf
     congr 1
     have hm:=mapM_some hl;apply List.ext_getElem
     · simp [hm.1]
     · intro i a b;simp only [List.getElem_map];have h1:=hm.2 i b (by simpa using a);have h2:=List.all_eq_true.1 hp cs[i] (List.getElem_mem _);split at h2
       · rename_i x hx;rw [hx] at h1 ⊢;simp [dataV] at h1;rw [h1]
       · cases h2
   · cases hf
 · cases hp
end
end
section
open Go.RowKit
section
variable {P:Program} {B:Nat} {ρ ρ':Rh} {h h':Hp} {w w':World} {e:Env} {a:Act}
theorem qb (hR:Rel B ρ h w) (hE:ER ρ w e a.tmps) (g:ResultVar -> Sem Value) (g1:∀ t,g (.tmp t) = pure (a.tmps.getD t undef)) (g2:∀ x t,g (.cell x t) = (do loadVar t (← asAddr (a.tmps.getD x undef)))) :
 ∀ (l:List ResultVar) (rs:List RV) (vs:List V),l.mapM (AO P) = some rs -> qa h e rs = some vs →
 ∃ us:List Value,(l.mapM g).run P w = .ok us w /\ VRs ρ (St ρ w) w vs us
 | [],rs,vs,hm,hv=>by
  simp at hm; subst hm;simp [qa] at hv; subst hv;exact ⟨[],by simp,by simp [VRs]⟩
 | r :: l,rs,vs,hm,hv=>by
  simp only [List.mapM_cons] at hm;replace hm:=ae hm; obtain ⟨q,hq,hm⟩:=hm;replace hm:=ae hm; obtain ⟨qs,hqs,hm⟩:=hm;cases hm;cases r with
  | tmp t =>
   simp [AO] at hq;subst hq;simp only [qa] at hv;split at hv
   · rename_i us1 h1;cases hv;obtain ⟨us,k1,k2⟩:=qb hR hE g g1 g2 l qs _ hqs h1;refine ⟨a.tmps.getD t undef :: us,?_,?_⟩
     · simp only [List.mapM_cons,g1,Sem.run_bind,Sem.run_pure,Result.andThen_ok,k1]
     · simp only [VRs]; exact ⟨_,_,rfl,hE.2 t,k2⟩
   · cases hv
  | cell x t =>
   simp only [AO] at hq;replace hq:=ae hq; obtain ⟨n,hn,hq⟩:=hq;split at hq
   · cases hq
   · rename_i hn0;replace hq:=ae hq; obtain ⟨ag,ha,hq⟩:=hq;cases hq;simp only [qa] at hv;split at hv
     · rename_i cs hcs;split at hv
       · rename_i v vs1 hmk h1;cases hv;obtain ⟨us,k1,k2⟩:=qb hR hE g g1 g2 l qs _ hqs h1;obtain ⟨b,o,ws,e1,l1,l2,l3,l4⟩:=oC hR (by omega) (hE.2 x) hcs;have hlist:=run_loadCells_list (P:=P) w ⟨b,o,none⟩ ws (fun j v hv=>by rw [add_plain']; exact l2 j v hv);have hload:(loadVar t ⟨b,o,none⟩).run P w = .ok (bM ag ws) w:=by
          cases ag with
          | true=>simp [loadVar,iO ha,run_sizeOf hn,← l1,hlist,bM]
          | false =>
           rcases oH hmk with ⟨_,rfl⟩ | ⟨h2,_⟩
           · simp only [VRs] at l3;obtain ⟨u,us',rfl,h3,rfl⟩:=l3;have:=l2 0 u rfl;simp only [Nat.add_zero] at this;simp [loadVar,iO ha,load,Sem.run,this,bM]
           · cases h2
         refine ⟨bM ag ws :: us,?_,?_⟩
         · simp only [List.mapM_cons,g2,Sem.run_bind,e1,asAddr,Sem.run_pure,Result.andThen_ok,hload,k1]
         · simp only [VRs]; exact ⟨_,_,rfl,oI l3 l4 hmk,k2⟩
       · cases hv
     · cases hv
theorem uf (hR:Rel B ρ h w) (hE:ER ρ w e a.tmps) {fn:Func} {rs:List RV} {vs:List V} (hm:fn.results.toList.mapM (AO P) = some rs) (hv:qa h e rs = some vs) :
 ∃ u,(results fn a.tmps).run P w = .ok u w /\ VRx h ρ w (bE vs) u:=by
 obtain ⟨us,k1,k2⟩:=qb hR hE (fun
  | .tmp t=>pure (a.tmps.getD t undef)
  | .cell x t=>do loadVar t (← asAddr (a.tmps.getD x undef))) (fun _=>rfl) (fun _ _=>rfl) _ rs vs hm hv
 have hrun:(results fn a.tmps).run P w = .ok (if h:us.toArray.size = 1 then us.toArray[0] else .tuple us.toArray) w:=by
  unfold results;rw [Array.mapM_eq_mapM_toList];simp only [Sem.run_bind];have:∀ (x:Sem (List Value)),x.run P w = .ok us w -> (Functor.map List.toArray x).run P w = .ok us.toArray w:=by
   intro x hx;simp [hx]
  have h2:=this _ k1;first | (rw [h2]; rfl) | (erw [h2]; rfl)
 refine ⟨_,hrun,?_⟩;unfold bE;split
 · rename_i v;simp only [VRs] at k2;obtain ⟨u,us',rfl,h1,rfl⟩:=k2;simpa using h1
 · rename_i hne;have hl:=k2.length;have:us.toArray.size ≠ 1:=by
    intro h1;simp at h1;rw [h1] at hl
    match vs,hl with
    | [v],_=>exact hne v rfl
   rw [dif_neg this];simp only [VR];exact ⟨_,rfl,by simpa using k2⟩
def BD (P:Program) (F:FuncId -> Option RF):Prop:=∀ f rf,F f = some rf -> ∃ fn c,P.funcs[f]? = some fn /\ fn.body = some c /\ comp P c = some rf.code.strip /\ rf.ntmps = fn.ntmps /\ fn.results.toList.mapM (AO P) = some rf.res /\ fn.name ≠ "runtime.NumGoroutine"
theorem rH {C:Calls'} (hC:aL P C) (hD:uM P C) {f:FuncId} {fn:Func} {c:Code} {rf:RF} (hf:P.funcs[f]? = some fn) (hb:fn.body = some c) (hc:comp P c = some rf.code.strip) (hn:rf.ntmps = fn.ntmps) (hr:fn.results.toList.mapM (AO P) = some rf.res)
 {n:Nat} {args:List V} {r:V} (hm:mG C n rf args h = some (r,h')) (hR:Rel B ρ h w) {vs:Array Value} (hv:VRs ρ (St ρ w) w args vs.toList):Calls P f vs w (je B ρ h w r h'):=by
 have hlen:=hv.length;simp only [Array.length_toList] at hlen;have hE:ER ρ w (args ++ List.replicate (rf.ntmps - args.length) .undef) (vs ++ Array.replicate (fn.ntmps - vs.size) undef):=by
  refine ⟨by simp [hlen,hn],fun i=>?_⟩;rw [List.getD_eq_getElem?_getD,Array.getD_eq_getD_getElem?];rcases Nat.lt_or_ge i args.length with h1 | h1
  · rw [List.getElem?_append_left h1,Array.getElem?_append_left (by omega)];have:=hv.get i h1 (by simpa using (by omega:i < vs.size));simp only [Array.getElem_toList] at this;rw [List.getElem?_eq_getElem h1,Array.getElem?_eq_getElem (by omega)];exact this
  · rw [List.getElem?_append_right h1];have:((List.replicate (rf.ntmps - args.length) V.undef)[i - args.length]?).getD .undef = .undef:=by
     rcases Nat.lt_or_ge (i - args.length) (rf.ntmps - args.length) with h2 | h2
     · simp [h2]
     · rw [List.getElem?_eq_none (by simpa using h2)]; rfl
    rw [this];simp only [VR]
 refine calls_of_wp hf hb ?_;have fin:∀ (ex:Ex) (e1:Env) (h1:Hp),(ex = .normal \/ ex = .ret) -> aT C n rf.code (args ++ List.replicate (rf.ntmps - args.length) .undef) h = some (ex,e1,h1) -> (match qa h1 e1 rf.res with | some vs=>some (bE vs,h1) | none=>none) = some (r,h') →
  c.wp P (bodyPost P fn (je B ρ h w r h')) { tmps:=vs ++ Array.replicate (fn.ntmps - vs.size) undef,defers:=[] } w:=by
  intro ex e1 h1 hex hcode hres;split at hres
  · rename_i us hus;cases hres;refine Kc hC hD n c rf.code hc hcode hR hE fun a' w' ⟨ρ',k1,k2,k3,k4⟩=>?_;obtain ⟨u,q1,q2⟩:=uf k1 k3 hr hus;have:a'.defers = []:=k4;rcases hex with rfl | rfl
    · exact ⟨this,u,q1,u,ρ',rfl,k1,k2,q2⟩
    · exact ⟨this,u,q1,u,ρ',rfl,k1,k2,q2⟩
  · cases hres
 unfold mG at hm;split at hm
 · rename_i e1 h1 hcode;exact fin .normal e1 h1 (.inl rfl) hcode hm
 · rename_i e1 h1 hcode;exact fin .ret e1 h1 (.inr rfl) hcode hm
 · cases hm
theorem bC {f:FuncId} {fn:Func} {c:Code} (hf:P.funcs[f]? = some fn) (hb:fn.body = some c) (hn:fn.name ≠ "runtime.NumGoroutine") (vs:Array Value) (w:World):(callFunc f vs).run P w = .ok (.enter f vs) w:=by
 simp [callFunc,run_program,hf,hb,hn]
theorem lu {C:Calls'} (hC:aL P C):∀ {os:List RO} {e:Env} {h:Hp} {e':Env} {h':Hp},iU C os e h = some (e',h') -> LowOk h h'
 | [],e,h,e',h',hm=>by simp only [iU,Option.some.injEq,Prod.mk.injEq] at hm; rw [hm.2]; exact LowOk.refl _
 | o :: os,e,h,e',h',hm=>by
  simp only [iU] at hm;split at hm
  · split at hm
    · split at hm
      · split at hm
        · rename_i v h1 h2;exact (qY hC h2).trans (lu hC hm)
        · cases hm
      · exact lu hC hm
    · exact lu hC hm
    · cases hm
  · split at hm
    · rename_i v h1 h2;exact (qY hC h2).trans (lu hC hm)
    · cases hm
theorem KY {C:Calls'} (hC:aL P C) {r:R} {e:Env} {h:Hp} {v:V} {h':Hp} {t:Tr} (hm:opD C r e h = some (v,h',t)):LowOk h h':=by
 have other:(match opM C r e h with | some (v,h')=>some (v,h',(⟨false,false,eU e r,dm e r,h.bs.length,h'.bs.length,0⟩:Tr)) | none=>none) = some (v,h',t) -> LowOk h h':=by
  intro hm;split at hm
  · rename_i v1 h1 h2;cases hm;exact qY hC h2
  · cases hm
 cases r with
 | call f args =>
  simp only [opD] at hm;split at hm
  · rename_i v1 h1 h2;have hl:LowOk ⟨h.bs,h.bs.length⟩ h1:=by
     unfold ed at h2;split at h2
     · exact (hC _ _ _ _ _ h2).2.1
     · exact (hC _ _ _ _ _ h2).2.1
     · cases h2
    split at hm
    · rename_i hlow;split at hm
      · cases hm; exact LowOk.refl _
      · cases hm; exact ⟨hl.1,Nat.le_refl _,fun i hi _=>hl.2.2 i hi (by omega)⟩
    · cases hm;exact ⟨hl.1,Nat.min_le_left _ _,fun i hi hlt=>hl.2.2 i hi (by simp only at hlt; omega)⟩
  · cases hm
 | _=>exact other hm
theorem ED {C:Calls'} (hC:aL P C) {o:RO} {e:Env} {h:Hp} {x:Stp} (hm:stepD C o e h = some x):LowOk h x.h':=by
 have key:∀ y:Stp,(match opD C o.r e h with | some (v,h',t)=>some (⟨h,v,h',t⟩:Stp) | none=>none) = some y -> LowOk h y.h':=by
  intro y hy;split at hy
  · rename_i v h1 t h2;cases hy;exact KY hC h2
  · cases hy
 simp only [stepD] at hm;split at hm
 · exact key _ hm
 · split at hm
   · split at hm
     · exact key _ hm
     · cases hm; exact LowOk.refl _
   · cases hm; exact LowOk.refl _
   · cases hm
theorem yD {C:Calls'} (hC:aL P C):∀ {os:List RO} {e:Env} {h:Hp} {l:List Stp} {e':Env} {h':Hp},kC C os e h = some (l,e',h') -> LowOk h h'
 | [],e,h,l,e',h',hm=>by simp only [kC,Option.some.injEq,Prod.mk.injEq] at hm; rw [hm.2.2]; exact LowOk.refl _
 | o :: os,e,h,l,e',h',hm=>by
  simp only [kC] at hm;split at hm
  · rename_i s hs;split at hm
    · rename_i l1 e1 h1 hr;cases hm;exact (ED hC hs).trans (yD hC hr)
    · cases hm
  · cases hm
theorem dw {C:Calls'} (hC:aL P C):∀ {n:Nat} {c:RC} {e:Env} {h:Hp} {ex:Ex} {e':Env} {h':Hp},aT C n c e h = some (ex,e',h') -> LowOk h h'
 | 0,c,e,h,ex,e',h',hm=>by simp [aT] at hm
 | n + 1,c,e,h,ex,e',h',hm=>by
  cases c with
  | skip=>simp only [aT] at hm; cases hm; exact LowOk.refl _
  | ret=>simp only [aT] at hm; cases hm; exact LowOk.refl _
  | exit i=>simp only [aT] at hm; cases hm; exact LowOk.refl _
  | reg pr os =>
   cases pr with
   | none =>
    simp only [aT] at hm;split at hm
    · rename_i e1 h1 ho; cases hm; exact lu hC ho
    · cases hm
   | some pr =>
    simp only [aT,sV] at hm;split at hm
    · rename_i e1 h1 ho;cases hm;split at ho
      · rename_i l e2 h2 hr;split at ho
        · cases ho; exact yD hC hr
        · cases ho
      · cases ho
    · cases hm
  | seq a b =>
   simp only [aT] at hm;split at hm
   · rename_i e1 h1 h2;exact (dw hC h2).trans (dw hC hm)
   · exact dw hC hm
  | cond x a b =>
   simp only [aT] at hm;split at hm
   · exact dw hC hm
   · cases hm
  | block i b =>
   simp only [aT] at hm;split at hm
   · rename_i j e1 h1 h2;split at hm
     · cases hm; exact dw hC h2
     · cases hm; exact dw hC h2
   · exact dw hC hm
  | loop dead b =>
   simp only [aT] at hm;split at hm
   · rename_i e1 h1 h2;exact (dw hC h2).trans (dw hC hm)
   · exact dw hC hm
theorem um {C:Calls'} (hC:aL P C) {n:Nat} {rf:RF} {args:List V} {h:Hp} {r:V} {h':Hp} (hm:mG C n rf args h = some (r,h')):LowOk h h':=by
 have key:∀ (e1:Env) (h1:Hp),(match qa h1 e1 rf.res with | some vs=>some (bE vs,h1) | none=>none) = some (r,h') -> h' = h1:=by
  intro e1 h1 hh;split at hh
  · cases hh; rfl
  · cases hh
 unfold mG at hm;split at hm
 · rename_i e1 h1 hcode;rw [key e1 h1 hm]; exact dw hC hcode
 · rename_i e1 h1 hcode;rw [key e1 h1 hm]; exact dw hC hcode
 · cases hm
theorem pI (hR:Rel B ρ h w) (hb:Below w.heap.size w w'):Rel B ρ h w' /\ Goes B ρ w ρ w':=by
 have hx:Ext ρ (St ρ w) w ρ (St ρ w') w':=⟨fun _ h=>h,fun _ _=>rfl,fun b hs=>⟨Nat.lt_of_lt_of_le hs.1 hb.size,hs.2⟩,fun b hs=>hb.block b hs.1,
  fun i hi arr e fz k=>⟨arr,fz,by rw [hb.block _ (hR.lo i hi).2]; exact k,rfl⟩,rfl,fun b hs=>hb.block b (hR.xB b hs).1,rfl⟩
 refine ⟨⟨hR.dom,hR.ln,hR.live,fun i hi=>⟨(hR.lo i hi).1,Nat.lt_of_lt_of_le (hR.lo i hi).2 hb.size⟩,Nat.le_trans hR.base hb.size,hR.inj,fun i hi=>?_,fun c hc=>⟨Nat.lt_of_lt_of_le (hR.xB c hc).1 hb.size,(hR.xB c hc).2⟩,hR.gB⟩,hx,hb.mono hR.base⟩;by_cases l:h.bs[i].live = true
 · exact (hR.mem i hi).ext hx (hb.block _ (hR.lo i (hR.ln i (hR.live i hi l))).2)
 · rw [qU l]; simp only [BR]
theorem La {ρ2:Rh} {S S':Nat -> Prop} (hS:∀ b,S b -> S' b) {v:V} {u:Value} (hp:cO v = true) (hv:VR ρ S w v u):VR ρ2 S' w v u:=by
 unfold cO at hp;split at hp
 · simp only [VR] at hv ⊢; exact DR.mono hS (fun _ _=>rfl) hv
 · simp only [VR,VRs] at hv ⊢; exact hv
 · simp only [VR]
 · rename_i cs;simp only [VR] at hv ⊢;obtain ⟨vs,e,h1,h2⟩:=hv;refine ⟨vs,e,VRs.of_get h1.length fun i a b=>?_,h2⟩;have h3:=h1.get i a b;have h4:=List.all_eq_true.1 hp cs[i] (List.getElem_mem _);split at h4
   · rename_i x hx;rw [hx] at h3 ⊢;simp only [VR] at h3 ⊢;exact DR.mono hS (fun _ _=>rfl) h3
   · cases h4
 · cases hp
theorem byValue {f:FuncId} {vs:Array Value} {args as:List V} {r1 r':V} {h1:Hp} (hR:Rel B ρ h w) (hv:VRs ρ (St ρ w) w args vs.toList) (has:args.mapM (frz h) = some as) (hfr:frz h1 r1 = some r') (hcond:args.all cO = true \/ lv h1 r1 = true)
 (hcall:∀ (ρc:Rh),Rel w.heap.size ρc ⟨[],0⟩ w -> VRs ρc (St ρc w) w as vs.toList -> Calls P f vs w (je w.heap.size ρc ⟨[],0⟩ w r1 h1)):Calls P f vs w (je B ρ h w r' h):=by
 have hlen:=hv.length;have hmm:=mapM_some has;have hX:∀ b,(ρ.X b \/ ∃ i,ρ.L i /\ ρ i = b) -> b < w.heap.size:=by
  rintro b (hb | ⟨i,hi,rfl⟩)
  · exact (hR.xB b hb).1
  · exact (hR.lo i (hR.ln i hi)).2
 have NJ:∀ X:Nat -> Prop,(∀ b,X b -> b < w.heap.size) -> Rel w.heap.size ⟨fun _=>0,X,fun _=>False,fun _=>False,fun _=>False⟩ ⟨[],0⟩ w:=fun X hXX =>
  ⟨fun i hi=>hi.elim,fun i hi=>hi.elim,fun i hi=>by simp at hi,fun i hi=>hi.elim,Nat.le_refl _,fun i j _ hi=>hi.elim,fun i hi=>by simp at hi,fun b hb=>⟨hXX b hb,fun i hi=>hi.elim⟩,fun b hb=>hb.elim⟩
 have back:∀ (ρc:Rh) (e':Ending) (w':World),(lv h1 r1 = true \/ ρc.X = fun b=>ρ.X b \/ ∃ i,ρ.L i /\ ρ i = b) -> je w.heap.size ρc ⟨[],0⟩ w r1 h1 e' w' -> je B ρ h w r' h e' w':=by
  intro ρc e' w' ho ⟨u,ρ',q1,q2,q3,q4⟩;obtain ⟨k1,k2⟩:=pI hR q3.below;refine ⟨u,ρ,q1,k1,k2,?_⟩;have hS2:∀ i,ρ'.N i -> St ρ w' (ρ' i):=fun i hi=>by
   have:=q2.lo i hi;refine ⟨this.2,fun j=>⟨fun hj e=>?_,fun hx=>?_⟩⟩
   · have:=(hR.lo j (hR.ln j hj)).2; omega
   · have:=hX _ (.inl hx); omega
  refine uu q2 hS2 q4 hfr ?_ _;rcases ho with ho | ho
  · exact .inl ho
  · right;intro b hb;have hx:¬ ρ'.X b:=(hb.2 0).2;rw [q3.ext.x,ho] at hx;refine ⟨hb.1,fun i=>⟨fun hi e=>hx (.inr ⟨i,hi,e⟩),fun h9=>hx (.inl h9)⟩⟩
 rcases hcond with hp | ho
 · have hall:=List.all_eq_true.1 hp;have heq:as = args:=by
    apply List.ext_getElem hmm.1;intro i a b;exact Gj (hall _ (List.getElem_mem b)) (hmm.2 i b a)
   refine (hcall ⟨fun _=>0,fun b=>ρ.X b \/ ∃ i,ρ.L i /\ ρ i = b,fun _=>False,fun _=>False,fun _=>False⟩ (NJ _ hX) ?_).mono fun e' w' hq=>back _ e' w' (.inr rfl) hq;have hS:∀ b,St ρ w b -> St ⟨fun _=>0,fun b=>ρ.X b \/ ∃ i,ρ.L i /\ ρ i = b,fun _=>False,fun _=>False,fun _=>False⟩ w b:=fun b hb=>⟨hb.1,fun i=>⟨fun hi=>hi.elim,fun hx=>by
    rcases hx with hx | ⟨j,hj,e⟩
    · exact (hb.2 0).2 hx
    · exact (hb.2 j).1 hj e⟩⟩
   rw [heq];exact VRs.of_get hlen fun i a b=>La hS (hall _ (List.getElem_mem a)) (hv.get i a b)
 · refine (hcall ⟨fun _=>0,fun _=>False,fun _=>False,fun _=>False,fun _=>False⟩ (NJ _ (fun b hb=>hb.elim)) ?_).mono fun e' w' hq=>back _ e' w' (.inl ho) hq;refine VRs.of_get (by rw [hmm.1]; exact hlen) fun i a b=>?_;have hS:∀ b,b < w.heap.size -> St ⟨fun _=>0,fun _=>False,fun _=>False,fun _=>False,fun _=>False⟩ w b:=fun b hb=>⟨hb,fun i=>⟨fun hi=>hi.elim,fun hx=>hx⟩⟩;exact uu hR (S:=St ⟨fun _=>0,fun _=>False,fun _=>False,fun _=>False,fun _=>False⟩ w) (fun i hi=>hS _ (hR.lo i hi).2) (hv.get i (by omega) b) (hmm.2 i (by omega) a) (.inr fun b hb=>hS b hb.1) _
theorem Jh {E:Calls'} (hE:aL P E) {F:FuncId -> Option RF} (val:FuncId -> Bool) (hT:BD P F) (hD:∀ C,aL P C -> uM P C):∀ k,aL P (ug E F val k)
 | 0=>fun f args h r h' hm=>by simp [ug] at hm
 | k + 1=>by
  have ih:=Jh hE val hT hD k;intro f args h r h' hm;simp only [ug] at hm;split at hm
  · exact hE _ _ _ _ _ hm
  · rename_i rf hF;obtain ⟨fn,c,hf,hb,hc,hn,hr,hname⟩:=hT f rf hF;refine ⟨fun vs w=>bC hf hb hname vs w,?_,?_⟩
    · split at hm
      · split at hm
        · cases hm
        · split at hm
          · cases hm
          · split at hm
            · cases hm
            · split at hm
              · cases hm; exact LowOk.refl _
              · cases hm
      · split at hm
        · cases hm
        · rename_i r1 h1 hbody;have hl:=um ih hbody;split at hm
          · cases hm; exact LowOk.refl _
          · cases hm;exact ⟨hl.1,Nat.min_le_left _ _,fun i hi hlt=>hl.2.2 i hi (by simp only at hlt; omega)⟩
    · intro B ρ w vs hR hv;split at hm
      ·
        split at hm
        · cases hm
        · rename_i as has;split at hm
          · cases hm
          · rename_i r1 h1 hbody;split at hm
            · cases hm
            · rename_i r2 hfr;split at hm
              · rename_i hcond;cases hm;exact byValue hR hv has hfr hcond fun ρc k1 k2=>rH ih (hD _ ih) hf hb hc hn hr hbody k1 k2
              · cases hm
      · split at hm
        · cases hm
        · rename_i r1 h1 hbody;have hR0:Rel B ρ ⟨h.bs,h.bs.length⟩ w:=⟨hR.dom,hR.ln,hR.live,hR.lo,hR.base,hR.inj,hR.mem,hR.xB,hR.gB⟩;have hl:=um ih hbody;refine (rH ih (hD _ ih) hf hb hc hn hr hbody hR0 hv).mono fun e' w' ⟨u,ρ',q1,q2,q3,q4⟩=>?_;split at hm
          · rename_i hpop;cases hm;obtain ⟨k1,k2,k3⟩:=D6 hR q2 q3 hl.1 (fun i hi=>hl.2.2 i hi (by omega));exact ⟨u,_,q1,k1,k2,k3 q4 hpop.2⟩
          · cases hm;exact ⟨u,ρ',q1,⟨q2.dom,q2.ln,q2.live,q2.lo,q2.base,q2.inj,q2.mem,q2.xB,q2.gB⟩,q3,q4⟩
end
end
end Go.Proofs.YtjkfknafpgfchaaGreat
