/- Calls: what is returned, and what becomes of memory. -/
import Derived.Test.YtmahnnnccohccaaGreatPn
set_option linter.unusedVariables false
set_option linter.unusedSimpArgs false
namespace Go.Proofs.YtmahnnnccohccaaGreat
open Go.RowKit
theorem go_all (n:Nat):∀ (cs:List V),V.under.go n cs = cs.all (V.under n)
 | []=>by simp [V.under.go]
 | c :: cs=>by simp [V.under.go,go_all n cs]
section
variable {n:Nat} {ρ ρ':Rh} {S S':Nat -> Prop} {w:World}
mutual
theorem VR.under (hN:∀ i,ρ.N i -> i < n):∀ {x:V} {v:Value},VR ρ S w x v -> x.under n = true
 | .d x,v,_=>by simp [V.under]
 | .ptr b o,v,k=>by simp only [VR] at k; simp [V.under,hN _ k.1]
 | .eptr cs o,v,_=>by simp [V.under]
 | .row b o len cap z,v,k=>by simp only [VR] at k; simp [V.under,hN _ k.1]
 | .fn f cs,v,k=>by simp only [VR] at k; obtain ⟨vs,_,hv⟩:=k; simp only [V.under]; exact VRs.under hN hv
 | .mfn f cs,v,k=>by simp only [VR] at k; obtain ⟨vs,_,hv⟩:=k; simp only [V.under]; exact VRs.under hN hv
 | .agg cs,v,k=>by simp only [VR] at k; obtain ⟨vs,_,hv,_⟩:=k; simp only [V.under]; exact VRs.under hN hv
 | .tup cs,v,k=>by simp only [VR] at k; obtain ⟨vs,_,hv⟩:=k; simp only [V.under]; exact VRs.under hN hv
 | .undef,v,_=>by simp [V.under]
theorem VRs.under (hN:∀ i,ρ.N i -> i < n):∀ {xs:List V} {vs:List Value},VRs ρ S w xs vs -> V.under.go n xs = true
 | [],_,_=>by simp [V.under.go]
 | x :: xs,_,k=>by
  simp only [VRs] at k
  obtain ⟨u,us,_,h1,h2⟩:=k
  simp only [V.under.go,Bool.and_eq_true]
  exact ⟨VR.under hN h1,VRs.under hN h2⟩
end
mutual
theorem VR.shrink (hN:∀ i,ρ'.N i -> i < n -> ρ.N i) (hρ:∀ i,ρ.N i -> ρ' i = ρ i) (hS:∀ b,S' b -> S b):∀ {x:V} {v:Value},VR ρ' S' w x v -> x.under n = true -> VR ρ S w x v
 | .d x,v,k,_=>by simp only [VR] at k ⊢; exact DR.mono hS (fun _ _=>rfl) k
 | .ptr b o,v,k,hu=>by
  simp [V.under] at hu
  simp only [VR] at k ⊢
  have:=hN b k.1 hu
  exact ⟨this,by rw [← hρ b this]; exact k.2⟩
 | .eptr cs o,v,k,_=>by
  simp only [VR] at k ⊢
  obtain ⟨b,base,e,hb,hd⟩:=k
  exact ⟨b,base,e,hS b hb,DRs.mono hS (fun _ _=>rfl) hb hd⟩
 | .row b o len cap z,v,k,hu=>by
  simp [V.under] at hu
  simp only [VR] at k ⊢
  obtain ⟨hb,c,e,h1,h2,h3,h4⟩:=k
  have:=hN b hb hu
  exact ⟨this,c,by rw [← hρ b this]; exact e,h1,h2,h3,by rw [← hρ b this]; exact h4⟩
 | .fn f cs,v,k,hu=>by
  simp only [V.under] at hu
  simp only [VR] at k ⊢
  obtain ⟨vs,e,hv⟩:=k
  exact ⟨vs,e,VRs.shrink hN hρ hS hv hu⟩
 | .mfn f cs,v,k,hu=>by
  simp only [V.under] at hu
  simp only [VR] at k ⊢
  obtain ⟨vs,e,hv⟩:=k
  exact ⟨vs,e,VRs.shrink hN hρ hS hv hu⟩
 | .agg cs,v,k,hu=>by
  simp only [V.under] at hu
  simp only [VR] at k ⊢
  obtain ⟨vs,e,hv,h1⟩:=k
  exact ⟨vs,e,VRs.shrink hN hρ hS hv hu,h1⟩
 | .tup cs,v,k,hu=>by
  simp only [V.under] at hu
  simp only [VR] at k ⊢
  obtain ⟨vs,e,hv⟩:=k
  exact ⟨vs,e,VRs.shrink hN hρ hS hv hu⟩
 | .undef,v,_,_=>by simp only [VR]
theorem VRs.shrink (hN:∀ i,ρ'.N i -> i < n -> ρ.N i) (hρ:∀ i,ρ.N i -> ρ' i = ρ i) (hS:∀ b,S' b -> S b):∀ {xs:List V} {vs:List Value},VRs ρ' S' w xs vs -> V.under.go n xs = true -> VRs ρ S w xs vs
 | [],_,k,_=>by simp only [VRs] at k ⊢; exact k
 | x :: xs,_,k,hu=>by
  simp only [V.under.go,Bool.and_eq_true] at hu
  simp only [VRs] at k ⊢
  obtain ⟨u,us,e,h1,h2⟩:=k
  exact ⟨u,us,e,VR.shrink hN hρ hS h1 hu.1,VRs.shrink hN hρ hS h2 hu.2⟩
end
end
section
variable {P:Program} {B:Nat} {ρ ρ':Rh} {h h':Hp} {w w':World}
def cutρ (ρ:Rh) (n:Nat):Rh:=⟨ρ.f,ρ.X,fun i=>ρ.N i /\ i < n,fun i=>ρ.L i /\ i < n,ρ.G⟩
theorem pop_sound (hR:Rel B ρ h w) (hR':Rel B ρ' h' w') (hG:Goes B ρ w ρ' w') (hle:h.bs.length <= h'.bs.length) (hbs:∀ i,i < h.bs.length -> h'.bs[i]? = h.bs[i]?) :
 Rel B (cutρ ρ' h.bs.length) h w' /\ Goes B ρ w (cutρ ρ' h.bs.length) w' /\ ∀ {x:V} {v:Value},VR ρ' (St ρ' w') w' x v -> x.under h.bs.length = true -> VR (cutρ ρ' h.bs.length) (St (cutρ ρ' h.bs.length) w') w' x v:=by
 have hsz:w.heap.size <= w'.heap.size:=hG.below.size
 have hSS:∀ b,St ρ' w' b -> St (cutρ ρ' h.bs.length) w' b:=fun b hb=>⟨hb.1,fun i=>⟨fun hi=>(hb.2 i).1 hi.1,(hb.2 i).2⟩⟩
 have hsh:∀ {x:V} {v:Value},VR ρ' (St ρ' w') w' x v -> x.under h.bs.length = true -> VR (cutρ ρ' h.bs.length) (St (cutρ ρ' h.bs.length) w') w' x v:=fun k hu =>
  VR.shrink (ρ:=cutρ ρ' h.bs.length) (ρ':=ρ') (fun i h1 h2=>⟨h1,h2⟩) (fun i _=>rfl) hSS k hu
 have hG':Goes B ρ w (cutρ ρ' h.bs.length) w':=⟨⟨fun i hi=>⟨hG.ext.le i hi,hR.dom i hi⟩,hG.ext.rho,fun b hb=>hSS b (hG.ext.st b hb),hG.ext.same,hG.ext.own,hG.ext.x,hG.ext.xs,hG.ext.g⟩,hG.below⟩
 have heq:∀ i (hi:i < h.bs.length),h'.bs[i]'(Nat.lt_of_lt_of_le hi hle) = h.bs[i]:=by
  intro i hi
  have:=hbs i hi
  rw [List.getElem?_eq_getElem (Nat.lt_of_lt_of_le hi hle),List.getElem?_eq_getElem hi] at this
  exact Option.some.inj this
 refine ⟨⟨fun i hi=>hi.2,fun i hi=>⟨hR'.ln i hi.1,hi.2⟩,fun i hi hl=>⟨hR'.live i (Nat.lt_of_lt_of_le hi hle) (by rw [heq i hi]; exact hl),hi⟩,fun i hi=>hR'.lo i hi.1,Nat.le_trans hR.base hsz,fun i j hij li lj=>hR'.inj i j hij li.1 lj.1,fun i hi=>?_,fun c hc=>⟨(hR'.xB c hc).1,fun i hi=>(hR'.xB c hc).2 i hi.1⟩,fun c hc=>⟨fun hN=>(hR'.gB c hc).1 hN.1,(hR.gB c (by have:=hG.ext.g; rw [← this]; exact hc)).2⟩⟩,hG',hsh⟩
 have m0:=hR.mem i hi
 have m1:=hR'.mem i (Nat.lt_of_lt_of_le hi hle)
 rw [heq i hi] at m1
 cases hb:h.bs[i] with
 | iter s p=>rw [hb] at m1; simp only [BR] at m1 ⊢; exact m1
 | cells cs =>
  cases cs with
  | nil=>simp only [BR]
  | cons c cs =>
   rw [hb] at m0 m1
   simp only [BR] at m0 m1 ⊢
   obtain ⟨arr0,_,_,_,a1,_,a2⟩:=m0
   obtain ⟨arr,e,fz,b1,b2,b3,b4⟩:=m1
   refine ⟨arr,e,fz,b1,b2,b3,fun j h1 h2=>⟨?_,(b4 j h1 h2).2⟩⟩
   exact hsh (b4 j h1 h2).1 ((a2 j h1 (by omega)).1.under hR.dom)
theorem DR_scalar {S T:Nat -> Prop} {d:D} {v:Value} (hd:DR S w d v) (hs:∀ nl c cs,d ≠ .slice nl (c :: cs)):DR T w d v:=by
 cases d with
 | slice nl es =>
  cases es with
  | nil =>
   simp only [DR] at hd ⊢
   obtain ⟨a,c,e,h1,h2,h3,h4,_⟩:=hd
   exact ⟨a,c,e,h1,h2,h3,h4,fun hne=>absurd rfl hne⟩
  | cons c cs=>exact absurd rfl (hs nl c cs)
 | _=>simpa only [DR] using hd
theorem chunks_get (z:Nat):∀ (len:Nat) (ds:List D) (i:Nat) (hi:i < (dataV.chunks z ds len).length),(dataV.chunks z ds len)[i] = (ds.drop (i * z)).take z
 | 0,ds,i,hi=>by simp [dataV.chunks] at hi
 | len + 1,ds,0,hi=>by simp [dataV.chunks]
 | len + 1,ds,i + 1,hi=>by
  simp only [dataV.chunks,List.getElem_cons_succ]
  rw [chunks_get z len (ds.drop z) i]
  rw [List.drop_drop]
  congr 2
  rw [Nat.add_mul]; omega
theorem chunks_length (z:Nat):∀ (len:Nat) (ds:List D),(dataV.chunks z ds len).length = len
 | 0,ds=>rfl
 | len + 1,ds=>by simp [dataV.chunks,chunks_length z len]
theorem dataV_sound (hR:Rel B ρ h w) {S:Nat -> Prop} (hS2:∀ i,ρ.N i -> S (ρ i)):∀ (k:Nat) {v:V} {u:Value} {d:D},VRx h ρ w v u -> dataV h k v = some d -> (ownV h k v = true \/ ∀ b,St ρ w b -> S b) -> DR S w d u:=by
 have data:∀ {k:Nat} {x:D} {u:Value} , VRx h ρ w (.d x) u -> (ownV h k (.d x) = true \/ ∀ b,St ρ w b -> S b) -> DR S w x u:=by
  intro k x u hv ho
  simp only [VR] at hv
  rcases ho with ho | ho
  · refine DR_scalar hv ?_
    rintro nl c cs rfl
    cases k <;> simp [ownV] at ho
  · exact DR.mono ho (fun _ _=>rfl) hv
 intro k
 induction k with
 | zero =>
  intro v u d hv hd ho
  cases v <;> simp [dataV] at hd
  subst hd
  exact data hv ho
 | succ k ih =>
  intro v u d hv hd ho
  cases v with
  | d x =>
   simp [dataV] at hd
   subst hd
   exact data hv ho
  | row b o len cap z =>
   simp only [dataV] at hd
   split at hd
   · rename_i cs hg
     split at hd
     · rename_i l hs
       split at hd
       · rename_i ds hm
         cases hd
         obtain ⟨s1,rfl⟩:=sub_some hs
         have hmm:=mapM_some hm
         have hdl:ds.length = len * z:=by rw [hmm.1]; simp; omega
         simp only [VR] at hv
         obtain ⟨hb,c,rfl,h1,h2,h3,arr0,e0,fz0,h4,h5⟩:=hv
         simp only [DR]
         refine ⟨_,c,by rw [chunks_length],by rw [chunks_length]; exact h1,h2,by simp,by simp,fun hne=>⟨ρ b,o,z,rfl,hS2 b hb,DRss.of_get fun i hi=>?_⟩⟩
         rw [chunks_length] at hi
         have hiz:i * z + z <= len * z:=by
          have:=Nat.mul_le_mul_right z hi
          rw [Nat.succ_mul] at this
          exact this
         rw [chunks_get]
         refine ⟨by simp; omega,DRs.of_get fun j hj=>?_⟩
         simp only [List.length_take,List.length_drop] at hj
         have hjz:j < z:=by omega
         simp only [List.getElem_take,List.getElem_drop]
         have hne':cs ≠ []:=by rintro rfl; simp only [List.length_nil] at s1; omega
         obtain ⟨arr,e,fz,g1,g2,g3,g4⟩:=block_at hR hg hne'
         have hlt:o + (i * z + j) < cs.length:=by omega
         have hla:o + (i * z + j) < arr.size:=by omega
         have hcv:=(g4 _ hlt hla).1
         have hdm:=hmm.2 (i * z + j) (by simp; omega) (by omega)
         simp only [List.getElem_take,List.getElem_drop] at hdm
         refine ⟨arr[o + (i * z + j)],?_,ih hcv hdm ?_⟩
         · simp [cellAt,World.cell?,g1,Nat.add_assoc,hla]
         · rcases ho with ho | ho
           · left
             simp only [ownV,hg,List.all_eq_true] at ho
             exact ho _ (List.getElem_mem _)
           · exact .inr ho
       · cases hd
     · cases hd
   · cases hd
  | _=>simp [dataV] at hd
theorem cellsV_sound (hR:Rel B ρ h w) {S:Nat -> Prop} (hS2:∀ i,ρ.N i -> S (ρ i)) {cs:List V} {us:List Value} {l:List D} (hv:VRs ρ (St ρ w) w cs us) (hl:cellsV h cs = some l)
 (ho:cs.all (ownV h 8) = true \/ ∀ b,St ρ w b -> S b) {ρ2:Rh}:VRs ρ2 S w (l.map .d) us:=by
 have hm:=mapM_some hl
 have hlen:=hv.length
 refine VRs.of_data (by omega) fun i h1 h2=>?_
 refine dataV_sound hR hS2 8 (hv.get i (by omega) h2) (hm.2 i (by omega) h1) ?_
 rcases ho with ho | ho
 · left; exact List.all_eq_true.1 ho _ (List.getElem_mem _)
 · exact .inr ho
theorem frz1_sound (hR:Rel B ρ h w) {S:Nat -> Prop} (hS2:∀ i,ρ.N i -> S (ρ i)) {v v':V} {u:Value} (hv:VRx h ρ w v u) (hf:frz1 h v = some v') (ho:own1 h v = true \/ ∀ b,St ρ w b -> S b) (ρ2:Rh) :
 VR ρ2 S w v' u:=by
 unfold frz1 at hf
 split at hf
 · split at hf
   · rename_i cs l hl
     cases hf
     simp only [VR] at hv ⊢
     obtain ⟨vs,e,h1,h2⟩:=hv
     exact ⟨vs,e,cellsV_sound hR hS2 h1 hl (by simpa only [own1] using ho),h2⟩
   · cases hf
 · cases hf
   simp only [VR,VRs] at hv ⊢
   exact hv
 · cases hf
 · cases hf; simp only [VR]
 · rename_i h1 h2 h3 h4
   split at hf
   · rename_i d hd
     cases hf
     simp only [VR]
     refine dataV_sound hR hS2 8 hv hd ?_
     rcases ho with ho | ho
     · left
       unfold own1 at ho
       split at ho
       · exact absurd rfl (h1 _)
       · exact absurd rfl h4
       · exact absurd rfl (h2 _)
       · exact ho
     · exact .inr ho
   · cases hf
theorem frz_sound (hR:Rel B ρ h w) {S:Nat -> Prop} (hS2:∀ i,ρ.N i -> S (ρ i)) {v v':V} {u:Value} (hv:VRx h ρ w v u) (hf:frz h v = some v') (ho:ownR h v = true \/ ∀ b,St ρ w b -> S b) (ρ2:Rh) :
 VR ρ2 S w v' u:=by
 unfold frz at hf
 split at hf
 · rename_i vs
   split at hf
   · rename_i l hl
     cases hf
     simp only [VR] at hv ⊢
     obtain ⟨us,e,h1⟩:=hv
     have hm:=mapM_some hl
     have hlen:=h1.length
     refine ⟨us,e,VRs.of_get (by omega) fun i a b=>frz1_sound hR hS2 (h1.get i (by omega) b) (hm.2 i (by omega) a) ?_ ρ2⟩
     rcases ho with ho | ho
     · left
       simp only [ownR,List.all_eq_true] at ho
       exact ho _ (List.getElem_mem _)
     · exact .inr ho
   · cases hf
 · rename_i hnt
   refine frz1_sound hR hS2 hv hf ?_ ρ2
   rcases ho with ho | ho
   · left
     unfold ownR at ho
     split at ho
     · exact absurd rfl (hnt _)
     · exact ho
   · exact .inr ho
theorem frz_pure {v v':V} (hp:pureV v = true) (hf:frz h v = some v'):v' = v:=by
 unfold pureV at hp
 split at hp
 · simp [frz,frz1,dataV] at hf; exact hf.symm
 · simp [frz,frz1] at hf; exact hf.symm
 · simp [frz,frz1] at hf; exact hf.symm
 · rename_i cs
   simp only [frz,frz1] at hf
   split at hf
   · rename_i l hl
     cases hf
     congr 1
     have hm:=mapM_some hl
     apply List.ext_getElem
     · simp [hm.1]
     · intro i a b
       simp only [List.getElem_map]
       have h1:=hm.2 i b (by simpa using a)
       have h2:=List.all_eq_true.1 hp cs[i] (List.getElem_mem _)
       split at h2
       · rename_i x hx
         rw [hx] at h1 ⊢
         simp [dataV] at h1
         rw [h1]
       · cases h2
   · cases hf
 · cases hp
end
end Go.Proofs.YtmahnnnccohccaaGreat
