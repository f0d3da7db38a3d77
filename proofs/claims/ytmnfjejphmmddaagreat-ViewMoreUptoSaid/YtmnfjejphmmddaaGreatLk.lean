/- A row of numbers that is handed on, and not looked at again: it is data from now on. -/
import Derived.Test.YtmnfjejphmmddaaGreatQt
set_option maxRecDepth 100000
set_option linter.unusedVariables false
set_option linter.unusedSimpArgs false
namespace Go.Proofs.YtmnfjejphmmddaaGreat
open Go.RowKit
def isNum:V -> Bool
 | .d (.int _ _)=>true
 | _=>false
def numD:V -> D
 | .d x=>x
 | _=>.nilp
def sealA (h:Hp):List V -> Option (List V × Hp)
 | [a,.agg [x,.row b 0 n cap 1]]=>match h.get b with
  | some cs=>if (pureV a = true /\ pureV (.agg [x]) = true) /\ (cs.length = n /\ cs.all isNum = true) then some ([a,.agg [x,.d (.slice false (cs.map fun v=>[numD v]))]],⟨h.bs.set b (.cells []),min h.low b⟩) else none
  | none=>none
 | _=>none
def sealC (C:Calls'):Calls':=fun f args h=>match sealA h args with
 | some (as,h')=>C f as h'
 | none=>none
theorem seal_rel {B:Nat} {ρ:Rh} {h:Hp} {w:World} (hR:Rel B ρ h w) (b lw:Nat) :
 Rel B ⟨ρ.f,ρ.X,ρ.N,fun i=>ρ.L i /\ i ≠ b,ρ.G⟩ ⟨h.bs.set b (.cells []),lw⟩ w /\ Goes B ρ w ⟨ρ.f,ρ.X,ρ.N,fun i=>ρ.L i /\ i ≠ b,ρ.G⟩ w:=by
 have hk:=kill_rel hR b lw
 have hx:Ext ρ (St ρ w) w ⟨ρ.f,ρ.X,ρ.N,fun i=>ρ.L i /\ i ≠ b,ρ.G⟩ (St ⟨ρ.f,ρ.X,ρ.N,fun i=>ρ.L i /\ i ≠ b,ρ.G⟩ w) w :=
  ⟨fun _ h=>h,fun _ _=>rfl,fun c hc=>⟨hc.1,fun i=>⟨fun hi=>(hc.2 i).1 hi.1,(hc.2 0).2⟩⟩,fun _ _=>rfl,fun i hi arr e fz k=>⟨arr,fz,k,rfl⟩,rfl,fun _ _=>rfl,rfl⟩
 refine ⟨⟨hk.dom,fun i hi=>hk.ln i hi.1,fun i hi hl=>⟨hk.live i hi hl,?_⟩,hk.lo,hk.base,fun i j hij hi hj=>hk.inj i j hij hi.1 hj.1,fun i hi=>?_,fun c hc=>⟨(hk.xB c hc).1,fun i hi=>(hk.xB c hc).2 i hi.1⟩,hk.gB⟩,hx,Below.refl _ _⟩
 · rintro rfl
   simp [Blk.live] at hl
 · exact (hk.mem i hi).ext hx rfl
theorem seal_row {B:Nat} {ρ:Rh} {h:Hp} {w:World} (hR:Rel B ρ h w) {b n:Nat} {cap:Option Nat} {cs:List V} {u:Value} (hg:h.get b = some cs) (hn:cs.length = n) (hall:cs.all isNum = true) (hv:VR ρ (St ρ w) w (.row b 0 n cap 1) u) :
 DR (St ⟨ρ.f,ρ.X,ρ.N,fun i=>ρ.L i /\ i ≠ b,ρ.G⟩ w) w (.slice false (cs.map fun v=>[numD v])) u:=by
 simp only [VR] at hv
 obtain ⟨hb,c,rfl,h1,h2,h3,arr0,e0,fz0,h4,h5⟩:=hv
 simp only [DR]
 refine ⟨_,c,by simp [hn],by simpa [hn] using h1,h2,by simp,by simp,fun hne=>⟨ρ b,0,1,rfl,?_,DRss.of_get fun i hi=>?_⟩⟩
 · have hne':cs ≠ []:=by rintro rfl; simp at hne
   have hlt:=hR.dom b hb
   have hlive:h.bs[b].live = true:=by
    simp only [Hp.get,List.getElem?_eq_getElem hlt] at hg
    cases hbb:h.bs[b] with
    | iter s p=>rfl
    | cells ys =>
     rw [hbb] at hg
     cases ys with
     | nil=>simp at hg; exact absurd hg.symm (by simpa using hne')
     | cons y ys=>rfl
   have hL:=hR.live b hlt hlive
   exact ⟨(hR.lo b hb).2,fun i=>⟨fun hi e=>hR.inj i b hi.2 hi.1 hL e,fun hx=>(hR.xB _ hx).2 b hL rfl⟩⟩
 · simp only [List.length_map] at hi
   refine ⟨by simp,DRs.of_get fun j hj=>?_⟩
   have hj0:j = 0:=by simp at hj; omega
   subst hj0
   have hne':cs ≠ []:=by rintro rfl; simp at hi
   obtain ⟨arr,e,fz,g1,g2,g3,g4⟩:=block_at hR hg hne'
   have hla:i < arr.size:=by omega
   have hcv:=(g4 i hi hla).1
   have hnum:=List.all_eq_true.1 hall _ (List.getElem_mem hi)
   refine ⟨arr[i],by simp [cellAt,World.cell?,g1,hla],?_⟩
   simp only [List.getElem_map,List.getElem_cons_zero]
   cases hx:cs[i] with
   | d x =>
    rw [hx] at hnum hcv
    cases x with
    | int k m =>
     simp only [VR,DR] at hcv
     simp only [numD,DR]
     exact hcv
    | _=>simp [isNum] at hnum
   | _=>rw [hx] at hnum; simp [isNum] at hnum
theorem seal_ok {P:Program} {C:Calls'} (hC:CallsOk P C):CallsOk P (sealC C):=by
 intro f args h r h' hm
 unfold sealC at hm
 split at hm
 · rename_i as h1 hs
   unfold sealA at hs
   split at hs
   · rename_i a x b n cap
     split at hs
     · rename_i cs hg
       split at hs
       · rename_i hc
         cases hs
         obtain ⟨⟨hp1,hp2⟩,hn,hall⟩:=hc
         obtain ⟨k1,k2,k3⟩:=hC _ _ _ _ _ hm
         refine ⟨k1,(LowOk.set h b []).trans k2,fun B ρ w vs hR hv=>?_⟩
         obtain ⟨hR',hG⟩:=seal_rel hR b (min h.low b)
         have hS:∀ c,St ρ w c -> St ⟨ρ.f,ρ.X,ρ.N,fun i=>ρ.L i /\ i ≠ b,ρ.G⟩ w c:=hG.ext.st
         refine (k3 B _ w vs hR' ?_).mono fun e' w' hq=>?_
         · simp only [VRs] at hv
           obtain ⟨u1,us1,e1,v1,u2,us2,e2,v2,e3⟩:=hv
           simp only [VR] at v2
           obtain ⟨ws,rfl,v3,v4⟩:=v2
           simp only [VRs] at v3
           obtain ⟨y1,ys1,f1,z1,y2,ys2,f2,z2,f3⟩:=v3
           rw [e1,e2,e3]
           have hpx:=pure_vr (ρ2:=⟨ρ.f,ρ.X,ρ.N,fun i=>ρ.L i /\ i ≠ b,ρ.G⟩) hS hp2 (v:=.agg [x]) (u:=.agg #[y1]) (by
            simp only [VR,VRs]
            refine ⟨_,rfl,⟨y1,[],rfl,z1,rfl⟩,fun u hu=>v4 u ?_⟩
            rw [f1]; simp at hu; simp [hu])
           simp only [VR,VRs] at hpx
           obtain ⟨ps,q1,⟨y1',_,q2,q3,q4⟩,_⟩:=hpx
           have hy:y1' = y1:=by
            cases q1
            simp [q4] at q2
            exact q2.symm
           rw [hy] at q3
           have hrow:=seal_row hR hg hn hall z2
           simp only [VRs]
           refine ⟨u1,_,rfl,pure_vr hS hp1 v1,_,_,rfl,?_,rfl⟩
           simp only [VR]
           refine ⟨ws,rfl,?_,v4⟩
           rw [f1,f2,f3]
           simp only [VRs]
           exact ⟨y1,_,rfl,q3,y2,_,rfl,by simp only [VR]; exact hrow,rfl⟩
         · obtain ⟨v,ρ',q1,q2,q3,q4⟩:=hq
           exact ⟨v,ρ',q1,q2,hG.trans q3,q4⟩
       · cases hs
     · cases hs
   · cases hs
 · cases hm
end Go.Proofs.YtmnfjejphmmddaaGreat
