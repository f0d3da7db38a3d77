/- A part of memory is looked at, an operation runs there, the rest is put back. -/
import Derived.Test.YtmahnnnccohccaaGreatPg
set_option linter.unusedVariables false
set_option linter.unusedSimpArgs false
namespace Go.Proofs.YtmahnnnccohccaaGreat
open Go.RowKit
def BU (n:Nat):Blk -> Prop
 | .cells cs=>∀ c ∈ cs,c.under n = true
 | .iter _ _=>True
def viewρ (ρ:Rh) (m:Nat) (K:Nat -> Prop):Rh :=
 ⟨ρ.f,fun b=>ρ.X b \/ ∃ i,ρ.L i /\ ¬ (K i /\ i < m) /\ ρ i = b,fun i=>ρ.N i /\ i < m,fun i=>ρ.L i /\ K i /\ i < m,fun i=>i < m /\ ¬ ρ.N i⟩
section
variable {P:Program} {B:Nat} {ρ ρ1:Rh} {hS hV h1 hS':Hp} {w w':World} {m:Nat} {K:Nat -> Prop}
theorem view_st (c:Nat):St (viewρ ρ m K) w c ↔ St ρ w c:=by
 constructor
 · intro hc
   refine ⟨hc.1,fun i=>⟨fun hi e=>?_,fun hx=>(hc.2 0).2 (.inl hx)⟩⟩
   by_cases hk:K i /\ i < m
   · exact (hc.2 i).1 ⟨hi,hk⟩ e
   · exact (hc.2 0).2 (.inr ⟨i,hi,hk,e⟩)
 · intro hc
   refine ⟨hc.1,fun i=>⟨fun hi=>(hc.2 i).1 hi.1,fun hx=>?_⟩⟩
   rcases hx with hx | ⟨j,hj,_,e⟩
   · exact (hc.2 0).2 hx
   · exact (hc.2 j).1 hj e
theorem view_vr {x:V} {v:Value} (k:VR ρ (St ρ w) w x v) (hu:x.under m = true):VR (viewρ ρ m K) (St (viewρ ρ m K) w) w x v :=
 VR.shrink (ρ:=viewρ ρ m K) (ρ':=ρ) (fun i h1 h2=>⟨h1,h2⟩) (fun _ _=>rfl) (fun b hb=>(view_st b).2 hb) k hu
theorem view_rel (hR:Rel B ρ hS w) (hm:hV.bs.length = m) (hml:m <= hS.bs.length) (hK:∀ b,b < m -> K b -> hV.bs[b]? = hS.bs[b]?) (hd:∀ b,b < m -> ¬ K b -> hV.bs[b]? = some (.cells []))
 (hU:∀ b blk,b < m -> K b -> hV.bs[b]? = some blk -> BU m blk):Rel B (viewρ ρ m K) hV w:=by
 refine ⟨fun i hi=>by rw [hm]; exact hi.2,fun i hi=>⟨hR.ln i hi.1,hi.2.2⟩,fun i hi hl=>?_,fun i hi=>hR.lo i hi.1,hR.base,fun i j hij hi hj=>hR.inj i j hij hi.1 hj.1,fun i hi=>?_,fun c hc=>?_,fun c hc=>?_⟩
 · have him:i < m:=by rw [← hm]; exact hi
   by_cases hk:K i
   · have:=hK i him hk
     rw [List.getElem?_eq_getElem hi,List.getElem?_eq_getElem (Nat.lt_of_lt_of_le him hml)] at this
     exact ⟨hR.live i _ (by rw [← Option.some.inj this]; exact hl),hk,him⟩
   · have:=hd i him hk
     rw [List.getElem?_eq_getElem hi] at this
     rw [Option.some.inj this] at hl
     simp [Blk.live] at hl
 · have him:i < m:=by rw [← hm]; exact hi
   by_cases hk:K i
   · have heq:=hK i him hk
     have hu:=hU i _ him hk (List.getElem?_eq_getElem hi)
     rw [List.getElem?_eq_getElem hi,List.getElem?_eq_getElem (Nat.lt_of_lt_of_le him hml)] at heq
     have hmem:=hR.mem i (Nat.lt_of_lt_of_le him hml)
     rw [← Option.some.inj heq] at hmem
     show BR (viewρ ρ m K) w (ρ i) hV.bs[i]
     cases hb:hV.bs[i] with
     | iter s p=>rw [hb] at hmem; simp only [BR] at hmem ⊢; exact hmem
     | cells cs =>
      rw [hb] at hmem hu
      cases cs with
      | nil=>simp only [BR]
      | cons c cs =>
       simp only [BR] at hmem ⊢
       obtain ⟨arr,e,fz,b1,b2,b3,b4⟩:=hmem
       exact ⟨arr,e,fz,b1,b2,b3,fun j k1 k2=>⟨view_vr (b4 j k1 k2).1 (hu _ (List.getElem_mem _)),(b4 j k1 k2).2⟩⟩
   · have:=hd i him hk
     rw [List.getElem?_eq_getElem hi] at this
     rw [Option.some.inj this]
     simp only [BR]
 · rcases hc with hc | ⟨i,hi,hk,e⟩
   · exact ⟨(hR.xB c hc).1,fun j hj=>(hR.xB c hc).2 j hj.1⟩
   · refine ⟨by rw [← e]; exact (hR.lo i (hR.ln i hi)).2,fun j hj e'=>?_⟩
     have hne:j ≠ i:=by rintro rfl; exact hk hj.2
     exact hR.inj j i hne hj.1 hi (e'.trans e.symm)
 · exact ⟨fun hN=>hc.2 hN.1,by rw [hm]; exact hc.1⟩
open Classical in
noncomputable def backρ (ρ ρ1:Rh) (m m':Nat) (K:Nat -> Prop):Rh :=
 ⟨fun b=>if ρ1.N b then ρ1 b else ρ b,ρ.X,fun b=>ρ1.N b \/ ρ.N b,fun b=>if (m <= b /\ b < m') \/ (K b /\ b < m) then ρ1.L b else ρ.L b,ρ.G⟩
theorem back_rel (hR:Rel B ρ hS w) (hR1:Rel B ρ1 h1 w') (hG:Goes B (viewρ ρ m K) w ρ1 w') (hmm:m <= h1.bs.length) (hT:h1.bs.length <= hS.bs.length) (hT':hS'.bs.length = hS.bs.length)
 (hslot:∀ b,m <= b -> b < h1.bs.length -> ¬ ρ.N b /\ ¬ ρ.G b) (hnew:∀ b,((m <= b /\ b < h1.bs.length) \/ (K b /\ b < m)) -> hS'.bs[b]? = h1.bs[b]?) (hold:∀ b,¬ ((m <= b /\ b < h1.bs.length) \/ (K b /\ b < m)) -> hS'.bs[b]? = hS.bs[b]?) :
 Rel B (backρ ρ ρ1 m h1.bs.length K) hS' w' /\ Goes B ρ w (backρ ρ ρ1 m h1.bs.length K) w' /\ (∀ b,(backρ ρ ρ1 m h1.bs.length K).N b -> ρ.N b \/ (m <= b /\ b < h1.bs.length)) ∧
 ∀ {x:V} {v:Value},VR ρ1 (St ρ1 w') w' x v -> VR (backρ ρ ρ1 m h1.bs.length K) (St (backρ ρ ρ1 m h1.bs.length K) w') w' x v:=by
 have hf1:∀ b,ρ1.N b -> backρ ρ ρ1 m h1.bs.length K b = ρ1 b:=fun b hb=>by simp [backρ,hb]
 have hle:∀ b,ρ.N b -> b < m -> ρ1.N b /\ ρ1 b = ρ b:=fun b hb hm=>⟨hG.ext.le b ⟨hb,hm⟩,hG.ext.rho b ⟨hb,hm⟩⟩
 have hf:∀ b,ρ.N b -> backρ ρ ρ1 m h1.bs.length K b = ρ b:=fun b hb=>by
  by_cases h9:ρ1.N b
  · rw [hf1 b h9]
    have hlt:=hR1.dom b h9
    by_cases hm:b < m
    · exact (hle b hb hm).2
    · exact absurd hb (hslot b (by omega) hlt).1
  · simp [backρ,h9]
 have hX1:∀ c,(viewρ ρ m K).X c -> ρ1.X c:=fun c hc=>by rw [hG.ext.x]; exact hc
 have hkeep:∀ b,ρ.L b -> ¬ ((m <= b /\ b < h1.bs.length) \/ (K b /\ b < m)) -> (viewρ ρ m K).X (ρ b):=fun b hb hk=>.inr ⟨b,hb,fun h=>hk (.inr h),rfl⟩
 have hLin:∀ b,((m <= b /\ b < h1.bs.length) \/ (K b /\ b < m)) -> ((backρ ρ ρ1 m h1.bs.length K).L b ↔ ρ1.L b):=fun b hb=>by simp [backρ,hb]
 have hLout:∀ b,¬ ((m <= b /\ b < h1.bs.length) \/ (K b /\ b < m)) -> ((backρ ρ ρ1 m h1.bs.length K).L b ↔ ρ.L b):=fun b hb=>by simp [backρ,hb]
 have hG1:∀ b,ρ1.N b -> b < m -> ρ.N b:=fun b hb hlt=>Classical.byContradiction fun hn=>(hR1.gB b (by rw [hG.ext.g]; exact ⟨hlt,hn⟩)).1 hb
 have hst1:∀ c,St ρ1 w' c -> St (backρ ρ ρ1 m h1.bs.length K) w' c:=fun c hc=>by
  refine ⟨hc.1,fun i=>⟨fun hi e=>?_,fun hx=>(hc.2 0).2 (hX1 c (.inl hx))⟩⟩
  by_cases hk:(m <= i /\ i < h1.bs.length) \/ (K i /\ i < m)
  · have hi1:=(hLin i hk).1 hi
    rw [hf1 i (hR1.ln i hi1)] at e
    exact (hc.2 i).1 hi1 e
  · have hi0:=(hLout i hk).1 hi
    rw [hf i (hR.ln i hi0)] at e
    exact (hc.2 0).2 (hX1 c (e ▸ hkeep i hi0 hk))
 have hst:∀ c,St ρ w c -> St (backρ ρ ρ1 m h1.bs.length K) w' c:=fun c hc=>hst1 c (hG.ext.st c ((view_st c).2 hc))
 have hxs:∀ c,(viewρ ρ m K).X c -> w'.heap[c]? = w.heap[c]?:=hG.ext.xs
 have hsame:∀ c,St ρ w c -> w'.heap[c]? = w.heap[c]?:=fun c hc=>hG.ext.same c ((view_st c).2 hc)
 have hext:Ext ρ (St ρ w) w (backρ ρ ρ1 m h1.bs.length K) (St (backρ ρ ρ1 m h1.bs.length K) w') w':=by
  refine ⟨fun i hi=>.inr hi,hf,hst,hsame,fun i hi arr e fz k=>?_,rfl,fun c hc=>hxs c (.inl hc),rfl⟩
  by_cases hs:St (viewρ ρ m K) w (ρ i)
  · exact ⟨arr,fz,by rw [hG.ext.same _ hs]; exact k,rfl⟩
  · have hlt:=(hR.lo i hi).2
    have:(∃ j,(viewρ ρ m K).L j /\ ρ j = ρ i) \/ (viewρ ρ m K).X (ρ i):=by
     apply Classical.byContradiction
     intro hno
     refine hs ⟨hlt,fun j=>⟨fun hj e=>hno (.inl ⟨j,hj,e⟩),fun hx=>hno (.inr hx)⟩⟩
    rcases this with ⟨j,hj,e1⟩ | hx
    · have:=hG.ext.own j ⟨hR.ln j hj.1,hj.2.2⟩ arr e fz (by show w.heap[ρ j]? = _; rw [e1]; exact k)
      have e2:(viewρ ρ m K) j = ρ i:=e1
      rw [e2] at this
      exact this
    · exact ⟨arr,fz,by rw [hxs _ hx]; exact k,rfl⟩
 have hlift:∀ {x:V} {v:Value},VR ρ1 (St ρ1 w') w' x v -> VR (backρ ρ ρ1 m h1.bs.length K) (St (backρ ρ ρ1 m h1.bs.length K) w') w' x v:=by
  intro x v k
  have k':VR ⟨ρ1.f,ρ.X,ρ1.N,ρ1.L,ρ.G⟩ (St ρ1 w') w' x v:=VR.shrink (ρ:=⟨ρ1.f,ρ.X,ρ1.N,ρ1.L,ρ.G⟩) (ρ':=ρ1) (n:=h1.bs.length) (fun i h _=>h) (fun _ _=>rfl) (fun _ h=>h) k (k.under hR1.dom)
  refine VR.ext (ρ:=⟨ρ1.f,ρ.X,ρ1.N,ρ1.L,ρ.G⟩) (S:=St ρ1 w') (w:=w') ?_ k'
  exact ⟨fun i hi=>Or.inl hi,hf1,hst1,fun _ _=>rfl,fun i hi arr e fz k=>⟨arr,fz,k,rfl⟩,rfl,fun _ _=>rfl,rfl⟩
 refine ⟨⟨fun i hi=>?_,fun i hi=>?_,fun i hi hl=>?_,fun i hi=>?_,Nat.le_trans hR.base hG.below.size,fun i j hij li lj=>?_,fun i hi=>?_,fun c hc=>⟨Nat.lt_of_lt_of_le (hR.xB c hc).1 hG.below.size,fun i hi=>?_⟩,fun c hc=>⟨fun hN=>?_,by rw [hT']; exact (hR.gB c hc).2⟩⟩,⟨hext,hG.below⟩,fun b hb=>?_,hlift⟩
 · rw [hT']
   rcases hi with hi | hi
   · exact Nat.lt_of_lt_of_le (hR1.dom i hi) hT
   · exact hR.dom i hi
 · by_cases hk:(m <= i /\ i < h1.bs.length) \/ (K i /\ i < m)
   · exact .inl (hR1.ln i ((hLin i hk).1 hi))
   · exact .inr (hR.ln i ((hLout i hk).1 hi))
 · by_cases hk:(m <= i /\ i < h1.bs.length) \/ (K i /\ i < m)
   · have hlt:i < h1.bs.length:=by rcases hk with h | h <;> omega
     have:=hnew i hk
     rw [List.getElem?_eq_getElem hi,List.getElem?_eq_getElem hlt] at this
     exact (hLin i hk).2 (hR1.live i hlt (by rw [← Option.some.inj this]; exact hl))
   · have:=hold i hk
     have hlt:i < hS.bs.length:=by rw [← hT']; exact hi
     rw [List.getElem?_eq_getElem hi,List.getElem?_eq_getElem hlt] at this
     exact (hLout i hk).2 (hR.live i hlt (by rw [← Option.some.inj this]; exact hl))
 · rcases hi with hi | hi
   · rw [hf1 i hi]; exact hR1.lo i hi
   · rw [hf i hi]; exact ⟨(hR.lo i hi).1,Nat.lt_of_lt_of_le (hR.lo i hi).2 hG.below.size⟩
 · by_cases hk:(m <= i /\ i < h1.bs.length) \/ (K i /\ i < m) <;> by_cases hk2:(m <= j /\ j < h1.bs.length) \/ (K j /\ j < m)
   · have a:=(hLin i hk).1 li
     have b:=(hLin j hk2).1 lj
     rw [hf1 i (hR1.ln i a),hf1 j (hR1.ln j b)]
     exact hR1.inj i j hij a b
   · have a:=(hLin i hk).1 li
     have b:=(hLout j hk2).1 lj
     rw [hf1 i (hR1.ln i a),hf j (hR.ln j b)]
     exact (hR1.xB _ (hX1 _ (hkeep j b hk2))).2 i a
   · have a:=(hLout i hk).1 li
     have b:=(hLin j hk2).1 lj
     rw [hf i (hR.ln i a),hf1 j (hR1.ln j b)]
     exact fun e=>(hR1.xB _ (hX1 _ (hkeep i a hk))).2 j b e.symm
   · have a:=(hLout i hk).1 li
     have b:=(hLout j hk2).1 lj
     rw [hf i (hR.ln i a),hf j (hR.ln j b)]
     exact hR.inj i j hij a b
 · by_cases hl:hS'.bs[i].live = true
   · by_cases hk:(m <= i /\ i < h1.bs.length) \/ (K i /\ i < m)
     · have hlt:i < h1.bs.length:=by rcases hk with h | h <;> omega
       have heq:=hnew i hk
       rw [List.getElem?_eq_getElem hi,List.getElem?_eq_getElem hlt] at heq
       have hmem:=hR1.mem i hlt
       rw [← Option.some.inj heq] at hmem
       rw [hf1 i (hR1.ln i (hR1.live i hlt (by rw [← Option.some.inj heq]; exact hl)))]
       cases hb:hS'.bs[i] with
       | iter s p=>rw [hb] at hmem; simp only [BR] at hmem ⊢; exact hmem
       | cells cs =>
        rw [hb] at hmem
        cases cs with
        | nil=>simp only [BR]
        | cons c cs =>
         simp only [BR] at hmem ⊢
         obtain ⟨arr,e,fz,b1,b2,b3,b4⟩:=hmem
         exact ⟨arr,e,fz,b1,b2,b3,fun j k1 k2=>⟨hlift (b4 j k1 k2).1,(b4 j k1 k2).2⟩⟩
     · have heq:=hold i hk
       have hlt:i < hS.bs.length:=by rw [← hT']; exact hi
       rw [List.getElem?_eq_getElem hi,List.getElem?_eq_getElem hlt] at heq
       have hL:=hR.live i hlt (by rw [← Option.some.inj heq]; exact hl)
       rw [Option.some.inj heq,hf i (hR.ln i hL)]
       exact (hR.mem i hlt).ext hext (hxs _ (hkeep i hL hk))
   · rw [dead_eq hl]; simp only [BR]
 · by_cases hk:(m <= i /\ i < h1.bs.length) \/ (K i /\ i < m)
   · have a:=(hLin i hk).1 hi
     rw [hf1 i (hR1.ln i a)]
     exact (hR1.xB c (hX1 c (.inl hc))).2 i a
   · have a:=(hLout i hk).1 hi
     rw [hf i (hR.ln i a)]
     exact (hR.xB c hc).2 i a
 · rcases hN with hN | hN
   · by_cases hlt:c < m
     · exact (hR.gB c hc).1 (hG1 c hN hlt)
     · exact (hslot c (by omega) (hR1.dom c hN)).2 hc
   · exact (hR.gB c hc).1 hN
 · rcases hb with hb | hb
   · by_cases hlt:b < m
     · exact .inl (hG1 b hb hlt)
     · exact .inr ⟨by omega,hR1.dom b hb⟩
   · exact .inl hb
end
end Go.Proofs.YtmahnnnccohccaaGreat
