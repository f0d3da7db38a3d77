/- A part of memory is looked at, an operation runs there, the rest is put back. -/
import Derived.Test.YtjkfknafpgfchaaGreatPf
set_option linter.unusedVariables false
set_option linter.unusedSimpArgs false
namespace Go.Proofs.YtjkfknafpgfchaaGreat
section
open Go.RowKit
def BU (n:Nat):Blk -> Prop
 | .cells cs=>∀ c ∈ cs,c.under n = true
 | .iter _ _=>True
def viewρ (ρ:Rh) (m:Nat) (K:Nat -> Prop):Rh :=
 ⟨ρ.f,fun b=>ρ.X b \/ ∃ i,ρ.L i /\ ¬ (K i /\ i < m) /\ ρ i = b,fun i=>ρ.N i /\ i < m,fun i=>ρ.L i /\ K i /\ i < m,fun i=>i < m /\ ¬ ρ.N i⟩
section
variable {P:Program} {B:Nat} {ρ ρ1:Rh} {hS hV h1 hS':Hp} {w w':World} {m:Nat} {K:Nat -> Prop}
theorem wy (c:Nat):St (viewρ ρ m K) w c ↔ St ρ w c:=by
 constructor
 · intro hc;refine ⟨hc.1,fun i=>⟨fun hi e=>?_,fun hx=>(hc.2 0).2 (.inl hx)⟩⟩;by_cases hk:K i /\ i < m
   · exact (hc.2 i).1 ⟨hi,hk⟩ e
   · exact (hc.2 0).2 (.inr ⟨i,hi,hk,e⟩)
 · intro hc;refine ⟨hc.1,fun i=>⟨fun hi=>(hc.2 i).1 hi.1,fun hx=>?_⟩⟩;rcases hx with hx | ⟨j,hj,_,e⟩
   · exact (hc.2 0).2 hx
   · exact (hc.2 j).1 hj e
theorem CQ {x:V} {v:Value} (k:VR ρ (St ρ w) w x v) (hu:x.under m = true):VR (viewρ ρ m K) (St (viewρ ρ m K) w) w x v :=
 VR.shrink (ρ:=viewρ ρ m K) (ρ':=ρ) (fun i h1 h2=>⟨h1,h2⟩) (fun _ _=>rfl) (fun b hb=>(wy b).2 hb) k hu
theorem Jy (hR:Rel B ρ hS w) (hm:hV.bs.length = m) (hml:m <= hS.bs.length) (hK:∀ b,b < m -> K b -> hV.bs[b]? = hS.bs[b]?) (hd:∀ b,b < m -> ¬ K b -> hV.bs[b]? = some (.cells []))
 (hU:∀ b blk,b < m -> K b -> hV.bs[b]? = some blk -> BU m blk):Rel B (viewρ ρ m K) hV w:=by
 refine ⟨fun i hi=>by rw [hm]; exact hi.2,fun i hi=>⟨hR.ln i hi.1,hi.2.2⟩,fun i hi hl=>?_,fun i hi=>hR.lo i hi.1,hR.base,fun i j hij hi hj=>hR.inj i j hij hi.1 hj.1,fun i hi=>?_,fun c hc=>?_,fun c hc=>?_⟩
 · have him:i < m:=by rw [← hm]; exact hi
   by_cases hk:K i
   · have:=hK i him hk;rw [List.getElem?_eq_getElem hi,List.getElem?_eq_getElem (Nat.lt_of_lt_of_le him hml)] at this;exact ⟨hR.live i _ (by rw [← Option.some.inj this]; exact hl),hk,him⟩
   · have:=hd i him hk;rw [List.getElem?_eq_getElem hi] at this;rw [Option.some.inj this] at hl;simp [Blk.live] at hl
 · have him:i < m:=by rw [← hm]; exact hi
   by_cases hk:K i
   · have heq:=hK i him hk;have hu:=hU i _ him hk (List.getElem?_eq_getElem hi);rw [List.getElem?_eq_getElem hi,List.getElem?_eq_getElem (Nat.lt_of_lt_of_le him hml)] at heq;have hmem:=hR.mem i (Nat.lt_of_lt_of_le him hml);rw [← Option.some.inj heq] at hmem;show BR (viewρ ρ m K) w (ρ i) hV.bs[i];cases hb:hV.bs[i] with
     | iter s p=>rw [hb] at hmem; simp only [BR] at hmem ⊢; exact hmem
     | cells cs =>
      rw [hb] at hmem hu;cases cs with
      | nil=>simp only [BR]
      | cons c cs =>
       simp only [BR] at hmem ⊢;obtain ⟨arr,e,fz,b1,b2,b3,b4⟩:=hmem;exact ⟨arr,e,fz,b1,b2,b3,fun j k1 k2=>⟨CQ (b4 j k1 k2).1 (hu _ (List.getElem_mem _)),(b4 j k1 k2).2⟩⟩
   · have:=hd i him hk;rw [List.getElem?_eq_getElem hi] at this;rw [Option.some.inj this];simp only [BR]
 · rcases hc with hc | ⟨i,hi,hk,e⟩
   · exact ⟨(hR.xB c hc).1,fun j hj=>(hR.xB c hc).2 j hj.1⟩
   · refine ⟨by rw [← e]; exact (hR.lo i (hR.ln i hi)).2,fun j hj e'=>?_⟩;have hne:j ≠ i:=by rintro rfl; exact hk hj.2
     exact hR.inj j i hne hj.1 hi (e'.trans e.symm)
 · exact ⟨fun hN=>hc.2 hN.1,by rw [hm]; exact hc.1⟩
open Classical in
noncomputable def backρ (ρ ρ1:Rh) (m m':Nat) (K:Nat -> Prop):Rh :=
 ⟨fun b=>if ρ1.N b then ρ1 b else ρ b,ρ.X,fun b=>ρ1.N b \/ ρ.N b,fun b=>if (m <= b /\ b < m') \/ (K b /\ b < m) then ρ1.L b else ρ.L b,ρ.G⟩
theorem Fg (hR:Rel B ρ hS w) (hR1:Rel B ρ1 h1 w') (hG:Goes B (viewρ ρ m K) w ρ1 w') (hmm:m <= h1.bs.length) (hT:h1.bs.length <= hS.bs.length) (hT':hS'.bs.length = hS.bs.length)
 (hslot:∀ b,m <= b -> b < h1.bs.length -> ¬ ρ.N b /\ ¬ ρ.G b) (hnew:∀ b,((m <= b /\ b < h1.bs.length) \/ (K b /\ b < m)) -> hS'.bs[b]? = h1.bs[b]?) (hold:∀ b,¬ ((m <= b /\ b < h1.bs.length) \/ (K b /\ b < m)) -> hS'.bs[b]? = hS.bs[b]?) :
 Rel B (backρ ρ ρ1 m h1.bs.length K) hS' w' /\ Goes B ρ w (backρ ρ ρ1 m h1.bs.length K) w' /\ (∀ b,(backρ ρ ρ1 m h1.bs.length K).N b -> ρ.N b \/ (m <= b /\ b < h1.bs.length)) ∧
 ∀ {x:V} {v:Value},VR ρ1 (St ρ1 w') w' x v -> VR (backρ ρ ρ1 m h1.bs.length K) (St (backρ ρ ρ1 m h1.bs.length K) w') w' x v:=by
 have hf1:∀ b,ρ1.N b -> backρ ρ ρ1 m h1.bs.length K b = ρ1 b:=fun b hb=>by simp [backρ,hb]
 have hle:∀ b,ρ.N b -> b < m -> ρ1.N b /\ ρ1 b = ρ b:=fun b hb hm=>⟨hG.ext.le b ⟨hb,hm⟩,hG.ext.rho b ⟨hb,hm⟩⟩;have hf:∀ b,ρ.N b -> backρ ρ ρ1 m h1.bs.length K b = ρ b:=fun b hb=>by
  by_cases h9:ρ1.N b
  · rw [hf1 b h9];have hlt:=hR1.dom b h9;by_cases hm:b < m
    · exact (hle b hb hm).2
    · exact absurd hb (hslot b (by omega) hlt).1
  · simp [backρ,h9]
 have hX1:∀ c,(viewρ ρ m K).X c -> ρ1.X c:=fun c hc=>by rw [hG.ext.x]; exact hc
 have hkeep:∀ b,ρ.L b -> ¬ ((m <= b /\ b < h1.bs.length) \/ (K b /\ b < m)) -> (viewρ ρ m K).X (ρ b):=fun b hb hk=>.inr ⟨b,hb,fun h=>hk (.inr h),rfl⟩;have hLin:∀ b,((m <= b /\ b < h1.bs.length) \/ (K b /\ b < m)) -> ((backρ ρ ρ1 m h1.bs.length K).L b ↔ ρ1.L b):=fun b hb=>by simp [backρ,hb]
 have hLout:∀ b,¬ ((m <= b /\ b < h1.bs.length) \/ (K b /\ b < m)) -> ((backρ ρ ρ1 m h1.bs.length K).L b ↔ ρ.L b):=fun b hb=>by simp [backρ,hb]
 have hG1:∀ b,ρ1.N b -> b < m -> ρ.N b:=fun b hb hlt=>Classical.byContradiction fun hn=>(hR1.gB b (by rw [hG.ext.g]; exact ⟨hlt,hn⟩)).1 hb;have hst1:∀ c,St ρ1 w' c -> St (backρ ρ ρ1 m h1.bs.length K) w' c:=fun c hc=>by
  refine ⟨hc.1,fun i=>⟨fun hi e=>?_,fun hx=>(hc.2 0).2 (hX1 c (.inl hx))⟩⟩;by_cases hk:(m <= i /\ i < h1.bs.length) \/ (K i /\ i < m)
  · have hi1:=(hLin i hk).1 hi;rw [hf1 i (hR1.ln i hi1)] at e;exact (hc.2 i).1 hi1 e
  · have hi0:=(hLout i hk).1 hi;rw [hf i (hR.ln i hi0)] at e;exact (hc.2 0).2 (hX1 c (e ▸ hkeep i hi0 hk))
 have hst:∀ c,St ρ w c -> St (backρ ρ ρ1 m h1.bs.length K) w' c:=fun c hc=>hst1 c (hG.ext.st c ((wy c).2 hc));have hxs:∀ c,(viewρ ρ m K).X c -> w'.heap[c]? = w.heap[c]?:=hG.ext.xs;have hsame:∀ c,St ρ w c -> w'.heap[c]? = w.heap[c]?:=fun c hc=>hG.ext.same c ((wy c).2 hc);have hext:Ext ρ (St ρ w) w (backρ ρ ρ1 m h1.bs.length K) (St (backρ ρ ρ1 m h1.bs.length K) w') w':=by
  refine ⟨fun i hi=>.inr hi,hf,hst,hsame,fun i hi arr e fz k=>?_,rfl,fun c hc=>hxs c (.inl hc),rfl⟩;by_cases hs:St (viewρ ρ m K) w (ρ i)
  · exact ⟨arr,fz,by rw [hG.ext.same _ hs]; exact k,rfl⟩
  · have hlt:=(hR.lo i hi).2;have:(∃ j,(viewρ ρ m K).L j /\ ρ j = ρ i) \/ (viewρ ρ m K).X (ρ i):=by
     apply Classical.byContradiction;intro hno;refine hs ⟨hlt,fun j=>⟨fun hj e=>hno (.inl ⟨j,hj,e⟩),fun hx=>hno (.inr hx)⟩⟩
    rcases this with ⟨j,hj,e1⟩ | hx
    · have:=hG.ext.own j ⟨hR.ln j hj.1,hj.2.2⟩ arr e fz (by show w.heap[ρ j]? = _; rw [e1]; exact k);have e2:(viewρ ρ m K) j = ρ i:=e1;rw [e2] at this;exact this
    · exact ⟨arr,fz,by rw [hxs _ hx]; exact k,rfl⟩
 have hlift:∀ {x:V} {v:Value},VR ρ1 (St ρ1 w') w' x v -> VR (backρ ρ ρ1 m h1.bs.length K) (St (backρ ρ ρ1 m h1.bs.length K) w') w' x v:=by
  intro x v k;have k':VR ⟨ρ1.f,ρ.X,ρ1.N,ρ1.L,ρ.G⟩ (St ρ1 w') w' x v:=VR.shrink (ρ:=⟨ρ1.f,ρ.X,ρ1.N,ρ1.L,ρ.G⟩) (ρ':=ρ1) (n:=h1.bs.length) (fun i h _=>h) (fun _ _=>rfl) (fun _ h=>h) k (k.under hR1.dom);refine VR.ext (ρ:=⟨ρ1.f,ρ.X,ρ1.N,ρ1.L,ρ.G⟩) (S:=St ρ1 w') (w:=w') ?_ k';exact ⟨fun i hi=>Or.inl hi,hf1,hst1,fun _ _=>rfl,fun i hi arr e fz k=>⟨arr,fz,k,rfl⟩,rfl,fun _ _=>rfl,rfl⟩
 refine ⟨⟨fun i hi=>?_,fun i hi=>?_,fun i hi hl=>?_,fun i hi=>?_,Nat.le_trans hR.base hG.below.size,fun i j hij li lj=>?_,fun i hi=>?_,fun c hc=>⟨Nat.lt_of_lt_of_le (hR.xB c hc).1 hG.below.size,fun i hi=>?_⟩,fun c hc=>⟨fun hN=>?_,by rw [hT']; exact (hR.gB c hc).2⟩⟩,⟨hext,hG.below⟩,fun b hb=>?_,hlift⟩
 · rw [hT'];rcases hi with hi | hi
   · exact Nat.lt_of_lt_of_le (hR1.dom i hi) hT
   · exact hR.dom i hi
 · by_cases hk:(m <= i /\ i < h1.bs.length) \/ (K i /\ i < m)
   · exact .inl (hR1.ln i ((hLin i hk).1 hi))
   · exact .inr (hR.ln i ((hLout i hk).1 hi))
 · by_cases hk:(m <= i /\ i < h1.bs.length) \/ (K i /\ i < m)
   · have hlt:i < h1.bs.length:=by rcases hk with h | h <;> omega
     have:=hnew i hk;rw [List.getElem?_eq_getElem hi,List.getElem?_eq_getElem hlt] at this;exact (hLin i hk).2 (hR1.live i hlt (by rw [← Option.some.inj this]; exact hl))
   · have:=hold i hk;have hlt:i < hS.bs.length:=by rw [← hT']; exact hi
     rw [List.getElem?_eq_getElem hi,List.getElem?_eq_getElem hlt] at this;exact (hLout i hk).2 (hR.live i hlt (by rw [← Option.some.inj this]; exact hl))
 · rcases hi with hi | hi
   · rw [hf1 i hi]; exact hR1.lo i hi
   · rw [hf i hi]; exact ⟨(hR.lo i hi).1,Nat.lt_of_lt_of_le (hR.lo i hi).2 hG.below.size⟩
 · by_cases hk:(m <= i /\ i < h1.bs.length) \/ (K i /\ i < m) <;> by_cases hk2:(m <= j /\ j < h1.bs.length) \/ (K j /\ j < m)
   · have a:=(hLin i hk).1 li;have b:=(hLin j hk2).1 lj;rw [hf1 i (hR1.ln i a),hf1 j (hR1.ln j b)];exact hR1.inj i j hij a b
   · have a:=(hLin i hk).1 li;have b:=(hLout j hk2).1 lj;rw [hf1 i (hR1.ln i a),hf j (hR.ln j b)];exact (hR1.xB _ (hX1 _ (hkeep j b hk2))).2 i a
   · have a:=(hLout i hk).1 li;have b:=(hLin j hk2).1 lj;rw [hf i (hR.ln i a),hf1 j (hR1.ln j b)];exact fun e=>(hR1.xB _ (hX1 _ (hkeep i a hk))).2 j b e.symm
   · have a:=(hLout i hk).1 li;have b:=(hLout j hk2).1 lj;rw [hf i (hR.ln i a),hf j (hR.ln j b)];exact hR.inj i j hij a b
 · by_cases hl:hS'.bs[i].live = true
   · by_cases hk:(m <= i /\ i < h1.bs.length) \/ (K i /\ i < m)
     · have hlt:i < h1.bs.length:=by rcases hk with h | h <;> omega
       have heq:=hnew i hk;rw [List.getElem?_eq_getElem hi,List.getElem?_eq_getElem hlt] at heq;have hmem:=hR1.mem i hlt;rw [← Option.some.inj heq] at hmem;rw [hf1 i (hR1.ln i (hR1.live i hlt (by rw [← Option.some.inj heq]; exact hl)))];cases hb:hS'.bs[i] with
       | iter s p=>rw [hb] at hmem; simp only [BR] at hmem ⊢; exact hmem
       | cells cs =>
        rw [hb] at hmem;cases cs with
        | nil=>simp only [BR]
        | cons c cs =>
         simp only [BR] at hmem ⊢;obtain ⟨arr,e,fz,b1,b2,b3,b4⟩:=hmem;exact ⟨arr,e,fz,b1,b2,b3,fun j k1 k2=>⟨hlift (b4 j k1 k2).1,(b4 j k1 k2).2⟩⟩
     · have heq:=hold i hk;have hlt:i < hS.bs.length:=by rw [← hT']; exact hi
       rw [List.getElem?_eq_getElem hi,List.getElem?_eq_getElem hlt] at heq;have hL:=hR.live i hlt (by rw [← Option.some.inj heq]; exact hl);rw [Option.some.inj heq,hf i (hR.ln i hL)];exact (hR.mem i hlt).ext hext (hxs _ (hkeep i hL hk))
   · rw [qU hl]; simp only [BR]
 · by_cases hk:(m <= i /\ i < h1.bs.length) \/ (K i /\ i < m)
   · have a:=(hLin i hk).1 hi;rw [hf1 i (hR1.ln i a)];exact (hR1.xB c (hX1 c (.inl hc))).2 i a
   · have a:=(hLout i hk).1 hi;rw [hf i (hR.ln i a)];exact (hR.xB c hc).2 i a
 · rcases hN with hN | hN
   · by_cases hlt:c < m
     · exact (hR.gB c hc).1 (hG1 c hN hlt)
     · exact (hslot c (by omega) (hR1.dom c hN)).2 hc
   · exact (hR.gB c hc).1 hN
 · rcases hb with hb | hb
   · by_cases hlt:b < m
     · exact .inl (hG1 b hb hlt)
     · exact .inr ⟨by omega,hR1.dom b hb⟩
   · exact .inl hb
end
end
section
open Go.RowKit
theorem kV {e e':Env}:∀ (ps:List (Nat × Nat × X)) (cs:List V),(∀ p ∈ ps,p.2.2.ev e = p.2.2.ev e') -> fills e cs ps = fills e' cs ps
 | [],cs,_=>rfl
 | (o,n,x) :: ps,cs,h=>by
  have h1:x.ev e = x.ev e':=h (o,n,x) (by simp);simp only [fills,h1];split
  · split
    · split
      · exact kV ps _ fun p hp=>h p (by simp [hp])
      · rfl
    · rfl
  · rfl
theorem kP {e e':Env} {x:Option X} {d:Nat} (h:∀ y ∈ x.toList,y.ev e = y.ev e'):bound e x d = bound e' x d:=by
 cases x with
 | none=>rfl
 | some x=>simp only [bound,h x (by simp)]
theorem uh {e e':Env} {hp:Hp} {k:SK} {z:Nat} {v:V} {lo hi mx:Option X} (h1:∀ y ∈ lo.toList,y.ev e = y.ev e') (h2:∀ y ∈ hi.toList,y.ev e = y.ev e') (h3:∀ y ∈ mx.toList,y.ev e = y.ev e') :
 cz hp e k z v lo hi mx = cz hp e' k z v lo hi mx:=by
 have b1:∀ d,bound e lo d = bound e' lo d:=fun d=>kP h1;have b2:∀ d,bound e hi d = bound e' hi d:=fun d=>kP h2;have b3:∀ m d,mx = some m -> bound e (some m) d = bound e' (some m) d:=fun m d hm=>kP fun y hy=>by subst hm; exact h3 y hy
 unfold cz;split
 · simp only [b1,b2]
 · rename_i b o len cap z';simp only [b1,b2];rcases bound e' lo 0 with _ | l <;> rcases bound e' hi len with _ | h <;> cases mx <;> first | rfl | (simp only [b3 _ _ rfl]; done)
 · simp only [b1,b2]
 · simp only [b1,b2]
 · rfl
theorem DU {C:Calls'} {r:R} {e e':Env} {h:Hp} (hx:∀ x ∈ r.xs,x.ev e = x.ev e'):opM C r e h = opM C r e' h:=by
 cases r with
 | build zero ps=>simp only [opM]; rw [kV ps _ fun p hp=>hx _ (by simp only [R.xs]; exact List.mem_map.2 ⟨p,hp,rfl⟩)]
 | buildS z n zero ps=>simp only [opM]; rw [kV ps _ fun p hp=>hx _ (by simp only [R.xs]; exact List.mem_map.2 ⟨p,hp,rfl⟩)]
 | mkmv f caps =>
  have this:caps.map (·.ev e) = caps.map (·.ev e'):=List.map_congr_left fun x h=>hx x (by simpa [R.xs] using h);simp only [opM,this]
 | mkfn f caps =>
  have this:caps.map (·.ev e) = caps.map (·.ev e'):=List.map_congr_left fun x h=>hx x (by simpa [R.xs] using h);simp only [opM,this]
 | call f args =>
  have this:args.map (·.ev e) = args.map (·.ev e'):=List.map_congr_left fun x h=>hx x (by simp [R.xs,h]);simp only [opM,this,hx f (by simp [R.xs])]
 | minmax mx xs =>
  cases xs with
  | nil=>rfl
  | cons x xs =>
   have this:xs.map (·.ev e) = xs.map (·.ev e'):=List.map_congr_left fun y h=>hx y (by simp [R.xs,h]);simp only [opM,this,hx x (by simp [R.xs])]
 | slc k z x lo hi mx =>
  simp only [opM];rw [hx x (by simp [R.xs]),uh (e:=e) (e':=e') (fun y h=>hx y (by simp only [R.xs]; simp [List.mem_append]; simp at h; simp [h])) (fun y h=>hx y (by simp only [R.xs]; simp [List.mem_append]; simp at h; simp [h])) (fun y h=>hx y (by simp only [R.xs]; simp [List.mem_append]; simp at h; simp [h]))]
 | _ =>
  simp only [R.xs,List.mem_cons,List.not_mem_nil,or_false,forall_eq_or_imp,forall_eq] at hx;first
   | simp only [opM,hx]
   | (obtain ⟨h1,h2⟩:=hx; simp only [opM,h1,h2])
   | (obtain ⟨h1,h2,h3⟩:=hx; simp only [opM,h1,h2,h3])
   | rfl
structure Loc (wr:List Nat) (h h' hV hV':Hp):Prop where
 len:hV'.bs.length = h'.bs.length
 le:h.bs.length <= h'.bs.length
 new:∀ b,b ∈ wr \/ h.bs.length <= b -> hV'.bs[b]? = h'.bs[b]?
 old:∀ b,b < h.bs.length -> b ∉ wr -> h'.bs[b]? = h.bs[b]? /\ hV'.bs[b]? = hV.bs[b]?
theorem Loc.refl {wr:List Nat} {h hV:Hp} (hl:hV.bs.length = h.bs.length) (hw:∀ b ∈ wr,hV.bs[b]? = h.bs[b]?):Loc wr h h hV hV :=
 ⟨hl,Nat.le_refl _,fun b hb=>by
  rcases hb with hb | hb
  · exact hw b hb
  · rw [List.getElem?_eq_none hb,List.getElem?_eq_none (by omega)],fun b _ _=>⟨rfl,rfl⟩⟩
theorem Loc.add {wr:List Nat} {h hV:Hp} (hl:hV.bs.length = h.bs.length) (hw:∀ b ∈ wr,hV.bs[b]? = h.bs[b]?) (x:Blk) {l1 l2:Nat}:Loc wr h ⟨h.bs ++ [x],l1⟩ hV ⟨hV.bs ++ [x],l2⟩ :=
 ⟨by simp [hl],by simp,fun b hb=>by
  simp only;rcases Nat.lt_or_ge b h.bs.length with hlt | hge
  · rw [List.getElem?_append_left hlt,List.getElem?_append_left (by omega)];rcases hb with hb | hb
    · exact hw b hb
    · omega
  · rw [List.getElem?_append_right hge,List.getElem?_append_right (by omega),hl],fun b hb _=>by
  simp only;rw [List.getElem?_append_left hb,List.getElem?_append_left (by omega)]; exact ⟨rfl,rfl⟩⟩
theorem Loc.set {wr:List Nat} {h hV:Hp} (hl:hV.bs.length = h.bs.length) (hw:∀ b ∈ wr,hV.bs[b]? = h.bs[b]?) (c:Nat) (hc:c ∈ wr) (x:Blk) {l1 l2:Nat}:Loc wr h ⟨h.bs.set c x,l1⟩ hV ⟨hV.bs.set c x,l2⟩ :=
 ⟨by simp [hl],by simp,fun b hb=>by
  simp only;by_cases e:c = b
  · subst e; simp [List.getElem?_set,hl]
  · rw [List.getElem?_set_ne e,List.getElem?_set_ne e];rcases hb with hb | hb
    · exact hw b hb
    · rw [List.getElem?_eq_none hb,List.getElem?_eq_none (by omega)],fun b hb hn=>by
  have e:c ≠ b:=fun e=>hn (e ▸ hc);simp only;rw [List.getElem?_set_ne e,List.getElem?_set_ne e]; exact ⟨rfl,rfl⟩⟩
theorem gG {h hV:Hp} {b:Nat} (hb:hV.bs[b]? = h.bs[b]?):hV.get b = h.get b:=by simp only [Hp.get,hb]
theorem iY {h hV:Hp} {x:V} {z:Nat} (hb:∀ b ∈ x.blk,hV.bs[b]? = h.bs[b]?):aF hV x z = aF h x z:=by
 cases x with
 | row b o len cap z'=>simp only [aF,gG (hb b (by simp [V.blk]))]
 | d y=>cases y <;> rfl
 | _=>rfl
theorem vE {h hV:Hp} {x:V} {n:Nat} (hb:∀ b ∈ x.blk,hV.bs[b]? = h.bs[b]?):loadAt hV x n = loadAt h x n:=by
 cases x with
 | ptr b o=>simp only [loadAt,gG (hb b (by simp [V.blk]))]
 | _=>rfl
theorem ui {h hV:Hp} {e:Env} {k:SK} {z:Nat} {x:V} {lo hi mx:Option X} (hb:∀ b ∈ x.blk,hV.bs[b]? = h.bs[b]?):cz hV e k z x lo hi mx = cz h e k z x lo hi mx:=by
 unfold cz;split
 · rfl
 · rfl
 · rfl
 · rename_i b o;simp only [gG (hb b (by simp [V.blk]))]
 · rfl
theorem uV {h hV:Hp} {z bytes m:Nat} {s:V} {xs:List V} {r:V} {h':Hp} (hl:hV.bs.length = h.bs.length) (hb:∀ b ∈ s.blk,hV.bs[b]? = h.bs[b]?) (ha:aC h z bytes s m xs = some (r,h')) :
 ∃ hV',aC hV z bytes s m xs = some (r,hV') /\ Loc s.blk h h' hV hV':=by
 have hsz:hV.size = h.size:=hl;cases s with
 | d y =>
  cases y with
  | slice nl es =>
   cases nl with
   | true =>
    simp only [aC] at ha ⊢;split at ha
    · rename_i h0; cases ha; exact ⟨hV,by rw [if_pos h0],Loc.refl hl hb⟩
    · rename_i h0;split at ha
      · cases ha
      · rename_i h1;split at ha
        · rename_i h2;cases ha;exact ⟨hV.alloc xs,by rw [if_neg h0,if_neg h1,if_pos h2,hsz],Loc.add hl hb _⟩
        · cases ha
   | false =>
    cases es with
    | nil =>
     simp only [aC] at ha ⊢;split at ha
     · rename_i h0; cases ha; exact ⟨hV,by rw [if_pos h0],Loc.refl hl hb⟩
     · cases ha
    | cons c cs=>simp [aC] at ha
  | _=>simp [aC] at ha
 | row b o len cap z' =>
  simp only [aC,gG (hb b (by simp [V.blk]))] at ha ⊢;split at ha
  · cases ha
  · rename_i h0;rw [if_neg h0];split at ha
    · rename_i h1; cases ha; exact ⟨hV,by rw [if_pos h1],Loc.refl hl hb⟩
    · rename_i h1;rw [if_neg h1];split at ha
      · cases ha
      · rename_i cs hg;split at ha
        · cases ha
        · rename_i old hs;split at ha
          · cases ha
          · rename_i h2;rw [if_neg h2];split at ha
            · rename_i c;split at ha
              · rename_i h3;split at ha
                · rename_i cs' hp;cases ha;exact ⟨hV.set b cs',by rw [if_pos h3],Loc.set hl hb b (by simp [V.blk]) _⟩
                · cases ha
              · rename_i h3;cases ha;exact ⟨hV.alloc (old ++ xs),by rw [if_neg h3,hsz],Loc.add hl hb _⟩
            · split at ha
              · rename_i h3;cases ha;refine ⟨(hV.set b []).alloc (old ++ xs),by rw [if_pos h3,hsz],?_⟩;have k1:Loc [b] h (h.set b []) hV (hV.set b []):=Loc.set hl (fun c hc=>hb c (by simpa [V.blk] using hc)) b (by simp) _;refine ⟨by simp [Hp.alloc,Hp.set,hl],by simp [Hp.alloc,Hp.set],fun c hc=>?_,fun c hc hn=>?_⟩
                · simp only [Hp.alloc];rcases Nat.lt_or_ge c h.bs.length with hlt | hge
                  · rw [List.getElem?_append_left (by simp [Hp.set]; omega),List.getElem?_append_left (by simp [Hp.set]; omega)];exact k1.new c hc
                  · rw [List.getElem?_append_right (by simp [Hp.set]; omega),List.getElem?_append_right (by simp [Hp.set]; omega)];simp [Hp.set,hl]
                · simp only [Hp.alloc];rw [List.getElem?_append_left (by simpa [Hp.set] using hc),List.getElem?_append_left (by simp [Hp.set]; omega)];exact k1.old c hc hn
              · rename_i h3;split at ha
                · rename_i h4;split at ha
                  · rename_i cs' hp;cases ha;exact ⟨hV.set b cs',by rw [if_neg h3,if_pos h4],Loc.set hl hb b (by simp [V.blk]) _⟩
                  · cases ha
                · rename_i h4;split at ha
                  · rename_i h5;cases ha;refine ⟨(hV.set b []).alloc (old ++ xs),by rw [if_neg h3,if_neg h4,if_pos h5,hsz],?_⟩;have k1:Loc [b] h (h.set b []) hV (hV.set b []):=Loc.set hl (fun c hc=>hb c (by simpa [V.blk] using hc)) b (by simp) _;refine ⟨by simp [Hp.alloc,Hp.set,hl],by simp [Hp.alloc,Hp.set],fun c hc=>?_,fun c hc hn=>?_⟩
                    · simp only [Hp.alloc];rcases Nat.lt_or_ge c h.bs.length with hlt | hge
                      · rw [List.getElem?_append_left (by simp [Hp.set]; omega),List.getElem?_append_left (by simp [Hp.set]; omega)];exact k1.new c hc
                      · rw [List.getElem?_append_right (by simp [Hp.set]; omega),List.getElem?_append_right (by simp [Hp.set]; omega)];simp [Hp.set,hl]
                    · simp only [Hp.alloc];rw [List.getElem?_append_left (by simpa [Hp.set] using hc),List.getElem?_append_left (by simp [Hp.set]; omega)];exact k1.old c hc hn
                  · cases ha
 | _=>simp [aC] at ha
theorem uC {C:Calls'} {r:R} (hnc:∀ f args,r ≠ .call f args) {e:Env} {h hV:Hp} {v:V} {h':Hp} (hm:opM C r e h = some (v,h')) (hl:hV.bs.length = h.bs.length) (hN:∀ b ∈ eU e r,hV.bs[b]? = h.bs[b]?) :
 ∃ hV',opM C r e hV = some (v,hV') /\ Loc (dm e r) h h' hV hV':=by
 have hsz:hV.size = h.size:=hl;have still:∀ {x:Option V},dm e r = [] -> (∀ q:Hp,opM C r e q = x.map (·,q)) -> ∃ hV',opM C r e hV = some (v,hV') /\ Loc (dm e r) h h' hV hV':=by
  intro x hw hq;rw [hq h] at hm;cases x with
  | none=>cases hm
  | some u =>
   simp at hm;obtain ⟨rfl,rfl⟩:=hm;exact ⟨hV,by rw [hq]; rfl,by rw [hw]; exact Loc.refl hl (by simp)⟩
 have fresh:∀ {x:Option Blk} {f:Nat -> V},dm e r = [] -> (∀ q:Hp,opM C r e q = x.map (fun b=>(f q.bs.length,⟨q.bs ++ [b],q.low⟩))) -> ∃ hV',opM C r e hV = some (v,hV') /\ Loc (dm e r) h h' hV hV':=by
  intro x f hw hq;rw [hq h] at hm;cases x with
  | none=>cases hm
  | some u =>
   simp at hm;obtain ⟨rfl,rfl⟩:=hm;exact ⟨⟨hV.bs ++ [u],hV.low⟩,by rw [hq]; simp [hl],by rw [hw]; exact Loc.add hl (by simp) _⟩
 cases r with
 | call f args=>exact absurd rfl (hnc f args)
 | mov x=>exact still (x:=some (x.ev e)) rfl fun q=>rfl
 | pick c a b =>
  refine still (x:=match c.ev e with | .d (.bool t)=>some (if t then a.ev e else b.ev e) | _=>none) rfl fun q=>?_;simp only [opM]; split <;> simp_all
 | new z=>exact fresh (x:=some (.cells z)) (f:=fun n=>.ptr n 0) rfl fun q=>rfl
 | box x =>
  refine fresh (x:=(x.ev e).cells.map .cells) (f:=fun n=>.ptr n 0) rfl fun q=>?_;simp only [opM]; cases (x.ev e).cells <;> rfl
 | build zero ps =>
  refine still (x:=(fills e zero ps).map .agg) rfl fun q=>?_;simp only [opM]; cases fills e zero ps <;> rfl
 | buildS z n zero ps =>
  refine fresh (x:=(fills e (List.replicate n zero).flatten ps).map .cells) (f:=fun k=>.row k 0 n (some n) z) rfl fun q=>?_;simp only [opM]; cases fills e (List.replicate n zero).flatten ps <;> rfl
 | load sc n x =>
  simp only [opM] at hm ⊢;rw [vE (h:=h) (hV:=hV) hN];split at hm
  · simp only [Option.map_eq_some_iff] at hm ⊢;obtain ⟨u,hu,hm⟩:=hm;cases hm;exact ⟨hV,⟨_,hu,rfl⟩,Loc.refl hl (by simp [dm])⟩
  · cases hm
 | store n x y =>
  simp only [opM] at hm ⊢;split at hm
  · rename_i xs hx;split at hm
    · rename_i hn;simp only [Option.map_eq_some_iff] at hm;obtain ⟨h2,hs,hm⟩:=hm;cases hm;cases hp:x.ev e with
      | ptr b o =>
       rw [hp] at hs;have hb:b ∈ eU e (.store n x y):=by simp [eU,hp,V.blk]
       simp only [storeAt] at hs;split at hs
       · rename_i cs hg;split at hs
         · rename_i cs' hput;cases hs;refine ⟨hV.set b cs',?_,Loc.set hl hN b hb _⟩;rw [if_pos hn];simp only [storeAt,gG (hN b hb),hg,hput];rfl
         · cases hs
       · cases hs
      | _=>rw [hp] at hs; simp [storeAt] at hs
    · cases hm
  · cases hm
 | nilchk x =>
  refine still (x:=match x.ev e with | .ptr b o=>some (.ptr b o) | .eptr cs o=>some (.eptr cs o) | .fn f cs=>some (.fn f cs) | .mfn f cs=>some (.mfn f cs) | _=>none) rfl fun q=>?_;simp only [opM]; split <;> simp_all
 | bin op x y =>
  refine still (x:=(bJ op (x.ev e) (y.ev e)).map .d) rfl fun q=>?_;simp only [opM,one]; cases bJ op (x.ev e) (y.ev e) <;> rfl
 | eq k neg x y =>
  refine still (x:=(fu k (x.ev e) (y.ev e)).map fun b=>.d (.bool (b != neg))) rfl fun q=>?_;simp only [opM]; cases fu k (x.ev e) (y.ev e) <;> rfl
 | un op x =>
  refine still (x:=(unD op (x.ev e)).map .d) rfl fun q=>?_;simp only [opM,one]; cases unD op (x.ev e) <;> rfl
 | convI k x =>
  refine still (x:=match x.ev e with | .d (.int _ n)=>some (.d (.int k (k.wrap n))) | _=>none) rfl fun q=>?_;simp only [opM]; split <;> simp_all
 | convBS x =>
  simp only [opM] at hm ⊢;split at hm
  · cases hm
  · rename_i hne;split at hm
    · rename_i m cs hr;split at hm
      · rename_i l hl2;cases hm;refine ⟨hV,?_,Loc.refl hl (by simp [dm])⟩;rw [iY (h:=h) (hV:=hV) hN,hr];simp only [hl2]
      · cases hm
    · cases hm
 | convSB x =>
  refine fresh (x:=match x.ev e with | .d (.str s)=>if s.size <= 2 ^ 40 then some (.cells (s.toList.map fun b=>.d (.int .u8 b.toNat))) else none | _=>none) (f:=fun k=>match x.ev e with | .d (.str s)=>.row k 0 s.size none 1 | _=>.undef) rfl fun q=>?_;simp only [opM];split
  · split <;> simp_all <;> exact ⟨rfl,rfl⟩
  · simp_all
 | convSS x =>
  refine still (x:=match x.ev e with | .d (.str s)=>some (.d (.str s)) | _=>none) rfl fun q=>?_;simp only [opM]; split <;> simp_all
 | fldA x off =>
  refine still (x:=match x.ev e with | .ptr b o=>some (.ptr b (o + off)) | .eptr cs o=>some (.eptr cs (o + off)) | _=>none) rfl fun q=>?_;simp only [opM]; split <;> simp_all
 | fld sc x off n =>
  refine still (x:=match x.ev e with | .agg cs=>(match sub cs off n with | some l=>mk sc l | none=>none) | _=>none) rfl fun q=>?_;simp only [opM];split
  · split <;> simp_all
  · simp_all
 | idxA arr z x i =>
  have:∀ q1 q2:Hp,(opM C (.idxA arr z x i) e q1).map (·.1) = (opM C (.idxA arr z x i) e q2).map (·.1) /\ (∀ u q',opM C (.idxA arr z x i) e q1 = some (u,q') -> q' = q1):=by
   intro q1 q2;simp only [opM];split
   · split
     · split
       · split
         · exact ⟨rfl,fun u q' h=>by cases h; rfl⟩
         · exact ⟨rfl,fun u q' h=>by cases h⟩
       · exact ⟨rfl,fun u q' h=>by cases h⟩
     · exact ⟨rfl,fun u q' h=>by cases h⟩
   · split
     · exact ⟨rfl,fun u q' h=>by cases h; rfl⟩
     · exact ⟨rfl,fun u q' h=>by cases h⟩
   · split
     · exact ⟨rfl,fun u q' h=>by cases h; rfl⟩
     · exact ⟨rfl,fun u q' h=>by cases h⟩
   · split
     · exact ⟨rfl,fun u q' h=>by cases h; rfl⟩
     · exact ⟨rfl,fun u q' h=>by cases h⟩
   · exact ⟨rfl,fun u q' h=>by cases h⟩
  refine still (x:=(opM C (.idxA arr z x i) e h).map (·.1)) rfl fun q=>?_;have a1:=(this h q).1;have a2:=(this q h).2;rw [a1];cases hq:opM C (.idxA arr z x i) e q with
  | none=>rfl
  | some u=>obtain ⟨u1,u2⟩:=u; rw [a2 u1 u2 hq]; rfl
 | idx sc n z x i =>
  refine still (x:=match i.ev e,x.ev e with | .d (.int _ i),.agg cs=>if 0 <= i /\ i < n then (match sub cs (i.toNat * z) z with | some l=>mk sc l | none=>none) else none | _,_=>none) rfl fun q=>?_;simp only [opM];split
  · rename_i heq1 heq2;split
    · split <;> simp_all
    · rename_i hf;simp only [heq1,heq2,if_neg hf]; rfl
  · simp_all
 | idxS x i =>
  refine still (x:=match i.ev e,x.ev e with | .d (.int _ i),.d (.str s)=>if 0 <= i then (match s.toList[i.toNat]? with | some b=>some (.d (.int .u8 b.toNat)) | none=>none) else none | _,_=>none) rfl fun q=>?_;simp only [opM];split
  · rename_i heq1 heq2;split
    · split <;> simp_all
    · rename_i hf;simp only [heq1,heq2,if_neg hf]; rfl
  · simp_all
 | slc k z x lo hi mx =>
  simp only [opM] at hm ⊢;rw [ui (h:=h) (hV:=hV) hN];simp only [Option.map_eq_some_iff] at hm ⊢;obtain ⟨u,hu,hm⟩:=hm;cases hm;exact ⟨hV,⟨_,hu,rfl⟩,Loc.refl hl (by simp [dm])⟩
 | mkfn f caps=>exact still (x:=some (.fn f (caps.map (·.ev e)))) rfl fun q=>rfl
 | mkmv f caps=>exact still (x:=some (.mfn f (caps.map (·.ev e)))) rfl fun q=>rfl
 | mksl z bytes zero len cap =>
  refine fresh (x:=match len.ev e,cap.ev e with | .d (.int .i64 l),.d (.int .i64 c)=>if 0 <= l /\ l <= c /\ c <= 2 ^ 30 /\ bytes <= 2 ^ 12 then some (.cells (List.replicate c.toNat zero).flatten) else none | _,_=>none)
   (f:=fun k=>match len.ev e,cap.ev e with | .d (.int .i64 l),.d (.int .i64 c)=>.row k 0 l.toNat (some c.toNat) z | _,_=>.undef) rfl fun q=>?_
  simp only [opM];split
  · split <;> simp_all <;> exact ⟨rfl,rfl⟩
  · simp_all
 | ext x i =>
  refine still (x:=match x.ev e with | .tup vs=>vs[i]? | _=>none) rfl fun q=>?_;simp only [opM]; split <;> simp_all
 | app z bytes s x =>
  simp only [opM] at hm ⊢;rw [iY (h:=h) (hV:=hV) (fun b hb=>hN b (by simp [eU,hb]))];split at hm
  · exact uV hl (fun b hb=>hN b (by simp [eU,hb])) hm
  · cases hm
 | len st x =>
  refine still (x:=((x.ev e).len st).map fun n=>.d (.int .i64 n)) rfl fun q=>?_;simp only [opM]; cases (x.ev e).len st <;> rfl
 | copy z x y =>
  simp only [opM] at hm ⊢;rw [iY (h:=h) (hV:=hV) (fun b hb=>hN b (by simp [eU,hb]))];split at hm
  · rename_i m xs b o len cap z' hr hp;have hb:b ∈ dm e (.copy z x y):=by simp [dm,hp,V.blk]
    have hbn:hV.bs[b]? = h.bs[b]?:=hN b (by simp [eU,hp,V.blk]);have hW:∀ c ∈ dm e (.copy z x y),hV.bs[c]? = h.bs[c]?:=fun c hc=>hN c (by simp only [eU,dm] at hc ⊢; exact List.mem_append_left _ hc);split at hm
    · rename_i hz;simp only [gG hbn];split at hm
      · rename_i cs hg;split at hm
        · rename_i h0;cases hm;exact ⟨hV,by rw [if_pos hz]; simp only [if_pos h0],Loc.refl hl hW⟩
        · rename_i h0;split at hm
          · rename_i cs' hput;cases hm;exact ⟨hV.set b cs',by rw [if_pos hz]; simp only [if_neg h0,hput],Loc.set hl hW b hb _⟩
          · cases hm
      · cases hm
    · cases hm
  · cases hm
 | clear z zero x =>
  simp only [opM] at hm ⊢;split at hm
  · rename_i b o len cap z' hp;have hb:b ∈ eU e (.clear z zero x):=by simp [eU,hp,V.blk]
    split at hm
    · rename_i hz;simp only [gG (hN b hb)];split at hm
      · rename_i cs hg;split at hm
        · rename_i h0;cases hm;exact ⟨hV,by rw [if_pos hz]; simp only [if_pos h0],Loc.refl hl hN⟩
        · rename_i h0;split at hm
          · rename_i cs' hput;cases hm;exact ⟨hV.set b cs',by rw [if_pos hz]; simp only [if_neg h0,hput],Loc.set hl hN b hb _⟩
          · cases hm
      · cases hm
    · cases hm
  · cases hm; exact ⟨hV,rfl,Loc.refl hl hN⟩
  · cases hm
 | minmax mx xs =>
  refine still (x:=match xs with | []=>none | x :: xs=>fw mx (x.ev e) (xs.map (·.ev e))) rfl fun q=>?_;simp only [opM];cases xs with
  | nil=>rfl
  | cons x xs=>simp only; cases fw mx (x.ev e) (xs.map (·.ev e)) <;> rfl
 | range x =>
  refine fresh (x:=match x.ev e with | .d (.str s)=>some (.iter s 0) | _=>none) (f:=fun k=>.ptr k 0) rfl fun q=>?_;simp only [opM]; split <;> simp_all; rfl
 | next x =>
  simp only [opM] at hm ⊢;split at hm
  · rename_i b hp;have hb:b ∈ eU e (.next x):=by simp [eU,hp,V.blk]
    rw [hN b hb];split at hm
    · rename_i s pos hg;split at hm
      · rename_i h0;cases hm;exact ⟨⟨hV.bs.set b (Blk.iter s (pos + (Utf8.decode s pos).2)),min hV.low b⟩,by simp only [if_pos h0],Loc.set hl hN b hb _⟩
      · rename_i h0;cases hm;exact ⟨hV,by simp only [if_neg h0],Loc.refl hl hN⟩
    · cases hm
  · cases hm
end
end Go.Proofs.YtjkfknafpgfchaaGreat
