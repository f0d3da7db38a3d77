/- Rows: what is appended, copied, sliced. -/
import Derived.Test.YtjkfknafpgfchaaGreatPe
set_option linter.unusedVariables false
set_option linter.unusedSimpArgs false
namespace Go.Proofs.YtjkfknafpgfchaaGreat
open Go.RowKit
section
variable {P:Program} {B:Nat} {ρ:Rh} {h:Hp} {w:World}
theorem DRs.append {S:Nat -> Prop} {b:Nat}:∀ {xs ys:List D} {o:Nat},DRs S w b o xs -> DRs S w b (o + xs.length) ys -> DRs S w b o (xs ++ ys)
 | [],ys,o,_,k=>by simpa using k
 | x :: xs,ys,o,h,k=>by
  simp only [DRs,List.cons_append] at h ⊢;exact ⟨h.1,h.2.append (by simpa [Nat.add_assoc,Nat.add_comm 1] using k)⟩
theorem DRss.flat {S:Nat -> Prop} {b z:Nat}:∀ {es:List (List D)} {o:Nat},DRss S w b o z es -> DRs S w b o es.flatten /\ es.flatten.length = es.length * z
 | [],o,_=>by simp [DRs]
 | e :: es,o,h=>by
  simp only [DRss] at h;obtain ⟨h1,h2,h3⟩:=h;obtain ⟨k1,k2⟩:=h3.flat;refine ⟨?_,by simp [h1,k2,Nat.add_mul,Nat.add_comm]⟩;simp only [List.flatten_cons];exact h2.append (by rw [h1]; exact k1)
theorem zC {S:Nat -> Prop} {b o:Nat} {ds:List D} (hd:DRs S w b o ds) :
 ∃ us:List Value,us.length = ds.length /\ (∀ j u,us[j]? = some u -> w.cell? ⟨b,o + j,none⟩ = some u) /\ (∀ (i:Nat) (h1:i < ds.length) (h2:i < us.length),DR S w ds[i] us[i]):=by
 have key:∀ i:Fin ds.length,∃ u,cellAt w b (o + i.1) = some u /\ DR S w ds[i.1] u:=fun i=>hd.get i.1 i.2;refine ⟨List.ofFn fun i=>Classical.choose (key i),by simp,fun j u hu=>?_,fun i h1 h2=>?_⟩
 · obtain ⟨hj,rfl⟩:=List.getElem?_eq_some_iff.1 hu;simp only [List.getElem_ofFn];exact (Classical.choose_spec (key ⟨j,by simpa using hj⟩)).1
 · simp only [List.getElem_ofFn];exact (Classical.choose_spec (key ⟨i,h1⟩)).2
theorem add_plain' (b o j:Nat):(⟨b,o,none⟩:Addr).add j = ⟨b,o + j,none⟩:=by unfold Addr.add; split <;> simp_all
theorem uo {w0:World} (h0:w0.heap = w.heap) (a:Addr):w0.cell? a = w.cell? a:=by simp [World.cell?,h0]
theorem gm (hR:Rel B ρ h w) {x:V} {v:Value} {m z:Nat} {cs:List V} (hv:VR ρ (St ρ w) w x v) (hc:aF h x z = some (m,cs)) :
 ∃ us:List Value,us.length = m * z /\ (∀ w0,(Builtin.lenOf v).run P w0 = .ok m w0) /\ (∀ k w0,k <= m -> w0.heap = w.heap -> (Builtin.firstCells z k v).run P w0 = .ok (us.take (k * z)).toArray w0) ∧
  VRs ρ (St ρ w) w cs us /\ (∀ u ∈ us,u.oneCell' = true):=by
 cases x with
 | d y =>
  simp only [VR] at hv;cases y with
  | slice nl es =>
   simp only [aF] at hc;split at hc
   · rename_i hall;cases hc;simp only [DR] at hv;obtain ⟨a,c,rfl,h1,h2,h3,h4,h5⟩:=hv;by_cases hne:es = []
     · subst hne;refine ⟨[],by simp,fun w0=>rfl,fun k w0 hk h0=>?_,by simp [VRs],by simp⟩;have:k = 0:=by simpa using hk
       subst this;cases a with
       | none=>simp [Builtin.firstCells]
       | some a=>simp [Builtin.firstCells,loadCells,loadCellsFrom]
     · obtain ⟨b,o,z',rfl,hb,hd⟩:=h5 hne;have hz:z' = z:=by
        cases es with
        | nil=>exact absurd rfl hne
        | cons e es =>
         simp only [DRss] at hd;simp at hall;rw [← hd.1]; exact hall.1
       subst hz;obtain ⟨k1,k2⟩:=hd.flat;obtain ⟨us,l1,l2,l3⟩:=zC k1;refine ⟨us,by rw [l1,k2],fun w0=>rfl,fun k w0 hk h0=>?_,VRs.of_data l1 l3,fun u hu=>?_⟩
       · refine run_firstCells_some (P:=P) w0 z' k _ _ _ _ ?_ fun j u hu=>?_
         · rw [List.length_take,l1,k2]; exact Nat.min_eq_left (Nat.mul_le_mul_right _ hk)
         · rw [uo h0,add_plain'];rw [List.getElem?_take] at hu;split at hu
           · exact l2 j u hu
           · cases hu
       · obtain ⟨i,hi,rfl⟩:=List.getElem_of_mem hu;exact (l3 i (by omega) hi).one
   · cases hc
  | str s =>
   simp only [aF] at hc;split at hc
   · rename_i hz;subst hz;cases hc;simp only [DR] at hv;subst hv;have hl:s.toList = s.data.toList:=ByteArray.toList_eq s;refine ⟨s.data.toList.map fun b=>.int .u8 b.toNat,by simp,fun w0=>rfl,fun k w0 hk h0=>?_,?_,?_⟩
     · simp only [Builtin.firstCells,Sem.run_pure,Nat.mul_one]
       congr 1
       apply Array.ext';have:(s.extract 0 k).data.toList = s.data.toList.take k:=by
        simp [ByteArray.data_extract]
       simp [this,List.map_take]
     · rw [hl];have:(s.data.toList.map fun b=>V.d (D.int .u8 b.toNat)) = (s.data.toList.map fun b=>D.int .u8 b.toNat).map .d:=by simp
       rw [this];exact VRs.of_data (by simp) fun i h1 h2=>by simp [DR]
     · intro u hu;obtain ⟨b,_,rfl⟩:=List.mem_map.1 hu;rfl
   · cases hc
  | _=>simp [aF] at hc
 | row b o len cap z' =>
  simp only [VR] at hv;obtain ⟨hb,c,rfl,h1,h2,h3,h4⟩:=hv;simp only [aF] at hc;split at hc
  · rename_i hz;subst hz;cases hg:h.get b with
    | none=>simp [hg] at hc
    | some cs0 =>
     simp only [hg,Option.map_eq_some_iff] at hc;obtain ⟨l,hs,e⟩:=hc;cases e;obtain ⟨s1,rfl⟩:=jb hs;by_cases h0:m * z' = 0
     · refine ⟨[],by simp [h0],fun w0=>rfl,fun k w0 hk hh=>?_,by simp [h0,VRs],by simp⟩;have hk0:k * z' = 0:=by
        rcases Nat.eq_zero_or_pos z' with e | e
        · simp [e]
        · have:m = 0:=by rcases Nat.mul_eq_zero.1 h0 with e1 | e1 <;> omega
          have:k = 0:=by omega
          simp [this]
       simp [Builtin.firstCells,loadCells,hk0,loadCellsFrom]
     · have hne:cs0 ≠ []:=by rintro rfl; simp only [List.length_nil] at s1; omega
       obtain ⟨arr,el,fz,g1,g2,g3,g4⟩:=eQ hR hg hne;refine ⟨(arr.toList.drop o).take (m * z'),by simp; omega,fun w0=>rfl,fun k w0 hk hh=>?_,?_,?_⟩
       · refine run_firstCells_some (P:=P) w0 z' k _ _ _ _ ?_ fun j u hu=>?_
         · have:=Nat.mul_le_mul_right z' hk;simp; omega
         · rw [uo hh,add_plain'];rw [List.getElem?_take] at hu;split at hu
           · rw [List.getElem?_take] at hu;split at hu
             · simp only [List.getElem?_drop,Array.getElem?_toList] at hu;simp [World.cell?,g1,hu]
             · cases hu
           · cases hu
       · refine VRs.of_get (by simp; omega) fun i a b=>?_;simp only [List.getElem_take,List.getElem_drop,Array.getElem_toList];exact (g4 (o + i) (by simp at a; omega) _).1
       · intro u hu;obtain ⟨i,hi,rfl⟩:=List.getElem_of_mem hu;simp only [List.getElem_take,List.getElem_drop,Array.getElem_toList];exact (g4 (o + i) (by simp at hi; omega) _).2
  · cases hc
 | _=>simp [aF] at hc
theorem xA (hR:Rel B ρ h w) (b lw:Nat):Rel B ρ ⟨h.bs.set b (.cells []),lw⟩ w:=by
 have key:∀ k (hk:k < (h.bs.set b (.cells [])).length) (hk':k < h.bs.length),(h.bs.set b (.cells []))[k].live = true -> h.bs[k].live = true:=by
  intro k hk hk' l;by_cases e:b = k
  · subst e; simp [Blk.live] at l
  · simpa [List.getElem_set,e] using l
 refine ⟨fun i hi=>by simpa using hR.dom i hi,hR.ln,fun i hi hl=>hR.live i (by simpa using hi) (key i hi (by simpa using hi) hl),hR.lo,hR.base,hR.inj,fun i hi=>?_,hR.xB,fun c hc=>by simpa using hR.gB c hc⟩;simp only [List.length_set] at hi;by_cases e:b = i
 · subst e; simp only [List.getElem_set_self,BR]
 · simp only [List.getElem_set,e,if_false]; exact hR.mem i hi
def renρ (ρ:Rh) (n b:Nat):Rh:=⟨fun i=>if i = n then ρ b else ρ i,ρ.X,fun i=>ρ.N i \/ i = n,fun i=>(ρ.L i /\ i ≠ b) \/ i = n,ρ.G⟩
theorem kz {ρ:Rh} {n b i:Nat} (h:i ≠ n):renρ ρ n b i = ρ i:=by simp [renρ,h]
theorem lG {ρ:Rh} {n b:Nat}:renρ ρ n b n = ρ b:=by simp [renρ]
theorem Ei (hR:Rel B ρ h w) {b:Nat} (hb:b < h.bs.length) (hlive:h.bs[b].live = true) {w':World} (hsz:w'.heap.size = w.heap.size)
 (hoth:∀ k,k ≠ ρ b -> w'.heap[k]? = w.heap[k]?) (hown:∀ arr e fz,w.heap[ρ b]? = some (.cells arr e fz) -> ∃ arr' fz',w'.heap[ρ b]? = some (.cells arr' e fz') /\ arr'.size = arr.size)
 (h1:w'.os = w.os) (h2:w'.tape = w.tape) (h3:w'.output = w.output) (bl:Blk) (hbl:BR ρ w' (ρ b) bl) (lw:Nat) :
 Rel B (renρ ρ h.size b) ⟨h.bs.set b (.cells []) ++ [bl],lw⟩ w' /\ Goes B ρ w (renρ ρ h.size b) w':=by
 have hL:=hR.live b hb hlive;have hN:=hR.ln b hL;have hg:=ja hR hL hsz hoth hown h1 h2 h3;have hr:=xA (oV hR hb hlive hsz hoth hown h1 h2 h3 bl hbl lw) b lw;have hnot:¬ ρ.N h.size:=jR hR;have hne:∀ i,ρ.N i -> i ≠ h.size:=fun i hi e=>hnot (e ▸ hi);have hneL:∀ i,ρ.L i -> i ≠ h.size:=fun i hi=>hne i (hR.ln i hi);have hltn:∀ i,i < h.bs.length -> i ≠ h.size:=fun i hi e=>by rw [e] at hi; exact Nat.lt_irrefl _ hi
 have hx:Ext ρ (St ρ w') w' (renρ ρ h.size b) (St (renρ ρ h.size b) w') w':=by
  refine ⟨fun i hi=>.inl hi,fun i hi=>kz (hne i hi),fun c hc=>⟨hc.1,fun i=>⟨fun hi=>?_,(hc.2 0).2⟩⟩,fun _ _=>rfl,fun i hi arr e fz k=>⟨arr,fz,k,rfl⟩,rfl,fun _ _=>rfl,rfl⟩;by_cases e:i = h.size
  · subst e; rw [lG]; exact (hc.2 b).1 hL
  · rw [kz e]; exact (hc.2 i).1 (hi.resolve_right e).1
 have key:∀ k (hk:k < h.bs.length) (hk':k < (h.bs.set b (.cells []) ++ [bl]).length),(h.bs.set b (.cells []) ++ [bl])[k].live = true -> h.bs[k].live = true /\ k ≠ b:=by
  intro k hk hk' l;rw [List.getElem_append_left (by simpa using hk)] at l;by_cases e:b = k
  · subst e; simp [Blk.live] at l
  · exact ⟨by simpa [List.getElem_set,e] using l,fun e'=>e e'.symm⟩
 refine ⟨⟨fun i hi=>?_,fun i hi=>hi.imp (fun k=>hR.ln i k.1) id,fun i hi hl=>?_,fun i hi=>?_,by rw [hsz]; exact hR.base,fun i j hij li lj=>?_,fun i hi=>?_,fun c hc=>⟨by rw [hsz]; exact (hR.xB c hc).1,fun i hi=>?_⟩,fun c hc=>⟨fun hN=>hN.elim (hR.gB c hc).1 fun e=>Nat.lt_irrefl _ (show h.bs.length < h.bs.length from by have:=(hR.gB c hc).2; rw [e] at this; exact this),by have:=(hR.gB c hc).2; simp; omega⟩⟩,hg.trans ⟨hx,Below.refl _ _⟩⟩
 · rcases hi with hi | rfl
   · have:=hR.dom i hi; simp; omega
   · simp [Hp.size]
 · simp only [List.length_append,List.length_set,List.length_cons,List.length_nil] at hi;rcases Nat.lt_succ_iff_lt_or_eq.1 hi with a1 | a1
   · have:=key i a1 (by simpa using hi) hl;exact .inl ⟨hR.live i a1 this.1,this.2⟩
   · exact .inr a1
 · rw [hsz];by_cases e:i = h.size
   · subst e; rw [lG]; exact hR.lo b hN
   · rw [kz e]; exact hR.lo i (hi.resolve_right e)
 · by_cases e1:i = h.size <;> by_cases e2:j = h.size
   · omega
   · subst e1;rw [lG,kz e2];have:=lj.resolve_right e2;exact hR.inj b j (fun e=>this.2 e.symm) hL this.1
   · subst e2;rw [lG,kz e1];have:=li.resolve_right e1;exact hR.inj i b this.2 this.1 hL
   · rw [kz e1,kz e2];exact hR.inj i j hij (li.resolve_right e1).1 (lj.resolve_right e2).1
 · simp only [List.length_append,List.length_set,List.length_cons,List.length_nil] at hi;rcases Nat.lt_succ_iff_lt_or_eq.1 hi with a1 | a1
   · rw [List.getElem_append_left (by simpa using a1),kz (hltn i a1)];have:=hr.mem i (by simpa using a1);simp only [List.set_set] at this;exact this.ext hx rfl
   · subst a1;rw [List.getElem_append_right (by simp)];simp only [List.length_set,Nat.sub_self,List.getElem_cons_zero];have:renρ ρ h.size b h.bs.length = ρ b:=lG;rw [this];exact hbl.ext hx rfl
 · by_cases e:i = h.size
   · subst e; rw [lG]; exact (hR.xB c hc).2 b hL
   · rw [kz e]; exact (hR.xB c hc).2 i (hi.resolve_right e).1
end
end Go.Proofs.YtjkfknafpgfchaaGreat
