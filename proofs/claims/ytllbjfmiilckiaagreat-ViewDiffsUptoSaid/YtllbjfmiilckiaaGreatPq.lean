/- Each operation but a call does in the model what the pure reading says. -/
import Derived.Test.YtllbjfmiilckiaaGreatPv
import Derived.Laws.Tables
import Derived.Laws.Slices
import Derived.Laws.OwnMore
import Derived.Laws.IdiomStrings
import Derived.Laws.BytesString
import Derived.Laws.MakeOwn
set_option linter.unusedVariables false
set_option linter.unusedSimpArgs false
namespace Go.Proofs.YtllbjfmiilckiaaGreat
section
open Go.RowKit
def Does (P:Program)(B:Nat)(ρ:Rh)(h:Hp)(w:World)(s:Sem Next)(x:V)(h':Hp):Prop :=
 ∃ v ρ' w',(s.run P w=.ok (.value v) w'\/(s.run P w=.ok .skip w'/\v=undef))/\Rel B ρ' h' w'/\Goes B ρ w ρ' w'/\VR ρ' (St ρ' w') w' x v
section
variable {P:Program}{B:Nat}{ρ:Rh}{h:Hp}{w:World}
theorem Does.pure (hR:Rel B ρ h w){s:Sem Next}{v:Value}{x:V}(hs:s.run P w=.ok (.value v) w)(hv:VR ρ (St ρ w) w x v):Does P B ρ h w s x h :=
 ⟨v,ρ,w,.inl hs,hR,Goes.refl _ _ _,hv⟩
theorem Does.fresh (hR:Rel B ρ h w){s:Sem Next}{cs:List V}{arr:Array Value}{t:TypeId}(hs:s.run P w=.ok (.value (.pointer (some ⟨w.heap.size,0,none⟩))) (w.alloc (.cells arr t)))
 (hv:VRs ρ (St ρ w) w cs arr.toList) (h1:∀ u∈arr.toList,u.oneCell'=true):Does P B ρ h w s (.ptr h.size 0) (h.alloc cs):=by
 have hl:=hv.length;simp only [Array.length_toList] at hl;have ht:arr.toList.take cs.length=arr.toList:=List.take_of_length_le (by simp [hl]);refine ⟨_,extρ ρ h.size w.heap.size,_,.inl hs,qX hR t (0,0) (by omega) (λj _=>by simp) (by rw [ht]; exact hv) (by rw [ht]; exact h1),jA hR _ _ (kI hR),?_⟩;simp only [VR];exact ⟨.inr rfl,by rw [j6]⟩
theorem Does.freshRow (hR:Rel B ρ h w){s:Sem Next}{cs:List V}{arr:Array Value}{t:TypeId}{len c z:Nat}{cap:Option Nat}{fz:Nat×Nat}{w0:World}(h0:w0.heap=w.heap)(h0b:Below B w w0)
 (hs:s.run P w=.ok (.value (.slice (some ⟨w.heap.size,0,none⟩) len c)) (w0.alloc (.cells arr t fz)))
 (hf:∀ j,j<arr.size->¬ (fz.1<=j/\j<fz.2)) (hl:cs.length<=arr.size)
 (hv:VRs ρ (St ρ w) w cs (arr.toList.take cs.length)) (h1:∀ u∈arr.toList.take cs.length,u.oneCell'=true) (hlen:len<=c) (hc:c<=maxLen) (hcap:∀ k,cap=some k->c=k) (hz:c * z<=arr.size) (hzz:cap=none->c * z=arr.size) :
 Does P B ρ h w s (.row h.size 0 len cap z) (h.alloc cs):=by
 have hR0:=hR.same h0;have hx:Ext ρ (St ρ w) w ρ (St ρ w0) w0:=tY h0;have hsz:w0.heap.size=w.heap.size:=by rw [h0]
 have hr:=qX hR0 t fz hl hf (hv.ext hx) h1;have hg:=jA hR0 (.cells arr t fz) h.size (kI hR0);rw [hsz] at hr hg;refine ⟨_,extρ ρ h.size w.heap.size,_,.inl hs,hr,Goes.trans ⟨hx,h0b⟩ hg,?_⟩;simp only [VR];refine ⟨.inr rfl,c,by rw [j6],hlen,hc,hcap,arr,t,fz,?_,by simpa using hz,λh=>by simpa using hzz h⟩;rw [j6];show (w0.heap.push _)[_]?=_;simp [← hsz]
theorem eT {S:Nat->Prop}{t:TypeId}{l:List V}(hz:iq P t=some l) :
 ∃ i z,P.info? t=some i/\i.zero=some z/\l.length=i.size/\VRs ρ S w l z.cells.toList/\∀ u∈z.cells.toList,u.oneCell'=true:=by
 unfold iq at hz;cases hi:P.info? t with
 | none=>simp [hi] at hz
 | some i =>
  cases hzz:i.zero with
  | none=>simp [hi,hzz] at hz
  | some z =>
   cases hm:z.cells.toList.mapM dOf with
   | none=>simp [hi,hzz,hm] at hz
   | some ds =>
    simp only [hi,hzz,hm,Option.bind_eq_bind,Option.bind_some] at hz;split at hz
    . rename_i hl;cases hz;have hh:=mapM_some hm;have hg:∀ (j:Nat) (a:j<ds.length) (b:j<z.cells.toList.length),DR S w ds[j] z.cells.toList[j]:=λj a b=>qw (hh.2 j b a);refine ⟨i,z,rfl,hzz,by simpa using hl,VRs.of_data hh.1.symm hg,λu hu=>?_⟩;obtain ⟨j,hj,rfl⟩:=List.getElem_of_mem hu;exact (hg j (by rw [hh.1]; exact hj) hj).one
    . cases hz
theorem yX (off:Nat):∀ (us:List Value) (k:Nat) (cells:Array Value) (j:Nat),((us.zipIdx k).foldl (λcs (p:Value×Nat)=>cs.setIfInBounds (off+p.2) p.1) cells)[j]? =
 if off+k<=j/\j<off+k+us.length/\j<cells.size then us[j-off-k]? else cells[j]?
 | [],k,cells,j=>by simp; omega
 | u::us,k,cells,j=>by
  simp only [List.zipIdx_cons,List.foldl_cons];rw [yX off us (k+1)];simp only [Array.size_setIfInBounds,ck,Array.getElem?_setIfInBounds];by_cases hj:off+k=j
  . subst hj;by_cases hs:off+k<cells.size
    . rw [if_neg (by omega),if_pos rfl,if_pos hs,if_pos (by omega)];rw [show off+k-off-k=0 by omega]; rfl
    . rw [if_neg (by omega),if_pos rfl,if_neg hs,if_neg (by omega)];rw [Array.getElem?_eq_none (by omega)]
  . rw [if_neg hj];by_cases hc:off+k<=j/\j<off+k+(us.length+1)/\j<cells.size
    . rw [if_pos (by omega),if_pos hc];rw [show j-off-k=(j-off-(k+1))+1 by omega];simp
    . rw [if_neg (by omega),if_neg hc]
theorem fold_size (off:Nat):∀ (us:List Value) (k:Nat) (cells:Array Value),((us.zipIdx k).foldl (λcs (p:Value×Nat)=>cs.setIfInBounds (off+p.2) p.1) cells).size=cells.size
 | [],k,cells=>by simp
 | u::us,k,cells=>by simp only [List.zipIdx_cons,List.foldl_cons]; rw [fold_size off us (k+1)]; simp
theorem nC {e:Env}{a:Act}(hE:ER ρ w e a.tmps)(place:Nat->Option (Nat×Nat)) :
 ∀ (l:List (Nat×Operand)) (ps:List (Nat×Nat×X)) (cs cs':List V) (cells:Array Value),l.mapM (λp=>do let (o,n) ← place p.1; pure (o,n,← bv p.2))=some ps->fills e cs ps=some cs' →
  VRs ρ (St ρ w) w cs cells.toList->(∀ u∈cells.toList,u.oneCell'=true) →
  ∃ cells',Instr.fill place cells (l.map λp=>(p.1,a.eval p.2))=some cells'/\VRs ρ (St ρ w) w cs' cells'.toList/\∀ u∈cells'.toList,u.oneCell'=true
 | [],ps,cs,cs',cells,hm,hf,hv,h1=>by
  simp at hm; subst hm;simp [fills] at hf; subst hf;exact ⟨cells,rfl,hv,h1⟩
 | (i,x)::l,ps,cs,cs',cells,hm,hf,hv,h1=>by
  simp only [List.mapM_cons] at hm;cases hp:place i with
  | none=>simp [hp] at hm
  | some on =>
   obtain ⟨o,n⟩:=on;cases hx:bv x with
   | none=>simp [hp,hx] at hm
   | some X' =>
    cases hr:l.mapM (λp=>do let (o,n) ← place p.1; pure (o,n,← bv p.2)) with
    | none=>simp [hp,hx] at hm; simp at hr; simp [hr] at hm
    | some ps' =>
     have hps:ps=(o,n,X')::ps':=by
      simp [hp,hx] at hm;simp at hr;simp [hr] at hm;exact hm.symm
     subst hps;simp only [fills] at hf;cases hc:(X'.ev e).cells with
     | none=>simp [hc] at hf
     | some xs =>
      simp only [hc] at hf;split at hf
      . rename_i hn;cases hput:put cs o xs with
        | none=>simp [hput] at hf
        | some c1 =>
         simp only [hput] at hf;obtain ⟨hp1,rfl⟩:=pJ hput;obtain ⟨k1,k2⟩:=lN (aI hE hx) hc;have hlen:=k1.length;have hcl:=hv.length;simp only [Array.length_toList] at hlen hcl;have hstep:¬ ((a.eval x).cells.size≠n\/o+(a.eval x).cells.size>cells.size):=by omega
         let cells1:=((a.eval x).cells.toList.zipIdx 0).foldl (λcs (p:Value×Nat)=>cs.setIfInBounds (o+p.2) p.1) cells
         have hg:∀ j,cells1[j]?=if o+0<=j/\j<o+0+(a.eval x).cells.toList.length/\j<cells.size then (a.eval x).cells.toList[j-o-0]? else cells[j]?:=yX o _ 0 cells
         have hsz:cells1.size=cells.size:=fold_size o _ 0 cells;have key:∀ (j:Nat) (hj1:j<(cs.take o++xs++cs.drop (o+xs.length)).length) (hj2:j<cells1.toList.length),VR ρ (St ρ w) w (cs.take o++xs++cs.drop (o+xs.length))[j] cells1.toList[j]/\cells1.toList[j].oneCell'=true:=by
          intro j hj1 hj2;have hj3:j<cells.size:=by simp at hj2; omega
          have hj4:j<cs.length:=by omega
          have e2:=hg j;simp only [Array.length_toList,Nat.add_zero,Nat.sub_zero] at e2;have e3:cells1[j]?=some cells1.toList[j]:=by simp at hj2; simp [hj2]
          rw [e3] at e2;by_cases hj:o<=j/\j<o+xs.length
          . rw [if_pos (by omega)] at e2;have hb:j-o<(a.eval x).cells.toList.length:=by simp; omega
            rw [ab hb] at e2;have e2':=cv e2;have e1:(cs.take o++xs++cs.drop (o+xs.length))[j]=xs[j-o]'(by omega):=by
             rw [List.getElem_append_left (by simp; omega),List.getElem_append_right (by simp; omega)]
             congr 1
             simp; omega
            rw [e1,e2'];exact ⟨k1.get _ _ _,k2 _ (bj _)⟩
          . rw [if_neg (by omega)] at e2;rw [Array.getElem?_eq_getElem hj3] at e2;have e1:(cs.take o++xs++cs.drop (o+xs.length))[j]=cs[j]:=by
             obtain hlt | hge:=cr j o
             . rw [List.getElem_append_left (by simp; omega),List.getElem_append_left (by simp; omega)]; simp
             . rw [List.getElem_append_right (by simp; omega)];simp only [List.getElem_drop]
               congr 1
               simp; omega
            have e2':=cv e2;have e4:cells[j]=cells.toList[j]'(by simpa using hj3):=by simp
            rw [e1,e2',e4];exact ⟨hv.get j hj4 _,h1 _ (bj _)⟩
         have hnext:=nC hE place l ps' _ cs' cells1 hr hf (VRs.of_get (by simp [hsz]; omega) λj a b=>(key j a b).1) (λu hu=>by
          obtain ⟨j,hj,rfl⟩:=List.getElem_of_mem hu;exact (key j (by simp at hj; simp; omega) hj).2)
         obtain ⟨c',f1,f2,f3⟩:=hnext;refine ⟨c',?_,f2,f3⟩;simp only [ct,Instr.fill,hp];rw [if_neg (by simpa using hstep)];have:(a.eval x).cells.zipIdx.foldl (λcs (c,j)=>cs.setIfInBounds (o+j) c) cells=cells1:=by
          rw [← Array.foldl_toList,Array.toList_zipIdx]
         rw [this];exact f1
      . cases hf
end
end
section
open Go.RowKit
section
variable {P:Program}{B:Nat}{ρ:Rh}{h:Hp}{w:World}
theorem DRs.append {S:Nat->Prop}{b:Nat}:∀ {xs ys:List D} {o:Nat},DRs S w b o xs->DRs S w b (o+xs.length) ys->DRs S w b o (xs++ys)
 | [],ys,o,_,k=>by simpa using k
 | x::xs,ys,o,h,k=>by
  simp only [DRs,List.cons_append] at h ⊢;exact ⟨h.1,h.2.append (by simpa [Nat.add_assoc,Nat.add_comm 1] using k)⟩
theorem DRss.flat {S:Nat->Prop}{b z:Nat}:∀ {es:List (List D)} {o:Nat},DRss S w b o z es->DRs S w b o es.flatten/\es.flatten.length=es.length * z
 | [],o,_=>by simp [DRs]
 | e::es,o,h=>by
  simp only [DRss] at h;obtain ⟨h1,h2,h3⟩:=h;obtain ⟨k1,k2⟩:=h3.flat;refine ⟨?_,by simp [h1,k2,Nat.add_mul,Nat.add_comm]⟩;simp only [List.flatten_cons];exact h2.append (by rw [h1]; exact k1)
theorem AP {S:Nat->Prop}{b o:Nat}{ds:List D}(hd:DRs S w b o ds) :
 ∃ us:List Value,us.length=ds.length/\(∀ j u,us[j]?=some u->w.cell? ⟨b,o+j,none⟩=some u)/\(∀ (i:Nat) (h1:i<ds.length) (h2:i<us.length),DR S w ds[i] us[i]):=by
 have key:∀ i:Fin ds.length,∃ u,cellAt w b (o+i.1)=some u/\DR S w ds[i.1] u:=λi=>hd.get i.1 i.2;refine ⟨List.ofFn λi=>Classical.choose (key i),by simp,λj u hu=>?_,λi h1 h2=>?_⟩
 . obtain ⟨hj,rfl⟩:=bx.1 hu;simp only [List.getElem_ofFn];exact (Classical.choose_spec (key ⟨j,by simpa using hj⟩)).1
 . simp only [List.getElem_ofFn];exact (Classical.choose_spec (key ⟨i,h1⟩)).2
theorem add_plain' (b o j:Nat):(⟨b,o,none⟩:Addr).add j=⟨b,o+j,none⟩:=by unfold Addr.add; split<;>simp_all
theorem vQ {w0:World}(h0:w0.heap=w.heap)(a:Addr):w0.cell? a=w.cell? a:=by simp [World.cell?,h0]
theorem ib (hR:Rel B ρ h w){x:V}{v:Value}{m z:Nat}{cs:List V}(hv:VR ρ (St ρ w) w x v)(hc:aP h x z=some (m,cs)) :
 ∃ us:List Value,us.length=m * z/\(∀ w0,(Builtin.lenOf v).run P w0=.ok m w0)/\(∀ k w0,k<=m->w0.heap=w.heap->(Builtin.firstCells z k v).run P w0=.ok (us.take (k * z)).toArray w0) ∧
  VRs ρ (St ρ w) w cs us/\(∀ u∈us,u.oneCell'=true):=by
 cases x with
 | d y =>
  simp only [VR] at hv;cases y with
  | slice nl es =>
   simp only [aP] at hc;split at hc
   . rename_i hall;cases hc;simp only [DR] at hv;obtain ⟨a,c,rfl,h1,h2,h3,h4,h5⟩:=hv;by_cases hne:es=[]
     . subst hne;refine ⟨[],by simp,λw0=>rfl,λk w0 hk h0=>?_,by simp [VRs],by simp⟩;have:k=0:=by simpa using hk
       subst this;cases a with
       | none=>simp [Builtin.firstCells]
       | some a=>simp [Builtin.firstCells,loadCells,loadCellsFrom]
     . obtain ⟨b,o,z',rfl,hb,hd⟩:=h5 hne;have hz:z'=z:=by
        cases es with
        | nil=>exact absurd rfl hne
        | cons e es =>
         simp only [DRss] at hd;simp at hall;rw [← hd.1]; exact hall.1
       subst hz;obtain ⟨k1,k2⟩:=hd.flat;obtain ⟨us,l1,l2,l3⟩:=AP k1;refine ⟨us,by rw [l1,k2],λw0=>rfl,λk w0 hk h0=>?_,VRs.of_data l1 l3,λu hu=>?_⟩
       . refine run_firstCells_some (P:=P) w0 z' k _ _ _ _ ?_ λj u hu=>?_
         . rw [List.length_take,l1,k2]; exact Nat.min_eq_left (Nat.mul_le_mul_right _ hk)
         . rw [vQ h0,add_plain'];rw [List.getElem?_take] at hu;split at hu
           . exact l2 j u hu
           . cases hu
       . obtain ⟨i,hi,rfl⟩:=List.getElem_of_mem hu;exact (l3 i (by omega) hi).one
   . cases hc
  | str s =>
   simp only [aP] at hc;split at hc
   . rename_i hz;subst hz;cases hc;simp only [DR] at hv;subst hv;have hl:s.toList=s.data.toList:=ByteArray.toList_eq s;refine ⟨s.data.toList.map λb=>.int .u8 b.toNat,by simp,λw0=>rfl,λk w0 hk h0=>?_,?_,?_⟩
     . simp only [Builtin.firstCells,Sem.run_pure,Nat.mul_one]
       congr 1
       apply Array.ext';have:(s.extract 0 k).data.toList=s.data.toList.take k:=by
        simp [ByteArray.data_extract]
       simp [this,List.map_take]
     . rw [hl];have:(s.data.toList.map λb=>V.d (D.int .u8 b.toNat))=(s.data.toList.map λb=>D.int .u8 b.toNat).map .d:=by simp
       rw [this];exact VRs.of_data (by simp) λi h1 h2=>by simp [DR]
     . intro u hu;obtain ⟨b,_,rfl⟩:=ce.1 hu;rfl
   . cases hc
  | _=>simp [aP] at hc
 | row b o len cap z' =>
  simp only [VR] at hv;obtain ⟨hb,c,rfl,h1,h2,h3,h4⟩:=hv;simp only [aP] at hc;split at hc
  . rename_i hz;subst hz;cases hg:h.get b with
    | none=>simp [hg] at hc
    | some cs0 =>
     simp only [hg,bk] at hc;obtain ⟨l,hs,e⟩:=hc;cases e;obtain ⟨s1,rfl⟩:=jP hs;by_cases h0:m * z'=0
     . refine ⟨[],by simp [h0],λw0=>rfl,λk w0 hk hh=>?_,by simp [h0,VRs],by simp⟩;have hk0:k * z'=0:=by
        obtain e | e:=Nat.eq_zero_or_pos z'
        . simp [e]
        . have:m=0:=by obtain e1 | e1:=Nat.mul_eq_zero.1 h0<;>omega
          have:k=0:=by omega
          simp [this]
       simp [Builtin.firstCells,loadCells,hk0,loadCellsFrom]
     . have hne:cs0≠[]:=by rintro rfl; simp only [cm] at s1; omega
       obtain ⟨arr,el,fz,g1,g2,g3,g4⟩:=fK hR hg hne;refine ⟨(arr.toList.drop o).take (m * z'),by simp; omega,λw0=>rfl,λk w0 hk hh=>?_,?_,?_⟩
       . refine run_firstCells_some (P:=P) w0 z' k _ _ _ _ ?_ λj u hu=>?_
         . have:=Nat.mul_le_mul_right z' hk;simp; omega
         . rw [vQ hh,add_plain'];rw [List.getElem?_take] at hu;split at hu
           . rw [List.getElem?_take] at hu;split at hu
             . simp only [List.getElem?_drop,Array.getElem?_toList] at hu;simp [World.cell?,g1,hu]
             . cases hu
           . cases hu
       . refine VRs.of_get (by simp; omega) λi a b=>?_;simp only [List.getElem_take,List.getElem_drop,Array.getElem_toList];exact (g4 (o+i) (by simp at a; omega) _).1
       . intro u hu;obtain ⟨i,hi,rfl⟩:=List.getElem_of_mem hu;simp only [List.getElem_take,List.getElem_drop,Array.getElem_toList];exact (g4 (o+i) (by simp at hi; omega) _).2
  . cases hc
 | _=>simp [aP] at hc
theorem za (hR:Rel B ρ h w)(b lw:Nat):Rel B ρ ⟨h.bs.set b (.cells []),lw⟩ w:=by
 have key:∀ k (hk:k<(h.bs.set b (.cells [])).length) (hk':k<h.bs.length),(h.bs.set b (.cells []))[k].live=true->h.bs[k].live=true:=by
  intro k hk hk' l;by_cases e:b=k
  . subst e; simp [Blk.live] at l
  . simpa [List.getElem_set,e] using l
 refine ⟨λi hi=>by simpa using hR.dom i hi,hR.ln,λi hi hl=>hR.live i (by simpa using hi) (key i hi (by simpa using hi) hl),hR.lo,hR.base,hR.inj,λi hi=>?_,hR.xB,λc hc=>by simpa using hR.gB c hc⟩;simp only [List.length_set] at hi;by_cases e:b=i
 . subst e; simp only [List.getElem_set_self,BR]
 . simp only [List.getElem_set,e,if_false]; exact hR.mem i hi
def renρ (ρ:Rh)(n b:Nat):Rh:=⟨λi=>if i=n then ρ b else ρ i,ρ.X,λi=>ρ.N i\/i=n,λi=>(ρ.L i/\i≠b)\/i=n,ρ.G⟩
theorem ll {ρ:Rh}{n b i:Nat}(h:i≠n):renρ ρ n b i=ρ i:=by simp [renρ,h]
theorem mg {ρ:Rh}{n b:Nat}:renρ ρ n b n=ρ b:=by simp [renρ]
theorem Ep (hR:Rel B ρ h w){b:Nat}(hb:b<h.bs.length)(hlive:h.bs[b].live=true){w':World}(hsz:w'.heap.size=w.heap.size)
 (hoth:∀ k,k≠ρ b->w'.heap[k]?=w.heap[k]?) (hown:∀ arr e fz,w.heap[ρ b]?=some (.cells arr e fz)->∃ arr' fz',w'.heap[ρ b]?=some (.cells arr' e fz')/\arr'.size=arr.size)
 (h1:w'.os=w.os) (h2:w'.tape=w.tape) (h3:w'.output=w.output) (bl:Blk) (hbl:BR ρ w' (ρ b) bl) (lw:Nat) :
 Rel B (renρ ρ h.size b) ⟨h.bs.set b (.cells [])++[bl],lw⟩ w'/\Goes B ρ w (renρ ρ h.size b) w':=by
 have hL:=hR.live b hb hlive;have hN:=hR.ln b hL;have hg:=jO hR hL hsz hoth hown h1 h2 h3;have hr:=za (p9 hR hb hlive hsz hoth hown h1 h2 h3 bl hbl lw) b lw;have hnot:¬ ρ.N h.size:=kI hR;have hne:∀ i,ρ.N i->i≠h.size:=λi hi e=>hnot (e ▸ hi);have hneL:∀ i,ρ.L i->i≠h.size:=λi hi=>hne i (hR.ln i hi);have hltn:∀ i,i<h.bs.length->i≠h.size:=λi hi e=>by rw [e] at hi; exact Nat.lt_irrefl _ hi
 have hx:Ext ρ (St ρ w') w' (renρ ρ h.size b) (St (renρ ρ h.size b) w') w':=by
  refine ⟨λi hi=>.inl hi,λi hi=>ll (hne i hi),λc hc=>⟨hc.1,λi=>⟨λhi=>?_,(hc.2 0).2⟩⟩,λ_ _=>rfl,λi hi arr e fz k=>⟨arr,fz,k,rfl⟩,rfl,λ_ _=>rfl,rfl⟩;by_cases e:i=h.size
  . subst e; rw [mg]; exact (hc.2 b).1 hL
  . rw [ll e]; exact (hc.2 i).1 (hi.resolve_right e).1
 have key:∀ k (hk:k<h.bs.length) (hk':k<(h.bs.set b (.cells [])++[bl]).length),(h.bs.set b (.cells [])++[bl])[k].live=true->h.bs[k].live=true/\k≠b:=by
  intro k hk hk' l;rw [List.getElem_append_left (by simpa using hk)] at l;by_cases e:b=k
  . subst e; simp [Blk.live] at l
  . exact ⟨by simpa [List.getElem_set,e] using l,λe'=>e e'.symm⟩
 refine ⟨⟨λi hi=>?_,λi hi=>hi.imp (λk=>hR.ln i k.1) id,λi hi hl=>?_,λi hi=>?_,by rw [hsz]; exact hR.base,λi j hij li lj=>?_,λi hi=>?_,λc hc=>⟨by rw [hsz]; exact (hR.xB c hc).1,λi hi=>?_⟩,λc hc=>⟨λhN=>hN.elim (hR.gB c hc).1 λe=>Nat.lt_irrefl _ (show h.bs.length<h.bs.length from by have:=(hR.gB c hc).2; rw [e] at this; exact this),by have:=(hR.gB c hc).2; simp; omega⟩⟩,hg.trans ⟨hx,Below.refl _ _⟩⟩
 . obtain hi | rfl:=hi
   . have:=hR.dom i hi; simp; omega
   . simp [Hp.size]
 . simp only [ao,List.length_set,ck,cm] at hi;obtain a1 | a1:=Nat.lt_succ_iff_lt_or_eq.1 hi
   . have:=key i a1 (by simpa using hi) hl;exact .inl ⟨hR.live i a1 this.1,this.2⟩
   . exact .inr a1
 . rw [hsz];by_cases e:i=h.size
   . subst e; rw [mg]; exact hR.lo b hN
   . rw [ll e]; exact hR.lo i (hi.resolve_right e)
 . by_cases e1:i=h.size<;>by_cases e2:j=h.size
   . omega
   . subst e1;rw [mg,ll e2];have:=lj.resolve_right e2;exact hR.inj b j (λe=>this.2 e.symm) hL this.1
   . subst e2;rw [mg,ll e1];have:=li.resolve_right e1;exact hR.inj i b this.2 this.1 hL
   . rw [ll e1,ll e2];exact hR.inj i j hij (li.resolve_right e1).1 (lj.resolve_right e2).1
 . simp only [ao,List.length_set,ck,cm] at hi;obtain a1 | a1:=Nat.lt_succ_iff_lt_or_eq.1 hi
   . rw [List.getElem_append_left (by simpa using a1),ll (hltn i a1)];have:=hr.mem i (by simpa using a1);simp only [List.set_set] at this;exact this.ext hx rfl
   . subst a1;rw [List.getElem_append_right (by simp)];simp only [List.length_set,Nat.sub_self,List.getElem_cons_zero];have:renρ ρ h.size b h.bs.length=ρ b:=mg;rw [this];exact hbl.ext hx rfl
 . by_cases e:i=h.size
   . subst e; rw [mg]; exact (hR.xB c hc).2 b hL
   . rw [ll e]; exact (hR.xB c hc).2 i (hi.resolve_right e).1
end
end
section
open Go.RowKit
section
variable {P:Program}{B:Nat}{ρ:Rh}{h:Hp}{w:World}
theorem jq {t tx ty e:TypeId}{z m sLen sCap:Nat}{x:Value}{base:Option Addr}{new:Array Value}{w':World}(ht:P.underlying t=some (.slice e))(htx:P.underlying tx=some .string\/∃ k,P.underlying tx=some (.slice k))(hz:iL P e=some z)
 (hl:∀ w0,(Builtin.lenOf x).run P w0=.ok m w0) (hf:(Builtin.firstCells z m x).run P w=.ok new w) (hroom:sLen+m<=sCap)
 (hst:∀ a,base=some a->(storeCells (a.add (sLen * z)) new.toList).run P w=.ok () w') (hn:base=none->w'=w) :
 (Builtin.append_ #[t,tx] ty #[.slice base sLen sCap,x]).run P w=.ok (.slice base (sLen+m) sCap) w':=by
 cases base with
 | none =>
  have:=hn rfl;subst this;obtain hk | ⟨k,hk⟩:=htx<;>simp [Builtin.append_,run_underlying ht,run_underlying hk,run_sizeOf hz,hl,hroom,hf]
 | some a =>
  have:=hst a rfl;obtain hk | ⟨k,hk⟩:=htx<;>simp [Builtin.append_,run_underlying ht,run_underlying hk,run_sizeOf hz,hl,hroom,hf,this]
theorem xP {t tx ty e:TypeId}{i:TypeInfo}{zv:Value}{m sLen sCap:Nat}{x s:Value}{base:Option Addr}{new old:Array Value}(hs:s=.slice base sLen sCap)(ht:P.underlying t=some (.slice e))(htx:P.underlying tx=some .string\/∃ k,P.underlying tx=some (.slice k))(hi:P.info? e=some i)(hz:i.zero=some zv)
 (hl:∀ w0,(Builtin.lenOf x).run P w0=.ok m w0) (hf:(Builtin.firstCells i.size m x).run P w.drew=.ok new w.drew) (hfo:(Builtin.firstCells i.size sLen s).run P w.drew=.ok old w.drew) (hg:sCap<sLen+m)
 (hr:roomy (sLen+m) i.bytes=true) :
 (Builtin.append_ #[t,tx] ty #[s,x]).run P w=.ok (.slice (some ⟨w.heap.size,0,none⟩) (sLen+m) (grownCap w (sLen+m) sCap e))
  (w.drew.alloc (.cells (old++new++Builtin.zeroCells zv.cells (grownCap w (sLen+m) sCap e-(sLen+m))) e)):=by
 subst hs;simp only [roomy,aq,bw] at hr;have hn:¬ (sLen+m<=sCap):=by omega
 have h63':¬ (9223372036854775807<((sLen:Int)+(m:Int))):=by omega
 have hmul:(sLen+m) * i.bytes<=2 ^ 30 * 2 ^ 12:=Nat.mul_le_mul hr.1 hr.2;have hfit:=growslice_fits (bytes:=i.bytes) hg (by omega);have h48':¬ (281474976710656<Builtin.nextslicecap (sLen+m) sCap * i.bytes):=by omega
 obtain hk | ⟨k,hk⟩:=htx<;>simp [Builtin.append_,run_underlying ht,run_underlying hk,sizeOf,typeInfo,zeroValue,hi,hz,hl,hn,h63',h48',Question.forced,hf,hfo,newRow,grownCap]
theorem jN {s:Sem Value}{v:Value}{w w':World}(hs:s.run P w=.ok v w'):(do let v ← s; pure (Next.value v):Sem Next).run P w=.ok (.value v) w':=by
 rw [Sem.run_bind,hs]; rfl
theorem wQ (hR:Rel B ρ h w){s x:Value}{sv xv r:V}{t tx ty e:TypeId}{z bytes m:Nat}{xs:List V}{h':Hp}(ht:P.underlying t=some (.slice e))(htx:P.underlying tx=some .string\/∃ k,P.underlying tx=some (.slice k))
 (hz:iL P e=some z) (hby:Fz P e=some bytes) (hzero:(iq P e).isSome=true) (hs:VR ρ (St ρ w) w sv s) (hx:VR ρ (St ρ w) w xv x) (hxs:aP h xv z=some (m,xs)) (ha:aK h z bytes sv m xs=some (r,h')) :
 Does P B ρ h w (do let v ← Builtin.append_ #[t,tx] ty #[s,x]; pure (.value v)) r h':=by
 obtain ⟨us,l1,l2,l3,l4,l5⟩:=ib (P:=P) hR hx hxs;obtain ⟨i,hi,hiz⟩:=jv hz;obtain ⟨lz,hlz⟩:=Option.isSome_iff_exists.1 hzero;obtain ⟨i',zv,hi',hzv,hzl,hzr,hz1⟩:=eT (ρ:=ρ) (S:=St ρ w) (w:=w) hlz;obtain rfl:i'=i:=cv (hi'.symm.trans hi);have hbi:i'.bytes=bytes:=by simpa [Fz,hi] using hby
 have hzs:zv.cells.size=z:=by have:=hzr.length; simp at this; omega
 have hfull:us.take (m * z)=us:=List.take_of_length_le (by omega);have hf0:∀ w0,w0.heap=w.heap->(Builtin.firstCells z m x).run P w0=.ok us.toArray w0:=λw0 h0=>by have:=l3 m w0 (br _) h0; rwa [hfull] at this
 have nothing:m=0->∀ base sLen sCap,s=.slice base sLen sCap->sLen<=sCap->(∀ a,base=some a->True)->(Builtin.append_ #[t,tx] ty #[s,x]).run P w=.ok s w:=by
  intro hm base sLen sCap e1 hle _;subst hm;have hus:us=[]:=List.eq_nil_of_length_eq_zero (by simpa using l1);subst hus;rw [e1];exact jq ht htx hz l2 (hf0 w rfl) (by simpa using hle) (λa _=>by simp [storeCells]) (λ_=>rfl)
 have grows:∀ (base:Option Addr) (sLen sCap:Nat) (olds:List Value) (oc:List V) (hA:Hp),s=.slice base sLen sCap->sCap<sLen+m->(∀ w0,w0.heap=w.heap->(Builtin.firstCells z sLen s).run P w0=.ok olds.toArray w0)->olds.length=sLen * z →
  VRs ρ (St ρ w) w oc olds->(∀ u∈olds,u.oneCell'=true)->roomy (sLen+m) bytes=true->Rel B ρ hA w->hA.size=h.size →
  Does P B ρ hA w (do let v ← Builtin.append_ #[t,tx] ty #[s,x]; pure (.value v)) (.row hA.size 0 (sLen+m) none z) (hA.alloc (oc++xs)):=by
  intro base sLen sCap olds oc hA e1 hg ho hol hoc ho1 hro hRA hsA;have hle:sLen+m<=maxLen:=by
   simp only [roomy,aq,bw] at hro;unfold maxLen; omega
  have hge:=grownCap_ge w (sLen+m) sCap e;have hcl:=hoc.length;have hxl:=l4.length;have hrun:=xP (P:=P) (w:=w) (ty:=ty) e1 ht htx hi hzv l2 (by rw [hiz]; exact hf0 w.drew rfl) (by rw [hiz]; exact ho w.drew rfl) hg (by rw [hbi]; exact hro);have hsplit:(olds.toArray++us.toArray++Builtin.zeroCells zv.cells (grownCap w (sLen+m) sCap e-(sLen+m))).toList.take (oc++xs).length=olds++us:=by
   simp only [Array.toList_append,ao,List.append_assoc];rw [← List.append_assoc,List.take_append_of_le_length (by simp; omega)];rw [List.take_of_length_le (by simp; omega)]
  refine Does.freshRow hRA (w0:=w.drew) (t:=e) (fz:=(0,0)) (c:=grownCap w (sLen+m) sCap e) rfl (Below.drew (Below.refl _ _)) (jN hrun) (λj _=>by simp) ?_ ?_ ?_ hge (grownCap_le_maxLen _ _ _ _ hle) (λk hk=>by cases hk) (Nat.le_of_eq ?_) (λ_=>?_)
  . simp only [Array.size_append,List.size_toArray,ao]; omega
  . rw [hsplit]; exact hoc.append l4
  . rw [hsplit]; intro u hu; obtain h1 | h1:=List.mem_append.1 hu
    . exact ho1 u h1
    . exact l5 u h1
  . simp only [Array.size_append,List.size_toArray,size_zeroCells,hzs,hol,l1,← Nat.add_mul]
    congr 1; omega
  . simp only [Array.size_append,List.size_toArray,size_zeroCells,hzs,hol,l1,← Nat.add_mul]
    congr 1; omega
 cases sv with
 | d y =>
  simp only [VR] at hs;cases y with
  | slice nl es =>
   simp only [DR] at hs;obtain ⟨a,c,rfl,h1,h2,h3,h4,h5⟩:=hs;have hs':VR ρ (St ρ w) w (.d (.slice nl es)) (.slice a es.length c):=by simp only [VR,DR]; exact ⟨a,c,rfl,h1,h2,h3,h4,h5⟩
   cases nl with
   | true =>
    have ha0:a=none:=h3.2 rfl;subst ha0;have hc0:c=0:=h4 rfl;subst hc0;have he0:es=[]:=List.eq_nil_of_length_eq_zero (by omega);subst he0;simp only [aK] at ha;split at ha
    . rename_i hm;cases ha;exact Does.pure hR (jN (nothing hm none 0 0 rfl (br _) (λ_ _=>trivial))) hs'
    . rename_i hm;split at ha
      . cases ha
      . split at ha
        . rename_i hro;cases ha;have:=grows none 0 0 [] [] h rfl (by omega) (λw0 _=>by simp [Builtin.firstCells]) (by simp) (by simp [VRs]) (by simp) (by simpa using hro) hR rfl;simpa using this
        . cases ha
   | false =>
    cases es with
    | nil =>
     simp only [aK] at ha;split at ha
     . rename_i hm;cases ha;exact Does.pure hR (jN (nothing hm a 0 c rfl (Nat.zero_le _) (λ_ _=>trivial))) hs'
     . cases ha
    | cons e1 es=>simp [aK] at ha
  | _=>simp [aK] at ha
 | row b o len cap z' =>
  have hs0:=hs;simp only [VR] at hs;obtain ⟨hb,c,rfl,h1,h2,h3,arr0,el0,fz0,h4,h4'⟩:=hs;have h4a:=h4'.1;simp only [aK] at ha;split at ha
  . cases ha
  . rename_i hzz;have hzz1:z'=z:=by
     obtain e | e:=Nat.decEq z' z
     . exact absurd (Or.inl e) hzz
     . exact e
    have hzpos:0<z:=by
     obtain e | e:=Nat.eq_zero_or_pos z
     . exact absurd (Or.inr e) hzz
     . exact e
    subst hzz1;split at ha
    . rename_i hm;cases ha;exact Does.pure hR (jN (nothing hm _ len c rfl h1 (λ_ _=>trivial))) hs0
    . rename_i hm;cases hg:h.get b with
      | none=>simp [hg] at ha
      | some cs =>
       simp only [hg] at ha;cases hsub:sub cs o (len * z') with
       | none=>simp [hsub] at ha
       | some old =>
        simp only [hsub] at ha;split at ha
        . cases ha
        . rename_i hro;have hro':roomy (len+m) bytes=true:=by simpa using hro
          have hrow:aP h (.row b o len cap z') z'=some (len,old):=by simp [aP,hg,hsub]
          obtain ⟨os,m1,m2,m3,m4,m5⟩:=ib (P:=P) hR hs0 hrow;have hofull:os.take (len * z')=os:=List.take_of_length_le (by omega);have hfo:∀ w0,w0.heap=w.heap->(Builtin.firstCells z' len (.slice (some ⟨ρ b,o,none⟩) len c)).run P w0=.ok os.toArray w0:=λw0 h0=>by have:=m3 len w0 (br _) h0; rwa [hofull] at this
          have hxl:=l4.length;have hxpos:0<xs.length:=by rw [← hxl,l1]; exact Nat.mul_pos (by omega) hzpos
          have hxne:xs≠[]:=List.length_pos_iff.1 hxpos;cases cap with
          | some k =>
           have hck:=h3 k rfl;subst hck;simp only at ha;split at ha
           . rename_i hroom;cases hput:put cs (o+len * z') xs with
             | none=>simp [hput] at ha
             | some cs' =>
              simp only [hput,bd,cy] at ha;obtain ⟨rfl,rfl⟩:=ha;obtain ⟨q1,q2,q3⟩:=fC (P:=P) hR hg hput hxne l4 l5;have hs1:(h.set b cs').size=h.size:=by simp [Hp.set,Hp.size]
              have hrun:=jq (P:=P) (ty:=ty) ht htx hz l2 (hf0 w rfl) hroom (base:=some ⟨ρ b,o,none⟩) (λa ea=>by cases ea; rw [add_plain']; exact q1) (λe=>by cases e);refine ⟨_,ρ,_,.inl (jN hrun),q2,q3,?_⟩;have:=hs0.ext q3.ext;simp only [VR] at this ⊢;obtain ⟨g1,c',e,g2,g3,g4,g5⟩:=this;cases e;exact ⟨g1,c,rfl,hroom,g3,g4,g5⟩
           . rename_i hroom;cases ha;exact grows _ len c os old h rfl (by omega) hfo m1 m4 m5 hro' hR rfl
          | none =>
           simp only at ha;have ha2:(o=0/\0<cs.length/\some (V.row h.size 0 (len+m) none z',(h.set b []).alloc (old++xs))=some (r,h')) ∨
            (o+(len+m) * z'<=cs.length/\(match put cs (o+len * z') xs with | some cs'=>some (V.row b o (len+m) none z',h.set b cs') | none=>none)=some (r,h')):=by
            split at ha
            . rename_i hcond;exact .inl ⟨hcond.1,hcond.2.2,ha⟩
            . split at ha
              . rename_i hin;exact .inr ⟨hin,ha⟩
              . split at ha
                . rename_i hcond;exact .inl ⟨hcond.1,hcond.2,ha⟩
                . cases ha
           clear ha;obtain ⟨ho0,hcpos,ha⟩ | ⟨hin,ha⟩:=ha2
           . subst ho0;cases ha;obtain ⟨s1,hold⟩:=jP hsub;have hol:old.length=len * z':=by rw [← m4.length,m1]
             have hle0:len * z'<=cs.length:=by omega
             have hgo0:∀ j (hj:j<old.length) (hj2:j<cs.length),old[j]=cs[j]:=λj hj hj2=>by simp only [hold,List.drop_zero,List.getElem_take]
             have hkill:Rel B ρ (h.set b []) w:=za hR b _;have hks:(h.set b []).size=h.size:=by simp [Hp.set,Hp.size]
             by_cases hroom:len+m<=c
             . obtain ⟨hb',eb⟩:=lY hg;have hne:cs≠[]:=List.length_pos_iff.1 hcpos;have hlive:h.bs[b].live=true:=by rw [eb]; cases cs with | nil=>exact absurd rfl hne | cons c cs=>rfl
               obtain ⟨arr,el,fz,g2,g3,g4,g5⟩:=fK hR hg hne;have harr:arr0=arr:=by rw [h4] at g2; cases g2; rfl
               subst harr;have hcap:(len+m) * z'<=c * z':=Nat.mul_le_mul_right _ hroom;rw [Nat.add_mul] at hcap;obtain ⟨i1,i2,i3,i4,i5,i6⟩:=kg (ρ b) us (len * z') w;obtain ⟨arr',h6,h7⟩:=i6 arr0 el fz g2;have hcell:∀ j,j<us.length->(w.cell? ⟨ρ b,len * z'+j,none⟩).isSome=true:=λj hj=>by
                have:len * z'+j<arr0.size:=by omega
                simp [World.cell?,g2,this]
               have hst:(storeCells ⟨ρ b,len * z',none⟩ us).run P w=.ok () (w.setCells (ρ b) (len * z') us):=by
                have:=run_storeCells_cells (P:=P) (ρ b) (len * z') us 0 w (by simpa using hcell) (by intro j hj; simp only [Nat.add_zero]; exact g4 _ (by omega)) l5;simpa using this
               have hown:∀ a e f,w.heap[ρ b]?=some (.cells a e f)->∃ a' f',(w.setCells (ρ b) (len * z') us).heap[ρ b]?=some (.cells a' e f')/\a'.size=a.size:=λa e' f k=>by
                obtain ⟨a',k1,k2⟩:=i6 a e' f k;exact ⟨a',f,k1,by omega⟩
               have hgo:=jO hR (hR.live b hb' hlive) i2 i1 hown i3 i4 i5;have hrun:=jq (P:=P) (ty:=ty) ht htx hz l2 (hf0 w rfl) hroom (base:=some ⟨ρ b,0,none⟩) (λa ea=>by cases ea; rw [add_plain',Nat.zero_add]; exact hst) (λe=>by cases e);have hbr:BR ρ (w.setCells (ρ b) (len * z') us) (ρ b) (.cells (old++xs)):=by
                have hlen':(old++xs).length=len * z'+us.length:=by rw [ao,hol,hxl]
                have htot:len * z'+us.length<=arr'.size:=by omega
                generalize hoe:old++xs=ox at hlen';cases ox with
                | nil=>simp only [BR]
                | cons c' r' =>
                 simp only [BR];refine ⟨arr',el,fz,h6,by omega,λj hj=>?_,λj a b'=>?_⟩
                 . rw [World.frozen?_setCells]; exact g4 j (by omega)
                 . have hcl:(w.setCells (ρ b) (len * z') us).cell? ⟨ρ b,j,none⟩=some arr'[j]:=by simp [World.cell?,h6]
                   simp only [← hoe] at a ⊢;by_cases hj:j<len * z'
                   . rw [World.cell?_setCells_out (ρ b) us (len * z') w ⟨ρ b,j,none⟩ (λ_ _=>Or.inl hj)] at hcl;have hja:j<arr0.size:=by omega
                     simp [World.cell?,g2,hja] at hcl;have k:=g5 j (by omega) hja;rw [← hcl,List.getElem_append_left (by omega),hgo0 j (by omega) (by omega)];exact ⟨k.1.ext hgo.ext,k.2⟩
                   . have hj2:j-len * z'<us.length:=by omega
                     have:=World.cell?_setCells_in (ρ b) us (len * z') w hcell (j-len * z') hj2;rw [show len * z'+(j-len * z')=j by omega,hcl] at this;simp only [bd] at this;rw [this,List.getElem_append_right (by omega)];have e1:j-old.length=j-len * z':=by rw [hol]
                     simp only [e1];exact ⟨(l4.get (j-len * z') (by omega) hj2).ext hgo.ext,l5 _ (bj hj2)⟩
               obtain ⟨r1,r2⟩:=Ep hR hb' hlive i2 i1 hown i3 i4 i5 _ hbr (min h.low b);refine ⟨_,_,_,.inl (jN hrun),r1,r2,?_⟩;simp only [VR];exact ⟨.inr rfl,c,by rw [mg],hroom,h2,(λk hk=>by cases hk),arr',el,fz,by rw [mg]; exact h6,by omega,λ_=>by have:=h4'.2 rfl; omega⟩
             . have:=grows _ len c os old (h.set b []) rfl (by omega) hfo m1 m4 m5 hro' hkill hks;rw [hks] at this;exact this
           . cases hput:put cs (o+len * z') xs with
             | none=>simp [hput] at ha
             | some cs' =>
              simp only [hput,bd,cy] at ha;obtain ⟨rfl,rfl⟩:=ha;have hne:cs≠[]:=by
               rintro rfl;have:=(pJ hput).1;simp only [cm] at this;omega
              obtain ⟨arr,el,fz,g2,g3,_,_⟩:=fK hR hg hne;have harr:arr0=arr:=by rw [h4] at g2; cases g2; rfl
              subst harr;have hsz0:=h4'.2 rfl;have hroom:len+m<=c:=by
               have hle:(len+m) * z'<=c * z':=by omega
               exact Nat.le_of_mul_le_mul_right hle hzpos
              obtain ⟨q1,q2,q3⟩:=fC (P:=P) hR hg hput hxne l4 l5;have hrun:=jq (P:=P) (ty:=ty) ht htx hz l2 (hf0 w rfl) hroom (base:=some ⟨ρ b,o,none⟩) (λa ea=>by cases ea; rw [add_plain']; exact q1) (λe=>by cases e);refine ⟨_,ρ,_,.inl (jN hrun),q2,q3,?_⟩;have:=hs0.ext q3.ext;simp only [VR] at this ⊢;obtain ⟨g1,c',e,g2,g3,g4,g5⟩:=this;cases e;exact ⟨g1,c,rfl,hroom,g3,g4,g5⟩
 | _=>simp [aK] at ha
end
end
section
open Go.RowKit
section
variable {P:Program}{B:Nat}{ρ:Rh}{h:Hp}{w:World}{e:Env}{a:Act}
abbrev VRx (h:Hp) (ρ:Rh) (w:World):=VR ρ (St ρ w) w
abbrev VRy (ρ:Rh) (w:World):=VR ρ (St ρ w) w
theorem qg {v:Value}{t:Bool}(k:VRy ρ w (.d (.bool t)) v):v=.bool t:=by simpa only [VR,DR] using k
theorem dB {v:Value}{q:IntKind}{n:Int}(k:VRy ρ w (.d (.int q n)) v):v=.int q n:=by simpa only [VR,DR] using k
theorem kr {v:Value}{s:ByteArray}(k:VRy ρ w (.d (.str s)) v):v=.string s:=by simpa only [VR,DR] using k
theorem IB {op:BinOp}(h1:op≠.eql)(h2:op≠.neq){t:TypeId}{x y:Operand}{u v:Value}{xv yv:V}{d:D}(hx:VRy ρ w xv u)(hy:VRy ρ w yv v)(hb:dP op xv yv=some d) :
 ∃ r,(do eqGuard op t x y u v; binOp op t u v).run P w=.ok r w/\DR (St ρ w) w d r:=by
 have hg:(eqGuard op t x y u v).run P w=.ok () w:=by
  cases op<;>first | exact absurd rfl h1 | exact absurd rfl h2 | rfl
 simp only [Sem.run_bind,hg,Result.andThen_ok];unfold dP at hb;split at hb
 . rw [dB hx,dB hy];split at hb
   . cases hb
   . rename_i hn;cases hb;exact ⟨_,by simp only [binOp,Op.shift,if_neg hn]; rfl,by simp only [DR]⟩
 . rw [dB hx,dB hy];split at hb
   . cases hb
   . rename_i hn;cases hb;exact ⟨_,by simp only [binOp,Op.shift,if_neg hn]; rfl,by simp only [DR]⟩
 . rw [dB hx,dB hy];split at hb
   . rename_i hk;subst hk;cases op<;>simp only [fI] at hb<;>first
      | exact absurd rfl h1
      | exact absurd rfl h2
      | (cases hb; done)
      | (cases hb; simp only [DR]; refine ⟨_,?_,rfl⟩; simp only [binOp,ne_eq,not_true_eq_false,if_false,Op.intArith,Op.intBits,Op.intCmp]; rfl)
      | (split at hb
         . cases hb
         . rename_i hn;cases hb;simp only [DR]; refine ⟨_,?_,rfl⟩; simp only [binOp,ne_eq,not_true_eq_false,if_false,Op.intDiv,if_neg hn]; rfl)
   . cases hb
 . rw [kr hx,kr hy];cases op<;>simp only [wR] at hb<;>first
    | exact absurd rfl h1
    | exact absurd rfl h2
    | (cases hb; done)
    | (cases hb; simp only [DR]; refine ⟨_,?_,rfl⟩; simp only [binOp,Op.stringOp]; rfl)
    | (split at hb
       . rename_i s1 s2 hn;cases hb;simp only [DR];refine ⟨_,?_,rfl⟩;have hn':¬ (9223372036854775807<(s1.size:Int)+(s2.size:Int)):=by omega
         simp [binOp,Op.stringOp,hn']
       . cases hb)
 . cases hb
theorem Ps {op:UnOp}{u:Value}{xv:V}{d:D}(hx:VRy ρ w xv u)(hb:unD op xv=some d):∃ r,(Op.unary op u).run P w=.ok r w/\DR (St ρ w) w d r:=by
 unfold unD at hb;split at hb
 . rw [qg hx]; cases hb; exact ⟨_,rfl,by simp only [DR]⟩
 . rw [dB hx]; cases hb; exact ⟨_,rfl,by simp only [DR]⟩
 . rw [dB hx]; cases hb; exact ⟨_,rfl,by simp only [DR]⟩
 . cases hb
theorem wX {t q:TypeId}(d:Nat)(hu:P.underlying t=some (.pointer q))(p:Option Addr):(Op.equalIn (d+1) t (.pointer p) (.pointer none)).run P w=.ok p.isNone w:=by
 cases p<;>simp [Op.equalIn,run_underlying hu]
theorem FU {t q:TypeId}(d:Nat)(hu:P.underlying t=some (.pointer q))(p:Option Addr):(Op.equalIn (d+1) t (.pointer none) (.pointer p)).run P w=.ok p.isNone w:=by
 cases p<;>simp [Op.equalIn,run_underlying hu]
theorem FV {t q:TypeId}(d:Nat)(hu:P.underlying t=some (.slice q))(p:Option Addr)(a b a' b':Nat):(Op.equalIn (d+1) t (.slice p a b) (.slice none a' b')).run P w=.ok p.isNone w:=by
 cases p<;>simp [Op.equalIn,run_underlying hu]
theorem Na {t:TypeId}{a b c}(d:Nat)(hu:P.underlying t=some (.func a b c))(f:Fn)(x y:Array Value):(Op.equalIn (d+1) t (.func f x y) .nilFunc).run P w=.ok false w:=by
 simp [Op.equalIn,run_underlying hu]
theorem IV {t:TypeId}{a b c}(d:Nat)(hu:P.underlying t=some (.func a b c)):(Op.equalIn (d+1) t .nilFunc .nilFunc).run P w=.ok true w:=by
 simp [Op.equalIn,run_underlying hu]
theorem iX {t:TypeId}{u v:Value}{b:Bool}(x y:Operand)(neg:Bool)(he:(Op.equalIn (9999+1) t u v).run P w=.ok b w)(h1:binOp .eql t u v=(do pure (.bool (← Op.equal t u v))))(h2:binOp .neq t u v=(do pure (.bool (!(← Op.equal t u v)))))
 (hg:∀ op,(eqGuard op t x y u v).run P w=.ok () w):(do eqGuard (if neg then .neq else .eql) t x y u v; binOp (if neg then .neq else .eql) t u v).run P w=.ok (.bool (b != neg)) w:=by
 have he':(Op.equal t u v).run P w=.ok b w:=he;cases neg
 . simp [hg,h1,he']
 . simp [hg,h2,he']
theorem oG {t:TypeId}(hk:tV P t=some .ptr):∃ q,P.underlying t=some (.pointer q):=by
 unfold tV at hk;cases hu:P.underlying t with
 | none=>simp [hu] at hk
 | some kd=>cases kd<;>simp [hu] at hk<;>exact ⟨_,rfl⟩
theorem Ci {t:TypeId}(hk:tV P t=some .sl):∃ q,P.underlying t=some (.slice q):=by
 unfold tV at hk;cases hu:P.underlying t with
 | none=>simp [hu] at hk
 | some kd=>cases kd<;>simp [hu] at hk<;>exact ⟨_,rfl⟩
theorem Ch {t:TypeId}(hk:tV P t=some .fn):∃ a b c,P.underlying t=some (.func a b c):=by
 unfold tV at hk;cases hu:P.underlying t with
 | none=>simp [hu] at hk
 | some kd=>cases kd<;>simp [hu] at hk<;>exact ⟨_,_,_,rfl⟩
theorem M9 {k:EQ}{t:TypeId}{xv yv:V}{u v:Value}{b:Bool}(hk:tV P t=some k)(hx:VRy ρ w xv u)(hy:VRy ρ w yv v)(hb:fQ k xv yv=some b)(x y:Operand)(neg:Bool) :
 (do eqGuard (if neg then .neq else .eql) t x y u v; binOp (if neg then .neq else .eql) t u v).run P w=.ok (.bool (b != neg)) w:=by
 have hk0:=hk;unfold fQ at hb;unfold tV at hk;split at hb
 ·
   rename_i q c d;cases hu:P.underlying t with
   | none=>simp [hu] at hk
   | some kd =>
    cases q<;>cases c<;>cases d<;>simp only [lH] at hb<;>try (cases hb; done)
    . cases kd<;>simp [hu] at hk<;>try (first | (split at hk<;>simp at hk) | skip; done)
      rw [qg hx,qg hy]; cases hb;cases neg<;>simp [eqGuard,run_eql_bool,run_neq_bool,hu]
    . rw [dB hx,dB hy];split at hb
      . rename_i hh;obtain ⟨rfl,rfl⟩:=hh;cases hb;cases neg<;>simp [eqGuard,binOp,Op.intCmp]<;>first | rfl | (cases hq:(_==_:Bool)<;>simp_all)
      . cases hb
    . rw [kr hx,kr hy]; cases hb;cases neg<;>simp [eqGuard,binOp,Op.stringOp]
 ·
   rename_i ks xs ys;have hx':=hx;have hy':=hy;simp only [VR] at hx hy;obtain ⟨us,rfl,hus,_⟩:=hx;obtain ⟨vs,rfl,hvs,_⟩:=hy;cases hu:P.underlying t with
   | none=>simp [hu] at hk
   | some kd =>
    cases kd<;>simp only [hu] at hk<;>try (cases hk; done)
    rename_i fs;split at hk
    . cases hk
    . rename_i hgd;cases hkk:iN P 200 t with
      | none=>simp [hkk] at hk
      | some ks' =>
       simp [hkk] at hk;subst hk;have hr:=FR (P:=P) 200 10000 (by omega) hkk (show iV P t=some true by simp [iV,hu]) hus hvs hb;simp only [bX,if_true,Array.toArray_toList] at hr;have hgd':P.eqGuardType P.depth t=false:=by simpa using hgd
       cases neg
       . simp only [bo,if_false,Sem.run_bind,run_eqGuard_agg w _ t x y us vs hgd',Result.andThen_ok,run_eql_struct,hr];simp
       . simp only [if_true,Sem.run_bind,run_eqGuard_agg w _ t x y us vs hgd',Result.andThen_ok,run_neq_struct,hr];simp
 . obtain ⟨_,hu⟩:=oG hk0;simp only [VR,DR] at hx hy; subst hx hy; cases hb;exact iX x y neg (wX _ hu none) rfl rfl (λop=>by cases op<;>rfl)
 . obtain ⟨_,hu⟩:=oG hk0;simp only [VR,DR] at hx hy; obtain ⟨_,rfl⟩:=hx; subst hy; cases hb;exact iX x y neg (wX _ hu (some _)) rfl rfl (λop=>by cases op<;>rfl)
 . obtain ⟨_,hu⟩:=oG hk0;simp only [VR,DR] at hx hy; obtain ⟨_,rfl⟩:=hy; subst hx; cases hb;exact iX x y neg (FU _ hu (some _)) rfl rfl (λop=>by cases op<;>rfl)
 . obtain ⟨_,hu⟩:=oG hk0;simp only [VR,DR] at hx hy; obtain ⟨_,_,rfl,_⟩:=hx; subst hy; cases hb;exact iX x y neg (wX _ hu (some _)) rfl rfl (λop=>by cases op<;>rfl)
 . obtain ⟨_,hu⟩:=Ci hk0;simp only [VR,DR] at hx hy; obtain ⟨a1,c1,rfl,_,_,h3,_⟩:=hx; obtain ⟨a2,c2,rfl,_,_,h4,_⟩:=hy;have:=h4.2 (by trivial);subst this;cases hb;have he:=FV (P:=P) (w:=w) 9999 hu a1 (List.length ‹List (List D)›) c1 ([]:List (List D)).length c2;have hb:a1.isNone=b:=by
    cases a1 with
    | none=>exact (h3.1 rfl).symm
    | some a1=>cases b with
     | true=>have:=h3.2 rfl; cases this
     | false=>rfl
   rw [hb] at he;exact iX x y neg he rfl rfl (λop=>by cases op<;>rfl)
 . obtain ⟨_,hu⟩:=Ci hk0;simp only [VR,DR] at hx hy; obtain ⟨_,c1,rfl,_⟩:=hx; obtain ⟨a2,c2,rfl,_,_,h4,_⟩:=hy;have:=h4.2 (by trivial);subst this;cases hb;exact iX x y neg (FV _ hu (some _) _ _ _ _) rfl rfl (λop=>by cases op<;>rfl)
 . obtain ⟨_,_,_,hu⟩:=Ch hk0;simp only [VR,DR] at hx hy; obtain ⟨_,rfl,_⟩:=hx; subst hy; cases hb;exact iX x y neg (Na _ hu _ _ _) rfl rfl (λop=>by cases op<;>rfl)
 . obtain ⟨_,_,_,hu⟩:=Ch hk0;simp only [VR,DR] at hx hy; subst hx hy; cases hb;exact iX x y neg (IV _ hu) rfl rfl (λop=>by cases op<;>rfl)
 . cases hb
end
end
section
open Go.RowKit
section
variable {P:Program}{B:Nat}{ρ:Rh}{h:Hp}{w:World}{e:Env}{a:Act}
theorem bN (hR:Rel B ρ h w){s:Sem Value}{v:Value}{x:V}(hs:s.run P w=.ok v w)(hv:VRx h ρ w x v):Does P B ρ h w (do let v ← s; pure (Next.value v)) x h :=
 Does.pure hR (jN hs) hv
theorem iW (hE:ER ρ w e a.tmps){x:Option Operand}{y:Option X}{dft n:Nat}(hx:x.mapM bv=some y)(hb:bound e y dft=some n) :
 (x=none/\n=dft)\/∃ o k i,x=some o/\a.eval o=.int k i/\0<=i/\i.toNat=n:=by
 cases x with
 | none=>simp at hx; subst hx; simp [bound] at hb; exact .inl ⟨rfl,hb.symm⟩
 | some o =>
  cases ho:bv o with
  | none=>simp [ho] at hx
  | some X' =>
   simp [ho] at hx;subst hx;have hv:=aI hE ho;simp only [bound] at hb;split at hb
   . rename_i q i heq;rw [heq] at hv;split at hb
     . rename_i h0;cases hb;exact .inr ⟨o,q,i,rfl,dB hv,h0,rfl⟩
     . cases hb
   . cases hb
theorem lu (hE:ER ρ w e a.tmps)(isS:Bool){lo hi:Option Operand}{lo' hi':Option X}{len cap l k:Nat}(hlo:lo.mapM bv=some lo')(hhi:hi.mapM bv=some hi')
 (b1:bound e lo' 0=some l) (b2:bound e hi' len=some k) (h1:l<=k) (h2:k<=cap) :
 (Instr.sliceBounds isS len cap (lo.map a.eval) (hi.map a.eval) none).run P w=.ok (l,k,cap) w:=by
 obtain ⟨rfl,rfl⟩ | ⟨o1,k1,i1,rfl,e1,g1,rfl⟩:=iW hE hlo b1<;>obtain ⟨rfl,rfl⟩ | ⟨o2,k2,i2,rfl,e2,g2,rfl⟩:=iW hE hhi b2
 . simp [Instr.sliceBounds]
 . simp only [Instr.sliceBounds,Option.map_some,Option.map_none,e2,Sem.run_bind,Sem.run_pure,Result.andThen_ok];rw [run_sliceBound w k2 i2 _ _ g2 (by omega)];simp
 . simp only [Instr.sliceBounds,Option.map_some,Option.map_none,e1,Sem.run_bind,Sem.run_pure,Result.andThen_ok];simp [run_sliceBound w k1 i1 _ _ g1 (show i1<=(k:Int) by omega)]
 . simp only [Instr.sliceBounds,Option.map_some,Option.map_none,e1,e2,Sem.run_bind,Sem.run_pure,Result.andThen_ok];rw [run_sliceBound w k2 i2 _ _ g2 (by omega)];simp [run_sliceBound w k1 i1 _ _ g1 (show i1<=(i2.toNat:Int) by omega)]
theorem zR (hE:ER ρ w e a.tmps){lo hi mx:Option Operand}{lo' hi' mx':Option X}{len cap l k m:Nat}(hlo:lo.mapM bv=some lo')(hhi:hi.mapM bv=some hi')(hmx:mx.mapM bv=some mx')(hms:mx'.isSome=true)(hhs:hi'.isSome=true)
 (b1:bound e lo' 0=some l) (b2:bound e hi' len=some k) (b3:bound e mx' 0=some m) (h1:l<=k) (h2:k<=m) (h3:m<=cap) :
 (Instr.sliceBounds true len cap (lo.map a.eval) (hi.map a.eval) (mx.map a.eval)).run P w=.ok (l,k,m) w:=by
 obtain ⟨rfl,rfl⟩ | ⟨o3,k3,i3,rfl,e3,g3,rfl⟩:=iW hE hmx b3
 . simp at hmx; subst hmx; cases hms
 obtain ⟨rfl,rfl⟩ | ⟨o2,k2,i2,rfl,e2,g2,rfl⟩:=iW hE hhi b2
 . simp at hhi; subst hhi; cases hhs
 obtain ⟨rfl,rfl⟩ | ⟨o1,k1,i1,rfl,e1,g1,rfl⟩:=iW hE hlo b1
 . simp only [Instr.sliceBounds,Option.map_some,Option.map_none,e2,e3,Sem.run_bind,Sem.run_pure,Result.andThen_ok];rw [run_sliceBound w k3 i3 _ _ g3 (by omega)];simp only [Result.andThen_ok];rw [run_sliceBound w k2 i2 _ _ g2 (by omega)];simp
 . simp only [Instr.sliceBounds,Option.map_some,Option.map_none,e1,e2,e3,Sem.run_bind,Sem.run_pure,Result.andThen_ok];rw [run_sliceBound w k3 i3 _ _ g3 (by omega)];simp only [Result.andThen_ok];rw [run_sliceBound w k2 i2 _ _ g2 (by omega)];simp [run_sliceBound w k1 i1 _ _ g1 (show i1<=(i2.toNat:Int) by omega)]
theorem DRss.sub {S:Nat->Prop}{b z o:Nat}{es:List (List D)}(hd:DRss S w b o z es)(l k:Nat)(hk:k<=es.length):DRss S w b (o+l * z) z ((es.take k).drop l) :=
 DRss.of_get λi hi=>by
  have hi':l+i<es.length:=by simp at hi; omega
  have:=hd.get (l+i) hi';simp only [List.getElem_drop,List.getElem_take];rw [Nat.add_mul] at this;rw [Nat.add_assoc];exact this
theorem zZ (hR:Rel B ρ h w)(hE:ER ρ w e a.tmps){t el:TypeId}{z:Nat}{xv r:V}{v:Value}{lo hi mx:Option Operand}{lo' hi' mx':Option X}(ht:P.underlying t=some (.slice el))(hz:iL P el=some z)
 (hlo:lo.mapM bv=some lo') (hhi:hi.mapM bv=some hi') (hmx:mx.mapM bv=some mx') (hx:VRx h ρ w xv v) (hm:dA h e .sl z xv lo' hi' mx'=some r) :
 ∃ u,(Instr.sliceAt t v (lo.map a.eval) (hi.map a.eval) (mx.map a.eval)).run P w=.ok u w/\VRx h ρ w r u:=by
 cases xv with
 | d y =>
  cases y with
  | slice nl es =>
   simp only [VR,DR] at hx;obtain ⟨ad,c,rfl,h1,h2,h3,h4,h5⟩:=hx;simp only [dA] at hm;split at hm
   . rename_i l k hbl hbk;have hmn:mx=none:=by cases mx with | none=>rfl | some o=>cases ho:bv o<;>simp [ho] at hmx
     subst hmn;split at hm
     . rename_i hh;obtain ⟨g1,g2,g3⟩:=hh;cases hm;have hb:=lu (P:=P) hE true hlo hhi hbl hbk g1 (by omega:k<=c);refine ⟨_,by simp only [Instr.sliceAt,Instr.slice,Sem.run_bind,run_underlying ht,Result.andThen_ok,Option.map_none,hb,run_sizeOf hz]; rfl,?_⟩;simp only [VR,DR];have hlen:((es.take k).drop l).length=k-l:=by simp; omega
       refine ⟨_,c-l,by rw [hlen],by rw [hlen]; omega,by omega,?_,?_,λhne=>?_⟩
       . split
         . exact h3
         . rw [← h3]; cases ad<;>simp
       . intro hn;have:ad=none:=by
          split at hn
          . exact hn
          . cases ad with | none=>rfl | some _=>simp at hn
         rw [h4 this]; simp
       . have hlk:l<k:=by
          have:((es.take k).drop l).length≠0:=λe=>hne (List.eq_nil_of_length_eq_zero e);omega
         have hes:es≠[]:=by rintro rfl; simp at g2; omega
         obtain ⟨b,o,z',e1,hb,hd⟩:=h5 hes;have hzz:z'=z:=by
          cases es with
          | nil=>exact absurd rfl hes
          | cons x xs=>simp only [DRss] at hd; simp at g3; rw [← hd.1]; exact g3
         subst hzz;refine ⟨b,o+l * z',z',?_,hb,hd.sub l k g2⟩;rw [if_neg (by omega),e1];simp [add_plain']
     . cases hm
   . cases hm
  | _=>simp [dA] at hm
 | row b o len cap z' =>
  have hx0:=hx;simp only [VR] at hx;obtain ⟨hb,c,rfl,h1,h2,h3,arr,e0,fz,h4,h5⟩:=hx;simp only [dA] at hm;split at hm
  . rename_i l k hbl hbk;have hmn:mx=none:=by cases mx with | none=>rfl | some o=>cases ho:bv o<;>simp [ho] at hmx
    subst hmn;split at hm
    . rename_i hh;obtain ⟨g1,g2,rfl⟩:=hh;have hbd:=lu (P:=P) hE true hlo hhi hbl hbk g1 (by omega:k<=c);have hrun:(Instr.sliceAt t (.slice (some ⟨ρ b,o,none⟩) len c) (lo.map a.eval) (hi.map a.eval) ((none:Option Operand).map a.eval)).run P w=.ok (.slice (if c=l then some ⟨ρ b,o,none⟩ else some ⟨ρ b,o+l * z',none⟩) (k-l) (c-l)) w:=by
       simp only [Instr.sliceAt,Instr.slice,Sem.run_bind,run_underlying ht,Result.andThen_ok,Option.map_none,hbd,run_sizeOf hz,Option.map_some,add_plain',Sem.run_pure]
      refine ⟨_,hrun,?_⟩;split at hm
      . rename_i hl0;subst hl0;cases hm;simp only [VR];refine ⟨hb,c,?_,by omega,h2,h3,arr,e0,fz,h4,h5⟩;simp
      . split at hm
        . rename_i hl0 hll;cases hm;simp only [VR];refine ⟨hb,c-l,by rw [if_neg (by omega)],by omega,by omega,λq hq=>?_,arr,e0,fz,h4,?_⟩
          . cases cap with
            | none=>cases hq
            | some c'=>have:=h3 c' rfl; simp at hq; omega
          . rw [Nat.sub_mul];have:l * z'<=c * z':=Nat.mul_le_mul_right _ (by omega);obtain ⟨h5a,h5b⟩:=h5;refine ⟨by omega,λhn=>?_⟩;have hcn:cap=none:=by
             cases cap with
             | none=>rfl
             | some c'=>simp at hn
            have:=h5b hcn;omega
        . rename_i hl0 hll;cases hm;have hkl:k-l=0:=by omega
          simp only [VR,DR];rw [hkl];refine ⟨_,c-l,rfl,by simp,by omega,?_,?_,by simp⟩
          . split<;>simp
          . split<;>simp
    . cases hm
  . rename_i l k mX hbl hbk;cases hbm:bound e (some mX) 0 with
    | none=>simp [hbm] at hm
    | some m =>
     simp only [hbm] at hm;split at hm
     . rename_i hh;obtain ⟨g1,g2,g3,rfl,g4,hhs⟩:=hh;cases hm;have hbd:=zR (P:=P) (len:=len) (cap:=c) hE hlo hhi hmx rfl hhs hbl hbk hbm g1 g2 (by omega);have hrun:(Instr.sliceAt t (.slice (some ⟨ρ b,o,none⟩) len c) (lo.map a.eval) (hi.map a.eval) (mx.map a.eval)).run P w=.ok (.slice (if m=l then some ⟨ρ b,o,none⟩ else some ⟨ρ b,o+l * z',none⟩) (k-l) (m-l)) w:=by
        simp only [Instr.sliceAt,Instr.slice,Sem.run_bind,run_underlying ht,Result.andThen_ok,hbd,run_sizeOf hz,Option.map_some,add_plain',Sem.run_pure]
       refine ⟨_,hrun,?_⟩;simp only [VR];refine ⟨hb,m-l,?_,by omega,by omega,λq hq=>by cases hq; rfl,arr,e0,fz,h4,?_⟩
       . obtain rfl | g4:=g4
         . simp
         . rw [if_neg (by omega)]
       . have h6:m * z'<=c * z':=Nat.mul_le_mul_right _ (by omega);have h7:l * z'<=m * z':=Nat.mul_le_mul_right _ (by omega);rw [Nat.sub_mul]; exact ⟨by have:=h5.1; omega,λhh=>by cases hh⟩
     . cases hm
  . cases hm
 | _=>simp [dA] at hm
end
end
section
open Go.RowKit
section
variable {P:Program}{B:Nat}{ρ:Rh}{h:Hp}{w:World}{e:Env}{a:Act}
theorem oW {sc:Bool}{cs:List V}{x:V}(hm:mk sc cs=some x):(sc=true/\cs=[x])\/(sc=false/\x=.agg cs):=by
 unfold mk at hm;split at hm
 . cases hm; exact .inl ⟨rfl,rfl⟩
 . cases hm
 . cases hm; exact .inr ⟨rfl,rfl⟩
theorem oZ {S:Nat->Prop}{ag:Bool}{cs:List V}{us:List Value}{x:V}(hv:VRs ρ S w cs us)(h1:∀ u∈us,u.oneCell'=true)(hm:mk (!ag) cs=some x):VR ρ S w x (bX ag us):=by
 obtain ⟨h2,rfl⟩ | ⟨h2,rfl⟩:=oW hm
 . have:ag=false:=by simpa using h2
   subst this;simp only [VRs] at hv;obtain ⟨u,us',rfl,h3,rfl⟩:=hv;simpa [bX] using h3
 . have:ag=true:=by simpa using h2
   subst this;simp only [VR,bX,if_true];exact ⟨_,rfl,by simpa using hv,by simpa using h1⟩
theorem DN (hR:Rel B ρ h w)(hE:ER ρ w e a.tmps){t:TypeId}{ad:Operand}{ag:Bool}{n:Nat}{X':X}{cs:List V}{x:V}(ha:iV P t=some ag)(hs:iL P t=some n)(hn:n≠0)(ho:bv ad=some X')
 (hl:loadAt h (X'.ev e) n=some cs) (hm:mk (!ag) cs=some x):Does P B ρ h w (do let v ← Instr.loadAt t (a.eval ad); pure (.value v)) x h:=by
 obtain ⟨b,o,us,e1,l1,l2,l3,l4⟩:=oO hR (by omega) (aI hE ho) hl;have hlist:=run_loadCells_list (P:=P) w ⟨b,o,none⟩ us (λj v hv=>by rw [add_plain']; exact l2 j v hv);refine bN hR (v:=bX ag us) ?_ (oZ l3 l4 hm);rw [e1];cases ag with
 | true=>simp [Instr.loadAt,Instr.sureAddr,loadVar,jr ha,run_sizeOf hs,← l1,hlist,bX]
 | false =>
  obtain ⟨_,rfl⟩ | ⟨h2,_⟩:=oW hm
  . simp only [VRs] at l3;obtain ⟨u,us',rfl,h3,rfl⟩:=l3;have:=l2 0 u rfl;simp only [Nat.add_zero] at this;simp [Instr.loadAt,Instr.sureAddr,loadVar,jr ha,load,Sem.run,this,bX]
  . cases h2
theorem BK (hR:Rel B ρ h w)(hE:ER ρ w e a.tmps){t:TypeId}{ad vo:Operand}{n:Nat}{X1 X2:X}{xs:List V}{h':Hp}(hs:iL P t=some n)(hn:0<n)(h1:bv ad=some X1)(h2:bv vo=some X2)
 (hc:(X2.ev e).cells=some xs) (hl:xs.length=n) (hst:storeAt h (X1.ev e) xs=some h'):Does P B ρ h w (do Instr.storeAt t (a.eval ad) (a.eval vo); pure .skip) .undef h':=by
 obtain ⟨k1,k2⟩:=lN (aI hE h2) hc;have hv:=aI hE h1;cases hx:X1.ev e with
 | ptr b o =>
  rw [hx] at hv hst;simp only [VR] at hv;obtain ⟨hb,ea⟩:=hv;simp only [storeAt] at hst;cases hg:h.get b with
  | none=>simp [hg] at hst
  | some cs =>
   simp only [hg] at hst;cases hp:put cs o xs with
   | none=>simp [hp] at hst
   | some cs' =>
    simp only [hp,bd] at hst;subst hst;have hne:xs≠[]:=by rintro rfl; simp at hl; omega
    obtain ⟨q1,q2,q3⟩:=fC (P:=P) hR hg hp hne k1 k2;have hsz:(h.set b cs').size=h.size:=by simp [Hp.set,Hp.size]
    have hlen:=k1.length;simp only [Array.length_toList] at hlen;refine ⟨undef,ρ,_,.inr ⟨?_,rfl⟩,q2,q3,by simp only [VR]⟩;rw [ea];have:¬ ((a.eval vo).cells.size≠n):=by omega
    simp [Instr.storeAt,Instr.sureAddr,storeVar,run_sizeOf hs,this,q1]
 | _=>rw [hx] at hst; simp [storeAt] at hst
theorem oQ {l:List Operand}{xs:List X}(hE:ER ρ w e a.tmps)(hm:l.mapM bv=some xs):VRs ρ (St ρ w) w (xs.map (·.ev e)) (l.map a.eval):=by
 have hh:=mapM_some hm;exact VRs.of_get (by simp [hh.1]) λi h1 h2=>by
  simp only [List.getElem_map];exact aI hE (hh.2 i (by simpa using h2) (by simpa using h1))
theorem DC (hR:Rel B ρ h w){s:ByteArray}{sem:Sem Next}(hs:sem.run P w=.ok (.value (.pointer (some ⟨w.heap.size,0,none⟩))) (w.alloc (.stringIter s 0))) :
 Does P B ρ h w sem (.ptr h.size 0) { h with bs:=h.bs++[.iter s 0] }:=by
 refine ⟨_,_,_,.inl hs,vO hR _ _ (by simp only [BR]; show (w.heap.push _)[_]?=_; simp),jA hR _ _ (kI hR),?_⟩;simp only [VR];exact ⟨.inr rfl,by rw [j6]⟩
theorem DY (hR:Rel B ρ h w){b:Nat}{v:Value}{s:ByteArray}{pos:Nat}{t:TypeId}(hv:VRx h ρ w (.ptr b 0) v)(hb:h.bs[b]?=some (.iter s pos)){x:V}{h':Hp}
 (hm:(if pos<s.size then some (V.tup [.d (.bool true),.d (.int .i64 pos),.d (.int .i32 (Utf8.decode s pos).1)],(⟨h.bs.set b (.iter s (pos+(Utf8.decode s pos).2)),min h.low b⟩:Hp)) else some (V.tup [.d (.bool false)],h))=some (x,h')) :
 Does P B ρ h w (do let u ← Instr.next v true t; pure (.value u)) x h':=by
 simp only [VR] at hv;obtain ⟨hbn,rfl⟩:=hv;obtain ⟨hb',eb⟩:=bx.1 hb;have hm0:=hR.mem b hb';rw [eb] at hm0;simp only [BR] at hm0;split at hm
 . rename_i hp;simp only [bd,cy] at hm;obtain ⟨rfl,rfl⟩:=hm;have hlt:=(hR.lo b hbn).2
   let w':World:={ w with heap:=w.heap.setIfInBounds (ρ b) (.stringIter s (pos+(Utf8.decode s pos).2)) }
   have hrun:(Instr.next (.pointer (some ⟨ρ b,0,none⟩)) true t).run P w=.ok (.tuple #[.bool true,goInt pos,.int .i32 (Utf8.decode s pos).1]) w':=by
    simp [Instr.next,getObj,setObj,Sem.run,hm0,hp,w',goInt]
   have hoth:∀ k,k≠ρ b->w'.heap[k]?=w.heap[k]?:=λk hk=>by simp [w',Array.getElem?_setIfInBounds,Ne.symm hk]
   have hown:∀ arr e fz,w.heap[ρ b]?=some (.cells arr e fz)->∃ arr' fz',w'.heap[ρ b]?=some (.cells arr' e fz')/\arr'.size=arr.size:=λarr e fz k=>by rw [hm0] at k; cases k
   have hbr:BR ρ w' (ρ b) (.iter s (pos+(Utf8.decode s pos).2)):=by simp [BR,w',Array.getElem?_setIfInBounds,hlt]
   have hsz:w'.heap.size=w.heap.size:=by simp [w']
   have hlive:h.bs[b].live=true:=by rw [eb]; rfl
   refine ⟨_,ρ,w',.inl (jN hrun),p9 hR hb' hlive hsz hoth hown rfl rfl rfl _ hbr _,jO hR (hR.live b hb' hlive) hsz hoth hown rfl rfl rfl,?_⟩
   . simp only [VR,VRs,DR,goInt];exact ⟨_,rfl,_,_,rfl,rfl,_,_,rfl,rfl,_,_,rfl,rfl,rfl⟩
 . rename_i hp;simp only [bd,cy] at hm;obtain ⟨rfl,rfl⟩:=hm;refine bN hR (v:=.tuple #[.bool false]) ?_ ?_
   . simp [Instr.next,getObj,Sem.run,hm0,hp]
   . simp only [VR,VRs,DR];exact ⟨_,rfl,_,_,rfl,rfl,rfl⟩
theorem nH (mx:Bool):∀ {xs:List V} {vs:List Value} {x:V} {v:Value} {r:V},VRy ρ w x v->VRs ρ (St ρ w) w xs vs->fT mx x xs=some r →
 ∃ u,(vs.foldlM (if mx then Builtin.max2 else Builtin.min2) v).run P w=.ok u w/\VRy ρ w r u
 | [],vs,x,v,r,hx,hxs,hm=>by
  simp only [VRs] at hxs;subst hxs;simp [fT] at hm;subst hm;exact ⟨v,by simp,hx⟩
 | y::ys,vs,x,v,r,hx,hxs,hm=>by
  simp only [VRs] at hxs;obtain ⟨u,us,rfl,hy,hys⟩:=hxs;unfold fT at hm;split at hm
  . rename_i heq; cases heq
  . rename_i k1 n1 k2 n2 l heq;cases heq;split at hm
    . rename_i hk;subst hk;rw [dB hx,dB hy];obtain ⟨u',h1,h2⟩:=nH mx (v:=.int k1 (if mx then (if n2>n1 then n2 else n1) else (if n2<n1 then n2 else n1))) (by simp only [VR,DR]) hys hm;refine ⟨u',?_,h2⟩;rw [List.foldlM_cons,Sem.run_bind];cases mx<;>simp [Builtin.max2,Builtin.min2] at h1 ⊢<;>exact h1
    . cases hm
  . cases hm
end
end
