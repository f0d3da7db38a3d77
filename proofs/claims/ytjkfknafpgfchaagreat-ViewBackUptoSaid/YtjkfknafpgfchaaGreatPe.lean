/- Comparisons. -/
import Derived.Test.YtjkfknafpgfchaaGreatPo
import Derived.Laws.StructEq
import Derived.Laws.Pointers
import Derived.Laws.Cover3
import Derived.Laws.Tables
import Derived.Laws.Slices
import Derived.Laws.OwnMore
set_option linter.unusedVariables false
namespace Go.Proofs.YtjkfknafpgfchaaGreat
section
open Go.RowKit
variable {P:Program}
theorem iP {t:TypeId} {n:Nat} (h:gQ P t = some n):∃ i,P.info? t = some i /\ i.size = n:=by
 simpa [gQ,Option.map_eq_some_iff] using h
theorem run_sizeOf {t:TypeId} {n:Nat} (h:gQ P t = some n) (w:World):(sizeOf t).run P w = .ok n w:=by
 obtain ⟨i,h1,h2⟩:=iP h;simp [sizeOf,typeInfo,h1,h2]
theorem iO {t:TypeId} {b:Bool} (h:gZ P t = some b) (w:World):(isAgg t).run P w = .ok b w:=by
 unfold gZ at h;cases hu:P.underlying t with
 | none=>simp [hu] at h
 | some k =>
  simp only [hu] at h;cases k <;> simp at h <;> subst h <;> simp [isAgg,run_underlying hu]
def bM (ag:Bool) (cs:List Value):Value:=if ag then .agg cs.toArray else cs.headD undef
theorem oQ {t:TypeId} {ag:Bool} {n:Nat} (h:gZ P t = some ag) (hs:gQ P t = some n) (h1:ag = false -> n = 1) (arr:Array Value) (off:Nat) (hl:off + n <= arr.size) (w:World) :
 (part t arr off).run P w = .ok (bM ag ((arr.toList.drop off).take n)) w:=by
 cases ag with
 | true =>
  simp [part,iO h,run_sizeOf hs,bM];apply Array.ext';simp [Array.toList_extract]
 | false =>
  have:=h1 rfl;subst this;have hlt:off < arr.size:=by omega
  simp [part,iO h,bM,hlt];have:(List.drop off arr.toList) = arr[off] :: List.drop (off + 1) arr.toList:=by
   rw [List.drop_eq_getElem_cons (by simpa using hlt)]; simp
  rw [this]; simp
theorem dH:∀ {ks:List EK} {xs ys:List V} {b:Bool},bn ks xs ys = some b -> xs.length = ks.length /\ ys.length = ks.length
 | [],[],[],_,_=>by simp
 | [],_ :: _,_,_,h=>by simp [bn] at h
 | [],[],_ :: _,_,h=>by simp [bn] at h
 | k :: ks,[],_,_,h=>by simp [bn] at h
 | k :: ks,x :: xs,[],_,h=>by cases x <;> simp [bn] at h
 | k :: ks,x :: xs,y :: ys,b,h=>by
  cases x <;> cases y <;> simp only [bn] at h <;> try (cases h; done)
  rename_i a c;cases h1:kJ k a c with
  | none=>simp [h1] at h
  | some r=>cases h2:bn ks xs ys with
   | none=>simp [h1,h2] at h
   | some t =>
    have:=dH h2;simp [this]
theorem kR:∀ {k1 k2:List EK} {xs ys:List V} {b:Bool},bn (k1 ++ k2) xs ys = some b →
 ∃ b1 b2,bn k1 (xs.take k1.length) (ys.take k1.length) = some b1 /\ bn k2 (xs.drop k1.length) (ys.drop k1.length) = some b2 /\ b = (b1 && b2)
 | [],k2,xs,ys,b,h=>⟨true,b,by simp [bn],by simpa using h,by simp⟩
 | k :: k1,k2,xs,ys,b,h=>by
  match xs,ys,h with
  | [],_,h=>simp [bn] at h
  | x :: xs,[],h=>cases x <;> simp [bn] at h
  | x :: xs,y :: ys,h =>
   cases x <;> cases y <;> simp only [List.cons_append,bn] at h <;> try (cases h; done)
   rename_i a c;cases h1:kJ k a c with
   | none=>simp [h1] at h
   | some r=>cases h2:bn (k1 ++ k2) xs ys with
    | none=>simp [h1,h2] at h
    | some t =>
     simp [h1,h2] at h;obtain ⟨b1,b2,e1,e2,e3⟩:=kR h2;refine ⟨r && b1,b2,by simp [bn,h1,e1],by simpa using e2,by rw [← h,e3,Bool.and_assoc]⟩
theorem wZ {n:Nat} {t:TypeId} {ks:List EK} (h:gV P n t = some ks):∃ ag,gZ P t = some ag /\ (ag = false -> ks.length = 1):=by
 cases n with
 | zero=>simp [gV] at h
 | succ n =>
  unfold gV at h;cases hu:P.underlying t with
  | none=>simp [hu] at h
  | some k=>cases k <;> simp [hu] at h <;> simp [gZ,hu] <;> first | (subst h; rfl) | skip
section
variable {ρ:Rh} {S:Nat -> Prop} {w:World}
theorem VQ {t:TypeId} {k:EK} {x y:D} {u v:Value} {b:Bool} (D:Nat) (hk:(match k with | .b=>P.underlying t = some .bool | .i q=>P.underlying t = some (.int q) | .s=>P.underlying t = some .string))
 (hx:DR S w x u) (hy:DR S w y v) (he:kJ k x y = some b):(Op.equalIn (D + 1) t u v).run P w = .ok b w:=by
 cases k <;> cases x <;> cases y <;> simp only [kJ] at he <;> try (cases he; done)
 · simp only [DR] at hx hy; subst hx hy; cases he;exact run_equalIn_bool' w D t _ _ hk
 · simp only [DR] at hx hy; subst hx hy;split at he
   · rename_i q _ a _ c hh;obtain ⟨rfl,rfl⟩:=hh;cases he;exact run_equalIn_int w D t _ _ _ _ hk
   · cases he
 · simp only [DR] at hx hy; subst hx hy; cases he;exact run_equalIn_string w D t _ _ hk
mutual
theorem FV:∀ (m:Nat) {t:TypeId} {ks:List EK} {ag:Bool} {xs ys:List V} {us vs:List Value} {b:Bool} (D:Nat),m <= D -> gV P m t = some ks -> gZ P t = some ag -> VRs ρ S w xs us -> VRs ρ S w ys vs -> bn ks xs ys = some b →
 (Op.equalIn D t (bM ag us) (bM ag vs)).run P w = .ok b w
 | 0,t,ks,ag,xs,ys,us,vs,b,D,_,h,_,_,_,_=>by simp [gV] at h
 | m + 1,t,ks,ag,xs,ys,us,vs,b,D,hD,h,ha,hx,hy,he=>by
  obtain ⟨D,rfl⟩:∃ D',D = D' + 1:=⟨D - 1,by omega⟩;have h0:=h;unfold gV at h;have scal:∀ k,ks = [k] -> (match k with | .b=>P.underlying t = some .bool | .i q=>P.underlying t = some (.int q) | .s=>P.underlying t = some .string) -> ag = false -> (Op.equalIn (D + 1) t (bM ag us) (bM ag vs)).run P w = .ok b w:=by
   intro k hk hku hag;subst hk hag
   match xs,ys,dH he with
   | [x],[y],hl =>
    clear hl;simp only [VRs] at hx hy;obtain ⟨u,_,rfl,hu,rfl⟩:=hx;obtain ⟨v,_,rfl,hv,rfl⟩:=hy;cases x <;> cases y <;> simp only [bn] at he <;> try (cases he; done)
    rename_i a c;cases h1:kJ k a c with
    | none=>simp [h1] at he
    | some r =>
     simp [h1] at he;subst he;simp only [VR] at hu hv;simpa [bM] using VQ D hku hu hv h1
  cases hu:P.underlying t with
  | none=>simp [hu] at h
  | some k =>
   cases k <;> simp only [hu] at h <;> try (cases h; done)
   · simp [gZ,hu] at ha; cases h; exact scal _ rfl hu (by simpa using ha)
   · simp [gZ,hu] at ha; cases h; exact scal _ rfl hu (by simpa using ha)
   · simp [gZ,hu] at ha; cases h; exact scal _ rfl hu (by simpa using ha)
   · rename_i fs;simp [gZ,hu] at ha;subst ha;split at h
     · cases h
     · rename_i hst;have hfs:P.fieldsOf t = fs:=by simp [Program.fieldsOf,hu]
       have:=run_equalIn_struct (P:=P) w D t us.toArray vs.toArray (by rw [hfs]; exact hu) (by simpa using hst);simp only [bM,if_true];rw [this,hfs];exact BJ m D (by omega) h (by simpa using hx) (by simpa using hy) (by simpa using he) (by simp [hx.length,(dH he).1]) (by simp [hy.length,(dH he).2])
theorem BJ:∀ (m:Nat) {fs:List Field} {off:Nat} {ks:List EK} {xs ys:List V} {us vs:Array Value} {b:Bool} (D:Nat),m <= D -> dO P m fs off = some ks -> VRs ρ S w xs us.toList -> VRs ρ S w ys vs.toList -> bn ks (xs.drop off) (ys.drop off) = some b →
 off + ks.length = us.size -> off + ks.length = vs.size -> (Op.eqFields D us vs fs).run P w = .ok b w
 | m,[],off,ks,xs,ys,us,vs,b,D,hD,h,hx,hy,he,l1,l2=>by
  have:ks = []:=by cases m <;> simp [dO] at h <;> exact h
  subst this;have hl:=dH he;have e1:=List.eq_nil_of_length_eq_zero hl.1;have e2:=List.eq_nil_of_length_eq_zero hl.2;rw [e1,e2] at he;simp [bn] at he;subst he;rfl
 | 0,f :: fs,off,ks,xs,ys,us,vs,b,D,hD,h,hx,hy,he,l1,l2=>by simp [dO] at h
 | m + 1,f :: fs,off,ks,xs,ys,us,vs,b,D,hD,h,hx,hy,he,l1,l2=>by
  unfold dO at h;split at h
  · rename_i hf;obtain ⟨ho,hname⟩:=hf;cases hk:gV P m f.type with
    | none=>simp [hk] at h
    | some k1 =>
     simp only [hk] at h;split at h
     · rename_i hsz;cases hr:dO P m fs (off + k1.length) with
       | none=>simp [hr] at h
       | some k2 =>
        simp only [hr,Option.some.injEq] at h;subst h;obtain ⟨b1,b2,c1,c2,rfl⟩:=kR he;obtain ⟨ag,ha,ha1⟩:=wZ hk;have hl:=dH he;simp only [List.length_append,List.length_drop] at hl l1 l2;have p1:=oQ (P:=P) ha hsz ha1 us off (by omega) w;have p2:=oQ (P:=P) ha hsz ha1 vs off (by omega) w;have e1:=FV m D (by omega) hk ha ((hx.drop off).take k1.length) ((hy.drop off).take k1.length) c1;have e2:=BJ m D (by omega) hr hx hy (by simpa [List.drop_drop] using c2) (by omega) (by omega);rw [← ho] at p1 p2;simp only [Op.eqFields,hname,ne_eq,not_false_eq_true,if_true,Sem.run_bind];rw [p1];simp only [Result.andThen_ok];rw [p2];simp only [Result.andThen_ok];rw [ho,e1];simp only [Result.andThen_ok];cases b1
        · simp
        · simpa using e2
     · cases h
  · cases h
end
end
end
section
open Go.RowKit
def Does (P:Program) (B:Nat) (ρ:Rh) (h:Hp) (w:World) (s:Sem Next) (x:V) (h':Hp):Prop :=
 ∃ v ρ' w',(s.run P w = .ok (.value v) w' \/ (s.run P w = .ok .skip w' /\ v = undef)) /\ Rel B ρ' h' w' /\ Goes B ρ w ρ' w' /\ VR ρ' (St ρ' w') w' x v
section
variable {P:Program} {B:Nat} {ρ:Rh} {h:Hp} {w:World}
theorem Does.pure (hR:Rel B ρ h w) {s:Sem Next} {v:Value} {x:V} (hs:s.run P w = .ok (.value v) w) (hv:VR ρ (St ρ w) w x v):Does P B ρ h w s x h :=
 ⟨v,ρ,w,.inl hs,hR,Goes.refl _ _ _,hv⟩
theorem QI (h:Hp) (cs:List V):(h.alloc cs).size = h.size + 1:=by simp [Hp.alloc,Hp.size]
theorem Does.fresh (hR:Rel B ρ h w) {s:Sem Next} {cs:List V} {arr:Array Value} {t:TypeId} (hs:s.run P w = .ok (.value (.pointer (some ⟨w.heap.size,0,none⟩))) (w.alloc (.cells arr t)))
 (hv:VRs ρ (St ρ w) w cs arr.toList) (h1:∀ u ∈ arr.toList,u.oneCell' = true):Does P B ρ h w s (.ptr h.size 0) (h.alloc cs):=by
 have hl:=hv.length;simp only [Array.length_toList] at hl;have ht:arr.toList.take cs.length = arr.toList:=List.take_of_length_le (by simp [hl]);refine ⟨_,extρ ρ h.size w.heap.size,_,.inl hs,qj hR t (0,0) (by omega) (fun j _=>by simp) (by rw [ht]; exact hv) (by rw [ht]; exact h1),iQ hR _ _ (jR hR),?_⟩;simp only [VR];exact ⟨.inr rfl,by rw [jH]⟩
theorem Does.freshRow (hR:Rel B ρ h w) {s:Sem Next} {cs:List V} {arr:Array Value} {t:TypeId} {len c z:Nat} {cap:Option Nat} {fz:Nat × Nat} {w0:World} (h0:w0.heap = w.heap) (h0b:Below B w w0)
 (hs:s.run P w = .ok (.value (.slice (some ⟨w.heap.size,0,none⟩) len c)) (w0.alloc (.cells arr t fz)))
 (hf:∀ j,j < arr.size -> ¬ (fz.1 <= j /\ j < fz.2)) (hl:cs.length <= arr.size)
 (hv:VRs ρ (St ρ w) w cs (arr.toList.take cs.length)) (h1:∀ u ∈ arr.toList.take cs.length,u.oneCell' = true) (hlen:len <= c) (hc:c <= maxLen) (hcap:∀ k,cap = some k -> c = k) (hz:c * z <= arr.size) (hzz:cap = none -> c * z = arr.size) :
 Does P B ρ h w s (.row h.size 0 len cap z) (h.alloc cs):=by
 have hR0:=hR.same h0;have hx:Ext ρ (St ρ w) w ρ (St ρ w0) w0:=rZ h0;have hsz:w0.heap.size = w.heap.size:=by rw [h0]
 have hr:=qj hR0 t fz hl hf (hv.ext hx) h1;have hg:=iQ hR0 (.cells arr t fz) h.size (jR hR0);rw [hsz] at hr hg;refine ⟨_,extρ ρ h.size w.heap.size,_,.inl hs,hr,Goes.trans ⟨hx,h0b⟩ hg,?_⟩;simp only [VR];refine ⟨.inr rfl,c,by rw [jH],hlen,hc,hcap,arr,t,fz,?_,by simpa using hz,fun h=>by simpa using hzz h⟩;rw [jH];show (w0.heap.push _)[_]? = _;simp [← hsz]
theorem dS {S:Nat -> Prop} {t:TypeId} {l:List V} (hz:gy P t = some l) :
 ∃ i z,P.info? t = some i /\ i.zero = some z /\ l.length = i.size /\ VRs ρ S w l z.cells.toList /\ ∀ u ∈ z.cells.toList,u.oneCell' = true:=by
 unfold gy at hz;cases hi:P.info? t with
 | none=>simp [hi] at hz
 | some i =>
  cases hzz:i.zero with
  | none=>simp [hi,hzz] at hz
  | some z =>
   cases hm:z.cells.toList.mapM dOf with
   | none=>simp [hi,hzz,hm] at hz
   | some ds =>
    simp only [hi,hzz,hm,Option.bind_eq_bind,Option.bind_some] at hz;split at hz
    · rename_i hl;cases hz;have hh:=mapM_some hm;have hg:∀ (j:Nat) (a:j < ds.length) (b:j < z.cells.toList.length),DR S w ds[j] z.cells.toList[j]:=fun j a b=>pK (hh.2 j b a);refine ⟨i,z,rfl,hzz,by simpa using hl,VRs.of_data hh.1.symm hg,fun u hu=>?_⟩;obtain ⟨j,hj,rfl⟩:=List.getElem_of_mem hu;exact (hg j (by rw [hh.1]; exact hj) hj).one
    · cases hz
theorem xm (off:Nat):∀ (us:List Value) (k:Nat) (cells:Array Value) (j:Nat),((us.zipIdx k).foldl (fun cs (p:Value × Nat)=>cs.setIfInBounds (off + p.2) p.1) cells)[j]? =
 if off + k <= j /\ j < off + k + us.length /\ j < cells.size then us[j - off - k]? else cells[j]?
 | [],k,cells,j=>by simp; omega
 | u :: us,k,cells,j=>by
  simp only [List.zipIdx_cons,List.foldl_cons];rw [xm off us (k + 1)];simp only [Array.size_setIfInBounds,List.length_cons,Array.getElem?_setIfInBounds];by_cases hj:off + k = j
  · subst hj;by_cases hs:off + k < cells.size
    · rw [if_neg (by omega),if_pos rfl,if_pos hs,if_pos (by omega)];rw [show off + k - off - k = 0 by omega]; rfl
    · rw [if_neg (by omega),if_pos rfl,if_neg hs,if_neg (by omega)];rw [Array.getElem?_eq_none (by omega)]
  · rw [if_neg hj];by_cases hc:off + k <= j /\ j < off + k + (us.length + 1) /\ j < cells.size
    · rw [if_pos (by omega),if_pos hc];rw [show j - off - k = (j - off - (k + 1)) + 1 by omega];simp
    · rw [if_neg (by omega),if_neg hc]
theorem fold_size (off:Nat):∀ (us:List Value) (k:Nat) (cells:Array Value),((us.zipIdx k).foldl (fun cs (p:Value × Nat)=>cs.setIfInBounds (off + p.2) p.1) cells).size = cells.size
 | [],k,cells=>by simp
 | u :: us,k,cells=>by simp only [List.zipIdx_cons,List.foldl_cons]; rw [fold_size off us (k + 1)]; simp
theorem mU {e:Env} {a:Act} (hE:ER ρ w e a.tmps) (place:Nat -> Option (Nat × Nat)) :
 ∀ (l:List (Nat × Operand)) (ps:List (Nat × Nat × X)) (cs cs':List V) (cells:Array Value),l.mapM (fun p=>do let (o,n) ← place p.1; pure (o,n,← bg p.2)) = some ps -> fills e cs ps = some cs' →
  VRs ρ (St ρ w) w cs cells.toList -> (∀ u ∈ cells.toList,u.oneCell' = true) →
  ∃ cells',Instr.fill place cells (l.map fun p=>(p.1,a.eval p.2)) = some cells' /\ VRs ρ (St ρ w) w cs' cells'.toList /\ ∀ u ∈ cells'.toList,u.oneCell' = true
 | [],ps,cs,cs',cells,hm,hf,hv,h1=>by
  simp at hm; subst hm;simp [fills] at hf; subst hf;exact ⟨cells,rfl,hv,h1⟩
 | (i,x) :: l,ps,cs,cs',cells,hm,hf,hv,h1=>by
  simp only [List.mapM_cons] at hm;cases hp:place i with
  | none=>simp [hp] at hm
  | some on =>
   obtain ⟨o,n⟩:=on;cases hx:bg x with
   | none=>simp [hp,hx] at hm
   | some X' =>
    cases hr:l.mapM (fun p=>do let (o,n) ← place p.1; pure (o,n,← bg p.2)) with
    | none=>simp [hp,hx] at hm; simp at hr; simp [hr] at hm
    | some ps' =>
     have hps:ps = (o,n,X') :: ps':=by
      simp [hp,hx] at hm;simp at hr;simp [hr] at hm;exact hm.symm
     subst hps;simp only [fills] at hf;cases hc:(X'.ev e).cells with
     | none=>simp [hc] at hf
     | some xs =>
      simp only [hc] at hf;split at hf
      · rename_i hn;cases hput:put cs o xs with
        | none=>simp [hput] at hf
        | some c1 =>
         simp only [hput] at hf;obtain ⟨hp1,rfl⟩:=oO hput;obtain ⟨k1,k2⟩:=kS (ay hE hx) hc;have hlen:=k1.length;have hcl:=hv.length;simp only [Array.length_toList] at hlen hcl;have hstep:¬ ((a.eval x).cells.size ≠ n \/ o + (a.eval x).cells.size > cells.size):=by omega
         let cells1:=((a.eval x).cells.toList.zipIdx 0).foldl (fun cs (p:Value × Nat)=>cs.setIfInBounds (o + p.2) p.1) cells
         have hg:∀ j,cells1[j]? = if o + 0 <= j /\ j < o + 0 + (a.eval x).cells.toList.length /\ j < cells.size then (a.eval x).cells.toList[j - o - 0]? else cells[j]?:=xm o _ 0 cells
         have hsz:cells1.size = cells.size:=fold_size o _ 0 cells;have key:∀ (j:Nat) (hj1:j < (cs.take o ++ xs ++ cs.drop (o + xs.length)).length) (hj2:j < cells1.toList.length),VR ρ (St ρ w) w (cs.take o ++ xs ++ cs.drop (o + xs.length))[j] cells1.toList[j] /\ cells1.toList[j].oneCell' = true:=by
          intro j hj1 hj2;have hj3:j < cells.size:=by simp at hj2; omega
          have hj4:j < cs.length:=by omega
          have e2:=hg j;simp only [Array.length_toList,Nat.add_zero,Nat.sub_zero] at e2;have e3:cells1[j]? = some cells1.toList[j]:=by simp at hj2; simp [hj2]
          rw [e3] at e2;by_cases hj:o <= j /\ j < o + xs.length
          · rw [if_pos (by omega)] at e2;have hb:j - o < (a.eval x).cells.toList.length:=by simp; omega
            rw [List.getElem?_eq_getElem hb] at e2;have e2':=Option.some.inj e2;have e1:(cs.take o ++ xs ++ cs.drop (o + xs.length))[j] = xs[j - o]'(by omega):=by
             rw [List.getElem_append_left (by simp; omega),List.getElem_append_right (by simp; omega)]
             congr 1
             simp; omega
            rw [e1,e2'];exact ⟨k1.get _ _ _,k2 _ (List.getElem_mem _)⟩
          · rw [if_neg (by omega)] at e2;rw [Array.getElem?_eq_getElem hj3] at e2;have e1:(cs.take o ++ xs ++ cs.drop (o + xs.length))[j] = cs[j]:=by
             rcases Nat.lt_or_ge j o with hlt | hge
             · rw [List.getElem_append_left (by simp; omega),List.getElem_append_left (by simp; omega)]; simp
             · rw [List.getElem_append_right (by simp; omega)];simp only [List.getElem_drop]
               congr 1
               simp; omega
            have e2':=Option.some.inj e2;have e4:cells[j] = cells.toList[j]'(by simpa using hj3):=by simp
            rw [e1,e2',e4];exact ⟨hv.get j hj4 _,h1 _ (List.getElem_mem _)⟩
         have hnext:=mU hE place l ps' _ cs' cells1 hr hf (VRs.of_get (by simp [hsz]; omega) fun j a b=>(key j a b).1) (fun u hu=>by
          obtain ⟨j,hj,rfl⟩:=List.getElem_of_mem hu;exact (key j (by simp at hj; simp; omega) hj).2)
         obtain ⟨c',f1,f2,f3⟩:=hnext;refine ⟨c',?_,f2,f3⟩;simp only [List.map_cons,Instr.fill,hp];rw [if_neg (by simpa using hstep)];have:(a.eval x).cells.zipIdx.foldl (fun cs (c,j)=>cs.setIfInBounds (o + j) c) cells = cells1:=by
          rw [← Array.foldl_toList,Array.toList_zipIdx]
         rw [this];exact f1
      · cases hf
end
end
end Go.Proofs.YtjkfknafpgfchaaGreat
