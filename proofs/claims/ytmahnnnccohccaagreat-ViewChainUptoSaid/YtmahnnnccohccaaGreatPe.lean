/- Comparisons. -/
import Derived.Test.YtmahnnnccohccaaGreatPo
import Derived.Laws.StructEq
import Derived.Laws.Pointers
import Derived.Laws.Cover3
set_option linter.unusedVariables false
namespace Go.Proofs.YtmahnnnccohccaaGreat
open Go.RowKit
variable {P:Program}
theorem szOf_some {t:TypeId} {n:Nat} (h:szOf P t = some n):∃ i,P.info? t = some i /\ i.size = n:=by
 simpa [szOf,Option.map_eq_some_iff] using h
theorem run_sizeOf {t:TypeId} {n:Nat} (h:szOf P t = some n) (w:World):(sizeOf t).run P w = .ok n w:=by
 obtain ⟨i,h1,h2⟩:=szOf_some h
 simp [sizeOf,typeInfo,h1,h2]
theorem run_isAgg {t:TypeId} {b:Bool} (h:aggOf P t = some b) (w:World):(isAgg t).run P w = .ok b w:=by
 unfold aggOf at h
 cases hu:P.underlying t with
 | none=>simp [hu] at h
 | some k =>
  simp only [hu] at h
  cases k <;> simp at h <;> subst h <;> simp [isAgg,run_underlying hu]
def ofCells (ag:Bool) (cs:List Value):Value:=if ag then .agg cs.toArray else cs.headD undef
theorem run_part {t:TypeId} {ag:Bool} {n:Nat} (h:aggOf P t = some ag) (hs:szOf P t = some n) (h1:ag = false -> n = 1) (arr:Array Value) (off:Nat) (hl:off + n <= arr.size) (w:World) :
 (part t arr off).run P w = .ok (ofCells ag ((arr.toList.drop off).take n)) w:=by
 cases ag with
 | true =>
  simp [part,run_isAgg h,run_sizeOf hs,ofCells]
  apply Array.ext'
  simp [Array.toList_extract]
 | false =>
  have:=h1 rfl
  subst this
  have hlt:off < arr.size:=by omega
  simp [part,run_isAgg h,ofCells,hlt]
  have:(List.drop off arr.toList) = arr[off] :: List.drop (off + 1) arr.toList:=by
   rw [List.drop_eq_getElem_cons (by simpa using hlt)]; simp
  rw [this]; simp
theorem cellsEq_length:∀ {ks:List EK} {xs ys:List V} {b:Bool},cellsEq ks xs ys = some b -> xs.length = ks.length /\ ys.length = ks.length
 | [],[],[],_,_=>by simp
 | [],_ :: _,_,_,h=>by simp [cellsEq] at h
 | [],[],_ :: _,_,h=>by simp [cellsEq] at h
 | k :: ks,[],_,_,h=>by simp [cellsEq] at h
 | k :: ks,x :: xs,[],_,h=>by cases x <;> simp [cellsEq] at h
 | k :: ks,x :: xs,y :: ys,b,h=>by
  cases x <;> cases y <;> simp only [cellsEq] at h <;> try (cases h; done)
  rename_i a c
  cases h1:scEq k a c with
  | none=>simp [h1] at h
  | some r=>cases h2:cellsEq ks xs ys with
   | none=>simp [h1,h2] at h
   | some t =>
    have:=cellsEq_length h2
    simp [this]
theorem cellsEq_append:∀ {k1 k2:List EK} {xs ys:List V} {b:Bool},cellsEq (k1 ++ k2) xs ys = some b →
 ∃ b1 b2,cellsEq k1 (xs.take k1.length) (ys.take k1.length) = some b1 /\ cellsEq k2 (xs.drop k1.length) (ys.drop k1.length) = some b2 /\ b = (b1 && b2)
 | [],k2,xs,ys,b,h=>⟨true,b,by simp [cellsEq],by simpa using h,by simp⟩
 | k :: k1,k2,xs,ys,b,h=>by
  match xs,ys,h with
  | [],_,h=>simp [cellsEq] at h
  | x :: xs,[],h=>cases x <;> simp [cellsEq] at h
  | x :: xs,y :: ys,h =>
   cases x <;> cases y <;> simp only [List.cons_append,cellsEq] at h <;> try (cases h; done)
   rename_i a c
   cases h1:scEq k a c with
   | none=>simp [h1] at h
   | some r=>cases h2:cellsEq (k1 ++ k2) xs ys with
    | none=>simp [h1,h2] at h
    | some t =>
     simp [h1,h2] at h
     obtain ⟨b1,b2,e1,e2,e3⟩:=cellsEq_append h2
     refine ⟨r && b1,b2,by simp [cellsEq,h1,e1],by simpa using e2,by rw [← h,e3,Bool.and_assoc]⟩
theorem eqKinds_agg {n:Nat} {t:TypeId} {ks:List EK} (h:eqKinds P n t = some ks):∃ ag,aggOf P t = some ag /\ (ag = false -> ks.length = 1):=by
 cases n with
 | zero=>simp [eqKinds] at h
 | succ n =>
  unfold eqKinds at h
  cases hu:P.underlying t with
  | none=>simp [hu] at h
  | some k=>cases k <;> simp [hu] at h <;> simp [aggOf,hu] <;> first | (subst h; rfl) | skip
section
variable {ρ:Rh} {S:Nat -> Prop} {w:World}
theorem sc_run {t:TypeId} {k:EK} {x y:D} {u v:Value} {b:Bool} (D:Nat) (hk:(match k with | .b=>P.underlying t = some .bool | .i q=>P.underlying t = some (.int q) | .s=>P.underlying t = some .string))
 (hx:DR S w x u) (hy:DR S w y v) (he:scEq k x y = some b):(Op.equalIn (D + 1) t u v).run P w = .ok b w:=by
 cases k <;> cases x <;> cases y <;> simp only [scEq] at he <;> try (cases he; done)
 · simp only [DR] at hx hy; subst hx hy; cases he
   exact run_equalIn_bool' w D t _ _ hk
 · simp only [DR] at hx hy; subst hx hy
   split at he
   · rename_i q _ a _ c hh
     obtain ⟨rfl,rfl⟩:=hh
     cases he
     exact run_equalIn_int w D t _ _ _ _ hk
   · cases he
 · simp only [DR] at hx hy; subst hx hy; cases he
   exact run_equalIn_string w D t _ _ hk
mutual
theorem eq_run:∀ (m:Nat) {t:TypeId} {ks:List EK} {ag:Bool} {xs ys:List V} {us vs:List Value} {b:Bool} (D:Nat),m <= D -> eqKinds P m t = some ks -> aggOf P t = some ag -> VRs ρ S w xs us -> VRs ρ S w ys vs -> cellsEq ks xs ys = some b →
 (Op.equalIn D t (ofCells ag us) (ofCells ag vs)).run P w = .ok b w
 | 0,t,ks,ag,xs,ys,us,vs,b,D,_,h,_,_,_,_=>by simp [eqKinds] at h
 | m + 1,t,ks,ag,xs,ys,us,vs,b,D,hD,h,ha,hx,hy,he=>by
  obtain ⟨D,rfl⟩:∃ D',D = D' + 1:=⟨D - 1,by omega⟩
  have h0:=h
  unfold eqKinds at h
  have scal:∀ k,ks = [k] -> (match k with | .b=>P.underlying t = some .bool | .i q=>P.underlying t = some (.int q) | .s=>P.underlying t = some .string) -> ag = false -> (Op.equalIn (D + 1) t (ofCells ag us) (ofCells ag vs)).run P w = .ok b w:=by
   intro k hk hku hag
   subst hk hag
   match xs,ys,cellsEq_length he with
   | [x],[y],hl =>
    clear hl
    simp only [VRs] at hx hy
    obtain ⟨u,_,rfl,hu,rfl⟩:=hx
    obtain ⟨v,_,rfl,hv,rfl⟩:=hy
    cases x <;> cases y <;> simp only [cellsEq] at he <;> try (cases he; done)
    rename_i a c
    cases h1:scEq k a c with
    | none=>simp [h1] at he
    | some r =>
     simp [h1] at he
     subst he
     simp only [VR] at hu hv
     simpa [ofCells] using sc_run D hku hu hv h1
  cases hu:P.underlying t with
  | none=>simp [hu] at h
  | some k =>
   cases k <;> simp only [hu] at h <;> try (cases h; done)
   · simp [aggOf,hu] at ha; cases h; exact scal _ rfl hu (by simpa using ha)
   · simp [aggOf,hu] at ha; cases h; exact scal _ rfl hu (by simpa using ha)
   · simp [aggOf,hu] at ha; cases h; exact scal _ rfl hu (by simpa using ha)
   · rename_i fs
     simp [aggOf,hu] at ha
     subst ha
     split at h
     · cases h
     · rename_i hst
       have hfs:P.fieldsOf t = fs:=by simp [Program.fieldsOf,hu]
       have:=run_equalIn_struct (P:=P) w D t us.toArray vs.toArray (by rw [hfs]; exact hu) (by simpa using hst)
       simp only [ofCells,if_true]
       rw [this,hfs]
       exact eqF_run m D (by omega) h (by simpa using hx) (by simpa using hy) (by simpa using he) (by simp [hx.length,(cellsEq_length he).1]) (by simp [hy.length,(cellsEq_length he).2])
theorem eqF_run:∀ (m:Nat) {fs:List Field} {off:Nat} {ks:List EK} {xs ys:List V} {us vs:Array Value} {b:Bool} (D:Nat),m <= D -> eqFieldKinds P m fs off = some ks -> VRs ρ S w xs us.toList -> VRs ρ S w ys vs.toList -> cellsEq ks (xs.drop off) (ys.drop off) = some b →
 off + ks.length = us.size -> off + ks.length = vs.size -> (Op.eqFields D us vs fs).run P w = .ok b w
 | m,[],off,ks,xs,ys,us,vs,b,D,hD,h,hx,hy,he,l1,l2=>by
  have:ks = []:=by cases m <;> simp [eqFieldKinds] at h <;> exact h
  subst this
  have hl:=cellsEq_length he
  have e1:=List.eq_nil_of_length_eq_zero hl.1
  have e2:=List.eq_nil_of_length_eq_zero hl.2
  rw [e1,e2] at he
  simp [cellsEq] at he
  subst he
  rfl
 | 0,f :: fs,off,ks,xs,ys,us,vs,b,D,hD,h,hx,hy,he,l1,l2=>by simp [eqFieldKinds] at h
 | m + 1,f :: fs,off,ks,xs,ys,us,vs,b,D,hD,h,hx,hy,he,l1,l2=>by
  unfold eqFieldKinds at h
  split at h
  · rename_i hf
    obtain ⟨ho,hname⟩:=hf
    cases hk:eqKinds P m f.type with
    | none=>simp [hk] at h
    | some k1 =>
     simp only [hk] at h
     split at h
     · rename_i hsz
       cases hr:eqFieldKinds P m fs (off + k1.length) with
       | none=>simp [hr] at h
       | some k2 =>
        simp only [hr,Option.some.injEq] at h
        subst h
        obtain ⟨b1,b2,c1,c2,rfl⟩:=cellsEq_append he
        obtain ⟨ag,ha,ha1⟩:=eqKinds_agg hk
        have hl:=cellsEq_length he
        simp only [List.length_append,List.length_drop] at hl l1 l2
        have p1:=run_part (P:=P) ha hsz ha1 us off (by omega) w
        have p2:=run_part (P:=P) ha hsz ha1 vs off (by omega) w
        have e1:=eq_run m D (by omega) hk ha ((hx.drop off).take k1.length) ((hy.drop off).take k1.length) c1
        have e2:=eqF_run m D (by omega) hr hx hy (by simpa [List.drop_drop] using c2) (by omega) (by omega)
        rw [← ho] at p1 p2
        simp only [Op.eqFields,hname,ne_eq,not_false_eq_true,if_true,Sem.run_bind]
        rw [p1]
        simp only [Result.andThen_ok]
        rw [p2]
        simp only [Result.andThen_ok]
        rw [ho,e1]
        simp only [Result.andThen_ok]
        cases b1
        · simp
        · simpa using e2
     · cases h
  · cases h
end
end
end Go.Proofs.YtmahnnnccohccaaGreat
