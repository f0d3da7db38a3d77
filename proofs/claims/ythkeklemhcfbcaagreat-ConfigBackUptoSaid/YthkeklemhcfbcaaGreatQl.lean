/- The reading without a bound on depth and rounds: equations, no fuel. -/
import Derived.Test.YthkeklemhcfbcaaGreatQd
set_option linter.unusedVariables false
set_option linter.unusedSimpArgs false
namespace Go.Proofs.YthkeklemhcfbcaaGreat
section
variable {α:Type}
noncomputable def limO (g:Nat -> Option α):Option α :=
 open Classical in if h:∃ x k,g k = some x then some (Classical.choose h) else none
def Mono (g:Nat -> Option α):Prop:=∀ k x,g k = some x -> g (k + 1) = some x
theorem Mono.le {g:Nat -> Option α} (hg:Mono g) {k n:Nat} {x:α} (hle:k <= n) (h:g k = some x):g n = some x:=by
 obtain ⟨d,rfl⟩:∃ d,n = k + d:=⟨n - k,by omega⟩
 clear hle
 induction d with
 | zero=>exact h
 | succ d ih=>exact hg _ _ ih
theorem limO_iff {g:Nat -> Option α} (hg:Mono g) {x:α}:limO g = some x ↔ ∃ k,g k = some x:=by
 unfold limO
 constructor
 · intro h
   split at h
   · rename_i hh
     obtain ⟨k,hk⟩:=Classical.choose_spec hh
     exact ⟨k,by rw [hk]; exact h⟩
   · cases h
 · rintro ⟨k,hk⟩
   have hh:∃ x k,g k = some x:=⟨x,k,hk⟩
   rw [dif_pos hh]
   obtain ⟨k',hk'⟩:=Classical.choose_spec hh
   have h1:=hg.le (Nat.le_max_left k k') hk
   have h2:=hg.le (Nat.le_max_right k k') hk'
   rw [h1] at h2
   exact h2.symm
theorem opt_ext {a b:Option α} (h:∀ x,a = some x ↔ b = some x):a = b:=by
 cases a with
 | none=>cases b with
  | none=>rfl
  | some y=>exact ((h y).2 rfl)
 | some x=>exact ((h x).1 rfl).symm
end
theorem opE_mono {C C':Calls'} (hC:Leq C C') {r:R} {ev:X -> V} {h:Hp} {x:V × Hp} (hm:opE C r ev h = some x):opE C' r ev h = some x:=by
 cases r with
 | call f args =>
  simp only [opE] at hm ⊢
  split at hm
  · rename_i h1; rw [if_pos h1]; exact callM_mono hC hm
  · cases hm
 | _=>exact hm
theorem opDE_mono {C C':Calls'} (hC:Leq C C') {r:R} {ev:X -> V} {h:Hp} {x:V × Hp × Tr} (hm:opDE C r ev h = some x):opDE C' r ev h = some x:=by
 cases r with
 | call f args =>
  simp only [opDE] at hm ⊢
  split at hm
  · rename_i h1
    rw [if_pos h1]
    split at hm
    · rename_i v h2 ho; rw [callM_mono hC ho]; exact hm
    · cases hm
  · cases hm
 | _=>exact hm
theorem opsA_mono {C C':Calls'} (hC:Leq C C'):∀ {os:List RO} {e:EA} {h:Hp} {x:EA × Hp},opsA C os e h = some x -> opsA C' os e h = some x
 | [],e,h,x,hm=>hm
 | o :: os,e,h,x,hm=>by
  have go:∀ {x},(match opE C o.r (X.ea e) h with
   | some (v,h')=>opsA C os (setA e o.d v) h'
   | none=>none) = some x -> (match opE C' o.r (X.ea e) h with
   | some (v,h')=>opsA C' os (setA e o.d v) h'
   | none=>none) = some x:=by
   intro x hm
   split at hm
   · rename_i v h1 ho
     rw [opE_mono hC ho]
     exact opsA_mono hC hm
   · cases hm
  simp only [opsA] at hm ⊢
  split at hm
  · exact go hm
  · split at hm
    · split at hm
      · rename_i htw
        simp only [if_pos htw]
        exact go hm
      · rename_i htw
        simp only [if_neg htw]
        exact opsA_mono hC hm
    · exact opsA_mono hC hm
    · cases hm
theorem runA_mono {C C':Calls'} (hC:Leq C C'):∀ {os:List RO} {e:EA} {h:Hp} {x:List Tr × EA × Hp},runA C os e h = some x -> runA C' os e h = some x
 | [],e,h,x,hm=>hm
 | o :: os,e,h,x,hm=>by
  have go:∀ {x},(match opDE C o.r (X.ea e) h with
   | some (v,h',t)=>match runA C os (setA e o.d v) h' with
    | some (l,e',h'')=>some (t :: l,e',h'')
    | none=>none
   | none=>none) = some x -> (match opDE C' o.r (X.ea e) h with
   | some (v,h',t)=>match runA C' os (setA e o.d v) h' with
    | some (l,e',h'')=>some (t :: l,e',h'')
    | none=>none
   | none=>none) = some x:=by
   intro x hm
   split at hm
   · rename_i v h1 t ho
     rw [opDE_mono hC ho]
     dsimp only
     split at hm
     · rename_i hr
       rw [runA_mono hC hr]
       exact hm
     · cases hm
   · cases hm
  have sk:∀ {x},(match runA C os (setA e o.d (.tup [])) h with
   | some (l,e',h'')=>some (noTr h :: l,e',h'')
   | none=>none) = some x -> (match runA C' os (setA e o.d (.tup [])) h with
   | some (l,e',h'')=>some (noTr h :: l,e',h'')
   | none=>none) = some x:=by
   intro x hm
   split at hm
   · rename_i hr
     rw [runA_mono hC hr]
     exact hm
   · cases hm
  simp only [runA] at hm ⊢
  split at hm
  · exact go hm
  · split at hm
    · split at hm
      · rename_i htw
        simp only [if_pos htw]
        exact go hm
      · rename_i htw
        simp only [if_neg htw]
        exact sk hm
    · exact sk hm
    · cases hm
theorem openA_mono {C C':Calls'} (hC:Leq C C') {pr:List (List Nat)} {os:List RO} {e:EA} {h:Hp} {x:EA × Hp} (hm:openA C pr os e h = some x):openA C' pr os e h = some x:=by
 unfold openA at hm ⊢
 split at hm
 · rename_i hr
   rw [runA_mono hC hr]
   exact hm
 · cases hm
theorem codeA_mono {C C':Calls'} (hC:Leq C C'):∀ {m n:Nat} {c:QC} {e:EA} {h:Hp} {r:Ex × EA × Hp},m <= n -> codeA C m c e h = some r -> codeA C' n c e h = some r
 | 0,n,c,e,h,r,_,hm=>by simp [codeA] at hm
 | m + 1,0,c,e,h,r,hle,hm=>by omega
 | m + 1,n + 1,c,e,h,r,hle,hm=>by
  have hle':m <= n:=by omega
  cases c with
  | skip=>exact hm
  | ret l=>exact hm
  | exit i l=>exact hm
  | reg pr os =>
   cases pr with
   | none =>
    simp only [codeA,lead] at hm ⊢
    split at hm
    · rename_i ho; rw [opsA_mono hC ho]; exact hm
    · cases hm
   | some p =>
    simp only [codeA,lead] at hm ⊢
    split at hm
    · rename_i ho; rw [openA_mono hC ho]; exact hm
    · cases hm
  | seq a b =>
   simp only [codeA,onward] at hm ⊢
   split at hm
   · rename_i e1 h1 ho
     rw [codeA_mono hC hle' ho]
     exact codeA_mono hC hle' hm
   · rename_i o hne
     rw [codeA_mono hC hle' hm]
     obtain ⟨ex,e1,h1⟩:=r
     cases ex with
     | normal=>exact absurd hm (hne _ _)
     | _=>rfl
  | cond x a b =>
   simp only [codeA,fork] at hm ⊢
   split at hm
   · exact codeA_mono hC hle' hm
   · exact codeA_mono hC hle' hm
   · cases hm
  | block i b =>
   simp only [codeA,leave] at hm ⊢
   split at hm
   · rename_i j e1 h1 ho
     rw [codeA_mono hC hle' ho]
     exact hm
   · rename_i o hne
     rw [codeA_mono hC hle' hm]
     obtain ⟨ex,e1,h1⟩:=r
     cases ex with
     | exit j=>exact absurd hm (hne _ _ _)
     | _=>rfl
  | loop keep b =>
   simp only [codeA,onward] at hm ⊢
   split at hm
   · rename_i e1 h1 ho
     rw [codeA_mono hC hle' ho]
     exact codeA_mono hC hle' hm
   · rename_i o hne
     rw [codeA_mono hC hle' hm]
     obtain ⟨ex,e1,h1⟩:=r
     cases ex with
     | normal=>exact absurd hm (hne _ _)
     | _=>rfl
theorem bodyA_mono {C C':Calls'} (hC:Leq C C') {m n:Nat} (hle:m <= n) {q:QF} {args:List V} {h:Hp} {x:V × Hp} (hm:bodyA C m q args h = some x):bodyA C' n q args h = some x:=by
 unfold bodyA done at hm ⊢
 split at hm
 · rename_i ho; rw [codeA_mono hC hle ho]; exact hm
 · rename_i ho; rw [codeA_mono hC hle ho]; exact hm
 · cases hm
theorem semA_step (E:Calls') (T:FuncId -> Option QF) (val:FuncId -> Bool):∀ k,Leq (semA E T val k) (semA E T val (k + 1))
 | 0=>fun f args h r hm=>by simp [semA] at hm
 | k + 1=>by
  have ih:=semA_step E T val k
  intro f args h r hm
  rw [semA] at hm ⊢
  dsimp only at hm ⊢
  split at hm
  · exact hm
  · rename_i q hf
    split at hm
    · rename_i hv
      simp only [hv,if_true]
      simp only [byVal] at hm ⊢
      split at hm
      · cases hm
      · rename_i as has
        split at hm
        · cases hm
        · rename_i r1 h4 hb
          rw [bodyA_mono ih (Nat.le_succ _) hb]
          exact hm
    · rename_i hv
      simp only [hv]
      simp only [byRef] at hm ⊢
      split at hm
      · cases hm
      · rename_i r1 h4 hb
        rw [bodyA_mono ih (Nat.le_succ _) hb]
        exact hm
section
variable {C:Nat -> Calls'} {L:Calls'} (hC:∀ k,Leq (C k) (C (k + 1))) (hL:∀ f args h x,L f args h = some x ↔ ∃ k,C k f args h = some x)
include hC in
theorem leqs {k n:Nat} (hle:k <= n):Leq (C k) (C n):=by
 obtain ⟨d,rfl⟩:∃ d,n = k + d:=⟨n - k,by omega⟩
 clear hle
 induction d with
 | zero=>exact Leq.refl _
 | succ d ih=>exact fun f args h r hr=>hC _ f args h r (ih f args h r hr)
include hL in
theorem opE_cont {r:R} {ev:X -> V} {h:Hp} {x:V × Hp} (hm:opE L r ev h = some x):∃ k,opE (C k) r ev h = some x:=by
 cases r with
 | call f args =>
  simp only [opE] at hm ⊢
  split at hm
  · rename_i h1
    simp only [if_pos h1]
    unfold callM at hm ⊢
    split at hm
    · exact (hL _ _ _ _).1 hm
    · exact (hL _ _ _ _).1 hm
    · cases hm
  · cases hm
 | _=>exact ⟨0,hm⟩
include hL in
theorem opDE_cont {r:R} {ev:X -> V} {h:Hp} {x:V × Hp × Tr} (hm:opDE L r ev h = some x):∃ k,opDE (C k) r ev h = some x:=by
 cases r with
 | call f args =>
  simp only [opDE] at hm ⊢
  split at hm
  · rename_i h1
    simp only [if_pos h1]
    split at hm
    · rename_i v h2 ho
      unfold callM at ho ⊢
      split at ho
      · obtain ⟨k,hk⟩:=(hL _ _ _ _).1 ho
        exact ⟨k,by simp only [hk]; exact hm⟩
      · obtain ⟨k,hk⟩:=(hL _ _ _ _).1 ho
        exact ⟨k,by simp only [hk]; exact hm⟩
      · cases ho
    · cases hm
  · cases hm
 | _=>exact ⟨0,hm⟩
include hC hL in
theorem opsA_cont:∀ {os:List RO} {e:EA} {h:Hp} {x:EA × Hp},opsA L os e h = some x -> ∃ k,opsA (C k) os e h = some x
 | [],e,h,x,hm=>⟨0,hm⟩
 | o :: os,e,h,x,hm=>by
  have go:∀ {x},(match opE L o.r (X.ea e) h with
   | some (v,h')=>opsA L os (setA e o.d v) h'
   | none=>none) = some x -> ∃ k,(match opE (C k) o.r (X.ea e) h with
   | some (v,h')=>opsA (C k) os (setA e o.d v) h'
   | none=>none) = some x:=by
   intro x hm
   split at hm
   · rename_i v h1 ho
     obtain ⟨k1,hk1⟩:=opE_cont hL ho
     obtain ⟨k2,hk2⟩:=opsA_cont hm
     refine ⟨max k1 k2,?_⟩
     rw [opE_mono (leqs hC (Nat.le_max_left k1 k2)) hk1]
     exact opsA_mono (leqs hC (Nat.le_max_right k1 k2)) hk2
   · cases hm
  simp only [opsA] at hm ⊢
  split at hm
  · exact go hm
  · split at hm
    · split at hm
      · rename_i htw
        simp only [if_pos htw]
        exact go hm
      · rename_i htw
        simp only [if_neg htw]
        exact opsA_cont hm
    · exact opsA_cont hm
    · cases hm
include hC hL in
theorem runA_cont:∀ {os:List RO} {e:EA} {h:Hp} {x:List Tr × EA × Hp},runA L os e h = some x -> ∃ k,runA (C k) os e h = some x
 | [],e,h,x,hm=>⟨0,hm⟩
 | o :: os,e,h,x,hm=>by
  have go:∀ {x},(match opDE L o.r (X.ea e) h with
   | some (v,h',t)=>match runA L os (setA e o.d v) h' with
    | some (l,e',h'')=>some (t :: l,e',h'')
    | none=>none
   | none=>none) = some x -> ∃ k,(match opDE (C k) o.r (X.ea e) h with
   | some (v,h',t)=>match runA (C k) os (setA e o.d v) h' with
    | some (l,e',h'')=>some (t :: l,e',h'')
    | none=>none
   | none=>none) = some x:=by
   intro x hm
   split at hm
   · rename_i v h1 t ho
     obtain ⟨k1,hk1⟩:=opDE_cont hL ho
     split at hm
     · rename_i hr
       obtain ⟨k2,hk2⟩:=runA_cont hr
       refine ⟨max k1 k2,?_⟩
       rw [opDE_mono (leqs hC (Nat.le_max_left k1 k2)) hk1]
       dsimp only
       rw [runA_mono (leqs hC (Nat.le_max_right k1 k2)) hk2]
       exact hm
     · cases hm
   · cases hm
  have sk:∀ {x},(match runA L os (setA e o.d (.tup [])) h with
   | some (l,e',h'')=>some (noTr h :: l,e',h'')
   | none=>none) = some x -> ∃ k,(match runA (C k) os (setA e o.d (.tup [])) h with
   | some (l,e',h'')=>some (noTr h :: l,e',h'')
   | none=>none) = some x:=by
   intro x hm
   split at hm
   · rename_i hr
     obtain ⟨k2,hk2⟩:=runA_cont hr
     exact ⟨k2,by rw [hk2]; exact hm⟩
   · cases hm
  simp only [runA] at hm ⊢
  split at hm
  · exact go hm
  · split at hm
    · split at hm
      · rename_i htw
        simp only [if_pos htw]
        exact go hm
      · rename_i htw
        simp only [if_neg htw]
        exact sk hm
    · exact sk hm
    · cases hm
end
section
variable (E:Calls') (T:FuncId -> Option QF) (val:FuncId -> Bool)
noncomputable def Sm:Calls':=fun f args h=>limO fun k=>semA E T val k f args h
noncomputable def Cd (c:QC) (e:EA) (h:Hp):OutA:=limO fun k=>codeA (semA E T val k) k c e h
noncomputable def Bd (q:QF) (args:List V) (h:Hp):Option (V × Hp):=done q (Cd E T val q.code (argsA 0 args) h)
variable {E T val}
theorem Sm_iff {f:FuncId} {args:List V} {h:Hp} {x:V × Hp}:Sm E T val f args h = some x ↔ ∃ k,semA E T val k f args h = some x :=
 limO_iff fun k x hx=>semA_step E T val k f args h x hx
theorem Cd_iff {c:QC} {e:EA} {h:Hp} {x:Ex × EA × Hp}:Cd E T val c e h = some x ↔ ∃ k,codeA (semA E T val k) k c e h = some x :=
 limO_iff fun k x hx=>codeA_mono (semA_step E T val k) (Nat.le_succ k) hx
theorem sems {k n:Nat} (hle:k <= n):Leq (semA E T val k) (semA E T val n):=leqs (semA_step E T val) hle
theorem sem_Sm {k:Nat}:Leq (semA E T val k) (Sm E T val):=fun f args h r hr=>Sm_iff.2 ⟨k,hr⟩
theorem code_Cd {k n:Nat} {c:QC} {e:EA} {h:Hp} {x:Ex × EA × Hp} (hx:codeA (semA E T val k) n c e h = some x):Cd E T val c e h = some x :=
 Cd_iff.2 ⟨max k n,codeA_mono (sems (Nat.le_max_left _ _)) (Nat.le_max_right _ _) hx⟩
theorem Cd_skip {e:EA} {h:Hp}:Cd E T val .skip e h = some (.normal,e,h):=Cd_iff.2 ⟨1,rfl⟩
theorem Cd_ret {l:List Nat} {e:EA} {h:Hp}:Cd E T val (.ret l) e h = some (.ret,keepA l e,h):=Cd_iff.2 ⟨1,rfl⟩
theorem Cd_exit {i:Nat} {l:List Nat} {e:EA} {h:Hp}:Cd E T val (.exit i l) e h = some (.exit i,keepA l e,h):=Cd_iff.2 ⟨1,rfl⟩
theorem Cd_reg {os:List RO} {e:EA} {h:Hp}:Cd E T val (.reg none os) e h = lead (opsA (Sm E T val) os e h):=by
 refine opt_ext fun x=>?_
 rw [Cd_iff]
 constructor
 · rintro ⟨k,hk⟩
   cases k with
   | zero=>simp [codeA] at hk
   | succ k =>
    simp only [codeA,lead] at hk
    split at hk
    · rename_i ho; rw [opsA_mono sem_Sm ho]; exact hk
    · cases hk
 · intro hx
   unfold lead at hx
   split at hx
   · rename_i ho
     obtain ⟨k,hk⟩:=opsA_cont (semA_step E T val) (fun _ _ _ _=>Sm_iff) ho
     refine ⟨k + 1,?_⟩
     simp only [codeA,lead]
     rw [opsA_mono (semA_step E T val k) hk]
     exact hx
   · cases hx
theorem Cd_open {pr:List (List Nat)} {os:List RO} {e:EA} {h:Hp}:Cd E T val (.reg (some pr) os) e h = lead (openA (Sm E T val) pr os e h):=by
 refine opt_ext fun x=>?_
 rw [Cd_iff]
 constructor
 · rintro ⟨k,hk⟩
   cases k with
   | zero=>simp [codeA] at hk
   | succ k =>
    simp only [codeA,lead] at hk
    split at hk
    · rename_i ho; rw [openA_mono sem_Sm ho]; exact hk
    · cases hk
 · intro hx
   unfold lead openA at hx
   split at hx
   · rename_i ho
     split at ho
     · rename_i l e1 h1 hr
       obtain ⟨k,hk⟩:=runA_cont (semA_step E T val) (fun _ _ _ _=>Sm_iff) hr
       refine ⟨k + 1,?_⟩
       simp only [codeA,lead,openA]
       rw [runA_mono (semA_step E T val k) hk]
       dsimp only
       rw [ho]
       exact hx
     · cases ho
   · cases hx
theorem Cd_seq {a b:QC} {e:EA} {h:Hp}:Cd E T val (.seq a b) e h = onward (Cd E T val a e h) fun e h=>Cd E T val b e h:=by
 refine opt_ext fun x=>?_
 rw [Cd_iff]
 constructor
 · rintro ⟨k,hk⟩
   cases k with
   | zero=>simp [codeA] at hk
   | succ k =>
    simp only [codeA,onward] at hk
    split at hk
    · rename_i ho; rw [code_Cd ho]; exact code_Cd hk
    · rename_i o hne
      rw [code_Cd hk]
      obtain ⟨ex,e1,h1⟩:=x
      cases ex with
      | normal=>exact absurd hk (hne _ _)
      | _=>rfl
 · intro hx
   unfold onward at hx
   split at hx
   · rename_i ho
     obtain ⟨k1,hk1⟩:=Cd_iff.1 ho
     obtain ⟨k2,hk2⟩:=Cd_iff.1 hx
     refine ⟨max k1 k2 + 1,?_⟩
     simp only [codeA,onward]
     rw [codeA_mono (sems (by omega)) (Nat.le_max_left k1 k2) hk1]
     exact codeA_mono (sems (by omega)) (Nat.le_max_right k1 k2) hk2
   · rename_i o hne
     obtain ⟨k1,hk1⟩:=Cd_iff.1 hx
     refine ⟨k1 + 1,?_⟩
     simp only [codeA,onward]
     rw [codeA_mono (sems (by omega)) (Nat.le_refl k1) hk1]
     obtain ⟨ex,e1,h1⟩:=x
     cases ex with
     | normal=>exact absurd hx (hne _ _)
     | _=>rfl
theorem Cd_cond {c:X} {a b:QC} {e:EA} {h:Hp}:Cd E T val (.cond c a b) e h = fork (c.ea e) (Cd E T val a e h) (Cd E T val b e h):=by
 refine opt_ext fun x=>?_
 rw [Cd_iff]
 constructor
 · rintro ⟨k,hk⟩
   cases k with
   | zero=>simp [codeA] at hk
   | succ k =>
    simp only [codeA,fork] at hk ⊢
    split at hk
    · exact code_Cd hk
    · exact code_Cd hk
    · cases hk
 · intro hx
   unfold fork at hx
   split at hx
   · rename_i hc
     obtain ⟨k1,hk1⟩:=Cd_iff.1 hx
     exact ⟨k1 + 1,by simp only [codeA,fork,hc]; exact codeA_mono (sems (by omega)) (Nat.le_refl k1) hk1⟩
   · rename_i hc
     obtain ⟨k1,hk1⟩:=Cd_iff.1 hx
     exact ⟨k1 + 1,by simp only [codeA,fork,hc]; exact codeA_mono (sems (by omega)) (Nat.le_refl k1) hk1⟩
   · cases hx
theorem Cd_block {i:Nat} {b:QC} {e:EA} {h:Hp}:Cd E T val (.block i b) e h = leave i (Cd E T val b e h):=by
 refine opt_ext fun x=>?_
 rw [Cd_iff]
 constructor
 · rintro ⟨k,hk⟩
   cases k with
   | zero=>simp [codeA] at hk
   | succ k =>
    simp only [codeA,leave] at hk
    split at hk
    · rename_i ho; rw [code_Cd ho]; exact hk
    · rename_i o hne
      rw [code_Cd hk]
      obtain ⟨ex,e1,h1⟩:=x
      cases ex with
      | exit j=>exact absurd hk (hne _ _ _)
      | _=>rfl
 · intro hx
   unfold leave at hx
   split at hx
   · rename_i ho
     obtain ⟨k1,hk1⟩:=Cd_iff.1 ho
     refine ⟨k1 + 1,?_⟩
     simp only [codeA,leave]
     rw [codeA_mono (sems (by omega)) (Nat.le_refl k1) hk1]
     exact hx
   · rename_i o hne
     obtain ⟨k1,hk1⟩:=Cd_iff.1 hx
     refine ⟨k1 + 1,?_⟩
     simp only [codeA,leave]
     rw [codeA_mono (sems (by omega)) (Nat.le_refl k1) hk1]
     obtain ⟨ex,e1,h1⟩:=x
     cases ex with
     | exit j=>exact absurd hx (hne _ _ _)
     | _=>rfl
theorem Cd_loop {l:List Nat} {b:QC} {e:EA} {h:Hp}:Cd E T val (.loop l b) e h = onward (Cd E T val b (keepA l e) h) fun e h=>Cd E T val (.loop l b) e h:=by
 refine opt_ext fun x=>?_
 rw [Cd_iff]
 constructor
 · rintro ⟨k,hk⟩
   cases k with
   | zero=>simp [codeA] at hk
   | succ k =>
    simp only [codeA,onward] at hk
    split at hk
    · rename_i ho; rw [code_Cd ho]; exact code_Cd hk
    · rename_i o hne
      rw [code_Cd hk]
      obtain ⟨ex,e1,h1⟩:=x
      cases ex with
      | normal=>exact absurd hk (hne _ _)
      | _=>rfl
 · intro hx
   unfold onward at hx
   split at hx
   · rename_i ho
     obtain ⟨k1,hk1⟩:=Cd_iff.1 ho
     obtain ⟨k2,hk2⟩:=Cd_iff.1 hx
     refine ⟨max k1 k2 + 1,?_⟩
     simp only [codeA,onward]
     rw [codeA_mono (sems (by omega)) (Nat.le_max_left k1 k2) hk1]
     exact codeA_mono (sems (by omega)) (Nat.le_max_right k1 k2) hk2
   · rename_i o hne
     obtain ⟨k1,hk1⟩:=Cd_iff.1 hx
     refine ⟨k1 + 1,?_⟩
     simp only [codeA,onward]
     rw [codeA_mono (sems (by omega)) (Nat.le_refl k1) hk1]
     obtain ⟨ex,e1,h1⟩:=x
     cases ex with
     | normal=>exact absurd hx (hne _ _)
     | _=>rfl
theorem keep_keep (l:List Nat) (e:EA):keepA l (keepA l e) = keepA l e:=by
 have:∀ m:List Nat,(∀ i ∈ m,i ∈ l) -> m.map (fun i=>(i,(keepA l e).get i)) = m.map fun i=>(i,e.get i):=by
  intro m hm
  apply List.map_congr_left
  intro i hi
  rw [keep_get,if_pos (hm i hi)]
 exact this l fun i hi=>hi
theorem Cd_keep {l:List Nat} {b:QC} {e:EA} {h:Hp}:Cd E T val (.loop l b) e h = Cd E T val (.loop l b) (keepA l e) h:=by
 rw [Cd_loop (e:=e),Cd_loop (e:=keepA l e),keep_keep]
theorem Bd_iff {q:QF} {args:List V} {h:Hp} {x:V × Hp}:Bd E T val q args h = some x ↔ ∃ k,bodyA (semA E T val k) k q args h = some x:=by
 unfold Bd bodyA
 constructor
 · intro hx
   unfold done at hx
   split at hx
   · rename_i ho
     obtain ⟨k,hk⟩:=Cd_iff.1 ho
     exact ⟨k,by rw [hk]; exact hx⟩
   · rename_i ho
     obtain ⟨k,hk⟩:=Cd_iff.1 ho
     exact ⟨k,by rw [hk]; exact hx⟩
   · cases hx
 · rintro ⟨k,hx⟩
   unfold done at hx
   split at hx
   · rename_i ho; rw [code_Cd ho]; exact hx
   · rename_i ho; rw [code_Cd ho]; exact hx
   · cases hx
theorem Sm_val {f:FuncId} {q:QF} (hf:T f = some q) (hv:val f = true) {args:List V} {h:Hp}:Sm E T val f args h = byVal args h (args.mapM (frz h)) fun as=>Bd E T val q as ⟨[],0⟩:=by
 refine opt_ext fun x=>?_
 rw [Sm_iff]
 constructor
 · rintro ⟨k,hk⟩
   cases k with
   | zero=>simp [semA] at hk
   | succ k =>
    simp only [semA,hf,hv,if_true,byVal] at hk ⊢
    split at hk
    · cases hk
    · rename_i as has
      split at hk
      · cases hk
      · rename_i r1 h4 hb
        simp only [has,Bd_iff.2 ⟨k,hb⟩]
        exact hk
 · intro hx
   simp only [byVal] at hx
   split at hx
   · cases hx
   · rename_i as has
     split at hx
     · cases hx
     · rename_i r1 h4 hb
       obtain ⟨k,hk⟩:=Bd_iff.1 hb
       refine ⟨k + 1,?_⟩
       simp only [semA,hf,hv,if_true,byVal,has,hk]
       exact hx
theorem Sm_ref {f:FuncId} {q:QF} (hf:T f = some q) (hv:val f = false) {args:List V} {h:Hp}:Sm E T val f args h = byRef h (Bd E T val q args ⟨h.bs,h.bs.length⟩):=by
 refine opt_ext fun x=>?_
 rw [Sm_iff]
 constructor
 · rintro ⟨k,hk⟩
   cases k with
   | zero=>simp [semA] at hk
   | succ k =>
    simp only [semA,hf,hv,Bool.false_eq_true,if_false,byRef] at hk ⊢
    split at hk
    · cases hk
    · rename_i r1 h4 hb
      simp only [Bd_iff.2 ⟨k,hb⟩]
      exact hk
 · intro hx
   simp only [byRef] at hx
   split at hx
   · cases hx
   · rename_i r1 h4 hb
     obtain ⟨k,hk⟩:=Bd_iff.1 hb
     refine ⟨k + 1,?_⟩
     simp only [semA,hf,hv,Bool.false_eq_true,if_false,byRef,hk]
     exact hx
theorem Sm_ext {f:FuncId} (hf:T f = none) {args:List V} {h:Hp}:Sm E T val f args h = E f args h:=by
 refine opt_ext fun x=>?_
 rw [Sm_iff]
 constructor
 · rintro ⟨k,hk⟩
   cases k with
   | zero=>simp [semA] at hk
   | succ k=>simp only [semA,hf] at hk; exact hk
 · intro hx
   exact ⟨1,by simp only [semA,hf]; exact hx⟩
theorem Sm_ok {P:Program} (hmix:P.follows .mixedOrders = true) (hE:CallsOk P E) (hT:TabA P T):CallsOk P (Sm E T val):=by
 intro f args h r h' hm
 obtain ⟨k,hk⟩:=Sm_iff.1 hm
 exact semA_ok hmix hE hT val k f args h r h' hk
end
end Go.Proofs.YthkeklemhcfbcaaGreat
