/- The reading without a bound on depth and rounds: equations, no fuel. -/
import Derived.Test.YtjkfknafpgfchaaGreatQd
set_option linter.unusedVariables false
set_option linter.unusedSimpArgs false
namespace Go.Proofs.YtjkfknafpgfchaaGreat
section
variable {α:Type}
noncomputable def KS (g:Nat -> Option α):Option α :=
 open Classical in if h:∃ x k,g k = some x then some (Classical.choose h) else none
def Mono (g:Nat -> Option α):Prop:=∀ k x,g k = some x -> g (k + 1) = some x
theorem Mono.le {g:Nat -> Option α} (hg:Mono g) {k n:Nat} {x:α} (hle:k <= n) (h:g k = some x):g n = some x:=by
 obtain ⟨d,rfl⟩:∃ d,n = k + d:=⟨n - k,by omega⟩;clear hle
 induction d with
 | zero=>exact h
 | succ d ih=>exact hg _ _ ih
theorem xG {g:Nat -> Option α} (hg:Mono g) {x:α}:KS g = some x ↔ ∃ k,g k = some x:=by
 unfold KS;constructor
 · intro h;split at h
   · rename_i hh;obtain ⟨k,hk⟩:=Classical.choose_spec hh;exact ⟨k,by rw [hk]; exact h⟩
   · cases h
 · rintro ⟨k,hk⟩;have hh:∃ x k,g k = some x:=⟨x,k,hk⟩;rw [dif_pos hh];obtain ⟨k',hk'⟩:=Classical.choose_spec hh;have h1:=hg.le (Nat.le_max_left k k') hk;have h2:=hg.le (Nat.le_max_right k k') hk';rw [h1] at h2;exact h2.symm
theorem iK {a b:Option α} (h:∀ x,a = some x ↔ b = some x):a = b:=by
 cases a with
 | none=>cases b with
  | none=>rfl
  | some y=>exact ((h y).2 rfl)
 | some x=>exact ((h x).1 rfl).symm
end
theorem xQ {C C':Calls'} (hC:Leq C C') {r:R} {ev:X -> V} {h:Hp} {x:V × Hp} (hm:opE C r ev h = some x):opE C' r ev h = some x:=by
 cases r with
 | call f args =>
  simp only [opE] at hm ⊢;split at hm
  · rename_i h1; rw [if_pos h1]; exact mR hC hm
  · cases hm
 | _=>exact hm
theorem uB {C C':Calls'} (hC:Leq C C') {r:R} {ev:X -> V} {h:Hp} {x:V × Hp × Tr} (hm:bN C r ev h = some x):bN C' r ev h = some x:=by
 cases r with
 | call f args =>
  simp only [bN] at hm ⊢;split at hm
  · rename_i h1;rw [if_pos h1];split at hm
    · rename_i v h2 ho; rw [mR hC ho]; exact hm
    · cases hm
  · cases hm
 | _=>exact hm
theorem gH {C C':Calls'} (hC:Leq C C'):∀ {os:List RO} {e:EA} {h:Hp} {x:EA × Hp},eX C os e h = some x -> eX C' os e h = some x
 | [],e,h,x,hm=>hm
 | o :: os,e,h,x,hm=>by
  have go:∀ {x},(match opE C o.r (X.ea e) h with
   | some (v,h')=>eX C os (bI e o.d v) h'
   | none=>none) = some x -> (match opE C' o.r (X.ea e) h with
   | some (v,h')=>eX C' os (bI e o.d v) h'
   | none=>none) = some x:=by
   intro x hm;split at hm
   · rename_i v h1 ho;rw [xQ hC ho];exact gH hC hm
   · cases hm
  simp only [eX] at hm ⊢;split at hm
  · exact go hm
  · split at hm
    · split at hm
      · rename_i htw;simp only [if_pos htw];exact go hm
      · rename_i htw;simp only [if_neg htw];exact gH hC hm
    · exact gH hC hm
    · cases hm
theorem jQ {C C':Calls'} (hC:Leq C C'):∀ {os:List RO} {e:EA} {h:Hp} {x:List Tr × EA × Hp},d9 C os e h = some x -> d9 C' os e h = some x
 | [],e,h,x,hm=>hm
 | o :: os,e,h,x,hm=>by
  have go:∀ {x},(match bN C o.r (X.ea e) h with
   | some (v,h',t)=>match d9 C os (bI e o.d v) h' with
    | some (l,e',h'')=>some (t :: l,e',h'')
    | none=>none
   | none=>none) = some x -> (match bN C' o.r (X.ea e) h with
   | some (v,h',t)=>match d9 C' os (bI e o.d v) h' with
    | some (l,e',h'')=>some (t :: l,e',h'')
    | none=>none
   | none=>none) = some x:=by
   intro x hm;split at hm
   · rename_i v h1 t ho;rw [uB hC ho];dsimp only;split at hm
     · rename_i hr;rw [jQ hC hr];exact hm
     · cases hm
   · cases hm
  have sk:∀ {x},(match d9 C os (bI e o.d (.tup [])) h with
   | some (l,e',h'')=>some (aV h :: l,e',h'')
   | none=>none) = some x -> (match d9 C' os (bI e o.d (.tup [])) h with
   | some (l,e',h'')=>some (aV h :: l,e',h'')
   | none=>none) = some x:=by
   intro x hm;split at hm
   · rename_i hr;rw [jQ hC hr];exact hm
   · cases hm
  simp only [d9] at hm ⊢;split at hm
  · exact go hm
  · split at hm
    · split at hm
      · rename_i htw;simp only [if_pos htw];exact go hm
      · rename_i htw;simp only [if_neg htw];exact sk hm
    · exact sk hm
    · cases hm
theorem sU {C C':Calls'} (hC:Leq C C') {pr:List (List Nat)} {os:List RO} {e:EA} {h:Hp} {x:EA × Hp} (hm:aN C pr os e h = some x):aN C' pr os e h = some x:=by
 unfold aN at hm ⊢;split at hm
 · rename_i hr;rw [jQ hC hr];exact hm
 · cases hm
theorem aQ {C C':Calls'} (hC:Leq C C'):∀ {m n:Nat} {c:QC} {e:EA} {h:Hp} {r:Ex × EA × Hp},m <= n -> aO C m c e h = some r -> aO C' n c e h = some r
 | 0,n,c,e,h,r,_,hm=>by simp [aO] at hm
 | m + 1,0,c,e,h,r,hle,hm=>by omega
 | m + 1,n + 1,c,e,h,r,hle,hm=>by
  have hle':m <= n:=by omega
  cases c with
  | skip=>exact hm
  | ret l=>exact hm
  | exit i l=>exact hm
  | reg pr os =>
   cases pr with
   | none =>
    simp only [aO,lead] at hm ⊢;split at hm
    · rename_i ho; rw [gH hC ho]; exact hm
    · cases hm
   | some p =>
    simp only [aO,lead] at hm ⊢;split at hm
    · rename_i ho; rw [sU hC ho]; exact hm
    · cases hm
  | seq a b =>
   simp only [aO,bY] at hm ⊢;split at hm
   · rename_i e1 h1 ho;rw [aQ hC hle' ho];exact aQ hC hle' hm
   · rename_i o hne;rw [aQ hC hle' hm];obtain ⟨ex,e1,h1⟩:=r;cases ex with
     | normal=>exact absurd hm (hne _ _)
     | _=>rfl
  | cond x a b =>
   simp only [aO,fork] at hm ⊢;split at hm
   · exact aQ hC hle' hm
   · exact aQ hC hle' hm
   · cases hm
  | block i b =>
   simp only [aO,leave] at hm ⊢;split at hm
   · rename_i j e1 h1 ho;rw [aQ hC hle' ho];exact hm
   · rename_i o hne;rw [aQ hC hle' hm];obtain ⟨ex,e1,h1⟩:=r;cases ex with
     | exit j=>exact absurd hm (hne _ _ _)
     | _=>rfl
  | loop keep b =>
   simp only [aO,bY] at hm ⊢;split at hm
   · rename_i e1 h1 ho;rw [aQ hC hle' ho];exact aQ hC hle' hm
   · rename_i o hne;rw [aQ hC hle' hm];obtain ⟨ex,e1,h1⟩:=r;cases ex with
     | normal=>exact absurd hm (hne _ _)
     | _=>rfl
theorem rG {C C':Calls'} (hC:Leq C C') {m n:Nat} (hle:m <= n) {q:QF} {args:List V} {h:Hp} {x:V × Hp} (hm:iB C m q args h = some x):iB C' n q args h = some x:=by
 unfold iB done at hm ⊢;split at hm
 · rename_i ho; rw [aQ hC hle ho]; exact hm
 · rename_i ho; rw [aQ hC hle ho]; exact hm
 · cases hm
theorem fI (E:Calls') (T:FuncId -> Option QF) (val:FuncId -> Bool):∀ k,Leq (dn E T val k) (dn E T val (k + 1))
 | 0=>fun f args h r hm=>by simp [dn] at hm
 | k + 1=>by
  have ih:=fI E T val k;intro f args h r hm;rw [dn] at hm ⊢;dsimp only at hm ⊢;split at hm
  · exact hm
  · rename_i q hf;split at hm
    · rename_i hv;simp only [hv,if_true];simp only [mH] at hm ⊢;split at hm
      · cases hm
      · rename_i as has;split at hm
        · cases hm
        · rename_i r1 h4 hb;rw [rG ih (Nat.le_succ _) hb];exact hm
    · rename_i hv;simp only [hv];simp only [iR] at hm ⊢;split at hm
      · cases hm
      · rename_i r1 h4 hb;rw [rG ih (Nat.le_succ _) hb];exact hm
section
variable {C:Nat -> Calls'} {L:Calls'} (hC:∀ k,Leq (C k) (C (k + 1))) (hL:∀ f args h x,L f args h = some x ↔ ∃ k,C k f args h = some x)
include hC in
theorem GA {k n:Nat} (hle:k <= n):Leq (C k) (C n):=by
 obtain ⟨d,rfl⟩:∃ d,n = k + d:=⟨n - k,by omega⟩;clear hle
 induction d with
 | zero=>exact Leq.refl _
 | succ d ih=>exact fun f args h r hr=>hC _ f args h r (ih f args h r hr)
include hL in
theorem Hu {r:R} {ev:X -> V} {h:Hp} {x:V × Hp} (hm:opE L r ev h = some x):∃ k,opE (C k) r ev h = some x:=by
 cases r with
 | call f args =>
  simp only [opE] at hm ⊢;split at hm
  · rename_i h1;simp only [if_pos h1];unfold ed at hm ⊢;split at hm
    · exact (hL _ _ _ _).1 hm
    · exact (hL _ _ _ _).1 hm
    · cases hm
  · cases hm
 | _=>exact ⟨0,hm⟩
include hL in
theorem DN {r:R} {ev:X -> V} {h:Hp} {x:V × Hp × Tr} (hm:bN L r ev h = some x):∃ k,bN (C k) r ev h = some x:=by
 cases r with
 | call f args =>
  simp only [bN] at hm ⊢;split at hm
  · rename_i h1;simp only [if_pos h1];split at hm
    · rename_i v h2 ho;unfold ed at ho ⊢;split at ho
      · obtain ⟨k,hk⟩:=(hL _ _ _ _).1 ho;exact ⟨k,by simp only [hk]; exact hm⟩
      · obtain ⟨k,hk⟩:=(hL _ _ _ _).1 ho;exact ⟨k,by simp only [hk]; exact hm⟩
      · cases ho
    · cases hm
  · cases hm
 | _=>exact ⟨0,hm⟩
include hC hL in
theorem lU:∀ {os:List RO} {e:EA} {h:Hp} {x:EA × Hp},eX L os e h = some x -> ∃ k,eX (C k) os e h = some x
 | [],e,h,x,hm=>⟨0,hm⟩
 | o :: os,e,h,x,hm=>by
  have go:∀ {x},(match opE L o.r (X.ea e) h with
   | some (v,h')=>eX L os (bI e o.d v) h'
   | none=>none) = some x -> ∃ k,(match opE (C k) o.r (X.ea e) h with
   | some (v,h')=>eX (C k) os (bI e o.d v) h'
   | none=>none) = some x:=by
   intro x hm;split at hm
   · rename_i v h1 ho;obtain ⟨k1,hk1⟩:=Hu hL ho;obtain ⟨k2,hk2⟩:=lU hm;refine ⟨max k1 k2,?_⟩;rw [xQ (GA hC (Nat.le_max_left k1 k2)) hk1];exact gH (GA hC (Nat.le_max_right k1 k2)) hk2
   · cases hm
  simp only [eX] at hm ⊢;split at hm
  · exact go hm
  · split at hm
    · split at hm
      · rename_i htw;simp only [if_pos htw];exact go hm
      · rename_i htw;simp only [if_neg htw];exact lU hm
    · exact lU hm
    · cases hm
include hC hL in
theorem qc:∀ {os:List RO} {e:EA} {h:Hp} {x:List Tr × EA × Hp},d9 L os e h = some x -> ∃ k,d9 (C k) os e h = some x
 | [],e,h,x,hm=>⟨0,hm⟩
 | o :: os,e,h,x,hm=>by
  have go:∀ {x},(match bN L o.r (X.ea e) h with
   | some (v,h',t)=>match d9 L os (bI e o.d v) h' with
    | some (l,e',h'')=>some (t :: l,e',h'')
    | none=>none
   | none=>none) = some x -> ∃ k,(match bN (C k) o.r (X.ea e) h with
   | some (v,h',t)=>match d9 (C k) os (bI e o.d v) h' with
    | some (l,e',h'')=>some (t :: l,e',h'')
    | none=>none
   | none=>none) = some x:=by
   intro x hm;split at hm
   · rename_i v h1 t ho;obtain ⟨k1,hk1⟩:=DN hL ho;split at hm
     · rename_i hr;obtain ⟨k2,hk2⟩:=qc hr;refine ⟨max k1 k2,?_⟩;rw [uB (GA hC (Nat.le_max_left k1 k2)) hk1];dsimp only;rw [jQ (GA hC (Nat.le_max_right k1 k2)) hk2];exact hm
     · cases hm
   · cases hm
  have sk:∀ {x},(match d9 L os (bI e o.d (.tup [])) h with
   | some (l,e',h'')=>some (aV h :: l,e',h'')
   | none=>none) = some x -> ∃ k,(match d9 (C k) os (bI e o.d (.tup [])) h with
   | some (l,e',h'')=>some (aV h :: l,e',h'')
   | none=>none) = some x:=by
   intro x hm;split at hm
   · rename_i hr;obtain ⟨k2,hk2⟩:=qc hr;exact ⟨k2,by rw [hk2]; exact hm⟩
   · cases hm
  simp only [d9] at hm ⊢;split at hm
  · exact go hm
  · split at hm
    · split at hm
      · rename_i htw;simp only [if_pos htw];exact go hm
      · rename_i htw;simp only [if_neg htw];exact sk hm
    · exact sk hm
    · cases hm
end
section
variable (E:Calls') (T:FuncId -> Option QF) (val:FuncId -> Bool)
noncomputable def Sm:Calls':=fun f args h=>KS fun k=>dn E T val k f args h
noncomputable def Cd (c:QC) (e:EA) (h:Hp):jF:=KS fun k=>aO (dn E T val k) k c e h
noncomputable def Bd (q:QF) (args:List V) (h:Hp):Option (V × Hp):=done q (Cd E T val q.code (iA 0 args) h)
variable {E T val}
theorem Sm_iff {f:FuncId} {args:List V} {h:Hp} {x:V × Hp}:Sm E T val f args h = some x ↔ ∃ k,dn E T val k f args h = some x :=
 xG fun k x hx=>fI E T val k f args h x hx
theorem Cd_iff {c:QC} {e:EA} {h:Hp} {x:Ex × EA × Hp}:Cd E T val c e h = some x ↔ ∃ k,aO (dn E T val k) k c e h = some x :=
 xG fun k x hx=>aQ (fI E T val k) (Nat.le_succ k) hx
theorem tC {k n:Nat} (hle:k <= n):Leq (dn E T val k) (dn E T val n):=GA (fI E T val) hle
theorem Jg {k:Nat}:Leq (dn E T val k) (Sm E T val):=fun f args h r hr=>Sm_iff.2 ⟨k,hr⟩
theorem eF {k n:Nat} {c:QC} {e:EA} {h:Hp} {x:Ex × EA × Hp} (hx:aO (dn E T val k) n c e h = some x):Cd E T val c e h = some x :=
 Cd_iff.2 ⟨max k n,aQ (tC (Nat.le_max_left _ _)) (Nat.le_max_right _ _) hx⟩
theorem JM {e:EA} {h:Hp}:Cd E T val .skip e h = some (.normal,e,h):=Cd_iff.2 ⟨1,rfl⟩
theorem Ql {l:List Nat} {e:EA} {h:Hp}:Cd E T val (.ret l) e h = some (.ret,dN l e,h):=Cd_iff.2 ⟨1,rfl⟩
theorem JK {i:Nat} {l:List Nat} {e:EA} {h:Hp}:Cd E T val (.exit i l) e h = some (.exit i,dN l e,h):=Cd_iff.2 ⟨1,rfl⟩
theorem Qk {os:List RO} {e:EA} {h:Hp}:Cd E T val (.reg none os) e h = lead (eX (Sm E T val) os e h):=by
 refine iK fun x=>?_;rw [Cd_iff];constructor
 · rintro ⟨k,hk⟩;cases k with
   | zero=>simp [aO] at hk
   | succ k =>
    simp only [aO,lead] at hk;split at hk
    · rename_i ho; rw [gH Jg ho]; exact hk
    · cases hk
 · intro hx;unfold lead at hx;split at hx
   · rename_i ho;obtain ⟨k,hk⟩:=lU (fI E T val) (fun _ _ _ _=>Sm_iff) ho;refine ⟨k + 1,?_⟩;simp only [aO,lead];rw [gH (fI E T val k) hk];exact hx
   · cases hx
theorem JL {pr:List (List Nat)} {os:List RO} {e:EA} {h:Hp}:Cd E T val (.reg (some pr) os) e h = lead (aN (Sm E T val) pr os e h):=by
 refine iK fun x=>?_;rw [Cd_iff];constructor
 · rintro ⟨k,hk⟩;cases k with
   | zero=>simp [aO] at hk
   | succ k =>
    simp only [aO,lead] at hk;split at hk
    · rename_i ho; rw [sU Jg ho]; exact hk
    · cases hk
 · intro hx;unfold lead aN at hx;split at hx
   · rename_i ho;split at ho
     · rename_i l e1 h1 hr;obtain ⟨k,hk⟩:=qc (fI E T val) (fun _ _ _ _=>Sm_iff) hr;refine ⟨k + 1,?_⟩;simp only [aO,lead,aN];rw [jQ (fI E T val k) hk];dsimp only;rw [ho];exact hx
     · cases ho
   · cases hx
theorem Qm {a b:QC} {e:EA} {h:Hp}:Cd E T val (.seq a b) e h = bY (Cd E T val a e h) fun e h=>Cd E T val b e h:=by
 refine iK fun x=>?_;rw [Cd_iff];constructor
 · rintro ⟨k,hk⟩;cases k with
   | zero=>simp [aO] at hk
   | succ k =>
    simp only [aO,bY] at hk;split at hk
    · rename_i ho; rw [eF ho]; exact eF hk
    · rename_i o hne;rw [eF hk];obtain ⟨ex,e1,h1⟩:=x;cases ex with
      | normal=>exact absurd hk (hne _ _)
      | _=>rfl
 · intro hx;unfold bY at hx;split at hx
   · rename_i ho;obtain ⟨k1,hk1⟩:=Cd_iff.1 ho;obtain ⟨k2,hk2⟩:=Cd_iff.1 hx;refine ⟨max k1 k2 + 1,?_⟩;simp only [aO,bY];rw [aQ (tC (by omega)) (Nat.le_max_left k1 k2) hk1];exact aQ (tC (by omega)) (Nat.le_max_right k1 k2) hk2
   · rename_i o hne;obtain ⟨k1,hk1⟩:=Cd_iff.1 hx;refine ⟨k1 + 1,?_⟩;simp only [aO,bY];rw [aQ (tC (by omega)) (Nat.le_refl k1) hk1];obtain ⟨ex,e1,h1⟩:=x;cases ex with
     | normal=>exact absurd hx (hne _ _)
     | _=>rfl
theorem JJ {c:X} {a b:QC} {e:EA} {h:Hp}:Cd E T val (.cond c a b) e h = fork (c.ea e) (Cd E T val a e h) (Cd E T val b e h):=by
 refine iK fun x=>?_;rw [Cd_iff];constructor
 · rintro ⟨k,hk⟩;cases k with
   | zero=>simp [aO] at hk
   | succ k =>
    simp only [aO,fork] at hk ⊢;split at hk
    · exact eF hk
    · exact eF hk
    · cases hk
 · intro hx;unfold fork at hx;split at hx
   · rename_i hc;obtain ⟨k1,hk1⟩:=Cd_iff.1 hx;exact ⟨k1 + 1,by simp only [aO,fork,hc]; exact aQ (tC (by omega)) (Nat.le_refl k1) hk1⟩
   · rename_i hc;obtain ⟨k1,hk1⟩:=Cd_iff.1 hx;exact ⟨k1 + 1,by simp only [aO,fork,hc]; exact aQ (tC (by omega)) (Nat.le_refl k1) hk1⟩
   · cases hx
theorem EO {i:Nat} {b:QC} {e:EA} {h:Hp}:Cd E T val (.block i b) e h = leave i (Cd E T val b e h):=by
 refine iK fun x=>?_;rw [Cd_iff];constructor
 · rintro ⟨k,hk⟩;cases k with
   | zero=>simp [aO] at hk
   | succ k =>
    simp only [aO,leave] at hk;split at hk
    · rename_i ho; rw [eF ho]; exact hk
    · rename_i o hne;rw [eF hk];obtain ⟨ex,e1,h1⟩:=x;cases ex with
      | exit j=>exact absurd hk (hne _ _ _)
      | _=>rfl
 · intro hx;unfold leave at hx;split at hx
   · rename_i ho;obtain ⟨k1,hk1⟩:=Cd_iff.1 ho;refine ⟨k1 + 1,?_⟩;simp only [aO,leave];rw [aQ (tC (by omega)) (Nat.le_refl k1) hk1];exact hx
   · rename_i o hne;obtain ⟨k1,hk1⟩:=Cd_iff.1 hx;refine ⟨k1 + 1,?_⟩;simp only [aO,leave];rw [aQ (tC (by omega)) (Nat.le_refl k1) hk1];obtain ⟨ex,e1,h1⟩:=x;cases ex with
     | exit j=>exact absurd hx (hne _ _ _)
     | _=>rfl
theorem uL {l:List Nat} {b:QC} {e:EA} {h:Hp}:Cd E T val (.loop l b) e h = bY (Cd E T val b (dN l e) h) fun e h=>Cd E T val (.loop l b) e h:=by
 refine iK fun x=>?_;rw [Cd_iff];constructor
 · rintro ⟨k,hk⟩;cases k with
   | zero=>simp [aO] at hk
   | succ k =>
    simp only [aO,bY] at hk;split at hk
    · rename_i ho; rw [eF ho]; exact eF hk
    · rename_i o hne;rw [eF hk];obtain ⟨ex,e1,h1⟩:=x;cases ex with
      | normal=>exact absurd hk (hne _ _)
      | _=>rfl
 · intro hx;unfold bY at hx;split at hx
   · rename_i ho;obtain ⟨k1,hk1⟩:=Cd_iff.1 ho;obtain ⟨k2,hk2⟩:=Cd_iff.1 hx;refine ⟨max k1 k2 + 1,?_⟩;simp only [aO,bY];rw [aQ (tC (by omega)) (Nat.le_max_left k1 k2) hk1];exact aQ (tC (by omega)) (Nat.le_max_right k1 k2) hk2
   · rename_i o hne;obtain ⟨k1,hk1⟩:=Cd_iff.1 hx;refine ⟨k1 + 1,?_⟩;simp only [aO,bY];rw [aQ (tC (by omega)) (Nat.le_refl k1) hk1];obtain ⟨ex,e1,h1⟩:=x;cases ex with
     | normal=>exact absurd hx (hne _ _)
     | _=>rfl
theorem Dt (l:List Nat) (e:EA):dN l (dN l e) = dN l e:=by
 have:∀ m:List Nat,(∀ i ∈ m,i ∈ l) -> m.map (fun i=>(i,(dN l e).get i)) = m.map fun i=>(i,e.get i):=by
  intro m hm;apply List.map_congr_left;intro i hi;rw [oq,if_pos (hm i hi)]
 exact this l fun i hi=>hi
theorem aH {l:List Nat} {b:QC} {e:EA} {h:Hp}:Cd E T val (.loop l b) e h = Cd E T val (.loop l b) (dN l e) h:=by
 rw [uL (e:=e),uL (e:=dN l e),Dt]
theorem Bd_iff {q:QF} {args:List V} {h:Hp} {x:V × Hp}:Bd E T val q args h = some x ↔ ∃ k,iB (dn E T val k) k q args h = some x:=by
 unfold Bd iB;constructor
 · intro hx;unfold done at hx;split at hx
   · rename_i ho;obtain ⟨k,hk⟩:=Cd_iff.1 ho;exact ⟨k,by rw [hk]; exact hx⟩
   · rename_i ho;obtain ⟨k,hk⟩:=Cd_iff.1 ho;exact ⟨k,by rw [hk]; exact hx⟩
   · cases hx
 · rintro ⟨k,hx⟩;unfold done at hx;split at hx
   · rename_i ho; rw [eF ho]; exact hx
   · rename_i ho; rw [eF ho]; exact hx
   · cases hx
theorem QH {f:FuncId} {q:QF} (hf:T f = some q) (hv:val f = true) {args:List V} {h:Hp}:Sm E T val f args h = mH args h (args.mapM (frz h)) fun as=>Bd E T val q as ⟨[],0⟩:=by
 refine iK fun x=>?_;rw [Sm_iff];constructor
 · rintro ⟨k,hk⟩;cases k with
   | zero=>simp [dn] at hk
   | succ k =>
    simp only [dn,hf,hv,if_true,mH] at hk ⊢;split at hk
    · cases hk
    · rename_i as has;split at hk
      · cases hk
      · rename_i r1 h4 hb;simp only [has,Bd_iff.2 ⟨k,hb⟩];exact hk
 · intro hx;simp only [mH] at hx;split at hx
   · cases hx
   · rename_i as has;split at hx
     · cases hx
     · rename_i r1 h4 hb;obtain ⟨k,hk⟩:=Bd_iff.1 hb;refine ⟨k + 1,?_⟩;simp only [dn,hf,hv,if_true,mH,has,hk];exact hx
theorem aB {f:FuncId} {q:QF} (hf:T f = some q) (hv:val f = false) {args:List V} {h:Hp}:Sm E T val f args h = iR h (Bd E T val q args ⟨h.bs,h.bs.length⟩):=by
 refine iK fun x=>?_;rw [Sm_iff];constructor
 · rintro ⟨k,hk⟩;cases k with
   | zero=>simp [dn] at hk
   | succ k =>
    simp only [dn,hf,hv,Bool.false_eq_true,if_false,iR] at hk ⊢;split at hk
    · cases hk
    · rename_i r1 h4 hb;simp only [Bd_iff.2 ⟨k,hb⟩];exact hk
 · intro hx;simp only [iR] at hx;split at hx
   · cases hx
   · rename_i r1 h4 hb;obtain ⟨k,hk⟩:=Bd_iff.1 hb;refine ⟨k + 1,?_⟩;simp only [dn,hf,hv,Bool.false_eq_true,if_false,iR,hk];exact hx
theorem aJ {f:FuncId} (hf:T f = none) {args:List V} {h:Hp}:Sm E T val f args h = E f args h:=by
 refine iK fun x=>?_;rw [Sm_iff];constructor
 · rintro ⟨k,hk⟩;cases k with
   | zero=>simp [dn] at hk
   | succ k=>simp only [dn,hf] at hk; exact hk
 · intro hx;exact ⟨1,by simp only [dn,hf]; exact hx⟩
theorem jf {P:Program} (hmix:P.follows .mixedOrders = true) (hE:aL P E) (hT:kN P T):aL P (Sm E T val):=by
 intro f args h r h' hm;obtain ⟨k,hk⟩:=Sm_iff.1 hm;exact vU hmix hE hT val k f args h r h' hk
end
end Go.Proofs.YtjkfknafpgfchaaGreat
