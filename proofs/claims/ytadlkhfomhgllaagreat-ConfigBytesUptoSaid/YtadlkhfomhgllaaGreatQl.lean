/- The reading without a bound on depth and rounds: equations, no fuel. -/
import Derived.Test.YtadlkhfomhgllaaGreatPy
set_option maxRecDepth 100000
set_option linter.unusedVariables false
set_option linter.unusedSimpArgs false
namespace Go.Proofs.YtadlkhfomhgllaaGreat
section
section
variable {α:Type}
noncomputable def Ma (g:Nat->Option α):Option α :=
 open Classical in if h:∃ x k,g k=some x then some (Classical.choose h) else none
def Mono (g:Nat->Option α):Prop:=∀ k x,g k=some x->g (k+1)=some x
theorem Mono.le {g:Nat->Option α}(hg:Mono g){k n:Nat}{x:α}(hle:k<=n)(h:g k=some x):g n=some x:=by
 obtain ⟨d,rfl⟩:∃ d,n=k+d:=⟨n-k,by omega⟩;clear hle
 induction d with
 | zero=>exact h
 | succ d ih=>exact hg _ _ ih
theorem Bt {g:Nat->Option α}(hg:Mono g){x:α}:Ma g=some x↔∃ k,g k=some x:=by
 unfold Ma;constructor
 . intro h;split at h
   . rename_i hh;obtain ⟨k,hk⟩:=Classical.choose_spec hh;exact ⟨k,by rw [hk]; exact h⟩
   . cases h
 . rintro ⟨k,hk⟩;have hh:∃ x k,g k=some x:=⟨x,k,hk⟩;rw [dif_pos hh];obtain ⟨k',hk'⟩:=Classical.choose_spec hh;have h1:=hg.le (Nat.le_max_left k k') hk;have h2:=hg.le (Nat.le_max_right k k') hk';rw [h1] at h2;exact h2.symm
theorem kD {a b:Option α}(h:∀ x,a=some x↔b=some x):a=b:=by
 cases a with
 | none=>cases b with
  | none=>rfl
  | some y=>exact ((h y).2 rfl)
 | some x=>exact ((h x).1 rfl).symm
end
theorem BK {C C':Calls'}(hC:Leq C C'){r:R}{ev:X->V}{h:Hp}{x:V×Hp}(hm:opE C r ev h=some x):opE C' r ev h=some x:=by
 cases r with
 | call f args =>
  simp only [opE] at hm ⊢;split at hm
  . rename_i h1; rw [if_pos h1]; exact qi hC hm
  . cases hm
 | _=>exact hm
theorem yN {C C':Calls'}(hC:Leq C C'){r:R}{ev:X->V}{h:Hp}{x:V×Hp×Tr}(hm:cB C r ev h=some x):cB C' r ev h=some x:=by
 cases r with
 | call f args =>
  simp only [cB] at hm ⊢;split at hm
  . rename_i h1;rw [if_pos h1];split at hm
    . rename_i v h2 ho; rw [qi hC ho]; exact hm
    . cases hm
  . cases hm
 | _=>exact hm
theorem jk {C C':Calls'}(hC:Leq C C'):∀ {os:List RO} {e:EA} {h:Hp} {x:EA×Hp},iD C os e h=some x->iD C' os e h=some x
 | [],e,h,x,hm=>hm
 | o::os,e,h,x,hm=>by
  have go:∀ {x},(match opE C o.r (X.ea e) h with
   | some (v,h')=>iD C os (bX e o.d v) h'
   | none=>none)=some x->(match opE C' o.r (X.ea e) h with
   | some (v,h')=>iD C' os (bX e o.d v) h'
   | none=>none)=some x:=by
   intro x hm;split at hm
   . rename_i v h1 ho;rw [BK hC ho];exact jk hC hm
   . cases hm
  simp only [iD] at hm ⊢;split at hm
  . exact go hm
  . split at hm
    . split at hm
      . rename_i htw;simp only [if_pos htw];exact go hm
      . rename_i htw;simp only [if_neg htw];exact jk hC hm
    . exact jk hC hm
    . cases hm
theorem mo {C C':Calls'}(hC:Leq C C'):∀ {os:List RO} {e:EA} {h:Hp} {x:List Tr×EA×Hp},gF C os e h=some x->gF C' os e h=some x
 | [],e,h,x,hm=>hm
 | o::os,e,h,x,hm=>by
  have go:∀ {x},(match cB C o.r (X.ea e) h with
   | some (v,h',t)=>match gF C os (bX e o.d v) h' with
    | some (l,e',h'')=>some (t::l,e',h'')
    | none=>none
   | none=>none)=some x->(match cB C' o.r (X.ea e) h with
   | some (v,h',t)=>match gF C' os (bX e o.d v) h' with
    | some (l,e',h'')=>some (t::l,e',h'')
    | none=>none
   | none=>none)=some x:=by
   intro x hm;split at hm
   . rename_i v h1 t ho;rw [yN hC ho];dsimp only;split at hm
     . rename_i hr;rw [mo hC hr];exact hm
     . cases hm
   . cases hm
  have sk:∀ {x},(match gF C os (bX e o.d (.tup [])) h with
   | some (l,e',h'')=>some (bR h::l,e',h'')
   | none=>none)=some x->(match gF C' os (bX e o.d (.tup [])) h with
   | some (l,e',h'')=>some (bR h::l,e',h'')
   | none=>none)=some x:=by
   intro x hm;split at hm
   . rename_i hr;rw [mo hC hr];exact hm
   . cases hm
  simp only [gF] at hm ⊢;split at hm
  . exact go hm
  . split at hm
    . split at hm
      . rename_i htw;simp only [if_pos htw];exact go hm
      . rename_i htw;simp only [if_neg htw];exact sk hm
    . exact sk hm
    . cases hm
theorem wZ {C C':Calls'}(hC:Leq C C'){pr:List (List Nat)}{os:List RO}{e:EA}{h:Hp}{x:EA×Hp}(hm:aL C pr os e h=some x):aL C' pr os e h=some x:=by
 unfold aL at hm ⊢;split at hm
 . rename_i hr;rw [mo hC hr];exact hm
 . cases hm
theorem aX {C C':Calls'}(hC:Leq C C'):∀ {m n:Nat} {c:QC} {e:EA} {h:Hp} {r:Ex×EA×Hp},m<=n->aW C m c e h=some r->aW C' n c e h=some r
 | 0,n,c,e,h,r,_,hm=>by simp [aW] at hm
 | m+1,0,c,e,h,r,hle,hm=>by omega
 | m+1,n+1,c,e,h,r,hle,hm=>by
  have hle':m<=n:=by omega
  cases c with
  | skip=>exact hm
  | ret l=>exact hm
  | exit i l=>exact hm
  | reg pr os =>
   cases pr with
   | none =>
    simp only [aW,lead] at hm ⊢;split at hm
    . rename_i ho; rw [jk hC ho]; exact hm
    . cases hm
   | some p =>
    simp only [aW,lead] at hm ⊢;split at hm
    . rename_i ho; rw [wZ hC ho]; exact hm
    . cases hm
  | seq a b =>
   simp only [aW,dM] at hm ⊢;split at hm
   . rename_i e1 h1 ho;rw [aX hC hle' ho];exact aX hC hle' hm
   . rename_i o hne;rw [aX hC hle' hm];obtain ⟨ex,e1,h1⟩:=r;cases ex with
     | normal=>exact absurd hm (hne _ _)
     | _=>rfl
  | cond x a b =>
   simp only [aW,fork] at hm ⊢;split at hm
   . exact aX hC hle' hm
   . exact aX hC hle' hm
   . cases hm
  | block i b =>
   simp only [aW,leave] at hm ⊢;split at hm
   . rename_i j e1 h1 ho;rw [aX hC hle' ho];exact hm
   . rename_i o hne;rw [aX hC hle' hm];obtain ⟨ex,e1,h1⟩:=r;cases ex with
     | exit j=>exact absurd hm (hne _ _ _)
     | _=>rfl
  | loop keep b =>
   simp only [aW,dM] at hm ⊢;split at hm
   . rename_i e1 h1 ho;rw [aX hC hle' ho];exact aX hC hle' hm
   . rename_i o hne;rw [aX hC hle' hm];obtain ⟨ex,e1,h1⟩:=r;cases ex with
     | normal=>exact absurd hm (hne _ _)
     | _=>rfl
theorem wm {C C':Calls'}(hC:Leq C C'){m n:Nat}(hle:m<=n){q:QF}{args:List V}{h:Hp}{x:V×Hp}(hm:jZ C m q args h=some x):jZ C' n q args h=some x:=by
 unfold jZ done at hm ⊢;split at hm
 . rename_i ho; rw [aX hC hle ho]; exact hm
 . rename_i ho; rw [aX hC hle ho]; exact hm
 . cases hm
theorem iQ (E:Calls')(T:FuncId->Option QF)(val:FuncId->Bool):∀ k,Leq (eO E T val k) (eO E T val (k+1))
 | 0=>λf args h r hm=>by simp [eO] at hm
 | k+1=>by
  have ih:=iQ E T val k;intro f args h r hm;rw [eO] at hm ⊢;dsimp only at hm ⊢;split at hm
  . exact hm
  . rename_i q hf;split at hm
    . rename_i hv;simp only [hv,if_true];simp only [qb] at hm ⊢;split at hm
      . cases hm
      . rename_i as has;split at hm
        . cases hm
        . rename_i r1 h4 hb;rw [wm ih (Nat.le_succ _) hb];exact hm
    . rename_i hv;simp only [hv];simp only [fC] at hm ⊢;split at hm
      . cases hm
      . rename_i r1 h4 hb;rw [wm ih (Nat.le_succ _) hb];exact hm
section
variable {C:Nat->Calls'}{L:Calls'}(hC:∀ k,Leq (C k) (C (k+1)))(hL:∀ f args h x,L f args h=some x↔∃ k,C k f args h=some x)
include hC in
theorem Ju {k n:Nat}(hle:k<=n):Leq (C k) (C n):=by
 obtain ⟨d,rfl⟩:∃ d,n=k+d:=⟨n-k,by omega⟩;clear hle
 induction d with
 | zero=>exact Leq.refl _
 | succ d ih=>exact λf args h r hr=>hC _ f args h r (ih f args h r hr)
include hL in
theorem JC {r:R}{ev:X->V}{h:Hp}{x:V×Hp}(hm:opE L r ev h=some x):∃ k,opE (C k) r ev h=some x:=by
 cases r with
 | call f args =>
  simp only [opE] at hm ⊢;split at hm
  . rename_i h1;simp only [if_pos h1];unfold gG at hm ⊢;split at hm
    . exact (hL _ _ _ _).1 hm
    . exact (hL _ _ _ _).1 hm
    . cases hm
  . cases hm
 | _=>exact ⟨0,hm⟩
include hL in
theorem Gt {r:R}{ev:X->V}{h:Hp}{x:V×Hp×Tr}(hm:cB L r ev h=some x):∃ k,cB (C k) r ev h=some x:=by
 cases r with
 | call f args =>
  simp only [cB] at hm ⊢;split at hm
  . rename_i h1;simp only [if_pos h1];split at hm
    . rename_i v h2 ho;unfold gG at ho ⊢;split at ho
      . obtain ⟨k,hk⟩:=(hL _ _ _ _).1 ho;exact ⟨k,by simp only [hk]; exact hm⟩
      . obtain ⟨k,hk⟩:=(hL _ _ _ _).1 ho;exact ⟨k,by simp only [hk]; exact hm⟩
      . cases ho
    . cases hm
  . cases hm
 | _=>exact ⟨0,hm⟩
include hC hL in
theorem oJ:∀ {os:List RO} {e:EA} {h:Hp} {x:EA×Hp},iD L os e h=some x->∃ k,iD (C k) os e h=some x
 | [],e,h,x,hm=>⟨0,hm⟩
 | o::os,e,h,x,hm=>by
  have go:∀ {x},(match opE L o.r (X.ea e) h with
   | some (v,h')=>iD L os (bX e o.d v) h'
   | none=>none)=some x->∃ k,(match opE (C k) o.r (X.ea e) h with
   | some (v,h')=>iD (C k) os (bX e o.d v) h'
   | none=>none)=some x:=by
   intro x hm;split at hm
   . rename_i v h1 ho;obtain ⟨k1,hk1⟩:=JC hL ho;obtain ⟨k2,hk2⟩:=oJ hm;refine ⟨max k1 k2,?_⟩;rw [BK (Ju hC (Nat.le_max_left k1 k2)) hk1];exact jk (Ju hC (Nat.le_max_right k1 k2)) hk2
   . cases hm
  simp only [iD] at hm ⊢;split at hm
  . exact go hm
  . split at hm
    . split at hm
      . rename_i htw;simp only [if_pos htw];exact go hm
      . rename_i htw;simp only [if_neg htw];exact oJ hm
    . exact oJ hm
    . cases hm
include hC hL in
theorem uu:∀ {os:List RO} {e:EA} {h:Hp} {x:List Tr×EA×Hp},gF L os e h=some x->∃ k,gF (C k) os e h=some x
 | [],e,h,x,hm=>⟨0,hm⟩
 | o::os,e,h,x,hm=>by
  have go:∀ {x},(match cB L o.r (X.ea e) h with
   | some (v,h',t)=>match gF L os (bX e o.d v) h' with
    | some (l,e',h'')=>some (t::l,e',h'')
    | none=>none
   | none=>none)=some x->∃ k,(match cB (C k) o.r (X.ea e) h with
   | some (v,h',t)=>match gF (C k) os (bX e o.d v) h' with
    | some (l,e',h'')=>some (t::l,e',h'')
    | none=>none
   | none=>none)=some x:=by
   intro x hm;split at hm
   . rename_i v h1 t ho;obtain ⟨k1,hk1⟩:=Gt hL ho;split at hm
     . rename_i hr;obtain ⟨k2,hk2⟩:=uu hr;refine ⟨max k1 k2,?_⟩;rw [yN (Ju hC (Nat.le_max_left k1 k2)) hk1];dsimp only;rw [mo (Ju hC (Nat.le_max_right k1 k2)) hk2];exact hm
     . cases hm
   . cases hm
  have sk:∀ {x},(match gF L os (bX e o.d (.tup [])) h with
   | some (l,e',h'')=>some (bR h::l,e',h'')
   | none=>none)=some x->∃ k,(match gF (C k) os (bX e o.d (.tup [])) h with
   | some (l,e',h'')=>some (bR h::l,e',h'')
   | none=>none)=some x:=by
   intro x hm;split at hm
   . rename_i hr;obtain ⟨k2,hk2⟩:=uu hr;exact ⟨k2,by rw [hk2]; exact hm⟩
   . cases hm
  simp only [gF] at hm ⊢;split at hm
  . exact go hm
  . split at hm
    . split at hm
      . rename_i htw;simp only [if_pos htw];exact go hm
      . rename_i htw;simp only [if_neg htw];exact sk hm
    . exact sk hm
    . cases hm
end
section
variable (E:Calls')(T:FuncId->Option QF)(val:FuncId->Bool)
noncomputable def Sm:Calls':=λf args h=>Ma λk=>eO E T val k f args h
noncomputable def Cd (c:QC) (e:EA) (h:Hp):dx:=Ma λk=>aW (eO E T val k) k c e h
noncomputable def Bd (q:QF) (args:List V) (h:Hp):Option (V×Hp):=done q (Cd E T val q.code (jY 0 args) h)
variable {E T val}
theorem Sm_iff {f:FuncId}{args:List V}{h:Hp}{x:V×Hp}:Sm E T val f args h=some x↔∃ k,eO E T val k f args h=some x :=
 Bt λk x hx=>iQ E T val k f args h x hx
theorem Cd_iff {c:QC}{e:EA}{h:Hp}{x:Ex×EA×Hp}:Cd E T val c e h=some x↔∃ k,aW (eO E T val k) k c e h=some x :=
 Bt λk x hx=>aX (iQ E T val k) (Nat.le_succ k) hx
theorem xA {k n:Nat}(hle:k<=n):Leq (eO E T val k) (eO E T val n):=Ju (iQ E T val) hle
theorem Kt {k:Nat}:Leq (eO E T val k) (Sm E T val):=λf args h r hr=>Sm_iff.2 ⟨k,hr⟩
theorem gW {k n:Nat}{c:QC}{e:EA}{h:Hp}{x:Ex×EA×Hp}(hx:aW (eO E T val k) n c e h=some x):Cd E T val c e h=some x :=
 Cd_iff.2 ⟨max k n,aX (xA (Nat.le_max_left _ _)) (Nat.le_max_right _ _) hx⟩
theorem La {e:EA}{h:Hp}:Cd E T val .skip e h=some (.normal,e,h):=Cd_iff.2 ⟨1,rfl⟩
theorem P6 {l:List Nat}{e:EA}{h:Hp}:Cd E T val (.ret l) e h=some (.ret,bq l e,h):=Cd_iff.2 ⟨1,rfl⟩
theorem K8 {i:Nat}{l:List Nat}{e:EA}{h:Hp}:Cd E T val (.exit i l) e h=some (.exit i,bq l e,h):=Cd_iff.2 ⟨1,rfl⟩
theorem P5 {os:List RO}{e:EA}{h:Hp}:Cd E T val (.reg none os) e h=lead (iD (Sm E T val) os e h):=by
 refine kD λx=>?_;rw [Cd_iff];constructor
 . rintro ⟨k,hk⟩;cases k with
   | zero=>simp [aW] at hk
   | succ k =>
    simp only [aW,lead] at hk;split at hk
    . rename_i ho; rw [jk Kt ho]; exact hk
    . cases hk
 . intro hx;unfold lead at hx;split at hx
   . rename_i ho;obtain ⟨k,hk⟩:=oJ (iQ E T val) (λ_ _ _ _=>Sm_iff) ho;refine ⟨k+1,?_⟩;simp only [aW,lead];rw [jk (iQ E T val k) hk];exact hx
   . cases hx
theorem K9 {pr:List (List Nat)}{os:List RO}{e:EA}{h:Hp}:Cd E T val (.reg (some pr) os) e h=lead (aL (Sm E T val) pr os e h):=by
 refine kD λx=>?_;rw [Cd_iff];constructor
 . rintro ⟨k,hk⟩;cases k with
   | zero=>simp [aW] at hk
   | succ k =>
    simp only [aW,lead] at hk;split at hk
    . rename_i ho; rw [wZ Kt ho]; exact hk
    . cases hk
 . intro hx;unfold lead aL at hx;split at hx
   . rename_i ho;split at ho
     . rename_i l e1 h1 hr;obtain ⟨k,hk⟩:=uu (iQ E T val) (λ_ _ _ _=>Sm_iff) hr;refine ⟨k+1,?_⟩;simp only [aW,lead,aL];rw [mo (iQ E T val k) hk];dsimp only;rw [ho];exact hx
     . cases ho
   . cases hx
theorem P7 {a b:QC}{e:EA}{h:Hp}:Cd E T val (.seq a b) e h=dM (Cd E T val a e h) λe h=>Cd E T val b e h:=by
 refine kD λx=>?_;rw [Cd_iff];constructor
 . rintro ⟨k,hk⟩;cases k with
   | zero=>simp [aW] at hk
   | succ k =>
    simp only [aW,dM] at hk;split at hk
    . rename_i ho; rw [gW ho]; exact gW hk
    . rename_i o hne;rw [gW hk];obtain ⟨ex,e1,h1⟩:=x;cases ex with
      | normal=>exact absurd hk (hne _ _)
      | _=>rfl
 . intro hx;unfold dM at hx;split at hx
   . rename_i ho;obtain ⟨k1,hk1⟩:=Cd_iff.1 ho;obtain ⟨k2,hk2⟩:=Cd_iff.1 hx;refine ⟨max k1 k2+1,?_⟩;simp only [aW,dM];rw [aX (xA (by omega)) (Nat.le_max_left k1 k2) hk1];exact aX (xA (by omega)) (Nat.le_max_right k1 k2) hk2
   . rename_i o hne;obtain ⟨k1,hk1⟩:=Cd_iff.1 hx;refine ⟨k1+1,?_⟩;simp only [aW,dM];rw [aX (xA (by omega)) (bo k1) hk1];obtain ⟨ex,e1,h1⟩:=x;cases ex with
     | normal=>exact absurd hx (hne _ _)
     | _=>rfl
theorem K7 {c:X}{a b:QC}{e:EA}{h:Hp}:Cd E T val (.cond c a b) e h=fork (c.ea e) (Cd E T val a e h) (Cd E T val b e h):=by
 refine kD λx=>?_;rw [Cd_iff];constructor
 . rintro ⟨k,hk⟩;cases k with
   | zero=>simp [aW] at hk
   | succ k =>
    simp only [aW,fork] at hk ⊢;split at hk
    . exact gW hk
    . exact gW hk
    . cases hk
 . intro hx;unfold fork at hx;split at hx
   . rename_i hc;obtain ⟨k1,hk1⟩:=Cd_iff.1 hx;exact ⟨k1+1,by simp only [aW,fork,hc]; exact aX (xA (by omega)) (bo k1) hk1⟩
   . rename_i hc;obtain ⟨k1,hk1⟩:=Cd_iff.1 hx;exact ⟨k1+1,by simp only [aW,fork,hc]; exact aX (xA (by omega)) (bo k1) hk1⟩
   . cases hx
theorem Ii {i:Nat}{b:QC}{e:EA}{h:Hp}:Cd E T val (.block i b) e h=leave i (Cd E T val b e h):=by
 refine kD λx=>?_;rw [Cd_iff];constructor
 . rintro ⟨k,hk⟩;cases k with
   | zero=>simp [aW] at hk
   | succ k =>
    simp only [aW,leave] at hk;split at hk
    . rename_i ho; rw [gW ho]; exact hk
    . rename_i o hne;rw [gW hk];obtain ⟨ex,e1,h1⟩:=x;cases ex with
      | exit j=>exact absurd hk (hne _ _ _)
      | _=>rfl
 . intro hx;unfold leave at hx;split at hx
   . rename_i ho;obtain ⟨k1,hk1⟩:=Cd_iff.1 ho;refine ⟨k1+1,?_⟩;simp only [aW,leave];rw [aX (xA (by omega)) (bo k1) hk1];exact hx
   . rename_i o hne;obtain ⟨k1,hk1⟩:=Cd_iff.1 hx;refine ⟨k1+1,?_⟩;simp only [aW,leave];rw [aX (xA (by omega)) (bo k1) hk1];obtain ⟨ex,e1,h1⟩:=x;cases ex with
     | exit j=>exact absurd hx (hne _ _ _)
     | _=>rfl
theorem za {l:List Nat}{b:QC}{e:EA}{h:Hp}:Cd E T val (.loop l b) e h=dM (Cd E T val b (bq l e) h) λe h=>Cd E T val (.loop l b) e h:=by
 refine kD λx=>?_;rw [Cd_iff];constructor
 . rintro ⟨k,hk⟩;cases k with
   | zero=>simp [aW] at hk
   | succ k =>
    simp only [aW,dM] at hk;split at hk
    . rename_i ho; rw [gW ho]; exact gW hk
    . rename_i o hne;rw [gW hk];obtain ⟨ex,e1,h1⟩:=x;cases ex with
      | normal=>exact absurd hk (hne _ _)
      | _=>rfl
 . intro hx;unfold dM at hx;split at hx
   . rename_i ho;obtain ⟨k1,hk1⟩:=Cd_iff.1 ho;obtain ⟨k2,hk2⟩:=Cd_iff.1 hx;refine ⟨max k1 k2+1,?_⟩;simp only [aW,dM];rw [aX (xA (by omega)) (Nat.le_max_left k1 k2) hk1];exact aX (xA (by omega)) (Nat.le_max_right k1 k2) hk2
   . rename_i o hne;obtain ⟨k1,hk1⟩:=Cd_iff.1 hx;refine ⟨k1+1,?_⟩;simp only [aW,dM];rw [aX (xA (by omega)) (bo k1) hk1];obtain ⟨ex,e1,h1⟩:=x;cases ex with
     | normal=>exact absurd hx (hne _ _)
     | _=>rfl
theorem Gf (l:List Nat)(e:EA):bq l (bq l e)=bq l e:=by
 have:∀ m:List Nat,(∀ i∈m,i∈l)->m.map (λi=>(i,(bq l e).get i))=m.map λi=>(i,e.get i):=by
  intro m hm;apply List.map_congr_left;intro i hi;rw [rD,if_pos (hm i hi)]
 exact this l λi hi=>hi
theorem ai {l:List Nat}{b:QC}{e:EA}{h:Hp}:Cd E T val (.loop l b) e h=Cd E T val (.loop l b) (bq l e) h:=by
 rw [za (e:=e),za (e:=bq l e),Gf]
theorem Bd_iff {q:QF}{args:List V}{h:Hp}{x:V×Hp}:Bd E T val q args h=some x↔∃ k,jZ (eO E T val k) k q args h=some x:=by
 unfold Bd jZ;constructor
 . intro hx;unfold done at hx;split at hx
   . rename_i ho;obtain ⟨k,hk⟩:=Cd_iff.1 ho;exact ⟨k,by rw [hk]; exact hx⟩
   . rename_i ho;obtain ⟨k,hk⟩:=Cd_iff.1 ho;exact ⟨k,by rw [hk]; exact hx⟩
   . cases hx
 . rintro ⟨k,hx⟩;unfold done at hx;split at hx
   . rename_i ho; rw [gW ho]; exact hx
   . rename_i ho; rw [gW ho]; exact hx
   . cases hx
theorem Qq {f:FuncId}{q:QF}(hf:T f=some q)(hv:val f=true){args:List V}{h:Hp}:Sm E T val f args h=qb args h (args.mapM (frz h)) λas=>Bd E T val q as ⟨[],0⟩:=by
 refine kD λx=>?_;rw [Sm_iff];constructor
 . rintro ⟨k,hk⟩;cases k with
   | zero=>simp [eO] at hk
   | succ k =>
    simp only [eO,hf,hv,if_true,qb] at hk ⊢;split at hk
    . cases hk
    . rename_i as has;split at hk
      . cases hk
      . rename_i r1 h4 hb;simp only [Bd_iff.2 ⟨k,hb⟩];exact hk
 . intro hx;simp only [qb] at hx;split at hx
   . cases hx
   . rename_i as has;split at hx
     . cases hx
     . rename_i r1 h4 hb;obtain ⟨k,hk⟩:=Bd_iff.1 hb;refine ⟨k+1,?_⟩;simp only [eO,hf,hv,if_true,qb,has,hk];exact hx
theorem aM {f:FuncId}{q:QF}(hf:T f=some q)(hv:val f=false){args:List V}{h:Hp}:Sm E T val f args h=fC h (Bd E T val q args ⟨h.bs,h.bs.length⟩):=by
 refine kD λx=>?_;rw [Sm_iff];constructor
 . rintro ⟨k,hk⟩;cases k with
   | zero=>simp [eO] at hk
   | succ k =>
    simp only [eO,hf,hv,bk,if_false,fC] at hk ⊢;split at hk
    . cases hk
    . rename_i r1 h4 hb;simp only [Bd_iff.2 ⟨k,hb⟩];exact hk
 . intro hx;simp only [fC] at hx;split at hx
   . cases hx
   . rename_i r1 h4 hb;obtain ⟨k,hk⟩:=Bd_iff.1 hb;refine ⟨k+1,?_⟩;simp only [eO,hf,hv,bk,if_false,fC,hk];exact hx
theorem fA {f:FuncId}(hf:T f=none){args:List V}{h:Hp}:Sm E T val f args h=E f args h:=by
 refine kD λx=>?_;rw [Sm_iff];constructor
 . rintro ⟨k,hk⟩;cases k with
   | zero=>simp [eO] at hk
   | succ k=>simp only [eO,hf] at hk; exact hk
 . intro hx;exact ⟨1,by simp only [eO,hf]; exact hx⟩
theorem nJ {P:Program}(hmix:P.follows .mixedOrders=true)(hE:aS P E)(hT:nG P T):aS P (Sm E T val):=by
 intro f args h r h' hm;obtain ⟨k,hk⟩:=Sm_iff.1 hm;exact Aa hmix hE hT val k f args h r h' hk
end
end
section
def Da:Nat->Nat->List Nat
 | 0,_=>[]
 | k+1,n=>match Nat.beq n 0 with
  | true=>[]
  | false=>match Nat.blt (n % 16) 12 with
   | true=>n % 16::Da k (n / 16)
   | false=>match n % 16 with
    | 12=>(12+n / 16 % 16)::Da k (n / 256)
    | 13=>(28+n / 16 % 256)::Da k (n / 4096)
    | 14=>(284+n / 16 % 65536)::Da k (n / 1048576)
    | _=>n / 16 % 18446744073709551616::Da k (n / 295147905179352825856)
def IY:Nat->IntKind
 | 0=>.i8 | 1=>.i16 | 2=>.i32 | 3=>.i64 | 4=>.u8 | 5=>.u16 | 6=>.u32 | _=>.u64
def ar2:Nat->BinOp
 | 0=>.add | 1=>.sub | 2=>.mul | 3=>.quo | 4=>.rem | 5=>.and | 6=>.or | 7=>.xor | 8=>.shl | 9=>.shr | 10=>.andNot | 11=>.eql | 12=>.neq | 13=>.lss | 14=>.leq | 15=>.gtr | _=>.geq
def dun:Nat->UnOp
 | 0=>.not | 1=>.neg | 2=>.xor | _=>.plus
def A9:Nat->Bool
 | 0=>false | _=>true
def OH {α:Type}(f:List Nat->α×List Nat):Nat->List Nat->List α×List Nat
 | 0,l=>([],l)
 | k+1,l=>match f l with
  | (a,l)=>match OH f k l with
   | (r,l)=>(a::r,l)
def iX {α:Type}(f:List Nat->α×List Nat):List Nat->List α×List Nat
 | k::l=>OH f k l
 | []=>([],[])
def IZ:List Nat->Nat×List Nat
 | k::l=>(k,l)
 | []=>(0,[])
def QE:Nat->Nat->Int
 | 0,_=>0
 | k+1,n=>match Nat.beq n 0 with
  | true=>0
  | false=>2 * QE k (n / 2)+(match n % 2 with | 0=>0 | _=>1)
def dD (cs:List D):List Nat->D×List Nat
 | 0::l=>(.int .i64 0,l) | 1::l=>(.int .u64 0,l) | 2::l=>(.str ⟨#[]⟩,l) | 3::l=>(.slice true [],l) | 4::l=>(.bool false,l) | 5::l=>(.bool true,l)
 | 9::k::l=>(cs.getD k .nilp,l)
 | 6::l=>(.int .u32 0,l) | 7::l=>(.int .u8 0,l) | 8::k::n::l=>(.int (IY k) (QE 64 n),l)
 | 10::l=>(.nilp,l) | 11::l=>(.nilf,l) | 12::l=>(.nili,l) | k::l=>(.int .i64 (QE 64 (k-14)),l)
 | []=>(.nilp,[])
def dV (cs:List D):List Nat->V×List Nat
 | 14::f::l=>(.fn f [],l)
 | 13::l=>match iX (dD cs) l with | (r,l)=>(.agg (r.map .d),l)
 | l=>match dD cs l with | (x,l)=>(.d x,l)
def dX (cs:List D)(c:Nat):List Nat->X×List Nat
 | 0::l=>match dV cs l with | (v,l)=>(.c v,l)
 | k::l=>match Nat.blt k 10 with
  | true=>(.t (c-k),l)
  | false=>(.t (k-10),l)
 | []=>(.t 0,[])
def dXo (cs:List D)(c:Nat):List Nat->Option X×List Nat
 | 0::l=>(none,l)
 | _::l=>match dX cs c l with | (x,l)=>(some x,l)
 | []=>(none,[])
def dpl (cs:List D)(c:Nat):List Nat->(Nat×Nat×X)×List Nat
 | a::b::l=>match dX cs c l with | (x,l)=>((a,b,x),l)
 | _=>((0,0,.t 0),[])
def dek:Nat->EK
 | 0=>.b | 1=>.s | k=>.i (IY (k-2))
def deq:List Nat->EQ×List Nat
 | 0::l=>(.ptr,l) | 1::l=>(.sl,l) | 2::l=>(.fn,l) | 3::l=>match iX IZ l with | (r,l)=>(.agg (r.map dek),l)
 | k::l=>(.sc (dek (k-4)),l)
 | []=>(.ptr,[])
def dR (cs:List D)(c:Nat):List Nat->R×List Nat
 | 0::l=>match dX cs c l with | (x,l)=>(.mov x,l)
 | 1::n::l=>match dX cs c l with | (x,l)=>(.load false n x,l)
 | 2::n::l=>match dX cs c l with | (x,l)=>(.load true n x,l)
 | 3::o::l=>match dX cs c l with | (x,l)=>(.fldA x o,l)
 | 4::l=>match dX cs c l with | (f,l)=>match iX (dX cs c) l with | (r,l)=>(.call f r,l)
 | 5::op::l=>match dX cs c l with | (x,l)=>match dX cs c l with | (y,l)=>(.bin (ar2 op) x y,l)
 | 6::n::l=>match deq l with | (k,l)=>match dX cs c l with | (x,l)=>match dX cs c l with | (y,l)=>(.eq k (A9 n) x y,l)
 | 7::l=>match dX cs c l with | (a,l)=>match dX cs c l with | (x,l)=>match dX cs c l with | (y,l)=>(.pick a x y,l)
 | 8::i::l=>match dX cs c l with | (x,l)=>(.ext x i,l)
 | 9::n::l=>match dX cs c l with | (x,l)=>match dX cs c l with | (y,l)=>(.store n x y,l)
 | 10::s::l=>match dX cs c l with | (x,l)=>(.len (A9 s) x,l)
 | 11::a::z::l=>match dX cs c l with | (x,l)=>match dX cs c l with | (y,l)=>(.idxA (match a with | 0=>none | k+1=>some k) z x y,l)
 | 12::l=>match dX cs c l with | (x,l)=>(.box x,l)
 | 13::l=>match iX (dV cs) l with | (z,l)=>(.new z,l)
 | 14::l=>match iX (dV cs) l with | (z,l)=>match iX (dpl cs c) l with | (p,l)=>(.build z p,l)
 | 15::a::b::l=>match iX (dV cs) l with | (z,l)=>match iX (dpl cs c) l with | (p,l)=>(.buildS a b z p,l)
 | 16::z::b::l=>match dX cs c l with | (x,l)=>match dX cs c l with | (y,l)=>(.app z b x y,l)
 | 17::op::l=>match dX cs c l with | (x,l)=>(.un (dun op) x,l)
 | 18::k::l=>match dX cs c l with | (x,l)=>(.convI (IY k) x,l)
 | 19::k::z::l=>match dX cs c l with | (x,l)=>match dXo cs c l with | (lo,l)=>match dXo cs c l with | (hi,l)=>match dXo cs c l with | (mx,l)=>(.slc (match k with | 0=>.sl | 1=>.st | k+2=>.ar k) z x lo hi mx,l)
 | 20::f::l=>match iX (dX cs c) l with | (r,l)=>(.mkfn f r,l)
 | 21::f::l=>match iX (dX cs c) l with | (r,l)=>(.mkmv f r,l)
 | 22::s::o::n::l=>match dX cs c l with | (x,l)=>(.fld (A9 s) x o n,l)
 | 23::s::n::z::l=>match dX cs c l with | (x,l)=>match dX cs c l with | (y,l)=>(.idx (A9 s) n z x y,l)
 | 24::l=>match dX cs c l with | (x,l)=>match dX cs c l with | (y,l)=>(.idxS x y,l)
 | 25::z::b::l=>match iX (dV cs) l with | (v,l)=>match dX cs c l with | (x,l)=>match dX cs c l with | (y,l)=>(.mksl z b v x y,l)
 | 26::z::l=>match dX cs c l with | (x,l)=>match dX cs c l with | (y,l)=>(.copy z x y,l)
 | 27::z::l=>match iX (dV cs) l with | (v,l)=>match dX cs c l with | (x,l)=>(.clear z v x,l)
 | 28::m::l=>match iX (dX cs c) l with | (r,l)=>(.minmax (A9 m) r,l)
 | 29::l=>match dX cs c l with | (x,l)=>(.range x,l)
 | 30::l=>match dX cs c l with | (x,l)=>(.next x,l)
 | 31::l=>match dX cs c l with | (x,l)=>(.convBS x,l)
 | 32::l=>match dX cs c l with | (x,l)=>(.convSB x,l)
 | 33::l=>match dX cs c l with | (x,l)=>(.convSS x,l)
 | _::l=>match dX cs c l with | (x,l)=>(.nilchk x,l)
 | []=>(.mov (.t 0),[])
def dG (cs:List D)(c:Nat):Nat->List Nat->Option (Nat×Bool)×List Nat
 | 0,l=>(none,l)
 | k+1,l=>match dX cs c l with
  | (.t i,l)=>(some (i,match k with | 0=>true | _=>false),l)
  | (_,l)=>(none,l)
def dO (cs:List D)(c:Nat):List Nat->RO×Nat×List Nat
 | h::l=>match dG cs c (h / 3) l with
  | (g,l)=>match h % 3 with
   | 0=>match dR cs c l with | (r,l)=>(⟨g,none,r⟩,c,l)
   | 1=>match dR cs c l with | (r,l)=>(⟨g,some c,r⟩,c+1,l)
   | _=>match l with
    | j::l=>match dR cs c l with | (r,l)=>(⟨g,some j,r⟩,max c (j+1),l)
    | []=>(⟨g,none,.mov (.t 0)⟩,c,[])
 | []=>(⟨none,none,.mov (.t 0)⟩,c,[])
def dOs (cs:List D):Nat->Nat->List Nat->List RO×Nat×List Nat
 | 0,c,l=>([],c,l)
 | k+1,c,l=>match dO cs c l with
  | (o,c,l)=>match dOs cs k c l with
   | (r,c,l)=>(o::r,c,l)
def dQ (cs:List D)(bs:List QC):Nat->Nat->List Nat->QC×Nat×List Nat
 | 0,c,l=>(.skip,c,l)
 | k+1,c,l=>match l with
  | 0::l=>(.skip,c,l)
  | 1::l=>match dQ cs bs k c l with | (a,c,l)=>match dQ cs bs k c l with | (b,c,l)=>(.seq a b,c,l)
  | 2::n::l=>match dOs cs n c l with | (r,c,l)=>(.reg none r,c,l)
  | 3::l=>match dX cs c l with | (x,l)=>match dQ cs bs k c l with | (a,c,l)=>match dQ cs bs k c l with | (b,c,l)=>(.cond x a b,c,l)
  | 4::l=>match iX IZ l with | (r,l)=>(.ret r,c,l)
  | 5::i::l=>match iX IZ l with | (r,l)=>(.exit i r,c,l)
  | 6::i::l=>match dQ cs bs k c l with | (a,c,l)=>(.block i a,c,l)
  | 7::i::j::l=>match iX IZ l with | (r,l)=>(.loop r (bs.getD i .skip),j,l)
  | 8::n::l=>match iX (iX IZ) l with | (p,l)=>match dOs cs n c l with | (r,c,l)=>(.reg (some p) r,c,l)
  | _=>(.skip,c,[])
def dRV:List Nat->RV×List Nat
 | 0::t::l=>(.tmp t,l)
 | s::t::n::l=>(.cell t (match s with | 1=>false | _=>true) n,l)
 | _=>(.tmp 0,[])
def dC (cs:List D)(bs:List QC)(n:Nat):QC:=match Da 100000 n with
 | c::l=>(dQ cs bs 1000 c l).1
 | []=>.skip
def dF (cs:List D)(bs:List QC)(n:Nat):QF:=match Da 100000 n with
 | m::c::l=>match iX dRV l with | (r,l)=>⟨m,r,(dQ cs bs 1000 c l).1⟩
 | _=>⟨0,[],.skip⟩
abbrev C0 (n:Nat):={q:QC // dC [] [] n=q}
abbrev C1 (n:Nat):={k:QC->QC // ∀ a,dC [] [a] n=k a}
abbrev C2 (n:Nat):={k:QC->QC->QC // ∀ a b,dC [] [a,b] n=k a b}
abbrev C3 (n:Nat):={k:QC->QC->QC->QC // ∀ a b c,dC [] [a,b,c] n=k a b c}
abbrev C4 (n:Nat):={k:QC->QC->QC->QC->QC // ∀ a b c d,dC [] [a,b,c,d] n=k a b c d}
abbrev C5 (n:Nat):={k:QC->QC->QC->QC->QC->QC // ∀ a b c d e,dC [] [a,b,c,d,e] n=k a b c d e}
abbrev F0 (n:Nat):={q:QF // dF [] [] n=q}
abbrev F1 (n:Nat):={k:QC->QF // ∀ a,dF [] [a] n=k a}
abbrev F2 (n:Nat):={k:QC->QC->QF // ∀ a b,dF [] [a,b] n=k a b}
abbrev F3 (n:Nat):={k:QC->QC->QC->QF // ∀ a b c,dF [] [a,b,c] n=k a b c}
abbrev F4 (n:Nat):={k:QC->QC->QC->QC->QF // ∀ a b c d,dF [] [a,b,c,d] n=k a b c d}
abbrev F5 (n:Nat):={k:QC->QC->QC->QC->QC->QF // ∀ a b c d e,dF [] [a,b,c,d,e] n=k a b c d e}
abbrev F6 (n:Nat):={k:QC->QC->QC->QC->QC->QC->QF // ∀ a b c d e f,dF [] [a,b,c,d,e,f] n=k a b c d e f}
end
section
def QOk (P:Program)(f:FuncId)(q:QF):Prop:=∃ rf,DK P f=some rf/\rf.quiet=q.toRF/\q.fits=true
theorem qok {P:Program}{f:FuncId}{q:QF}(h:(DK P f).map RF.quiet=some q.toRF)(hf:q.fits=true):QOk P f q:=by
 simp only [bh] at h;obtain ⟨rf,h1,h2⟩:=h;exact ⟨rf,h1,h2,hf⟩
theorem oks {P:Program}{l:List (Nat×QF)}(h:(l.map λp=>(DK P p.1).map RF.quiet)=l.map λp=>some p.2.toRF)(hf:(l.all λp=>p.2.fits)=true):∀ p∈l,QOk P p.1 p.2:=λp hp =>
 qok (List.map_inj_left.1 h p hp) (cm.1 hf p hp)
def lu:List (Nat×QF)->Nat->Option QF
 | [],_=>none
 | (k,q)::l,n=>match Nat.beq k n with
  | true=>some q
  | false=>lu l n
theorem gM {P:Program}:∀ {l:List (Nat×QF)},(∀ p∈l,QOk P p.1 p.2)->nG P (lu l)
 | [],_=>λf q h=>by simp [lu] at h
 | (k,q0)::l,hl=>λf q h=>by
  simp only [lu] at h;split at h
  . rename_i hk;have:=Nat.eq_of_beq_eq_true hk;subst this;cases h;exact hl (k,q0) (by simp)
  . exact gM (λp hp=>hl p (List.mem_cons_of_mem _ hp)) f q h
end
section
def cls (l:List (List Nat)):List (List Nat):=l.foldl (λacc d=>acc++[ded (d.flatMap λe=>e::acc.getD e [])]) []
@[simp] def zi:V:=.d (.int .i64 0)
@[simp] def zs0:V:=.d (.slice true [])
@[simp] def zu:V:=.d (.int .u64 0)
@[simp] def zw:V:=.d (.int .u32 0)
@[simp] def zb:V:=.d (.bool false)
@[simp] def sr (l:List RO)(b:QC):QC:=.seq (.reg none l) b
@[simp] def kc' (f:Nat)(a:List X):R:=.call (.c (.fn f [])) a
@[simp] def kt' (f:Nat)(a:List X):R:=.call (.t f) a
@[simp] def l1' (a:Nat):R:=.load true 1 (.t a)
@[simp] def lf (z a:Nat):R:=.load false z (.t a)
@[simp] def fa (a o:Nat):R:=.fldA (.t a) o
@[simp] def ln' (a:Nat):R:=.len false (.t a)
@[simp] def ia (z a b:Nat):R:=.idxA none z (.t a) (.t b)
@[simp] def bt (o:BinOp)(a b:Nat):R:=.bin o (.t a) (.t b)
@[simp] def bc (o:BinOp)(a:Nat)(c:Int):R:=.bin o (.t a) (.c (.d (.int .i64 c)))
@[simp] def oc' (n:Nat)(c:Int):RO:=⟨none,some n,.mov (.c (.d (.int .i64 c)))⟩
@[simp] def so' (z a b:Nat):RO:=⟨none,none,.store z (.t a) (.t b)⟩
@[simp] def nw (n:Nat)(z:List V):RO:=⟨none,some n,.new z⟩
@[simp] def op (n:Nat)(r:R):RO:=⟨none,some n,r⟩
@[simp] def mv (n i:Nat):RO:=⟨none,some n,.mov (.t i)⟩
@[simp] def ot (g n:Nat)(r:R):RO:=⟨some (g,true),some n,r⟩
@[simp] def ow (g n:Nat)(r:R):RO:=⟨some (g,false),some n,r⟩
@[simp] def ci (n:Int):X:=.c (.d (.int .i64 n))
@[simp] def g0' (c0:QC):QF:=(⟨_,λ_=>by cbv⟩:F1 0x41410423c01221a985159c0706000110a160823211300112130011214014ac).1 c0
@[simp] def g1' (c0:QC):QC:=(⟨_,λ_=>by cbv⟩:C1 0xec0823c0dc054c26c03c232983210619d07261092705c2221161005013121c510c0140132110c).1 c0
@[simp] def g2' (c0:QC):QF:=(⟨_,λ_=>by cbv⟩:F1 0x61410625c012210cb7248c070610011320dd2c041176c18015111521130011213006230c122160139c).1 c0
@[simp] def g3' (c0:QC):QF:=(⟨_,λ_=>by cbv⟩:F1 0x61410625c01221ba7247c0706000112249d2c0418015111421130011213006230c122160138c).1 c0
def allQ (con clo:Nat):QF:=⟨17,[.tmp 6],(sr [op 5 (.box (.t 2)),op 6 (.mov (.c zb))] (sr [mv 7 1,op 8 (ln' 7),mv 9 0,op 10 (bt .leq 8 9),mv 11 10,ot 11 12 (.mov (.t 1)),ot 11 13 (.mkfn clo [.t 5]),ot 11 14 (.call (.c (.fn con [])) [.t 12,.t 13]),ot 11 15 (.un .not (.t 14)),op 16 (.pick (.t 11) (.t 15) (.c zb)),mv 6 16] (.ret [6])))⟩
def anyQ (idx:Nat):QF:=⟨9,[.tmp 4],(sr [op 4 (.mov (.c zb))] (sr [mv 5 0,mv 6 1,op 7 (.call (.c (.fn idx [])) [.t 5,.t 6]),op 8 (bc .geq 7 0),mv 4 8] (.ret [4])))⟩
def cloneQ (z b:Nat)(zero:List V):QF:=⟨8,[.tmp 2],(sr [op 2 (.mov (.c zs0))] (.seq (sr [mv 3 0,op 4 (.eq .sl false (.t 3) (.c zs0))] (.cond (.t 4) (sr [op 2 (.mov (.c zs0))] (.ret [2])) .skip)) (sr [op 5 (.buildS z 0 zero []),mv 6 0,op 7 (.app z b (.t 5) (.t 6)),mv 2 7] (.ret [2]))))⟩
def wC (kd:IntKind):QC:=(.seq (sr [mv 29 5,mv 30 4,op 31 (ln' 30),op 32 (bt .lss 29 31)] (.cond (.t 32) .skip (.exit 2 [0,3]))) (.seq (.block 3 (sr [mv 35 4,mv 36 5,op 37 (ia 1 35 36),op 38 (l1' 37),mv 39 4,mv 40 5,op 41 (bc .sub 40 1),op 42 (ia 1 39 41),op 43 (l1' 42),op 44 (.eq (.sc (.i kd)) true (.t 38) (.t 43))] (.cond (.t 44) (sr [mv 45 0,mv 46 3,mv 47 4,mv 48 5,op 49 (ia 1 47 48),op 50 (l1' 49),op 51 (ia 1 45 46),so' 1 51 50] (.reg none [mv 52 3,op 53 (bc .add 52 1),mv 3 53])) .skip))) (.reg none [mv 33 5,op 34 (bc .add 33 1),mv 5 34])))
def uD (kd:IntKind):QC:=(.seq (sr [mv 10 3,mv 11 0,op 12 (ln' 11),op 13 (bt .lss 10 12)] (.cond (.t 13) .skip (.exit 0 [0]))) (.seq (.block 1 (sr [mv 16 0,mv 17 3,op 18 (ia 1 16 17),op 19 (l1' 18),mv 20 0,mv 21 3,op 22 (bc .sub 21 1),op 23 (ia 1 20 22),op 24 (l1' 23),op 25 (.eq (.sc (.i kd)) false (.t 19) (.t 24))] (.cond (.t 25) (sr [mv 26 0,mv 27 3,op 28 (.slc .sl 1 (.t 26) (some (.t 27)) none none),mv 4 28] (.seq (sr [oc' 5 1] (.block 2 (.loop [0,3,4,5] (wC kd)))) (sr [mv 54 0,mv 55 3,op 56 (.slc .sl 1 (.t 54) (some (.t 55)) none none),⟨none,none,.clear 1 [(.d (.int kd 0))] (.t 56)⟩] (sr [mv 57 0,mv 58 3,op 59 (.slc .sl 1 (.t 57) none (some (.t 58)) none),mv 2 59] (.ret [2]))))) .skip))) (.reg none [mv 14 3,op 15 (bc .add 14 1),mv 3 15])))
def cmpQ (kd:IntKind):QF:=⟨61,[.tmp 2],(sr [op 2 (.mov (.c zs0))] (.seq (sr [mv 6 0,op 7 (ln' 6),op 8 (bc .lss 7 2)] (.cond (.t 8) (sr [mv 9 0,mv 2 9] (.ret [2])) .skip)) (.seq (sr [oc' 3 1] (.block 0 (.loop [0,3] (uD kd)))) (sr [mv 60 0,mv 2 60] (.ret [2])))))⟩
def Dc (z:Nat)(zero:List V):QC:=(sr [op 18 (bt .lss 17 16)] (.seq (.cond (.t 18) .skip (.exit 0 [])) (.seq (.block 1 (sr [mv 19 17,op 20 (.idxA none z (.t 15) (.t 17)),op 21 (.load false z (.t 20)),op 8 (.new zero),mv 7 19,⟨none,none,.store z (.t 8) (.t 21)⟩] (sr [mv 22 1,mv 23 7,op 24 (.idxA none z (.t 22) (.t 23)),op 25 (.load false z (.t 24)),op 9 (.new zero),⟨none,none,.store z (.t 9) (.t 25)⟩] (sr [mv 26 2,op 27 (.load false z (.t 8)),op 28 (.load false z (.t 9)),op 29 (kt' 26 [.t 27,.t 28]),op 30 (.un .not (.t 29))] (.cond (.t 30) (sr [op 6 (.mov (.c zb))] (.ret [6])) .skip))))) (.reg none [op 31 (bc .add 17 1),mv 17 31]))))
def eqfQ (z:Nat)(zero:List V):QF:=⟨32,[.tmp 6],(sr [op 6 (.mov (.c zb))] (.seq (sr [mv 10 0,op 11 (ln' 10),mv 12 1,op 13 (ln' 12),op 14 (.eq (.sc (.i .i64)) true (.t 11) (.t 13))] (.cond (.t 14) (sr [op 6 (.mov (.c zb))] (.ret [6])) .skip)) (.seq (sr [mv 15 0,op 16 (ln' 15),oc' 17 0] (.block 0 (.loop [1,2,15,16,17] (Dc z zero)))) (sr [op 6 (.mov (.c (.d (.bool true))))] (.ret [6])))))⟩
def wG (k:EQ):QC:=(sr [op 14 (bt .lss 13 12)] (.seq (.cond (.t 14) .skip (.exit 0 [])) (.seq (.block 1 (sr [mv 15 13,mv 5 15] (sr [mv 16 0,mv 17 5,op 18 (ia 1 16 17),op 19 (l1' 18),mv 20 1,mv 21 5,op 22 (ia 1 20 21),op 23 (l1' 22),op 24 (.eq k true (.t 19) (.t 23))] (.cond (.t 24) (sr [op 4 (.mov (.c zb))] (.ret [4])) .skip)))) (.reg none [op 25 (bc .add 13 1),mv 13 25]))))
def eql1Q (k:EQ):QF:=⟨26,[.tmp 4],(sr [op 4 (.mov (.c zb))] (.seq (sr [mv 6 0,op 7 (ln' 6),mv 8 1,op 9 (ln' 8),op 10 (.eq (.sc (.i .i64)) true (.t 7) (.t 9))] (.cond (.t 10) (sr [op 4 (.mov (.c zb))] (.ret [4])) .skip)) (.seq (sr [mv 11 0,op 12 (ln' 11),oc' 13 0] (.block 0 (.loop [0,1,12,13] (wG k)))) (sr [op 4 (.mov (.c (.d (.bool true))))] (.ret [4])))))⟩
def De (z:Nat)(k:EQ):QC:=(sr [op 14 (bt .lss 13 12)] (.seq (.cond (.t 14) .skip (.exit 0 [])) (.seq (.block 1 (sr [mv 15 13,mv 5 15] (sr [mv 16 0,mv 17 5,op 18 (.idxA none z (.t 16) (.t 17)),op 19 (.load false z (.t 18)),mv 20 1,mv 21 5,op 22 (.idxA none z (.t 20) (.t 21)),op 23 (.load false z (.t 22)),op 24 (.eq k true (.t 19) (.t 23))] (.cond (.t 24) (sr [op 4 (.mov (.c zb))] (.ret [4])) .skip)))) (.reg none [op 25 (bc .add 13 1),mv 13 25]))))
def eqlQ (z:Nat)(k:EQ):QF:=⟨26,[.tmp 4],(sr [op 4 (.mov (.c zb))] (.seq (sr [mv 6 0,op 7 (ln' 6),mv 8 1,op 9 (ln' 8),op 10 (.eq (.sc (.i .i64)) true (.t 7) (.t 9))] (.cond (.t 10) (sr [op 4 (.mov (.c zb))] (.ret [4])) .skip)) (.seq (sr [mv 11 0,op 12 (ln' 11),oc' 13 0] (.block 0 (.loop [0,1,12,13] (De z k)))) (sr [op 4 (.mov (.c (.d (.bool true))))] (.ret [4])))))⟩
def wO:QC:=(sr [op 9 (bt .lss 8 7)] (.seq (.cond (.t 9) .skip (.exit 0 [])) (.seq (.block 1 (sr [mv 10 8,mv 5 10] (sr [mv 11 1,mv 12 0,mv 13 5,op 14 (ia 1 12 13),op 15 (l1' 14),op 16 (kt' 11 [.t 15])] (.cond (.t 16) (sr [mv 17 5,mv 4 17] (.ret [4])) .skip)))) (.reg none [op 18 (bc .add 8 1),mv 8 18]))))
def idx1Q:QF:=⟨19,[.tmp 4],(sr [oc' 4 0] (.seq (sr [mv 6 0,op 7 (ln' 6),oc' 8 0] (.block 0 (.loop [0,1,7,8] wO))) (sr [op 4 (.mov (.c (.d (.int .i64 (-1)))))] (.ret [4]))))⟩
def Df (z:Nat):QC:=(sr [op 9 (bt .lss 8 7)] (.seq (.cond (.t 9) .skip (.exit 0 [])) (.seq (.block 1 (sr [mv 10 8,mv 5 10] (sr [mv 11 1,mv 12 0,mv 13 5,op 14 (.idxA none z (.t 12) (.t 13)),op 15 (.load false z (.t 14)),op 16 (kt' 11 [.t 15])] (.cond (.t 16) (sr [mv 17 5,mv 4 17] (.ret [4])) .skip)))) (.reg none [op 18 (bc .add 8 1),mv 8 18]))))
def idxQ (z:Nat):QF:=⟨19,[.tmp 4],(sr [oc' 4 0] (.seq (sr [mv 6 0,op 7 (ln' 6),oc' 8 0] (.block 0 (.loop [0,1,7,8] (Df z)))) (sr [op 4 (.mov (.c (.d (.int .i64 (-1)))))] (.ret [4]))))⟩
def not1Q:QF:=⟨8,[.tmp 3],(sr [op 3 (.mov (.c zb))] (sr [op 4 (l1' 1),mv 5 0,op 6 (kt' 4 [.t 5]),op 7 (.un .not (.t 6)),mv 3 7] (.ret [3])))⟩
def notQ (z:Nat):QF:=⟨8,[.tmp 3],(sr [op 2 (.box (.t 0)),op 3 (.mov (.c zb))] (sr [op 4 (l1' 1),op 5 (.load false z (.t 2)),op 6 (kt' 4 [.t 5]),op 7 (.un .not (.t 6)),mv 3 7] (.ret [3])))⟩
def xz (z:Nat):QC:=(sr [op 9 (bt .lss 8 7)] (.seq (.cond (.t 9) .skip (.exit 0 [])) (.seq (.block 1 (sr [mv 10 8,mv 5 10] (.seq (.reg (some [[],[0],[1,0],[2,1,0],[2,1,0],[2,1,0],[5,2,1,0],[4,6,5,2,1,0],[7,4,6,5,2,1,0],[3,8,7,4,6,5,2,1,0],[2,1,0],[2,1,0],[2,1,0],[11,12,2,1,0],[13,11,12,2,1,0],[10,14,13,11,12,9,3,8,7,4,6,5,2,1,0],[15,10,14,13,11,12,9,3,8,7,4,6,5,2,1,0],[16,15,10,14,13,11,12,9,3,8,7,4,6,5,2,1,0]]) [mv 11 5,op 12 (bc .gtr 11 0),mv 13 12,ot 13 14 (.mov (.t 1)),ot 13 15 (.mov (.t 0)),ot 13 16 (.mov (.t 5)),ot 13 17 (bc .sub 16 1),ot 13 18 (.idxA none z (.t 15) (.t 17)),ot 13 19 (.load false z (.t 18)),ot 13 20 (kt' 14 [.t 19]),ot 13 21 (.mov (.t 1)),ot 13 22 (.mov (.t 0)),ot 13 23 (.mov (.t 5)),ot 13 24 (.idxA none z (.t 22) (.t 23)),ot 13 25 (.load false z (.t 24)),ot 13 26 (kt' 21 [.t 25]),ot 13 27 (bt .geq 20 26),op 28 (.pick (.t 13) (.t 27) (.c zb))]) (.cond (.t 28) (sr [op 4 (.mov (.c zb))] (.ret [4])) .skip)))) (.reg none [op 29 (bc .add 8 1),mv 8 29]))))
def risQ (z:Nat):QF:=⟨30,[.tmp 4],(sr [op 4 (.mov (.c zb))] (.seq (sr [mv 6 0,op 7 (ln' 6),oc' 8 0] (.block 0 (.loop [0,1,7,8] (xz z)))) (sr [op 4 (.mov (.c (.d (.bool true))))] (.ret [4]))))⟩
def someQ (con:Nat):QF:=⟨8,[.tmp 4],(sr [op 4 (.mov (.c zb))] (sr [mv 5 0,mv 6 1,op 7 (.call (.c (.fn con [])) [.t 5,.t 6]),mv 4 7] (.ret [4])))⟩
def takeQ (Z:D):QF:=⟨42,[.tmp 4],(sr [op 4 (.mov (.c (.d Z)))] (.seq (sr [mv 6 0,op 7 (.eq .ptr false (.t 6) (.c (.d .nilp))),mv 8 7,ow 8 9 (.mov (.t 0)),ow 8 10 (.nilchk (.t 9)),ow 8 11 (fa 10 1),ow 8 12 (l1' 11),op 13 (.pick (.t 8) (.c (.d (.bool true))) (.t 12))] (.cond (.t 13) (sr [mv 14 4,mv 4 14] (.ret [4])) .skip)) (sr [mv 16 1,mv 17 0,op 18 (.nilchk (.t 17)),op 19 (fa 18 0),op 20 (l1' 19),op 21 (kt' 16 [.t 20]),mv 15 21,op 22 (.ext (.t 15) 0),op 23 (.ext (.t 15) 1),mv 4 22,mv 5 23] (.seq (sr [mv 24 5,op 25 (bc .lss 24 0)] (.cond (.t 25) (sr [mv 26 0,op 27 (.nilchk (.t 26)),op 28 (fa 27 1),⟨none,none,.store 1 (.t 28) (.c (.d (.bool true)))⟩] (sr [nw 29 [(.d Z)],op 30 (.nilchk (.t 29)),op 31 (l1' 30),mv 4 31] (.ret [4]))) .skip)) (sr [mv 32 0,mv 33 0,op 34 (.nilchk (.t 33)),op 35 (fa 34 0),op 36 (l1' 35),mv 37 5,op 38 (.slc .sl 1 (.t 36) (some (.t 37)) none none),op 39 (.nilchk (.t 32)),op 40 (fa 39 0),so' 1 40 38] (sr [mv 41 4,mv 4 41] (.ret [4])))))))⟩
def uy:QC:=(sr [op 16 (bt .lss 15 14)] (.seq (.cond (.t 16) .skip (.exit 0 [])) (.seq (.block 1 (sr [op 17 (ia 1 13 15),op 18 (l1' 17),mv 7 18] (.reg none [mv 19 2,mv 20 0,mv 21 7,op 22 (kt' 19 [.t 20,.t 21])]))) (.reg none [op 23 (bc .add 15 1),mv 15 23]))))
def wput1Q:QF:=⟨24,[],(sr [mv 8 0,mv 9 1,op 10 (ln' 9),op 11 (.convI .u64 (.t 10)),op 12 (kc' 133 [.t 8,.t 11])] (sr [mv 13 1,op 14 (ln' 13),oc' 15 0] (.block 0 (.loop [0,2,13,14,15] uy))))⟩
def yZ (z:Nat)(zero:List V):QC:=(sr [op 16 (bt .lss 15 14)] (.seq (.cond (.t 16) .skip (.exit 0 [])) (.seq (.block 1 (sr [op 17 (.idxA none z (.t 13) (.t 15)),op 18 (.load false z (.t 17)),op 7 (.new zero),⟨none,none,.store z (.t 7) (.t 18)⟩] (.reg none [mv 19 2,mv 20 0,op 21 (.load false z (.t 7)),op 22 (kt' 19 [.t 20,.t 21])]))) (.reg none [op 23 (bc .add 15 1),mv 15 23]))))
def wputQ (z:Nat)(zero:List V):QF:=⟨24,[],(sr [mv 8 0,mv 9 1,op 10 (ln' 9),op 11 (.convI .u64 (.t 10)),op 12 (kc' 133 [.t 8,.t 11])] (sr [mv 13 1,op 14 (ln' 13),oc' 15 0] (.block 0 (.loop [0,2,13,14,15] (yZ z zero)))))⟩
end
section
section
variable (E:Calls')(T:FuncId->Option QF)(val:FuncId->Bool)
noncomputable def Fp (b:QC) (o:dx):dx:=dM o λe h=>Cd E T val b e h
noncomputable def Jg (v:V) (a b:QC) (e:EA) (h:Hp):dx:=fork v (Cd E T val a e h) (Cd E T val b e h)
def bH (l:List Nat)(W:EA->Hp->dx)(o:dx):dx:=dM o λe h=>W (bq l e) h
def Cq (C:Calls')(os:List RO)(e:EA)(d:Option Nat)(o:Option (V×Hp)):Option (EA×Hp):=match o with
 | some (v,h')=>iD C os (bX e d v) h'
 | none=>none
def yI (C:Calls')(v:V)(w:Bool)(d:Option Nat)(r:R)(os:List RO)(e:EA)(h:Hp):Option (EA×Hp):=match v with
 | .d (.bool t)=>if t=w then Cq C os e d (opE C r (X.ea e) h) else iD C os (bX e d (.tup [])) h
 | .tup []=>iD C os (bX e d (.tup [])) h
 | _=>none
variable {E T val}
theorem aB (l:List Nat)(b:QC)(e:EA)(h:Hp):Cd E T val (.loop l b) e h=bH l (Cd E T val (.loop l b)) (Cd E T val b (bq l e) h):=by
 rw [za,bH]
 congr 1
 funext e h;exact ai
@[simp] theorem Y3 {a b:QC}{e:EA}{h:Hp}:Cd E T val (.seq a b) e h=Fp E T val b (Cd E T val a e h):=P7
@[simp] theorem Ua {c:X}{a b:QC}{e:EA}{h:Hp}:Cd E T val (.cond c a b) e h=Jg E T val (c.ea e) a b e h:=K7
attribute [simp] La P6 K8 P5 K9 Ii
section
variable {e:EA}{h:Hp}{i j:Nat}{a b:QC}{l:List Nat}{W:EA->Hp->dx}
@[simp] theorem ZZ:Fp E T val b (some (.normal,e,h))=Cd E T val b e h:=(rfl)
@[simp] theorem Z4:Fp E T val b (some (.ret,e,h))=some (.ret,e,h):=(rfl)
@[simp] theorem Z5:Fp E T val b (some (.exit i,e,h))=some (.exit i,e,h):=(rfl)
@[simp] theorem Vz:bH l W (some (.normal,e,h))=W (bq l e) h:=(rfl)
@[simp] theorem VA:bH l W (some (.ret,e,h))=some (.ret,e,h):=(rfl)
@[simp] theorem VB:bH l W (some (.exit i,e,h))=some (.exit i,e,h):=(rfl)
@[simp] theorem Zj:Jg E T val (.d (.bool true)) a b e h=Cd E T val a e h:=(rfl)
@[simp] theorem Zi:Jg E T val (.d (.bool false)) a b e h=Cd E T val b e h:=(rfl)
@[simp] theorem Zu:leave i (some (.normal,e,h))=some (.normal,e,h):=(rfl)
@[simp] theorem Zv:leave i (some (.ret,e,h))=some (.ret,e,h):=(rfl)
@[simp] theorem Zw:leave i (some (.exit j,e,h))=if j=i then some (.normal,e,h) else some (.exit j,e,h):=(rfl)
@[simp] theorem Js:lead (some (e,h))=some (.normal,e,h):=(rfl)
end
section
variable {C:Calls'}{os:List RO}{e:EA}{d:Option Nat}{r:R}{v:V}{h h':Hp}
@[simp] theorem ZY:Cq C os e d (some (v,h'))=iD C os (bX e d v) h':=(rfl)
@[simp] theorem Zr:yI C (.d (.bool true)) true d r os e h=Cq C os e d (opE C r (X.ea e) h):=(rfl)
@[simp] theorem Zq:yI C (.d (.bool true)) false d r os e h=iD C os (bX e d (.tup [])) h:=(rfl)
@[simp] theorem Zp:yI C (.d (.bool false)) true d r os e h=iD C os (bX e d (.tup [])) h:=(rfl)
@[simp] theorem Zo:yI C (.d (.bool false)) false d r os e h=Cq C os e d (opE C r (X.ea e) h):=(rfl)
@[simp] theorem ar8 {w:Bool}:yI C (.tup []) w d r os e h=iD C os (bX e d (.tup [])) h:=(rfl)
end
end
def fin (res:List RV)(o:dx):Option (V×Hp) :=
 match o with
 | some (.normal,e,h) | some (.ret,e,h)=>match nI h e res with
  | some vs=>some (dB vs,h)
  | none=>none
 | _=>none
theorem ae {E:Calls'}{T:FuncId->Option QF}{val:FuncId->Bool}{n:Nat}{res:List RV}{c:QC}{args:List V}{h:Hp}:Bd E T val ⟨n,res,c⟩ args h=fin res (Cd E T val c (jY 0 args) h):=(rfl)
section
variable {res:List RV}{e:EA}{h:Hp}{i:Nat}
@[simp] theorem cj0:fin res (some (.normal,e,h))=match nI h e res with | some vs=>some (dB vs,h) | none=>none:=(rfl)
@[simp] theorem cj1:fin res (some (.ret,e,h))=match nI h e res with | some vs=>some (dB vs,h) | none=>none:=(rfl)
end
@[simp] theorem cj9 {a:EA}{i:Nat}:X.ea a (.t i)=a.get i:=(rfl)
@[simp] theorem cj8 {a:EA}{v:V}:X.ea a (.c v)=v:=(rfl)
@[simp] theorem Zt {i:Nat}:EA.get [] i=.undef:=(rfl)
@[simp] theorem Jk {j:Nat}{v:V}{l:EA}{i:Nat}:EA.get ((j,v)::l) i=if j=i then v else EA.get l i:=(rfl)
@[simp] theorem ba5 {e:EA}{i:Nat}{v:V}:bX e (some i) v=(i,v)::e:=(rfl)
@[simp] theorem ba4 {e:EA}{v:V}:bX e none v=e:=(rfl)
@[simp] theorem Gd {e:EA}:bq [] e=[]:=(rfl)
@[simp] theorem Dh {i:Nat}{l:List Nat}{e:EA}:bq (i::l) e=(i,e.get i)::bq l e:=(rfl)
@[simp] theorem Tx {i:Nat}:jY i []=[]:=(rfl)
@[simp] theorem Qv {i:Nat}{v:V}{l:List V}:jY i (v::l)=(i,v)::jY (i+1) l:=(rfl)
section
variable {b o l z:Nat}{c:Option Nat}{x:D}{cs:List D}{vs:List V}{f:FuncId}
@[simp] theorem ck0:nu (.d x)=some (.d x):=(rfl)
@[simp] theorem at7:nu (.ptr b o)=some (.ptr b o):=(rfl)
@[simp] theorem Zz:nu (.eptr cs o)=some (.eptr cs o):=(rfl)
@[simp] theorem au0:nu (.row b o l c z)=some (.row b o l c z):=(rfl)
@[simp] theorem at6:nu (.mfn f vs)=some (.mfn f vs):=(rfl)
@[simp] theorem cj4:nu (.fn f vs)=some (.fn f vs):=(rfl)
@[simp] theorem at5:nu (.agg vs)=some (.agg vs):=(rfl)
@[simp] theorem au1:nu (.tup vs)=some (.tup vs):=(rfl)
@[simp] theorem cj5:okV (.d x)=true:=(rfl)
@[simp] theorem ZC:okV (.ptr b o)=true:=(rfl)
@[simp] theorem Wp:okV (.eptr cs o)=true:=(rfl)
@[simp] theorem ZE:okV (.row b o l c z)=true:=(rfl)
@[simp] theorem ZB:okV (.mfn f vs)=true:=(rfl)
@[simp] theorem au3:okV (.fn f vs)=true:=(rfl)
@[simp] theorem ZA:okV (.agg vs)=true:=(rfl)
@[simp] theorem ZF:okV (.tup vs)=true:=(rfl)
end
def eqS (a b:ByteArray):Bool:=a.toList==b.toList
def ldv (h:Hp)(v:V)(n:Nat)(sc:Bool):Option (V×Hp):=match loadAt h v n with
 | some cs=>(mk sc cs).map (·,h)
 | none=>none
def stv (h:Hp)(a x:V)(n:Nat):Option (V×Hp):=match x.cells with
 | some xs=>if xs.length=n/\0<n then (storeAt h a xs).map (.undef,·) else none
 | none=>none
def eY (arr:Option Nat)(z:Nat)(x i:V)(h:Hp):Option (V×Hp):=match i,arr,x with
 | .d (.int _ i),none,.d (.slice _ es)=>if 0<=i then (match es[i.toNat]? with | some c=>if c.length=z then some (.eptr c 0,h) else none | none=>none) else none
 | .d (.int _ i),none,.row b o len _ z'=>if 0<=i/\i<len/\z'=z then some (.ptr b (o+i.toNat * z),h) else none
 | .d (.int _ i),some n,.ptr b o=>if 0<=i/\i<n then some (.ptr b (o+i.toNat * z),h) else none
 | .d (.int _ i),some n,.eptr cs o=>if 0<=i/\i<n then some (.eptr cs (o+i.toNat * z),h) else none
 | _,_,_=>none
def zy (h:Hp)(v:V):Option (V×Hp):=match v.cells with
 | some cs=>some (.ptr h.size 0,h.alloc cs)
 | none=>none
def dY (h:Hp)(z b:Nat)(s x:V):Option (V×Hp):=match aF h x z with
 | some (m,xs)=>aI h z b s m xs
 | none=>none
def pW (st:Bool)(v:V)(h:Hp):Option (V×Hp):=match v.len st with
 | some n=>some (.d (.int .i64 n),h)
 | none=>none
def eqv (k:EQ)(neg:Bool)(x y:V)(h:Hp):Option (V×Hp):=match jd k x y with
 | some b=>some (.d (.bool (b != neg)),h)
 | none=>none
def V4 (sc:Bool)(v:V)(off n:Nat)(h:Hp):Option (V×Hp):=match v with
 | .agg cs=>match sub cs off n with
  | some l=>(mk sc l).map (·,h)
  | none=>none
 | _=>none
def Jf (v:V)(off:Nat)(h:Hp):Option (V×Hp):=match v with
 | .ptr b o=>some (.ptr b (o+off),h)
 | .eptr cs o=>some (.eptr cs (o+off),h)
 | _=>none
def OY (c a b:V)(h:Hp):Option (V×Hp):=match c with
 | .d (.bool t)=>(nu (if t then a else b)).map (·,h)
 | _=>none
def VW (v:V)(i:Nat)(h:Hp):Option (V×Hp):=match v with
 | .tup vs=>vs[i]?.map (·,h)
 | _=>none
section
variable {C:Calls'}{ev:X->V}{h:Hp}
@[simp] theorem ZO {x:X}:opE C (.mov x) ev h=(nu (ev x)).map (·,h):=(rfl)
@[simp] theorem WG {c a b:X}:opE C (.pick c a b) ev h=OY (ev c) (ev a) (ev b) h:=(rfl)
@[simp] theorem ZP {z:List V}:opE C (.new z) ev h=some (.ptr h.size 0,h.alloc z):=(rfl)
@[simp] theorem ZK {x:X}:opE C (.box x) ev h=zy h (ev x):=(rfl)
@[simp] theorem TQ {z:List V}{ps:List (Nat×Nat×X)}:opE C (.build z ps) ev h=match az ev z ps with
 | some cs=>some (.agg cs,h)
 | none=>none:=(rfl)
@[simp] theorem Dl {z n:Nat}{ze:List V}{ps:List (Nat×Nat×X)}:opE C (.buildS z n ze ps) ev h=match az ev (List.replicate n ze).flatten ps with
 | some cs=>some (.row h.size 0 n (some n) z,h.alloc cs)
 | none=>none:=(rfl)
@[simp] theorem WE {sc:Bool}{n:Nat}{a:X}:opE C (.load sc n a) ev h=ldv h (ev a) n sc:=(rfl)
@[simp] theorem Gu {n:Nat}{a x:X}:opE C (.store n a x) ev h=stv h (ev a) (ev x) n:=(rfl)
@[simp] theorem ZJ {op:BinOp}{x y:X}:opE C (.bin op x y) ev h=one (bK op (ev x) (ev y)) h:=(rfl)
@[simp] theorem au4 {k:EQ}{neg:Bool}{x y:X}:opE C (.eq k neg x y) ev h=eqv k neg (ev x) (ev y) h:=(rfl)
@[simp] theorem au5 {op:UnOp}{x:X}:opE C (.un op x) ev h=one (unD op (ev x)) h:=(rfl)
@[simp] theorem WB {x:X}{o:Nat}:opE C (.fldA x o) ev h=Jf (ev x) o h:=(rfl)
@[simp] theorem ZM {sc:Bool}{x:X}{o n:Nat}:opE C (.fld sc x o n) ev h=V4 sc (ev x) o n h:=(rfl)
@[simp] theorem BJ {a:Option Nat}{z:Nat}{x i:X}:opE C (.idxA a z x i) ev h=eY a z (ev x) (ev i) h:=(rfl)
@[simp] theorem ZQ {k:SK}{z:Nat}{x:X}{lo hi mx:Option X}:opE C (.slc k z x lo hi mx) ev h=(bM h ev k z (ev x) lo hi mx).map (·,h):=(rfl)
@[simp] theorem JE {f:FuncId}{caps:List X}:opE C (.mkmv f caps) ev h=if caps.all (λx=>okV (ev x))=true then some (.mfn f (caps.map ev),h) else none:=(rfl)
@[simp] theorem JD {f:FuncId}{caps:List X}:opE C (.mkfn f caps) ev h=if caps.all (λx=>okV (ev x))=true then some (.fn f (caps.map ev),h) else none:=(rfl)
@[simp] theorem ZL {x:X}{i:Nat}:opE C (.ext x i) ev h=VW (ev x) i h:=(rfl)
@[simp] theorem BI {f:X}{args:List X}:opE C (.call f args) ev h=if args.all (λx=>okV (ev x))=true then gG C (ev f) (args.map ev) h else none:=(rfl)
@[simp] theorem ZI {z b:Nat}{s x:X}:opE C (.app z b s x) ev h=dY h z b (ev s) (ev x):=(rfl)
@[simp] theorem ZN {st:Bool}{x:X}:opE C (.len st x) ev h=pW st (ev x) h:=(rfl)
@[simp] theorem WH {e:EA}:iD C [] e h=some (e,h):=(rfl)
@[simp] theorem TW {d:Option Nat}{r:R}{os:List RO}{e:EA}:iD C (⟨none,d,r⟩::os) e h=Cq C os e d (opE C r (X.ea e) h):=(rfl)
@[simp] theorem au {j:Nat}{w:Bool}{d:Option Nat}{r:R}{os:List RO}{e:EA}:iD C (⟨some (j,w),d,r⟩::os) e h=yI C (e.get j) w d r os e h:=(rfl)
@[simp] theorem FQ {f:FuncId}{first args:List V}:gG C (.mfn f first) args h=C f (first++args) h:=(rfl)
@[simp] theorem jM {f:FuncId}{caps args:List V}:gG C (.fn f caps) args h=C f (args++caps) h:=(rfl)
@[simp] theorem ar1 {x:D}:zy h (.d x)=some (.ptr h.bs.length 0,h.alloc [.d x]):=(rfl)
@[simp] theorem VG {b o:Nat}:zy h (.ptr b o)=some (.ptr h.bs.length 0,h.alloc [.ptr b o]):=(rfl)
@[simp] theorem VH {b o l z:Nat}{c:Option Nat}:zy h (.row b o l c z)=some (.ptr h.bs.length 0,h.alloc [.row b o l c z]):=(rfl)
@[simp] theorem VF {f:FuncId}{c:List V}:zy h (.mfn f c)=some (.ptr h.bs.length 0,h.alloc [.mfn f c]):=(rfl)
@[simp] theorem Ze {f:FuncId}{c:List V}:zy h (.fn f c)=some (.ptr h.bs.length 0,h.alloc [.fn f c]):=(rfl)
@[simp] theorem VE {cs:List V}:zy h (.agg cs)=some (.ptr h.bs.length 0,h.alloc cs):=(rfl)
@[simp] theorem TC {b o n:Nat}:Jf (.ptr b o) n h=some (.ptr b (o+n),h):=(rfl)
@[simp] theorem QO {cs:List D}{o n:Nat}:Jf (.eptr cs o) n h=some (.eptr cs (o+n),h):=(rfl)
@[simp] theorem dw {b o n:Nat}{sc:Bool}:ldv h (.ptr b o) n sc=match (match h.get b with | some cs=>sub cs o n | none=>none) with
 | some cs=>(mk sc cs).map (·,h)
 | none=>none:=(rfl)
@[simp] theorem Wh {cs:List D}{o n:Nat}{sc:Bool}:ldv h (.eptr cs o) n sc=match (sub cs o n).map (·.map .d) with
 | some cs=>(mk sc cs).map (·,h)
 | none=>none:=(rfl)
@[simp] theorem as8 {v:V}:mk true [v]=some v:=(rfl)
@[simp] theorem as7 {cs:List V}:mk false cs=some (.agg cs):=(rfl)
@[simp] theorem ZR {t:Bool}{a b:V}:OY (.d (.bool t)) a b h=(nu (if t then a else b)).map (·,h):=(rfl)
@[simp] theorem as5 {nl:Bool}{es:List (List D)}:pW false (.d (.slice nl es)) h=some (.d (.int .i64 es.length),h):=(rfl)
@[simp] theorem Wi {b o l z:Nat}{c:Option Nat}:pW false (.row b o l c z) h=some (.d (.int .i64 l),h):=(rfl)
@[simp] theorem as6 {s:ByteArray}:pW true (.d (.str s)) h=some (.d (.int .i64 s.size),h):=(rfl)
@[simp] theorem ar6 {vs:List V}{i:Nat}:VW (.tup vs) i h=vs[i]?.map (·,h):=(rfl)
@[simp] theorem ar7 {cs:List V}{sc:Bool}{o n:Nat}:V4 sc (.agg cs) o n h=match sub cs o n with
 | some l=>(mk sc l).map (·,h)
 | none=>none:=(rfl)
@[simp] theorem cj6 {d:D}:one (some d) h=some (.d d,h):=(rfl)
@[simp] theorem ci8 {a b neg:Bool}:eqv (.sc .b) neg (.d (.bool a)) (.d (.bool b)) h=some (.d (.bool ((a==b) != neg)),h):=(rfl)
@[simp] theorem VV {k:IntKind}{a b:Int}{neg:Bool}:eqv (.sc (.i k)) neg (.d (.int k a)) (.d (.int k b)) h=some (.d (.bool ((a==b) != neg)),h):=by simp [eqv,jd,oh]
@[simp] theorem ci9 {a b:ByteArray}{neg:Bool}:eqv (.sc .s) neg (.d (.str a)) (.d (.str b)) h=some (.d (.bool (eqS a b != neg)),h):=(rfl)
@[simp] theorem QL {b o l z:Nat}{c:Option Nat}{neg:Bool}:eqv .sl neg (.row b o l c z) (.d (.slice true [])) h=some (.d (.bool (false != neg)),h):=(rfl)
@[simp] theorem Zg {nl:Bool}{es:List (List D)}{neg:Bool}:eqv .sl neg (.d (.slice nl es)) (.d (.slice true [])) h=some (.d (.bool (nl != neg)),h):=(rfl)
end
section
variable {k:IntKind}{a b:Int}
@[simp] theorem Y4:bK .add (.d (.int k a)) (.d (.int k b))=some (.int k (k.wrap (a+b))):=by simp [bK,fB]
@[simp] theorem Y9:bK .sub (.d (.int k a)) (.d (.int k b))=some (.int k (k.wrap (a-b))):=by simp [bK,fB]
@[simp] theorem Y8:bK .lss (.d (.int k a)) (.d (.int k b))=some (.bool (decide (a<b))):=by simp [bK,fB]
@[simp] theorem Y7:bK .leq (.d (.int k a)) (.d (.int k b))=some (.bool (decide (a<=b))):=by simp [bK,fB]
@[simp] theorem Y6:bK .gtr (.d (.int k a)) (.d (.int k b))=some (.bool (decide (a>b))):=by simp [bK,fB]
@[simp] theorem Y5:bK .geq (.d (.int k a)) (.d (.int k b))=some (.bool (decide (a>=b))):=by simp [bK,fB]
@[simp] theorem bq0 {t:Bool}:unD .not (.d (.bool t))=some (.bool !t):=(rfl)
end
theorem iy {α:Type}{cs:List α}{o n:Nat}:sub cs o n=if o+n<=cs.length then some ((cs.drop o).take n) else none:=(rfl)
@[simp] theorem XM {h:Hp}{e:EA}:nI h e []=some []:=(rfl)
@[simp] theorem XN {h:Hp}{e:EA}{t:Nat}{l:List RV}:nI h e (.tmp t::l)=match nu (e.get t),nI h e l with
 | some v,some vs=>some (v::vs)
 | _,_=>none:=(rfl)
@[simp] theorem TY {h:Hp}{e:EA}{t n:Nat}{sc:Bool}{l:List RV}:nI h e (.cell t sc n::l)=match loadAt h (e.get t) n with
 | some cs=>match mk sc cs,nI h e l with
  | some v,some vs=>some (v::vs)
  | _,_=>none
 | none=>none:=(rfl)
@[simp] theorem wS {h:Hp}{b o n:Nat}:loadAt h (.ptr b o) n=match h.get b with | some cs=>sub cs o n | none=>none:=(rfl)
@[simp] theorem TZ {v:V}:dB [v]=v:=(rfl)
@[simp] theorem T9 {v w:V}{l:List V}:dB (v::w::l)=.tup (v::w::l):=(rfl)
theorem wrap64 {n:Int}(h1:-(2 ^ 63)<=n)(h2:n<2 ^ 63):IntKind.wrap .i64 n=n:=by
 simp [IntKind.wrap,IntKind.bits,IntKind.signed];omega
theorem bB {α:Type}{l:List α}{n:Nat}(h:l.length=n):sub l 0 n=some l:=by subst h; simp [sub]
theorem fM (h:Hp)(k:Nat):∀ (l:List D),(l.map V.d).mapM (dataV h k)=some l
 | []=>rfl
 | x::l=>by
  have:=fM h k l;cases k<;>simp [List.mapM_cons,dataV,this]
theorem EH (h:Hp)(l:List D):frz h (.agg (l.map .d))=some (.agg (l.map .d)):=by
 simp only [frz,dh,cK,fM]
theorem OO (h:Hp)(d:D):frz h (.d d)=some (.d d):=by simp [frz,dh,dataV]
theorem JQ (l:List D):fI (.agg (l.map .d))=true:=by
 simp only [fI,cm];intro x hx;obtain ⟨y,_,rfl⟩:=cd.1 hx;rfl
@[simp] theorem ky {h:Hp}{k:Nat}{d:D}:dataV h k (.d d)=some d:=by cases k<;>rfl
def aa (bs:List Blk)(b:Nat):Option (List V):=match bs[b]? with
 | some (.cells cs)=>some cs
 | _=>none
@[simp] theorem get_eq {h:Hp}{b:Nat}:h.get b=aa h.bs b:=(rfl)
@[simp] theorem tJ {cs:List V}{bs:List Blk}:aa (.cells cs::bs) 0=some cs:=(rfl)
@[simp] theorem FZ {x:Blk}{bs:List Blk}{i:Nat}:aa (x::bs) (i+1)=aa bs i:=by simp [aa]
@[simp] theorem gu {bs ys:List Blk}:aa (bs++ys) bs.length=aa ys 0:=by unfold aa; rw [bj (bo _),Nat.sub_self]
@[simp] theorem gK {bs ys:List Blk}{i:Nat}:aa (bs++ys) (bs.length+i)=aa ys i:=by unfold aa; rw [bj (Nat.le_add_right _ _),Nat.add_sub_cancel_left]
theorem EI {bs ys:List Blk}{i:Nat}(h:i<bs.length):aa (bs++ys) i=aa bs i:=by simp [aa,am h]
theorem ay {bs ys:List Blk}{i:Nat}{cs:List V}(h:aa bs i=some cs):aa (bs++ys) i=some cs:=by
 rw [EI,h];unfold aa at h;split at h
 . rename_i h1;exact (bx.1 h1).1
 . cases h
theorem aN {bs:List Blk}{i:Nat}{cs:List V}(h:aa bs i=some cs):i<bs.length:=by
 unfold aa at h;split at h
 . rename_i h1;exact (bx.1 h1).1
 . cases h
@[simp] theorem alloc_eq {bs:List Blk}{l:Nat}{cs:List V}:Hp.alloc ⟨bs,l⟩ cs=⟨bs++[.cells cs],l⟩:=(rfl)
@[simp] theorem size_eq {h:Hp}:h.size=h.bs.length:=(rfl)
@[simp] theorem ba6 {bs ys:List Blk}{l:Nat}{cs:List V}:Hp.set ⟨bs++ys,l⟩ bs.length cs=⟨bs++ys.set 0 (.cells cs),min l bs.length⟩:=by simp [Hp.set]
@[simp] theorem ZV {bs ys:List Blk}{l i:Nat}{cs:List V}:Hp.set ⟨bs++ys,l⟩ (bs.length+i) cs=⟨bs++ys.set i (.cells cs),min l (bs.length+i)⟩:=by simp [Hp.set]
theorem ZX {ys:List Blk}{l i:Nat}{cs:List V}:Hp.set ⟨ys,l⟩ i cs=⟨ys.set i (.cells cs),min l i⟩:=(rfl)
@[simp] theorem eu {h h':Hp}{r:V}:fC h (some (r,h'))=if h.bs.length<=h'.low/\r.under h.bs.length=true then some (r,h) else some (r,⟨h'.bs,min h.low h'.low⟩):=(rfl)
def El (args:List V)(h h':Hp)(r:V)(o:Option V):Option (V×Hp):=match o with
 | some r'=>if args.all fI=true\/ownR h' r=true then some (r',h) else none
 | none=>none
def Cx (args:List V)(h:Hp)(o:Option (V×Hp)):Option (V×Hp):=match o with
 | some (r,h')=>El args h h' r (frz h' r)
 | none=>none
noncomputable def Tt (E:Calls') (T:FuncId->Option QF) (val:FuncId->Bool) (q:QF) (args:List V) (h:Hp) (o:Option (List V)):Option (V×Hp):=match o with
 | some as=>Cx args h (Bd E T val q as ⟨[],0⟩)
 | none=>none
@[simp] theorem Tu {args:List V}{h h':Hp}{r r':V}:El args h h' r (some r')=if args.all fI=true\/ownR h' r=true then some (r',h) else none:=(rfl)
@[simp] theorem KR {args:List V}{h h':Hp}{r:V}:Cx args h (some (r,h'))=El args h h' r (frz h' r):=(rfl)
section
variable {E:Calls'}{T:FuncId->Option QF}{val:FuncId->Bool}
@[simp] theorem qQ {q:QF}{args as:List V}{h:Hp}:Tt E T val q args h (some as)=Cx args h (Bd E T val q as ⟨[],0⟩):=(rfl)
theorem aY {f:FuncId}{q:QF}(hf:T f=some q)(hv:val f=true){args:List V}{h:Hp}:Sm E T val f args h=Tt E T val q args h (args.mapM (frz h)):=by
 rw [Qq hf hv];unfold qb Tt Cx El;cases args.mapM (frz h) with
 | none=>rfl
 | some as =>
  dsimp only;cases Bd E T val q as ⟨[],0⟩ with
  | none=>rfl
  | some x =>
   obtain ⟨r,h'⟩:=x;dsimp only;cases frz h' r<;>rfl
end
end
section
def RowIs (bs:List Blk)(v:V)(z:Nat)(es:List (List D)):Prop :=
 (∀ e∈es,e.length=z)/\((∃ nl,v=.d (.slice nl es))\/∃ b o cap cs,v=.row b o es.length cap z/\aa bs b=some cs/\sub cs o (es.length * z)=some (es.flatten.map .d))
theorem uI {α:Type}{z:Nat}:∀ {es:List (List α)} {i:Nat},(∀ e∈es,e.length=z)->(hi:i<es.length)->(es.flatten.drop (i * z)).take z=es[i]
 | e::es,0,h,_=>by
  have:=h e (by simp);simp [this]
 | e::es,i+1,h,hi=>by
  have he:=h e (by simp);have ih:=uI (i:=i) (λe he=>h e (List.mem_cons_of_mem _ he)) (by simpa using hi);simp only [List.flatten_cons,List.getElem_cons_succ];rw [show (i+1) * z=e.length+i * z by rw [he,Nat.add_mul]; omega,← bb,List.drop_left,ih]
theorem nT {α:Type}{z:Nat}:∀ {es:List (List α)},(∀ e∈es,e.length=z)->es.flatten.length=es.length * z
 | [],_=>by simp
 | e::es,h=>by
  have he:=h e (by simp);have ih:=nT (es:=es) (λe he=>h e (List.mem_cons_of_mem _ he));simp only [List.flatten_cons,ao,he,ih,cj,Nat.add_mul]; omega
theorem RowIs.len {bs:List Blk}{v:V}{z:Nat}{es:List (List D)}(h:RowIs bs v z es)(hp:Hp):pW false v hp=some (.d (.int .i64 es.length),hp):=by
 obtain ⟨nl,rfl⟩ | ⟨b,o,cap,cs,rfl,_⟩:=h.2<;>simp
theorem RowIs.ok {bs:List Blk}{v:V}{z:Nat}{es:List (List D)}(h:RowIs bs v z es):nu v=some v:=by
 obtain ⟨nl,rfl⟩ | ⟨b,o,cap,cs,rfl,_⟩:=h.2<;>simp
theorem RowIs.elem {bs:List Blk}{v:V}{z:Nat}{es:List (List D)}(h:RowIs bs v z es){i:Nat}(hi:i<es.length){l:Nat} :
 ∃ p,eY none z v (.d (.int .i64 i)) ⟨bs,l⟩=some (p,⟨bs,l⟩)/\loadAt ⟨bs,l⟩ p z=some (es[i].map .d):=by
 have hzi:=h.1 _ (bd hi);obtain ⟨nl,rfl⟩ | ⟨b,o,cap,cs,rfl,h1,h2⟩:=h.2
 . refine ⟨.eptr es[i] 0,?_,?_⟩
   . simp only [eY];rw [if_pos (by omega)];simp only [Int.toNat_natCast,ab hi,hzi,if_true]
   . simp only [loadAt,bB hzi,Option.map_some]
 . refine ⟨.ptr b (o+i * z),?_,?_⟩
   . simp only [eY];rw [if_pos ⟨by omega,by omega,trivial⟩];simp
   . simp only [wS,get_eq,h1];rw [iy] at h2 ⊢;split at h2
     . rename_i hle;simp only [ba] at h2;have hiz:(i+1) * z<=es.length * z:=Nat.mul_le_mul_right z hi;rw [Nat.add_mul,Nat.one_mul] at hiz;rw [if_pos (by omega)]
       congr 1
       have hf:=uI (α:=V) (es:=es.map (·.map .d)) (i:=i) (z:=z) (by simpa using h.1) (by simpa using hi);rw [show (es.map (·.map V.d)).flatten=es.flatten.map .d by rw [List.map_flatten],← h2] at hf;simp only [List.getElem_map] at hf;rw [← hf,List.drop_take,bb,List.take_take,Nat.min_eq_left (by omega)]
     . cases h2
def kL {α:Type}(l:List α)(q:α->Bool):Int:=match l.findIdx? q with
 | some k=>k
 | none=>-1
section
variable {E:Calls'}{T:FuncId->Option QF}{val:FuncId->Bool}
theorem RowIs.at {α:Type}{cells:α->List D}{bs:List Blk}{v:V}{z:Nat}{es:List α}(h:RowIs bs v z (es.map cells)){i:Nat}(hi:i<es.length){l:Nat} :
 ∃ p,eY none z v (.d (.int .i64 i)) ⟨bs,l⟩=some (p,⟨bs,l⟩)/\loadAt ⟨bs,l⟩ p z=some ((cells es[i]).map .d):=by
 have:=h.elem (i:=i) (by simpa using hi) (l:=l);simpa using this
theorem RowIs.lenT {α:Type}{cells:α->List D}{bs:List Blk}{v:V}{z:Nat}{es:List α}(h:RowIs bs v z (es.map cells))(hp:Hp):pW false v hp=some (.d (.int .i64 es.length),hp):=by
 simpa using h.len hp
theorem Jl {α:Type}{cells:α->List D}{z:Nat}{bs:List Blk}{lo:Nat}{v:V}{es:List α}(hr:RowIs bs v z (es.map cells)){f:FuncId}{caps:List V}{q:α->Bool}(hlen:es.length<2 ^ 62)
 (hf:∀ e∈es,Sm E T val f (.agg ((cells e).map .d)::caps) ⟨bs,lo⟩=some (.d (.bool (q e)),⟨bs,lo⟩)):∀ (m i:Nat),i+m=es.length →
   Cd E T val (.loop [0,1,7,8] (Df z)) [(0,v),(1,.fn f caps),(7,.d (.int .i64 es.length)),(8,.d (.int .i64 i))] ⟨bs,lo⟩ =
    match (es.drop i).findIdx? q with
    | some k=>some (.ret,[(4,.d (.int .i64 (i+k:Nat)))],⟨bs,lo⟩)
    | none=>some (.exit 0,[],⟨bs,lo⟩):=by
 intro m;have key:=aB (E:=E) (T:=T) (val:=val) [0,1,7,8] (Df z);generalize Cd E T val (.loop [0,1,7,8] (Df z))=W at key ⊢
 induction m with
 | zero =>
  intro i hi;have h0:es.drop i=[]:=aw (by omega);rw [key];simp [Df,h0,show ¬ ((i:Int)<es.length) from by omega]
 | succ m ih =>
  intro i hi;have hlt:i<es.length:=by omega
  have hd:es.drop i=es[i]::es.drop (i+1):=aq hlt;obtain ⟨p,hp1,hp2⟩:=hr.at hlt (l:=lo);have hv:=hr.ok;have hcall:=hf _ (bd hlt);generalize es[i]=x at *;rw [key,hd];cases hq:q x with
  | true=>simp [Df,hv,hp1,ldv,hp2,hcall,hq,List.findIdx?_cons,show ((i:Int)<es.length) from by omega,show okV (V.agg ((cells x).map .d))=true from rfl]
  | false =>
   have hw:IntKind.wrap .i64 ((i:Int)+1)=((i+1:Nat):Int):=by rw [wrap64]<;>omega
   have:=ih (i+1) (by omega);simp [Df,hv,hp1,ldv,hp2,hcall,hq,List.findIdx?_cons,hw,show ((i:Int)<es.length) from by omega,show okV (V.agg ((cells x).map .d))=true from rfl];rw [show ((i:Int)+1)=((i+1:Nat):Int) from by omega,this];cases hfi:(es.drop (i+1)).findIdx? q with
   | none=>rfl
   | some k=>simp; omega
theorem OD {α:Type}(cells:α->List D){z:Nat}{id:FuncId}(ht:T id=some (idxQ z))(hvl:val id=false){v:V}{es:List α}{f:FuncId}{caps:List V}{q:α->Bool}{h:Hp}(hr:RowIs h.bs v z (es.map cells))(hlen:es.length<2 ^ 62)
 (hf:∀ e∈es,∀ lo,Sm E T val f (.agg ((cells e).map .d)::caps) ⟨h.bs,lo⟩=some (.d (.bool (q e)),⟨h.bs,lo⟩)):Sm E T val id [v,.fn f caps] h=some (.d (.int .i64 (kL es q)),h):=by
 rw [aM ht hvl];have hl:=Jl hr hlen (λe he=>hf e he h.bs.length) es.length 0 (by omega);have hv:=hr.ok;have hn:=hr.lenT;simp [idxQ,ae,hv,hn,kL];rw [ai];simp at hl;simp [hl];cases es.findIdx? q with
 | none=>simp [V.under]
 | some k=>simp [V.under]
end
end
section
structure Sl (α:Type) where
 nl:Bool
 l:List α
abbrev u64 (n:Int):D:=.int .u64 n
abbrev u32 (n:Int):D:=.int .u32 n
abbrev i64 (n:Int):D:=.int .i64 n
abbrev nV:V:=.d (.slice true [])
abbrev pdL (a:Int) (b c:ByteArray) (d e f g:Int):List V:=[.d (u64 a),.d (.str b),.d (.str c),.d (i64 d),.d (u32 e),.d (i64 f),.d (u64 g)]
abbrev svL (a:Int) (b:ByteArray) (c d e:Int):List V:=[.d (u64 a),.d (.str b),.d (u32 c),.d (i64 d),.d (u64 e)]
abbrev plL (a:Int) (b:ByteArray) (c d:Int) (v:V):List V:=[.d (u64 a),.d (.str b),.d (u64 c),.d (i64 d),v]
abbrev cfL (a b c d:Int) (v w x y:V):List V:=[.d (u64 a),.d (u64 b),.d (i64 c),.d (i64 d),v,w,x,y]
abbrev bl (b:Bool):V:=.d (.bool b)
def Sl.d {α:Type}(f:α->List D)(s:Sl α):D:=.slice s.nl (s.l.map f)
structure Pod where
 uid:Int
 ns:ByteArray
 sa:ByteArray
 host:Int
 addr:Int
 port:Int
 service:Int
def Pod.c (p:Pod):List D:=[u64 p.uid,.str p.ns,.str p.sa,i64 p.host,u32 p.addr,i64 p.port,u64 p.service]
structure Svc where
 id:Int
 ns:ByteArray
 addr:Int
 port:Int
 way:Int
def Svc.c (s:Svc):List D:=[u64 s.id,.str s.ns,u32 s.addr,i64 s.port,u64 s.way]
structure Way where
 id:Int
 node:Int
def Way.c (w:Way):List D:=[u64 w.id,i64 w.node]
structure Term where
 kind:Int
 text:ByteArray
def Term.c (t:Term):List D:=[i64 t.kind,.str t.text]
structure Cidr where
 addr:Int
 bits:Int
def Cidr.c (t:Cidr):List D:=[u32 t.addr,i64 t.bits]
structure Source where
 names:Sl Term
 spaces:Sl Term
 nets:Sl Cidr
def Source.c (s:Source):List D:=[s.names.d Term.c,s.spaces.d Term.c,s.nets.d Cidr.c]
def fE (n:Int):List D:=[i64 n]
structure Target where
 ports:Sl Int
 methods:Sl Term
 paths:Sl Term
 hosts:Sl Term
def Target.c (t:Target):List D:=[t.ports.d fE,t.methods.d Term.c,t.paths.d Term.c,t.hosts.d Term.c]
structure When where
 head:ByteArray
 terms:Sl Term
def When.c (w:When):List D:=[.str w.head,w.terms.d Term.c]
structure Rule where
 frm:Sl Source
 to:Sl Target
 whn:Sl When
def Rule.c (r:Rule):List D:=[r.frm.d Source.c,r.to.d Target.c,r.whn.d When.c]
structure Pol where
 id:Int
 ns:ByteArray
 service:Int
 deny:Int
 rules:Sl Rule
def Pol.c (p:Pol):List D:=[u64 p.id,.str p.ns,u64 p.service,i64 p.deny,p.rules.d Rule.c]
structure Cfg where
 epoch:Int
 next:Int
 hosts:Int
 ways:Int
 pods:Sl Pod
 services:Sl Svc
 bound:Sl Way
 policies:Sl Pol
def Cfg.c (c:Cfg):List D:=[u64 c.epoch,u64 c.next,i64 c.hosts,i64 c.ways,c.pods.d Pod.c,c.services.d Svc.c,c.bound.d Way.c,c.policies.d Pol.c]
def ag (l:List D):V:=.agg (l.map .d)
abbrev Pod.v (p:Pod):V:=ag p.c
abbrev Svc.v (p:Svc):V:=ag p.c
abbrev Way.v (p:Way):V:=ag p.c
abbrev Pol.v (p:Pol):V:=ag p.c
abbrev Rule.v (p:Rule):V:=ag p.c
abbrev Cfg.v (p:Cfg):V:=ag p.c
def svc0:Svc:=⟨0,⟨#[]⟩,0,0,0⟩
def fit {α:Type}(B:Nat)(s:Sl α):Prop:=s.l.length<=B/\(s.nl=true->s.l=[])
def Source.fits (B:Nat)(s:Source):Prop:=fit B s.names/\fit B s.spaces/\fit B s.nets
def Target.fits (B:Nat)(s:Target):Prop:=fit B s.ports/\fit B s.methods/\fit B s.paths/\fit B s.hosts
def When.fits (B:Nat)(w:When):Prop:=fit B w.terms
def Rule.fits (B:Nat)(r:Rule):Prop:=(fit B r.frm/\∀ s∈r.frm.l,s.fits B)/\(fit B r.to/\∀ s∈r.to.l,s.fits B)/\fit B r.whn/\∀ s∈r.whn.l,s.fits B
def Pol.fits (B:Nat)(p:Pol):Prop:=fit B p.rules/\∀ r∈p.rules.l,r.fits B
def Cfg.fits (B:Nat)(c:Cfg):Prop:=fit B c.pods/\fit B c.services/\fit B c.bound/\fit B c.policies/\∀ p∈c.policies.l,p.fits B
abbrev big:Nat:=2 ^ 30
abbrev short {α:Type} (s:Sl α):Prop:=fit big s
abbrev Cfg.ok (c:Cfg):Prop:=c.fits big
abbrev Pol.ok (c:Pol):Prop:=c.fits big
theorem fit.lt {α:Type}{s:Sl α}(h:short s):s.l.length<2 ^ 62:=cg h.1 (by decide)
theorem RowIs.of {α:Type}{cells:α->List D}{s:Sl α}{z:Nat}(hz:∀ x,(cells x).length=z)(bs:List Blk):RowIs bs (.d (s.d cells)) z (s.l.map cells) :=
 ⟨by simp; intro a _; exact hz a,.inl ⟨s.nl,rfl⟩⟩
@[simp] theorem au2 {l:List D}:okV (ag l)=true:=(rfl)
@[simp] theorem cj3 {l:List D}:nu (ag l)=some (ag l):=(rfl)
@[simp] theorem VL {l:List D}:(ag l).cells=some (l.map .d):=(rfl)
@[simp] theorem qp {h:Hp}{l:List D}:frz h (ag l)=some (ag l):=EH h l
@[simp] theorem Ji {h:Hp}{d:D}:frz h (.d d)=some (.d d):=OO h d
@[simp] theorem Zk {h:Hp}{l:List D}:dh h (ag l)=some (ag l):=EH h l
@[simp] theorem Zl {h:Hp}{d:D}:dh h (.d d)=some (.d d):=OO h d
@[simp] theorem ZT {l:List D}:fI (ag l)=true:=JQ l
@[simp] theorem ZU {d:D}:fI (.d d)=true:=(rfl)
@[simp] theorem Zd {h:Hp}{l:List D}:zy h (ag l)=some (.ptr h.bs.length 0,h.alloc (l.map .d)):=(rfl)
theorem kF {α:Type}(l:List α)(q:α->Bool):(l.find? q=none/\kL l q=-1)\/∃ k e,l.find? q=some e/\kL l q=(k:Nat)/\l[k]?=some e:=by
 unfold kL;cases h:l.findIdx? q with
 | none =>
  left;rw [List.findIdx?_eq_none_iff] at h;exact ⟨List.find?_eq_none.2 λx hx=>by simp [h x hx],rfl⟩
 | some k =>
  right;have h2:=List.findIdx?_eq_some_iff_getElem.1 h;obtain ⟨hk,h3,h4⟩:=h2;refine ⟨k,l[k],?_,rfl,ab hk⟩;rw [List.find?_eq_some_iff_getElem];exact ⟨h3,k,hk,rfl,λj hj=>by simpa using h4 j hj⟩
theorem aA {α:Type}{s:Sl α}{cells:α->List D}{k z:Nat}{e:α}(h:Hp)(hk:s.l[k]?=some e)(hz:(cells e).length=z):eY none z (.d (s.d cells)) (.d (.int .i64 k)) h=some (.eptr (cells e) 0,h):=by
 simp only [eY,Sl.d];rw [if_pos (by omega)];simp [hk,hz]
@[simp] theorem Zx {α:Type}{s:Sl α}{cells:α->List D}{h:Hp}:pW false (.d (s.d cells)) h=some (.d (i64 s.l.length),h):=by simp [Sl.d]
@[simp] theorem Og {α β:Type}{f:α->β}{l:List α}{o n:Nat}:sub (l.map f) o n=(sub l o n).map (·.map f):=by
 simp only [sub,cc]; split<;>simp [List.map_take,List.map_drop]
@[simp] theorem Yx {α:Type}{x:α}{l:List α}{o n:Nat}:sub (x::l) (o+1) n=sub l o n:=by
 simp only [sub,cj,List.drop_succ_cons];by_cases h:o+n<=l.length
 . rw [if_pos h,if_pos (by omega)]
 . rw [if_neg h,if_neg (by omega)]
@[simp] theorem K5 {α:Type}{x:α}{l:List α}{n:Nat}:sub (x::l) 0 (n+1)=(sub l 0 n).map (x::·):=by
 simp only [sub,cj,List.drop_zero,List.take_succ_cons];by_cases h:0+n<=l.length
 . rw [if_pos h,if_pos (by omega)]; rfl
 . rw [if_neg h,if_neg (by omega)]; rfl
@[simp] theorem K6 {α:Type}{l:List α}:sub l 0 0=some []:=by simp [sub]
@[simp] theorem kU {α:Type}{x:α}{l xs:List α}{o:Nat}:put (x::l) (o+1) xs=(put l o xs).map (x::·):=by
 simp only [put,cj];by_cases h:o+xs.length<=l.length
 . rw [if_pos h,if_pos (by omega)];simp only [Option.map_some,List.take_succ_cons,List.cons_append];rw [show o+1+xs.length=(o+xs.length)+1 by omega,List.drop_succ_cons]
 . rw [if_neg h,if_neg (by omega)]; rfl
@[simp] theorem jQ {α:Type}{l xs:List α}:put l 0 xs=if xs.length<=l.length then some (xs++l.drop xs.length) else none:=by
 simp [put]
@[simp] theorem Pod.len {x:Pod}:x.c.length=7:=(rfl)
@[simp] theorem Pod.all {x:Pod}:sub x.c 0 7=some x.c:=(rfl)
@[simp] theorem Pod.s0_1 {x:Pod}:sub x.c 0 1=some [u64 x.uid]:=(rfl)
@[simp] theorem Pod.s1_1 {x:Pod}:sub x.c 1 1=some [.str x.ns]:=(rfl)
@[simp] theorem Pod.s2_1 {x:Pod}:sub x.c 2 1=some [.str x.sa]:=(rfl)
@[simp] theorem Pod.s3_1 {x:Pod}:sub x.c 3 1=some [i64 x.host]:=(rfl)
@[simp] theorem Pod.s4_1 {x:Pod}:sub x.c 4 1=some [u32 x.addr]:=(rfl)
@[simp] theorem Pod.s5_1 {x:Pod}:sub x.c 5 1=some [i64 x.port]:=(rfl)
@[simp] theorem Pod.s6_1 {x:Pod}:sub x.c 6 1=some [u64 x.service]:=(rfl)
@[simp] theorem Pod.s1_2 {x:Pod}:sub x.c 1 2=some [.str x.ns,.str x.sa]:=(rfl)
@[simp] theorem Svc.len {x:Svc}:x.c.length=5:=(rfl)
@[simp] theorem Svc.all {x:Svc}:sub x.c 0 5=some x.c:=(rfl)
@[simp] theorem Svc.s0_1 {x:Svc}:sub x.c 0 1=some [u64 x.id]:=(rfl)
@[simp] theorem Svc.s1_1 {x:Svc}:sub x.c 1 1=some [.str x.ns]:=(rfl)
@[simp] theorem Svc.s2_1 {x:Svc}:sub x.c 2 1=some [u32 x.addr]:=(rfl)
@[simp] theorem Svc.s3_1 {x:Svc}:sub x.c 3 1=some [i64 x.port]:=(rfl)
@[simp] theorem Svc.s4_1 {x:Svc}:sub x.c 4 1=some [u64 x.way]:=(rfl)
@[simp] theorem Way.len {x:Way}:x.c.length=2:=(rfl)
@[simp] theorem Way.all {x:Way}:sub x.c 0 2=some x.c:=(rfl)
@[simp] theorem Way.s0_1 {x:Way}:sub x.c 0 1=some [u64 x.id]:=(rfl)
@[simp] theorem Way.s1_1 {x:Way}:sub x.c 1 1=some [i64 x.node]:=(rfl)
@[simp] theorem Term.len {x:Term}:x.c.length=2:=(rfl)
@[simp] theorem Term.all {x:Term}:sub x.c 0 2=some x.c:=(rfl)
@[simp] theorem Term.s0_1 {x:Term}:sub x.c 0 1=some [i64 x.kind]:=(rfl)
@[simp] theorem Term.s1_1 {x:Term}:sub x.c 1 1=some [.str x.text]:=(rfl)
@[simp] theorem Cidr.len {x:Cidr}:x.c.length=2:=(rfl)
@[simp] theorem Cidr.all {x:Cidr}:sub x.c 0 2=some x.c:=(rfl)
@[simp] theorem Cidr.s0_1 {x:Cidr}:sub x.c 0 1=some [u32 x.addr]:=(rfl)
@[simp] theorem Cidr.s1_1 {x:Cidr}:sub x.c 1 1=some [i64 x.bits]:=(rfl)
@[simp] theorem Source.len {x:Source}:x.c.length=3:=(rfl)
@[simp] theorem Source.all {x:Source}:sub x.c 0 3=some x.c:=(rfl)
@[simp] theorem Source.s0_1 {x:Source}:sub x.c 0 1=some [x.names.d Term.c]:=(rfl)
@[simp] theorem Source.s1_1 {x:Source}:sub x.c 1 1=some [x.spaces.d Term.c]:=(rfl)
@[simp] theorem Source.s2_1 {x:Source}:sub x.c 2 1=some [x.nets.d Cidr.c]:=(rfl)
@[simp] theorem Target.len {x:Target}:x.c.length=4:=(rfl)
@[simp] theorem Target.all {x:Target}:sub x.c 0 4=some x.c:=(rfl)
@[simp] theorem Target.s0_1 {x:Target}:sub x.c 0 1=some [x.ports.d fE]:=(rfl)
@[simp] theorem Target.s1_1 {x:Target}:sub x.c 1 1=some [x.methods.d Term.c]:=(rfl)
@[simp] theorem Target.s2_1 {x:Target}:sub x.c 2 1=some [x.paths.d Term.c]:=(rfl)
@[simp] theorem Target.s3_1 {x:Target}:sub x.c 3 1=some [x.hosts.d Term.c]:=(rfl)
@[simp] theorem When.len {x:When}:x.c.length=2:=(rfl)
@[simp] theorem When.all {x:When}:sub x.c 0 2=some x.c:=(rfl)
@[simp] theorem When.s0_1 {x:When}:sub x.c 0 1=some [.str x.head]:=(rfl)
@[simp] theorem When.s1_1 {x:When}:sub x.c 1 1=some [x.terms.d Term.c]:=(rfl)
@[simp] theorem Rule.len {x:Rule}:x.c.length=3:=(rfl)
@[simp] theorem Rule.all {x:Rule}:sub x.c 0 3=some x.c:=(rfl)
@[simp] theorem Rule.s0_1 {x:Rule}:sub x.c 0 1=some [x.frm.d Source.c]:=(rfl)
@[simp] theorem Rule.s1_1 {x:Rule}:sub x.c 1 1=some [x.to.d Target.c]:=(rfl)
@[simp] theorem Rule.s2_1 {x:Rule}:sub x.c 2 1=some [x.whn.d When.c]:=(rfl)
@[simp] theorem Pol.len {x:Pol}:x.c.length=5:=(rfl)
@[simp] theorem Pol.all {x:Pol}:sub x.c 0 5=some x.c:=(rfl)
@[simp] theorem Pol.s0_1 {x:Pol}:sub x.c 0 1=some [u64 x.id]:=(rfl)
@[simp] theorem Pol.s1_1 {x:Pol}:sub x.c 1 1=some [.str x.ns]:=(rfl)
@[simp] theorem Pol.s2_1 {x:Pol}:sub x.c 2 1=some [u64 x.service]:=(rfl)
@[simp] theorem Pol.s3_1 {x:Pol}:sub x.c 3 1=some [i64 x.deny]:=(rfl)
@[simp] theorem Pol.s4_1 {x:Pol}:sub x.c 4 1=some [x.rules.d Rule.c]:=(rfl)
@[simp] theorem Cfg.len {x:Cfg}:x.c.length=8:=(rfl)
@[simp] theorem Cfg.all {x:Cfg}:sub x.c 0 8=some x.c:=(rfl)
@[simp] theorem Cfg.s0_1 {x:Cfg}:sub x.c 0 1=some [u64 x.epoch]:=(rfl)
@[simp] theorem Cfg.s1_1 {x:Cfg}:sub x.c 1 1=some [u64 x.next]:=(rfl)
@[simp] theorem Cfg.s2_1 {x:Cfg}:sub x.c 2 1=some [i64 x.hosts]:=(rfl)
@[simp] theorem Cfg.s3_1 {x:Cfg}:sub x.c 3 1=some [i64 x.ways]:=(rfl)
@[simp] theorem Cfg.s4_1 {x:Cfg}:sub x.c 4 1=some [x.pods.d Pod.c]:=(rfl)
@[simp] theorem Cfg.s5_1 {x:Cfg}:sub x.c 5 1=some [x.services.d Svc.c]:=(rfl)
@[simp] theorem Cfg.s6_1 {x:Cfg}:sub x.c 6 1=some [x.bound.d Way.c]:=(rfl)
@[simp] theorem Cfg.s7_1 {x:Cfg}:sub x.c 7 1=some [x.policies.d Pol.c]:=(rfl)
@[simp] theorem ar0 (l:List D):V.agg (l.map .d)=ag l:=(rfl)
@[simp] theorem Cr {h:Hp}{b o:Nat}{xs:List V}:storeAt h (.ptr b o) xs=match h.get b with
 | some cs=>match put cs o xs with
  | some cs'=>some (h.set b cs')
  | none=>none
 | none=>none:=(rfl)
@[simp] theorem sP {h:Hp}{a x:V}{n:Nat}:stv h a x n=match x.cells with
 | some xs=>if xs.length=n/\0<n then (storeAt h a xs).map (.undef,·) else none
 | none=>none:=(rfl)
@[simp] theorem Zf {d:D}:(V.d d).cells=some [.d d]:=(rfl)
@[simp] theorem Ty {cs:List V}:(V.agg cs).cells=some cs:=(rfl)
@[simp] theorem Tz {b o:Nat}:(V.ptr b o).cells=some [.ptr b o]:=(rfl)
@[simp] theorem TB {b o l z:Nat}{c:Option Nat}:(V.row b o l c z).cells=some [.row b o l c z]:=(rfl)
@[simp low] theorem ZW {bs:List Blk} {l b:Nat} {cs:List V}:Hp.set ⟨bs,l⟩ b cs=⟨bs.set b (.cells cs),min l b⟩:=(rfl)
@[simp] theorem as0 {a b:Int}(h:¬ a=b):(a==b)=false:=by simpa using h
@[simp] theorem Zy (k:Nat):((k:Int)<0)↔False:=⟨λh=>by omega,False.elim⟩
@[simp] theorem at0 (k:Nat):((k:Int)>=0)↔True:=⟨λ_=>trivial,λ_=>Int.natCast_nonneg k⟩
@[simp] theorem at1 (k:Nat):(0<=(k:Int))↔True:=⟨λ_=>trivial,λ_=>Int.natCast_nonneg k⟩
@[simp] theorem QM {ev:X->V}{cs:List V}:az ev cs []=some cs:=(rfl)
@[simp] theorem V5 {h:Hp}{cs:List V}:dh h (.agg cs)=match cK h cs with
 | some l=>some (ag l)
 | none=>none:=(rfl)
@[simp] theorem wK {h:Hp}{cs:List V}:frz h (.agg cs)=match cK h cs with
 | some l=>some (ag l)
 | none=>none:=(rfl)
@[simp] theorem Qx {h:Hp}:cK h []=some []:=(rfl)
@[simp] theorem AR {h:Hp}{x:D}{cs:List V}:cK h (.d x::cs)=(cK h cs).map (x::·):=by
 simp only [cK,List.mapM_cons,ky];cases cs.mapM (dataV h 8)<;>rfl
@[simp] theorem LW {h:Hp}{b o n z:Nat}{cap:Option Nat}:frz h (.row b o n cap z)=match dataV h 8 (.row b o n cap z) with
 | some d=>some (.d d)
 | none=>none:=(rfl)
@[simp] theorem Jh {h:Hp}{b o n z:Nat}{cap:Option Nat}:dh h (.row b o n cap z)=match dataV h 8 (.row b o n cap z) with
 | some d=>some (.d d)
 | none=>none:=(rfl)
@[simp] theorem Zm {h:Hp}{vs:List V}:frz h (.tup vs)=match vs.mapM (dh h) with
 | some l=>some (.tup l)
 | none=>none:=(rfl)
def runT (t:Tr)(o:Option (List Tr×EA×Hp)):Option (List Tr×EA×Hp):=match o with
 | some (l,e,h)=>some (t::l,e,h)
 | none=>none
def Ht (C:Calls')(os:List RO)(e:EA)(d:Option Nat)(o:Option (V×Hp×Tr)):Option (List Tr×EA×Hp):=match o with
 | some (v,h',t)=>runT t (gF C os (bX e d v) h')
 | none=>none
def wN (C:Calls')(v:V)(w:Bool)(d:Option Nat)(r:R)(os:List RO)(e:EA)(h:Hp):Option (List Tr×EA×Hp):=match v with
 | .d (.bool t)=>if t=w then Ht C os e d (cB C r (X.ea e) h) else runT (bR h) (gF C os (bX e d (.tup [])) h)
 | .tup []=>runT (bR h) (gF C os (bX e d (.tup [])) h)
 | _=>none
section
variable {C:Calls'}{ev:X->V}{h:Hp}
@[simp] theorem Yd {e:EA}:gF C [] e h=some ([],e,h):=(rfl)
@[simp] theorem Hr {d:Option Nat}{r:R}{os:List RO}{e:EA}:gF C (⟨none,d,r⟩::os) e h=Ht C os e d (cB C r (X.ea e) h):=(rfl)
@[simp] theorem Od {j:Nat}{w:Bool}{d:Option Nat}{r:R}{os:List RO}{e:EA}:gF C (⟨some (j,w),d,r⟩::os) e h=wN C (e.get j) w d r os e h:=(rfl)
@[simp] theorem Ti {os:List RO}{e:EA}{d:Option Nat}{v:V}{h':Hp}{t:Tr}:Ht C os e d (some (v,h',t))=runT t (gF C os (bX e d v) h'):=(rfl)
@[simp] theorem Tj {t:Tr}{l:List Tr}{e:EA}:runT t (some (l,e,h))=some (t::l,e,h):=(rfl)
section
variable {d:Option Nat}{r:R}{os:List RO}{e:EA}
@[simp] theorem V9:wN C (.d (.bool true)) true d r os e h=Ht C os e d (cB C r (X.ea e) h):=(rfl)
@[simp] theorem V8:wN C (.d (.bool true)) false d r os e h=runT (bR h) (gF C os (bX e d (.tup [])) h):=(rfl)
@[simp] theorem V7:wN C (.d (.bool false)) true d r os e h=runT (bR h) (gF C os (bX e d (.tup [])) h):=(rfl)
@[simp] theorem V6:wN C (.d (.bool false)) false d r os e h=Ht C os e d (cB C r (X.ea e) h):=(rfl)
@[simp] theorem Zn {w:Bool}:wN C (.tup []) w d r os e h=runT (bR h) (gF C os (bX e d (.tup [])) h):=(rfl)
end
def trE (o:Option (V×Hp))(h:Hp)(nd wr:List Nat):Option (V×Hp×Tr):=match o with
 | some (v,h')=>some (v,h',⟨false,false,nd,wr,h.bs.length,h'.bs.length,0⟩)
 | none=>none
@[simp] theorem cj7 {v:V}{h':Hp}{nd wr:List Nat}:trE (some (v,h')) h nd wr=some (v,h',⟨false,false,nd,wr,h.bs.length,h'.bs.length,0⟩):=(rfl)
@[simp] theorem Wy {x:X}:cB C (.mov x) ev h=trE (opE C (.mov x) ev h) h [] []:=(rfl)
@[simp] theorem TN {a b c:X}:cB C (.pick a b c) ev h=trE (opE C (.pick a b c) ev h) h [] []:=(rfl)
@[simp] theorem Wz {a:List V}:cB C (.new a) ev h=trE (opE C (.new a) ev h) h [] []:=(rfl)
@[simp] theorem Wt {a:X}:cB C (.box a) ev h=trE (opE C (.box a) ev h) h [] []:=(rfl)
@[simp] theorem QY {a:List V}{b:List (Nat×Nat×X)}:cB C (.build a b) ev h=trE (opE C (.build a b) ev h) h [] []:=(rfl)
@[simp] theorem OT {z n:Nat}{a:List V}{b:List (Nat×Nat×X)}:cB C (.buildS z n a b) ev h=trE (opE C (.buildS z n a b) ev h) h [] []:=(rfl)
@[simp] theorem TI {s:Bool}{n:Nat}{a:X}:cB C (.load s n a) ev h=trE (opE C (.load s n a) ev h) h (ev a).blk []:=(rfl)
@[simp] theorem Q0 {n:Nat}{a b:X}:cB C (.store n a b) ev h=trE (opE C (.store n a b) ev h) h (ev a).blk (ev a).blk:=(rfl)
@[simp] theorem Ws {o:BinOp}{a b:X}:cB C (.bin o a b) ev h=trE (opE C (.bin o a b) ev h) h [] []:=(rfl)
@[simp] theorem ZG {k:EQ}{n:Bool}{a b:X}:cB C (.eq k n a b) ev h=trE (opE C (.eq k n a b) ev h) h [] []:=(rfl)
@[simp] theorem ZH {o:UnOp}{a:X}:cB C (.un o a) ev h=trE (opE C (.un o a) ev h) h [] []:=(rfl)
@[simp] theorem QZ {k:IntKind}{a:X}:cB C (.convI k a) ev h=trE (opE C (.convI k a) ev h) h [] []:=(rfl)
@[simp] theorem OU {a:X}:cB C (.convBS a) ev h=trE (opE C (.convBS a) ev h) h (ev a).blk []:=(rfl)
@[simp] theorem OV {a:X}:cB C (.convSB a) ev h=trE (opE C (.convSB a) ev h) h [] []:=(rfl)
@[simp] theorem OW {a:X}:cB C (.convSS a) ev h=trE (opE C (.convSS a) ev h) h [] []:=(rfl)
@[simp] theorem TF {n:Nat}{a:X}:cB C (.fldA a n) ev h=trE (opE C (.fldA a n) ev h) h [] []:=(rfl)
@[simp] theorem Wv {s:Bool}{o n:Nat}{a:X}:cB C (.fld s a o n) ev h=trE (opE C (.fld s a o n) ev h) h [] []:=(rfl)
@[simp] theorem TG {m:Option Nat}{n:Nat}{a b:X}:cB C (.idxA m n a b) ev h=trE (opE C (.idxA m n a b) ev h) h [] []:=(rfl)
@[simp] theorem Ww {s:Bool}{m n:Nat}{a b:X}:cB C (.idx s m n a b) ev h=trE (opE C (.idx s m n a b) ev h) h [] []:=(rfl)
@[simp] theorem TH {a b:X}:cB C (.idxS a b) ev h=trE (opE C (.idxS a b) ev h) h [] []:=(rfl)
@[simp] theorem WA {k:SK}{z:Nat}{a:X}{b c d:Option X}:cB C (.slc k z a b c d) ev h=trE (opE C (.slc k z a b c d) ev h) h (ev a).blk []:=(rfl)
@[simp] theorem TK {f:FuncId}{l:List X}:cB C (.mkmv f l) ev h=trE (opE C (.mkmv f l) ev h) h [] []:=(rfl)
@[simp] theorem TJ {f:FuncId}{l:List X}:cB C (.mkfn f l) ev h=trE (opE C (.mkfn f l) ev h) h [] []:=(rfl)
@[simp] theorem TM {z b:Nat}{l:List V}{x y:X}:cB C (.mksl z b l x y) ev h=trE (opE C (.mksl z b l x y) ev h) h [] []:=(rfl)
@[simp] theorem Wu {n:Nat}{a:X}:cB C (.ext a n) ev h=trE (opE C (.ext a n) ev h) h [] []:=(rfl)
@[simp] theorem Wq {z b:Nat}{x y:X}:cB C (.app z b x y) ev h=trE (opE C (.app z b x y) ev h) h ((ev x).blk++(ev y).blk) (ev x).blk:=(rfl)
@[simp] theorem Wx {s:Bool}{a:X}:cB C (.len s a) ev h=trE (opE C (.len s a) ev h) h [] []:=(rfl)
@[simp] theorem TE {z:Nat}{x y:X}:cB C (.copy z x y) ev h=trE (opE C (.copy z x y) ev h) h ((ev x).blk++(ev y).blk) (ev x).blk:=(rfl)
@[simp] theorem OX {a:X}:cB C (.nilchk a) ev h=trE (opE C (.nilchk a) ev h) h [] []:=(rfl)
theorem aC {f:X}{args:List X}:cB C (.call f args) ev h=if args.all (λx=>okV (ev x))=true then match gG C (ev f) (args.map ev) ⟨h.bs,h.bs.length⟩ with
 | some (v,h')=>if h.bs.length<=h'.low then
  (if h'.bs.length=h.bs.length then some (v,h,⟨true,false,[],[],h.bs.length,h.bs.length,0⟩)
  else some (v,⟨h'.bs,h.low⟩,⟨true,false,[],[],h.bs.length,h'.bs.length,0⟩))
  else some (v,⟨h'.bs,min h.low h'.low⟩,⟨true,true,[],[],h.bs.length,h'.bs.length,⟨h'.low,nE h.bs h'.bs⟩⟩)
 | none=>none
 else none:=(rfl)
end
@[simp] theorem ci7 {d:D}:(V.d d).blk=[]:=(rfl)
@[simp] theorem Zb {b o:Nat}:(V.ptr b o).blk=[b]:=(rfl)
@[simp] theorem Zc {b o l z:Nat}{c:Option Nat}:(V.row b o l c z).blk=[b]:=(rfl)
@[simp] theorem VD {cs:List D}{o:Nat}:(V.eptr cs o).blk=[]:=(rfl)
@[simp] theorem Za {cs:List V}:(V.agg cs).blk=[]:=(rfl)
end
