/- The reading without a bound on depth and rounds: equations, no fuel. -/
import Derived.Test.YtmcchclfpneglaaGreatPy
set_option maxRecDepth 100000
set_option linter.unusedVariables false
set_option linter.unusedSimpArgs false
namespace Go.Proofs.YtmcchclfpneglaaGreat
section
section
variable {α:Type}
noncomputable def KO (g:Nat->Option α):Option α :=
 open Classical in if h:∃ x k,g k=some x then some (Classical.choose h) else none
def Mono (g:Nat->Option α):Prop:=∀ k x,g k=some x->g (k+1)=some x
theorem Mono.le {g:Nat->Option α}(hg:Mono g){k n:Nat}{x:α}(hle:k<=n)(h:g k=some x):g n=some x:=by
 obtain ⟨d,rfl⟩:∃ d,n=k+d:=⟨n-k,by omega⟩;clear hle
 induction d with
 | zero=>exact h
 | succ d ih=>exact hg _ _ ih
theorem Bb {g:Nat->Option α}(hg:Mono g){x:α}:KO g=some x↔∃ k,g k=some x:=by
 unfold KO;constructor
 · intro h;split at h
   · rename_i hh;obtain ⟨k,hk⟩:=Classical.choose_spec hh;exact ⟨k,by rw [hk]; exact h⟩
   · cases h
 · rintro ⟨k,hk⟩;have hh:∃ x k,g k=some x:=⟨x,k,hk⟩;rw [dif_pos hh];obtain ⟨k',hk'⟩:=Classical.choose_spec hh;have h1:=hg.le (Nat.le_max_left k k') hk;have h2:=hg.le (Nat.le_max_right k k') hk';rw [h1] at h2;exact h2.symm
theorem jW {a b:Option α}(h:∀ x,a=some x↔b=some x):a=b:=by
 cases a with
 | none=>cases b with
  | none=>rfl
  | some y=>exact ((h y).2 rfl)
 | some x=>exact ((h x).1 rfl).symm
end
theorem Bu {C C':Calls'}(hC:Leq C C'){r:R}{ev:X->V}{h:Hp}{x:V×Hp}(hm:opE C r ev h=some x):opE C' r ev h=some x:=by
 cases r with
 | call f args =>
  simp only [opE] at hm ⊢;split at hm
  · rename_i h1; rw [if_pos h1]; exact pO hC hm
  · cases hm
 | _=>exact hm
theorem yc {C C':Calls'}(hC:Leq C C'){r:R}{ev:X->V}{h:Hp}{x:V×Hp×Tr}(hm:dh C r ev h=some x):dh C' r ev h=some x:=by
 cases r with
 | call f args =>
  simp only [dh] at hm ⊢;split at hm
  · rename_i h1;rw [if_pos h1];split at hm
    · rename_i v h2 ho; rw [pO hC ho]; exact hm
    · cases hm
  · cases hm
 | _=>exact hm
theorem jd {C C':Calls'}(hC:Leq C C'):∀ {os:List RO} {e:EA} {h:Hp} {x:EA×Hp},gY C os e h=some x->gY C' os e h=some x
 | [],e,h,x,hm=>hm
 | o::os,e,h,x,hm=>by
  have go:∀ {x},(match opE C o.r (X.ea e) h with
   | some (v,h')=>gY C os (cz e o.d v) h'
   | none=>none)=some x->(match opE C' o.r (X.ea e) h with
   | some (v,h')=>gY C' os (cz e o.d v) h'
   | none=>none)=some x:=by
   intro x hm;split at hm
   · rename_i v h1 ho;rw [Bu hC ho];exact jd hC hm
   · cases hm
  simp only [gY] at hm ⊢;split at hm
  · exact go hm
  · split at hm
    · split at hm
      · rename_i htw;simp only [if_pos htw];exact go hm
      · rename_i htw;simp only [if_neg htw];exact jd hC hm
    · exact jd hC hm
    · cases hm
theorem lM {C C':Calls'}(hC:Leq C C'):∀ {os:List RO} {e:EA} {h:Hp} {x:List Tr×EA×Hp},gq C os e h=some x->gq C' os e h=some x
 | [],e,h,x,hm=>hm
 | o::os,e,h,x,hm=>by
  have go:∀ {x},(match dh C o.r (X.ea e) h with
   | some (v,h',t)=>match gq C os (cz e o.d v) h' with
    | some (l,e',h'')=>some (t::l,e',h'')
    | none=>none
   | none=>none)=some x->(match dh C' o.r (X.ea e) h with
   | some (v,h',t)=>match gq C' os (cz e o.d v) h' with
    | some (l,e',h'')=>some (t::l,e',h'')
    | none=>none
   | none=>none)=some x:=by
   intro x hm;split at hm
   · rename_i v h1 t ho;rw [yc hC ho];dsimp only;split at hm
     · rename_i hr;rw [lM hC hr];exact hm
     · cases hm
   · cases hm
  have sk:∀ {x},(match gq C os (cz e o.d (.tup [])) h with
   | some (l,e',h'')=>some (av h::l,e',h'')
   | none=>none)=some x->(match gq C' os (cz e o.d (.tup [])) h with
   | some (l,e',h'')=>some (av h::l,e',h'')
   | none=>none)=some x:=by
   intro x hm;split at hm
   · rename_i hr;rw [lM hC hr];exact hm
   · cases hm
  simp only [gq] at hm ⊢;split at hm
  · exact go hm
  · split at hm
    · split at hm
      · rename_i htw;simp only [if_pos htw];exact go hm
      · rename_i htw;simp only [if_neg htw];exact sk hm
    · exact sk hm
    · cases hm
theorem wF {C C':Calls'}(hC:Leq C C'){pr:List (List Nat)}{os:List RO}{e:EA}{h:Hp}{x:EA×Hp}(hm:ai C pr os e h=some x):ai C' pr os e h=some x:=by
 unfold ai at hm ⊢;split at hm
 · rename_i hr;rw [lM hC hr];exact hm
 · cases hm
theorem aY {C C':Calls'}(hC:Leq C C'):∀ {m n:Nat} {c:QC} {e:EA} {h:Hp} {r:Ex×EA×Hp},m<=n->aW C m c e h=some r->aW C' n c e h=some r
 | 0,n,c,e,h,r,_,hm=>by simp [aW] at hm
 | m+1,0,c,e,h,r,hle,hm=>by omega
 | m+1,n+1,c,e,h,r,hle,hm=>by
  have hle':m<=n:=by omega
  cases c with
  | skip=>exact hm
  | ret l=>exact hm
  | exit i l=>exact hm
  | reg pr os =>
   cases pr with
   | none =>
    simp only [aW,lead] at hm ⊢;split at hm
    · rename_i ho; rw [jd hC ho]; exact hm
    · cases hm
   | some p =>
    simp only [aW,lead] at hm ⊢;split at hm
    · rename_i ho; rw [wF hC ho]; exact hm
    · cases hm
  | seq a b =>
   simp only [aW,dM] at hm ⊢;split at hm
   · rename_i e1 h1 ho;rw [aY hC hle' ho];exact aY hC hle' hm
   · rename_i o hne;rw [aY hC hle' hm];obtain ⟨ex,e1,h1⟩:=r;cases ex with
     | normal=>exact absurd hm (hne _ _)
     | _=>rfl
  | cond x a b =>
   simp only [aW,fork] at hm ⊢;split at hm
   · exact aY hC hle' hm
   · exact aY hC hle' hm
   · cases hm
  | block i b =>
   simp only [aW,leave] at hm ⊢;split at hm
   · rename_i j e1 h1 ho;rw [aY hC hle' ho];exact hm
   · rename_i o hne;rw [aY hC hle' hm];obtain ⟨ex,e1,h1⟩:=r;cases ex with
     | exit j=>exact absurd hm (hne _ _ _)
     | _=>rfl
  | loop keep b =>
   simp only [aW,dM] at hm ⊢;split at hm
   · rename_i e1 h1 ho;rw [aY hC hle' ho];exact aY hC hle' hm
   · rename_i o hne;rw [aY hC hle' hm];obtain ⟨ex,e1,h1⟩:=r;cases ex with
     | normal=>exact absurd hm (hne _ _)
     | _=>rfl
theorem vK {C C':Calls'}(hC:Leq C C'){m n:Nat}(hle:m<=n){q:QF}{args:List V}{h:Hp}{x:V×Hp}(hm:jQ C m q args h=some x):jQ C' n q args h=some x:=by
 unfold jQ done at hm ⊢;split at hm
 · rename_i ho; rw [aY hC hle ho]; exact hm
 · rename_i ho; rw [aY hC hle ho]; exact hm
 · cases hm
theorem iG (E:Calls')(T:FuncId->Option QF)(val:FuncId->Bool):∀ k,Leq (eF E T val k) (eF E T val (k+1))
 | 0=>fun f args h r hm=>by simp [eF] at hm
 | k+1=>by
  have ih:=iG E T val k;intro f args h r hm;rw [eF] at hm ⊢;dsimp only at hm ⊢;split at hm
  · exact hm
  · rename_i q hf;split at hm
    · rename_i hv;simp only [hv,if_true];simp only [pu] at hm ⊢;split at hm
      · cases hm
      · rename_i as has;split at hm
        · cases hm
        · rename_i r1 h4 hb;rw [vK ih (Nat.le_succ _) hb];exact hm
    · rename_i hv;simp only [hv];simp only [dU] at hm ⊢;split at hm
      · cases hm
      · rename_i r1 h4 hb;rw [vK ih (Nat.le_succ _) hb];exact hm
section
variable {C:Nat->Calls'}{L:Calls'}(hC:∀ k,Leq (C k) (C (k+1)))(hL:∀ f args h x,L f args h=some x↔∃ k,C k f args h=some x)
include hC in
theorem IC {k n:Nat}(hle:k<=n):Leq (C k) (C n):=by
 obtain ⟨d,rfl⟩:∃ d,n=k+d:=⟨n-k,by omega⟩;clear hle
 induction d with
 | zero=>exact Leq.refl _
 | succ d ih=>exact fun f args h r hr=>hC _ f args h r (ih f args h r hr)
include hL in
theorem IP {r:R}{ev:X->V}{h:Hp}{x:V×Hp}(hm:opE L r ev h=some x):∃ k,opE (C k) r ev h=some x:=by
 cases r with
 | call f args =>
  simp only [opE] at hm ⊢;split at hm
  · rename_i h1;simp only [if_pos h1];unfold iJ at hm ⊢;split at hm
    · exact (hL _ _ _ _).1 hm
    · exact (hL _ _ _ _).1 hm
    · cases hm
  · cases hm
 | _=>exact ⟨0,hm⟩
include hL in
theorem FZ {r:R}{ev:X->V}{h:Hp}{x:V×Hp×Tr}(hm:dh L r ev h=some x):∃ k,dh (C k) r ev h=some x:=by
 cases r with
 | call f args =>
  simp only [dh] at hm ⊢;split at hm
  · rename_i h1;simp only [if_pos h1];split at hm
    · rename_i v h2 ho;unfold iJ at ho ⊢;split at ho
      · obtain ⟨k,hk⟩:=(hL _ _ _ _).1 ho;exact ⟨k,by simp only [hk]; exact hm⟩
      · obtain ⟨k,hk⟩:=(hL _ _ _ _).1 ho;exact ⟨k,by simp only [hk]; exact hm⟩
      · cases ho
    · cases hm
  · cases hm
 | _=>exact ⟨0,hm⟩
include hC hL in
theorem oh:∀ {os:List RO} {e:EA} {h:Hp} {x:EA×Hp},gY L os e h=some x->∃ k,gY (C k) os e h=some x
 | [],e,h,x,hm=>⟨0,hm⟩
 | o::os,e,h,x,hm=>by
  have go:∀ {x},(match opE L o.r (X.ea e) h with
   | some (v,h')=>gY L os (cz e o.d v) h'
   | none=>none)=some x->∃ k,(match opE (C k) o.r (X.ea e) h with
   | some (v,h')=>gY (C k) os (cz e o.d v) h'
   | none=>none)=some x:=by
   intro x hm;split at hm
   · rename_i v h1 ho;obtain ⟨k1,hk1⟩:=IP hL ho;obtain ⟨k2,hk2⟩:=oh hm;refine ⟨max k1 k2,?_⟩;rw [Bu (IC hC (Nat.le_max_left k1 k2)) hk1];exact jd (IC hC (Nat.le_max_right k1 k2)) hk2
   · cases hm
  simp only [gY] at hm ⊢;split at hm
  · exact go hm
  · split at hm
    · split at hm
      · rename_i htw;simp only [if_pos htw];exact go hm
      · rename_i htw;simp only [if_neg htw];exact oh hm
    · exact oh hm
    · cases hm
include hC hL in
theorem tZ:∀ {os:List RO} {e:EA} {h:Hp} {x:List Tr×EA×Hp},gq L os e h=some x->∃ k,gq (C k) os e h=some x
 | [],e,h,x,hm=>⟨0,hm⟩
 | o::os,e,h,x,hm=>by
  have go:∀ {x},(match dh L o.r (X.ea e) h with
   | some (v,h',t)=>match gq L os (cz e o.d v) h' with
    | some (l,e',h'')=>some (t::l,e',h'')
    | none=>none
   | none=>none)=some x->∃ k,(match dh (C k) o.r (X.ea e) h with
   | some (v,h',t)=>match gq (C k) os (cz e o.d v) h' with
    | some (l,e',h'')=>some (t::l,e',h'')
    | none=>none
   | none=>none)=some x:=by
   intro x hm;split at hm
   · rename_i v h1 t ho;obtain ⟨k1,hk1⟩:=FZ hL ho;split at hm
     · rename_i hr;obtain ⟨k2,hk2⟩:=tZ hr;refine ⟨max k1 k2,?_⟩;rw [yc (IC hC (Nat.le_max_left k1 k2)) hk1];dsimp only;rw [lM (IC hC (Nat.le_max_right k1 k2)) hk2];exact hm
     · cases hm
   · cases hm
  have sk:∀ {x},(match gq L os (cz e o.d (.tup [])) h with
   | some (l,e',h'')=>some (av h::l,e',h'')
   | none=>none)=some x->∃ k,(match gq (C k) os (cz e o.d (.tup [])) h with
   | some (l,e',h'')=>some (av h::l,e',h'')
   | none=>none)=some x:=by
   intro x hm;split at hm
   · rename_i hr;obtain ⟨k2,hk2⟩:=tZ hr;exact ⟨k2,by rw [hk2]; exact hm⟩
   · cases hm
  simp only [gq] at hm ⊢;split at hm
  · exact go hm
  · split at hm
    · split at hm
      · rename_i htw;simp only [if_pos htw];exact go hm
      · rename_i htw;simp only [if_neg htw];exact sk hm
    · exact sk hm
    · cases hm
end
section
variable (E:Calls')(T:FuncId->Option QF)(val:FuncId->Bool)
noncomputable def Sm:Calls':=fun f args h=>KO fun k=>eF E T val k f args h
noncomputable def Cd (c:QC) (e:EA) (h:Hp):fZ:=KO fun k=>aW (eF E T val k) k c e h
noncomputable def Bd (q:QF) (args:List V) (h:Hp):Option (V×Hp):=done q (Cd E T val q.code (jP 0 args) h)
variable {E T val}
theorem Sm_iff {f:FuncId}{args:List V}{h:Hp}{x:V×Hp}:Sm E T val f args h=some x↔∃ k,eF E T val k f args h=some x :=
 Bb fun k x hx=>iG E T val k f args h x hx
theorem Cd_iff {c:QC}{e:EA}{h:Hp}{x:Ex×EA×Hp}:Cd E T val c e h=some x↔∃ k,aW (eF E T val k) k c e h=some x :=
 Bb fun k x hx=>aY (iG E T val k) (Nat.le_succ k) hx
theorem wW {k n:Nat}(hle:k<=n):Leq (eF E T val k) (eF E T val n):=IC (iG E T val) hle
theorem JE {k:Nat}:Leq (eF E T val k) (Sm E T val):=fun f args h r hr=>Sm_iff.2 ⟨k,hr⟩
theorem gK {k n:Nat}{c:QC}{e:EA}{h:Hp}{x:Ex×EA×Hp}(hx:aW (eF E T val k) n c e h=some x):Cd E T val c e h=some x :=
 Cd_iff.2 ⟨max k n,aY (wW (Nat.le_max_left _ _)) (Nat.le_max_right _ _) hx⟩
theorem J8 {e:EA}{h:Hp}:Cd E T val .skip e h=some (.normal,e,h):=Cd_iff.2 ⟨1,rfl⟩
theorem Nw {l:List Nat}{e:EA}{h:Hp}:Cd E T val (.ret l) e h=some (.ret,bU l e,h):=Cd_iff.2 ⟨1,rfl⟩
theorem J6 {i:Nat}{l:List Nat}{e:EA}{h:Hp}:Cd E T val (.exit i l) e h=some (.exit i,bU l e,h):=Cd_iff.2 ⟨1,rfl⟩
theorem Nv {os:List RO}{e:EA}{h:Hp}:Cd E T val (.reg none os) e h=lead (gY (Sm E T val) os e h):=by
 refine jW fun x=>?_;rw [Cd_iff];constructor
 · rintro ⟨k,hk⟩;cases k with
   | zero=>simp [aW] at hk
   | succ k =>
    simp only [aW,lead] at hk;split at hk
    · rename_i ho; rw [jd JE ho]; exact hk
    · cases hk
 · intro hx;unfold lead at hx;split at hx
   · rename_i ho;obtain ⟨k,hk⟩:=oh (iG E T val) (fun _ _ _ _=>Sm_iff) ho;refine ⟨k+1,?_⟩;simp only [aW,lead];rw [jd (iG E T val k) hk];exact hx
   · cases hx
theorem J7 {pr:List (List Nat)}{os:List RO}{e:EA}{h:Hp}:Cd E T val (.reg (some pr) os) e h=lead (ai (Sm E T val) pr os e h):=by
 refine jW fun x=>?_;rw [Cd_iff];constructor
 · rintro ⟨k,hk⟩;cases k with
   | zero=>simp [aW] at hk
   | succ k =>
    simp only [aW,lead] at hk;split at hk
    · rename_i ho; rw [wF JE ho]; exact hk
    · cases hk
 · intro hx;unfold lead ai at hx;split at hx
   · rename_i ho;split at ho
     · rename_i l e1 h1 hr;obtain ⟨k,hk⟩:=tZ (iG E T val) (fun _ _ _ _=>Sm_iff) hr;refine ⟨k+1,?_⟩;simp only [aW,lead,ai];rw [lM (iG E T val k) hk];dsimp only;rw [ho];exact hx
     · cases ho
   · cases hx
theorem Ny {a b:QC}{e:EA}{h:Hp}:Cd E T val (.seq a b) e h=dM (Cd E T val a e h) fun e h=>Cd E T val b e h:=by
 refine jW fun x=>?_;rw [Cd_iff];constructor
 · rintro ⟨k,hk⟩;cases k with
   | zero=>simp [aW] at hk
   | succ k =>
    simp only [aW,dM] at hk;split at hk
    · rename_i ho; rw [gK ho]; exact gK hk
    · rename_i o hne;rw [gK hk];obtain ⟨ex,e1,h1⟩:=x;cases ex with
      | normal=>exact absurd hk (hne _ _)
      | _=>rfl
 · intro hx;unfold dM at hx;split at hx
   · rename_i ho;obtain ⟨k1,hk1⟩:=Cd_iff.1 ho;obtain ⟨k2,hk2⟩:=Cd_iff.1 hx;refine ⟨max k1 k2+1,?_⟩;simp only [aW,dM];rw [aY (wW (by omega)) (Nat.le_max_left k1 k2) hk1];exact aY (wW (by omega)) (Nat.le_max_right k1 k2) hk2
   · rename_i o hne;obtain ⟨k1,hk1⟩:=Cd_iff.1 hx;refine ⟨k1+1,?_⟩;simp only [aW,dM];rw [aY (wW (by omega)) (bp k1) hk1];obtain ⟨ex,e1,h1⟩:=x;cases ex with
     | normal=>exact absurd hx (hne _ _)
     | _=>rfl
theorem J5 {c:X}{a b:QC}{e:EA}{h:Hp}:Cd E T val (.cond c a b) e h=fork (c.ea e) (Cd E T val a e h) (Cd E T val b e h):=by
 refine jW fun x=>?_;rw [Cd_iff];constructor
 · rintro ⟨k,hk⟩;cases k with
   | zero=>simp [aW] at hk
   | succ k =>
    simp only [aW,fork] at hk ⊢;split at hk
    · exact gK hk
    · exact gK hk
    · cases hk
 · intro hx;unfold fork at hx;split at hx
   · rename_i hc;obtain ⟨k1,hk1⟩:=Cd_iff.1 hx;exact ⟨k1+1,by simp only [aW,fork,hc]; exact aY (wW (by omega)) (bp k1) hk1⟩
   · rename_i hc;obtain ⟨k1,hk1⟩:=Cd_iff.1 hx;exact ⟨k1+1,by simp only [aW,fork,hc]; exact aY (wW (by omega)) (bp k1) hk1⟩
   · cases hx
theorem GV {i:Nat}{b:QC}{e:EA}{h:Hp}:Cd E T val (.block i b) e h=leave i (Cd E T val b e h):=by
 refine jW fun x=>?_;rw [Cd_iff];constructor
 · rintro ⟨k,hk⟩;cases k with
   | zero=>simp [aW] at hk
   | succ k =>
    simp only [aW,leave] at hk;split at hk
    · rename_i ho; rw [gK ho]; exact hk
    · rename_i o hne;rw [gK hk];obtain ⟨ex,e1,h1⟩:=x;cases ex with
      | exit j=>exact absurd hk (hne _ _ _)
      | _=>rfl
 · intro hx;unfold leave at hx;split at hx
   · rename_i ho;obtain ⟨k1,hk1⟩:=Cd_iff.1 ho;refine ⟨k1+1,?_⟩;simp only [aW,leave];rw [aY (wW (by omega)) (bp k1) hk1];exact hx
   · rename_i o hne;obtain ⟨k1,hk1⟩:=Cd_iff.1 hx;refine ⟨k1+1,?_⟩;simp only [aW,leave];rw [aY (wW (by omega)) (bp k1) hk1];obtain ⟨ex,e1,h1⟩:=x;cases ex with
     | exit j=>exact absurd hx (hne _ _ _)
     | _=>rfl
theorem yJ {l:List Nat}{b:QC}{e:EA}{h:Hp}:Cd E T val (.loop l b) e h=dM (Cd E T val b (bU l e) h) fun e h=>Cd E T val (.loop l b) e h:=by
 refine jW fun x=>?_;rw [Cd_iff];constructor
 · rintro ⟨k,hk⟩;cases k with
   | zero=>simp [aW] at hk
   | succ k =>
    simp only [aW,dM] at hk;split at hk
    · rename_i ho; rw [gK ho]; exact gK hk
    · rename_i o hne;rw [gK hk];obtain ⟨ex,e1,h1⟩:=x;cases ex with
      | normal=>exact absurd hk (hne _ _)
      | _=>rfl
 · intro hx;unfold dM at hx;split at hx
   · rename_i ho;obtain ⟨k1,hk1⟩:=Cd_iff.1 ho;obtain ⟨k2,hk2⟩:=Cd_iff.1 hx;refine ⟨max k1 k2+1,?_⟩;simp only [aW,dM];rw [aY (wW (by omega)) (Nat.le_max_left k1 k2) hk1];exact aY (wW (by omega)) (Nat.le_max_right k1 k2) hk2
   · rename_i o hne;obtain ⟨k1,hk1⟩:=Cd_iff.1 hx;refine ⟨k1+1,?_⟩;simp only [aW,dM];rw [aY (wW (by omega)) (bp k1) hk1];obtain ⟨ex,e1,h1⟩:=x;cases ex with
     | normal=>exact absurd hx (hne _ _)
     | _=>rfl
theorem FK (l:List Nat)(e:EA):bU l (bU l e)=bU l e:=by
 have:∀ m:List Nat,(∀ i∈m,i∈l)->m.map (fun i=>(i,(bU l e).get i))=m.map fun i=>(i,e.get i):=by
  intro m hm;apply List.map_congr_left;intro i hi;rw [qP,if_pos (hm i hi)]
 exact this l fun i hi=>hi
theorem au {l:List Nat}{b:QC}{e:EA}{h:Hp}:Cd E T val (.loop l b) e h=Cd E T val (.loop l b) (bU l e) h:=by
 rw [yJ (e:=e),yJ (e:=bU l e),FK]
theorem Bd_iff {q:QF}{args:List V}{h:Hp}{x:V×Hp}:Bd E T val q args h=some x↔∃ k,jQ (eF E T val k) k q args h=some x:=by
 unfold Bd jQ;constructor
 · intro hx;unfold done at hx;split at hx
   · rename_i ho;obtain ⟨k,hk⟩:=Cd_iff.1 ho;exact ⟨k,by rw [hk]; exact hx⟩
   · rename_i ho;obtain ⟨k,hk⟩:=Cd_iff.1 ho;exact ⟨k,by rw [hk]; exact hx⟩
   · cases hx
 · rintro ⟨k,hx⟩;unfold done at hx;split at hx
   · rename_i ho; rw [gK ho]; exact hx
   · rename_i ho; rw [gK ho]; exact hx
   · cases hx
theorem NQ {f:FuncId}{q:QF}(hf:T f=some q)(hv:val f=true){args:List V}{h:Hp}:Sm E T val f args h=pu args h (args.mapM (frz h)) fun as=>Bd E T val q as ⟨[],0⟩:=by
 refine jW fun x=>?_;rw [Sm_iff];constructor
 · rintro ⟨k,hk⟩;cases k with
   | zero=>simp [eF] at hk
   | succ k =>
    simp only [eF,hf,hv,if_true,pu] at hk ⊢;split at hk
    · cases hk
    · rename_i as has;split at hk
      · cases hk
      · rename_i r1 h4 hb;simp only [has,Bd_iff.2 ⟨k,hb⟩];exact hk
 · intro hx;simp only [pu] at hx;split at hx
   · cases hx
   · rename_i as has;split at hx
     · cases hx
     · rename_i r1 h4 hb;obtain ⟨k,hk⟩:=Bd_iff.1 hb;refine ⟨k+1,?_⟩;simp only [eF,hf,hv,if_true,pu,has,hk];exact hx
theorem aN {f:FuncId}{q:QF}(hf:T f=some q)(hv:val f=false){args:List V}{h:Hp}:Sm E T val f args h=dU h (Bd E T val q args ⟨h.bs,h.bs.length⟩):=by
 refine jW fun x=>?_;rw [Sm_iff];constructor
 · rintro ⟨k,hk⟩;cases k with
   | zero=>simp [eF] at hk
   | succ k =>
    simp only [eF,hf,hv,bm,if_false,dU] at hk ⊢;split at hk
    · cases hk
    · rename_i r1 h4 hb;simp only [Bd_iff.2 ⟨k,hb⟩];exact hk
 · intro hx;simp only [dU] at hx;split at hx
   · cases hx
   · rename_i r1 h4 hb;obtain ⟨k,hk⟩:=Bd_iff.1 hb;refine ⟨k+1,?_⟩;simp only [eF,hf,hv,bm,if_false,dU,hk];exact hx
theorem bC {f:FuncId}(hf:T f=none){args:List V}{h:Hp}:Sm E T val f args h=E f args h:=by
 refine jW fun x=>?_;rw [Sm_iff];constructor
 · rintro ⟨k,hk⟩;cases k with
   | zero=>simp [eF] at hk
   | succ k=>simp only [eF,hf] at hk; exact hk
 · intro hx;exact ⟨1,by simp only [eF,hf]; exact hx⟩
theorem o9 {P:Program}(hmix:P.follows .mixedOrders=true)(hE:aQ P E)(hT:mQ P T):aQ P (Sm E T val):=by
 intro f args h r h' hm;obtain ⟨k,hk⟩:=Sm_iff.1 hm;exact zR hmix hE hT val k f args h r h' hk
end
end
section
def QOk (P:Program)(f:FuncId)(q:QF):Prop:=∃ rf,Du P f=some rf/\rf.quiet=q.toRF/\q.fits=true
theorem qok {P:Program}{f:FuncId}{q:QF}(h:(Du P f).map RF.quiet=some q.toRF)(hf:q.fits=true):QOk P f q:=by
 simp only [bj] at h;obtain ⟨rf,h1,h2⟩:=h;exact ⟨rf,h1,h2,hf⟩
theorem oks {P:Program}{l:List (Nat×QF)}(h:(l.map fun p=>(Du P p.1).map RF.quiet)=l.map fun p=>some p.2.toRF)(hf:(l.all fun p=>p.2.fits)=true):∀ p∈l,QOk P p.1 p.2:=fun p hp =>
 qok (List.map_inj_left.1 h p hp) (ch.1 hf p hp)
def kz:List (Nat×QF)->Nat->Option QF
 | [],_=>none
 | (k,q)::l,n=>match Nat.beq k n with
  | true=>some q
  | false=>kz l n
theorem gW {P:Program}:∀ {l:List (Nat×QF)},(∀ p∈l,QOk P p.1 p.2)->mQ P (kz l)
 | [],_=>fun f q h=>by simp [kz] at h
 | (k,q0)::l,hl=>fun f q h=>by
  simp only [kz] at h;split at h
  · rename_i hk;have:=Nat.eq_of_beq_eq_true hk;subst this;cases h;exact hl (k,q0) (by simp)
  · exact gW (fun p hp=>hl p (List.mem_cons_of_mem _ hp)) f q h
end
section
def cls (l:List (List Nat)):List (List Nat):=l.foldl (fun acc d=>acc++[ded (d.flatMap fun e=>e::acc.getD e [])]) []
@[simp] def zi:V:=.d (.int .i64 0)
@[simp] def zs0:V:=.d (.slice true [])
@[simp] def zu:V:=.d (.int .u64 0)
@[simp] def zw:V:=.d (.int .u32 0)
@[simp] def zb:V:=.d (.bool false)
@[simp] def sr (l:List RO)(b:QC):QC:=.seq (.reg none l) b
@[simp] def kc' (f:Nat)(a:List X):R:=.call (.c (.fn f [])) a
@[simp] def kt' (f:Nat)(a:List X):R:=.call (.t f) a
@[simp] def l1' (a:Nat):R:=.load true 1 (.t a)
@[simp] def lf (z a:Nat):R:=.load false z (.t a)
@[simp] def fa (a o:Nat):R:=.fldA (.t a) o
@[simp] def ln' (a:Nat):R:=.len false (.t a)
@[simp] def ia (z a b:Nat):R:=.idxA none z (.t a) (.t b)
@[simp] def bt (o:BinOp)(a b:Nat):R:=.bin o (.t a) (.t b)
@[simp] def bc (o:BinOp)(a:Nat)(c:Int):R:=.bin o (.t a) (.c (.d (.int .i64 c)))
@[simp] def oc' (n:Nat)(c:Int):RO:=⟨none,some n,.mov (.c (.d (.int .i64 c)))⟩
@[simp] def so' (z a b:Nat):RO:=⟨none,none,.store z (.t a) (.t b)⟩
@[simp] def nw (n:Nat)(z:List V):RO:=⟨none,some n,.new z⟩
@[simp] def op (n:Nat)(r:R):RO:=⟨none,some n,r⟩
@[simp] def mv (n i:Nat):RO:=⟨none,some n,.mov (.t i)⟩
@[simp] def ot (g n:Nat)(r:R):RO:=⟨some (g,true),some n,r⟩
@[simp] def ow (g n:Nat)(r:R):RO:=⟨some (g,false),some n,r⟩
@[simp] def ci (n:Int):X:=.c (.d (.int .i64 n))
@[simp] def g0' (c0:QC):QF:=⟨26,[.tmp 4],(sr [op 4 (.mov (.c zb))] (.seq (sr [mv 6 0,op 7 (ln' 6),mv 8 1,op 9 (ln' 8),op 10 (.eq (.sc (.i .i64)) true (.t 7) (.t 9))] (.cond (.t 10) (sr [op 4 (.mov (.c zb))] (.ret [4])) .skip)) (.seq (sr [oc' 5 0] (.block 0 (.loop [0,1,5] c0))) (sr [op 4 (.mov (.c (.d (.bool true))))] (.ret [4])))))⟩
@[simp] def g1' :QF:=⟨5,[.tmp 2],(sr [op 1 (.box (.t 0)),op 2 (.mov (.c zu))] (sr [op 3 (fa 1 0),op 4 (l1' 3),mv 2 4] (.ret [2])))⟩
@[simp] def g2' (n0:Nat)(n1:Nat)(n2:Nat)(n3:Nat)(n4:Nat):QF:=⟨15,[.tmp 2],(sr [op 1 (.box (.t 0)),op 2 (.mov (.c zb))] (sr [op 4 (.mkfn n0 [.t 1]),mv 3 4] (sr [op 5 (fa 1 n1),op 6 (l1' 5),mv 7 3,op 8 (kc' n2 [.t 6,.t 7]),op 9 (.un .not (.t 8)),mv 10 9,ot 10 11 (fa 1 n1),ot 10 12 (l1' 11),ot 10 13 (kc' n3 [.t 12,(.c (.fn n4 []))]),op 14 (.pick (.t 10) (.t 13) (.c zb)),mv 2 14] (.ret [2]))))⟩
@[simp] def g3' (c0:QC)(z1:List V)(n2:Nat):QF:=⟨52,[.tmp 4],(sr [op 3 (.box (.t 1)),op 4 (.mov (.c zs0))] (sr [op 5 (.mov (.c zs0))] (sr [op 6 (.mov (.c zb))] (.seq (sr [oc' 7 0] (.block 0 (.loop [0,3,5,6,7] c0))) (.seq (sr [mv 45 6,op 46 (.un .not (.t 45))] (.cond (.t 46) (.reg none [mv 47 5,op 48 (lf 5 3),⟨none,some 49,.buildS 5 1 z1 [(0,5,(.t 48))]⟩,op 50 (.app 5 n2 (.t 47) (.t 49)),mv 5 50]) .skip)) (sr [mv 51 5,mv 4 51] (.ret [4])))))))⟩
@[simp] def g4' (z0:List V)(n1:Nat):QC:=(.seq (sr [mv 8 7,mv 9 0,op 10 (ln' 9),op 11 (bt .lss 8 10)] (.cond (.t 11) .skip (.exit 0 [3,5,6]))) (.seq (.block 1 (.seq (sr [mv 14 6,op 15 (.un .not (.t 14)),mv 16 15,ot 16 17 (.mov (.t 0)),ot 16 18 (.mov (.t 7)),ot 16 19 (ia 5 17 18),ot 16 20 (fa 19 0),ot 16 21 (l1' 20),ot 16 22 (fa 3 0),ot 16 23 (l1' 22),ot 16 24 (bt .geq 21 23),op 25 (.pick (.t 16) (.t 24) (.c zb))] (.cond (.t 25) (sr [mv 26 5,op 27 (lf 5 3),⟨none,some 28,.buildS 5 1 z0 [(0,5,(.t 27))]⟩,op 29 (.app 5 n1 (.t 26) (.t 28)),mv 5 29] (.reg none [op 6 (.mov (.c (.d (.bool true))))])) .skip)) (sr [mv 30 0,mv 31 7,op 32 (ia 5 30 31),op 33 (fa 32 0),op 34 (l1' 33),op 35 (fa 3 0),op 36 (l1' 35),op 37 (.eq (.sc (.i .u64)) true (.t 34) (.t 36))] (.cond (.t 37) (.reg none [mv 38 5,mv 39 0,mv 40 7,op 41 (ia 5 39 40),op 42 (lf 5 41),⟨none,some 43,.buildS 5 1 z0 [(0,5,(.t 42))]⟩,op 44 (.app 5 n1 (.t 38) (.t 43)),mv 5 44]) .skip)))) (.reg none [mv 12 7,op 13 (bc .add 12 1),mv 7 13])))
@[simp] def g5' (n0:Nat)(c1:QC):QF:=⟨n0,[.tmp 2],(sr [op 1 (.box (.t 0)),op 2 (.mov (.c zb))] (.seq (sr [oc' 3 0] (.block 0 (.loop [1,3] c1))) (sr [op 2 (.mov (.c (.d (.bool true))))] (.ret [2]))))⟩
@[simp] def g6' (c0:QC):QF:=⟨22,[.tmp 4],(sr [op 4 (.mov (.c zs0))] (sr [op 5 (.mov (.c zs0))] (.seq (sr [mv 8 0,op 9 (ln' 8),oc' 10 0] (.block 0 (.loop [1,5,8,9,10] c0))) (sr [mv 21 5,mv 4 21] (.ret [4])))))⟩
@[simp] def g7' (n0:Nat)(z1:List V)(n2:Nat):QC:=(sr [op 11 (bt .lss 10 9)] (.seq (.cond (.t 11) .skip (.exit 0 [5])) (.seq (.block 1 (sr [op 12 (ia n0 8 10),op 13 (lf n0 12),nw 7 z1,so' n0 7 13] (.reg none [mv 14 5,mv 15 1,op 16 (lf n0 7),op 17 (kt' 15 [.t 16]),op 18 (.buildS n0 1 z1 [(0,n0,(.t 17))]),op 19 (.app n0 n2 (.t 14) (.t 18)),mv 5 19]))) (.reg none [op 20 (bc .add 10 1),mv 10 20]))))
@[simp] def g8' (n0:Nat):QF:=⟨14,[],(sr [mv 5 0,op 6 (ln' 5),mv 4 6] (.reg none [mv 7 0,mv 8 4,mv 9 4,op 10 (.convI .u64 (.t 9)),op 11 (kc' 150 [.t 10]),mv 12 1,op 13 (kc' n0 [.t 7,(ci 0),.t 8,.t 11,.t 12])]))⟩
@[simp] def g9' (n0:Nat):QF:=⟨11,[.tmp 2],(sr [op 1 (.box (.t 0)),op 2 (.mov (.c zb))] (sr [op 3 (fa 1 0),op 4 (l1' 3),op 5 (kc' n0 [.t 4]),mv 6 5,ot 6 7 (fa 1 1),ot 6 8 (l1' 7),ot 6 9 (kc' n0 [.t 8]),op 10 (.pick (.t 6) (.t 9) (.c zb)),mv 2 10] (.ret [2])))⟩
@[simp] def Im (n0:Nat)(n1:Nat):QF:=⟨9,[.tmp 3],(sr [op 2 (.box (.t 0)),op 3 (.mov (.c zb))] (sr [op 4 (fa 2 n0),op 5 (l1' 4),op 6 (fa 1 n1),op 7 (l1' 6),op 8 (.eq (.sc (.i .u64)) false (.t 5) (.t 7)),mv 3 8] (.ret [3])))⟩
@[simp] def Ot (c0:QC):QF:=⟨148,[],(sr [op 10 (.mov (.c (.d (.bool true))))] (sr [op 11 (.mov (.c (.d (.bool true))))] (.block 0 (.loop [0,1,2,3,4,10,11] c0))))⟩
@[simp] def Ou (n0:Nat)(n1:Nat)(n2:Nat)(n3:Nat)(n4:Nat)(n5:Nat)(n6:Nat)(n7:Nat)(n8:Nat)(n9:Nat):QC:=(.block 1 (sr [mv 21 2,mv 22 1,op 23 (bt .sub 21 22),mv 12 23] (.seq (sr [mv 24 12,op 25 (bc .leq 24 12)] (.cond (.t 25) (sr [mv 26 0,mv 27 1,mv 28 2,mv 29 4,op 30 (kc' n0 [.t 26,.t 27,.t 28,.t 29])] (.ret [])) .skip)) (.seq (sr [mv 31 3,op 32 (.eq (.sc (.i .i64)) false (.t 31) (ci 0))] (.cond (.t 32) (sr [mv 33 0,mv 34 1,mv 35 2,mv 36 4,op 37 (kc' n1 [.t 33,.t 34,.t 35,.t 36])] (.ret [])) .skip)) (.seq (sr [mv 38 10,op 39 (.un .not (.t 38))] (.cond (.t 39) (sr [mv 40 0,mv 41 1,mv 42 2,mv 43 4,op 44 (kc' n2 [.t 40,.t 41,.t 42,.t 43])] (.reg none [mv 45 3,op 46 (bc .sub 45 1),mv 3 46])) .skip)) (sr [mv 48 0,mv 49 1,mv 50 2,mv 51 4,op 52 (kc' n3 [.t 48,.t 49,.t 50,.t 51]),mv 47 52,op 53 (.ext (.t 47) 0),op 54 (.ext (.t 47) 1),mv 13 53,mv 14 54] (.seq (sr [mv 55 14,op 56 (.eq (.sc (.i .i64)) false (.t 55) (ci 2))] (.cond (.t 56) (sr [mv 57 0,mv 58 1,mv 59 2,mv 60 4,op 61 (kc' n4 [.t 57,.t 58,.t 59,.t 60])] (sr [mv 62 2,op 63 (bc .sub 62 1),mv 64 13,mv 65 1,op 66 (bt .sub 64 65),op 67 (bt .sub 63 66),mv 13 67] (.reg none [oc' 14 1]))) .skip)) (.seq (sr [mv 68 10,mv 69 68,ot 69 70 (.mov (.t 11)),op 71 (.pick (.t 69) (.t 70) (.c zb)),mv 72 71,ot 72 73 (.mov (.t 14)),ot 72 74 (.eq (.sc (.i .i64)) false (.t 73) (ci 1)),op 75 (.pick (.t 72) (.t 74) (.c zb))] (.cond (.t 75) (sr [mv 76 0,mv 77 1,mv 78 2,mv 79 4,op 80 (kc' n5 [.t 76,.t 77,.t 78,.t 79])] (.cond (.t 80) (.ret []) .skip)) .skip)) (.seq (.seq (.reg (some (cls [[],[0],[1],[2],[2],[2],[5],[4,6],[7],[2],[2],[9,10],[11],[3,8,12],[13],[14],[15]])) [mv 81 1,op 82 (bc .gtr 81 0),mv 83 82,ot 83 84 (.mov (.t 4)),ot 83 85 (.mov (.t 0)),ot 83 86 (.mov (.t 1)),ot 83 87 (bc .sub 86 1),ot 83 88 (ia n6 85 87),ot 83 89 (lf n6 88),ot 83 90 (.mov (.t 0)),ot 83 91 (.mov (.t 13)),ot 83 92 (ia n6 90 91),ot 83 93 (lf n6 92),ot 83 94 (kt' 84 [.t 89,.t 93]),ot 83 95 (bc .lss 94 0),ot 83 96 (.un .not (.t 95)),op 97 (.pick (.t 83) (.t 96) (.c zb))]) (.cond (.t 97) (sr [mv 98 0,mv 99 1,mv 100 2,mv 101 13,mv 102 4,op 103 (kc' n7 [.t 98,.t 99,.t 100,.t 101,.t 102]),mv 15 103] (sr [mv 104 15,mv 1 104] (.exit 1 [0,1,2,3,4,10,11]))) .skip)) (sr [mv 106 0,mv 107 1,mv 108 2,mv 109 13,mv 110 4,op 111 (kc' n8 [.t 106,.t 107,.t 108,.t 109,.t 110]),mv 105 111,op 112 (.ext (.t 105) 0),op 113 (.ext (.t 105) 1),mv 16 112,mv 17 113] (sr [mv 114 17,mv 11 114] (sr [mv 115 16,mv 116 1,op 117 (bt .sub 115 116),mv 118 2,mv 119 16,op 120 (bt .sub 118 119),mv 18 117,mv 19 120] (sr [mv 121 12,op 122 (bc .quo 121 8),mv 20 122] (sr [mv 123 18,mv 124 19,op 125 (bt .lss 123 124)] (.cond (.t 125) (sr [mv 126 18,mv 127 20,op 128 (bt .geq 126 127),mv 10 128] (sr [mv 129 0,mv 130 1,mv 131 16,mv 132 3,mv 133 4,op 134 (kc' n9 [.t 129,.t 130,.t 131,.t 132,.t 133])] (.reg none [mv 135 16,op 136 (bc .add 135 1),mv 1 136]))) (sr [mv 137 19,mv 138 20,op 139 (bt .geq 137 138),mv 10 139] (sr [mv 140 0,mv 141 16,op 142 (bc .add 141 1),mv 143 2,mv 144 3,mv 145 4,op 146 (kc' n9 [.t 140,.t 142,.t 143,.t 144,.t 145])] (.reg none [mv 147 16,mv 2 147]))))))))))))))))))
@[simp] def Ov (n0:Nat):QC:=(.seq (.seq (.reg (some (cls [[],[],[0,1],[2],[3],[3],[3],[5,6],[7],[3],[3],[10],[9,11],[12],[4,8,13],[14],[15]])) [mv 18 9,mv 19 1,op 20 (bt .gtr 18 19),mv 21 20,ot 21 22 (.mov (.t 3)),ot 21 23 (.mov (.t 0)),ot 21 24 (.mov (.t 9)),ot 21 25 (ia n0 23 24),ot 21 26 (lf n0 25),ot 21 27 (.mov (.t 0)),ot 21 28 (.mov (.t 9)),ot 21 29 (bc .sub 28 1),ot 21 30 (ia n0 27 29),ot 21 31 (lf n0 30),ot 21 32 (kt' 22 [.t 26,.t 31]),ot 21 33 (bc .lss 32 0),op 34 (.pick (.t 21) (.t 33) (.c zb))]) (.cond (.t 34) .skip (.exit 2 [0,1,2,3,8]))) (.seq (.block 3 (.reg none [mv 37 0,mv 38 9,mv 39 0,mv 40 9,op 41 (bc .sub 40 1),mv 42 0,mv 43 9,op 44 (bc .sub 43 1),op 45 (ia n0 42 44),op 46 (lf n0 45),mv 47 0,mv 48 9,op 49 (ia n0 47 48),op 50 (lf n0 49),op 51 (ia n0 37 38),so' n0 51 46,op 52 (ia n0 39 41),so' n0 52 50])) (.reg none [mv 35 9,op 36 (bc .sub 35 1),mv 9 36])))
@[simp] def Ow (c0:QC):QC:=(.seq (sr [mv 12 8,mv 13 2,op 14 (bt .lss 12 13)] (.cond (.t 14) .skip (.exit 0 []))) (.seq (.block 1 (sr [mv 17 8,mv 9 17] (.block 2 (.loop [0,1,2,3,8,9] c0)))) (.reg none [mv 15 8,op 16 (bc .add 15 1),mv 8 16])))
@[simp] def Tw (n0:Nat)(n1:Nat)(n2:Nat):QF:=⟨15,[.tmp 2],(sr [op 1 (.box (.t 0)),op 2 (.mov (.c zb))] (sr [op 3 (lf 8 1),op 4 (kc' n0 [.t 3]),mv 5 4,ot 5 6 (lf 8 1),ot 5 7 (kc' n1 [.t 6]),op 8 (.pick (.t 5) (.t 7) (.c zb)),mv 9 8,ot 9 10 (lf 8 1),ot 9 11 (kc' n2 [.t 10]),ot 9 12 (ln' 11),ot 9 13 (bc .leq 12 8192),op 14 (.pick (.t 9) (.t 13) (.c zb)),mv 2 14] (.ret [2])))⟩
@[simp] def Tx (n0:Nat)(z1:List V)(n2:Nat)(n3:Nat)(n4:Nat):QF:=⟨19,[.cell 4 false n0,.tmp 5],(sr [op 2 (.box (.t 0)),op 3 (.box (.t 1)),⟨none,some 4,.new z1⟩,op 5 (.mov (.c zb))] (sr [op 7 (fa 2 n2),op 8 (l1' 7),op 9 (.mkfn n3 [.t 3]),op 10 (kc' n4 [.t 8,.t 9]),mv 6 10] (.seq (sr [mv 11 6,op 12 (bc .lss 11 0)] (.cond (.t 12) (sr [⟨none,some 13,.build z1 []⟩,so' n0 4 13,op 5 (.mov (.c zb))] (.ret [4,5])) .skip)) (sr [op 14 (fa 2 n2),op 15 (l1' 14),mv 16 6,op 17 (ia n0 15 16),op 18 (lf n0 17),so' n0 4 18,op 5 (.mov (.c (.d (.bool true))))] (.ret [4,5])))))⟩
@[simp] def Ox (c0:QC):QF:=⟨22,[.tmp 4],(sr [op 2 (.box (.t 0)),oc' 4 0] (.seq (sr [oc' 5 0] (.block 0 (.loop [1,2,5] c0))) (sr [op 4 (.mov (.c (.d (.int .i64 (-1)))))] (.ret [4]))))⟩
@[simp] def Oy (n0:Nat)(n1:Nat):QC:=(.seq (sr [mv 6 5,op 7 (fa 2 n0),op 8 (l1' 7),op 9 (ln' 8),op 10 (bt .lss 6 9)] (.cond (.t 10) .skip (.exit 0 []))) (.seq (.block 1 (sr [op 13 (fa 2 n0),op 14 (l1' 13),mv 15 5,op 16 (ia n1 14 15),op 17 (fa 16 0),op 18 (l1' 17),mv 19 1,op 20 (.eq (.sc (.i .u64)) false (.t 18) (.t 19))] (.cond (.t 20) (sr [mv 21 5,mv 4 21] (.ret [4])) .skip))) (.reg none [mv 11 5,op 12 (bc .add 11 1),mv 5 12])))
@[simp] def Ty :QF:=⟨25,[.tmp 2],(sr [op 1 (.box (.t 0)),op 2 (.mov (.c zb))] (sr [op 3 (fa 1 4),op 4 (l1' 3),op 5 (ln' 4),op 6 (bc .leq 5 16),mv 7 6,ot 7 8 (fa 1 5),ot 7 9 (l1' 8),ot 7 10 (ln' 9),ot 7 11 (bc .leq 10 6),op 12 (.pick (.t 7) (.t 11) (.c zb)),mv 13 12,ot 13 14 (fa 1 6),ot 13 15 (l1' 14),ot 13 16 (ln' 15),ot 13 17 (bc .leq 16 4),op 18 (.pick (.t 13) (.t 17) (.c zb)),mv 19 18,ot 19 20 (fa 1 7),ot 19 21 (l1' 20),ot 19 22 (ln' 21),ot 19 23 (bc .leq 22 12),op 24 (.pick (.t 19) (.t 23) (.c zb)),mv 2 24] (.ret [2])))⟩
def allQ (con clo:Nat):QF:=⟨17,[.tmp 6],(sr [op 5 (.box (.t 2)),op 6 (.mov (.c zb))] (sr [mv 7 1,op 8 (ln' 7),mv 9 0,op 10 (bt .leq 8 9),mv 11 10,ot 11 12 (.mov (.t 1)),ot 11 13 (.mkfn clo [.t 5]),ot 11 14 (.call (.c (.fn con [])) [.t 12,.t 13]),ot 11 15 (.un .not (.t 14)),op 16 (.pick (.t 11) (.t 15) (.c zb)),mv 6 16] (.ret [6])))⟩
def anyQ (idx:Nat):QF:=⟨9,[.tmp 4],(sr [op 4 (.mov (.c zb))] (sr [mv 5 0,mv 6 1,op 7 (.call (.c (.fn idx [])) [.t 5,.t 6]),op 8 (bc .geq 7 0),mv 4 8] (.ret [4])))⟩
def cloneQ (z b:Nat)(zero:List V):QF:=⟨8,[.tmp 2],(sr [op 2 (.mov (.c zs0))] (.seq (sr [mv 3 0,op 4 (.eq .sl false (.t 3) (.c zs0))] (.cond (.t 4) (sr [op 2 (.mov (.c zs0))] (.ret [2])) .skip)) (sr [op 5 (.buildS z 0 zero []),mv 6 0,op 7 (.app z b (.t 5) (.t 6)),mv 2 7] (.ret [2]))))⟩
def vR (kd:IntKind):QC:=(.seq (sr [mv 29 5,mv 30 4,op 31 (ln' 30),op 32 (bt .lss 29 31)] (.cond (.t 32) .skip (.exit 2 [0,3]))) (.seq (.block 3 (sr [mv 35 4,mv 36 5,op 37 (ia 1 35 36),op 38 (l1' 37),mv 39 4,mv 40 5,op 41 (bc .sub 40 1),op 42 (ia 1 39 41),op 43 (l1' 42),op 44 (.eq (.sc (.i kd)) true (.t 38) (.t 43))] (.cond (.t 44) (sr [mv 45 0,mv 46 3,mv 47 4,mv 48 5,op 49 (ia 1 47 48),op 50 (l1' 49),op 51 (ia 1 45 46),so' 1 51 50] (.reg none [mv 52 3,op 53 (bc .add 52 1),mv 3 53])) .skip))) (.reg none [mv 33 5,op 34 (bc .add 33 1),mv 5 34])))
def uq (kd:IntKind):QC:=(.seq (sr [mv 10 3,mv 11 0,op 12 (ln' 11),op 13 (bt .lss 10 12)] (.cond (.t 13) .skip (.exit 0 [0]))) (.seq (.block 1 (sr [mv 16 0,mv 17 3,op 18 (ia 1 16 17),op 19 (l1' 18),mv 20 0,mv 21 3,op 22 (bc .sub 21 1),op 23 (ia 1 20 22),op 24 (l1' 23),op 25 (.eq (.sc (.i kd)) false (.t 19) (.t 24))] (.cond (.t 25) (sr [mv 26 0,mv 27 3,op 28 (.slc .sl 1 (.t 26) (some (.t 27)) none none),mv 4 28] (.seq (sr [oc' 5 1] (.block 2 (.loop [0,3,4,5] (vR kd)))) (sr [mv 54 0,mv 55 3,op 56 (.slc .sl 1 (.t 54) (some (.t 55)) none none),⟨none,none,.clear 1 [(.d (.int kd 0))] (.t 56)⟩] (sr [mv 57 0,mv 58 3,op 59 (.slc .sl 1 (.t 57) none (some (.t 58)) none),mv 2 59] (.ret [2]))))) .skip))) (.reg none [mv 14 3,op 15 (bc .add 14 1),mv 3 15])))
def cmpQ (kd:IntKind):QF:=⟨61,[.tmp 2],(sr [op 2 (.mov (.c zs0))] (.seq (sr [mv 6 0,op 7 (ln' 6),op 8 (bc .lss 7 2)] (.cond (.t 8) (sr [mv 9 0,mv 2 9] (.ret [2])) .skip)) (.seq (sr [oc' 3 1] (.block 0 (.loop [0,3] (uq kd)))) (sr [mv 60 0,mv 2 60] (.ret [2])))))⟩
def CZ (z:Nat)(zero:List V):QC:=(.seq (sr [mv 16 6,mv 17 0,op 18 (ln' 17),op 19 (bt .lss 16 18)] (.cond (.t 19) .skip (.exit 0 [0,5]))) (.seq (.block 1 (sr [mv 22 0,mv 23 6,op 24 (.idxA none z (.t 22) (.t 23)),op 25 (.load false z (.t 24)),op 7 (.new zero),⟨none,none,.store z (.t 7) (.t 25)⟩] (sr [mv 26 1,op 27 (.load false z (.t 7)),op 28 (kt' 26 [.t 27]),op 29 (.un .not (.t 28))] (.cond (.t 29) (sr [mv 30 0,mv 31 5,op 32 (.load false z (.t 7)),op 33 (.idxA none z (.t 30) (.t 31)),⟨none,none,.store z (.t 33) (.t 32)⟩] (.reg none [mv 34 5,op 35 (bc .add 34 1),mv 5 35])) .skip)))) (.reg none [mv 20 6,op 21 (bc .add 20 1),mv 6 21])))
def delQ (z idx:Nat)(zero:List V):QF:=⟨42,[.tmp 4],(sr [op 4 (.mov (.c zs0))] (sr [mv 8 0,mv 9 1,op 10 (.call (.c (.fn idx [])) [.t 8,.t 9]),mv 5 10] (.seq (sr [mv 11 5,op 12 (.eq (.sc (.i .i64)) false (.t 11) (.c (.d (.int .i64 (-1)))))] (.cond (.t 12) (sr [mv 13 0,mv 4 13] (.ret [4])) .skip)) (.seq (sr [mv 14 5,op 15 (bc .add 14 1),mv 6 15] (.block 0 (.loop [0,1,5,6] (CZ z zero)))) (sr [mv 36 0,mv 37 5,op 38 (.slc .sl z (.t 36) (some (.t 37)) none none),⟨none,none,.clear z zero (.t 38)⟩] (sr [mv 39 0,mv 40 5,op 41 (.slc .sl z (.t 39) none (some (.t 40)) none),mv 4 41] (.ret [4])))))))⟩
def ww:QC:=(sr [op 9 (bt .lss 8 7)] (.seq (.cond (.t 9) .skip (.exit 0 [])) (.seq (.block 1 (sr [mv 10 8,mv 5 10] (sr [mv 11 1,mv 12 0,mv 13 5,op 14 (ia 1 12 13),op 15 (l1' 14),op 16 (kt' 11 [.t 15])] (.cond (.t 16) (sr [mv 17 5,mv 4 17] (.ret [4])) .skip)))) (.reg none [op 18 (bc .add 8 1),mv 8 18]))))
def idx1Q:QF:=⟨19,[.tmp 4],(sr [oc' 4 0] (.seq (sr [mv 6 0,op 7 (ln' 6),oc' 8 0] (.block 0 (.loop [0,1,7,8] ww))) (sr [op 4 (.mov (.c (.d (.int .i64 (-1)))))] (.ret [4]))))⟩
def sU (z:Nat):QC:=(sr [op 9 (bt .lss 8 7)] (.seq (.cond (.t 9) .skip (.exit 0 [])) (.seq (.block 1 (sr [mv 10 8,mv 5 10] (sr [mv 11 1,mv 12 0,mv 13 5,op 14 (.idxA none z (.t 12) (.t 13)),op 15 (.load false z (.t 14)),op 16 (kt' 11 [.t 15])] (.cond (.t 16) (sr [mv 17 5,mv 4 17] (.ret [4])) .skip)))) (.reg none [op 18 (bc .add 8 1),mv 8 18]))))
def idxQ (z:Nat):QF:=⟨19,[.tmp 4],(sr [oc' 4 0] (.seq (sr [mv 6 0,op 7 (ln' 6),oc' 8 0] (.block 0 (.loop [0,1,7,8] (sU z)))) (sr [op 4 (.mov (.c (.d (.int .i64 (-1)))))] (.ret [4]))))⟩
def not1Q:QF:=⟨8,[.tmp 3],(sr [op 3 (.mov (.c zb))] (sr [op 4 (l1' 1),mv 5 0,op 6 (kt' 4 [.t 5]),op 7 (.un .not (.t 6)),mv 3 7] (.ret [3])))⟩
def notQ (z:Nat):QF:=⟨8,[.tmp 3],(sr [op 2 (.box (.t 0)),op 3 (.mov (.c zb))] (sr [op 4 (l1' 1),op 5 (.load false z (.t 2)),op 6 (kt' 4 [.t 5]),op 7 (.un .not (.t 6)),mv 3 7] (.ret [3])))⟩
def wU (z:Nat):QC:=(sr [op 9 (bt .lss 8 7)] (.seq (.cond (.t 9) .skip (.exit 0 [])) (.seq (.block 1 (sr [mv 10 8,mv 5 10] (.seq (.reg (some [[],[0],[1,0],[2,1,0],[2,1,0],[2,1,0],[5,2,1,0],[4,6,5,2,1,0],[7,4,6,5,2,1,0],[3,8,7,4,6,5,2,1,0],[2,1,0],[2,1,0],[2,1,0],[11,12,2,1,0],[13,11,12,2,1,0],[10,14,13,11,12,9,3,8,7,4,6,5,2,1,0],[15,10,14,13,11,12,9,3,8,7,4,6,5,2,1,0],[16,15,10,14,13,11,12,9,3,8,7,4,6,5,2,1,0]]) [mv 11 5,op 12 (bc .gtr 11 0),mv 13 12,ot 13 14 (.mov (.t 1)),ot 13 15 (.mov (.t 0)),ot 13 16 (.mov (.t 5)),ot 13 17 (bc .sub 16 1),ot 13 18 (.idxA none z (.t 15) (.t 17)),ot 13 19 (.load false z (.t 18)),ot 13 20 (kt' 14 [.t 19]),ot 13 21 (.mov (.t 1)),ot 13 22 (.mov (.t 0)),ot 13 23 (.mov (.t 5)),ot 13 24 (.idxA none z (.t 22) (.t 23)),ot 13 25 (.load false z (.t 24)),ot 13 26 (kt' 21 [.t 25]),ot 13 27 (bt .geq 20 26),op 28 (.pick (.t 13) (.t 27) (.c zb))]) (.cond (.t 28) (sr [op 4 (.mov (.c zb))] (.ret [4])) .skip)))) (.reg none [op 29 (bc .add 8 1),mv 8 29]))))
def risQ (z:Nat):QF:=⟨30,[.tmp 4],(sr [op 4 (.mov (.c zb))] (.seq (sr [mv 6 0,op 7 (ln' 6),oc' 8 0] (.block 0 (.loop [0,1,7,8] (wU z)))) (sr [op 4 (.mov (.c (.d (.bool true))))] (.ret [4]))))⟩
def someQ (con:Nat):QF:=⟨8,[.tmp 4],(sr [op 4 (.mov (.c zb))] (sr [mv 5 0,mv 6 1,op 7 (.call (.c (.fn con [])) [.t 5,.t 6]),mv 4 7] (.ret [4])))⟩
def wiQ (z b wo clos srt:Nat)(zero:List V):QF:=⟨26,[.tmp 6],(sr [op 4 (.box (.t 1)),op 5 (.box (.t 2)),op 6 (.mov (.c zs0))] (.seq (.reg (some [[],[],[],[1,2],[],[0,4,3,1,2],[5,0,4,3,1,2],[6,5,0,4,3,1,2],[6,5,0,4,3,1,2],[7,6,5,0,4,3,1,2],[8,9,7,6,5,0,4,3,1,2]]) [mv 10 0,op 11 (l1' 5),op 12 (.load false z (.t 4)),op 13 (kt' 11 [.t 12]),op 14 (l1' 5),op 15 (.call (.c (.fn wo [])) [.t 10,.t 13,.t 14]),mv 9 15,op 16 (.ext (.t 9) 0),op 17 (.ext (.t 9) 1),mv 7 16,mv 8 17]) (sr [mv 18 7,op 19 (.load false z (.t 4)),op 20 (.buildS z 1 zero [(0,z,(.t 19))]),op 21 (.app z b (.t 18) (.t 20)),mv 7 21] (sr [mv 22 7,op 23 (.mkfn clos [.t 5]),op 24 (.call (.c (.fn srt [])) [.t 22,.t 23])] (sr [mv 25 7,mv 6 25] (.ret [6]))))))⟩
def woCQ (z:Nat):QF:=⟨10,[.tmp 4],(sr [op 3 (.box (.t 0)),op 4 (.mov (.c zb))] (.seq (.reg (some [[],[],[0,1],[],[2,0,1,3],[4,2,0,1,3]]) [op 5 (l1' 1),op 6 (.load false z (.t 3)),op 7 (kt' 5 [.t 6]),op 8 (l1' 2),op 9 (.eq (.sc (.i .u64)) false (.t 7) (.t 8)),mv 4 9]) (.ret [4])))⟩
def woQ (cl clos del:Nat):QF:=⟨19,[.tmp 6,.tmp 7],(sr [op 4 (.box (.t 1)),op 5 (.box (.t 2)),op 6 (.mov (.c zs0)),op 7 (.mov (.c zb))] (sr [mv 9 0,op 10 (.call (.c (.fn cl [])) [.t 9]),op 11 (.mkfn clos [.t 5,.t 4]),op 12 (.call (.c (.fn del [])) [.t 10,.t 11]),mv 8 12] (sr [mv 13 8,mv 14 8,op 15 (ln' 14),mv 16 0,op 17 (ln' 16),op 18 (bt .lss 15 17),mv 6 13,mv 7 18] (.ret [6,7]))))⟩
def ui:QC:=(sr [op 16 (bt .lss 15 14)] (.seq (.cond (.t 16) .skip (.exit 0 [])) (.seq (.block 1 (sr [op 17 (ia 1 13 15),op 18 (l1' 17),mv 7 18] (.reg none [mv 19 2,mv 20 0,mv 21 7,op 22 (kt' 19 [.t 20,.t 21])]))) (.reg none [op 23 (bc .add 15 1),mv 15 23]))))
def wput1Q:QF:=⟨24,[],(sr [mv 8 0,mv 9 1,op 10 (ln' 9),op 11 (.convI .u64 (.t 10)),op 12 (kc' 130 [.t 8,.t 11])] (sr [mv 13 1,op 14 (ln' 13),oc' 15 0] (.block 0 (.loop [0,2,13,14,15] ui))))⟩
def yH (z:Nat)(zero:List V):QC:=(sr [op 16 (bt .lss 15 14)] (.seq (.cond (.t 16) .skip (.exit 0 [])) (.seq (.block 1 (sr [op 17 (.idxA none z (.t 13) (.t 15)),op 18 (.load false z (.t 17)),op 7 (.new zero),⟨none,none,.store z (.t 7) (.t 18)⟩] (.reg none [mv 19 2,mv 20 0,op 21 (.load false z (.t 7)),op 22 (kt' 19 [.t 20,.t 21])]))) (.reg none [op 23 (bc .add 15 1),mv 15 23]))))
def wputQ (z:Nat)(zero:List V):QF:=⟨24,[],(sr [mv 8 0,mv 9 1,op 10 (ln' 9),op 11 (.convI .u64 (.t 10)),op 12 (kc' 130 [.t 8,.t 11])] (sr [mv 13 1,op 14 (ln' 13),oc' 15 0] (.block 0 (.loop [0,2,13,14,15] (yH z zero)))))⟩
end
section
section
variable (E:Calls')(T:FuncId->Option QF)(val:FuncId->Bool)
noncomputable def EU (b:QC) (o:fZ):fZ:=dM o fun e h=>Cd E T val b e h
noncomputable def Ii (v:V) (a b:QC) (e:EA) (h:Hp):fZ:=fork v (Cd E T val a e h) (Cd E T val b e h)
def eD (l:List Nat)(W:EA->Hp->fZ)(o:fZ):fZ:=dM o fun e h=>W (bU l e) h
def Cg (C:Calls')(os:List RO)(e:EA)(d:Option Nat)(o:Option (V×Hp)):Option (EA×Hp):=match o with
 | some (v,h')=>gY C os (cz e d v) h'
 | none=>none
def xY (C:Calls')(v:V)(w:Bool)(d:Option Nat)(r:R)(os:List RO)(e:EA)(h:Hp):Option (EA×Hp):=match v with
 | .d (.bool t)=>if t=w then Cg C os e d (opE C r (X.ea e) h) else gY C os (cz e d (.tup [])) h
 | .tup []=>gY C os (cz e d (.tup [])) h
 | _=>none
variable {E T val}
theorem aC (l:List Nat)(b:QC)(e:EA)(h:Hp):Cd E T val (.loop l b) e h=eD l (Cd E T val (.loop l b)) (Cd E T val b (bU l e) h):=by
 rw [yJ,eD]
 congr 1
 funext e h;exact au
@[simp] theorem VL {a b:QC}{e:EA}{h:Hp}:Cd E T val (.seq a b) e h=EU E T val b (Cd E T val a e h):=Ny
@[simp] theorem Q0 {c:X}{a b:QC}{e:EA}{h:Hp}:Cd E T val (.cond c a b) e h=Ii E T val (c.ea e) a b e h:=J5
attribute [simp] J8 Nw J6 Nv J7 GV
section
variable {e:EA}{h:Hp}{i j:Nat}{a b:QC}{l:List Nat}{W:EA->Hp->fZ}
@[simp] theorem WR:EU E T val b (some (.normal,e,h))=Cd E T val b e h:=(rfl)
@[simp] theorem WS:EU E T val b (some (.ret,e,h))=some (.ret,e,h):=(rfl)
@[simp] theorem WT:EU E T val b (some (.exit i,e,h))=some (.exit i,e,h):=(rfl)
@[simp] theorem SV:eD l W (some (.normal,e,h))=W (bU l e) h:=(rfl)
@[simp] theorem SX:eD l W (some (.ret,e,h))=some (.ret,e,h):=(rfl)
@[simp] theorem SY:eD l W (some (.exit i,e,h))=some (.exit i,e,h):=(rfl)
@[simp] theorem V8:Ii E T val (.d (.bool true)) a b e h=Cd E T val a e h:=(rfl)
@[simp] theorem V7:Ii E T val (.d (.bool false)) a b e h=Cd E T val b e h:=(rfl)
@[simp] theorem Wn:leave i (some (.normal,e,h))=some (.normal,e,h):=(rfl)
@[simp] theorem Wo:leave i (some (.ret,e,h))=some (.ret,e,h):=(rfl)
@[simp] theorem Wp:leave i (some (.exit j,e,h))=if j=i then some (.normal,e,h) else some (.exit j,e,h):=(rfl)
@[simp] theorem Iy:lead (some (e,h))=some (.normal,e,h):=(rfl)
end
section
variable {C:Calls'}{os:List RO}{e:EA}{d:Option Nat}{r:R}{v:V}{h h':Hp}
@[simp] theorem WQ:Cg C os e d (some (v,h'))=gY C os (cz e d v) h':=(rfl)
@[simp] theorem Wl:xY C (.d (.bool true)) true d r os e h=Cg C os e d (opE C r (X.ea e) h):=(rfl)
@[simp] theorem Wj:xY C (.d (.bool true)) false d r os e h=gY C os (cz e d (.tup [])) h:=(rfl)
@[simp] theorem Wi:xY C (.d (.bool false)) true d r os e h=gY C os (cz e d (.tup [])) h:=(rfl)
@[simp] theorem Wh:xY C (.d (.bool false)) false d r os e h=Cg C os e d (opE C r (X.ea e) h):=(rfl)
@[simp] theorem Zx {w:Bool}:xY C (.tup []) w d r os e h=gY C os (cz e d (.tup [])) h:=(rfl)
end
end
def fin (res:List RV)(o:fZ):Option (V×Hp) :=
 match o with
 | some (.normal,e,h) | some (.ret,e,h)=>match mP h e res with
  | some vs=>some (bG vs,h)
  | none=>none
 | _=>none
theorem ae {E:Calls'}{T:FuncId->Option QF}{val:FuncId->Bool}{n:Nat}{res:List RV}{c:QC}{args:List V}{h:Hp}:Bd E T val ⟨n,res,c⟩ args h=fin res (Cd E T val c (jP 0 args) h):=(rfl)
section
variable {res:List RV}{e:EA}{h:Hp}{i:Nat}
@[simp] theorem bj6:fin res (some (.normal,e,h))=match mP h e res with | some vs=>some (bG vs,h) | none=>none:=(rfl)
@[simp] theorem bj7:fin res (some (.ret,e,h))=match mP h e res with | some vs=>some (bG vs,h) | none=>none:=(rfl)
end
@[simp] theorem Zu {a:EA}{i:Nat}:X.ea a (.t i)=a.get i:=(rfl)
@[simp] theorem bk5 {a:EA}{v:V}:X.ea a (.c v)=v:=(rfl)
@[simp] theorem Wm {i:Nat}:EA.get [] i=.undef:=(rfl)
@[simp] theorem Io {j:Nat}{v:V}{l:EA}{i:Nat}:EA.get ((j,v)::l) i=if j=i then v else EA.get l i:=(rfl)
@[simp] theorem ab5 {e:EA}{i:Nat}{v:V}:cz e (some i) v=(i,v)::e:=(rfl)
@[simp] theorem ab4 {e:EA}{v:V}:cz e none v=e:=(rfl)
@[simp] theorem FJ {e:EA}:bU [] e=[]:=(rfl)
@[simp] theorem Dc {i:Nat}{l:List Nat}{e:EA}:bU (i::l) e=(i,e.get i)::bU l e:=(rfl)
@[simp] theorem QD {i:Nat}:jP i []=[]:=(rfl)
@[simp] theorem NV {i:Nat}{v:V}{l:List V}:jP i (v::l)=(i,v)::jP (i+1) l:=(rfl)
section
variable {b o l z:Nat}{c:Option Nat}{x:D}{cs:List D}{vs:List V}{f:FuncId}
@[simp] theorem bk6:nu (.d x)=some (.d x):=(rfl)
@[simp] theorem ZN:nu (.ptr b o)=some (.ptr b o):=(rfl)
@[simp] theorem Wt:nu (.eptr cs o)=some (.eptr cs o):=(rfl)
@[simp] theorem ZO:nu (.row b o l c z)=some (.row b o l c z):=(rfl)
@[simp] theorem ZM:nu (.mfn f vs)=some (.mfn f vs):=(rfl)
@[simp] theorem bj9:nu (.fn f vs)=some (.fn f vs):=(rfl)
@[simp] theorem ZL:nu (.agg vs)=some (.agg vs):=(rfl)
@[simp] theorem ZP:nu (.tup vs)=some (.tup vs):=(rfl)
@[simp] theorem bk0:okV (.d x)=true:=(rfl)
@[simp] theorem Ww:okV (.ptr b o)=true:=(rfl)
@[simp] theorem Ub:okV (.eptr cs o)=true:=(rfl)
@[simp] theorem Wx:okV (.row b o l c z)=true:=(rfl)
@[simp] theorem Wv:okV (.mfn f vs)=true:=(rfl)
@[simp] theorem ZR:okV (.fn f vs)=true:=(rfl)
@[simp] theorem Wu:okV (.agg vs)=true:=(rfl)
@[simp] theorem Wy:okV (.tup vs)=true:=(rfl)
end
def eqS (a b:ByteArray):Bool:=a.toList==b.toList
def ldv (h:Hp)(v:V)(n:Nat)(sc:Bool):Option (V×Hp):=match loadAt h v n with
 | some cs=>(mk sc cs).map (·,h)
 | none=>none
def stv (h:Hp)(a x:V)(n:Nat):Option (V×Hp):=match x.cells with
 | some xs=>if xs.length=n/\0<n then (storeAt h a xs).map (.undef,·) else none
 | none=>none
def eP (arr:Option Nat)(z:Nat)(x i:V)(h:Hp):Option (V×Hp):=match i,arr,x with
 | .d (.int _ i),none,.d (.slice _ es)=>if 0<=i then (match es[i.toNat]? with | some c=>if c.length=z then some (.eptr c 0,h) else none | none=>none) else none
 | .d (.int _ i),none,.row b o len _ z'=>if 0<=i/\i<len/\z'=z then some (.ptr b (o+i.toNat * z),h) else none
 | .d (.int _ i),some n,.ptr b o=>if 0<=i/\i<n then some (.ptr b (o+i.toNat * z),h) else none
 | .d (.int _ i),some n,.eptr cs o=>if 0<=i/\i<n then some (.eptr cs (o+i.toNat * z),h) else none
 | _,_,_=>none
def yR (h:Hp)(v:V):Option (V×Hp):=match v.cells with
 | some cs=>some (.ptr h.size 0,h.alloc cs)
 | none=>none
def dZ (h:Hp)(z b:Nat)(s x:V):Option (V×Hp):=match aD h x z with
 | some (m,xs)=>aF h z b s m xs
 | none=>none
def nG (st:Bool)(v:V)(h:Hp):Option (V×Hp):=match v.len st with
 | some n=>some (.d (.int .i64 n),h)
 | none=>none
def eqv (k:EQ)(neg:Bool)(x y:V)(h:Hp):Option (V×Hp):=match iH k x y with
 | some b=>some (.d (.bool (b != neg)),h)
 | none=>none
def Tv (sc:Bool)(v:V)(off n:Nat)(h:Hp):Option (V×Hp):=match v with
 | .agg cs=>match sub cs off n with
  | some l=>(mk sc l).map (·,h)
  | none=>none
 | _=>none
def Ih (v:V)(off:Nat)(h:Hp):Option (V×Hp):=match v with
 | .ptr b o=>some (.ptr b (o+off),h)
 | .eptr cs o=>some (.eptr cs (o+off),h)
 | _=>none
def Nq (c a b:V)(h:Hp):Option (V×Hp):=match c with
 | .d (.bool t)=>(nu (if t then a else b)).map (·,h)
 | _=>none
def Tn (v:V)(i:Nat)(h:Hp):Option (V×Hp):=match v with
 | .tup vs=>vs[i]?.map (·,h)
 | _=>none
section
variable {C:Calls'}{ev:X->V}{h:Hp}
@[simp] theorem WI {x:X}:opE C (.mov x) ev h=(nu (ev x)).map (·,h):=(rfl)
@[simp] theorem Ur {c a b:X}:opE C (.pick c a b) ev h=Nq (ev c) (ev a) (ev b) h:=(rfl)
@[simp] theorem WJ {z:List V}:opE C (.new z) ev h=some (.ptr h.size 0,h.alloc z):=(rfl)
@[simp] theorem WE {x:X}:opE C (.box x) ev h=yR h (ev x):=(rfl)
@[simp] theorem QT {z:List V}{ps:List (Nat×Nat×X)}:opE C (.build z ps) ev h=match aH ev z ps with
 | some cs=>some (.agg cs,h)
 | none=>none:=(rfl)
@[simp] theorem Di {z n:Nat}{ze:List V}{ps:List (Nat×Nat×X)}:opE C (.buildS z n ze ps) ev h=match aH ev (List.replicate n ze).flatten ps with
 | some cs=>some (.row h.size 0 n (some n) z,h.alloc cs)
 | none=>none:=(rfl)
@[simp] theorem Uo {sc:Bool}{n:Nat}{a:X}:opE C (.load sc n a) ev h=ldv h (ev a) n sc:=(rfl)
@[simp] theorem F6 {n:Nat}{a x:X}:opE C (.store n a x) ev h=stv h (ev a) (ev x) n:=(rfl)
@[simp] theorem WC {op:BinOp}{x y:X}:opE C (.bin op x y) ev h=one (bV op (ev x) (ev y)) h:=(rfl)
@[simp] theorem ZT {k:EQ}{neg:Bool}{x y:X}:opE C (.eq k neg x y) ev h=eqv k neg (ev x) (ev y) h:=(rfl)
@[simp] theorem ZU {op:UnOp}{x:X}:opE C (.un op x) ev h=one (unD op (ev x)) h:=(rfl)
@[simp] theorem Um {x:X}{o:Nat}:opE C (.fldA x o) ev h=Ih (ev x) o h:=(rfl)
@[simp] theorem WG {sc:Bool}{x:X}{o n:Nat}:opE C (.fld sc x o n) ev h=Tv sc (ev x) o n h:=(rfl)
@[simp] theorem Bt {a:Option Nat}{z:Nat}{x i:X}:opE C (.idxA a z x i) ev h=eP a z (ev x) (ev i) h:=(rfl)
@[simp] theorem WK {k:SK}{z:Nat}{x:X}{lo hi mx:Option X}:opE C (.slc k z x lo hi mx) ev h=(bP h ev k z (ev x) lo hi mx).map (·,h):=(rfl)
@[simp] theorem IR {f:FuncId}{caps:List X}:opE C (.mkmv f caps) ev h=if caps.all (fun x=>okV (ev x))=true then some (.mfn f (caps.map ev),h) else none:=(rfl)
@[simp] theorem IQ {f:FuncId}{caps:List X}:opE C (.mkfn f caps) ev h=if caps.all (fun x=>okV (ev x))=true then some (.fn f (caps.map ev),h) else none:=(rfl)
@[simp] theorem WF {x:X}{i:Nat}:opE C (.ext x i) ev h=Tn (ev x) i h:=(rfl)
@[simp] theorem Br {f:X}{args:List X}:opE C (.call f args) ev h=if args.all (fun x=>okV (ev x))=true then iJ C (ev f) (args.map ev) h else none:=(rfl)
@[simp] theorem WB {z b:Nat}{s x:X}:opE C (.app z b s x) ev h=dZ h z b (ev s) (ev x):=(rfl)
@[simp] theorem WH {st:Bool}{x:X}:opE C (.len st x) ev h=nG st (ev x) h:=(rfl)
@[simp] theorem Us {e:EA}:gY C [] e h=some (e,h):=(rfl)
@[simp] theorem QW {d:Option Nat}{r:R}{os:List RO}{e:EA}:gY C (⟨none,d,r⟩::os) e h=Cg C os e d (opE C r (X.ea e) h):=(rfl)
@[simp] theorem az {j:Nat}{w:Bool}{d:Option Nat}{r:R}{os:List RO}{e:EA}:gY C (⟨some (j,w),d,r⟩::os) e h=xY C (e.get j) w d r os e h:=(rfl)
@[simp] theorem Fp {f:FuncId}{first args:List V}:iJ C (.mfn f first) args h=C f (first++args) h:=(rfl)
@[simp] theorem lD {f:FuncId}{caps args:List V}:iJ C (.fn f caps) args h=C f (args++caps) h:=(rfl)
@[simp] theorem Zt {x:D}:yR h (.d x)=some (.ptr h.bs.length 0,h.alloc [.d x]):=(rfl)
@[simp] theorem Te {b o:Nat}:yR h (.ptr b o)=some (.ptr h.bs.length 0,h.alloc [.ptr b o]):=(rfl)
@[simp] theorem Tf {b o l z:Nat}{c:Option Nat}:yR h (.row b o l c z)=some (.ptr h.bs.length 0,h.alloc [.row b o l c z]):=(rfl)
@[simp] theorem Td {f:FuncId}{c:List V}:yR h (.mfn f c)=some (.ptr h.bs.length 0,h.alloc [.mfn f c]):=(rfl)
@[simp] theorem VX {f:FuncId}{c:List V}:yR h (.fn f c)=some (.ptr h.bs.length 0,h.alloc [.fn f c]):=(rfl)
@[simp] theorem Tc {cs:List V}:yR h (.agg cs)=some (.ptr h.bs.length 0,h.alloc cs):=(rfl)
@[simp] theorem QI {b o n:Nat}:Ih (.ptr b o) n h=some (.ptr b (o+n),h):=(rfl)
@[simp] theorem Oq {cs:List D}{o n:Nat}:Ih (.eptr cs o) n h=some (.eptr cs (o+n),h):=(rfl)
@[simp] theorem dD {b o n:Nat}{sc:Bool}:ldv h (.ptr b o) n sc=match (match h.get b with | some cs=>sub cs o n | none=>none) with
 | some cs=>(mk sc cs).map (·,h)
 | none=>none:=(rfl)
@[simp] theorem TK {cs:List D}{o n:Nat}{sc:Bool}:ldv h (.eptr cs o) n sc=match (sub cs o n).map (·.map .d) with
 | some cs=>(mk sc cs).map (·,h)
 | none=>none:=(rfl)
@[simp] theorem ZH {v:V}:mk true [v]=some v:=(rfl)
@[simp] theorem ZG {cs:List V}:mk false cs=some (.agg cs):=(rfl)
@[simp] theorem WL {t:Bool}{a b:V}:Nq (.d (.bool t)) a b h=(nu (if t then a else b)).map (·,h):=(rfl)
@[simp] theorem ZE {nl:Bool}{es:List (List D)}:nG false (.d (.slice nl es)) h=some (.d (.int .i64 es.length),h):=(rfl)
@[simp] theorem TM {b o l z:Nat}{c:Option Nat}:nG false (.row b o l c z) h=some (.d (.int .i64 l),h):=(rfl)
@[simp] theorem ZF {s:ByteArray}:nG true (.d (.str s)) h=some (.d (.int .i64 s.size),h):=(rfl)
@[simp] theorem Zv {vs:List V}{i:Nat}:Tn (.tup vs) i h=vs[i]?.map (·,h):=(rfl)
@[simp] theorem Zw {cs:List V}{sc:Bool}{o n:Nat}:Tv sc (.agg cs) o n h=match sub cs o n with
 | some l=>(mk sc l).map (·,h)
 | none=>none:=(rfl)
@[simp] theorem bk3 {d:D}:one (some d) h=some (.d d,h):=(rfl)
@[simp] theorem bj3 {a b neg:Bool}:eqv (.sc .b) neg (.d (.bool a)) (.d (.bool b)) h=some (.d (.bool ((a==b) != neg)),h):=(rfl)
@[simp] theorem bj4 {k:IntKind}{a b:Int}{neg:Bool}:eqv (.sc (.i k)) neg (.d (.int k a)) (.d (.int k b)) h=some (.d (.bool ((a==b) != neg)),h):=by simp [eqv,iH,nQ]
@[simp] theorem bj5 {a b:ByteArray}{neg:Bool}:eqv (.sc .s) neg (.d (.str a)) (.d (.str b)) h=some (.d (.bool (eqS a b != neg)),h):=(rfl)
@[simp] theorem Ol {b o l z:Nat}{c:Option Nat}{neg:Bool}:eqv .sl neg (.row b o l c z) (.d (.slice true [])) h=some (.d (.bool (false != neg)),h):=(rfl)
@[simp] theorem VZ {nl:Bool}{es:List (List D)}{neg:Bool}:eqv .sl neg (.d (.slice nl es)) (.d (.slice true [])) h=some (.d (.bool (nl != neg)),h):=(rfl)
end
section
variable {k:IntKind}{a b:Int}
@[simp] theorem VM:bV .add (.d (.int k a)) (.d (.int k b))=some (.int k (k.wrap (a+b))):=by simp [bV,fP]
@[simp] theorem VS:bV .sub (.d (.int k a)) (.d (.int k b))=some (.int k (k.wrap (a-b))):=by simp [bV,fP]
@[simp] theorem VQ:bV .lss (.d (.int k a)) (.d (.int k b))=some (.bool (decide (a<b))):=by simp [bV,fP]
@[simp] theorem VP:bV .leq (.d (.int k a)) (.d (.int k b))=some (.bool (decide (a<=b))):=by simp [bV,fP]
@[simp] theorem VO:bV .gtr (.d (.int k a)) (.d (.int k b))=some (.bool (decide (a>b))):=by simp [bV,fP]
@[simp] theorem VN:bV .geq (.d (.int k a)) (.d (.int k b))=some (.bool (decide (a>=b))):=by simp [bV,fP]
@[simp] theorem aq7 {t:Bool}:unD .not (.d (.bool t))=some (.bool !t):=(rfl)
end
theorem eY {α:Type}{cs:List α}{o n:Nat}:sub cs o n=if o+n<=cs.length then some ((cs.drop o).take n) else none:=(rfl)
@[simp] theorem Vg {h:Hp}{e:EA}:mP h e []=some []:=(rfl)
@[simp] theorem Vh {h:Hp}{e:EA}{t:Nat}{l:List RV}:mP h e (.tmp t::l)=match nu (e.get t),mP h e l with
 | some v,some vs=>some (v::vs)
 | _,_=>none:=(rfl)
@[simp] theorem QX {h:Hp}{e:EA}{t n:Nat}{sc:Bool}{l:List RV}:mP h e (.cell t sc n::l)=match loadAt h (e.get t) n with
 | some cs=>match mk sc cs,mP h e l with
  | some v,some vs=>some (v::vs)
  | _,_=>none
 | none=>none:=(rfl)
@[simp] theorem lZ {h:Hp}{b o n:Nat}:loadAt h (.ptr b o) n=match h.get b with | some cs=>sub cs o n | none=>none:=(rfl)
@[simp] theorem QY {v:V}:bG [v]=v:=(rfl)
@[simp] theorem QZ {v w:V}{l:List V}:bG (v::w::l)=.tup (v::w::l):=(rfl)
theorem wrap64 {n:Int}(h1:-(2 ^ 63)<=n)(h2:n<2 ^ 63):IntKind.wrap .i64 n=n:=by
 simp [IntKind.wrap,IntKind.bits,IntKind.signed];omega
theorem bH {α:Type}{l:List α}{n:Nat}(h:l.length=n):sub l 0 n=some l:=by subst h; simp [sub]
theorem pX (h:Hp)(k:Nat):∀ (l:List D),(l.map V.d).mapM (dataV h k)=some l
 | []=>rfl
 | x::l=>by
  have:=pX h k l;cases k<;>simp [List.mapM_cons,dataV,this]
theorem Es (h:Hp)(l:List D):frz h (.agg (l.map .d))=some (.agg (l.map .d)):=by
 simp only [frz,bQ,bW,pX]
theorem Nf (h:Hp)(d:D):frz h (.d d)=some (.d d):=by simp [frz,bQ,dataV]
theorem I5 (l:List D):iE (.agg (l.map .d))=true:=by
 simp only [iE,ch];intro x hx;obtain ⟨y,_,rfl⟩:=b9.1 hx;rfl
@[simp] theorem uM {h:Hp}{k:Nat}{d:D}:dataV h k (.d d)=some d:=by cases k<;>rfl
def af (bs:List Blk)(b:Nat):Option (List V):=match bs[b]? with
 | some (.cells cs)=>some cs
 | _=>none
@[simp] theorem get_eq {h:Hp}{b:Nat}:h.get b=af h.bs b:=(rfl)
@[simp] theorem sS {cs:List V}{bs:List Blk}:af (.cells cs::bs) 0=some cs:=(rfl)
@[simp] theorem FD {x:Blk}{bs:List Blk}{i:Nat}:af (x::bs) (i+1)=af bs i:=by simp [af]
@[simp] theorem di {bs ys:List Blk}:af (bs++ys) bs.length=af ys 0:=by unfold af; rw [bk (bp _),Nat.sub_self]
@[simp] theorem gD {bs ys:List Blk}{i:Nat}:af (bs++ys) (bs.length+i)=af ys i:=by unfold af; rw [bk (Nat.le_add_right _ _),Nat.add_sub_cancel_left]
theorem Eu {bs ys:List Blk}{i:Nat}(h:i<bs.length):af (bs++ys) i=af bs i:=by simp [af,ao h]
theorem ax {bs ys:List Blk}{i:Nat}{cs:List V}(h:af bs i=some cs):af (bs++ys) i=some cs:=by
 rw [Eu,h];unfold af at h;split at h
 · rename_i h1;exact (bw.1 h1).1
 · cases h
theorem aI {bs:List Blk}{i:Nat}{cs:List V}(h:af bs i=some cs):i<bs.length:=by
 unfold af at h;split at h
 · rename_i h1;exact (bw.1 h1).1
 · cases h
@[simp] theorem alloc_eq {bs:List Blk}{l:Nat}{cs:List V}:Hp.alloc ⟨bs,l⟩ cs=⟨bs++[.cells cs],l⟩:=(rfl)
@[simp] theorem size_eq {h:Hp}:h.size=h.bs.length:=(rfl)
@[simp] theorem ab6 {bs ys:List Blk}{l:Nat}{cs:List V}:Hp.set ⟨bs++ys,l⟩ bs.length cs=⟨bs++ys.set 0 (.cells cs),min l bs.length⟩:=by simp [Hp.set,List.set_append]
@[simp] theorem WO {bs ys:List Blk}{l i:Nat}{cs:List V}:Hp.set ⟨bs++ys,l⟩ (bs.length+i) cs=⟨bs++ys.set i (.cells cs),min l (bs.length+i)⟩:=by simp [Hp.set,List.set_append]
theorem WP {ys:List Blk}{l i:Nat}{cs:List V}:Hp.set ⟨ys,l⟩ i cs=⟨ys.set i (.cells cs),min l i⟩:=(rfl)
@[simp] theorem bY {h h':Hp}{r:V}:dU h (some (r,h'))=if h.bs.length<=h'.low/\r.under h.bs.length=true then some (r,h) else some (r,⟨h'.bs,min h.low h'.low⟩):=(rfl)
def Co (args:List V)(h h':Hp)(r:V)(o:Option V):Option (V×Hp):=match o with
 | some r'=>if args.all iE=true\/ownR h' r=true then some (r',h) else none
 | none=>none
def zX (args:List V)(h:Hp)(o:Option (V×Hp)):Option (V×Hp):=match o with
 | some (r,h')=>Co args h h' r (frz h' r)
 | none=>none
noncomputable def Qz (E:Calls') (T:FuncId->Option QF) (val:FuncId->Bool) (q:QF) (args:List V) (h:Hp) (o:Option (List V)):Option (V×Hp):=match o with
 | some as=>zX args h (Bd E T val q as ⟨[],0⟩)
 | none=>none
@[simp] theorem QA {args:List V}{h h':Hp}{r r':V}:Co args h h' r (some r')=if args.all iE=true\/ownR h' r=true then some (r',h) else none:=(rfl)
@[simp] theorem JQ {args:List V}{h h':Hp}{r:V}:zX args h (some (r,h'))=Co args h h' r (frz h' r):=(rfl)
section
variable {E:Calls'}{T:FuncId->Option QF}{val:FuncId->Bool}
@[simp] theorem lq {q:QF}{args as:List V}{h:Hp}:Qz E T val q args h (some as)=zX args h (Bd E T val q as ⟨[],0⟩):=(rfl)
theorem aV {f:FuncId}{q:QF}(hf:T f=some q)(hv:val f=true){args:List V}{h:Hp}:Sm E T val f args h=Qz E T val q args h (args.mapM (frz h)):=by
 rw [NQ hf hv];unfold pu Qz zX Co;cases args.mapM (frz h) with
 | none=>rfl
 | some as =>
  dsimp only;cases Bd E T val q as ⟨[],0⟩ with
  | none=>rfl
  | some x =>
   obtain ⟨r,h'⟩:=x;dsimp only;cases frz h' r<;>rfl
end
end
section
def RowIs (bs:List Blk)(v:V)(z:Nat)(es:List (List D)):Prop :=
 (∀ e∈es,e.length=z)/\((∃ nl,v=.d (.slice nl es))\/∃ b o cap cs,v=.row b o es.length cap z/\af bs b=some cs/\sub cs o (es.length * z)=some (es.flatten.map .d))
theorem kQ {α:Type}{z:Nat}:∀ {es:List (List α)} {i:Nat},(∀ e∈es,e.length=z)->(hi:i<es.length)->(es.flatten.drop (i * z)).take z=es[i]
 | e::es,0,h,_=>by
  have:=h e (by simp);simp [List.take_append_of_le_length,this]
 | e::es,i+1,h,hi=>by
  have he:=h e (by simp);have ih:=kQ (i:=i) (fun e he=>h e (List.mem_cons_of_mem _ he)) (by simpa using hi);simp only [List.flatten_cons,List.getElem_cons_succ];rw [show (i+1) * z=e.length+i * z by rw [he,Nat.add_mul]; omega,← be,List.drop_left,ih]
theorem nz {α:Type}{z:Nat}:∀ {es:List (List α)},(∀ e∈es,e.length=z)->es.flatten.length=es.length * z
 | [],_=>by simp
 | e::es,h=>by
  have he:=h e (by simp);have ih:=nz (es:=es) (fun e he=>h e (List.mem_cons_of_mem _ he));simp only [List.flatten_cons,ap,he,ih,cf,Nat.add_mul]; omega
theorem RowIs.len {bs:List Blk}{v:V}{z:Nat}{es:List (List D)}(h:RowIs bs v z es)(hp:Hp):nG false v hp=some (.d (.int .i64 es.length),hp):=by
 rcases h.2 with ⟨nl,rfl⟩ | ⟨b,o,cap,cs,rfl,_⟩<;>simp
theorem RowIs.ok {bs:List Blk}{v:V}{z:Nat}{es:List (List D)}(h:RowIs bs v z es):nu v=some v:=by
 rcases h.2 with ⟨nl,rfl⟩ | ⟨b,o,cap,cs,rfl,_⟩<;>simp
theorem RowIs.elem {bs:List Blk}{v:V}{z:Nat}{es:List (List D)}(h:RowIs bs v z es){i:Nat}(hi:i<es.length){l:Nat} :
 ∃ p,eP none z v (.d (.int .i64 i)) ⟨bs,l⟩=some (p,⟨bs,l⟩)/\loadAt ⟨bs,l⟩ p z=some (es[i].map .d):=by
 have hzi:=h.1 _ (bh hi);rcases h.2 with ⟨nl,rfl⟩ | ⟨b,o,cap,cs,rfl,h1,h2⟩
 · refine ⟨.eptr es[i] 0,?_,?_⟩
   · simp only [eP];rw [if_pos (by omega)];simp only [Int.toNat_natCast,ac hi,hzi,if_true]
   · simp only [loadAt,bH hzi,Option.map_some]
 · refine ⟨.ptr b (o+i * z),?_,?_⟩
   · simp only [eP];rw [if_pos ⟨by omega,by omega,trivial⟩];simp
   · simp only [lZ,get_eq,h1];rw [eY] at h2 ⊢;split at h2
     · rename_i hle;simp only [bd] at h2;have hiz:(i+1) * z<=es.length * z:=Nat.mul_le_mul_right z hi;rw [Nat.add_mul,Nat.one_mul] at hiz;rw [if_pos (by omega)]
       congr 1
       have hf:=kQ (α:=V) (es:=es.map (·.map .d)) (i:=i) (z:=z) (by simpa using h.1) (by simpa using hi);rw [show (es.map (·.map V.d)).flatten=es.flatten.map .d by rw [List.map_flatten],← h2] at hf;simp only [List.getElem_map] at hf;rw [← hf,List.drop_take,be,List.take_take,Nat.min_eq_left (by omega)]
     · cases h2
def cu {α:Type}(l:List α)(q:α->Bool):Int:=match l.findIdx? q with
 | some k=>k
 | none=>-1
section
variable {E:Calls'}{T:FuncId->Option QF}{val:FuncId->Bool}
theorem RowIs.at {α:Type}{cells:α->List D}{bs:List Blk}{v:V}{z:Nat}{es:List α}(h:RowIs bs v z (es.map cells)){i:Nat}(hi:i<es.length){l:Nat} :
 ∃ p,eP none z v (.d (.int .i64 i)) ⟨bs,l⟩=some (p,⟨bs,l⟩)/\loadAt ⟨bs,l⟩ p z=some ((cells es[i]).map .d):=by
 have:=h.elem (i:=i) (by simpa using hi) (l:=l);simpa using this
theorem RowIs.lenT {α:Type}{cells:α->List D}{bs:List Blk}{v:V}{z:Nat}{es:List α}(h:RowIs bs v z (es.map cells))(hp:Hp):nG false v hp=some (.d (.int .i64 es.length),hp):=by
 simpa using h.len hp
theorem wy {α:Type}{cells:α->List D}{z:Nat}{bs:List Blk}{lo:Nat}{v:V}{es:List α}(hr:RowIs bs v z (es.map cells)){f:FuncId}{caps:List V}{q:α->Bool}(hlen:es.length<2 ^ 62)
 (hf:∀ e∈es,Sm E T val f (.agg ((cells e).map .d)::caps) ⟨bs,lo⟩=some (.d (.bool (q e)),⟨bs,lo⟩)):∀ (m i:Nat),i+m=es.length →
   Cd E T val (.loop [0,1,7,8] (sU z)) [(0,v),(1,.fn f caps),(7,.d (.int .i64 es.length)),(8,.d (.int .i64 i))] ⟨bs,lo⟩ =
    match (es.drop i).findIdx? q with
    | some k=>some (.ret,[(4,.d (.int .i64 (i+k:Nat)))],⟨bs,lo⟩)
    | none=>some (.exit 0,[],⟨bs,lo⟩):=by
 intro m;have key:=aC (E:=E) (T:=T) (val:=val) [0,1,7,8] (sU z);generalize Cd E T val (.loop [0,1,7,8] (sU z))=W at key ⊢
 induction m with
 | zero =>
  intro i hi;have h0:es.drop i=[]:=ba (by omega);rw [key];simp [sU,h0,show ¬ ((i:Int)<es.length) from by omega]
 | succ m ih =>
  intro i hi;have hlt:i<es.length:=by omega
  have hd:es.drop i=es[i]::es.drop (i+1):=aw hlt;obtain ⟨p,hp1,hp2⟩:=hr.at hlt (l:=lo);have hv:=hr.ok;have hcall:=hf _ (bh hlt);generalize es[i]=x at *;rw [key,hd];cases hq:q x with
  | true=>simp [sU,hv,hp1,ldv,hp2,hcall,hq,List.findIdx?_cons,show ((i:Int)<es.length) from by omega,show okV (V.agg ((cells x).map .d))=true from rfl]
  | false =>
   have hw:IntKind.wrap .i64 ((i:Int)+1)=((i+1:Nat):Int):=by rw [wrap64]<;>omega
   have:=ih (i+1) (by omega);simp [sU,hv,hp1,ldv,hp2,hcall,hq,List.findIdx?_cons,hw,show ((i:Int)<es.length) from by omega,show okV (V.agg ((cells x).map .d))=true from rfl];rw [show ((i:Int)+1)=((i+1:Nat):Int) from by omega,this];cases hfi:(es.drop (i+1)).findIdx? q with
   | none=>rfl
   | some k=>simp; omega
theorem S_idx {α:Type}(cells:α->List D){z:Nat}{id:FuncId}(ht:T id=some (idxQ z))(hvl:val id=false){v:V}{es:List α}{f:FuncId}{caps:List V}{q:α->Bool}{h:Hp}(hr:RowIs h.bs v z (es.map cells))(hlen:es.length<2 ^ 62)
 (hf:∀ e∈es,∀ lo,Sm E T val f (.agg ((cells e).map .d)::caps) ⟨h.bs,lo⟩=some (.d (.bool (q e)),⟨h.bs,lo⟩)):Sm E T val id [v,.fn f caps] h=some (.d (.int .i64 (cu es q)),h):=by
 rw [aN ht hvl];have hl:=wy hr hlen (fun e he=>hf e he h.bs.length) es.length 0 (by omega);have hv:=hr.ok;have hn:=hr.lenT;simp [idxQ,ae,hv,hn,cu];rw [au];simp at hl;simp [hl];cases es.findIdx? q with
 | none=>simp [V.under]
 | some k=>simp [V.under]
end
end
section
structure Sl (α:Type) where
 nl:Bool
 l:List α
abbrev u64 (n:Int):D:=.int .u64 n
abbrev u32 (n:Int):D:=.int .u32 n
abbrev i64 (n:Int):D:=.int .i64 n
abbrev bl (b:Bool):V:=.d (.bool b)
def Sl.d {α:Type}(f:α->List D)(s:Sl α):D:=.slice s.nl (s.l.map f)
structure Pod where
 uid:Int
 ns:ByteArray
 sa:ByteArray
 host:Int
 addr:Int
 port:Int
 service:Int
def Pod.c (p:Pod):List D:=[u64 p.uid,.str p.ns,.str p.sa,i64 p.host,u32 p.addr,i64 p.port,u64 p.service]
structure Svc where
 id:Int
 ns:ByteArray
 addr:Int
 port:Int
 way:Int
def Svc.c (s:Svc):List D:=[u64 s.id,.str s.ns,u32 s.addr,i64 s.port,u64 s.way]
structure Way where
 id:Int
 node:Int
def Way.c (w:Way):List D:=[u64 w.id,i64 w.node]
structure Term where
 kind:Int
 text:ByteArray
def Term.c (t:Term):List D:=[i64 t.kind,.str t.text]
structure Cidr where
 addr:Int
 bits:Int
def Cidr.c (t:Cidr):List D:=[u32 t.addr,i64 t.bits]
structure Source where
 names:Sl Term
 spaces:Sl Term
 nets:Sl Cidr
def Source.c (s:Source):List D:=[s.names.d Term.c,s.spaces.d Term.c,s.nets.d Cidr.c]
def gV (n:Int):List D:=[i64 n]
structure Target where
 ports:Sl Int
 methods:Sl Term
 paths:Sl Term
 hosts:Sl Term
def Target.c (t:Target):List D:=[t.ports.d gV,t.methods.d Term.c,t.paths.d Term.c,t.hosts.d Term.c]
structure When where
 head:ByteArray
 terms:Sl Term
def When.c (w:When):List D:=[.str w.head,w.terms.d Term.c]
structure Rule where
 frm:Sl Source
 to:Sl Target
 whn:Sl When
def Rule.c (r:Rule):List D:=[r.frm.d Source.c,r.to.d Target.c,r.whn.d When.c]
structure Pol where
 id:Int
 ns:ByteArray
 service:Int
 deny:Int
 rules:Sl Rule
def Pol.c (p:Pol):List D:=[u64 p.id,.str p.ns,u64 p.service,i64 p.deny,p.rules.d Rule.c]
structure Cfg where
 epoch:Int
 next:Int
 hosts:Int
 ways:Int
 pods:Sl Pod
 services:Sl Svc
 bound:Sl Way
 policies:Sl Pol
def Cfg.c (c:Cfg):List D:=[u64 c.epoch,u64 c.next,i64 c.hosts,i64 c.ways,c.pods.d Pod.c,c.services.d Svc.c,c.bound.d Way.c,c.policies.d Pol.c]
def ag (l:List D):V:=.agg (l.map .d)
abbrev Pod.v (p:Pod):V:=ag p.c
abbrev Svc.v (p:Svc):V:=ag p.c
abbrev Way.v (p:Way):V:=ag p.c
abbrev Pol.v (p:Pol):V:=ag p.c
abbrev Rule.v (p:Rule):V:=ag p.c
abbrev Cfg.v (p:Cfg):V:=ag p.c
def pod0:Pod:=⟨0,⟨#[]⟩,⟨#[]⟩,0,0,0,0⟩
def svc0:Svc:=⟨0,⟨#[]⟩,0,0,0⟩
def fit {α:Type}(B:Nat)(s:Sl α):Prop:=s.l.length<=B/\(s.nl=true->s.l=[])
def Source.fits (B:Nat)(s:Source):Prop:=fit B s.names/\fit B s.spaces/\fit B s.nets
def Target.fits (B:Nat)(s:Target):Prop:=fit B s.ports/\fit B s.methods/\fit B s.paths/\fit B s.hosts
def When.fits (B:Nat)(w:When):Prop:=fit B w.terms
def Rule.fits (B:Nat)(r:Rule):Prop:=(fit B r.frm/\∀ s∈r.frm.l,s.fits B)/\(fit B r.to/\∀ s∈r.to.l,s.fits B)/\fit B r.whn/\∀ s∈r.whn.l,s.fits B
def Pol.fits (B:Nat)(p:Pol):Prop:=fit B p.rules/\∀ r∈p.rules.l,r.fits B
def Cfg.fits (B:Nat)(c:Cfg):Prop:=fit B c.pods/\fit B c.services/\fit B c.bound/\fit B c.policies/\∀ p∈c.policies.l,p.fits B
abbrev big:Nat:=2 ^ 30
abbrev short {α:Type} (s:Sl α):Prop:=fit big s
abbrev Cfg.ok (c:Cfg):Prop:=c.fits big
abbrev Pol.ok (c:Pol):Prop:=c.fits big
theorem fit.lt {α:Type}{s:Sl α}(h:short s):s.l.length<2 ^ 62:=cd h.1 (by decide)
theorem RowIs.of {α:Type}{cells:α->List D}{s:Sl α}{z:Nat}(hz:∀ x,(cells x).length=z)(bs:List Blk):RowIs bs (.d (s.d cells)) z (s.l.map cells) :=
 ⟨by simp; intro a _; exact hz a,.inl ⟨s.nl,rfl⟩⟩
@[simp] theorem ZQ {l:List D}:okV (ag l)=true:=(rfl)
@[simp] theorem bj8 {l:List D}:nu (ag l)=some (ag l):=(rfl)
@[simp] theorem Ti {l:List D}:(ag l).cells=some (l.map .d):=(rfl)
@[simp] theorem lg {h:Hp}{l:List D}:frz h (ag l)=some (ag l):=Es h l
@[simp] theorem Da {h:Hp}{d:D}:frz h (.d d)=some (.d d):=Nf h d
@[simp] theorem V9 {h:Hp}{l:List D}:bQ h (ag l)=some (ag l):=Es h l
@[simp] theorem Wd {h:Hp}{d:D}:bQ h (.d d)=some (.d d):=Nf h d
@[simp] theorem WM {l:List D}:iE (ag l)=true:=I5 l
@[simp] theorem WN {d:D}:iE (.d d)=true:=(rfl)
@[simp] theorem VW {h:Hp}{l:List D}:yR h (ag l)=some (.ptr h.bs.length 0,h.alloc (l.map .d)):=(rfl)
theorem gL {α:Type}(l:List α)(q:α->Bool):(l.find? q=none/\cu l q=-1)\/∃ k e,l.find? q=some e/\cu l q=(k:Nat)/\l[k]?=some e:=by
 unfold cu;cases h:l.findIdx? q with
 | none =>
  left;rw [List.findIdx?_eq_none_iff] at h;exact ⟨List.find?_eq_none.2 fun x hx=>by simp [h x hx],rfl⟩
 | some k =>
  right;have h2:=List.findIdx?_eq_some_iff_getElem.1 h;obtain ⟨hk,h3,h4⟩:=h2;refine ⟨k,l[k],?_,rfl,ac hk⟩;rw [List.find?_eq_some_iff_getElem];exact ⟨h3,k,hk,rfl,fun j hj=>by simpa using h4 j hj⟩
theorem ay {α:Type}{s:Sl α}{cells:α->List D}{k z:Nat}{e:α}(h:Hp)(hk:s.l[k]?=some e)(hz:(cells e).length=z):eP none z (.d (s.d cells)) (.d (.int .i64 k)) h=some (.eptr (cells e) 0,h):=by
 simp only [eP,Sl.d];rw [if_pos (by omega)];simp [hk,hz]
@[simp] theorem Wq {α:Type}{s:Sl α}{cells:α->List D}{h:Hp}:nG false (.d (s.d cells)) h=some (.d (i64 s.l.length),h):=by simp [Sl.d]
@[simp] theorem MI {α β:Type}{f:α->β}{l:List α}{o n:Nat}:sub (l.map f) o n=(sub l o n).map (·.map f):=by
 simp only [sub,bx]; split<;>simp [List.map_take,List.map_drop]
@[simp] theorem Ci {α:Type}{x:α}{l:List α}{o n:Nat}:sub (x::l) (o+1) n=sub l o n:=by
 simp only [sub,cf,List.drop_succ_cons];by_cases h:o+n<=l.length
 · rw [if_pos h,if_pos (by omega)]
 · rw [if_neg h,if_neg (by omega)]
@[simp] theorem pF {α:Type}{x:α}{l:List α}{n:Nat}:sub (x::l) 0 (n+1)=(sub l 0 n).map (x::·):=by
 simp only [sub,cf,List.drop_zero,List.take_succ_cons];by_cases h:0+n<=l.length
 · rw [if_pos h,if_pos (by omega)]; rfl
 · rw [if_neg h,if_neg (by omega)]; rfl
@[simp] theorem J4 {α:Type}{l:List α}:sub l 0 0=some []:=by simp [sub]
@[simp] theorem kG {α:Type}{x:α}{l xs:List α}{o:Nat}:put (x::l) (o+1) xs=(put l o xs).map (x::·):=by
 simp only [put,cf];by_cases h:o+xs.length<=l.length
 · rw [if_pos h,if_pos (by omega)];simp only [Option.map_some,List.take_succ_cons,List.cons_append];rw [show o+1+xs.length=(o+xs.length)+1 by omega,List.drop_succ_cons]
 · rw [if_neg h,if_neg (by omega)]; rfl
@[simp] theorem jJ {α:Type}{l xs:List α}:put l 0 xs=if xs.length<=l.length then some (xs++l.drop xs.length) else none:=by
 simp [put]
@[simp] theorem Pod.len {x:Pod}:x.c.length=7:=(rfl)
@[simp] theorem Pod.all {x:Pod}:sub x.c 0 7=some x.c:=(rfl)
@[simp] theorem Pod.s0_1 {x:Pod}:sub x.c 0 1=some [u64 x.uid]:=(rfl)
@[simp] theorem Pod.s1_1 {x:Pod}:sub x.c 1 1=some [.str x.ns]:=(rfl)
@[simp] theorem Pod.s2_1 {x:Pod}:sub x.c 2 1=some [.str x.sa]:=(rfl)
@[simp] theorem Pod.s3_1 {x:Pod}:sub x.c 3 1=some [i64 x.host]:=(rfl)
@[simp] theorem Pod.s4_1 {x:Pod}:sub x.c 4 1=some [u32 x.addr]:=(rfl)
@[simp] theorem Pod.s5_1 {x:Pod}:sub x.c 5 1=some [i64 x.port]:=(rfl)
@[simp] theorem Pod.s6_1 {x:Pod}:sub x.c 6 1=some [u64 x.service]:=(rfl)
@[simp] theorem Pod.s1_2 {x:Pod}:sub x.c 1 2=some [.str x.ns,.str x.sa]:=(rfl)
@[simp] theorem Svc.len {x:Svc}:x.c.length=5:=(rfl)
@[simp] theorem Svc.all {x:Svc}:sub x.c 0 5=some x.c:=(rfl)
@[simp] theorem Svc.s0_1 {x:Svc}:sub x.c 0 1=some [u64 x.id]:=(rfl)
@[simp] theorem Svc.s1_1 {x:Svc}:sub x.c 1 1=some [.str x.ns]:=(rfl)
@[simp] theorem Svc.s2_1 {x:Svc}:sub x.c 2 1=some [u32 x.addr]:=(rfl)
@[simp] theorem Svc.s3_1 {x:Svc}:sub x.c 3 1=some [i64 x.port]:=(rfl)
@[simp] theorem Svc.s4_1 {x:Svc}:sub x.c 4 1=some [u64 x.way]:=(rfl)
@[simp] theorem Way.len {x:Way}:x.c.length=2:=(rfl)
@[simp] theorem Way.all {x:Way}:sub x.c 0 2=some x.c:=(rfl)
@[simp] theorem Way.s0_1 {x:Way}:sub x.c 0 1=some [u64 x.id]:=(rfl)
@[simp] theorem Way.s1_1 {x:Way}:sub x.c 1 1=some [i64 x.node]:=(rfl)
@[simp] theorem Term.len {x:Term}:x.c.length=2:=(rfl)
@[simp] theorem Term.all {x:Term}:sub x.c 0 2=some x.c:=(rfl)
@[simp] theorem Term.s0_1 {x:Term}:sub x.c 0 1=some [i64 x.kind]:=(rfl)
@[simp] theorem Term.s1_1 {x:Term}:sub x.c 1 1=some [.str x.text]:=(rfl)
@[simp] theorem Cidr.len {x:Cidr}:x.c.length=2:=(rfl)
@[simp] theorem Cidr.all {x:Cidr}:sub x.c 0 2=some x.c:=(rfl)
@[simp] theorem Cidr.s0_1 {x:Cidr}:sub x.c 0 1=some [u32 x.addr]:=(rfl)
@[simp] theorem Cidr.s1_1 {x:Cidr}:sub x.c 1 1=some [i64 x.bits]:=(rfl)
@[simp] theorem Source.len {x:Source}:x.c.length=3:=(rfl)
@[simp] theorem Source.all {x:Source}:sub x.c 0 3=some x.c:=(rfl)
@[simp] theorem Source.s0_1 {x:Source}:sub x.c 0 1=some [x.names.d Term.c]:=(rfl)
@[simp] theorem Source.s1_1 {x:Source}:sub x.c 1 1=some [x.spaces.d Term.c]:=(rfl)
@[simp] theorem Source.s2_1 {x:Source}:sub x.c 2 1=some [x.nets.d Cidr.c]:=(rfl)
@[simp] theorem Target.len {x:Target}:x.c.length=4:=(rfl)
@[simp] theorem Target.all {x:Target}:sub x.c 0 4=some x.c:=(rfl)
@[simp] theorem Target.s0_1 {x:Target}:sub x.c 0 1=some [x.ports.d gV]:=(rfl)
@[simp] theorem Target.s1_1 {x:Target}:sub x.c 1 1=some [x.methods.d Term.c]:=(rfl)
@[simp] theorem Target.s2_1 {x:Target}:sub x.c 2 1=some [x.paths.d Term.c]:=(rfl)
@[simp] theorem Target.s3_1 {x:Target}:sub x.c 3 1=some [x.hosts.d Term.c]:=(rfl)
@[simp] theorem When.len {x:When}:x.c.length=2:=(rfl)
@[simp] theorem When.all {x:When}:sub x.c 0 2=some x.c:=(rfl)
@[simp] theorem When.s0_1 {x:When}:sub x.c 0 1=some [.str x.head]:=(rfl)
@[simp] theorem When.s1_1 {x:When}:sub x.c 1 1=some [x.terms.d Term.c]:=(rfl)
@[simp] theorem Rule.len {x:Rule}:x.c.length=3:=(rfl)
@[simp] theorem Rule.all {x:Rule}:sub x.c 0 3=some x.c:=(rfl)
@[simp] theorem Rule.s0_1 {x:Rule}:sub x.c 0 1=some [x.frm.d Source.c]:=(rfl)
@[simp] theorem Rule.s1_1 {x:Rule}:sub x.c 1 1=some [x.to.d Target.c]:=(rfl)
@[simp] theorem Rule.s2_1 {x:Rule}:sub x.c 2 1=some [x.whn.d When.c]:=(rfl)
@[simp] theorem Pol.len {x:Pol}:x.c.length=5:=(rfl)
@[simp] theorem Pol.all {x:Pol}:sub x.c 0 5=some x.c:=(rfl)
@[simp] theorem Pol.s0_1 {x:Pol}:sub x.c 0 1=some [u64 x.id]:=(rfl)
@[simp] theorem Pol.s1_1 {x:Pol}:sub x.c 1 1=some [.str x.ns]:=(rfl)
@[simp] theorem Pol.s2_1 {x:Pol}:sub x.c 2 1=some [u64 x.service]:=(rfl)
@[simp] theorem Pol.s3_1 {x:Pol}:sub x.c 3 1=some [i64 x.deny]:=(rfl)
@[simp] theorem Pol.s4_1 {x:Pol}:sub x.c 4 1=some [x.rules.d Rule.c]:=(rfl)
@[simp] theorem Cfg.len {x:Cfg}:x.c.length=8:=(rfl)
@[simp] theorem Cfg.all {x:Cfg}:sub x.c 0 8=some x.c:=(rfl)
@[simp] theorem Cfg.s0_1 {x:Cfg}:sub x.c 0 1=some [u64 x.epoch]:=(rfl)
@[simp] theorem Cfg.s1_1 {x:Cfg}:sub x.c 1 1=some [u64 x.next]:=(rfl)
@[simp] theorem Cfg.s2_1 {x:Cfg}:sub x.c 2 1=some [i64 x.hosts]:=(rfl)
@[simp] theorem Cfg.s3_1 {x:Cfg}:sub x.c 3 1=some [i64 x.ways]:=(rfl)
@[simp] theorem Cfg.s4_1 {x:Cfg}:sub x.c 4 1=some [x.pods.d Pod.c]:=(rfl)
@[simp] theorem Cfg.s5_1 {x:Cfg}:sub x.c 5 1=some [x.services.d Svc.c]:=(rfl)
@[simp] theorem Cfg.s6_1 {x:Cfg}:sub x.c 6 1=some [x.bound.d Way.c]:=(rfl)
@[simp] theorem Cfg.s7_1 {x:Cfg}:sub x.c 7 1=some [x.policies.d Pol.c]:=(rfl)
@[simp] theorem Zq (l:List D):V.agg (l.map .d)=ag l:=(rfl)
@[simp] theorem Ch {h:Hp}{b o:Nat}{xs:List V}:storeAt h (.ptr b o) xs=match h.get b with
 | some cs=>match put cs o xs with
  | some cs'=>some (h.set b cs')
  | none=>none
 | none=>none:=(rfl)
@[simp] theorem si {h:Hp}{a x:V}{n:Nat}:stv h a x n=match x.cells with
 | some xs=>if xs.length=n/\0<n then (storeAt h a xs).map (.undef,·) else none
 | none=>none:=(rfl)
@[simp] theorem VY {d:D}:(V.d d).cells=some [.d d]:=(rfl)
@[simp] theorem QE {cs:List V}:(V.agg cs).cells=some cs:=(rfl)
@[simp] theorem QG {b o:Nat}:(V.ptr b o).cells=some [.ptr b o]:=(rfl)
@[simp] theorem QH {b o l z:Nat}{c:Option Nat}:(V.row b o l c z).cells=some [.row b o l c z]:=(rfl)
@[simp low] theorem MC {bs:List Blk} {l b:Nat} {cs:List V}:Hp.set ⟨bs,l⟩ b cs=⟨bs.set b (.cells cs),min l b⟩:=(rfl)
@[simp] theorem Zz {a b:Int}(h:¬ a=b):(a==b)=false:=by simpa using h
@[simp] theorem Ws (k:Nat):((k:Int)<0)↔False:=⟨fun h=>by omega,False.elim⟩
@[simp] theorem ZJ (k:Nat):((k:Int)>=0)↔True:=⟨fun _=>trivial,fun _=>Int.natCast_nonneg k⟩
@[simp] theorem ZK (k:Nat):(0<=(k:Int))↔True:=⟨fun _=>trivial,fun _=>Int.natCast_nonneg k⟩
@[simp] theorem Om {ev:X->V}{cs:List V}:aH ev cs []=some cs:=(rfl)
@[simp] theorem Ij {h:Hp}{cs:List V}:bQ h (.agg cs)=match bW h cs with
 | some l=>some (ag l)
 | none=>none:=(rfl)
@[simp] theorem nA {h:Hp}{cs:List V}:frz h (.agg cs)=match bW h cs with
 | some l=>some (ag l)
 | none=>none:=(rfl)
@[simp] theorem NZ {h:Hp}:bW h []=some []:=(rfl)
@[simp] theorem Az {h:Hp}{x:D}{cs:List V}:bW h (.d x::cs)=(bW h cs).map (x::·):=by
 simp only [bW,List.mapM_cons,uM];cases cs.mapM (dataV h 8)<;>rfl
@[simp] theorem yY {h:Hp}{b o n z:Nat}{cap:Option Nat}:frz h (.row b o n cap z)=match dataV h 8 (.row b o n cap z) with
 | some d=>some (.d d)
 | none=>none:=(rfl)
@[simp] theorem Ik {h:Hp}{b o n z:Nat}{cap:Option Nat}:bQ h (.row b o n cap z)=match dataV h 8 (.row b o n cap z) with
 | some d=>some (.d d)
 | none=>none:=(rfl)
@[simp] theorem KC {h:Hp}{vs:List V}:frz h (.tup vs)=match vs.mapM (bQ h) with
 | some l=>some (.tup l)
 | none=>none:=(rfl)
def runT (t:Tr)(o:Option (List Tr×EA×Hp)):Option (List Tr×EA×Hp):=match o with
 | some (l,e,h)=>some (t::l,e,h)
 | none=>none
def Gx (C:Calls')(os:List RO)(e:EA)(d:Option Nat)(o:Option (V×Hp×Tr)):Option (List Tr×EA×Hp):=match o with
 | some (v,h',t)=>runT t (gq C os (cz e d v) h')
 | none=>none
def wu (C:Calls')(v:V)(w:Bool)(d:Option Nat)(r:R)(os:List RO)(e:EA)(h:Hp):Option (List Tr×EA×Hp):=match v with
 | .d (.bool t)=>if t=w then Gx C os e d (dh C r (X.ea e) h) else runT (av h) (gq C os (cz e d (.tup [])) h)
 | .tup []=>runT (av h) (gq C os (cz e d (.tup [])) h)
 | _=>none
section
variable {C:Calls'}{ev:X->V}{h:Hp}
@[simp] theorem Vi {e:EA}:gq C [] e h=some ([],e,h):=(rfl)
@[simp] theorem Gw {d:Option Nat}{r:R}{os:List RO}{e:EA}:gq C (⟨none,d,r⟩::os) e h=Gx C os e d (dh C r (X.ea e) h):=(rfl)
@[simp] theorem Mx {j:Nat}{w:Bool}{d:Option Nat}{r:R}{os:List RO}{e:EA}:gq C (⟨some (j,w),d,r⟩::os) e h=wu C (e.get j) w d r os e h:=(rfl)
@[simp] theorem Qr {os:List RO}{e:EA}{d:Option Nat}{v:V}{h':Hp}{t:Tr}:Gx C os e d (some (v,h',t))=runT t (gq C os (cz e d v) h'):=(rfl)
@[simp] theorem Qs {t:Tr}{l:List Tr}{e:EA}:runT t (some (l,e,h))=some (t::l,e,h):=(rfl)
section
variable {d:Option Nat}{r:R}{os:List RO}{e:EA}
@[simp] theorem TC:wu C (.d (.bool true)) true d r os e h=Gx C os e d (dh C r (X.ea e) h):=(rfl)
@[simp] theorem TB:wu C (.d (.bool true)) false d r os e h=runT (av h) (gq C os (cz e d (.tup [])) h):=(rfl)
@[simp] theorem TA:wu C (.d (.bool false)) true d r os e h=runT (av h) (gq C os (cz e d (.tup [])) h):=(rfl)
@[simp] theorem Tz:wu C (.d (.bool false)) false d r os e h=Gx C os e d (dh C r (X.ea e) h):=(rfl)
@[simp] theorem We {w:Bool}:wu C (.tup []) w d r os e h=runT (av h) (gq C os (cz e d (.tup [])) h):=(rfl)
end
def trE (o:Option (V×Hp))(h:Hp)(nd wr:List Nat):Option (V×Hp×Tr):=match o with
 | some (v,h')=>some (v,h',⟨false,false,nd,wr,h.bs.length,h'.bs.length,0⟩)
 | none=>none
@[simp] theorem bk4 {v:V}{h':Hp}{nd wr:List Nat}:trE (some (v,h')) h nd wr=some (v,h',⟨false,false,nd,wr,h.bs.length,h'.bs.length,0⟩):=(rfl)
@[simp] theorem Uj {x:X}:dh C (.mov x) ev h=trE (opE C (.mov x) ev h) h [] []:=(rfl)
@[simp] theorem QS {a b c:X}:dh C (.pick a b c) ev h=trE (opE C (.pick a b c) ev h) h [] []:=(rfl)
@[simp] theorem Uk {a:List V}:dh C (.new a) ev h=trE (opE C (.new a) ev h) h [] []:=(rfl)
@[simp] theorem Ue {a:X}:dh C (.box a) ev h=trE (opE C (.box a) ev h) h [] []:=(rfl)
@[simp] theorem OI {a:List V}{b:List (Nat×Nat×X)}:dh C (.build a b) ev h=trE (opE C (.build a b) ev h) h [] []:=(rfl)
@[simp] theorem Nj {z n:Nat}{a:List V}{b:List (Nat×Nat×X)}:dh C (.buildS z n a b) ev h=trE (opE C (.buildS z n a b) ev h) h [] []:=(rfl)
@[simp] theorem QO {s:Bool}{n:Nat}{a:X}:dh C (.load s n a) ev h=trE (opE C (.load s n a) ev h) h (ev a).blk []:=(rfl)
@[simp] theorem OL {n:Nat}{a b:X}:dh C (.store n a b) ev h=trE (opE C (.store n a b) ev h) h (ev a).blk (ev a).blk:=(rfl)
@[simp] theorem Ud {o:BinOp}{a b:X}:dh C (.bin o a b) ev h=trE (opE C (.bin o a b) ev h) h [] []:=(rfl)
@[simp] theorem Wz {k:EQ}{n:Bool}{a b:X}:dh C (.eq k n a b) ev h=trE (opE C (.eq k n a b) ev h) h [] []:=(rfl)
@[simp] theorem WA {o:UnOp}{a:X}:dh C (.un o a) ev h=trE (opE C (.un o a) ev h) h [] []:=(rfl)
@[simp] theorem OJ {k:IntKind}{a:X}:dh C (.convI k a) ev h=trE (opE C (.convI k a) ev h) h [] []:=(rfl)
@[simp] theorem Nk {a:X}:dh C (.convBS a) ev h=trE (opE C (.convBS a) ev h) h (ev a).blk []:=(rfl)
@[simp] theorem Nl {a:X}:dh C (.convSB a) ev h=trE (opE C (.convSB a) ev h) h [] []:=(rfl)
@[simp] theorem Nn {a:X}:dh C (.convSS a) ev h=trE (opE C (.convSS a) ev h) h [] []:=(rfl)
@[simp] theorem QL {n:Nat}{a:X}:dh C (.fldA a n) ev h=trE (opE C (.fldA a n) ev h) h [] []:=(rfl)
@[simp] theorem Ug {s:Bool}{o n:Nat}{a:X}:dh C (.fld s a o n) ev h=trE (opE C (.fld s a o n) ev h) h [] []:=(rfl)
@[simp] theorem QM {m:Option Nat}{n:Nat}{a b:X}:dh C (.idxA m n a b) ev h=trE (opE C (.idxA m n a b) ev h) h [] []:=(rfl)
@[simp] theorem Uh {s:Bool}{m n:Nat}{a b:X}:dh C (.idx s m n a b) ev h=trE (opE C (.idx s m n a b) ev h) h [] []:=(rfl)
@[simp] theorem QN {a b:X}:dh C (.idxS a b) ev h=trE (opE C (.idxS a b) ev h) h [] []:=(rfl)
@[simp] theorem Ul {k:SK}{z:Nat}{a:X}{b c d:Option X}:dh C (.slc k z a b c d) ev h=trE (opE C (.slc k z a b c d) ev h) h (ev a).blk []:=(rfl)
@[simp] theorem QQ {f:FuncId}{l:List X}:dh C (.mkmv f l) ev h=trE (opE C (.mkmv f l) ev h) h [] []:=(rfl)
@[simp] theorem QP {f:FuncId}{l:List X}:dh C (.mkfn f l) ev h=trE (opE C (.mkfn f l) ev h) h [] []:=(rfl)
@[simp] theorem QR {z b:Nat}{l:List V}{x y:X}:dh C (.mksl z b l x y) ev h=trE (opE C (.mksl z b l x y) ev h) h [] []:=(rfl)
@[simp] theorem Uf {n:Nat}{a:X}:dh C (.ext a n) ev h=trE (opE C (.ext a n) ev h) h [] []:=(rfl)
@[simp] theorem Uc {z b:Nat}{x y:X}:dh C (.app z b x y) ev h=trE (opE C (.app z b x y) ev h) h ((ev x).blk++(ev y).blk) (ev x).blk:=(rfl)
@[simp] theorem Ui {s:Bool}{a:X}:dh C (.len s a) ev h=trE (opE C (.len s a) ev h) h [] []:=(rfl)
@[simp] theorem QK {z:Nat}{x y:X}:dh C (.copy z x y) ev h=trE (opE C (.copy z x y) ev h) h ((ev x).blk++(ev y).blk) (ev x).blk:=(rfl)
@[simp] theorem Np {a:X}:dh C (.nilchk a) ev h=trE (opE C (.nilchk a) ev h) h [] []:=(rfl)
theorem aa {f:X}{args:List X}:dh C (.call f args) ev h=if args.all (fun x=>okV (ev x))=true then match iJ C (ev f) (args.map ev) ⟨h.bs,h.bs.length⟩ with
 | some (v,h')=>if h.bs.length<=h'.low then
  (if h'.bs.length=h.bs.length then some (v,h,⟨true,false,[],[],h.bs.length,h.bs.length,0⟩)
  else some (v,⟨h'.bs,h.low⟩,⟨true,false,[],[],h.bs.length,h'.bs.length,0⟩))
  else some (v,⟨h'.bs,min h.low h'.low⟩,⟨true,true,[],[],h.bs.length,h'.bs.length,⟨h'.low,uD h.bs h'.bs⟩⟩)
 | none=>none
 else none:=(rfl)
end
@[simp] theorem bj2 {d:D}:(V.d d).blk=[]:=(rfl)
@[simp] theorem VU {b o:Nat}:(V.ptr b o).blk=[b]:=(rfl)
@[simp] theorem VV {b o l z:Nat}{c:Option Nat}:(V.row b o l c z).blk=[b]:=(rfl)
@[simp] theorem Ta {cs:List D}{o:Nat}:(V.eptr cs o).blk=[]:=(rfl)
@[simp] theorem VT {cs:List V}:(V.agg cs).blk=[]:=(rfl)
end
