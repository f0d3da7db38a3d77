/- Code: what is walked is what the pure reading says. -/
import Derived.Test.YtjkfknafpgfchaaGreatPd
import Derived.LoopN
import Derived.Scope
import Derived.Orders
set_option linter.unusedVariables false
set_option linter.unusedSimpArgs false
namespace Go.Proofs.YtjkfknafpgfchaaGreat
open Go.RowKit
def LowOk (h h':Hp):Prop:=h.bs.length <= h'.bs.length /\ h'.low <= h.low /\ ∀ i,i < h.bs.length -> i < h'.low -> h'.bs[i]? = h.bs[i]?
theorem LowOk.refl (h:Hp):LowOk h h:=⟨Nat.le_refl _,Nat.le_refl _,fun _ _ _=>rfl⟩
theorem LowOk.trans {a b c:Hp} (h:LowOk a b) (k:LowOk b c):LowOk a c :=
 ⟨Nat.le_trans h.1 k.1,Nat.le_trans k.2.1 h.2.1,fun i hi hl=>(k.2.2 i (Nat.lt_of_lt_of_le hi h.1) hl).trans (h.2.2 i hi (Nat.lt_of_lt_of_le hl k.2.1))⟩
theorem LowOk.alloc (h:Hp) (cs:List V):LowOk h (h.alloc cs) :=
 ⟨by simp [Hp.alloc],Nat.le_refl _,fun i hi _=>by simp [Hp.alloc,List.getElem?_append_left hi]⟩
theorem LowOk.setB (h:Hp) (b:Nat) (x:Blk):LowOk h ⟨h.bs.set b x,min h.low b⟩ :=
 ⟨by simp,Nat.min_le_left _ _,fun i hi hl=>by
  simp only at hl;rw [List.getElem?_set_ne (by omega)]⟩
theorem LowOk.set (h:Hp) (b:Nat) (cs:List V):LowOk h (h.set b cs):=LowOk.setB h b _
def je (B:Nat) (ρ:Rh) (h:Hp) (w:World) (r:V) (h':Hp) (e:Ending) (w':World):Prop :=
 ∃ v ρ',e = .returned v /\ Rel B ρ' h' w' /\ Goes B ρ w ρ' w' /\ VRx h' ρ' w' r v
def aL (P:Program) (C:Calls'):Prop:=∀ f args h r h',C f args h = some (r,h') →
 (∀ vs w,(callFunc f vs).run P w = .ok (.enter f vs) w) /\ LowOk h h' ∧
 ∀ B ρ w (vs:Array Value),Rel B ρ h w -> VRs ρ (St ρ w) w args vs.toList -> Calls P f vs w (je B ρ h w r h')
theorem zn {h:Hp} {z bytes m:Nat} {s:V} {xs:List V} {r:V} {h':Hp} (ha:aC h z bytes s m xs = some (r,h')):LowOk h h':=by
 unfold aC at ha;split at ha
 · split at ha
   · cases ha; exact LowOk.refl _
   · split at ha
     · cases ha
     · split at ha
       · cases ha; exact LowOk.alloc _ _
       · cases ha
 · split at ha
   · cases ha
   · split at ha
     · cases ha; exact LowOk.refl _
     · split at ha
       · cases ha
       · split at ha
         · cases ha
         · split at ha
           · cases ha
           · split at ha
             · split at ha
               · split at ha
                 · cases ha; exact LowOk.set _ _ _
                 · cases ha
               · cases ha; exact LowOk.alloc _ _
             · split at ha
               · cases ha; exact (LowOk.set _ _ _).trans (LowOk.alloc _ _)
               · split at ha
                 · split at ha
                   · cases ha; exact LowOk.set _ _ _
                   · cases ha
                 · split at ha
                   · cases ha; exact (LowOk.set _ _ _).trans (LowOk.alloc _ _)
                   · cases ha
 · split at ha
   · cases ha; exact LowOk.refl _
   · cases ha
 · cases ha
theorem qY {P:Program} {C:Calls'} (hC:aL P C) {r:R} {e:Env} {h:Hp} {x:V} {h':Hp} (hm:opM C r e h = some (x,h')):LowOk h h':=by
 cases r <;> simp only [opM,one] at hm
 case mov=>cases hm; exact LowOk.refl _
 case pick=>split at hm <;> cases hm; exact LowOk.refl _
 case new=>cases hm; exact LowOk.alloc _ _
 case box=>split at hm <;> cases hm; exact LowOk.alloc _ _
 case build=>split at hm <;> cases hm; exact LowOk.refl _
 case buildS=>split at hm <;> cases hm; exact LowOk.alloc _ _
 case load =>
  split at hm
  · simp only [Option.map_eq_some_iff] at hm; obtain ⟨_,_,hm⟩:=hm; cases hm; exact LowOk.refl _
  · cases hm
 case store =>
  split at hm
  · split at hm
    · simp only [Option.map_eq_some_iff] at hm;obtain ⟨h2,hs,hm⟩:=hm;cases hm;unfold storeAt at hs;split at hs
      · split at hs
        · split at hs
          · cases hs; exact LowOk.set _ _ _
          · cases hs
        · cases hs
      · cases hs
    · cases hm
  · cases hm
 case nilchk=>split at hm <;> cases hm <;> exact LowOk.refl _
 case bin=>simp only [Option.map_eq_some_iff] at hm; obtain ⟨_,_,hm⟩:=hm; cases hm; exact LowOk.refl _
 case eq=>split at hm <;> cases hm; exact LowOk.refl _
 case un=>simp only [Option.map_eq_some_iff] at hm; obtain ⟨_,_,hm⟩:=hm; cases hm; exact LowOk.refl _
 case convI=>split at hm <;> cases hm; exact LowOk.refl _
 case convBS =>
  split at hm
  · cases hm
  · split at hm
    · split at hm
      · cases hm; exact LowOk.refl _
      · cases hm
    · cases hm
 case convSB =>
  split at hm
  · split at hm
    · cases hm; exact LowOk.alloc _ _
    · cases hm
  · cases hm
 case convSS=>split at hm <;> cases hm; exact LowOk.refl _
 case fldA=>split at hm <;> cases hm <;> exact LowOk.refl _
 case fld =>
  split at hm
  · split at hm
    · simp only [Option.map_eq_some_iff] at hm; obtain ⟨_,_,hm⟩:=hm; cases hm; exact LowOk.refl _
    · cases hm
  · cases hm
 case idxA =>
  split at hm
  · split at hm
    · split at hm
      · split at hm
        · cases hm; exact LowOk.refl _
        · cases hm
      · cases hm
    · cases hm
  · split at hm
    · cases hm; exact LowOk.refl _
    · cases hm
  · split at hm
    · cases hm; exact LowOk.refl _
    · cases hm
  · split at hm
    · cases hm; exact LowOk.refl _
    · cases hm
  · cases hm
 case idx =>
  split at hm
  · split at hm
    · split at hm
      · simp only [Option.map_eq_some_iff] at hm; obtain ⟨_,_,hm⟩:=hm; cases hm; exact LowOk.refl _
      · cases hm
    · cases hm
  · cases hm
 case idxS =>
  split at hm
  · split at hm
    · split at hm
      · cases hm; exact LowOk.refl _
      · cases hm
    · cases hm
  · cases hm
 case slc=>simp only [Option.map_eq_some_iff] at hm; obtain ⟨_,_,hm⟩:=hm; cases hm; exact LowOk.refl _
 case mkfn=>cases hm; exact LowOk.refl _
 case mkmv=>cases hm; exact LowOk.refl _
 case mksl =>
  split at hm
  · split at hm
    · cases hm; exact LowOk.alloc _ _
    · cases hm
  · cases hm
 case ext =>
  split at hm
  · simp only [Option.map_eq_some_iff] at hm; obtain ⟨_,_,hm⟩:=hm; cases hm; exact LowOk.refl _
  · cases hm
 case call =>
  unfold ed at hm;split at hm
  · exact (hC _ _ _ _ _ hm).2.1
  · exact (hC _ _ _ _ _ hm).2.1
  · cases hm
 case app =>
  split at hm
  · exact zn hm
  · cases hm
 case len=>split at hm <;> cases hm; exact LowOk.refl _
 case copy =>
  split at hm
  · split at hm
    · split at hm
      · split at hm
        · cases hm; exact LowOk.refl _
        · split at hm
          · cases hm; exact LowOk.set _ _ _
          · cases hm
      · cases hm
    · cases hm
  · cases hm
 case clear =>
  split at hm
  · split at hm
    · split at hm
      · split at hm
        · cases hm; exact LowOk.refl _
        · split at hm
          · cases hm; exact LowOk.set _ _ _
          · cases hm
      · cases hm
    · cases hm
  · cases hm; exact LowOk.refl _
  · cases hm
 case minmax =>
  split at hm
  · cases hm
  · split at hm <;> cases hm; exact LowOk.refl _
 case range =>
  split at hm
  · cases hm;exact ⟨by simp,Nat.le_refl _,fun i hi _=>by simp [List.getElem?_append_left hi]⟩
  · cases hm
 case next =>
  split at hm
  · split at hm
    · split at hm
      · cases hm; exact LowOk.setB _ _ _
      · cases hm; exact LowOk.refl _
    · cases hm
  · cases hm
def Leq (C C':Calls'):Prop:=∀ f args h r,C f args h = some r -> C' f args h = some r
theorem sS {C C':Calls'} (hC:Leq C C') {r:R} {e:Env} {h:Hp} {x:V × Hp} (hm:opM C r e h = some x):opM C' r e h = some x:=by
 cases r <;> first | exact hm | skip
 simp only [opM,ed] at hm ⊢;split at hm
 · rename_i heq
   (try rw [heq])
   exact hC _ _ _ _ hm
 · rename_i heq
   (try rw [heq])
   exact hC _ _ _ _ hm
 · cases hm
theorem jO {C C':Calls'} (hC:Leq C C'):∀ {os:List RO} {e:Env} {h:Hp} {x:Env × Hp},iU C os e h = some x -> iU C' os e h = some x
 | [],e,h,x,hm=>hm
 | o :: os,e,h,x,hm=>by
  simp only [iU] at hm ⊢;split at hm
  · rename_i j want hg
    (try simp only [hg])
    split at hm
    · rename_i t ht
      (try simp only [ht])
      split at hm
      · rename_i htw;rw [if_pos htw];split at hm
        · rename_i v h1 h2;rw [sS hC h2];exact jO hC hm
        · cases hm
      · rename_i htw;rw [if_neg htw];exact jO hC hm
    · rename_i ht
      (try simp only [ht])
      exact jO hC hm
    · cases hm
  · rename_i hg
    (try simp only [hg])
    split at hm
    · rename_i v h1 h2;rw [sS hC h2];exact jO hC hm
    · cases hm
theorem mR {C C':Calls'} (hC:Leq C C') {f:V} {args:List V} {h:Hp} {x:V × Hp} (hm:ed C f args h = some x):ed C' f args h = some x:=by
 unfold ed at hm ⊢;split at hm
 · exact hC _ _ _ _ hm
 · exact hC _ _ _ _ hm
 · cases hm
theorem Ht {C C':Calls'} (hC:Leq C C') {r:R} {e:Env} {h:Hp} {x:V × Hp × Tr} (hm:opD C r e h = some x):opD C' r e h = some x:=by
 cases r with
 | call f args =>
  simp only [opD] at hm ⊢;split at hm
  · rename_i v h1 h2;rw [mR hC h2];exact hm
  · cases hm
 | _ =>
  simp only [opD] at hm ⊢;split at hm
  · rename_i v h1 h2;rw [sS hC h2];exact hm
  · cases hm
theorem AY {C C':Calls'} (hC:Leq C C') {o:RO} {e:Env} {h:Hp} {x:Stp} (hm:stepD C o e h = some x):stepD C' o e h = some x:=by
 have key:∀ y:Stp,(match opD C o.r e h with | some (v,h',t)=>some (⟨h,v,h',t⟩:Stp) | none=>none) = some y -> (match opD C' o.r e h with | some (v,h',t)=>some (⟨h,v,h',t⟩:Stp) | none=>none) = some y:=by
  intro y hy;split at hy
  · rename_i v h1 t h2;rw [Ht hC h2];exact hy
  · cases hy
 simp only [stepD] at hm ⊢;split at hm
 · rename_i hg
   (try simp only [hg])
   exact key _ hm
 · rename_i j want hg
   (try simp only [hg])
   split at hm
   · rename_i t ht
     (try simp only [ht])
     split at hm
     · rename_i htw;rw [if_pos htw];exact key _ hm
     · rename_i htw;rw [if_neg htw];exact hm
   · rename_i ht
     (try simp only [ht])
     exact hm
   · cases hm
theorem uF {C C':Calls'} (hC:Leq C C'):∀ {os:List RO} {e:Env} {h:Hp} {x:List Stp × Env × Hp},kC C os e h = some x -> kC C' os e h = some x
 | [],e,h,x,hm=>hm
 | o :: os,e,h,x,hm=>by
  simp only [kC] at hm ⊢;split at hm
  · rename_i s hs;rw [AY hC hs];split at hm
    · rename_i l e1 h1 hr;simp only [uF hC hr];exact hm
    · cases hm
  · cases hm
theorem DW {C C':Calls'} (hC:Leq C C') {pr:List (List Nat)} {os:List RO} {e:Env} {h:Hp} {x:Env × Hp} (hm:sV C pr os e h = some x):sV C' pr os e h = some x:=by
 simp only [sV] at hm ⊢;split at hm
 · rename_i l e1 h1 hr;rw [uF hC hr];exact hm
 · cases hm
theorem bU {C C':Calls'} (hC:Leq C C'):∀ {m n:Nat} {c:RC} {e:Env} {h:Hp} {r:Ex × Env × Hp},m <= n -> aT C m c e h = some r -> aT C' n c e h = some r
 | 0,n,c,e,h,r,_,hm=>by simp [aT] at hm
 | m + 1,0,c,e,h,r,hle,hm=>by omega
 | m + 1,n + 1,c,e,h,r,hle,hm=>by
  have hle':m <= n:=by omega
  cases c with
  | skip=>simpa only [aT] using hm
  | ret=>simpa only [aT] using hm
  | exit i=>simpa only [aT] using hm
  | reg pr os =>
   cases pr with
   | none =>
    simp only [aT] at hm ⊢;split at hm
    · rename_i e1 h1 ho; rw [jO hC ho]; exact hm
    · cases hm
   | some pr =>
    simp only [aT] at hm ⊢;split at hm
    · rename_i e1 h1 ho; rw [DW hC ho]; exact hm
    · cases hm
  | seq a b =>
   simp only [aT] at hm ⊢;split at hm
   · rename_i e1 h1 h2;rw [bU hC hle' h2];exact bU hC hle' hm
   · rename_i q hne;rw [bU hC hle' hm];obtain ⟨ex,e1,h1⟩:=r;cases ex with
     | normal=>exact absurd hm (hne _ _)
     | ret=>rfl
     | exit i=>rfl
  | cond x a b =>
   simp only [aT] at hm ⊢;split at hm
   · rename_i t ht
     (try simp only [ht])
     exact bU hC hle' hm
   · cases hm
  | block i b =>
   simp only [aT] at hm ⊢;split at hm
   · rename_i j e1 h1 h2;rw [bU hC hle' h2];exact hm
   · rename_i q hne;rw [bU hC hle' hm];obtain ⟨ex,e1,h1⟩:=r;cases ex with
     | normal=>rfl
     | ret=>rfl
     | exit j=>exact absurd hm (hne _ _ _)
  | loop dead b =>
   simp only [aT] at hm ⊢;split at hm
   · rename_i e1 h1 h2;rw [bU hC hle' h2];exact bU hC hle' hm
   · rename_i q hne;rw [bU hC hle' hm];obtain ⟨ex,e1,h1⟩:=r;cases ex with
     | normal=>exact absurd hm (hne _ _)
     | ret=>rfl
     | exit i=>rfl
theorem Leq.refl (C:Calls'):Leq C C:=fun _ _ _ _ h=>h
section
variable {P:Program} {C:Calls'} {B:Nat} {ρ:Rh} {h:Hp} {w:World} {e:Env} {a:Act}
theorem q9 {x:V} {v:Value} (hE:ER ρ w e a.tmps) (hv:VR ρ (St ρ w) w x v) (d:Option Nat):ER ρ w (fE e d x) (a.put d v).tmps:=by
 cases d with
 | none=>exact hE
 | some d=>exact hE.set d hv
theorem put_defers (d:Option Nat) (v:Value):(a.put d v).defers = a.defers:=by cases d <;> rfl
theorem HY (hC:aL P C) (hR:Rel B ρ h w) (hE:ER ρ w e a.tmps) {o:Oper} {r:R} (hc:rU P o = some r) {x:V} {h':Hp} (hm:opM C r e h = some (x,h')) {K:Act -> World -> Prop} {Q:Exit -> Act -> World -> Prop}
 (hK:∀ v ρ' w',Rel B ρ' h' w' -> Goes B ρ w ρ' w' -> VRx h' ρ' w' x v -> K (a.put o.dst v) w'):o.wp P a w K Q:=by
 by_cases hcall:∃ f args,r = .call f args
 · obtain ⟨f,args,rfl⟩:=hcall;replace hc:=wT hc (by intro hh; cases hh);obtain ⟨dst,op,ty,pos,after,guard⟩:=o;cases op with
   | call c =>
    obtain ⟨callee,as,argTypes⟩:=c;cases callee with
    | value fo =>
     simp only [bu] at hc;replace hc:=ae hc; obtain ⟨F,h1,hc⟩:=hc;replace hc:=ae hc; obtain ⟨xs,h2,hc⟩:=hc;cases hc;simp only [opM,ed] at hm;split at hm
     · rename_i q caps heq;have hf:=ay hE h1;rw [heq] at hf;simp only [VR] at hf;obtain ⟨vs,ef,hvs⟩:=hf;have hargs:=oD hE h2;obtain ⟨k1,_,k2⟩:=hC _ _ _ _ _ hm;have hrun:(execOp a.eval ⟨dst,.call ⟨.value fo,as,argTypes⟩,ty,pos,after,guard⟩).run P w = .ok (.enter q (as.map a.eval ++ vs)) w:=by
        simp only [execOp,resolve,ef,Deferred.ofValue];simp [invoke,k1]
       unfold Oper.wp;rw [hrun,Oper.upon_enter];refine (k2 B ρ w (as.map a.eval ++ vs) hR ?_).mono fun e' w' ⟨v,ρ',e1,e2,e3,e4⟩=>?_
       · simpa using hargs.append hvs
       · subst e1; exact hK v ρ' w' e2 e3 e4
     · rename_i q first heq
       have hf:=ay hE h1;rw [heq] at hf;simp only [VR] at hf;obtain ⟨vs,ef,hvs⟩:=hf;have hargs:=oD hE h2;obtain ⟨k1,_,k2⟩:=hC _ _ _ _ _ hm;have hrun:(execOp a.eval ⟨dst,.call ⟨.value fo,as,argTypes⟩,ty,pos,after,guard⟩).run P w = .ok (.enter q (vs ++ as.map a.eval)) w:=by
        simp only [execOp,resolve,ef,Deferred.ofValue];simp [invoke,k1]
       unfold Oper.wp;rw [hrun,Oper.upon_enter];refine (k2 B ρ w (vs ++ as.map a.eval) hR ?_).mono fun e' w' ⟨v,ρ',e1,e2,e3,e4⟩=>?_
       · simpa using hvs.append hargs
       · subst e1; exact hK v ρ' w' e2 e3 e4
     · cases hm
    | invoke r m=>simp [bu] at hc
    | builtin b =>
     exfalso;simp only [bu] at hc;replace hc:=ae hc; obtain ⟨xs,hxs,hc⟩:=hc;split at hc
     · replace hc:=ae hc; obtain ⟨t,ht,hc⟩:=hc;replace hc:=ae hc; obtain ⟨tx,htx,hc⟩:=hc;replace hc:=ae hc; obtain ⟨el,he,hc⟩:=hc;split at hc
       · replace hc:=ae hc; obtain ⟨z,hz,hc⟩:=hc;replace hc:=ae hc; obtain ⟨by',hby,hc⟩:=hc;cases hc
       · cases hc
     · replace hc:=ae hc; obtain ⟨t,ht,hc⟩:=hc;split at hc <;> cases hc
     · replace hc:=ae hc; obtain ⟨t,ht,hc⟩:=hc;replace hc:=ae hc; obtain ⟨el,he,hc⟩:=hc;replace hc:=ae hc; obtain ⟨z,hz,hc⟩:=hc;cases hc
     · replace hc:=ae hc; obtain ⟨t,ht,hc⟩:=hc;replace hc:=ae hc; obtain ⟨el,he,hc⟩:=hc;replace hc:=ae hc; obtain ⟨z,hz,hc⟩:=hc;replace hc:=ae hc; obtain ⟨zz,hzz,hc⟩:=hc;cases hc
     · cases hc
     · cases hc
     · cases hc
   | next it st =>
    exfalso;cases st
    · simp [bu] at hc
    · simp only [bu] at hc;replace hc:=ae hc; obtain ⟨_,_,hc⟩:=hc;cases hc
   | _ =>
    exfalso;simp only [bu,Option.map_eq_some_iff] at hc
    repeat' (first | (cases hc; done) | (obtain ⟨_,_,hc⟩:=hc; cases hc; done) | (replace hc:=ae hc; obtain ⟨_,_,hc⟩:=hc) | split at hc)
 · have hd:=KZ (P:=P) hR hE hc (fun f args h=>hcall ⟨f,args,h⟩) hm;obtain ⟨v,ρ',w',hrun,k1,k2,k3⟩:=hd;unfold Oper.wp;rcases hrun with hrun | ⟨hrun,rfl⟩
   · rw [hrun,Oper.upon_value]; exact hK v ρ' w' k1 k2 k3
   · rw [hrun,Oper.upon_skip]; exact hK undef ρ' w' k1 k2 k3
theorem kG {ops:Array Oper} {j s:Nat} {p:Oper} (hp:ops[j]? = some p) (hs:p.dst = some s) (hE:ER ρ w e a.tmps) {t:Bool} (he:e.getD s .undef = .d (.bool t)):yielded ops a.tmps j = some t:=by
 have hv:=hE.2 s;rw [he] at hv;simp only [VR,DR] at hv;have:a.tmps[s]? = some (.bool t):=by
  rw [Array.getD_eq_getD_getElem?] at hv;cases hq:a.tmps[s]? with
  | none=>rw [hq] at hv; simp [undef] at hv
  | some u=>rw [hq] at hv; simp at hv; rw [hv]
 simp [yielded,hp,hs,this]
theorem pq {ops:Array Oper} {j s:Nat} {p:Oper} (hp:ops[j]? = some p) (hs:p.dst = some s) (hE:ER ρ w e a.tmps) (he:e.getD s .undef = .tup []):yielded ops a.tmps j = none:=by
 have hv:=hE.2 s;rw [he] at hv;simp only [VR,VRs] at hv;obtain ⟨vs,h1,h2⟩:=hv;rw [Array.getD_eq_getD_getElem?] at h1;cases hq:a.tmps[s]? with
 | none=>simp [yielded,hp,hs,hq]
 | some u=>rw [hq] at h1; simp at h1; subst h1; simp [yielded,hp,hs,hq]
theorem kU {ops:Array Oper} {o:Oper} {ro:RO} (hc:qw P ops o = some ro):rU P o = some ro.r /\ ro.d = o.dst ∧
 ((o.guard = none /\ ro.g = none) \/ ∃ j want p s,o.guard = some (j,want) /\ ops[j]? = some p /\ p.dst = some s /\ ro.g = some (s,want)):=by
 unfold qw at hc;replace hc:=ae hc; obtain ⟨r,hr,hc⟩:=hc;split at hc
 · rename_i hg;cases hc;exact ⟨hr,rfl,.inl ⟨hg,rfl⟩⟩
 · rename_i j want hg;replace hc:=ae hc; obtain ⟨p,hp,hc⟩:=hc;replace hc:=ae hc; obtain ⟨s,hs,hc⟩:=hc;cases hc;exact ⟨hr,rfl,.inr ⟨j,want,p,s,hg,hp,hs,rfl⟩⟩
def After (B:Nat) (ρ:Rh) (h:Hp) (w:World) (a:Act) (e':Env) (h':Hp) (a':Act) (w':World):Prop :=
 ∃ ρ',Rel B ρ' h' w' /\ Goes B ρ w ρ' w' /\ ER ρ' w' e' a'.tmps /\ a'.defers = a.defers
theorem vX (hE:ER ρ w e a.tmps) (d:Option Nat):ER ρ w (fE e d (.tup [])) (a.put d undef).tmps :=
 q9 hE (by simp only [VR,VRs]; exact ⟨#[],rfl,rfl⟩) d
theorem zV (hC:aL P C) {ops:Array Oper} {Q:Exit -> Act -> World -> Prop}:∀ (l:List Oper) (os:List RO) {e:Env} {h:Hp} {ρ:Rh} {w:World} {a:Act} {e':Env} {h':Hp},l.mapM (qw P ops) = some os -> iU C os e h = some (e',h') →
 Rel B ρ h w -> ER ρ w e a.tmps -> (∀ a' w',After B ρ h w a e' h' a' w' -> Q .normal a' w') -> wpList P ops Q l a w
 | [],os,e,h,ρ,w,a,e',h',hm,ho,hR,hE,hQ=>by
  simp at hm; subst hm;simp only [iU,Option.some.injEq,Prod.mk.injEq] at ho;obtain ⟨rfl,rfl⟩:=ho;exact hQ a w ⟨ρ,hR,Goes.refl _ _ _,hE,rfl⟩
 | o :: l,os,e,h,ρ,w,a,e',h',hm,ho,hR,hE,hQ=>by
  simp only [List.mapM_cons] at hm;replace hm:=ae hm; obtain ⟨ro,hro,hm⟩:=hm;replace hm:=ae hm; obtain ⟨os',hos,hm⟩:=hm;cases hm;obtain ⟨hr,hd,hg⟩:=kU hro;have doit:∀ v h1,opM C ro.r e h = some (v,h1) -> iU C os' (fE e ro.d v) h1 = some (e',h') -> o.wp P a w (wpList P ops Q l) Q:=by
   intro v h1 h2 h3;refine HY hC hR hE hr h2 fun u ρ' w' k1 k2 k3=>?_;rw [hd] at h3;refine zV hC l os' hos h3 k1 (q9 (hE.ext k2.ext) k3 o.dst) fun a' w'' ⟨ρ'',m1,m2,m3,m4⟩=>?_;exact hQ a' w'' ⟨ρ'',m1,k2.trans m2,m3,by rw [m4,put_defers]⟩
  have leave:iU C os' (fE e ro.d (.tup [])) h = some (e',h') -> wpList P ops Q l (a.put o.dst undef) w:=by
   intro h3;rw [hd] at h3;refine zV hC l os' hos h3 hR (vX hE o.dst) fun a' w'' ⟨ρ'',m1,m2,m3,m4⟩=>?_;exact hQ a' w'' ⟨ρ'',m1,m2,m3,by rw [m4,put_defers]⟩
  simp only [iU] at ho;unfold wpList;rcases hg with ⟨hg1,hg2⟩ | ⟨j,want,p,s,hg1,hp,hs,hg2⟩
  · simp only [hg2] at ho;have hw:Region.wanted o (yielded ops a.tmps) = true:=by simp [Region.wanted,hg1]
    rw [if_pos hw];split at ho
    · rename_i v h1 h2;exact .inl (doit v h1 h2 ho)
    · cases ho
  · simp only [hg2] at ho;split at ho
    · rename_i t heq;have hy:=kG hp hs hE heq;split at ho
      · rename_i htw;have hw:Region.wanted o (yielded ops a.tmps) = true:=by simp [Region.wanted,hg1,hy,htw]
        rw [if_pos hw];split at ho
        · rename_i v h1 h2;exact .inl (doit v h1 h2 ho)
        · cases ho
      · rename_i htw;have hw:¬ Region.wanted o (yielded ops a.tmps) = true:=by simp [Region.wanted,hg1,hy,htw]
        rw [if_neg hw];exact leave ho
    · rename_i heq;have hy:=pq hp hs hE heq;have hw:¬ Region.wanted o (yielded ops a.tmps) = true:=by simp [Region.wanted,hg1,hy]
      rw [if_neg hw];exact leave ho
    · cases ho
def Ex.to:Ex -> Exit
 | .normal=>.normal
 | .ret=>.ret
 | .exit i=>.exit i
def uM (P:Program) (C:Calls'):Prop:=∀ (B:Nat) (id:Nat) (ops:Array Oper) (os:List RO) (e:Env) (h:Hp) (ρ:Rh) (w:World) (a:Act) (e':Env) (h':Hp) (Q:Exit -> Act -> World -> Prop),
 ops.toList.mapM (qw P ops) = some os -> rW ops os = true -> sV C (bZ ops) os e h = some (e',h') -> Rel B ρ h w -> ER ρ w e a.tmps →
 (∀ a' w',After B ρ h w a e' h' a' w' -> Q .normal a' w') -> (Code.region id ops true).wp P Q a w
theorem KT {t:Array Value} (dead:List Nat):∀ {e:Env},ER ρ w e t -> ER ρ w (mask dead e) t:=by
 induction dead with
 | nil=>intro e h; exact h
 | cons d ds ih =>
  intro e hE;refine ih (e:=e.set d .undef) ⟨by simpa using hE.1,fun i=>?_⟩;have:=hE.2 i;by_cases hd:d = i
  · subst hd;by_cases hlt:d < e.length
    · simp [List.getD_eq_getElem?_getD,List.getElem?_set,hlt,VR]
    · simp [List.getD_eq_getElem?_getD,List.getElem?_set,hlt,VR]
  · simpa [List.getD_eq_getElem?_getD,List.getElem?_set,hd] using this
theorem Kc (hC:aL P C) (hD:uM P C):∀ (n:Nat) (c:Code) (rc:RC) {e:Env} {h:Hp} {ρ:Rh} {w:World} {a:Act} {ex:Ex} {e':Env} {h':Hp} {Q:Exit -> Act -> World -> Prop},comp P c = some rc.strip -> aT C n rc e h = some (ex,e',h') →
 Rel B ρ h w -> ER ρ w e a.tmps -> (∀ a' w',After B ρ h w a e' h' a' w' -> Q ex.to a' w') -> c.wp P Q a w:=by
 intro n
 induction n with
 | zero=>intro c rc e h ρ w a ex e' h' Q _ hn; simp [aT] at hn
 | succ n ih =>
  intro c
  induction c with
  | scope b ihb =>
   intro rc e h ρ w a ex e' h' Q hc hn hR hE hQ;refine wp_scope_straight (ihb rc hc hn hR hE fun a' w' hA=>?_);have:=hQ a' w' hA;cases ex <;> exact this
  | skip =>
   intro rc e h ρ w a ex e' h' Q hc hn hR hE hQ;cases rc <;> simp [comp,RC.strip] at hc;simp only [aT,Option.some.injEq,Prod.mk.injEq] at hn;obtain ⟨rfl,rfl,rfl⟩:=hn;exact wp_skip (hQ a w ⟨ρ,hR,Goes.refl _ _ _,hE,rfl⟩)
  | label l =>
   intro rc e h ρ w a ex e' h' Q hc hn hR hE hQ;cases rc <;> simp [comp,RC.strip] at hc;simp only [aT,Option.some.injEq,Prod.mk.injEq] at hn;obtain ⟨rfl,rfl,rfl⟩:=hn;exact wp_label (hQ a w ⟨ρ,hR,Goes.refl _ _ _,hE,rfl⟩)
  | ret =>
   intro rc e h ρ w a ex e' h' Q hc hn hR hE hQ;cases rc <;> simp [comp,RC.strip] at hc;simp only [aT,Option.some.injEq,Prod.mk.injEq] at hn;obtain ⟨rfl,rfl,rfl⟩:=hn;exact wp_ret (hQ a w ⟨ρ,hR,Goes.refl _ _ _,hE,rfl⟩)
  | exit i =>
   intro rc e h ρ w a ex e' h' Q hc hn hR hE hQ;cases rc <;> simp [comp,RC.strip] at hc;subst hc;simp only [aT,Option.some.injEq,Prod.mk.injEq] at hn;obtain ⟨rfl,rfl,rfl⟩:=hn;exact wp_exit (hQ a w ⟨ρ,hR,Goes.refl _ _ _,hE,rfl⟩)
  | goto l=>intro rc e h ρ w a ex e' h' Q hc; simp [comp] at hc
  | refuse s=>intro rc e h ρ w a ex e' h' Q hc; simp [comp] at hc
  | rangeFunc f ps x y=>intro rc e h ρ w a ex e' h' Q hc; simp [comp] at hc
  | region id ops draw =>
   intro rc e h ρ w a ex e' h' Q hc hn hR hE hQ;simp only [comp] at hc;replace hc:=ae hc; obtain ⟨os,hos,hc⟩:=hc;cases draw with
   | false =>
    simp only [Bool.false_eq_true,if_false] at hc;cases rc <;> simp [RC.strip,pure] at hc;obtain ⟨rfl,rfl⟩:=hc;simp only [aT] at hn;split at hn
    · rename_i e1 h1 ho;cases hn;exact wp_region_list (zV hC ops.toList os hos ho hR hE hQ)
    · cases hn
   | true =>
    simp only [if_true] at hc;split at hc
    · rename_i hdr;cases rc <;> simp [RC.strip,pure] at hc;obtain ⟨rfl,rfl⟩:=hc;simp only [aT] at hn;split at hn
      · rename_i e1 h1 ho;cases hn;exact hD B id ops os e h ρ w a _ _ Q hos hdr ho hR hE hQ
      · cases hn
    · cases hc
  | seq x y _ _ =>
   intro rc e h ρ w a ex e' h' Q hc hn hR hE hQ;simp only [comp] at hc;replace hc:=ae hc; obtain ⟨rx,hx,hc⟩:=hc;replace hc:=ae hc; obtain ⟨ry,hy,hc⟩:=hc;cases rc <;> simp [RC.strip,pure] at hc;obtain ⟨rfl,rfl⟩:=hc;simp only [aT] at hn;split at hn
   · rename_i e1 h1 hn1;refine wp_seq (ih x _ hx hn1 hR hE fun a1 w1 ⟨ρ1,m1,m2,m3,m4⟩=>?_);refine ih y _ hy hn m1 m3 fun a2 w2 ⟨ρ2,q1,q2,q3,q4⟩=>hQ a2 w2 ⟨ρ2,q1,m2.trans q2,q3,q4.trans m4⟩
   · rename_i r hne;have hne':ex ≠ .normal:=by rintro rfl; exact hne _ _ hn
     refine wp_seq (ih x _ hx hn hR hE fun a1 w1 hA=>?_);have:=hQ a1 w1 hA;cases ex with
     | normal=>exact absurd rfl hne'
     | ret=>exact this
     | exit i=>exact this
  | cond x t f _ _ =>
   intro rc e h ρ w a ex e' h' Q hc hn hR hE hQ;simp only [comp] at hc;replace hc:=ae hc; obtain ⟨X',ho,hc⟩:=hc;replace hc:=ae hc; obtain ⟨rt,ht,hc⟩:=hc;replace hc:=ae hc; obtain ⟨rf,hf,hc⟩:=hc;cases rc <;> simp [RC.strip,pure] at hc;obtain ⟨rfl,rfl,rfl⟩:=hc;simp only [aT] at hn;split at hn
   · rename_i b heq;have hv:=ay hE ho;rw [heq] at hv;have eb:=pg hv;cases b
     · exact wp_cond_false eb (ih f _ hf (by simpa using hn) hR hE hQ)
     · exact wp_cond_true eb (ih t _ ht (by simpa using hn) hR hE hQ)
   · cases hn
  | block i b _ =>
   intro rc e h ρ w a ex e' h' Q hc hn hR hE hQ;simp only [comp] at hc;replace hc:=ae hc; obtain ⟨rb,hb,hc⟩:=hc;cases rc <;> simp [RC.strip,pure] at hc;obtain ⟨rfl,rfl⟩:=hc;simp only [aT] at hn;split at hn
   · rename_i j e1 h1 hn1;refine wp_block (ih b _ hb hn1 hR hE fun a1 w1 hA=>?_);simp only [Ex.to,Exit.inBlock];split at hn
     · rename_i hji;cases hn;rw [if_pos hji];exact hQ a1 w1 hA
     · rename_i hji;cases hn;rw [if_neg hji];exact hQ a1 w1 hA
   · rename_i r hne;refine wp_block (ih b _ hb hn hR hE fun a1 w1 hA=>?_);have:=hQ a1 w1 hA;cases ex with
     | normal=>exact this
     | ret=>exact this
     | exit j=>exact absurd hn (hne j _ _)
  | loop b _ =>
   intro rc e h ρ w a ex e' h' Q hc hn hR hE hQ;simp only [comp] at hc;replace hc:=ae hc; obtain ⟨rb,hb,hc⟩:=hc;cases rc <;> simp [RC.strip,pure] at hc;rename_i dead rb';subst hc;have key:∀ (m:Nat),m <= n + 1 -> ∀ {e:Env} {h:Hp} {ρ:Rh} {w:World} {a:Act} {Q:Exit -> Act -> World -> Prop},aT C m (.loop dead rb') e h = some (ex,e',h') -> Rel B ρ h w -> ER ρ w e a.tmps →
    (∀ a' w',After B ρ h w a e' h' a' w' -> Q ex.to a' w') -> Code.rounds P b Q m a w:=by
    intro m
    induction m with
    | zero=>intro _ e h ρ w a Q hn; simp [aT] at hn
    | succ m ihm =>
     intro hmn e h ρ w a Q hn hR hE hQ;simp only [aT] at hn;have body:∀ {ex1:Ex} {e1:Env} {h1:Hp} {Q1:Exit -> Act -> World -> Prop},aT C m rb' (mask dead e) h = some (ex1,e1,h1) -> (∀ a' w',After B ρ h w a e1 h1 a' w' -> Q1 ex1.to a' w') -> b.wp P Q1 a w:=by
      intro ex1 e1 h1 Q1 hn1 hQ1;have hn1':aT C n rb' (mask dead e) h = some (ex1,e1,h1):=bU (Leq.refl C) (by omega) hn1;exact ih b rb' hb hn1' hR (KT dead hE) hQ1
     rw [rounds_succ];split at hn
     · rename_i e1 h1 hn1;refine body hn1 fun a1 w1 ⟨ρ1,m1,m2,m3,m4⟩=>?_;exact ihm (by omega) hn m1 m3 fun a2 w2 ⟨ρ2,q1,q2,q3,q4⟩=>hQ a2 w2 ⟨ρ2,q1,m2.trans q2,q3,q4.trans m4⟩
     · rename_i r hne;refine body hn fun a1 w1 hA=>?_;have:=hQ a1 w1 hA;cases ex with
       | normal=>exact absurd hn (hne _ _)
       | ret=>exact this
       | exit i=>exact this
   exact wp_loop_rounds (n + 1) (key (n + 1) (Nat.le_refl _) hn hR hE hQ)
end
end Go.Proofs.YtjkfknafpgfchaaGreat
