/-
  What the machine for closed runs finds, the reading answers: regions, code, calls.
-/
import Derived.Test.YtmnfjejphmmddaaGreatKd
set_option linter.unusedVariables false
set_option linter.unusedSimpArgs false
namespace Go.Proofs.YtmnfjejphmmddaaGreat
section
variable {β : Type} {C : Calls'} {CK : CallsK β}
theorem KE_get (e : KE) (i : Nat) : KE.get e i = EA.get e i := kget_eq e i
theorem opsK_eq (hC : SimC C CK) : ∀ {os : List RO} {e : KE} {h : KH} {k : KE → KH → Option β} {x : β}, h.ok → opsK CK os e h k = some x → ∃ e' h', opsA C os e h.hp = some (e', KH.hp h') ∧ h'.ok ∧ k e' h' = some x
  | [], e, h, k, x, hk, hr => ⟨e, h, rfl, hk, hr⟩
  | o :: os, e, h, k, x, hk, hr => by
    have hr : (match o.g with
      | none => opK CK o.r e h fun v h' => opsK CK os (setA e o.d v) h' k
      | some (j, want) => match KE.get e j with
        | .d (.bool t) => match t, want with
          | true, true | false, false => opK CK o.r e h fun v h' => opsK CK os (setA e o.d v) h' k
          | _, _ => opsK CK os (setA e o.d (.tup [])) h k
        | .tup [] => opsK CK os (setA e o.d (.tup [])) h k
        | _ => none) = some x := hr
    have go : (opK CK o.r e h fun v h' => opsK CK os (setA e o.d v) h' k) = some x → ∃ e' h', (match opE C o.r (X.ea e) h.hp with
          | some (v, h') => opsA C os (setA e o.d v) h'
          | none => none) = some (e', KH.hp h') ∧ h'.ok ∧ k e' h' = some x := by
      intro hr
      obtain ⟨v, h1, k1, k2, k3⟩ := opK_eq hC hk hr
      rw [k1]
      exact opsK_eq hC k2 k3
    simp only [opsA]
    split at hr
    · rename_i hg
      simp only [hg]
      exact go hr
    · rename_i j want hg
      simp only [hg]
      rw [KE_get] at hr
      split at hr
      · rename_i t ht
        simp only [ht]
        split at hr
        · simp only [if_true]; exact go hr
        · simp only [if_true]; exact go hr
        · rename_i h1 h2
          rw [if_neg (by rintro rfl; cases t <;> simp_all)]
          exact opsK_eq hC hk hr
      · rename_i ht
        simp only [ht]
        exact opsK_eq hC hk hr
      · cases hr
theorem needK_eq (e : KE) (r : R) : needK e r = needE (X.ea e) r ∧ writeK e r = writeE (X.ea e) r := by cases r <;> exact ⟨rfl, rfl⟩
theorem opDK_eq (hC : SimC C CK) {r : R} {e : KE} {h : KH} (hk : h.ok) {k : V → KH → Tr → Option β} {x : β} (hr : opDK CK r e h k = some x) :
    ∃ v kh' t, opDE C r (X.ea e) h.hp = some (v, KH.hp kh', t) ∧ kh'.ok ∧ k v kh' t = some x := by
  cases r with
  | call f args =>
    simp only [opDK, kev_eq, kevs_eq] at hr
    split at hr
    · rename_i hc
      split at hr
      · rename_i f' caps hf
        have hk0 : KH.ok ⟨h.n, h.bs, h.n⟩ := hk
        obtain ⟨v, kh', h1, h2, h3⟩ := hC _ _ _ _ _ hk0 hr
        have hp0 : KH.hp ⟨h.n, h.bs, h.n⟩ = ⟨h.hp.bs, h.hp.bs.length⟩ := by simp [KH.hp, hk.symm]
        rw [hp0] at h1
        have hop : opDE C (.call f args) (X.ea e) h.hp = (if h.hp.bs.length ≤ kh'.hp.low then
            (if kh'.hp.bs.length = h.hp.bs.length then some (v, h.hp, ⟨true, false, [], [], h.hp.bs.length, h.hp.bs.length⟩)
            else some (v, ⟨kh'.hp.bs, h.hp.low⟩, ⟨true, false, [], [], h.hp.bs.length, kh'.hp.bs.length⟩))
          else some (v, ⟨kh'.hp.bs, min h.hp.low kh'.hp.low⟩, ⟨true, true, [], [], h.hp.bs.length, kh'.hp.bs.length⟩)) := by
          rw [opDE_call, if_pos hc, hf, callM_fn, h1]
        rw [hop]
        have l1 := hp_len hk
        have l2 := hp_len h2
        split at h3
        · rename_i hle
          rw [ble_iff] at hle
          rw [if_pos (by rw [l1]; exact hle)]
          split at h3
          · rename_i hn
            rw [beq_iff'] at hn
            rw [if_pos (by rw [l1, l2]; exact hn), l1]
            exact ⟨v, h, _, rfl, hk, h3⟩
          · rename_i hn
            have hn : ¬ kh'.n = h.n := fun q => by rw [beq_iff'.2 q] at hn; cases hn
            rw [if_neg (by rw [l1, l2]; exact hn), l1, l2]
            exact ⟨v, ⟨kh'.n, kh'.bs, h.low⟩, _, rfl, h2, h3⟩
        · rename_i hle
          rw [ble_f] at hle
          rw [if_neg (by rw [l1]; exact Nat.not_le.2 hle), l1, l2]
          rw [minK_eq] at h3
          exact ⟨v, ⟨kh'.n, kh'.bs, min h.low kh'.low⟩, _, rfl, h2, h3⟩
      · cases hr
    · cases hr
  | _ =>
    simp only [opDK] at hr
    obtain ⟨v, kh', h1, h2, h3⟩ := opK_eq hC hk hr
    refine ⟨v, kh', _, ?_, h2, h3⟩
    simp only [opDE, h1]
    rw [hp_len hk, hp_len h2]
    rfl
theorem runK_eq (hC : SimC C CK) : ∀ {os : List RO} {e : KE} {h : KH} {k : List Tr → KE → KH → Option β} {x : β}, h.ok → runK CK os e h k = some x → ∃ l e' h', runA C os e h.hp = some (l, e', KH.hp h') ∧ h'.ok ∧ k l e' h' = some x
  | [], e, h, k, x, hk, hr => ⟨[], e, h, rfl, hk, hr⟩
  | o :: os, e, h, k, x, hk, hr => by
    have hr : (match o.g with
      | none => opDK CK o.r e h fun v h' t => runK CK os (setA e o.d v) h' fun l => k (t :: l)
      | some (j, want) => match KE.get e j with
        | .d (.bool t) => match t, want with
          | true, true | false, false => opDK CK o.r e h fun v h' t => runK CK os (setA e o.d v) h' fun l => k (t :: l)
          | _, _ => runK CK os (setA e o.d (.tup [])) h fun l => k (⟨false, false, [], [], h.n, h.n⟩ :: l)
        | .tup [] => runK CK os (setA e o.d (.tup [])) h fun l => k (⟨false, false, [], [], h.n, h.n⟩ :: l)
        | _ => none) = some x := hr
    have go : (opDK CK o.r e h fun v h' t => runK CK os (setA e o.d v) h' fun l => k (t :: l)) = some x → ∃ l e' h', runS C os e o.d (opDE C o.r (X.ea e) h.hp) = some (l, e', KH.hp h') ∧ h'.ok ∧ k l e' h' = some x := by
      intro hr
      obtain ⟨v, h1, t, k1, k2, k3⟩ := opDK_eq hC hk hr
      obtain ⟨l, e', h', q1, q2, q3⟩ := runK_eq hC k2 k3
      exact ⟨_, e', h', by rw [k1, runS_s, q1]; rfl, q2, q3⟩
    have sk : (runK CK os (setA e o.d (.tup [])) h fun l => k (⟨false, false, [], [], h.n, h.n⟩ :: l)) = some x → ∃ l e' h', runT (noTr h.hp) (runA C os (setA e o.d (.tup [])) h.hp) = some (l, e', KH.hp h') ∧ h'.ok ∧ k l e' h' = some x := by
      intro hr
      obtain ⟨l, e', h', q1, q2, q3⟩ := runK_eq hC hk hr
      refine ⟨_, e', h', by rw [q1, runT_s], q2, ?_⟩
      rw [noTr, hp_len hk]; exact q3
    obtain ⟨g, d, r⟩ := o
    cases g with
    | none => rw [runA_cons]; exact go hr
    | some jw =>
      obtain ⟨j, want⟩ := jw
      rw [runA_if]
      dsimp only at hr go sk
      rw [KE_get] at hr
      split at hr
      · rename_i t ht
        rw [ht]
        split at hr
        · exact go hr
        · exact go hr
        · rename_i h1 h2
          have hne : ¬ t = want := by rintro rfl; cases t <;> simp_all
          unfold gateR
          simp only [if_neg hne]
          exact sk hr
      · rename_i ht
        rw [ht]
        exact sk hr
      · cases hr
theorem codeK_eq (hC : SimC C CK) : ∀ {n : Nat} {c : QC} {e : KE} {h : KH} {k : Ex → KE → KH → Option β} {x : β}, h.ok → codeK CK n c e h k = some x → ∃ ex e' h', codeA C n c e h.hp = some (ex, e', KH.hp h') ∧ h'.ok ∧ k ex e' h' = some x
  | 0, c, e, h, k, x, hk, hr => by cases hr
  | n + 1, c, e, h, k, x, hk, hr => by
    cases c with
    | skip => exact ⟨_, e, h, rfl, hk, hr⟩
    | ret l =>
      have hr : keepK e l (fun e => k .ret e h) = some x := hr
      rw [keepK_eq] at hr
      exact ⟨_, _, h, rfl, hk, hr⟩
    | exit i l =>
      have hr : keepK e l (fun e => k (.exit i) e h) = some x := hr
      rw [keepK_eq] at hr
      exact ⟨_, _, h, rfl, hk, hr⟩
    | reg pr os =>
      cases pr with
      | none =>
        obtain ⟨e', h', k1, k2, k3⟩ := opsK_eq hC hk (show opsK CK os e h (fun e h => k .normal e h) = some x from hr)
        exact ⟨_, e', h', by simp only [codeA, k1, lead_s], k2, k3⟩
      | some pr =>
        obtain ⟨l, e', h', k1, k2, k3⟩ := runK_eq hC hk (show runK CK os e h (fun l e h => match apartT pr l with
          | true => k .normal e h
          | false => none) = some x from hr)
        cases hap : apartT pr l with
        | true =>
          rw [hap] at k3
          exact ⟨_, e', h', by simp only [codeA, openA, k1, hap, if_true, lead_s], k2, k3⟩
        | false => rw [hap] at k3; cases k3
    | seq a b =>
      obtain ⟨ex, e1, h1, k1, k2, k3⟩ := codeK_eq hC hk (show codeK CK n a e h (fun ex e h => match ex with
        | .normal => codeK CK n b e h k
        | .ret => k .ret e h
        | .exit i => k (.exit i) e h) = some x from hr)
      cases ex with
      | normal =>
        obtain ⟨ex2, e2, h2, q1, q2, q3⟩ := codeK_eq hC k2 k3
        exact ⟨ex2, e2, h2, by simp only [codeA, k1, onward]; exact q1, q2, q3⟩
      | ret => exact ⟨_, e1, h1, by simp only [codeA, k1, onward], k2, k3⟩
      | exit i => exact ⟨_, e1, h1, by simp only [codeA, k1, onward], k2, k3⟩
    | cond cx a b =>
      have hr : (cx.kev e fun v => match v with
        | .d (.bool t) => match t with
          | true => codeK CK n a e h k
          | false => codeK CK n b e h k
        | _ => none) = some x := hr
      rw [kev_eq] at hr
      split at hr
      · rename_i t ht
        split at hr
        · obtain ⟨ex, e1, h1, k1, k2, k3⟩ := codeK_eq hC hk hr
          exact ⟨ex, e1, h1, by simp only [codeA, ht, fork]; exact k1, k2, k3⟩
        · obtain ⟨ex, e1, h1, k1, k2, k3⟩ := codeK_eq hC hk hr
          exact ⟨ex, e1, h1, by simp only [codeA, ht, fork]; exact k1, k2, k3⟩
      · cases hr
    | block i b =>
      obtain ⟨ex, e1, h1, k1, k2, k3⟩ := codeK_eq hC hk (show codeK CK n b e h (fun ex e h => match ex with
        | .exit j => match Nat.beq j i with
          | true => k .normal e h
          | false => k (.exit j) e h
        | .normal => k .normal e h
        | .ret => k .ret e h) = some x from hr)
      cases ex with
      | exit j =>
        cases hj : Nat.beq j i with
        | true =>
          simp only [hj] at k3
          exact ⟨_, e1, h1, by simp only [codeA, k1, leave, if_pos (beq_iff'.1 hj)], k2, k3⟩
        | false =>
          simp only [hj] at k3
          have hne : ¬ j = i := fun q => by rw [beq_iff'.2 q] at hj; cases hj
          exact ⟨_, e1, h1, by simp only [codeA, k1, leave, if_neg hne], k2, k3⟩
      | normal => exact ⟨_, e1, h1, by simp only [codeA, k1, leave], k2, k3⟩
      | ret => exact ⟨_, e1, h1, by simp only [codeA, k1, leave], k2, k3⟩
    | loop keep b =>
      have hr : keepK e keep (fun e => codeK CK n b e h fun ex e h => match ex with
        | .normal => codeK CK n (.loop keep b) e h k
        | .ret => k .ret e h
        | .exit i => k (.exit i) e h) = some x := hr
      rw [keepK_eq] at hr
      obtain ⟨ex, e1, h1, k1, k2, k3⟩ := codeK_eq hC hk hr
      cases ex with
      | normal =>
        obtain ⟨ex2, e2, h2, q1, q2, q3⟩ := codeK_eq hC k2 k3
        exact ⟨ex2, e2, h2, by simp only [codeA, k1, onward]; exact q1, q2, q3⟩
      | ret => exact ⟨_, e1, h1, by simp only [codeA, k1, onward], k2, k3⟩
      | exit i => exact ⟨_, e1, h1, by simp only [codeA, k1, onward], k2, k3⟩
theorem resK_eq {h : KH} (hk : h.ok) {e : KE} : ∀ {l : List RV} {k : List V → Option β} {x : β}, resK h e l k = some x → ∃ vs, resA h.hp e l = some vs ∧ k vs = some x
  | [], k, x, hr => ⟨[], rfl, hr⟩
  | .tmp t :: l, k, x, hr => by
    simp only [resK, vH_eq, KE_get] at hr
    split at hr
    · cases hr
    · rename_i v hv
      obtain ⟨vs, h1, h2⟩ := resK_eq hk hr
      refine ⟨_, ?_, h2⟩
      simp only [resA, h1]
      cases hx : EA.get e t <;> first | exact absurd hx hv | rfl
  | .cell t sc n :: l, k, x, hr => by
    simp only [resK, KE_get] at hr
    split at hr
    · rename_i cs hl
      obtain ⟨v, h1, hr⟩ := mkK_eq hr
      obtain ⟨vs, h2, h3⟩ := resK_eq hk hr
      exact ⟨_, by simp only [resA, loadK_eq hk hl, h1, h2], h3⟩
    · cases hr
/-- The machine's calls are the reading's: nothing by value. -/
theorem semK_eq {F : FuncId → Option QF} {E : Calls'} : ∀ (m : Nat), SimC (semA E F (fun _ => false) m) (semK (β := β) F m)
  | 0 => fun f args kh k r _ hr => by cases hr
  | m + 1 => by
    intro f args kh k r hk hr
    have ih := semK_eq (F := F) (E := E) m
    have hr : (match F f with
      | none => none
      | some rf => codeK (semK F m) m rf.code (argsA 0 args) ⟨kh.n, kh.bs, kh.n⟩ fun ex e h' => match ex with
        | .exit _ => none
        | _ => resK h' e rf.res fun vs => vH (tupOf vs) fun r => match Nat.ble kh.n h'.low && V.under kh.n r with
          | true => k r kh
          | false => minK kh.low h'.low fun low => k r ⟨h'.n, h'.bs, low⟩) = some r := hr
    cases hF : F f with
    | none => rw [hF] at hr; cases hr
    | some q =>
      simp only [hF] at hr
      have hk0 : KH.ok ⟨kh.n, kh.bs, kh.n⟩ := hk
      have hp0 : KH.hp ⟨kh.n, kh.bs, kh.n⟩ = ⟨kh.hp.bs, kh.hp.bs.length⟩ := by simp [KH.hp, hk.symm]
      obtain ⟨ex, e1, h1, k1, k2, k3⟩ := codeK_eq ih hk0 hr
      rw [hp0] at k1
      have fin : ∀ vs, resA h1.hp e1 q.res = some vs → (match Nat.ble kh.n h1.low && V.under kh.n (tupOf vs) with
          | true => k (tupOf vs) kh
          | false => minK kh.low h1.low fun low => k (tupOf vs) ⟨h1.n, h1.bs, low⟩) = some r → bodyA (semA E F (fun _ => false) m) m q args ⟨kh.hp.bs, kh.hp.bs.length⟩ = some (tupOf vs, h1.hp) →
          ∃ v kh', semA E F (fun _ => false) (m + 1) f args kh.hp = some (v, KH.hp kh') ∧ kh'.ok ∧ k v kh' = some r := by
        intro vs hvs h3 hbody
        have l1 := hp_len hk
        have hop : semA E F (fun _ => false) (m + 1) f args kh.hp = (if kh.hp.bs.length ≤ h1.hp.low ∧ (tupOf vs).under kh.hp.bs.length = true then some (tupOf vs, kh.hp) else some (tupOf vs, ⟨h1.hp.bs, min kh.hp.low h1.hp.low⟩)) := by
          simp only [semA, hF, Bool.false_eq_true, if_false, hbody, byRef]
        rw [hop, l1]
        split at h3
        · rename_i hc
          simp only [Bool.and_eq_true, ble_iff] at hc
          rw [if_pos (show kh.n ≤ h1.hp.low ∧ _ from hc)]
          exact ⟨_, kh, rfl, hk, h3⟩
        · rename_i hc
          have hc : ¬ (kh.n ≤ h1.low ∧ V.under kh.n (tupOf vs) = true) := fun q => by
            rw [ble_iff.2 q.1, q.2] at hc; cases hc
          rw [if_neg (show ¬ (kh.n ≤ h1.hp.low ∧ _) from hc)]
          rw [minK_eq] at h3
          exact ⟨_, ⟨h1.n, h1.bs, min kh.low h1.low⟩, rfl, k2, h3⟩
      split at k3
      · cases k3
      · obtain ⟨vs, hv1, hv2⟩ := resK_eq k2 k3
        rw [vH_eq] at hv2
        refine fin vs hv1 hv2 ?_
        cases ex with
        | normal => simp only [bodyA, k1, done, hv1]
        | ret => simp only [bodyA, k1, done, hv1]
        | exit i => rename_i hne; exact absurd rfl (hne i)
end
/-- What a closed run finds, is answered to any depth. -/
theorem closed {F : FuncId → Option QF} {E : Calls'} {n : Nat} {f : FuncId} {args : List V} {b : Bool} (h : semK (β := Bool) F n f args ⟨0, [], 0⟩ (fun v _ => match v with | .d (.bool b) => some b | _ => none) = some b) :
    ∃ h', semA E F (fun _ => false) n f args ⟨[], 0⟩ = some (.d (.bool b), h') := by
  obtain ⟨v, kh', h1, h2, h3⟩ := semK_eq (β := Bool) (E := E) n f args ⟨0, [], 0⟩ _ b rfl h
  split at h3
  · cases h3
    exact ⟨_, h1⟩
  · cases h3
end Go.Proofs.YtmnfjejphmmddaaGreat
