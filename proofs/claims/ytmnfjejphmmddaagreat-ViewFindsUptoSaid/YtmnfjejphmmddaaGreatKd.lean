/-
  What the machine for closed runs finds, the reading answers: slices, operations.
-/
import Derived.Test.YtmnfjejphmmddaaGreatKc
set_option linter.unusedVariables false
set_option linter.unusedSimpArgs false
namespace Go.Proofs.YtmnfjejphmmddaaGreat
section
variable {β : Type}
theorem sliceK_eq {h : KH} (hk : h.ok) {e : KE} {kd : SK} {z : Nat} {x : V} {lo hi mx : Option X} {k : V → Option β} {r : β} (hr : sliceK h e kd z x lo hi mx k = some r) :
    ∃ v, sliceE h.hp (X.ea e) kd z x lo hi mx = some v ∧ k v = some r := by
  unfold sliceK at hr
  split at hr
  · rename_i nl
    obtain ⟨l, hl, hr⟩ := boundK_eq hr
    obtain ⟨hh, hhh, hr⟩ := boundK_eq hr
    split at hr
    · refine ⟨_, ?_, hr⟩
      simp [sliceE, hl, hhh]
    · cases hr
  · rename_i b o len cap z'
    obtain ⟨l, hl, hr⟩ := boundK_eq hr
    obtain ⟨hh, hhh, hr⟩ := boundK_eq hr
    split at hr
    · cases hr
    · rename_i hz
      rw [beq_iff'] at hz
      subst hz
      split at hr
      · split at hr
        · cases hr
        · rename_i hc
          simp only [Bool.and_eq_true, ble_iff] at hc
          split at hr
          · simp only [nf_eq] at hr
            refine ⟨_, ?_, hr⟩
            simp [sliceE, hl, hhh, hc]
          · rename_i l
            split at hr
            · rename_i hlt
              have hlt := blt_iff.1 hlt
              simp only [nf_eq, oF_eq] at hr
              refine ⟨_, ?_, hr⟩
              simp [sliceE, hl, hhh, hc, hlt]
            · rename_i hlt
              rw [blt_eq] at hlt
              simp only [decide_eq_false_iff_not] at hlt
              refine ⟨_, ?_, hr⟩
              simp [sliceE, hl, hhh, hc, hlt]
      · rename_i m
        rw [kev_eq] at hr
        obtain ⟨t, n, hm, hr⟩ := natOf_eq hr
        split at hr
        · rename_i hc
          simp only [Bool.and_eq_true, Bool.or_eq_true, ble_iff, beq_iff', blt_iff] at hc
          simp only [nf_eq] at hr
          refine ⟨_, ?_, hr⟩
          have hb : ∀ m', X.ea e m' = .d (.int t n) → boundE (X.ea e) (some m') 0 = some n := fun m' h => by simp [boundE, h]
          simp only [sliceE, hl, hhh, hb _ hm]
          rw [if_pos ⟨hc.1.1.1.1, hc.1.1.1.2, hc.1.1.2, trivial, hc.1.2, hc.2⟩]
        · cases hr
  · rename_i s
    obtain ⟨l, hl, hr⟩ := boundK_eq hr
    obtain ⟨hh, hhh, hr⟩ := boundK_eq hr
    split at hr
    · split at hr
      · rename_i hc
        simp only [Bool.and_eq_true, ble_iff] at hc
        rw [sF_eq] at hr
        refine ⟨_, ?_, hr⟩
        have hsz : s.data.toList.length = s.size := rfl
        rw [hsz] at hc hhh
        simp only [sliceE, hl, hhh, hc, and_self, if_true]
        congr 3
        apply ByteArray.ext
        apply Array.ext'
        simp [ByteArray.data_extract, Array.toList_extract, List.extract]
        rw [List.drop_take]
      · cases hr
    · cases hr
  · rename_i n b o
    obtain ⟨l, hl, hr⟩ := boundK_eq hr
    obtain ⟨hh, hhh, hr⟩ := boundK_eq hr
    split at hr
    · split at hr
      · rename_i hc
        simp only [Bool.and_eq_true, ble_iff, blt_iff] at hc
        rw [KH.get_eq hk] at hr
        split at hr
        · rename_i cs hcs
          split at hr
          · rename_i hle
            rw [ble_iff] at hle
            simp only [nf_eq] at hr
            have h40 : (2 : Nat) ^ 40 = 1099511627776 := by decide
            have hn40 : n ≤ 2 ^ 40 := by rw [h40]; exact hc.2
            refine ⟨_, ?_, hr⟩
            simp only [sliceE, hl, hhh, Go.Proofs.YtmnfjejphmmddaaGreat.get_eq, hcs]
            rw [if_pos ⟨hc.1.1.1.1, hc.1.1.1.2, hc.1.1.2, hc.1.2⟩]
            simp only [hle, hn40, and_self, if_true]
          · cases hr
        · cases hr
      · cases hr
    · cases hr
  · cases hr
theorem hput {h : KH} (hk : h.ok) {b : Nat} {cs cs' : List V} (hb : getB h.hp.bs b = some cs) : (h.put' b (.cells cs')).hp = h.hp.set b cs' := by
  rw [KH.put'_hp hk (by rw [← hp_len hk]; exact getB_len hb)]; rfl

/-- An operation of the machine is one of the reading. -/
theorem opK_eq {C : Calls'} {CK : CallsK β} (hC : SimC C CK) {r : R} {e : KE} {h : KH} (hk : h.ok) {k : V → KH → Option β} {x : β} (hr : opK CK r e h k = some x) :
    ∃ v kh', opE C r (X.ea e) h.hp = some (v, kh'.hp) ∧ kh'.ok ∧ k v kh' = some x := by
  cases r with
  | mov a =>
    simp only [opK, kev_eq] at hr
    split at hr
    · cases hr
    · rename_i v hv
      refine ⟨_, h, ?_, hk, hr⟩
      cases hx : X.ea e a <;> first | exact absurd hx hv | simp [hx]
  | pick c a b =>
    simp only [opK, kev_eq] at hr
    split at hr
    · rename_i t hc
      split at hr
      · split at hr
        · cases hr
        · rename_i v hv
          refine ⟨_, h, ?_, hk, hr⟩
          cases hx : X.ea e a <;> first | exact absurd hx hv | simp [hx, hc]
      · split at hr
        · cases hr
        · rename_i v hv
          refine ⟨_, h, ?_, hk, hr⟩
          cases hx : X.ea e b <;> first | exact absurd hx hv | simp [hx, hc]
    · cases hr
  | new z =>
    simp only [opK, KH.alloc_eq] at hr
    exact ⟨_, _, by simp [hp_len hk], KH.alloc'_ok hk z, hr⟩
  | box a =>
    simp only [opK, kev_eq] at hr
    split at hr
    · rename_i cs hcs
      simp only [KH.alloc_eq] at hr
      exact ⟨_, _, by simp [boxv, hcs, hp_len hk], KH.alloc'_ok hk cs, hr⟩
    · cases hr
  | build zero ps =>
    simp only [opK] at hr
    obtain ⟨cs, h1, hr⟩ := fillsK_eq hr
    rw [vsH_eq] at hr
    exact ⟨_, h, by simp [h1], hk, hr⟩
  | buildS z n zero ps =>
    simp only [opK] at hr
    obtain ⟨cs, h1, hr⟩ := fillsK_eq hr
    simp only [KH.alloc_eq] at hr
    exact ⟨_, _, by rw [opE_buildS, h1]; simp [hp_len hk], KH.alloc'_ok hk cs, hr⟩
  | load sc n a =>
    simp only [opK, kev_eq] at hr
    split at hr
    · rename_i cs hl
      obtain ⟨v, h1, hr⟩ := mkK_eq hr
      exact ⟨v, h, by simp [ldv, loadK_eq hk hl, h1], hk, hr⟩
    · cases hr
  | store n a y =>
    simp only [opK, kev_eq] at hr
    split at hr
    · rename_i xs hxs
      split at hr
      · rename_i hc
        simp only [Bool.and_eq_true, beq_iff', blt_iff] at hc
        split at hr
        · rename_i b o ha
          rw [KH.get_eq hk] at hr
          split at hr
          · rename_i cs hcs
            rw [putK_eq] at hr
            split at hr
            · rename_i cs' hp
              simp only [KH.set_eq] at hr
              refine ⟨_, _, ?_, KH.put'_ok hk, hr⟩
              simp only [opE_store, stv, hxs, hc, and_self, if_true, ha, storeAt, Go.Proofs.YtmnfjejphmmddaaGreat.get_eq, hcs, hp, Option.map_some, hput hk hcs]
            · cases hr
          · cases hr
        · cases hr
      · cases hr
    · cases hr
  | nilchk a =>
    simp only [opK, kev_eq] at hr
    split at hr
    · rename_i ha; exact ⟨_, h, by simp [opE, ha], hk, hr⟩
    · rename_i ha; exact ⟨_, h, by simp [opE, ha], hk, hr⟩
    · cases hr
  | bin op a b =>
    simp only [opK, kev_eq] at hr
    split at hr
    · rename_i d hd
      rw [DF_eq] at hr
      exact ⟨_, h, by simp [binDK_eq hd], hk, hr⟩
    · cases hr
  | eq q neg a b =>
    simp only [opK, kev_eq] at hr
    split at hr
    · rename_i t ht
      refine ⟨.d (.bool (t != neg)), h, by simp [eqv, valEqK_eq ht], hk, ?_⟩
      cases t <;> cases neg <;> exact hr
    · cases hr
  | un op a =>
    simp only [opK, kev_eq] at hr
    split at hr
    · rename_i d hd
      rw [DF_eq] at hr
      exact ⟨_, h, by simp [hd], hk, hr⟩
    · cases hr
  | convI t a =>
    simp only [opK, kev_eq] at hr
    split at hr
    · rename_i k' n ha
      simp only [iF_eq, wrapK_eq] at hr
      exact ⟨_, h, by simp [opE, ha], hk, hr⟩
    · cases hr
  | convBS a =>
    simp only [opK, kev_eq] at hr
    split at hr
    · cases hr
    · rename_i v hv
      obtain ⟨n, cs, h1, hr⟩ := rowK_eq hk hr
      split at hr
      · rename_i l hl
        rw [sF_eq] at hr
        refine ⟨_, h, ?_, hk, hr⟩
        simp only [opE]
        rw [h1]
        exact congrArg (fun o : Option (List UInt8) => match o with | some l => some (V.d (.str ⟨l.toArray⟩), h.hp) | none => none) (bytesOf_eq hl)
      · cases hr
  | convSB a =>
    simp only [opK, kev_eq] at hr
    split at hr
    · rename_i s ha
      split at hr
      · cases hr
      · rename_i hle
        rw [ble_iff] at hle
        simp only [KH.alloc_eq, nf_eq] at hr
        have h40 : (2 : Nat) ^ 40 = 1099511627776 := by decide
        have hsz : s.size ≤ 2 ^ 40 := by rw [h40]; exact hle
        refine ⟨_, _, ?_, KH.alloc'_ok hk _, hr⟩
        simp only [opE, ha, if_pos hsz, bytes_toList, KH.alloc'_hp, size_eq, hp_len hk]
        rfl
    · cases hr
  | convSS a =>
    simp only [opK, kev_eq] at hr
    split at hr
    · rename_i s ha; exact ⟨_, h, by simp [opE, ha], hk, hr⟩
    · cases hr
  | fldA a off =>
    simp only [opK, kev_eq] at hr
    split at hr
    · rename_i b o ha
      rw [nf_eq] at hr
      exact ⟨_, h, by simp [ha], hk, hr⟩
    · cases hr
  | fld sc a off n =>
    simp only [opK, kev_eq] at hr
    split at hr
    · rename_i cs ha
      rw [subK_eq] at hr
      split at hr
      · rename_i l hl
        obtain ⟨v, h1, hr⟩ := mkK_eq hr
        exact ⟨v, h, by simp [ha, hl, h1], hk, hr⟩
      · cases hr
    · cases hr
  | idxA arr z a i =>
    simp only [opK, kev_eq] at hr
    obtain ⟨t, n, hi, hr⟩ := natOf_eq hr
    split at hr
    · split at hr
      · rename_i b o len cap z' ha
        split at hr
        · rename_i hc
          simp only [Bool.and_eq_true, beq_iff', blt_iff] at hc
          rw [nf_eq] at hr
          refine ⟨_, h, ?_, hk, hr⟩
          simp only [opE_idxA, idxv, hi, ha]
          rw [if_pos ⟨by omega, by omega, hc.2⟩]; simp
        · cases hr
      · cases hr
    · rename_i m
      split at hr
      · rename_i b o ha
        split at hr
        · rename_i hc
          have hc := blt_iff.1 hc
          rw [nf_eq] at hr
          refine ⟨_, h, ?_, hk, hr⟩
          simp only [opE_idxA, idxv, hi, ha]
          rw [if_pos ⟨by omega, by omega⟩]; simp
        · cases hr
      · cases hr
  | idx sc n z a i =>
    simp only [opK, kev_eq] at hr
    obtain ⟨t, m, hi, hr⟩ := natOf_eq hr
    split at hr
    · rename_i cs ha
      split at hr
      · rename_i hc
        have hc := blt_iff.1 hc
        rw [subK_eq] at hr
        split at hr
        · rename_i l hl
          obtain ⟨v, h1, hr⟩ := mkK_eq hr
          refine ⟨v, h, ?_, hk, hr⟩
          simp only [opE, hi, ha]
          rw [if_pos ⟨by omega, by omega⟩]
          simp [hl, h1]
        · cases hr
      · cases hr
    · cases hr
  | idxS a i =>
    simp only [opK, kev_eq] at hr
    obtain ⟨t, m, hi, hr⟩ := natOf_eq hr
    split at hr
    · rename_i s ha
      rw [nthK_eq] at hr
      split at hr
      · rename_i b hb
        rw [nf_eq] at hr
        refine ⟨_, h, ?_, hk, hr⟩
        simp only [opE, hi, ha, bytes_toList]
        rw [if_pos (by omega)]
        simp [hb]
      · cases hr
    · cases hr
  | slc kd z a lo hi mx =>
    simp only [opK, kev_eq] at hr
    obtain ⟨v, h1, hr⟩ := sliceK_eq hk hr
    exact ⟨v, h, by simp [h1], hk, hr⟩
  | mkfn f caps =>
    simp only [opK, kevs_eq] at hr
    split at hr
    · rename_i hc; exact ⟨_, h, by simp only [opE_mkfn, if_pos hc], hk, hr⟩
    · cases hr
  | mksl z bytes zero len cap =>
    simp only [opK, kev_eq] at hr
    obtain ⟨t, n, hl, hr1⟩ := natOfK_eq hr
    obtain ⟨t2, m, hcp, hr2⟩ := natOfK_eq hr1
    clear hr hr1
    split at hr2
    · rename_i hc
      simp only [Bool.and_eq_true, ble_iff] at hc
      simp only [KH.alloc_eq] at hr2
      split at hr2
      · rename_i hk1
        simp only [Bool.and_eq_true] at hk1
        have e1 := kindEq_iff.1 hk1.1
        have e2 := kindEq_iff.1 hk1.2
        subst e1 e2
        have h30 : (2 : Int) ^ 30 = 1073741824 := by decide
        have h12 : (2 : Nat) ^ 12 = 4096 := by decide
        refine ⟨_, _, ?_, KH.alloc'_ok hk _, hr2⟩
        simp only [opE, hl, hcp]
        rw [if_pos ⟨by omega, by omega, by omega, by omega⟩]
        simp [hp_len hk]
      · cases hr2
    · cases hr2
  | ext a i =>
    simp only [opK, kev_eq] at hr
    split at hr
    · rename_i vs ha
      rw [nthK_eq] at hr
      split at hr
      · rename_i v hv
        rw [vH_eq] at hr
        exact ⟨v, h, by simp [ha, hv], hk, hr⟩
      · cases hr
    · cases hr
  | call f args =>
    simp only [opK, kev_eq, kevs_eq] at hr
    split at hr
    · rename_i hc
      split at hr
      · rename_i f' caps hf
        obtain ⟨v, kh', h1, h2, h3⟩ := hC _ _ _ _ _ hk hr
        exact ⟨v, kh', by simp only [opE_call, if_pos hc, hf, callM_fn]; exact h1, h2, h3⟩
      · cases hr
    · cases hr
  | app z bytes s a =>
    simp only [opK, kev_eq] at hr
    obtain ⟨m, xs, h1, hr⟩ := rowK_eq hk hr
    split at hr
    · cases hr
    · rename_i hz
      rw [nf_eq] at hr
      have hz' : z ≠ 0 := fun q => by subst q; simp at hz
      obtain ⟨v, kh', h2, h3, h4⟩ := appK_eq hk hz' hr
      exact ⟨v, kh', by simp [appv, h1, h2], h3, h4⟩
  | len st a =>
    simp only [opK, kev_eq] at hr
    split at hr
    · rename_i ha; rw [nf_eq] at hr; exact ⟨_, h, by simp [ha], hk, hr⟩
    · rename_i ha; exact ⟨_, h, by simp [ha], hk, hr⟩
    · rename_i s ha; rw [nf_eq] at hr; exact ⟨_, h, by simp [ha], hk, hr⟩
    · cases hr
  | copy z a b =>
    simp only [opK, kev_eq] at hr
    obtain ⟨m, xs, h1, hr⟩ := rowK_eq hk hr
    split at hr
    · rename_i b' o len cap z' ha
      split at hr
      · rename_i hz
        rw [beq_iff'] at hz
        subst hz
        rw [KH.get_eq hk] at hr
        split at hr
        · rename_i cs hcs
          rw [nf_eq] at hr
          split at hr
          · rename_i hmn
            have hmn' : min m len * z' = 0 := by simpa using hmn
            refine ⟨_, h, ?_, hk, hr⟩
            simp only [opE, h1, ha, if_true, Go.Proofs.YtmnfjejphmmddaaGreat.get_eq, hcs, if_pos hmn']
            rfl
          · rename_i n hmn
            rw [putK_eq] at hr
            split at hr
            · rename_i cs' hp
              simp only [KH.set_eq] at hr
              have hne : ¬ (min m len * z' = 0) := fun q => by
                have : Nat.min m len * z' = 0 := q
                omega
              refine ⟨_, _, ?_, KH.put'_ok hk, hr⟩
              have hp' : Go.Proofs.YtmnfjejphmmddaaGreat.put cs o (xs.take (min m len * z')) = some cs' := hp
              simp only [opE, h1, ha, if_true, Go.Proofs.YtmnfjejphmmddaaGreat.get_eq, hcs, if_neg hne, hp', hput hk hcs]
              rfl
            · cases hr
        · cases hr
      · cases hr
    · cases hr
  | clear z zero a =>
    simp only [opK, kev_eq] at hr
    split at hr
    · rename_i b o len cap z' ha
      split at hr
      · rename_i hz
        rw [beq_iff'] at hz
        subst hz
        rw [KH.get_eq hk] at hr
        split at hr
        · rename_i cs hcs
          split at hr
          · rename_i hl
            refine ⟨_, h, ?_, hk, hr⟩
            simp only [opE, ha, if_true, Go.Proofs.YtmnfjejphmmddaaGreat.get_eq, hcs, if_pos hl]
          · rename_i n hl
            rw [putK_eq] at hr
            split at hr
            · rename_i cs' hp
              simp only [KH.set_eq] at hr
              refine ⟨_, _, ?_, KH.put'_ok hk, hr⟩
              simp only [opE, ha, if_true, Go.Proofs.YtmnfjejphmmddaaGreat.get_eq, hcs, if_neg (show ¬ (len * z' = 0) by omega), hp, hput hk hcs]
            · cases hr
        · cases hr
      · cases hr
    · rename_i ha
      exact ⟨_, h, by simp [opE, ha], hk, hr⟩
    · cases hr
  | minmax mx xs =>
    simp only [opK, kevs_eq] at hr
    split at hr
    · rename_i hc
      split at hr
      · cases hr
      · rename_i y ys hxs
        split at hr
        · rename_i v hv
          rw [vF_eq] at hr
          exact ⟨v, h, by simp only [opE, if_pos hc, hxs, hv], hk, hr⟩
        · cases hr
    · cases hr
  | range a =>
    simp only [opK, kev_eq] at hr
    split at hr
    · rename_i s ha
      rw [nf_eq] at hr
      refine ⟨_, _, ?_, ?_, hr⟩
      · simp only [opE, ha, size_eq, hp_len hk]
        simp [KH.hp]
      · simpa [KH.ok] using hk
    · cases hr
  | next a =>
    simp only [opK, kev_eq] at hr
    split at hr
    · rename_i b ha
      split at hr
      · rename_i hb
        have hb := blt_iff.1 hb
        have hg : h.bs[h.n - 1 - b]? = h.hp.bs[b]? := by
          simp only [KH.hp]
          rw [List.getElem?_reverse (by rw [← hk]; exact hb), ← hk]
        rw [nthK_eq, hg] at hr
        split at hr
        · rename_i s pos hbk
          split at hr
          · rename_i hlt
            have hlt : pos < s.size := blt_iff.1 hlt
            generalize hd : Utf8.decode s pos = cw at hr
            obtain ⟨c, w⟩ := cw
            simp only [iF_eq, nf_eq, KH.put_eq] at hr
            refine ⟨_, _, ?_, KH.put'_ok hk (b := b) (x := .iter s (pos + w)), hr⟩
            rw [KH.put'_hp hk hb]
            simp only [opE, ha, hbk, if_pos hlt, hd]
            rfl
          · rename_i hlt
            rw [blt_eq] at hlt
            have hlt : ¬ pos < s.size := by simpa using hlt
            exact ⟨_, h, by simp only [opE, ha, hbk, if_neg hlt], hk, hr⟩
        · cases hr
      · cases hr
    · cases hr
end
end Go.Proofs.YtmnfjejphmmddaaGreat
