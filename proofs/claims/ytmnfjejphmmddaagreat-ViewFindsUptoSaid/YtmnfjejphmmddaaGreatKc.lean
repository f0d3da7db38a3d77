/-
  What the machine for closed runs finds, the reading answers: operations.
-/
import Derived.Test.YtmnfjejphmmddaaGreatKb
set_option linter.unusedVariables false
set_option linter.unusedSimpArgs false
namespace Go.Proofs.YtmnfjejphmmddaaGreat
section
variable {α : Type}
theorem takeK_eq : ∀ (n : Nat) (l : List α), takeK n l = if n ≤ l.length then some (l.take n) else none
  | 0, l => by simp [takeK]
  | n + 1, [] => by simp [takeK]
  | n + 1, x :: l => by
    simp only [takeK, takeK_eq n l, List.length_cons]
    by_cases h : n ≤ l.length
    · rw [if_pos h, if_pos (by omega)]; rfl
    · rw [if_neg h, if_neg (by omega)]
theorem dropK_eq : ∀ (n : Nat) (l : List α), dropK n l = if n ≤ l.length then some (l.drop n) else none
  | 0, l => by simp [dropK]
  | n + 1, [] => by simp [dropK]
  | n + 1, x :: l => by
    simp only [dropK, dropK_eq n l, List.length_cons]
    by_cases h : n ≤ l.length
    · rw [if_pos h, if_pos (by omega)]; rfl
    · rw [if_neg h, if_neg (by omega)]
theorem subK_eq (cs : List α) (o n : Nat) : subK cs o n = sub cs o n := by
  unfold subK sub
  rw [dropK_eq]
  by_cases h : o ≤ cs.length
  · rw [if_pos h]
    dsimp only
    rw [takeK_eq, List.length_drop]
    by_cases h2 : o + n ≤ cs.length
    · rw [if_pos h2, if_pos (by omega)]
    · rw [if_neg h2, if_neg (by omega)]
  · rw [if_neg h, if_neg (by omega)]
theorem overK_eq : ∀ (l xs : List α), overK l xs = if xs.length ≤ l.length then some (xs ++ l.drop xs.length) else none
  | l, [] => by cases l <;> simp [overK]
  | [], x :: xs => by simp [overK]
  | y :: l, x :: xs => by
    simp only [overK, overK_eq l xs, List.length_cons]
    by_cases h : xs.length ≤ l.length
    · rw [if_pos h, if_pos (by omega)]; rfl
    · rw [if_neg h, if_neg (by omega)]
theorem putK_eq : ∀ (l : List α) (o : Nat) (xs : List α), putK l o xs = Go.Proofs.YtmnfjejphmmddaaGreat.put l o xs
  | l, 0, xs => by
    have : putK l 0 xs = overK l xs := by cases l <;> rfl
    rw [this, overK_eq, put_zero]
  | [], o + 1, xs => by
    have : ¬ (o + 1 + xs.length ≤ 0) := by omega
    simp [putK, Go.Proofs.YtmnfjejphmmddaaGreat.put]
  | y :: l, o + 1, xs => by
    simp only [putK, putK_eq l o xs, put_succ]
    cases Go.Proofs.YtmnfjejphmmddaaGreat.put l o xs <;> rfl
end
theorem beq_iff' {a b : Nat} : Nat.beq a b = true ↔ a = b := ⟨Nat.eq_of_beq_eq_true, fun h => by subst h; simp⟩
section
variable {β : Type}
theorem fillsK_eq {e : KE} : ∀ {ps : List (Nat × Nat × X)} {cs : List V} {k : List V → Option β} {r : β}, fillsK e cs ps k = some r → ∃ cs', fillsE (X.ea e) cs ps = some cs' ∧ k cs' = some r
  | [], cs, k, r, h => ⟨cs, rfl, h⟩
  | (o, n, x) :: ps, cs, k, r, h => by
    simp only [fillsK, kev_eq] at h
    simp only [fillsE]
    split at h
    · rename_i xs hxs
      simp only [hxs]
      split at h
      · rename_i hl
        rw [beq_iff'] at hl
        simp only [hl, if_true]
        rw [putK_eq] at h
        split at h
        · rename_i cs' hp
          simp only [hp]
          exact fillsK_eq h
        · cases h
      · cases h
    · cases h
theorem loadK_eq {h : KH} (hk : h.ok) {v : V} {n : Nat} {cs : List V} (hl : loadK h v n = some cs) : loadAt h.hp v n = some cs := by
  unfold loadK at hl
  split at hl
  · rw [KH.get_eq hk] at hl
    simp only [loadAt_ptr, Go.Proofs.YtmnfjejphmmddaaGreat.get_eq]
    split at hl
    · rename_i h1
      rw [subK_eq] at hl
      simp only [h1]; exact hl
    · cases hl
  · cases hl
theorem mkK_eq {sc : Bool} {cs : List V} {k : V → Option β} {r : β} (h : mkK sc cs k = some r) : ∃ v, mk sc cs = some v ∧ k v = some r := by
  unfold mkK at h
  split at h
  · split at h
    · rw [vH_eq] at h; exact ⟨_, rfl, h⟩
    · cases h
  · rw [vsH_eq] at h; exact ⟨_, rfl, h⟩
theorem natOf_eq {v : V} {k : Nat → Option β} {r : β} (h : natOf v k = some r) : ∃ t n, v = .d (.int t (n : Nat)) ∧ k n = some r := by
  unfold natOf at h
  split at h
  · exact ⟨_, _, rfl, h⟩
  · cases h
theorem natOfK_eq {v : V} {k : IntKind → Nat → Option β} {r : β} (h : natOfK v k = some r) : ∃ t n, v = .d (.int t (n : Nat)) ∧ k t n = some r := by
  unfold natOfK at h
  split at h
  · exact ⟨_, _, rfl, h⟩
  · cases h
theorem boundK_eq {e : KE} {x : Option X} {d : Nat} {k : Nat → Option β} {r : β} (h : boundK e x d k = some r) : ∃ n, boundE (X.ea e) x d = some n ∧ k n = some r := by
  unfold boundK at h
  split at h
  · exact ⟨d, rfl, h⟩
  · rename_i x
    rw [kev_eq] at h
    obtain ⟨t, n, h1, h2⟩ := natOf_eq h
    exact ⟨n, by simp [boundE, h1], h2⟩
theorem rowK_eq {h : KH} (hk : h.ok) {v : V} {z : Nat} {k : Nat → List V → Option β} {r : β} (hr : rowK h v z k = some r) : ∃ n cs, rowCells h.hp v z = some (n, cs) ∧ k n cs = some r := by
  unfold rowK at hr
  split at hr
  · exact ⟨0, [], by simp [rowCells], hr⟩
  · rename_i b o len cap z'
    split at hr
    · rename_i hz
      rw [beq_iff'] at hz
      rw [KH.get_eq hk] at hr
      split at hr
      · rename_i cs hc
        rw [subK_eq] at hr
        split at hr
        · rename_i l hl
          exact ⟨len, l, by simp [rowCells, hz, hc, hl], hr⟩
        · cases hr
      · cases hr
    · cases hr
  · rename_i s
    split at hr
    · rename_i hz
      rw [beq_iff'] at hz
      refine ⟨_, _, ?_, hr⟩
      simp only [rowCells, hz, if_true, bytes_toList]
      rfl
    · cases hr
  · cases hr
theorem bytesOf_eq : ∀ {cs : List V} {l : List UInt8}, bytesOf cs = some l → cs.mapM (fun v => match v with | .d (.int .u8 n) => some (UInt8.ofNat n.toNat) | _ => none) = some l
  | [], l, h => by cases h; rfl
  | v :: cs, l, h => by
    unfold bytesOf at h
    split at h
    · rename_i q; cases q
    · rename_i n l' q
      cases q
      split at h
      · rename_i r hr
        cases h
        simp [List.mapM_cons, bytesOf_eq hr]
      · cases h
    · cases h
/-- Calls of the machine are calls of the reading. -/
def SimC (C : Calls') (CK : CallsK β) : Prop := ∀ f args kh k r, KH.ok kh → CK f args kh k = some r → ∃ v kh', C f args kh.hp = some (v, kh'.hp) ∧ kh'.ok ∧ k v kh' = some r

theorem appK_eq {h : KH} (hk : h.ok) {z bytes m : Nat} {s : V} {xs : List V} {k : V → KH → Option β} {r : β} (hz : z ≠ 0) (hr : appK h z bytes s m xs k = some r) :
    ∃ v kh', appendAt h.hp z bytes s m xs = some (v, kh'.hp) ∧ kh'.ok ∧ k v kh' = some r := by
  unfold appK at hr
  split at hr
  · split at hr
    · exact ⟨_, h, by simp [appendAt], hk, hr⟩
    · rename_i m
      split at hr
      · rename_i hro
        simp only [KH.alloc_eq, nf_eq] at hr
        refine ⟨_, _, ?_, KH.alloc'_ok hk xs, hr⟩
        simp [appendAt, hz, hro, hp_len hk]
      · cases hr
  · rename_i b o len cap z'
    split at hr
    · cases hr
    · rename_i hzz
      rw [beq_iff'] at hzz
      subst hzz
      split at hr
      · exact ⟨_, h, by simp [appendAt, hz], hk, hr⟩
      · rename_i m
        rw [KH.get_eq hk] at hr
        split at hr
        · cases hr
        · rename_i cs hcs
          have hb : b < h.n := by rw [← hp_len hk]; exact getB_len hcs
          rw [subK_eq] at hr
          split at hr
          · cases hr
          · rename_i old hold
            simp only [nf_eq] at hr
            split at hr
            · cases hr
            · rename_i hro
              split at hr
              · rename_i c
                split at hr
                · rename_i hle
                  rw [ble_iff] at hle
                  rw [putK_eq] at hr
                  split at hr
                  · rename_i cs' hp
                    simp only [KH.set_eq] at hr
                    refine ⟨_, _, ?_, KH.put'_ok hk (b := b) (x := .cells cs'), hr⟩
                    simp [appendAt, hz, hcs, hold, hro, hle, hp, KH.put'_hp hk hb, Hp.set]
                  · cases hr
                · rename_i hle
                  rw [ble_f] at hle
                  simp only [KH.alloc_eq] at hr
                  refine ⟨_, _, ?_, KH.alloc'_ok hk _, hr⟩
                  simp [appendAt, hz, hcs, hold, hro, show ¬ (len + (m + 1) ≤ c) by omega, hp_len hk]
              · split at hr
                · split at hr
                  · rename_i hl
                    rw [beq_iff'] at hl
                    simp only [KH.set_eq, KH.alloc_eq] at hr
                    split at hr
                    · rename_i hpos
                      have hpos' := blt_iff.1 hpos
                      refine ⟨_, _, ?_, KH.alloc'_ok (KH.put'_ok hk) _, hr⟩
                      simp [appendAt, hz, hcs, hold, hro, hl, hpos', hp_len hk, KH.put'_hp hk hb, Hp.set]
                    · cases hr
                  · cases hr
                · cases hr
  · split at hr
    · exact ⟨_, h, by simp [appendAt], hk, hr⟩
    · cases hr
  · cases hr
end
end Go.Proofs.YtmnfjejphmmddaaGreat
