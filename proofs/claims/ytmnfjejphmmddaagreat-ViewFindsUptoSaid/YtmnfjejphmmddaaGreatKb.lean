/-
  What the machine for closed runs finds, the reading answers: numbers, strings, rows, memory.
-/
import Derived.Test.YtmnfjejphmmddaaGreatKa
import Derived.Test.YtmnfjejphmmddaaGreatEq
set_option linter.unusedVariables false
set_option linter.unusedSimpArgs false
namespace Go.Proofs.YtmnfjejphmmddaaGreat
section
variable {β : Type}
@[simp] theorem nf_eq (n : Nat) (k : Nat → β) : nf n k = k n := by cases n <;> rfl
@[simp] theorem iF_eq (n : Int) (k : Int → β) : iF n k = k n := by cases n <;> simp [iF]
@[simp] theorem bF_eq (n : Bool) (k : Bool → β) : bF n k = k n := by cases n <;> rfl
theorem lF_eq {α : Type} {f : α → (α → β) → β} (hf : ∀ x k, f x k = k x) (l : List α) (k : List α → β) : lF f l k = k l := by
  induction l generalizing k with
  | nil => rfl
  | cons x l ih =>
    have : lF f (x :: l) k = f x fun x => lF f l fun l => k (x :: l) := rfl
    rw [this, hf, ih]
@[simp] theorem u8F_eq (b : UInt8) (k : UInt8 → β) : u8F b k = k b := by simp [u8F]
@[simp] theorem sF_eq (s : ByteArray) (k : ByteArray → β) : sF s k = k s := by unfold sF; rw [lF_eq u8F_eq]
@[simp] theorem DF_eq (d : D) (k : D → β) : DF d k = k d := by
  cases d <;> simp [DF]
  rename_i nl es; cases es <;> rfl
@[simp] theorem oF_eq (o : Option Nat) (k : Option Nat → β) : oF o k = k o := by cases o <;> simp [oF]
@[simp] theorem vH_eq (v : V) (k : V → β) : vH v k = k v := by cases v <;> rfl
@[simp] theorem vsH_eq (l : List V) (k : List V → β) : vsH l k = k l := lF_eq vH_eq l k
@[simp] theorem vF_eq (v : V) (k : V → β) : vF v k = k v := by cases v <;> simp [vF]
@[simp] theorem vsF_eq (l : List V) (k : List V → β) : vsF l k = k l := lF_eq vF_eq l k
theorem kget_eq (l : KE) (i : Nat) : KE.get l i = EA.get l i := by
  induction l with
  | nil => rfl
  | cons p l ih =>
    obtain ⟨j, v⟩ := p
    have : KE.get ((j, v) :: l) i = Bool.rec (KE.get l i) v (Nat.beq j i) := rfl
    rw [this, get_cons]
    by_cases h : j = i
    · subst h; simp
    · have : Nat.beq j i = false := by
        cases hx : Nat.beq j i with
        | false => rfl
        | true => exact absurd (Nat.eq_of_beq_eq_true hx) h
      rw [this, if_neg h, ih]
@[simp] theorem kev_eq (e : KE) (x : X) (k : V → β) : x.kev e k = k (X.ea e x) := by
  cases x with
  | c v => rfl
  | t i => simp [X.kev, kget_eq]
theorem kevs_eq (e : KE) (l : List X) (k : List V → Option β) : kevs e l k = if l.all (fun x => okV (X.ea e x)) = true then k (l.map (X.ea e)) else none := by
  induction l generalizing k with
  | nil => rfl
  | cons x l ih =>
    have : kevs e (x :: l) k = x.kev e fun v => match v with
      | .undef => none
      | v => kevs e l fun l => k (v :: l) := rfl
    rw [this, kev_eq]
    simp only [List.all_cons, List.map_cons, Bool.and_eq_true]
    cases hv : X.ea e x <;> simp [ih, okV]
@[simp] theorem keepK_eq (e : KE) (l : List Nat) (k : KE → β) : keepK e l k = k (keepA l e) := by
  induction l generalizing k with
  | nil => rfl
  | cons i l ih =>
    have : keepK e (i :: l) k = vH (KE.get e i) fun v => keepK e l fun e' => k ((i, v) :: e') := rfl
    rw [this, vH_eq, ih, kget_eq]; rfl
end

def KH.ok (h : KH) : Prop := h.n = h.bs.length
def KH.hp (h : KH) : Hp := ⟨h.bs.reverse, h.low⟩
theorem nthK_eq {α : Type} : ∀ (l : List α) (n : Nat), nthK l n = l[n]?
  | [], n => rfl
  | x :: l, 0 => rfl
  | x :: l, n + 1 => by simp [nthK, nthK_eq l n]
@[simp] theorem hp_len {h : KH} (hk : h.ok) : h.hp.bs.length = h.n := by simp [KH.hp, hk.symm]
@[simp] theorem hp_low {h : KH} : h.hp.low = h.low := rfl
theorem blt_iff {a b : Nat} : Nat.blt a b = true ↔ a < b := by simp [Nat.blt, Nat.ble_eq]; omega
theorem KH.get_eq {h : KH} (hk : h.ok) (b : Nat) : h.get b = getB h.hp.bs b := by
  unfold KH.get getB KH.hp
  by_cases hb : b < h.n
  · rw [blt_iff.2 hb]
    simp only [nthK_eq]
    have h1 : b < h.bs.reverse.length := by simp; rw [← hk]; exact hb
    rw [List.getElem?_reverse (by rw [← hk]; exact hb), ← hk]
    rfl
  · have h1 : Nat.blt b h.n = false := by
      cases hx : Nat.blt b h.n with
      | false => rfl
      | true => exact absurd (blt_iff.1 hx) hb
    rw [h1, List.getElem?_eq_none (by simp; rw [← hk]; omega)]
def KH.alloc' (h : KH) (cs : List V) : KH := ⟨h.n + 1, .cells cs :: h.bs, h.low⟩
theorem KH.alloc'_ok {h : KH} (hk : h.ok) (cs : List V) : (h.alloc' cs).ok := by simpa [KH.ok, KH.alloc'] using hk
@[simp] theorem KH.alloc'_hp {h : KH} (cs : List V) : (h.alloc' cs).hp = h.hp.alloc cs := by simp [KH.hp, KH.alloc', Hp.alloc]
@[simp] theorem KH.alloc_eq {β : Type} {h : KH} {cs : List V} {k : KH → β} : h.alloc cs k = k (h.alloc' cs) := by simp [KH.alloc, KH.alloc']
@[simp] theorem minK_eq {β : Type} (a b : Nat) (k : Nat → β) : minK a b k = k (min a b) := by
  unfold minK
  cases h : Nat.ble a b with
  | true =>
    rw [Nat.ble_eq] at h
    simp [Nat.min_eq_left h]
  | false =>
    have : ¬ a ≤ b := fun q => by rw [Nat.ble_eq_true_of_le q] at h; cases h
    simp [Nat.min_eq_right (show b ≤ a by omega)]
theorem setNth_eq {α β : Type} (x : α) : ∀ (l : List α) (n : Nat) (k : List α → β), setNth x l n k = k (l.set n x)
  | [], n, k => by cases n <;> rfl
  | y :: l, 0, k => rfl
  | y :: l, n + 1, k => by simp [setNth, setNth_eq x l n]
def KH.put' (h : KH) (b : Nat) (x : Blk) : KH := ⟨h.n, h.bs.set (h.n - 1 - b) x, min h.low b⟩
@[simp] theorem KH.put_eq {β : Type} {h : KH} {b : Nat} {x : Blk} {k : KH → β} : h.put b x k = k (h.put' b x) := by simp [KH.put, KH.put', setNth_eq]
@[simp] theorem KH.set_eq {β : Type} {h : KH} {b : Nat} {cs : List V} {k : KH → β} : h.set b cs k = k (h.put' b (.cells cs)) := by simp [KH.set]
theorem KH.put'_ok {h : KH} (hk : h.ok) {b : Nat} {x : Blk} : (h.put' b x).ok := by simpa [KH.ok, KH.put'] using hk
theorem KH.put'_hp {h : KH} (hk : h.ok) {b : Nat} {x : Blk} (hb : b < h.n) : (h.put' b x).hp = ⟨h.hp.bs.set b x, min h.hp.low b⟩ := by
  simp only [KH.hp, KH.put']
  congr 1
  apply List.ext_getElem?
  intro i
  by_cases hi : i < h.n
  · have h1 : i < h.bs.length := by rw [← hk]; exact hi
    have h2 : b < h.bs.length := by rw [← hk]; exact hb
    rw [List.getElem?_reverse (by simpa using h1), List.getElem?_set, List.getElem?_set, List.getElem?_reverse h1]
    simp only [List.length_set, List.length_reverse, hk.symm, hb, if_true]
    rw [hk]
    by_cases hbi : b = i
    · subst hbi
      rw [if_pos rfl, if_pos rfl, if_pos (by omega)]
    · rw [if_neg (by omega), if_neg hbi]
  · rw [List.getElem?_eq_none (by simp; rw [← hk]; omega), List.getElem?_eq_none (by simp; rw [← hk]; omega)]

/-! Numbers, strings. -/
theorem modK_eq (k : IntKind) : (modK k : Int) = 2 ^ k.bits := by cases k <;> rfl
theorem ble_iff {a b : Nat} : Nat.ble a b = true ↔ a ≤ b := by rw [Nat.ble_eq]
theorem ble_f {a b : Nat} : Nat.ble a b = false ↔ b < a := by
  cases h : Nat.ble a b with
  | true => rw [Nat.ble_eq] at h; simp; omega
  | false =>
    have : ¬ a ≤ b := fun q => by rw [Nat.ble_eq_true_of_le q] at h; cases h
    simp; omega
theorem wrapK_eq (k : IntKind) (n : Int) : wrapK k n = k.wrap n := by
  have key : ∀ (r : Nat), r < modK k → ∀ n : Int, n % (modK k : Int) = r → wrapM k r = k.wrap n := by
    intro r hr n hn
    unfold wrapM IntKind.wrap
    rw [← modK_eq, hn]
    cases h : Nat.ble (halfK k) r with
    | true =>
      rw [ble_iff] at h
      cases k <;> simp [halfK, modK, IntKind.signed, IntKind.bits] at h hr ⊢ <;> omega
    | false =>
      rw [ble_f] at h
      cases k <;> simp [halfK, modK, IntKind.signed, IntKind.bits] at h hr ⊢ <;> omega
  have hm : 0 < modK k := by cases k <;> decide
  cases n with
  | ofNat m =>
    exact key (m % modK k) (Nat.mod_lt _ hm) _ (by simp)
  | negSucc m =>
    have h1 := Nat.mod_lt m hm
    refine key (modK k - 1 - m % modK k) (by omega) _ ?_
    have h2 := Nat.div_add_mod m (modK k)
    rw [Int.negSucc_eq]
    generalize modK k = M at *
    have h3 : (-((m : Int) + 1)) = ((M - 1 - m % M : Nat) : Int) + (M : Int) * (-((m / M : Nat) : Int) - 1) := by
      have : (m : Int) = (M : Int) * ((m / M : Nat) : Int) + ((m % M : Nat) : Int) := by exact_mod_cast h2.symm
      have h4 : ((M - 1 - m % M : Nat) : Int) = (M : Int) - 1 - ((m % M : Nat) : Int) := by omega
      rw [h4, Int.mul_sub, Int.mul_neg]
      omega
    rw [h3, Int.add_mul_emod_self_left]
    exact Int.emod_eq_of_lt (by omega) (by omega)
theorem eqI_eq (a b : Int) : eqI a b = (a == b) := by
  cases a <;> cases b <;> simp [eqI] <;> rename_i m n
  · cases h : Nat.beq m n with
    | true => rw [Nat.eq_of_beq_eq_true h]; simp
    | false => symm; simp; have := Nat.ne_of_beq_eq_false h; omega
  · cases h : Nat.beq m n with
    | true => rw [Nat.eq_of_beq_eq_true h]; simp
    | false => symm; simp; have := Nat.ne_of_beq_eq_false h; omega
theorem blt_eq (a b : Nat) : Nat.blt a b = decide (a < b) := by
  by_cases h : a < b
  · simp [h, blt_iff.2 h]
  · simp only [h, decide_false]
    cases hx : Nat.blt a b with
    | false => rfl
    | true => exact absurd (blt_iff.1 hx) h
theorem ltK_eq (a b : Int) : ltK a b = decide (a < b) := by
  cases a <;> cases b <;> simp [ltK, blt_eq] <;> omega
theorem kindEq_iff {a b : IntKind} : kindEq a b = true ↔ a = b := by cases a <;> cases b <;> simp [kindEq]
theorem binIK_eq {op : BinOp} {k : IntKind} {a b : Int} {d : D} (h : binIK op k a b = some d) : binInt op k a b = some d := by
  cases op <;> simp only [binIK, wrapK_eq, eqI_eq, ltK_eq, binInt] at h ⊢ <;> first
  | exact h
  | (rw [← h]; congr 2; first | rfl | simp; done | (simp only [decide_eq_decide]; omega) | (rw [← decide_not]; congr 1; simp; omega) | (rw [Bool.eq_iff_iff]; simp; done) | (rw [Bool.eq_iff_iff]; simp; omega))
theorem eqBs_eq : ∀ (a b : List UInt8), eqBs a b = (a == b)
  | [], [] => rfl
  | [], _ :: _ => rfl
  | _ :: _, [] => rfl
  | x :: a, y :: b => by
    simp only [eqBs]
    cases h : Nat.beq x.toNat y.toNat with
    | true =>
      have : x = y := UInt8.toNat_inj.1 (Nat.eq_of_beq_eq_true h)
      subst this
      simp [eqBs_eq a b]
    | false =>
      have : ¬ x = y := fun q => by subst q; simp at h
      symm
      simp [this]
theorem eqBs_s (a b : ByteArray) : eqBs a.data.toList b.data.toList = (a.toList == b.toList) := by rw [eqBs_eq, bytes_toList, bytes_toList]
theorem binSK_eq {op : BinOp} {a b : ByteArray} {d : D} (h : binSK op a b = some d) : binStr op a b = some d := by
  cases op <;> simp only [binSK, eqBs_s] at h <;> first
  | (cases h; done)
  | exact h
  | (cases h; rfl)
  | (split at h
     · rename_i hle
       rw [ble_iff] at hle
       simp only [binStr]
       have h40 : (2 : Nat) ^ 40 = 1099511627776 := by decide
       have hsz : a.size + b.size ≤ 2 ^ 40 := by rw [h40]; exact hle
       rw [if_pos hsz, ← h]
       congr 2
     · cases h)
theorem binDK_eq {op : BinOp} {x y : V} {d : D} (h : binDK op x y = some d) : binD op x y = some d := by
  unfold binDK at h
  split at h
  · split at h
    · rename_i k a k' b
      split at h
      · exact h
      · rename_i hs
        split at h
        · rename_i hk
          have := kindEq_iff.1 hk
          subst this
          have := binIK_eq h
          cases op <;> first | (cases hs; done) | (simp only [binD, if_true]; exact this)
        · cases h
    · cases h
  · split at h
    · have := binSK_eq h
      cases op <;> first | exact this | (simp only [binD]; exact this) | (simp [binSK] at h)
    · cases h
  · cases h
theorem scEqK_eq {k : EK} {a b : D} {t : Bool} (h : scEqK k a b = some t) : scEq k a b = some t := by
  unfold scEqK at h
  split at h
  · rename_i a b
    cases a <;> cases b <;> exact h
  · split at h
    · rename_i h1 h2
      have h1 := kindEq_iff.1 h1; have h2 := kindEq_iff.1 h2
      subst h1 h2
      simp only [scEq, and_self, if_true, ← eqI_eq]; exact h
    · cases h
  · simp only [scEq, ← eqBs_s]; exact h
  · cases h
theorem cellsEqK_eq : ∀ {ks : List EK} {xs ys : List V} {t : Bool}, cellsEqK ks xs ys = some t → cellsEq ks xs ys = some t
  | [], [], [], t, h => h
  | k :: ks, .d a :: xs, .d b :: ys, t, h => by
    simp only [cellsEqK] at h
    split at h
    · rename_i r hr
      split at h
      · rename_i u hu
        simp only [cellsEq, scEqK_eq hr, cellsEqK_eq hu]
        rw [← h]
        cases r <;> rfl
      · cases h
    · cases h
  | [], [], _ :: _, _, h | [], _ :: _, _, _, h => by simp [cellsEqK] at h
  | _ :: _, [], _, _, h => by simp [cellsEqK] at h
  | _ :: _, .d _ :: _, [], _, h => by simp [cellsEqK] at h
  | _ :: _, .ptr _ _ :: _, _, _, h | _ :: _, .eptr _ _ :: _, _, _, h | _ :: _, .row _ _ _ _ _ :: _, _, _, h | _ :: _, .fn _ _ :: _, _, _, h | _ :: _, .agg _ :: _, _, _, h | _ :: _, .tup _ :: _, _, _, h | _ :: _, .undef :: _, _, _, h => by simp [cellsEqK] at h
  | _ :: _, .d _ :: _, .ptr _ _ :: _, _, h | _ :: _, .d _ :: _, .eptr _ _ :: _, _, h | _ :: _, .d _ :: _, .row _ _ _ _ _ :: _, _, h | _ :: _, .d _ :: _, .fn _ _ :: _, _, h | _ :: _, .d _ :: _, .agg _ :: _, _, h | _ :: _, .d _ :: _, .tup _ :: _, _, h | _ :: _, .d _ :: _, .undef :: _, _, h => by simp [cellsEqK] at h
theorem valEqK_eq {q : EQ} {a b : V} {t : Bool} (h : valEqK q a b = some t) : valEq q a b = some t := by
  unfold valEqK at h
  split at h
  · exact scEqK_eq h
  · exact cellsEqK_eq h
  · exact h
end Go.Proofs.YtmnfjejphmmddaaGreat
