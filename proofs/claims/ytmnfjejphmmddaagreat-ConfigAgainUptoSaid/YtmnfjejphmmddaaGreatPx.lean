/-
  The other operations.
-/
import Derived.Test.YtmnfjejphmmddaaGreatPa
import Derived.Laws.IdiomStrings
import Derived.Laws.BytesString
set_option linter.unusedVariables false
set_option linter.unusedSimpArgs false
namespace Go.Proofs.YtmnfjejphmmddaaGreat
open Go.RowKit

section
variable {P : Program} {B : Nat} {ρ : Rh} {h : Hp} {w : World} {e : Env} {a : Act}

abbrev VRx (h : Hp) (ρ : Rh) (w : World) := VR ρ (St ρ w) w
abbrev VRy (ρ : Rh) (w : World) := VR ρ (St ρ w) w

theorem vr_bool {v : Value} {t : Bool} (k : VRy ρ w (.d (.bool t)) v) : v = .bool t := by simpa only [VR, DR] using k
theorem vr_int {v : Value} {q : IntKind} {n : Int} (k : VRy ρ w (.d (.int q n)) v) : v = .int q n := by simpa only [VR, DR] using k
theorem vr_str {v : Value} {s : ByteArray} (k : VRy ρ w (.d (.str s)) v) : v = .string s := by simpa only [VR, DR] using k

theorem bin_run {op : BinOp} (h1 : op ≠ .eql) (h2 : op ≠ .neq) {t : TypeId} {x y : Operand} {u v : Value} {xv yv : V} {d : D} (hx : VRy ρ w xv u) (hy : VRy ρ w yv v) (hb : binD op xv yv = some d) :
    ∃ r, (do eqGuard op t x y u v; binOp op t u v).run P w = .ok r w ∧ DR (St ρ w) w d r := by
  have hg : (eqGuard op t x y u v).run P w = .ok () w := by
    cases op <;> first | exact absurd rfl h1 | exact absurd rfl h2 | rfl
  simp only [Sem.run_bind, hg, Result.andThen_ok]
  unfold binD at hb
  split at hb
  · rw [vr_int hx, vr_int hy]
    split at hb
    · cases hb
    · rename_i hn
      cases hb
      exact ⟨_, by simp only [binOp, Op.shift, if_neg hn]; rfl, by simp only [DR]⟩
  · rw [vr_int hx, vr_int hy]
    split at hb
    · cases hb
    · rename_i hn
      cases hb
      exact ⟨_, by simp only [binOp, Op.shift, if_neg hn]; rfl, by simp only [DR]⟩
  · rw [vr_int hx, vr_int hy]
    split at hb
    · rename_i hk
      subst hk
      cases op <;> simp only [binInt] at hb <;> first
        | exact absurd rfl h1
        | exact absurd rfl h2
        | (cases hb; done)
        | (cases hb; simp only [DR]; refine ⟨_, ?_, rfl⟩; simp only [binOp, ne_eq, not_true_eq_false, if_false, Op.intArith, Op.intBits, Op.intCmp]; rfl)
        | (split at hb
           · cases hb
           · rename_i hn
             cases hb
             simp only [DR]; refine ⟨_, ?_, rfl⟩; simp only [binOp, ne_eq, not_true_eq_false, if_false, Op.intDiv, if_neg hn]; rfl)
    · cases hb
  · rw [vr_str hx, vr_str hy]
    cases op <;> simp only [binStr] at hb <;> first
        | exact absurd rfl h1
        | exact absurd rfl h2
        | (cases hb; done)
        | (cases hb; simp only [DR]; refine ⟨_, ?_, rfl⟩; simp only [binOp, Op.stringOp]; rfl)
        | (split at hb
           · rename_i s1 s2 hn
             cases hb
             simp only [DR]
             refine ⟨_, ?_, rfl⟩
             have hn' : ¬ (9223372036854775807 < (s1.size : Int) + (s2.size : Int)) := by omega
             simp [binOp, Op.stringOp, hn']
           · cases hb)
  · cases hb

theorem un_run {op : UnOp} {u : Value} {xv : V} {d : D} (hx : VRy ρ w xv u) (hb : unD op xv = some d) : ∃ r, (Op.unary op u).run P w = .ok r w ∧ DR (St ρ w) w d r := by
  unfold unD at hb
  split at hb
  · rw [vr_bool hx]; cases hb; exact ⟨_, rfl, by simp only [DR]⟩
  · rw [vr_int hx]; cases hb; exact ⟨_, rfl, by simp only [DR]⟩
  · rw [vr_int hx]; cases hb; exact ⟨_, rfl, by simp only [DR]⟩
  · cases hb

theorem eqi_ptr {t q : TypeId} (d : Nat) (hu : P.underlying t = some (.pointer q)) (p : Option Addr) : (Op.equalIn (d + 1) t (.pointer p) (.pointer none)).run P w = .ok p.isNone w := by
  cases p <;> simp [Op.equalIn, run_underlying hu]
theorem eqi_ptr' {t q : TypeId} (d : Nat) (hu : P.underlying t = some (.pointer q)) (p : Option Addr) : (Op.equalIn (d + 1) t (.pointer none) (.pointer p)).run P w = .ok p.isNone w := by
  cases p <;> simp [Op.equalIn, run_underlying hu]
theorem eqi_sl {t q : TypeId} (d : Nat) (hu : P.underlying t = some (.slice q)) (p : Option Addr) (a b a' b' : Nat) : (Op.equalIn (d + 1) t (.slice p a b) (.slice none a' b')).run P w = .ok p.isNone w := by
  cases p <;> simp [Op.equalIn, run_underlying hu]
theorem eqi_fn {t : TypeId} {a b c} (d : Nat) (hu : P.underlying t = some (.func a b c)) (f : Fn) (x y : Array Value) : (Op.equalIn (d + 1) t (.func f x y) .nilFunc).run P w = .ok false w := by
  simp [Op.equalIn, run_underlying hu]
theorem eqi_fn0 {t : TypeId} {a b c} (d : Nat) (hu : P.underlying t = some (.func a b c)) : (Op.equalIn (d + 1) t .nilFunc .nilFunc).run P w = .ok true w := by
  simp [Op.equalIn, run_underlying hu]
theorem eq_close {t : TypeId} {u v : Value} {b : Bool} (x y : Operand) (neg : Bool) (he : (Op.equalIn (9999 + 1) t u v).run P w = .ok b w) (h1 : binOp .eql t u v = (do pure (.bool (← Op.equal t u v)))) (h2 : binOp .neq t u v = (do pure (.bool (!(← Op.equal t u v)))))
    (hg : ∀ op, (eqGuard op t x y u v).run P w = .ok () w) : (do eqGuard (if neg then .neq else .eql) t x y u v; binOp (if neg then .neq else .eql) t u v).run P w = .ok (.bool (b != neg)) w := by
  have he' : (Op.equal t u v).run P w = .ok b w := he
  cases neg
  · simp [hg, h1, he']
  · simp [hg, h2, he']

theorem eqOf_ptr {t : TypeId} (hk : eqOf P t = some .ptr) : ∃ q, P.underlying t = some (.pointer q) := by
  unfold eqOf at hk
  cases hu : P.underlying t with
  | none => simp [hu] at hk
  | some kd => cases kd <;> simp [hu] at hk <;> exact ⟨_, rfl⟩
theorem eqOf_sl {t : TypeId} (hk : eqOf P t = some .sl) : ∃ q, P.underlying t = some (.slice q) := by
  unfold eqOf at hk
  cases hu : P.underlying t with
  | none => simp [hu] at hk
  | some kd => cases kd <;> simp [hu] at hk <;> exact ⟨_, rfl⟩
theorem eqOf_fn {t : TypeId} (hk : eqOf P t = some .fn) : ∃ a b c, P.underlying t = some (.func a b c) := by
  unfold eqOf at hk
  cases hu : P.underlying t with
  | none => simp [hu] at hk
  | some kd => cases kd <;> simp [hu] at hk <;> exact ⟨_, _, _, rfl⟩

theorem eq_val {k : EQ} {t : TypeId} {xv yv : V} {u v : Value} {b : Bool} (hk : eqOf P t = some k) (hx : VRy ρ w xv u) (hy : VRy ρ w yv v) (hb : valEq k xv yv = some b) (x y : Operand) (neg : Bool) :
    (do eqGuard (if neg then .neq else .eql) t x y u v; binOp (if neg then .neq else .eql) t u v).run P w = .ok (.bool (b != neg)) w := by
  have hk0 := hk
  unfold valEq at hb
  unfold eqOf at hk
  split at hb
  · -- scalars
    rename_i q c d
    cases hu : P.underlying t with
    | none => simp [hu] at hk
    | some kd =>
      cases q <;> cases c <;> cases d <;> simp only [scEq] at hb <;> try (cases hb; done)
      · cases kd <;> simp [hu] at hk <;> try (first | (split at hk <;> simp at hk) | skip; done)
        rw [vr_bool hx, vr_bool hy]; cases hb
        cases neg <;> simp [eqGuard, run_eql_bool, run_neq_bool, hu]
      · rw [vr_int hx, vr_int hy]
        split at hb
        · rename_i hh
          obtain ⟨rfl, rfl⟩ := hh
          cases hb
          cases neg <;> simp [eqGuard, binOp, Op.intCmp] <;> first | rfl | (cases hq : (_ == _ : Bool) <;> simp_all)
        · cases hb
      · rw [vr_str hx, vr_str hy]; cases hb
        cases neg <;> simp [eqGuard, binOp, Op.stringOp]
  · -- aggregates
    rename_i ks xs ys
    have hx' := hx
    have hy' := hy
    simp only [VR] at hx hy
    obtain ⟨us, rfl, hus, _⟩ := hx
    obtain ⟨vs, rfl, hvs, _⟩ := hy
    cases hu : P.underlying t with
    | none => simp [hu] at hk
    | some kd =>
      cases kd <;> simp only [hu] at hk <;> try (cases hk; done)
      rename_i fs
      split at hk
      · cases hk
      · rename_i hgd
        cases hkk : eqKinds P 200 t with
        | none => simp [hkk] at hk
        | some ks' =>
          simp [hkk] at hk
          subst hk
          have hr := eq_run (P := P) 200 10000 (by omega) hkk (show aggOf P t = some true by simp [aggOf, hu]) hus hvs hb
          simp only [ofCells, if_true, Array.toArray_toList] at hr
          have hgd' : P.eqGuardType P.depth t = false := by simpa using hgd
          cases neg
          · simp only [Bool.false_eq_true, if_false, Sem.run_bind, run_eqGuard_agg w _ t x y us vs hgd', Result.andThen_ok, run_eql_struct, hr]
            simp
          · simp only [if_true, Sem.run_bind, run_eqGuard_agg w _ t x y us vs hgd', Result.andThen_ok, run_neq_struct, hr]
            simp
  · obtain ⟨_, hu⟩ := eqOf_ptr hk0
    simp only [VR, DR] at hx hy; subst hx hy; cases hb
    exact eq_close x y neg (eqi_ptr _ hu none) rfl rfl (fun op => by cases op <;> rfl)
  · obtain ⟨_, hu⟩ := eqOf_ptr hk0
    simp only [VR, DR] at hx hy; obtain ⟨_, rfl⟩ := hx; subst hy; cases hb
    exact eq_close x y neg (eqi_ptr _ hu (some _)) rfl rfl (fun op => by cases op <;> rfl)
  · obtain ⟨_, hu⟩ := eqOf_ptr hk0
    simp only [VR, DR] at hx hy; obtain ⟨_, rfl⟩ := hy; subst hx; cases hb
    exact eq_close x y neg (eqi_ptr' _ hu (some _)) rfl rfl (fun op => by cases op <;> rfl)
  · obtain ⟨_, hu⟩ := eqOf_ptr hk0
    simp only [VR, DR] at hx hy; obtain ⟨_, _, rfl, _⟩ := hx; subst hy; cases hb
    exact eq_close x y neg (eqi_ptr _ hu (some _)) rfl rfl (fun op => by cases op <;> rfl)
  · obtain ⟨_, hu⟩ := eqOf_sl hk0
    simp only [VR, DR] at hx hy; obtain ⟨a1, c1, rfl, _, _, h3, _⟩ := hx; obtain ⟨a2, c2, rfl, _, _, h4, _⟩ := hy
    have := h4.2 (by trivial)
    subst this
    cases hb
    have he := eqi_sl (P := P) (w := w) 9999 hu a1 (List.length ‹List (List D)›) c1 ([] : List (List D)).length c2
    have hb : a1.isNone = b := by
      cases a1 with
      | none => exact (h3.1 rfl).symm
      | some a1 => cases b with
        | true => have := h3.2 rfl; cases this
        | false => rfl
    rw [hb] at he
    exact eq_close x y neg he rfl rfl (fun op => by cases op <;> rfl)
  · obtain ⟨_, hu⟩ := eqOf_sl hk0
    simp only [VR, DR] at hx hy; obtain ⟨_, c1, rfl, _⟩ := hx; obtain ⟨a2, c2, rfl, _, _, h4, _⟩ := hy
    have := h4.2 (by trivial)
    subst this
    cases hb
    exact eq_close x y neg (eqi_sl _ hu (some _) _ _ _ _) rfl rfl (fun op => by cases op <;> rfl)
  · obtain ⟨_, _, _, hu⟩ := eqOf_fn hk0
    simp only [VR, DR] at hx hy; obtain ⟨_, rfl, _⟩ := hx; subst hy; cases hb
    exact eq_close x y neg (eqi_fn _ hu _ _ _) rfl rfl (fun op => by cases op <;> rfl)
  · obtain ⟨_, _, _, hu⟩ := eqOf_fn hk0
    simp only [VR, DR] at hx hy; subst hx hy; cases hb
    exact eq_close x y neg (eqi_fn0 _ hu) rfl rfl (fun op => by cases op <;> rfl)
  · cases hb
end

end Go.Proofs.YtmnfjejphmmddaaGreat
