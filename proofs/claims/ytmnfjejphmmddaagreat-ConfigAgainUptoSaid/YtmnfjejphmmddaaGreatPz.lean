/-
  Slices, strings, and all operations together.
-/
import Derived.Test.YtmnfjejphmmddaaGreatPx
import Derived.Laws.MakeOwn
set_option linter.unusedVariables false
set_option linter.unusedSimpArgs false
namespace Go.Proofs.YtmnfjejphmmddaaGreat
open Go.RowKit

section
variable {P : Program} {B : Nat} {ρ : Rh} {h : Hp} {w : World} {e : Env} {a : Act}

theorem does_v (hR : Rel B ρ h w) {s : Sem Value} {v : Value} {x : V} (hs : s.run P w = .ok v w) (hv : VRx h ρ w x v) : Does P B ρ h w (do let v ← s; pure (Next.value v)) x h :=
  Does.pure hR (run_v hs) hv

theorem bound_sound (hE : ER ρ w e a.tmps) {x : Option Operand} {y : Option X} {dft n : Nat} (hx : x.mapM opnd = some y) (hb : bound e y dft = some n) :
    (x = none ∧ n = dft) ∨ ∃ o k i, x = some o ∧ a.eval o = .int k i ∧ 0 ≤ i ∧ i.toNat = n := by
  cases x with
  | none => simp at hx; subst hx; simp [bound] at hb; exact .inl ⟨rfl, hb.symm⟩
  | some o =>
    cases ho : opnd o with
    | none => simp [ho] at hx
    | some X' =>
      simp [ho] at hx
      subst hx
      have hv := opnd_sound hE ho
      simp only [bound] at hb
      split at hb
      · rename_i q i heq
        rw [heq] at hv
        split at hb
        · rename_i h0
          cases hb
          exact .inr ⟨o, q, i, rfl, vr_int hv, h0, rfl⟩
        · cases hb
      · cases hb

theorem run_bounds (hE : ER ρ w e a.tmps) (isS : Bool) {lo hi : Option Operand} {lo' hi' : Option X} {len cap l k : Nat} (hlo : lo.mapM opnd = some lo') (hhi : hi.mapM opnd = some hi')
    (b1 : bound e lo' 0 = some l) (b2 : bound e hi' len = some k) (h1 : l ≤ k) (h2 : k ≤ cap) :
    (Instr.sliceBounds isS len cap (lo.map a.eval) (hi.map a.eval) none).run P w = .ok (l, k, cap) w := by
  rcases bound_sound hE hlo b1 with ⟨rfl, rfl⟩ | ⟨o1, k1, i1, rfl, e1, g1, rfl⟩ <;> rcases bound_sound hE hhi b2 with ⟨rfl, rfl⟩ | ⟨o2, k2, i2, rfl, e2, g2, rfl⟩
  · simp [Instr.sliceBounds]
  · simp only [Instr.sliceBounds, Option.map_some, Option.map_none, e2, Sem.run_bind, Sem.run_pure, Result.andThen_ok]
    rw [run_sliceBound w k2 i2 _ _ g2 (by omega)]
    simp
  · simp only [Instr.sliceBounds, Option.map_some, Option.map_none, e1, Sem.run_bind, Sem.run_pure, Result.andThen_ok]
    simp [run_sliceBound w k1 i1 _ _ g1 (show i1 ≤ (k : Int) by omega)]
  · simp only [Instr.sliceBounds, Option.map_some, Option.map_none, e1, e2, Sem.run_bind, Sem.run_pure, Result.andThen_ok]
    rw [run_sliceBound w k2 i2 _ _ g2 (by omega)]
    simp [run_sliceBound w k1 i1 _ _ g1 (show i1 ≤ (i2.toNat : Int) by omega)]

theorem run_bounds3 (hE : ER ρ w e a.tmps) {lo hi mx : Option Operand} {lo' hi' mx' : Option X} {len cap l k m : Nat} (hlo : lo.mapM opnd = some lo') (hhi : hi.mapM opnd = some hi') (hmx : mx.mapM opnd = some mx') (hms : mx'.isSome = true) (hhs : hi'.isSome = true)
    (b1 : bound e lo' 0 = some l) (b2 : bound e hi' len = some k) (b3 : bound e mx' 0 = some m) (h1 : l ≤ k) (h2 : k ≤ m) (h3 : m ≤ cap) :
    (Instr.sliceBounds true len cap (lo.map a.eval) (hi.map a.eval) (mx.map a.eval)).run P w = .ok (l, k, m) w := by
  rcases bound_sound hE hmx b3 with ⟨rfl, rfl⟩ | ⟨o3, k3, i3, rfl, e3, g3, rfl⟩
  · simp at hmx; subst hmx; cases hms
  rcases bound_sound hE hhi b2 with ⟨rfl, rfl⟩ | ⟨o2, k2, i2, rfl, e2, g2, rfl⟩
  · simp at hhi; subst hhi; cases hhs
  rcases bound_sound hE hlo b1 with ⟨rfl, rfl⟩ | ⟨o1, k1, i1, rfl, e1, g1, rfl⟩
  · simp only [Instr.sliceBounds, Option.map_some, Option.map_none, e2, e3, Sem.run_bind, Sem.run_pure, Result.andThen_ok]
    rw [run_sliceBound w k3 i3 _ _ g3 (by omega)]
    simp only [Result.andThen_ok]
    rw [run_sliceBound w k2 i2 _ _ g2 (by omega)]
    simp
  · simp only [Instr.sliceBounds, Option.map_some, Option.map_none, e1, e2, e3, Sem.run_bind, Sem.run_pure, Result.andThen_ok]
    rw [run_sliceBound w k3 i3 _ _ g3 (by omega)]
    simp only [Result.andThen_ok]
    rw [run_sliceBound w k2 i2 _ _ g2 (by omega)]
    simp [run_sliceBound w k1 i1 _ _ g1 (show i1 ≤ (i2.toNat : Int) by omega)]

theorem DRss.sub {S : Nat → Prop} {b z o : Nat} {es : List (List D)} (hd : DRss S w b o z es) (l k : Nat) (hk : k ≤ es.length) : DRss S w b (o + l * z) z ((es.take k).drop l) :=
  DRss.of_get fun i hi => by
    have hi' : l + i < es.length := by simp at hi; omega
    have := hd.get (l + i) hi'
    simp only [List.getElem_drop, List.getElem_take]
    rw [Nat.add_mul] at this
    rw [Nat.add_assoc]
    exact this

theorem slice_sound (hR : Rel B ρ h w) (hE : ER ρ w e a.tmps) {t el : TypeId} {z : Nat} {xv r : V} {v : Value} {lo hi mx : Option Operand} {lo' hi' mx' : Option X} (ht : P.underlying t = some (.slice el)) (hz : szOf P el = some z)
    (hlo : lo.mapM opnd = some lo') (hhi : hi.mapM opnd = some hi') (hmx : mx.mapM opnd = some mx') (hx : VRx h ρ w xv v) (hm : sliceOf h e .sl z xv lo' hi' mx' = some r) :
    ∃ u, (Instr.sliceAt t v (lo.map a.eval) (hi.map a.eval) (mx.map a.eval)).run P w = .ok u w ∧ VRx h ρ w r u := by
  cases xv with
  | d y =>
    cases y with
    | slice nl es =>
      simp only [VR, DR] at hx
      obtain ⟨ad, c, rfl, h1, h2, h3, h4, h5⟩ := hx
      simp only [sliceOf] at hm
      split at hm
      · rename_i l k hbl hbk
        have hmn : mx = none := by cases mx with | none => rfl | some o => cases ho : opnd o <;> simp [ho] at hmx
        subst hmn
        split at hm
        · rename_i hh
          obtain ⟨g1, g2, g3⟩ := hh
          cases hm
          have hb := run_bounds (P := P) hE true hlo hhi hbl hbk g1 (by omega : k ≤ c)
          refine ⟨_, by simp only [Instr.sliceAt, Instr.slice, Sem.run_bind, run_underlying ht, Result.andThen_ok, Option.map_none, hb, run_sizeOf hz]; rfl, ?_⟩
          simp only [VR, DR]
          have hlen : ((es.take k).drop l).length = k - l := by simp; omega
          refine ⟨_, c - l, by rw [hlen], by rw [hlen]; omega, by omega, ?_, ?_, fun hne => ?_⟩
          · split
            · exact h3
            · rw [← h3]; cases ad <;> simp
          · intro hn
            have : ad = none := by
              split at hn
              · exact hn
              · cases ad with | none => rfl | some _ => simp at hn
            rw [h4 this]; simp
          · have hlk : l < k := by
              have : ((es.take k).drop l).length ≠ 0 := fun e => hne (List.eq_nil_of_length_eq_zero e)
              omega
            have hes : es ≠ [] := by rintro rfl; simp at g2; omega
            obtain ⟨b, o, z', e1, hb, hd⟩ := h5 hes
            have hzz : z' = z := by
              cases es with
              | nil => exact absurd rfl hes
              | cons x xs => simp only [DRss] at hd; simp at g3; rw [← hd.1]; exact g3
            subst hzz
            refine ⟨b, o + l * z', z', ?_, hb, hd.sub l k g2⟩
            rw [if_neg (by omega), e1]
            simp [add_plain']
        · cases hm
      · cases hm
    | _ => simp [sliceOf] at hm
  | row b o len cap z' =>
    have hx0 := hx
    simp only [VR] at hx
    obtain ⟨hb, c, rfl, h1, h2, h3, arr, e0, fz, h4, h5⟩ := hx
    simp only [sliceOf] at hm
    split at hm
    · rename_i l k hbl hbk
      have hmn : mx = none := by cases mx with | none => rfl | some o => cases ho : opnd o <;> simp [ho] at hmx
      subst hmn
      split at hm
      · rename_i hh
        obtain ⟨g1, g2, rfl⟩ := hh
        have hbd := run_bounds (P := P) hE true hlo hhi hbl hbk g1 (by omega : k ≤ c)
        have hrun : (Instr.sliceAt t (.slice (some ⟨ρ b, o, none⟩) len c) (lo.map a.eval) (hi.map a.eval) ((none : Option Operand).map a.eval)).run P w = .ok (.slice (if c = l then some ⟨ρ b, o, none⟩ else some ⟨ρ b, o + l * z', none⟩) (k - l) (c - l)) w := by
          simp only [Instr.sliceAt, Instr.slice, Sem.run_bind, run_underlying ht, Result.andThen_ok, Option.map_none, hbd, run_sizeOf hz, Option.map_some, add_plain', Sem.run_pure]
        refine ⟨_, hrun, ?_⟩
        split at hm
        · rename_i hl0
          subst hl0
          cases hm
          simp only [VR]
          refine ⟨hb, c, ?_, by omega, h2, h3, arr, e0, fz, h4, h5⟩
          simp
        · split at hm
          · rename_i hl0 hll
            cases hm
            simp only [VR]
            refine ⟨hb, c - l, by rw [if_neg (by omega)], by omega, by omega, fun q hq => ?_, arr, e0, fz, h4, ?_⟩
            · cases cap with
              | none => cases hq
              | some c' => have := h3 c' rfl; simp at hq; omega
            · rw [Nat.sub_mul]
              have : l * z' ≤ c * z' := Nat.mul_le_mul_right _ (by omega)
              obtain ⟨h5a, h5b⟩ := h5
              refine ⟨by omega, fun hn => ?_⟩
              have hcn : cap = none := by
                cases cap with
                | none => rfl
                | some c' => simp at hn
              have := h5b hcn
              omega
          · rename_i hl0 hll
            cases hm
            have hkl : k - l = 0 := by omega
            simp only [VR, DR]
            rw [hkl]
            refine ⟨_, c - l, rfl, by simp, by omega, ?_, ?_, by simp⟩
            · split <;> simp
            · split <;> simp
      · cases hm
    · rename_i l k mX hbl hbk
      cases hbm : bound e (some mX) 0 with
      | none => simp [hbm] at hm
      | some m =>
        simp only [hbm] at hm
        split at hm
        · rename_i hh
          obtain ⟨g1, g2, g3, rfl, g4, hhs⟩ := hh
          cases hm
          have hbd := run_bounds3 (P := P) (len := len) (cap := c) hE hlo hhi hmx rfl hhs hbl hbk hbm g1 g2 (by omega)
          have hrun : (Instr.sliceAt t (.slice (some ⟨ρ b, o, none⟩) len c) (lo.map a.eval) (hi.map a.eval) (mx.map a.eval)).run P w = .ok (.slice (if m = l then some ⟨ρ b, o, none⟩ else some ⟨ρ b, o + l * z', none⟩) (k - l) (m - l)) w := by
            simp only [Instr.sliceAt, Instr.slice, Sem.run_bind, run_underlying ht, Result.andThen_ok, hbd, run_sizeOf hz, Option.map_some, add_plain', Sem.run_pure]
          refine ⟨_, hrun, ?_⟩
          simp only [VR]
          refine ⟨hb, m - l, ?_, by omega, by omega, fun q hq => by cases hq; rfl, arr, e0, fz, h4, ?_⟩
          · rcases g4 with rfl | g4
            · simp
            · rw [if_neg (by omega)]
          · have h6 : m * z' ≤ c * z' := Nat.mul_le_mul_right _ (by omega)
            have h7 : l * z' ≤ m * z' := Nat.mul_le_mul_right _ (by omega)
            rw [Nat.sub_mul]; exact ⟨by have := h5.1; omega, fun hh => by cases hh⟩
        · cases hm
    · cases hm
  | _ => simp [sliceOf] at hm
end

end Go.Proofs.YtmnfjejphmmddaaGreat
