/-
  All operations but calls.
-/
import Derived.Test.YtmnfjejphmmddaaGreatPz
set_option linter.unusedVariables false
set_option linter.unusedSimpArgs false
namespace Go.Proofs.YtmnfjejphmmddaaGreat
open Go.RowKit

section
variable {P : Program} {B : Nat} {ρ : Rh} {h : Hp} {w : World} {e : Env} {a : Act}

theorem mk_some {sc : Bool} {cs : List V} {x : V} (hm : mk sc cs = some x) : (sc = true ∧ cs = [x]) ∨ (sc = false ∧ x = .agg cs) := by
  unfold mk at hm
  split at hm
  · cases hm; exact .inl ⟨rfl, rfl⟩
  · cases hm
  · cases hm; exact .inr ⟨rfl, rfl⟩

theorem mk_sound {S : Nat → Prop} {ag : Bool} {cs : List V} {us : List Value} {x : V} (hv : VRs ρ S w cs us) (h1 : ∀ u ∈ us, u.oneCell' = true) (hm : mk (!ag) cs = some x) : VR ρ S w x (ofCells ag us) := by
  rcases mk_some hm with ⟨h2, rfl⟩ | ⟨h2, rfl⟩
  · have : ag = false := by simpa using h2
    subst this
    simp only [VRs] at hv
    obtain ⟨u, us', rfl, h3, rfl⟩ := hv
    simpa [ofCells] using h3
  · have : ag = true := by simpa using h2
    subst this
    simp only [VR, ofCells, if_true]
    exact ⟨_, rfl, by simpa using hv, by simpa using h1⟩

theorem load_does (hR : Rel B ρ h w) (hE : ER ρ w e a.tmps) {t : TypeId} {ad : Operand} {ag : Bool} {n : Nat} {X' : X} {cs : List V} {x : V} (ha : aggOf P t = some ag) (hs : szOf P t = some n) (hn : n ≠ 0) (ho : opnd ad = some X')
    (hl : loadAt h (X'.ev e) n = some cs) (hm : mk (!ag) cs = some x) : Does P B ρ h w (do let v ← Instr.loadAt t (a.eval ad); pure (.value v)) x h := by
  obtain ⟨b, o, us, e1, l1, l2, l3, l4⟩ := loadAt_sound hR (by omega) (opnd_sound hE ho) hl
  have hlist := run_loadCells_list (P := P) w ⟨b, o, none⟩ us (fun j v hv => by rw [add_plain']; exact l2 j v hv)
  refine does_v hR (v := ofCells ag us) ?_ (mk_sound l3 l4 hm)
  rw [e1]
  cases ag with
  | true => simp [Instr.loadAt, Instr.sureAddr, loadVar, run_isAgg ha, run_sizeOf hs, ← l1, hlist, ofCells]
  | false =>
    rcases mk_some hm with ⟨_, rfl⟩ | ⟨h2, _⟩
    · simp only [VRs] at l3
      obtain ⟨u, us', rfl, h3, rfl⟩ := l3
      have := l2 0 u rfl
      simp only [Nat.add_zero] at this
      simp [Instr.loadAt, Instr.sureAddr, loadVar, run_isAgg ha, load, Sem.run, this, ofCells]
    · cases h2

theorem store_does (hR : Rel B ρ h w) (hE : ER ρ w e a.tmps) {t : TypeId} {ad vo : Operand} {n : Nat} {X1 X2 : X} {xs : List V} {h' : Hp} (hs : szOf P t = some n) (hn : 0 < n) (h1 : opnd ad = some X1) (h2 : opnd vo = some X2)
    (hc : (X2.ev e).cells = some xs) (hl : xs.length = n) (hst : storeAt h (X1.ev e) xs = some h') : Does P B ρ h w (do Instr.storeAt t (a.eval ad) (a.eval vo); pure .skip) .undef h' := by
  obtain ⟨k1, k2⟩ := cells_sound (opnd_sound hE h2) hc
  have hv := opnd_sound hE h1
  cases hx : X1.ev e with
  | ptr b o =>
    rw [hx] at hv hst
    simp only [VR] at hv
    obtain ⟨hb, ea⟩ := hv
    simp only [storeAt] at hst
    cases hg : h.get b with
    | none => simp [hg] at hst
    | some cs =>
      simp only [hg] at hst
      cases hp : put cs o xs with
      | none => simp [hp] at hst
      | some cs' =>
        simp only [hp, Option.some.injEq] at hst
        subst hst
        have hne : xs ≠ [] := by rintro rfl; simp at hl; omega
        obtain ⟨q1, q2, q3⟩ := setCells_sound (P := P) hR hg hp hne k1 k2
        have hsz : (h.set b cs').size = h.size := by simp [Hp.set, Hp.size]
        have hlen := k1.length
        simp only [Array.length_toList] at hlen
        refine ⟨undef, ρ, _, .inr ⟨?_, rfl⟩, q2, q3, by simp only [VR]⟩
        rw [ea]
        have : ¬ ((a.eval vo).cells.size ≠ n) := by omega
        simp [Instr.storeAt, Instr.sureAddr, storeVar, run_sizeOf hs, this, q1]
  | _ => rw [hx] at hst; simp [storeAt] at hst

theorem mapM_ev {l : List Operand} {xs : List X} (hE : ER ρ w e a.tmps) (hm : l.mapM opnd = some xs) : VRs ρ (St ρ w) w (xs.map (·.ev e)) (l.map a.eval) := by
  have hh := mapM_some hm
  exact VRs.of_get (by simp [hh.1]) fun i h1 h2 => by
    simp only [List.getElem_map]
    exact opnd_sound hE (hh.2 i (by simpa using h2) (by simpa using h1))

theorem iter_does (hR : Rel B ρ h w) {s : ByteArray} {sem : Sem Next} (hs : sem.run P w = .ok (.value (.pointer (some ⟨w.heap.size, 0, none⟩))) (w.alloc (.stringIter s 0))) :
    Does P B ρ h w sem (.ptr h.size 0) { h with bs := h.bs ++ [.iter s 0] } := by
  refine ⟨_, _, _, .inl hs, alloc_rel hR _ _ (by simp only [BR]; show (w.heap.push _)[_]? = _; simp), alloc_goes hR _ _ (size_not hR), ?_⟩
  simp only [VR]
  exact ⟨.inr rfl, by rw [ext_at]⟩

theorem next_does (hR : Rel B ρ h w) {b : Nat} {v : Value} {s : ByteArray} {pos : Nat} {t : TypeId} (hv : VRx h ρ w (.ptr b 0) v) (hb : h.bs[b]? = some (.iter s pos)) {x : V} {h' : Hp}
    (hm : (if pos < s.size then some (V.tup [.d (.bool true), .d (.int .i64 pos), .d (.int .i32 (Utf8.decode s pos).1)], (⟨h.bs.set b (.iter s (pos + (Utf8.decode s pos).2)), min h.low b⟩ : Hp)) else some (V.tup [.d (.bool false)], h)) = some (x, h')) :
    Does P B ρ h w (do let u ← Instr.next v true t; pure (.value u)) x h' := by
  simp only [VR] at hv
  obtain ⟨hbn, rfl⟩ := hv
  obtain ⟨hb', eb⟩ := List.getElem?_eq_some_iff.1 hb
  have hm0 := hR.mem b hb'
  rw [eb] at hm0
  simp only [BR] at hm0
  split at hm
  · rename_i hp
    simp only [Option.some.injEq, Prod.mk.injEq] at hm
    obtain ⟨rfl, rfl⟩ := hm
    have hlt := (hR.lo b hbn).2
    let w' : World := { w with heap := w.heap.setIfInBounds (ρ b) (.stringIter s (pos + (Utf8.decode s pos).2)) }
    have hrun : (Instr.next (.pointer (some ⟨ρ b, 0, none⟩)) true t).run P w = .ok (.tuple #[.bool true, goInt pos, .int .i32 (Utf8.decode s pos).1]) w' := by
      simp [Instr.next, getObj, setObj, Sem.run, hm0, hp, w', goInt]
    have hoth : ∀ k, k ≠ ρ b → w'.heap[k]? = w.heap[k]? := fun k hk => by simp [w', Array.getElem?_setIfInBounds, Ne.symm hk]
    have hown : ∀ arr e fz, w.heap[ρ b]? = some (.cells arr e fz) → ∃ arr' fz', w'.heap[ρ b]? = some (.cells arr' e fz') ∧ arr'.size = arr.size := fun arr e fz k => by rw [hm0] at k; cases k
    have hbr : BR ρ w' (ρ b) (.iter s (pos + (Utf8.decode s pos).2)) := by simp [BR, w', Array.getElem?_setIfInBounds, hlt]
    have hsz : w'.heap.size = w.heap.size := by simp [w']
    have hlive : h.bs[b].live = true := by rw [eb]; rfl
    refine ⟨_, ρ, w', .inl (run_v hrun), set_rel hR hb' hlive hsz hoth hown rfl rfl rfl _ hbr _, set_goes hR (hR.live b hb' hlive) hsz hoth hown rfl rfl rfl, ?_⟩
    · simp only [VR, VRs, DR, goInt]
      exact ⟨_, rfl, _, _, rfl, rfl, _, _, rfl, rfl, _, _, rfl, rfl, rfl⟩
  · rename_i hp
    simp only [Option.some.injEq, Prod.mk.injEq] at hm
    obtain ⟨rfl, rfl⟩ := hm
    refine does_v hR (v := .tuple #[.bool false]) ?_ ?_
    · simp [Instr.next, getObj, Sem.run, hm0, hp]
    · simp only [VR, VRs, DR]
      exact ⟨_, rfl, _, _, rfl, rfl, rfl⟩

theorem minmax_run (mx : Bool) : ∀ {xs : List V} {vs : List Value} {x : V} {v : Value} {r : V}, VRy ρ w x v → VRs ρ (St ρ w) w xs vs → minmaxM mx x xs = some r →
    ∃ u, (vs.foldlM (if mx then Builtin.max2 else Builtin.min2) v).run P w = .ok u w ∧ VRy ρ w r u
  | [], vs, x, v, r, hx, hxs, hm => by
    simp only [VRs] at hxs
    subst hxs
    simp [minmaxM] at hm
    subst hm
    exact ⟨v, by simp, hx⟩
  | y :: ys, vs, x, v, r, hx, hxs, hm => by
    simp only [VRs] at hxs
    obtain ⟨u, us, rfl, hy, hys⟩ := hxs
    unfold minmaxM at hm
    split at hm
    · rename_i heq; cases heq
    · rename_i k1 n1 k2 n2 l heq
      cases heq
      split at hm
      · rename_i hk
        subst hk
        rw [vr_int hx, vr_int hy]
        obtain ⟨u', h1, h2⟩ := minmax_run mx (v := .int k1 (if mx then (if n2 > n1 then n2 else n1) else (if n2 < n1 then n2 else n1))) (by simp only [VR, DR]) hys hm
        refine ⟨u', ?_, h2⟩
        rw [List.foldlM_cons, Sem.run_bind]
        cases mx <;> simp [Builtin.max2, Builtin.min2] at h1 ⊢ <;> exact h1
      · cases hm
    · cases hm
end

end Go.Proofs.YtmnfjejphmmddaaGreat
