/-
  act, where it puts in.
-/
import Derived.Test.YtokgggcjfhebnaaActTake
set_option linter.unusedVariables false
namespace Go.Proofs.Ytokgggcjfhebnaa
open Go.RowKit Go.Conc

def nx (L : List HD) (x : HD) (K : Int) : List HD := if K = 0 then L ++ [x] else L

abbrev cp (c p : Nat) (b : Nat) : Prop := b = c ∨ b = p

def PutK (w0 w7 : World) (h c m : Nat) (qs : List HQ) (p : Nat) (v : Value) (zs : List HQ) (x : HD) (K : Int) (e : Ending) (w' : World) : Prop :=
  e = .returned (.int .i64 K) ∧ ∃ qs', Pl w0 w' h c m qs' p v zs ∧ HQs qs' = nx (HQs qs) x K ∧ (∀ b, foot h c qs' b → foot h c qs b ∨ w7.heap.size ≤ b) ∧ Fr (cp c p) w7 w'

theorem put_k {w0 w7 w : World} {h c m p : Nat} {qs zs : List HQ} {v : Value} (q : HQ) {K : Int} (T : Pl w0 w h c m qs p v zs) (hf : Fr (cp c p) w7 w) (hok : q.x.ok) (hby : BytesR (fun b => b < w7.heap.size ∧ b ≠ c ∧ b ≠ p) w7 q.s q.x.bs) (hK : putNo m (HQs qs) q.x = K) :
    Calls Try.prog 11 #[.pointer (some ⟨h, 0, none⟩), q.v] w (PutK w0 w7 h c m qs p v zs q.x K) := by
  refine (put_any q T.H hok ((hby.keep (fun b hb => hf.block b hb.1 (fun e => e.elim hb.2.1 hb.2.2))).mono (fun b hb => ⟨Nat.lt_of_lt_of_le hb.1 hf.size, hb.2.1⟩))).mono ?_
  rintro e w' ⟨qs', rfl, hq, H', hf'⟩
  have hz := hf.size
  rw [hK] at hq ⊢
  have hF : Fr (cp c p) w7 w' := hf.trans (hf'.mono (fun b e => .inl e))
  rcases hq with ⟨hk, y, rfl, hyx, hyb⟩ | ⟨hk, rfl⟩
  · have hg := foot_push (h := h) (c := c) (qs := qs) hyb
    refine ⟨rfl, _, T.onH H' hg hf', ?_, fun b hb => (hg b hb).imp id (fun h => Nat.le_trans hz h), hF⟩
    unfold nx
    rw [if_pos hk]
    simp [HQs, hyx]
  · refine ⟨rfl, _, T.onH H' (fun b hb => .inl hb) hf', ?_, fun b hb => .inl hb, hF⟩
    unfold nx
    rw [if_neg hk]

def RPutK (w0 w7 : World) (h c m : Nat) (qs : List HQ) (p : Nat) (v : Value) (zs : List HQ) (x : HD) (K : Int) (e : Ending) (w' : World) : Prop :=
  e = .returned (.int .i64 K) ∧ ∃ v' zs', Pl w0 w' h c m qs p v' zs' ∧ HQs zs' = nx (HQs zs) x K ∧ (∀ b, refFoot p v' zs' b → refFoot p v zs b ∨ w7.heap.size ≤ b) ∧ Fr (cp c p) w7 w'

theorem rput_k {w0 w7 w : World} {h c m p : Nat} {qs zs : List HQ} {v : Value} (q : HQ) {K : Int} (T : Pl w0 w h c m qs p v zs) (hf : Fr (cp c p) w7 w) (hok : q.x.ok) (hby : BytesR (fun b => b < w7.heap.size ∧ b ≠ c ∧ b ≠ p) w7 q.s q.x.bs) (hK : putNo m (HQs zs) q.x = K) :
    Calls Try.prog 32 #[.pointer (some ⟨p, 0, none⟩), q.v] w (RPutK w0 w7 h c m qs p v zs q.x K) := by
  refine (rput_any T.R q hok ((hby.keep (fun b hb => hf.block b hb.1 (fun e => e.elim hb.2.1 hb.2.2))).mono (fun b hb => ⟨Nat.lt_of_lt_of_le hb.1 hf.size, hb.2.2⟩))).mono ?_
  rintro e w' ⟨v', zs', rfl, R', hq, hg, hf'⟩
  have hz := hf.size
  rw [hK] at hq ⊢
  have hF : Fr (cp c p) w7 w' := hf.trans (hf'.mono (fun b e => .inr e))
  refine ⟨rfl, v', zs', T.onR R' hg hf', ?_, fun b hb => (hg b hb).imp id (fun h => Nat.le_trans hz h), hF⟩
  unfold nx
  rcases hq with ⟨hk, e⟩ | ⟨hk, e⟩
  · rw [if_pos hk, e]
  · rw [if_neg hk, e]

/-- A row of one request. -/
theorem Rd.one (w : World) (q : HQ) (hok : q.x.ok) (hb : OwnB w 0 q.s q.x.bs) : Rd (w.alloc (.cells q.cells.toArray 34)) (.slice (some ⟨w.heap.size, 0, none⟩) 1 1) [q] := by
  refine ⟨⟨rfl, .inr ⟨w.heap.size, 1, q.cells.toArray, rfl, Nat.zero_le _, heap_alloc_new w _, Nat.le_refl _, by simp [maxLen], rfl, ?_⟩⟩, ?_⟩
  · rw [flat_one]
    rfl
  · intro z hz
    simp at hz
    subst hz
    exact ⟨hok, ownsRow_fr hb (S := Nob) ((Fr.refl _ w).alloc _) (fun _ _ e => e)⟩

set_option maxRecDepth 100000 in
set_option maxHeartbeats 4000000 in
theorem act_put {w0 w : World} {h c m p : Nat} {qs zs : List HQ} {v : Value} (T : Pl w0 w h c m qs p v zs) (hs : HQs zs = HQs qs) (q : HQ) (n : Int) (hok : q.x.ok) (hby : BytesR (· < w0.heap.size) w0 q.s q.x.bs) (hlen : q.x.bs.length ≤ 70000) :
    Calls Try.prog 20 #[.pointer (some ⟨h, 0, none⟩), .pointer (some ⟨p, 0, none⟩), actV 0 q n] w (ActPost w0 h c m p) := by
  have hn := hby.nonempty.1
  obtain ⟨x, qa, qn, qc⟩ := q
  simp only at hn hok hby hlen ⊢
  subst hn
  have HT := Lib.hid T
  have Hs := Lib.hid hs
  have Hok := Lib.hid hok
  have Hby := Lib.hid (hby.keep T.below.block)
  have hz0 := T.below.size
  have Hpc := Lib.hid (show w0.heap.size ≤ c ∧ w0.heap.size ≤ p ∧ c < w.heap.size ∧ p < w.heap.size from ⟨T.hnew c (.inr (.inl rfl)), T.pnew, T.H.foot_lt c (.inr (.inl rfl)), T.R.lt p (.inl rfl)⟩)
  clear T hs hok hby
  simp only [actV]
  go_enter Try.func20, Try.ntmps20
  go_wp2_with (at_builtin; refine wpList_append_any rfl (.tmp 18) (.tmp 21) rfl elemU8 (w.heap.size + 1 + 1) (.slice (some ⟨w.heap.size + 1 + 1, 0, none⟩) 0 0) 0 [] rfl (empty_row (by simpa using heap_alloc_new ((w.alloc _).alloc _) _) (Nat.le_refl _)) qa x.bs.length qc (x.bs.map fun b => .int .u8 b.toNat) rfl (by simp) (bytes_src Hby.out (fun b hb => by omega) ((((Fr.refl _ w).alloc _).alloc _).alloc _)) (u8_one _) (by omega) (by simp) ?_; intro v' w6 hown' hgrow hwh; obtain ⟨va', n', vc', rfl⟩ := ownsRow_shape hown'; have hA6 := kept_block (b := w.heap.size) hgrow (by rw [Below.heap_alloc _ _ _ (by simp; omega), Below.heap_alloc _ _ _ (by simp)]; exact heap_alloc_new w _) (by simp [Value.ownBlock]; omega); have hY6 := kept_block (b := w.heap.size + 1) hgrow (by rw [Below.heap_alloc _ _ _ (by simp)]; exact heap_alloc2 w _ _) (by simp [Value.ownBlock]); obtain ⟨c61, c62⟩ := block_cells hA6; obtain ⟨d61, d62⟩ := block_cells hY6)
  have hF7 : Fr Nob w (w6.setCell ⟨w.heap.size + 1, 5, none⟩ (.slice va' n' vc')) := (((((Fr.refl Nob w).alloc _).alloc _).alloc _).grown hgrow (fun k hk => .inr (by simp [Value.ownBlock] at hk; omega))).setCell (p := ⟨w.heap.size + 1, 5, none⟩) (.inr (Nat.le_succ _)) _
  have HF7 := Lib.hid hF7
  have T7 := Lib.hid (HT.out.on hF7)
  have A7 := Lib.hid ((heap_setCell_other w6 ⟨w.heap.size + 1, 5, none⟩ w.heap.size (.slice va' n' vc') (by simp)).trans hA6)
  have Y7 := Lib.hid (heap_setCell_same w6 (w.heap.size + 1) 5 _ _ (.slice va' n' vc') hY6)
  have B7 := Lib.hid (show OwnB (w6.setCell ⟨w.heap.size + 1, 5, none⟩ (.slice va' n' vc')) (w.heap.size + 1 + 1) (.slice va' n' vc') x.bs from ownsRow_setCell_below (by simpa using hown') (by simp) _)
  generalize w6.setCell ⟨w.heap.size + 1, 5, none⟩ (.slice va' n' vc') = w7 at *
  clear hF7 hown' hgrow hwh hA6 hY6 c61 c62 d61 d62
  obtain ⟨a1, -⟩ := block_cells A7.out
  obtain ⟨y1, -⟩ := block_cells Y7.out
  have hya := (Array.getElem?_eq_some_iff.1 A7.out).1
  have hyl := (Array.getElem?_eq_some_iff.1 Y7.out).1
  have hne0 : ¬ cp c p w.heap.size := by have := Hpc.out; unfold cp; omega
  have hne1 : ¬ cp c p (w.heap.size + 1) := by have := Hpc.out; unfold cp; omega
  have HbyX := Lib.hid (show BytesR (fun b => b < w7.heap.size ∧ b ≠ c ∧ b ≠ p) w7 (HQ.s ⟨x, qa, x.bs.length, qc⟩) x.bs from (Hby.out.keep (fun b hb => HF7.out.block b (by omega) (fun e => e))).mono (fun b hb => by have := HF7.out.size; have := Hpc.out; refine ⟨?_, ?_, ?_⟩ <;> omega))
  have HbyY := Lib.hid (show BytesR (fun b => b < w7.heap.size ∧ b ≠ c ∧ b ≠ p) w7 (HQ.s ⟨x, va', n', vc'⟩) x.bs from (OwnB.bytesR (q := ⟨x, va', n', vc'⟩) B7.out).mono (fun b hb => by have := B7.out.lt b hb; have := Hpc.out; refine ⟨?_, ?_, ?_⟩ <;> omega))
  obtain ⟨K, hK⟩ : ∃ K, putNo m (HQs qs) x = K := ⟨_, rfl⟩
  have HK := Lib.hid hK
  have HKz := Lib.hid (show putNo m (HQs zs) x = K by rw [Hs.out]; exact hK)
  clear hK
  go_cut [9] (fun ok wx => ok = .bool true ∧ ∃ qs' v' zs', Pl w0 wx h c m qs' p v' zs' ∧ HQs zs' = HQs qs' ∧ Fr (cp c p) w7 wx ∧ (∀ b, foot h c qs' b → foot h c qs b ∨ w7.heap.size ≤ b) ∧ (∀ b, refFoot p v' zs' b → refFoot p v zs b ∨ w7.heap.size ≤ b))
  case first =>
    go_region_with
      (first
        | (go_at_call 11; refine (put_k (w0 := w0) (w7 := w7) ⟨x, va', n', vc'⟩ (by first | exact T32 | exact T7.out.on ((Fr.refl Nob w7).drew)) (by first | exact F32 | exact (Fr.refl _ w7).drew) Hok.out HbyY.out HK.out).mono ?_; rintro e w11 ⟨rfl, qs11, T11, hq11, hg11, F11⟩; obtain ⟨a11, -⟩ := block_cells ((F11.block _ hya hne0).trans A7.out); obtain ⟨y11, -⟩ := block_cells ((F11.block _ hyl hne1).trans Y7.out))
        | (go_at_call 32; refine (rput_k (w0 := w0) (w7 := w7) ⟨x, qa, x.bs.length, qc⟩ (by first | exact T11 | exact T7.out.on ((Fr.refl Nob w7).drew)) (by first | exact F11 | exact (Fr.refl _ w7).drew) Hok.out HbyX.out HKz.out).mono ?_; rintro e w32 ⟨rfl, v32, zs32, T32, hz32, hg32, F32⟩; obtain ⟨a32, -⟩ := block_cells ((F32.block _ hya hne0).trans A7.out); obtain ⟨y32, -⟩ := block_cells ((F32.block _ hyl hne1).trans Y7.out)))
    all_goals go_wp2_with fail
    all_goals
      go_meet
      case rel => first | exact ⟨by simp, _, _, _, T32, by rw [hz32, hq11, Hs.out], F32, hg11, hg32⟩ | exact ⟨by simp, _, _, _, T11, by rw [hz32, hq11, Hs.out], F11, hg11, hg32⟩
  case rest =>
    obtain ⟨rfl, qs9, v9, zs9, T9, hs9, F9, hq9, hz9⟩ := hcut
    have HT9 := Lib.hid T9
    have Hs9 := Lib.hid hs9
    have hyB := B7.out.lt
    have HB9 := Lib.hid (ownsRow_mono (ownsRow_fr B7.out F9 (fun g hg e => by have h1 := (hyB g hg).1; have h2 := Hpc.out; unfold cp at e; omega)) (Nat.zero_le _))
    have HF9 := Lib.hid F9
    have Hq9 := Lib.hid hq9
    have Hz9 := Lib.hid hz9
    obtain ⟨y9, -⟩ := block_cells ((F9.block _ hyl hne1).trans Y7.out)
    have hyw := Nat.lt_of_lt_of_le hyl F9.size
    have HR := Lib.hid (Rd.one wc ⟨x, va', n', vc'⟩ Hok.out HB9.out)
    clear T9 hs9 F9 hq9 hz9 hyB a1 y1
    go_wp2_with fail
    refine (spoil_any HR.out rfl).mono ?_
    rintro e w10 ⟨rfl, hf10⟩
    have Hf10 := Lib.hid hf10
    clear hf10
    go_wp2_with fail
    go_ret
    refine ⟨rfl, _, _, _, (HT9.out.on ((Fr.refl Nob wc).alloc _)).onS Hf10.out (fun b hb => ?_), Hs9.out⟩
    obtain ⟨s, hs', hb'⟩ := mem_blocks.1 hb
    simp at hs'
    subst hs'
    have h1 := B7.out.lt b hb'
    refine ⟨fun hf => ?_, fun hf => ?_, by omega⟩
    · rcases Hq9.out b hf with h2 | h2
      · have := HT.out.H.foot_lt b h2; omega
      · omega
    · rcases Hz9.out b hf with h2 | h2
      · have := HT.out.R.lt b h2; omega
      · omega

end Go.Proofs.Ytokgggcjfhebnaa
