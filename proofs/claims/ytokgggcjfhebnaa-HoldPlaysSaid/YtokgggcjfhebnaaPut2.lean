/-
  Put of a queue, said of what it holds: refused by number, or the request stands behind the others, its bytes in a new block.
-/
import Derived.Test.YtokgggcjfhebnaaPut
set_option linter.unusedVariables false
namespace Go.Proofs.Ytokgggcjfhebnaa
open Go.RowKit Go.Conc

/-- What Put answers. -/
def putNo (m : Nat) (qs : List HD) (x : HD) : Int :=
  if x.id = 0 then 1 else if 4096 < x.bs.length then 6 else if qs.any (fun y => y.id == x.id) then 5 else if qs.length < m then 0 else 3

def PutPost (w : World) (h c m : Nat) (qs : List HQ) (x : HD) (e : Ending) (w' : World) : Prop :=
  ∃ qs', e = .returned (.int .i64 (putNo m (HQs qs) x)) ∧ ((putNo m (HQs qs) x = 0 ∧ ∃ y, qs' = qs ++ [y] ∧ y.x = x ∧ (∀ b, y.s.ownBlock = some b → w.heap.size ≤ b)) ∨ (putNo m (HQs qs) x ≠ 0 ∧ qs' = qs)) ∧
    HoldAt w' h c m qs' ∧ Fr (· = c) w w'

theorem any_HQs' (qs : List HQ) (p : HD → Bool) : (HQs qs).any p = qs.any (fun q => p q.x) := by simp [HQs, List.any_map]; rfl

/-- One request more. -/
theorem HoldAt.push {w w3 : World} {h c m : Nat} {qs : List HQ} (H : HoldAt w h c m qs) (hb : Below w.heap.size w w3) {y : HQ} (hy : OwnB w3 w.heap.size y.s y.x.bs) (hyo : y.x.ok) (hyl : y.x.bs.length ≤ 4096)
    {s r : Nat} (hroom : qs.length < m) : HoldAt (w3.setChan c m (qs.map HQ.v ++ [y.v]).toArray false (s + 1) r false) h c m (qs ++ [y]) := by
  have hnc := H.notChan
  have hcc := H.foot_lt c (.inr (.inl rfl))
  have hhh := H.foot_lt h (.inl rfl)
  have hz := hb.size
  have hf : Fr (· = c) w (w3.setChan c m (qs.map HQ.v ++ [y.v]).toArray false (s + 1) r false) := (Fr.of_below hb).trans (fr_setChan _ _ _ _ _ _ _ _)
  have hnd := nodup_more (v := .slice none 0 0) (v' := .slice none 0 0) (s := y.s) (l := qs.map HQ.s) (N := w.heap.size) (M := w3.heap.size) (by rw [blocks_cons]; exact H.dist) (fun b hb' => H.foot_lt b (.inr (.inr (by rw [blocks_cons] at hb'; simpa [Value.ownBlock] using hb'))))
    (fun b hb' => hy.lt b hb') (.inl rfl) hz
  refine ⟨(hf.block h hhh hnc.1).trans H.ptr, ⟨s + 1, r, ?_⟩, H.pos, H.most, by simp; omega, ?_, ?_, ?_⟩
  · rw [heap_setChan _ _ _ _ _ _ _ _ (by omega)]
    simp
  · intro q hq
    rcases List.mem_append.1 hq with h | h
    · exact H.ok q h
    · simp at h; subst h; exact ⟨hyo, hyl⟩
  · intro q hq
    rcases List.mem_append.1 hq with h | h
    · exact ownsRow_fr (H.bytes q h) hf (fun g hg => (hnc.2 q h g hg).1)
    · simp at h; subst h
      exact ownsRow_mono (ownsRow_fr hy (fr_setChan w3 c _ _ _ _ _ _) (fun g hg e => by have := hy.lt g hg; omega)) (Nat.zero_le _)
  · rw [blocks_cons] at hnd
    simpa [Value.ownBlock] using hnd

section
variable {w : World} {h c m : Nat} {qs : List HQ} (H : HoldAt w h c m qs) (q : HQ)

set_option maxHeartbeats 1000000 in
theorem put_zero (H : HoldAt w h c m qs) (h0 : q.x.id = 0) : Calls Try.prog 11 #[.pointer (some ⟨h, 0, none⟩), q.v] w (PutPost w h c m qs q.x) := by
  obtain ⟨x, a, n, cc⟩ := q
  have hcell := (H.alloc (.cells #[.int .u64 x.id, .int .u64 x.uid, .int .u32 x.addr, .int .i64 x.port, .int .u64 x.til, .slice a n cc] 34)).cell
  have hz : (x.id == 0) = true := by simpa using h0
  have HH := Lib.hid H
  have H0 := Lib.hid h0
  clear H h0
  simp only [HQ.v]
  go_enter Try.func11, Try.ntmps11
  go_wp2_with (go_at_call 27; refine (none_some _ _ _ hcell).mono ?_; rintro e w' ⟨rfl, rfl⟩)
  go_ret
  have e : putNo m (HQs qs) x = 1 := by unfold putNo; rw [if_pos H0.out]
  exact ⟨qs, by rw [e]; rfl, .inr ⟨by rw [e]; decide, rfl⟩, HH.out.alloc _, (Fr.refl _ w).alloc _⟩

set_option maxHeartbeats 1000000 in
theorem put_long (H : HoldAt w h c m qs) (hn : q.n = q.x.bs.length) (h0 : ¬ q.x.id = 0) (h1 : 4096 < q.x.bs.length) : Calls Try.prog 11 #[.pointer (some ⟨h, 0, none⟩), q.v] w (PutPost w h c m qs q.x) := by
  obtain ⟨x, a, n, cc⟩ := q
  simp only at hn h1
  subst hn
  have hcell := (H.alloc (.cells #[.int .u64 x.id, .int .u64 x.uid, .int .u32 x.addr, .int .i64 x.port, .int .u64 x.til, .slice a x.bs.length cc] 34)).cell
  have hz : (x.id == 0) = false := by simpa using h0
  have HH := Lib.hid H
  have H0 := Lib.hid h0
  clear H h0
  simp only [HQ.v]
  go_enter Try.func11, Try.ntmps11
  go_wp2_with (go_at_call 27; refine (none_some _ _ _ hcell).mono ?_; rintro e w' ⟨rfl, rfl⟩)
  go_ret
  have e : putNo m (HQs qs) x = 6 := by unfold putNo; rw [if_neg H0.out, if_pos h1]
  exact ⟨qs, by rw [e]; rfl, .inr ⟨by rw [e]; decide, rfl⟩, HH.out.alloc _, (Fr.refl _ w).alloc _⟩

set_option maxHeartbeats 1000000 in
theorem put_rest (H : HoldAt w h c m qs) (hn : q.n = q.x.bs.length) (hok : q.x.ok) (hby : BytesR (fun b => b < w.heap.size ∧ b ≠ c) w q.s q.x.bs) (h0 : ¬ q.x.id = 0) (h1 : q.x.bs.length ≤ 4096) :
    Calls Try.prog 11 #[.pointer (some ⟨h, 0, none⟩), q.v] w (PutPost w h c m qs q.x) := by
  obtain ⟨x, a, n, cc⟩ := q
  simp only at hn h1
  subst hn
  have hcall : ∀ args w, (callFunc 29 args).run Try.prog w = .ok (.enter 29 args) w := fun args w => by kernel_rfl
  have hfl := H.foot_lt
  have hcc := hfl c (.inr (.inl rfl))
  have hhh := hfl h (.inl rfl)
  have hcell := (H.alloc (.cells #[.int .u64 x.id, .int .u64 x.uid, .int .u32 x.addr, .int .i64 x.port, .int .u64 x.til, .slice a x.bs.length cc] 34)).cell
  have hz : (x.id == 0) = false := by simpa using h0
  have HH := Lib.hid H
  have H0 := Lib.hid h0
  have Hby := Lib.hid hby
  have Hok := Lib.hid hok
  clear H h0 hfl hby hok
  simp only [HQ.v]
  go_enter Try.func11, Try.ntmps11
  go_wp2_with (go_at_call 27; refine (none_some _ _ _ hcell).mono ?_; rintro e w' ⟨rfl, rfl⟩)
  refine (all_any (HH.out.alloc _)).mono ?_
  rintro e w1 ⟨v, ys, rfl, hys, ho, H1, hfr⟩
  obtain ⟨va, vc, rfl⟩ := ownsRow_slice ho.row
  have hbox : w1.heap[w.heap.size]? = some (.cells #[.int .u64 x.id, .int .u64 x.uid, .int .u32 x.addr, .int .i64 x.port, .int .u64 x.til, .slice a x.bs.length cc] 34) := (hfr.block _ (by simp) (by omega)).trans (heap_alloc_new w _)
  have Hys := Lib.hid hys
  have Ho := Lib.hid ho
  have H1' := Lib.hid H1
  have Hfr := Lib.hid hfr
  have Hbox := Lib.hid hbox
  clear hys ho H1 hfr hbox
  go_wp2_with fail
  refine (contains_any Ho.out (fun q hq => ?_) ?_ (fun b hb => ?_) Hbox.out (put_clos _ x.id _ _) hcall).mono ?_
  · obtain ⟨q', hq', e⟩ := mem_HQs Hys.out hq
    rw [← e]; exact (HH.out.ok q' hq').2
  · rw [len_HQs Hys.out]; exact Nat.le_trans HH.out.len HH.out.most
  · have := (Ho.out.lt b hb).1; simp at this; omega
  rintro e w2 ⟨rfl, hfr2⟩
  have H2 := H1'.out.fr hfr2 (fun b hb e => e)
  have hfrA : Fr (· = c) w w2 := (((Fr.refl _ w).alloc _).trans' Hfr.out (fun i hi e => e)).trans' hfr2 (fun i hi e => e.elim)
  have hz1 := Hfr.out.size
  simp at hz1
  have hz2 := hfr2.size
  have H2' := Lib.hid H2
  have HfrA := Lib.hid hfrA
  have Hfr2 := Lib.hid hfr2
  clear H2 hfrA hfr2
  have hany : ys.any (fun q => q.x.id == x.id) = (HQs qs).any (fun y => y.id == x.id) := by rw [any_HQs', any_HQs Hys.out (fun y => y.id == x.id)]
  cases hdup : ys.any (fun q => q.x.id == x.id)
  · have hbox2 : w2.heap[w.heap.size]? = some (.cells #[.int .u64 x.id, .int .u64 x.uid, .int .u32 x.addr, .int .i64 x.port, .int .u64 x.til, .slice a x.bs.length cc] 34) := (Hfr2.out.block _ (by omega) (fun e => e)).trans Hbox.out
    obtain ⟨g1, g2⟩ := block_cells hbox2
    have hc2 := H2'.out.cell
    have hz3 : w.heap.size < w2.heap.size := by omega
    have Hany := Lib.hid hany
    have Hdup := Lib.hid hdup
    have hby2 := (Hby.out.keep (HfrA.out.agree (fun i hi => hi))).mono (T := (· < w2.heap.size)) (fun b hb => by omega)
    have Hby2 := Lib.hid hby2
    clear hany hdup hbox2 hby2
    go_wp2_with fail
    refine (own_any ⟨x, a, x.bs.length, cc⟩ w2 (· < w2.heap.size) (fun b hb => hb) Hby2.out (Nat.le_trans h1 (by decide))).mono ?_
    rintro e w3 ⟨⟨x', a', n', c'⟩, rfl, hx', ho3, hb3⟩
    obtain rfl : x' = x := hx'
    obtain ⟨s, r, hch⟩ := H2'.out.chan
    have hch3 := (hb3.block c (H2'.out.foot_lt c (.inr (.inl rfl)))).trans hch
    have Hch3 := Lib.hid hch3
    have Ho3 := Lib.hid ho3
    have Hb3 := Lib.hid hb3
    clear hch hch3 ho3 hb3
    simp only [HQ.v]
    have e0 : putNo m (HQs qs) x' = if qs.length < m then 0 else 3 := by
      unfold putNo
      rw [if_neg H0.out, if_neg (by omega), if_neg (by rw [← Hany.out, Hdup.out]; simp)]
      simp [HQs]
    by_cases hroom : qs.length < m
    · rw [if_pos hroom] at e0
      have E0 := Lib.hid e0
      clear e0
      go_upto_region 9 with fail
      refine wp_region_first (step_sel_send (i := 0) (v := HQ.v ⟨x', a', n', c'⟩) (z' := .agg #[.int .u64 0, .int .u64 0, .int .u32 0, .int .i64 0, .int .u64 0, .slice none 0 0]) rfl rfl ?_ Hch3.out (by simpa using hroom)) ?_
      · simp [go_sem, execOp, scase, Act.eval, HQ.v]
      go_wp2_with fail
      go_ret
      exact ⟨qs ++ [⟨x', a', n', c'⟩], by rw [E0.out]; rfl, .inl ⟨E0.out, _, rfl, rfl, fun b hb => by have := (Ho3.out.lt b hb).1; omega⟩, H2'.out.push Hb3.out Ho3.out Hok.out h1 hroom,
        (HfrA.out.trans' (Fr.of_below (S := fun _ => False) Hb3.out) (fun i _ e => e.elim)).trans' (fr_setChan _ _ _ _ _ _ _ _) (fun i _ e => e)⟩
    · rw [if_neg hroom] at e0
      have E0 := Lib.hid e0
      clear e0
      go_upto_region 9 with fail
      refine wp_region_first (step_sel_full (i := 0) (v := HQ.v ⟨x', a', n', c'⟩) (z' := .agg #[.int .u64 0, .int .u64 0, .int .u32 0, .int .i64 0, .int .u64 0, .slice none 0 0]) rfl rfl ?_ Hch3.out (by simp; omega)) ?_
      · simp [go_sem, execOp, scase, Act.eval, HQ.v]
      go_wp2_with fail
      go_ret
      exact ⟨qs, by rw [E0.out]; rfl, .inr ⟨by rw [E0.out]; decide, rfl⟩, H2'.out.fr (Fr.of_below Hb3.out) (fun b _ e => e), HfrA.out.trans' (Fr.of_below (S := fun _ => False) Hb3.out) (fun i _ e => e.elim)⟩
  · have e5 : putNo m (HQs qs) x = 5 := by unfold putNo; rw [if_neg H0.out, if_neg (by omega), if_pos (hany ▸ hdup)]
    have E5 := Lib.hid e5
    clear hany hdup e5
    go_wp2_with fail
    go_ret
    exact ⟨qs, by rw [E5.out]; rfl, .inr ⟨by rw [E5.out]; decide, rfl⟩, H2'.out, HfrA.out⟩

/-- PUT. -/
theorem put_any (H : HoldAt w h c m qs) (hok : q.x.ok) (hby : BytesR (fun b => b < w.heap.size ∧ b ≠ c) w q.s q.x.bs) :
    Calls Try.prog 11 #[.pointer (some ⟨h, 0, none⟩), q.v] w (PutPost w h c m qs q.x) := by
  have hn := hby.nonempty.1
  by_cases h0 : q.x.id = 0
  · exact put_zero q H h0
  · by_cases h1 : q.x.bs.length ≤ 4096
    · exact put_rest q H hn hok hby h0 h1
    · exact put_long q H hn h0 (by omega)
end
end Go.Proofs.Ytokgggcjfhebnaa
