/-
  Take of the document's queue: by the address, the time, the sender. (Printed by wip/gen_rtake20.py.)
-/
import Derived.Test.YtokgggcjfhebnaaRsup
set_option linter.unusedVariables false
namespace Go.Proofs.Ytokgggcjfhebnaa
open Go.RowKit Go.Conc

def RTakePost (w : World) (p m : Nat) (v : Value) (zs : List HQ) (f : HD → Bool) (e : Ending) (w' : World) : Prop :=
  ∃ a k cc out v' zs', e = .returned (.slice a k cc) ∧ HQs out = (HQs zs).filter f ∧ Rd w' (.slice a k cc) out ∧ RefAt w' p m v' zs' ∧ HQs zs' = (HQs zs).filter (fun x => !f x) ∧
    (∀ b, refFoot p v' zs' b → refFoot p v zs b ∨ w.heap.size ≤ b) ∧ Fr (· = p) w w'

/-- Two rows of one's own. -/
structure Two (w0 w : World) (zs : List HQ) (f : HD → Bool) (out stay : Value) (k : Nat) : Prop where
  fr : Fr Nob w0 w
  ro : w.ownsRow w0.heap.size 34 6 out ((zs.take k).filter (fun q => f q.x)).length (flat ((zs.take k).filter (fun q => f q.x)))
  rs : w.ownsRow w0.heap.size 34 6 stay ((zs.take k).filter (fun q => !f q.x)).length (flat ((zs.take k).filter (fun q => !f q.x)))
  ne : ∀ b, out.ownBlock = some b → stay.ownBlock ≠ some b

theorem Two.start (w : World) (zs : List HQ) (f : HD → Bool) : Two w w zs f (.slice none 0 0) (.slice none 0 0) 0 :=
  ⟨Fr.refl _ _, World.ownsRow_nil _ _ _ _, World.ownsRow_nil _ _ _ _, fun b h => by cases h⟩

theorem Two.alloc {w0 w : World} {zs : List HQ} {f : HD → Bool} {out stay : Value} {k : Nat} (T : Two w0 w zs f out stay k) (o : Obj) : Two w0 (w.alloc o) zs f out stay k :=
  ⟨T.fr.alloc o, ownsRow_fr T.ro (S := Nob) ((Fr.refl _ w).alloc o) (fun _ _ e => e), ownsRow_fr T.rs (S := Nob) ((Fr.refl _ w).alloc o) (fun _ _ e => e), T.ne⟩

theorem Two.set {w0 w w1 : World} {zs : List HQ} {f : HD → Bool} {out stay : Value} {k : Nat} (T : Two w0 w1 zs f out stay k) {g : Nat} (hg : w0.heap.size ≤ g) (ho : out.ownBlock ≠ some g) (hs : stay.ownBlock ≠ some g) (i : Nat) (u : Value) :
    Two w0 (w1.setCell ⟨g, i, none⟩ u) zs f out stay k :=
  have hf : Fr (· = g) w1 (w1.setCell ⟨g, i, none⟩ u) := (Fr.refl (· = g) w1).setCell (p := ⟨g, i, none⟩) (.inl rfl) u
  ⟨T.fr.setCell (p := ⟨g, i, none⟩) (.inr hg) u, ownsRow_fr T.ro hf (fun b hb e => ho (e ▸ hb)), ownsRow_fr T.rs hf (fun b hb e => hs (e ▸ hb)), T.ne⟩

theorem Two.grew_out {w0 w w' : World} {zs : List HQ} {f : HD → Bool} {out stay out' : Value} {k : Nat} {z : HQ} (T : Two w0 w zs f out stay k) (hk : k < zs.length) (hz : zs[k] = z) (hf : f z.x = true)
    (hg : w.grownBy w' out.ownBlock) (hown : w'.ownsRow w0.heap.size 34 6 out' (((zs.take k).filter (fun q => f q.x)).length + 1) (flat ((zs.take k).filter (fun q => f q.x)) ++ z.cells))
    (hwh : out'.ownBlock = out.ownBlock ∨ out'.ownBlock = some w.heap.size) : Two w0 w' zs f out' stay (k + 1) := by
  have hl := T.rs.lt
  refine ⟨T.fr.grown hg (fun b hb => .inr (T.ro.lt b hb).1), ?_, ?_, ?_⟩
  · rw [take_filter hk hz f, if_pos hf, flat_append, flat_one]
    simpa using hown
  · rw [take_filter hk hz (fun x => !f x), if_neg (by simp [hf]), List.append_nil]
    exact ownsRow_fr T.rs (S := fun b => out.ownBlock = some b) ((Fr.refl _ w).grown hg (fun b hb => .inl hb)) (fun b hb e => T.ne b e hb)
  · intro b hb
    rcases hwh with e | e
    · exact T.ne b (e ▸ hb)
    · rw [e] at hb
      cases hb
      intro h
      have := (hl _ h).2
      omega

theorem Two.grew_stay {w0 w w' : World} {zs : List HQ} {f : HD → Bool} {out stay stay' : Value} {k : Nat} {z : HQ} (T : Two w0 w zs f out stay k) (hk : k < zs.length) (hz : zs[k] = z) (hf : f z.x = false)
    (hg : w.grownBy w' stay.ownBlock) (hown : w'.ownsRow w0.heap.size 34 6 stay' (((zs.take k).filter (fun q => !f q.x)).length + 1) (flat ((zs.take k).filter (fun q => !f q.x)) ++ z.cells))
    (hwh : stay'.ownBlock = stay.ownBlock ∨ stay'.ownBlock = some w.heap.size) : Two w0 w' zs f out stay' (k + 1) := by
  have hl := T.ro.lt
  refine ⟨T.fr.grown hg (fun b hb => .inr (T.rs.lt b hb).1), ?_, ?_, ?_⟩
  · rw [take_filter hk hz f, if_neg (by simp [hf]), List.append_nil]
    exact ownsRow_fr T.ro (S := fun b => stay.ownBlock = some b) ((Fr.refl _ w).grown hg (fun b hb => .inl hb)) (fun b hb e => T.ne b hb e)
  · rw [take_filter hk hz (fun x => !f x), if_pos (by simp [hf]), flat_append, flat_one]
    simpa using hown
  · intro b hb
    rcases hwh with e | e
    · exact e ▸ T.ne b hb
    · rw [e]
      intro h
      cases h
      have := (hl _ hb).2
      omega

theorem rtake_end {w w9 : World} {p m : Nat} {v : Value} {zs : List HQ} {f : HD → Bool} {a : Option Addr} {n c : Nat} {stay : Value} (H : RefAt w p m v zs) (T : Two w w9 zs f (.slice a n c) stay zs.length) :
    RTakePost w p m v zs f (.returned (.slice a n c)) (w9.setCell ⟨p, 1, none⟩ stay) := by
  have hp := H.lt p (.inl rfl)
  have hset : Fr (· = p) w9 (w9.setCell ⟨p, 1, none⟩ stay) := (Fr.refl (· = p) w9).setCell (p := ⟨p, 1, none⟩) (.inl rfl) _
  have hp9 : w9.heap[p]? = some (.cells #[.int .i64 (m : Int), v] 63 (0, 0)) := (T.fr.block p hp (fun e => e)).trans H.ptr
  have ho := T.ro
  have hs := T.rs
  rw [List.take_length] at ho hs
  have hnp := H.notP
  have hfull : Fr (· = p) w (w9.setCell ⟨p, 1, none⟩ stay) := (T.fr.mono (fun _ e => e.elim)).trans hset
  have hel : ∀ z ∈ zs, z.x.ok ∧ OwnB (w9.setCell ⟨p, 1, none⟩ stay) 0 z.s z.x.bs := fun z hz =>
    ⟨(H.rd.2 z hz).1, ownsRow_fr (H.rd.2 z hz).2 hfull (fun g hg e => hnp g (.inr (mem_blocks.2 ⟨_, List.mem_map.2 ⟨z, hz, rfl⟩, hg⟩)) e)⟩
  refine ⟨a, n, c, zs.filter (fun q => f q.x), stay, zs.filter (fun q => !f q.x), rfl, HQs_filter zs f, ⟨?_, fun z hz => hel z (List.mem_filter.1 hz).1⟩, ⟨?_, ⟨?_, fun z hz => hel z (List.mem_filter.1 hz).1⟩, H.most, Nat.le_trans (List.length_filter_le _ _) H.len⟩, HQs_filter zs (fun x => !f x), ?_, hfull⟩
  · refine ownsRow_mono (ownsRow_fr ho hset (fun g hg e => ?_)) (Nat.zero_le _)
    have := (ho.lt g hg).1
    omega
  · rw [heap_setCell_same w9 p 1 _ _ _ hp9]
    simp
  · refine ownsRow_mono (ownsRow_fr hs hset (fun g hg e => ?_)) (Nat.zero_le _)
    have := (hs.lt g hg).1
    omega
  · rintro b (rfl | hb | hb)
    · exact .inl (.inl rfl)
    · exact .inr (hs.lt b hb).1
    · obtain ⟨s, hs', hb⟩ := mem_blocks.1 hb
      obtain ⟨q, hq, rfl⟩ := List.mem_map.1 hs'
      exact .inl (.inr (.inr (mem_blocks.2 ⟨_, List.mem_map.2 ⟨q, (List.mem_filter.1 hq).1, rfl⟩, hb⟩)))

set_option maxRecDepth 100000 in
set_option maxHeartbeats 2000000 in
theorem rtake0_any {w : World} {p m : Nat} {v : Value} {zs : List HQ} (H : RefAt w p m v zs) (n : Int) :
    Calls Try.prog 34 #[.pointer (some ⟨p, 0, none⟩), .int .i64 0, .int .u64 n] w (RTakePost w p m v zs (fun x => x.addr == n)) := by
  have hm := H.most
  have hl := H.len
  have hplt := H.lt p (.inl rfl)
  obtain ⟨va, vc, rfl⟩ := ownsRow_slice H.rd.1
  have HH := Lib.hid H
  clear H
  go_enter Try.func34, Try.ntmps34
  go_wp2_with fail
  go_loopg [7, 8, 9] zs.length (fun g out stay i wr => ∃ k : Nat, g + k = zs.length ∧ i = .int .i64 k ∧ Two w wr zs (fun x => x.addr == n) out stay k)
  case atStart => exact ⟨0, rfl, rfl, Two.start _ _ _⟩
  case round =>
    obtain ⟨k, hgk, rfl, hT⟩ := hrel
    have HT := Lib.hid hT
    have Hgk := Lib.hid hgk
    have HR := Lib.hid (HH.out.fr hT.fr (fun _ _ e => e))
    obtain ⟨p1, p2⟩ := block_cells HR.out.ptr
    obtain ⟨oa, oc, eo⟩ := ownsRow_slice hT.ro
    obtain ⟨sa, sc, es⟩ := ownsRow_slice hT.rs
    subst eo
    subst es
    have hplr : p < wr.heap.size := Nat.lt_of_lt_of_le hplt hT.fr.size
    clear hT
    by_cases hk : k < zs.length
    · clear hgk
      obtain ⟨g0, rfl, -, hg0, hr0⟩ := row_cells HR.out.rd.1 hk rfl
      have hzm : zs[k] ∈ zs := List.getElem_mem hk
      have hok := (HR.out.rd.2 _ hzm).1
      generalize hZ : zs[k] = z at *
      obtain ⟨x, za, zn, zc⟩ := z
      obtain ⟨r0, r1, r2, r3, r4, r5⟩ := row6 hr0
      simp only [HQ.s] at r5
      have hxo : 0 ≤ x.addr ∧ x.addr ≤ 4294967295 := by have := hok.2.2.1; simpa [Lit.wf, IntKind.min, IntKind.max, IntKind.signed, IntKind.bits] using this
      have hconv : IntKind.u64.wrap x.addr = x.addr := by unfold IntKind.wrap; simp [IntKind.signed, IntKind.bits]; omega
      have HZ := Lib.hid hZ
      have Hlo := Lib.hid (show (((zs.take k).filter (fun q => (fun x => x.addr == n) q.x)).length + 1) * 64 ≤ 140737488355328 by have h0 := List.length_filter_le (fun q : HQ => (fun x : HD => x.addr == n) q.x) (zs.take k); have h00 := List.length_take_le k zs; omega)
      have Hls := Lib.hid (show (((zs.take k).filter (fun q => !(fun x => x.addr == n) q.x)).length + 1) * 64 ≤ 140737488355328 by have h0 := List.length_filter_le (fun q : HQ => !(fun x : HD => x.addr == n) q.x) (zs.take k); have h00 := List.length_take_le k zs; omega)
      clear hr0 hZ hzm hok
      have HTA := Lib.hid ((HT.out.alloc (.cells (HQ.cells ⟨x, za, zn, zc⟩).toArray 34)).alloc (.cells (HQ.cells ⟨x, za, zn, zc⟩).toArray 34))
      have Hcn := Lib.hid (cells_at (heap_alloc2 wr (.cells (HQ.cells ⟨x, za, zn, zc⟩).toArray 34) (.cells (HQ.cells ⟨x, za, zn, zc⟩).toArray 34)))
      have Hbs := Lib.hid (show w.heap.size ≤ ((wr.alloc (.cells (HQ.cells ⟨x, za, zn, zc⟩).toArray 34)).alloc (.cells (HQ.cells ⟨x, za, zn, zc⟩).toArray 34)).heap.size by have := HT.out.fr.size; simp; omega)
      have hk' := hk
      have Hk := Lib.hid hk'
      clear hk'
      cases hp : (x.addr == n)
      · have Hp := Lib.hid hp
        go_wp2_with (at_builtin; refine wpList_append_where rfl (.tmp 60) (.tmp 62) rfl elemHeld w.heap.size (.slice sa ((zs.take k).filter (fun q : HQ => !(q.x.addr == n))).length sc) _ _ rfl HTA.out.rs ⟨wr.heap.size + 1, 0, none⟩ 1 1 (HQ.cells ⟨x, za, zn, zc⟩) rfl rfl Hcn.out (held_one _) Hls.out Hbs.out ?_; intro v' w6 hown' hgrow hwh)
        go_roundg (gk - 1)
        case measure => have := Hgk.out; omega
        case rel => exact ⟨k + 1, by have := Hgk.out; omega, by go_num, HTA.out.grew_stay (z := ⟨x, za, zn, zc⟩) Hk.out HZ.out Hp.out hgrow hown' hwh⟩
      · have Hp := Lib.hid hp
        go_wp2_with (at_builtin; refine wpList_append_where rfl (.tmp 56) (.tmp 58) rfl elemHeld w.heap.size (.slice oa ((zs.take k).filter (fun q : HQ => q.x.addr == n)).length oc) _ _ rfl HTA.out.ro ⟨wr.heap.size + 1, 0, none⟩ 1 1 (HQ.cells ⟨x, za, zn, zc⟩) rfl rfl Hcn.out (held_one _) Hlo.out Hbs.out ?_; intro v' w6 hown' hgrow hwh)
        go_roundg (gk - 1)
        case measure => have := Hgk.out; omega
        case rel => exact ⟨k + 1, by have := Hgk.out; omega, by go_num, HTA.out.grew_out (z := ⟨x, za, zn, zc⟩) Hk.out HZ.out Hp.out hgrow hown' hwh⟩
    · have ek : k = zs.length := by omega
      subst ek
      go_wp2_with fail
      go_ret
      have he := rtake_end HH.out HT.out
      simp only [List.take_length] at he ⊢
      exact he

set_option maxRecDepth 100000 in
set_option maxHeartbeats 2000000 in
theorem rtake1_any {w : World} {p m : Nat} {v : Value} {zs : List HQ} (H : RefAt w p m v zs) (n : Int) :
    Calls Try.prog 34 #[.pointer (some ⟨p, 0, none⟩), .int .i64 1, .int .u64 n] w (RTakePost w p m v zs (fun x => decide (x.til ≤ n))) := by
  have hm := H.most
  have hl := H.len
  have hplt := H.lt p (.inl rfl)
  obtain ⟨va, vc, rfl⟩ := ownsRow_slice H.rd.1
  have HH := Lib.hid H
  clear H
  go_enter Try.func34, Try.ntmps34
  go_wp2_with fail
  go_loopg [7, 8, 9] zs.length (fun g out stay i wr => ∃ k : Nat, g + k = zs.length ∧ i = .int .i64 k ∧ Two w wr zs (fun x => decide (x.til ≤ n)) out stay k)
  case atStart => exact ⟨0, rfl, rfl, Two.start _ _ _⟩
  case round =>
    obtain ⟨k, hgk, rfl, hT⟩ := hrel
    have HT := Lib.hid hT
    have Hgk := Lib.hid hgk
    have HR := Lib.hid (HH.out.fr hT.fr (fun _ _ e => e))
    obtain ⟨p1, p2⟩ := block_cells HR.out.ptr
    obtain ⟨oa, oc, eo⟩ := ownsRow_slice hT.ro
    obtain ⟨sa, sc, es⟩ := ownsRow_slice hT.rs
    subst eo
    subst es
    have hplr : p < wr.heap.size := Nat.lt_of_lt_of_le hplt hT.fr.size
    clear hT
    by_cases hk : k < zs.length
    · clear hgk
      obtain ⟨g0, rfl, -, hg0, hr0⟩ := row_cells HR.out.rd.1 hk rfl
      have hzm : zs[k] ∈ zs := List.getElem_mem hk
      have hok := (HR.out.rd.2 _ hzm).1
      generalize hZ : zs[k] = z at *
      obtain ⟨x, za, zn, zc⟩ := z
      obtain ⟨r0, r1, r2, r3, r4, r5⟩ := row6 hr0
      simp only [HQ.s] at r5
      have hxo : 0 ≤ x.addr ∧ x.addr ≤ 4294967295 := by have := hok.2.2.1; simpa [Lit.wf, IntKind.min, IntKind.max, IntKind.signed, IntKind.bits] using this
      have hconv : IntKind.u64.wrap x.addr = x.addr := by unfold IntKind.wrap; simp [IntKind.signed, IntKind.bits]; omega
      have HZ := Lib.hid hZ
      have Hlo := Lib.hid (show (((zs.take k).filter (fun q => (fun x => decide (x.til ≤ n)) q.x)).length + 1) * 64 ≤ 140737488355328 by have h0 := List.length_filter_le (fun q : HQ => (fun x : HD => decide (x.til ≤ n)) q.x) (zs.take k); have h00 := List.length_take_le k zs; omega)
      have Hls := Lib.hid (show (((zs.take k).filter (fun q => !(fun x => decide (x.til ≤ n)) q.x)).length + 1) * 64 ≤ 140737488355328 by have h0 := List.length_filter_le (fun q : HQ => !(fun x : HD => decide (x.til ≤ n)) q.x) (zs.take k); have h00 := List.length_take_le k zs; omega)
      clear hr0 hZ hzm hok
      have HTA := Lib.hid ((HT.out.alloc (.cells (HQ.cells ⟨x, za, zn, zc⟩).toArray 34)).alloc (.cells (HQ.cells ⟨x, za, zn, zc⟩).toArray 34))
      have Hcn := Lib.hid (cells_at (heap_alloc2 wr (.cells (HQ.cells ⟨x, za, zn, zc⟩).toArray 34) (.cells (HQ.cells ⟨x, za, zn, zc⟩).toArray 34)))
      have Hbs := Lib.hid (show w.heap.size ≤ ((wr.alloc (.cells (HQ.cells ⟨x, za, zn, zc⟩).toArray 34)).alloc (.cells (HQ.cells ⟨x, za, zn, zc⟩).toArray 34)).heap.size by have := HT.out.fr.size; simp; omega)
      have hk' := hk
      have Hk := Lib.hid hk'
      clear hk'
      cases hp : (decide (x.til ≤ n))
      · have Hp := Lib.hid hp
        go_wp2_with (at_builtin; refine wpList_append_where rfl (.tmp 60) (.tmp 62) rfl elemHeld w.heap.size (.slice sa ((zs.take k).filter (fun q : HQ => !(decide (q.x.til ≤ n)))).length sc) _ _ rfl HTA.out.rs ⟨wr.heap.size + 1, 0, none⟩ 1 1 (HQ.cells ⟨x, za, zn, zc⟩) rfl rfl Hcn.out (held_one _) Hls.out Hbs.out ?_; intro v' w6 hown' hgrow hwh)
        go_roundg (gk - 1)
        case measure => have := Hgk.out; omega
        case rel => exact ⟨k + 1, by have := Hgk.out; omega, by go_num, HTA.out.grew_stay (z := ⟨x, za, zn, zc⟩) Hk.out HZ.out Hp.out hgrow hown' hwh⟩
      · have Hp := Lib.hid hp
        go_wp2_with (at_builtin; refine wpList_append_where rfl (.tmp 56) (.tmp 58) rfl elemHeld w.heap.size (.slice oa ((zs.take k).filter (fun q : HQ => decide (q.x.til ≤ n))).length oc) _ _ rfl HTA.out.ro ⟨wr.heap.size + 1, 0, none⟩ 1 1 (HQ.cells ⟨x, za, zn, zc⟩) rfl rfl Hcn.out (held_one _) Hlo.out Hbs.out ?_; intro v' w6 hown' hgrow hwh)
        go_roundg (gk - 1)
        case measure => have := Hgk.out; omega
        case rel => exact ⟨k + 1, by have := Hgk.out; omega, by go_num, HTA.out.grew_out (z := ⟨x, za, zn, zc⟩) Hk.out HZ.out Hp.out hgrow hown' hwh⟩
    · have ek : k = zs.length := by omega
      subst ek
      go_wp2_with fail
      go_ret
      have he := rtake_end HH.out HT.out
      simp only [List.take_length] at he ⊢
      exact he

set_option maxRecDepth 100000 in
set_option maxHeartbeats 2000000 in
theorem rtake2_any {w : World} {p m : Nat} {v : Value} {zs : List HQ} (H : RefAt w p m v zs) (n : Int) :
    Calls Try.prog 34 #[.pointer (some ⟨p, 0, none⟩), .int .i64 2, .int .u64 n] w (RTakePost w p m v zs (fun x => x.uid == n)) := by
  have hm := H.most
  have hl := H.len
  have hplt := H.lt p (.inl rfl)
  obtain ⟨va, vc, rfl⟩ := ownsRow_slice H.rd.1
  have HH := Lib.hid H
  clear H
  go_enter Try.func34, Try.ntmps34
  go_wp2_with fail
  go_loopg [7, 8, 9] zs.length (fun g out stay i wr => ∃ k : Nat, g + k = zs.length ∧ i = .int .i64 k ∧ Two w wr zs (fun x => x.uid == n) out stay k)
  case atStart => exact ⟨0, rfl, rfl, Two.start _ _ _⟩
  case round =>
    obtain ⟨k, hgk, rfl, hT⟩ := hrel
    have HT := Lib.hid hT
    have Hgk := Lib.hid hgk
    have HR := Lib.hid (HH.out.fr hT.fr (fun _ _ e => e))
    obtain ⟨p1, p2⟩ := block_cells HR.out.ptr
    obtain ⟨oa, oc, eo⟩ := ownsRow_slice hT.ro
    obtain ⟨sa, sc, es⟩ := ownsRow_slice hT.rs
    subst eo
    subst es
    have hplr : p < wr.heap.size := Nat.lt_of_lt_of_le hplt hT.fr.size
    clear hT
    by_cases hk : k < zs.length
    · clear hgk
      obtain ⟨g0, rfl, -, hg0, hr0⟩ := row_cells HR.out.rd.1 hk rfl
      have hzm : zs[k] ∈ zs := List.getElem_mem hk
      have hok := (HR.out.rd.2 _ hzm).1
      generalize hZ : zs[k] = z at *
      obtain ⟨x, za, zn, zc⟩ := z
      obtain ⟨r0, r1, r2, r3, r4, r5⟩ := row6 hr0
      simp only [HQ.s] at r5
      have hxo : 0 ≤ x.addr ∧ x.addr ≤ 4294967295 := by have := hok.2.2.1; simpa [Lit.wf, IntKind.min, IntKind.max, IntKind.signed, IntKind.bits] using this
      have hconv : IntKind.u64.wrap x.addr = x.addr := by unfold IntKind.wrap; simp [IntKind.signed, IntKind.bits]; omega
      have HZ := Lib.hid hZ
      have Hlo := Lib.hid (show (((zs.take k).filter (fun q => (fun x => x.uid == n) q.x)).length + 1) * 64 ≤ 140737488355328 by have h0 := List.length_filter_le (fun q : HQ => (fun x : HD => x.uid == n) q.x) (zs.take k); have h00 := List.length_take_le k zs; omega)
      have Hls := Lib.hid (show (((zs.take k).filter (fun q => !(fun x => x.uid == n) q.x)).length + 1) * 64 ≤ 140737488355328 by have h0 := List.length_filter_le (fun q : HQ => !(fun x : HD => x.uid == n) q.x) (zs.take k); have h00 := List.length_take_le k zs; omega)
      clear hr0 hZ hzm hok
      have HTA := Lib.hid ((HT.out.alloc (.cells (HQ.cells ⟨x, za, zn, zc⟩).toArray 34)).alloc (.cells (HQ.cells ⟨x, za, zn, zc⟩).toArray 34))
      have Hcn := Lib.hid (cells_at (heap_alloc2 wr (.cells (HQ.cells ⟨x, za, zn, zc⟩).toArray 34) (.cells (HQ.cells ⟨x, za, zn, zc⟩).toArray 34)))
      have Hbs := Lib.hid (show w.heap.size ≤ ((wr.alloc (.cells (HQ.cells ⟨x, za, zn, zc⟩).toArray 34)).alloc (.cells (HQ.cells ⟨x, za, zn, zc⟩).toArray 34)).heap.size by have := HT.out.fr.size; simp; omega)
      have hk' := hk
      have Hk := Lib.hid hk'
      clear hk'
      cases hp : (x.uid == n)
      · have Hp := Lib.hid hp
        go_wp2_with (at_builtin; refine wpList_append_where rfl (.tmp 60) (.tmp 62) rfl elemHeld w.heap.size (.slice sa ((zs.take k).filter (fun q : HQ => !(q.x.uid == n))).length sc) _ _ rfl HTA.out.rs ⟨wr.heap.size + 1, 0, none⟩ 1 1 (HQ.cells ⟨x, za, zn, zc⟩) rfl rfl Hcn.out (held_one _) Hls.out Hbs.out ?_; intro v' w6 hown' hgrow hwh)
        go_roundg (gk - 1)
        case measure => have := Hgk.out; omega
        case rel => exact ⟨k + 1, by have := Hgk.out; omega, by go_num, HTA.out.grew_stay (z := ⟨x, za, zn, zc⟩) Hk.out HZ.out Hp.out hgrow hown' hwh⟩
      · have Hp := Lib.hid hp
        go_wp2_with (at_builtin; refine wpList_append_where rfl (.tmp 56) (.tmp 58) rfl elemHeld w.heap.size (.slice oa ((zs.take k).filter (fun q : HQ => q.x.uid == n)).length oc) _ _ rfl HTA.out.ro ⟨wr.heap.size + 1, 0, none⟩ 1 1 (HQ.cells ⟨x, za, zn, zc⟩) rfl rfl Hcn.out (held_one _) Hlo.out Hbs.out ?_; intro v' w6 hown' hgrow hwh)
        go_roundg (gk - 1)
        case measure => have := Hgk.out; omega
        case rel => exact ⟨k + 1, by have := Hgk.out; omega, by go_num, HTA.out.grew_out (z := ⟨x, za, zn, zc⟩) Hk.out HZ.out Hp.out hgrow hown' hwh⟩
    · have ek : k = zs.length := by omega
      subst ek
      go_wp2_with fail
      go_ret
      have he := rtake_end HH.out HT.out
      simp only [List.take_length] at he ⊢
      exact he


end Go.Proofs.Ytokgggcjfhebnaa
