/-
  act, where it asks whether something is held, and where it does nothing.
-/
import Derived.Test.YtokgggcjfhebnaaActTake
set_option linter.unusedVariables false
namespace Go.Proofs.Ytokgggcjfhebnaa
open Go.RowKit Go.Conc

theorem Rd.nil (w : World) : Rd w (.slice none 0 0) [] := ⟨World.ownsRow_nil _ _ _ _, by simp⟩

set_option maxRecDepth 100000 in
set_option maxHeartbeats 2000000 in
theorem act_none {w0 w : World} {h c m p : Nat} {qs zs : List HQ} {v : Value} (T : Pl w0 w h c m qs p v zs) (hs : HQs zs = HQs qs) (q : HQ) (n d : Int) (hd : d ≠ 0 ∧ d ≠ 1 ∧ d ≠ 2 ∧ d ≠ 3 ∧ d ≠ 5) :
    Calls Try.prog 20 #[.pointer (some ⟨h, 0, none⟩), .pointer (some ⟨p, 0, none⟩), actV d q n] w (ActPost w0 h c m p) := by
  obtain ⟨x, qa, qn, qc⟩ := q
  have T1 := Lib.hid (T.on ((Fr.refl Nob w).alloc (.cells #[.int .i64 d, .int .u64 x.id, .int .u64 x.uid, .int .u32 x.addr, .int .i64 x.port, .int .u64 x.til, .slice qa qn qc, .int .u64 n] 36)))
  have Hs := Lib.hid hs
  have d0 : (d == 0) = false := by simpa using hd.1
  have d1 : (d == 1) = false := by simpa using hd.2.1
  have d2 : (d == 2) = false := by simpa using hd.2.2.1
  have d3 : (d == 3) = false := by simpa using hd.2.2.2.1
  have d5 : (d == 5) = false := by simpa using hd.2.2.2.2
  clear T hs hd
  simp only [actV]
  go_enter Try.func20, Try.ntmps20
  go_wp2_with fail
  refine (spoil_any (Rd.nil _) rfl).mono ?_
  rintro e w4 ⟨rfl, hf4⟩
  have Hf4 := Lib.hid hf4
  clear hf4
  go_wp2_with fail
  go_ret
  exact ⟨rfl, _, _, _, T1.out.onS Hf4.out (fun b hb => (List.not_mem_nil (a := b) hb).elim), Hs.out⟩

set_option maxRecDepth 100000 in
set_option maxHeartbeats 2000000 in
theorem act_has {w0 w : World} {h c m p : Nat} {qs zs : List HQ} {v : Value} (T : Pl w0 w h c m qs p v zs) (hs : HQs zs = HQs qs) (q : HQ) (n : Int) :
    Calls Try.prog 20 #[.pointer (some ⟨h, 0, none⟩), .pointer (some ⟨p, 0, none⟩), actV 5 q n] w (ActPost w0 h c m p) := by
  obtain ⟨x, qa, qn, qc⟩ := q
  obtain ⟨r, hr, -⟩ := wrap_u32 n
  have T1 := Lib.hid (T.on ((Fr.refl Nob w).alloc (.cells #[.int .i64 5, .int .u64 x.id, .int .u64 x.uid, .int .u32 x.addr, .int .i64 x.port, .int .u64 x.til, .slice qa qn qc, .int .u64 n] 36)))
  have Hs := Lib.hid hs
  have hm := T.R.most
  have hl := T.R.len
  have hplt := T.R.lt p (.inl rfl)
  obtain ⟨va, vc, rfl⟩ := ownsRow_slice T.R.rd.1
  clear T hs
  simp only [actV]
  go_enter Try.func20, Try.ntmps20
  go_wp2_with fail
  generalize hW : w.alloc (.cells #[.int .i64 5, .int .u64 x.id, .int .u64 x.uid, .int .u32 x.addr, .int .i64 x.port, .int .u64 x.til, .slice qa qn qc, .int .u64 n] 36) = w1 at *
  have Hbx := Lib.hid (show w1.heap[w.heap.size]? = some (.cells #[.int .i64 5, .int .u64 x.id, .int .u64 x.uid, .int .u32 x.addr, .int .i64 x.port, .int .u64 x.til, .slice qa qn qc, .int .u64 n] 36 (0, 0)) by rw [← hW]; exact heap_alloc_new w _)
  have HW := Lib.hid hW
  clear hW
  go_loopg [10, 11] zs.length (fun g has i wr => ∃ k : Nat, g + k = zs.length ∧ i = .int .i64 k ∧ has = .bool ((zs.take k).any (fun z => z.x.addr == r)) ∧ Fr Nob w1 wr)
  case atStart => exact ⟨0, rfl, rfl, by simp, Fr.refl _ _⟩
  case round =>
    obtain ⟨k, hgk, rfl, rfl, hf⟩ := hrel
    have HT := Lib.hid (T1.out.on hf)
    have HF := Lib.hid hf
    have Hgk := Lib.hid hgk
    obtain ⟨p1, p2⟩ := block_cells HT.out.R.ptr
    obtain ⟨b1, b2⟩ := block_cells ((hf.block _ (Array.getElem?_eq_some_iff.1 Hbx.out).1 (fun e => e)).trans Hbx.out)
    clear hf
    by_cases hk : k < zs.length
    · clear hgk
      obtain ⟨g0, rfl, -, hg0, hr0⟩ := row_cells HT.out.R.rd.1 hk rfl
      obtain ⟨-, -, r2, -⟩ := row6 hr0
      have htk : (zs.take (k + 1)).any (fun z => z.x.addr == r) = ((zs.take k).any (fun z => z.x.addr == r) || (zs[k].x.addr == r)) := by
        rw [List.take_succ_eq_append_getElem hk, List.any_append]; simp
      generalize hZ : zs[k] = z at *
      have Htk := Lib.hid htk
      clear hr0 hZ htk
      generalize (zs.take k).any (fun z => z.x.addr == r) = B at *
      cases B
      · cases hz : (z.x.addr == r)
        · have Hz := Lib.hid hz
          go_wp2_with fail
          go_quiet (fail)
          go_wp2_with fail
          go_roundg (gk - 1)
          case measure => have := Hgk.out; omega
          case rel => exact ⟨k + 1, by have := Hgk.out; omega, by go_num, by rw [Htk.out, Hz.out]; rfl, HF.out.drewN _⟩
        · have Hz := Lib.hid hz
          go_wp2_with fail
          go_quiet (fail)
          go_wp2_with fail
          go_roundg (gk - 1)
          case measure => have := Hgk.out; omega
          case rel => exact ⟨k + 1, by have := Hgk.out; omega, by go_num, by rw [Htk.out, Hz.out]; rfl, HF.out.drewN _⟩
      · go_wp2_with fail
        go_quiet (fail)
        go_wp2_with fail
        go_roundg (gk - 1)
        case measure => have := Hgk.out; omega
        case rel => exact ⟨k + 1, by have := Hgk.out; omega, by go_num, by rw [Htk.out]; rfl, HF.out.drewN _⟩
    · have hany : (zs.take k).any (fun z => z.x.addr == r) = qs.any (fun z => z.x.addr == r) := by
        rw [List.take_of_length_le (by omega)]
        exact any_HQs Hs.out (fun x => x.addr == r)
      rw [hany]
      clear hany
      go_wp2_with fail
      refine (has_any HT.out.H r).mono ?_
      rintro e w2 ⟨rfl, H2, hf2⟩
      have HT2 := Lib.hid (HT.out.onH H2 (fun b hb => .inl hb) hf2)
      clear H2 hf2
      go_wp2_with fail
      go_ret
      exact ⟨by simp, _, _, _, HT2.out, Hs.out⟩

end Go.Proofs.Ytokgggcjfhebnaa
