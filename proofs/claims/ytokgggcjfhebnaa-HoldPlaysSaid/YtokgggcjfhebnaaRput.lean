/-
  Put of the document's queue.
-/
import Derived.Test.YtokgggcjfhebnaaRsup
set_option linter.unusedVariables false
namespace Go.Proofs.Ytokgggcjfhebnaa
open Go.RowKit Go.Conc

def RPutPost (w : World) (p m : Nat) (v : Value) (zs : List HQ) (x : HD) (e : Ending) (w' : World) : Prop :=
  ∃ v' zs', e = .returned (.int .i64 (putNo m (HQs zs) x)) ∧ RefAt w' p m v' zs' ∧ ((putNo m (HQs zs) x = 0 ∧ HQs zs' = HQs zs ++ [x]) ∨ (putNo m (HQs zs) x ≠ 0 ∧ HQs zs' = HQs zs)) ∧
    (∀ b, refFoot p v' zs' b → refFoot p v zs b ∨ w.heap.size ≤ b) ∧ Fr (· = p) w w'

theorem RPutPost.no {w w' : World} {p m : Nat} {v : Value} {zs : List HQ} {x : HD} {k : Int} (H : RefAt w' p m v zs) (hf : Fr (· = p) w w') (e : putNo m (HQs zs) x = k) (hk : k ≠ 0) : RPutPost w p m v zs x (.returned (.int .i64 k)) w' :=
  ⟨v, zs, by rw [e], H, .inr ⟨by rw [e]; exact hk, rfl⟩, fun b hb => .inl hb, hf⟩

theorem rput_end {w w7 w10 : World} {p m : Nat} {v v2 : Value} {zs : List HQ} {x : HD} {y : HQ} (HF : Fr Nob w w7) (HR : RefAt w7 p m v zs) (hB : OwnB w7 (w.heap.size + 1) y.s y.x.bs) (hok : x.ok) (hy : y.x = x) (hp : p < w.heap.size)
    (hf : Fr Nob w7 w10) (hown : w10.ownsRow w7.heap.size 34 6 v2 (zs.length + 1) (flat zs ++ y.cells)) (hroom : zs.length < m) (hno : putNo m (HQs zs) x = 0) (hlt : ∀ b, refFoot p v zs b → b < w.heap.size) (hpb : ∀ b, v.ownBlock = some b ∨ b ∈ blocks (zs.map HQ.s) → b ≠ p) :
    RPutPost w p m v zs x (.returned (.int .i64 0)) (w10.setCell ⟨p, 1, none⟩ v2) := by
  have hz7 := HF.size
  have hl2 := hown.lt
  have hset : Fr (· = p) w10 (w10.setCell ⟨p, 1, none⟩ v2) := (Fr.refl (· = p) w10).setCell (p := ⟨p, 1, none⟩) (.inl rfl) _
  have hp10 : w10.heap[p]? = some (.cells #[.int .i64 (m : Int), v] 63 (0, 0)) := (hf.block p (by omega) (fun e => e)).trans HR.ptr
  refine ⟨v2, zs ++ [y], by rw [hno], ⟨?_, ⟨?_, ?_⟩, HR.most, by simp; omega⟩, .inl ⟨hno, by simp [HQs, hy]⟩, ?_, ?_⟩
  · rw [heap_setCell_same w10 p 1 _ _ _ hp10]
    simp
  · rw [flat_append, flat_one]
    refine ownsRow_mono (ownsRow_fr (by simpa using hown) hset (fun g hg e => ?_)) (Nat.zero_le _)
    have := (hl2 g hg).1
    omega
  · intro z hz
    rcases List.mem_append.1 hz with h | h
    · refine ⟨(HR.rd.2 z h).1, ownsRow_fr (ownsRow_fr (HR.rd.2 z h).2 hf (fun _ _ e => e)) hset (fun g hg e => ?_)⟩
      exact hpb g (.inr (mem_blocks.2 ⟨_, List.mem_map.2 ⟨z, h, rfl⟩, hg⟩)) e
    · simp at h
      subst h
      refine ⟨hy ▸ hok, ownsRow_mono (ownsRow_fr (ownsRow_fr hB hf (fun _ _ e => e)) hset (fun g hg e => ?_)) (Nat.zero_le _)⟩
      have := (hB.lt g hg).1
      omega
  · rintro b (rfl | hb | hb)
    · exact .inl (.inl rfl)
    · exact .inr (by have := (hl2 b hb).1; omega)
    · rw [List.map_append, blocks_append, List.mem_append] at hb
      rcases hb with hb | hb
      · exact .inl (.inr (.inr hb))
      · obtain ⟨s, hs, hb⟩ := mem_blocks.1 hb
        simp at hs
        subst hs
        exact .inr (by have := (hB.lt b hb).1; omega)
  · exact (((HF.trans hf).mono (fun _ e => e.elim)).trans hset)

section
variable {w : World} {p m : Nat} {v : Value} {zs : List HQ} (H : RefAt w p m v zs) (q : HQ)
include H

set_option maxHeartbeats 2000000 in
theorem rput_any (hok : q.x.ok) (hby : BytesR (fun b => b < w.heap.size ∧ b ≠ p) w q.s q.x.bs) :
    Calls Try.prog 32 #[.pointer (some ⟨p, 0, none⟩), q.v] w (RPutPost w p m v zs q.x) := by
  have hn := hby.nonempty.1
  obtain ⟨x, a, n, cc⟩ := q
  simp only at hn hok hby ⊢
  subst hn
  have hfr0 : Fr Nob w (w.alloc (.cells #[.int .u64 x.id, .int .u64 x.uid, .int .u32 x.addr, .int .i64 x.port, .int .u64 x.til, .slice a x.bs.length cc] 34)) := (Fr.refl _ w).alloc _
  have HF0 := Lib.hid hfr0
  have HH := Lib.hid (H.fr hfr0 (fun _ _ e => e))
  have Hby := Lib.hid hby
  have Hok := Lib.hid hok
  have hlt := H.lt p (.inl rfl)
  have Hlt := Lib.hid H.lt
  have hm := H.most
  have hl := H.len
  obtain ⟨va, vc, rfl⟩ := ownsRow_slice H.rd.1
  clear H hfr0 hby hok
  simp only [HQ.v]
  by_cases h0 : x.id = 0
  · have hz : (x.id == 0) = true := by simpa using h0
    have H0 := Lib.hid h0
    clear h0
    go_enter Try.func32, Try.ntmps32
    go_wp2
    go_ret
    exact RPutPost.no HH.out (HF0.out.mono (fun _ e => e.elim)) (by unfold putNo; rw [if_pos H0.out]) (by decide)
  · have hz : (x.id == 0) = false := by simpa using h0
    have H0 := Lib.hid h0
    clear h0
    by_cases h1 : 4096 < x.bs.length
    · go_enter Try.func32, Try.ntmps32
      go_wp2
      go_ret
      exact RPutPost.no HH.out (HF0.out.mono (fun _ e => e.elim)) (by unfold putNo; rw [if_neg H0.out, if_pos h1]) (by decide)
    · go_enter Try.func32, Try.ntmps32
      go_wp2
      generalize hW : w.alloc (.cells #[.int .u64 x.id, .int .u64 x.uid, .int .u32 x.addr, .int .i64 x.port, .int .u64 x.til, .slice a x.bs.length cc] 34) = w1 at *
      have hbx : w1.heap[w.heap.size]? = some (.cells #[.int .u64 x.id, .int .u64 x.uid, .int .u32 x.addr, .int .i64 x.port, .int .u64 x.til, .slice a x.bs.length cc] 34 (0, 0)) := by rw [← hW]; exact heap_alloc_new w _
      have Hbx := Lib.hid hbx
      have HW := Lib.hid hW
      clear hbx hW
      go_loopg [5] zs.length (fun g i wr => ∃ k : Nat, g + k = zs.length ∧ i = .int .i64 k ∧ (∀ z ∈ zs.take k, z.x.id ≠ x.id) ∧ Fr Nob w1 wr)
      case atStart => exact ⟨0, rfl, rfl, by simp, Fr.refl _ _⟩
      case round =>
        obtain ⟨k, hgk, rfl, hno, hf⟩ := hrel
        have Hno := Lib.hid hno
        have HF := Lib.hid hf
        have Hgk := Lib.hid hgk
        have HR := Lib.hid (HH.out.fr hf (fun _ _ e => e))
        obtain ⟨p1, p2⟩ := block_cells HR.out.ptr
        obtain ⟨b1, b2⟩ := block_cells ((hf.block _ (Array.getElem?_eq_some_iff.1 Hbx.out).1 (fun e => e)).trans Hbx.out)
        have hbl : w.heap.size < wr.heap.size := Nat.lt_of_lt_of_le (Array.getElem?_eq_some_iff.1 Hbx.out).1 hf.size
        clear hno hf
        by_cases hk : k < zs.length
        · clear hgk
          obtain ⟨g0, rfl, -, hg0, hr0⟩ := row_cells HR.out.rd.1 hk rfl
          obtain ⟨r0, -⟩ := row6 hr0
          have hzm : zs[k] ∈ zs := List.getElem_mem hk
          have htk : zs.take (k + 1) = zs.take k ++ [zs[k]] := List.take_succ_eq_append_getElem hk
          generalize hZ : zs[k] = z at *
          have Hzm := Lib.hid hzm
          have Htk := Lib.hid htk
          clear hr0 hZ hzm htk
          by_cases he : z.x.id = x.id
          · have heb : (z.x.id == x.id) = true := by simpa using he
            have He := Lib.hid he
            clear he
            go_wp2_with fail
            go_quiet (fail)
            go_wp2_with fail
            go_ret
            refine RPutPost.no (HR.out.fr ((Fr.refl Nob wr).drewN _) (fun _ _ e => e)) ((((HF0.out.trans HF.out).drewN _)).mono (fun _ e => e.elim)) (k := 5) ?_ (by decide)
            have hany : (HQs zs).any (fun y => y.id == x.id) = true := by
              rw [any_HQs']
              exact List.any_eq_true.2 ⟨z, Hzm.out, by simpa using He.out⟩
            unfold putNo
            rw [if_neg H0.out, if_neg h1, if_pos hany]
          · have heb : (z.x.id == x.id) = false := by simpa using he
            have He := Lib.hid he
            clear he
            go_wp2_with fail
            go_quiet (fail)
            go_wp2_with fail
            go_roundg (gk - 1)
            case measure => have := Hgk.out; omega
            case rel =>
              refine ⟨k + 1, by have := Hgk.out; omega, by go_num, fun y hy => ?_, HF.out.drewN _⟩
              rw [Htk.out] at hy
              rcases List.mem_append.1 hy with h | h
              · exact Hno.out y h
              · simp at h; subst h; exact He.out
        · have hany : (HQs zs).any (fun y => y.id == x.id) = false := by
            rw [any_HQs', List.any_eq_false]
            intro z hz
            have := Hno.out z (by rw [List.take_of_length_le (by omega)]; exact hz)
            simpa using this
          have Hany := Lib.hid hany
          clear hany
          by_cases hfull : m ≤ zs.length
          · go_wp2_with fail
            go_quiet (fail)
            go_wp2_with fail
            go_ret
            refine RPutPost.no (HR.out.fr ((Fr.refl Nob wr).drewN _) (fun _ _ e => e)) ((((HF0.out.trans HF.out).drewN _)).mono (fun _ e => e.elim)) (k := 3) ?_ (by decide)
            unfold putNo
            rw [if_neg H0.out, if_neg h1, if_neg (by rw [Hany.out]; decide), if_neg (by rw [HQs_len]; omega)]
          · go_wp2_with fail
            go_quiet (fail)
            have HR5 := Lib.hid (HR.out.fr ((Fr.refl Nob wr).drewN nq) (fun _ _ e => e))
            have HF5 := Lib.hid ((HF0.out.trans HF.out).drewN nq)
            have Hbx5 := Lib.hid (((HF.out.drewN nq).block _ (Array.getElem?_eq_some_iff.1 Hbx.out).1 (fun e => e)).trans Hbx.out)
            generalize wr.drewN nq = w5 at *
            clear p1 p2 b1 b2 hbl
            obtain ⟨b1, b2⟩ := block_cells Hbx5.out
            have hbl5 := (Array.getElem?_eq_some_iff.1 Hbx5.out).1
            have hxl : x.bs.length ≤ 4096 := by omega
            go_wp2_with (at_builtin; refine wpList_append_any rfl (.tmp 43) (.tmp 45) rfl elemU8 w5.heap.size (.slice (some ⟨w5.heap.size, 0, none⟩) 0 0) 0 [] rfl (empty_row (heap_alloc_new _ _) (Nat.le_refl _)) a x.bs.length cc (x.bs.map fun b => .int .u8 b.toNat) rfl (by simp) (bytes_src Hby.out (fun b hb => hb.1) (HF5.out.alloc _)) (u8_one _) (by omega) (by simp) ?_; intro v' w6 hown' hgrow hwh; obtain ⟨va', n', vc', rfl⟩ := ownsRow_shape hown'; obtain ⟨hc6, hf6⟩ := far_cell hgrow hbl5 (by simp [Value.ownBlock]; omega))
            have HF7 := Lib.hid (((HF5.out.alloc _).grown hgrow (fun k hk => .inr (by simp [Value.ownBlock] at hk; have := HF5.out.size; omega))).setCell (p := ⟨w.heap.size, 5, none⟩) (.inr (Nat.le_refl _)) (.slice va' n' vc'))
            have hf57 : Fr (· = w.heap.size) w5 (w6.setCell ⟨w.heap.size, 5, none⟩ (.slice va' n' vc')) := (((Fr.refl (· = w.heap.size) w5).alloc _).grown hgrow (fun k hk => .inr (by simp [Value.ownBlock] at hk; omega))).setCell (p := ⟨w.heap.size, 5, none⟩) (.inl rfl) _
            have HR7 := Lib.hid (HR5.out.fr hf57 (fun b hb e => by have := Hlt.out b hb; omega))
            have hb6 : w6.heap[w.heap.size]? = some (.cells #[.int .u64 x.id, .int .u64 x.uid, .int .u32 x.addr, .int .i64 x.port, .int .u64 x.til, .slice a x.bs.length cc] 34 (0, 0)) := kept_block hgrow ((Below.heap_alloc _ _ _ hbl5).trans Hbx5.out) (by simp [Value.ownBlock]; omega)
            have Hbx7 := Lib.hid (heap_setCell_same w6 w.heap.size 5 _ _ (.slice va' n' vc') hb6)
            have HB7 := Lib.hid (show OwnB (w6.setCell ⟨w.heap.size, 5, none⟩ (.slice va' n' vc')) (w.heap.size + 1) (.slice va' n' vc') x.bs from ownsRow_mono (ownsRow_setCell_below (by simpa using hown') (by dsimp only; omega) _) (by omega))
            generalize w6.setCell ⟨w.heap.size, 5, none⟩ (.slice va' n' vc') = w7 at *
            clear hc6 hf6 hown' hgrow hwh hf57 hb6 b1 b2
            obtain ⟨b1, b2⟩ := block_cells Hbx7.out
            obtain ⟨p1, p2⟩ := block_cells HR7.out.ptr
            have hp7 := (Array.getElem?_eq_some_iff.1 HR7.out.ptr).1
            have hb7 := (Array.getElem?_eq_some_iff.1 Hbx7.out).1
            go_region_law
              (first
                | (refine step_append_any rfl (.tmp 49) (.tmp 53) rfl elemHeld w7.heap.size (.slice (some ⟨w7.heap.size, 0, none⟩) 0 0) 0 [] (by rfl) (by first | exact empty_row (heap_alloc_new _ _) (by simp) | exact empty_row (heap_alloc2 _ _ _) (by simp) | exact empty_row ((Below.heap_alloc _ _ _ (by simp)).trans (heap_alloc_new _ _)) (by simp)) va zs.length vc (flat zs) (by rfl) (flat_length zs) (own_src (HR7.out.rd.frS (S := Nob) (by first | exact ((Fr.refl Nob w7).drew).alloc _ | exact (((Fr.refl Nob w7).drew).alloc _).alloc _) (fun _ _ e => e)).1) (flat_one_cells zs) (by omega) (by simp; try omega) ?_; intro v1 w9 hown9 hgrow9 hwh9; rw [Nat.zero_add, List.nil_append] at hown9; obtain ⟨va1, vc1, rfl⟩ := ownsRow_slice hown9; have fr9 : Fr Nob w7 w9 := (by first | exact (((Fr.refl Nob w7).drew).alloc _).grown hgrow9 (fun k hk => .inr (by simp [Value.ownBlock] at hk; omega)) | exact ((((Fr.refl Nob w7).drew).alloc _).alloc _).grown hgrow9 (fun k hk => .inr (by simp [Value.ownBlock] at hk; omega))); obtain ⟨b91, b92⟩ := block_cells ((fr9.block _ hb7 (fun e => e)).trans Hbx7.out); obtain ⟨p91, p92⟩ := block_cells ((fr9.block _ hp7 (fun e => e)).trans HR7.out.ptr))
                | (refine step_append_any rfl (.tmp 49) (.tmp 53) rfl elemHeld w7.heap.size (.slice (some ⟨w7.heap.size + 1, 0, none⟩) 0 0) 0 [] (by rfl) (by first | exact empty_row (heap_alloc_new _ _) (by simp) | exact empty_row (heap_alloc2 _ _ _) (by simp) | exact empty_row ((Below.heap_alloc _ _ _ (by simp)).trans (heap_alloc_new _ _)) (by simp)) va zs.length vc (flat zs) (by rfl) (flat_length zs) (own_src (HR7.out.rd.frS (S := Nob) (by first | exact ((Fr.refl Nob w7).drew).alloc _ | exact (((Fr.refl Nob w7).drew).alloc _).alloc _) (fun _ _ e => e)).1) (flat_one_cells zs) (by omega) (by simp; try omega) ?_; intro v1 w9 hown9 hgrow9 hwh9; rw [Nat.zero_add, List.nil_append] at hown9; obtain ⟨va1, vc1, rfl⟩ := ownsRow_slice hown9; have fr9 : Fr Nob w7 w9 := (by first | exact (((Fr.refl Nob w7).drew).alloc _).grown hgrow9 (fun k hk => .inr (by simp [Value.ownBlock] at hk; omega)) | exact ((((Fr.refl Nob w7).drew).alloc _).alloc _).grown hgrow9 (fun k hk => .inr (by simp [Value.ownBlock] at hk; omega))); obtain ⟨b91, b92⟩ := block_cells ((fr9.block _ hb7 (fun e => e)).trans Hbx7.out); obtain ⟨p91, p92⟩ := block_cells ((fr9.block _ hp7 (fun e => e)).trans HR7.out.ptr))
                | (refine step_append_any rfl (.tmp 54) (.tmp 56) rfl elemHeld w7.heap.size (.slice va1 zs.length vc1) zs.length (flat zs) (by rfl) (by first | exact hown9 | exact ownsRow_fr hown9 (S := Nob) ((Fr.refl Nob w9).alloc _) (fun _ _ e => e)) (some ⟨w9.heap.size, 0, none⟩) 1 1 (HQ.cells ⟨x, va', n', vc'⟩) (by rfl) rfl (.inr ⟨_, rfl, cells_at (by first | exact heap_alloc_new w9 _ | exact kept_block hgrow9 (heap_alloc_new _ _) (by simp [Value.ownBlock]) | exact kept_block hgrow9 (heap_alloc2 _ _ _) (by simp [Value.ownBlock]) | exact kept_block hgrow9 ((Below.heap_alloc _ _ _ (by simp)).trans (heap_alloc_new _ _)) (by simp [Value.ownBlock]))⟩) (held_one _) (by omega) (by have := fr9.size; simp; try omega) ?_; intro v2 w10 hown10 hgrow10 hwh10; obtain ⟨va2, n2, vc2, rfl⟩ := ownsRow_shape hown10; have fr10 : Fr Nob w7 w10 := (by first | exact fr9.grown hgrow10 (fun k hk => .inr (hown9.lt k hk).1) | exact (fr9.alloc _).grown hgrow10 (fun k hk => .inr (hown9.lt k hk).1)); obtain ⟨p101, p102⟩ := block_cells ((fr10.block _ hp7 (fun e => e)).trans HR7.out.ptr))
                | (refine step_append_any rfl (.tmp 54) (.tmp 56) rfl elemHeld w7.heap.size (.slice va1 zs.length vc1) zs.length (flat zs) (by rfl) (by first | exact hown9 | exact ownsRow_fr hown9 (S := Nob) ((Fr.refl Nob w9).alloc _) (fun _ _ e => e)) (some ⟨w7.heap.size, 0, none⟩) 1 1 (HQ.cells ⟨x, va', n', vc'⟩) (by rfl) rfl (.inr ⟨_, rfl, cells_at (by first | exact heap_alloc_new w9 _ | exact kept_block hgrow9 (heap_alloc_new _ _) (by simp [Value.ownBlock]) | exact kept_block hgrow9 (heap_alloc2 _ _ _) (by simp [Value.ownBlock]) | exact kept_block hgrow9 ((Below.heap_alloc _ _ _ (by simp)).trans (heap_alloc_new _ _)) (by simp [Value.ownBlock]))⟩) (held_one _) (by omega) (by have := fr9.size; simp; try omega) ?_; intro v2 w10 hown10 hgrow10 hwh10; obtain ⟨va2, n2, vc2, rfl⟩ := ownsRow_shape hown10; have fr10 : Fr Nob w7 w10 := (by first | exact fr9.grown hgrow10 (fun k hk => .inr (hown9.lt k hk).1) | exact (fr9.alloc _).grown hgrow10 (fun k hk => .inr (hown9.lt k hk).1)); obtain ⟨p101, p102⟩ := block_cells ((fr10.block _ hp7 (fun e => e)).trans HR7.out.ptr))
                | (refine step_append_any rfl (.tmp 54) (.tmp 56) rfl elemHeld w7.heap.size (.slice va1 zs.length vc1) zs.length (flat zs) (by rfl) (by first | exact hown9 | exact ownsRow_fr hown9 (S := Nob) ((Fr.refl Nob w9).alloc _) (fun _ _ e => e)) (some ⟨w7.heap.size + 1, 0, none⟩) 1 1 (HQ.cells ⟨x, va', n', vc'⟩) (by rfl) rfl (.inr ⟨_, rfl, cells_at (by first | exact heap_alloc_new w9 _ | exact kept_block hgrow9 (heap_alloc_new _ _) (by simp [Value.ownBlock]) | exact kept_block hgrow9 (heap_alloc2 _ _ _) (by simp [Value.ownBlock]) | exact kept_block hgrow9 ((Below.heap_alloc _ _ _ (by simp)).trans (heap_alloc_new _ _)) (by simp [Value.ownBlock]))⟩) (held_one _) (by omega) (by have := fr9.size; simp; try omega) ?_; intro v2 w10 hown10 hgrow10 hwh10; obtain ⟨va2, n2, vc2, rfl⟩ := ownsRow_shape hown10; have fr10 : Fr Nob w7 w10 := (by first | exact fr9.grown hgrow10 (fun k hk => .inr (hown9.lt k hk).1) | exact (fr9.alloc _).grown hgrow10 (fun k hk => .inr (hown9.lt k hk).1)); obtain ⟨p101, p102⟩ := block_cells ((fr10.block _ hp7 (fun e => e)).trans HR7.out.ptr)))
            all_goals go_wp2
            all_goals go_ret
            all_goals exact rput_end (y := ⟨x, va', n', vc'⟩) HF7.out HR7.out HB7.out Hok.out rfl hlt fr10 hown10 (by omega) (by unfold putNo; rw [if_neg H0.out, if_neg h1, if_neg (by rw [Hany.out]; decide), if_pos (by rw [HQs_len]; omega)]) Hlt.out HR7.out.notP
end

end Go.Proofs.Ytokgggcjfhebnaa
