/-
  HoldPlays: a queue does by any calls what the document's does.
-/
import Derived.Test.YtokgggcjfhebnaaStands
set_option linter.unusedVariables false
namespace Go.Proofs.Ytokgggcjfhebnaa
open Go.RowKit Go.Conc

/-- The old queue goes on alone; the copy stands beside the document's queue. -/
structure Gone (w0 w : World) (h c h' c' m : Nat) (qs ys : List HQ) (p : Nat) (v : Value) (zs : List HQ) : Prop where
  old : HoldAt w h c m qs
  pl : Pl w0 w h' c' m ys p v zs
  hc : ¬ foot h' c' ys c ∧ ¬ refFoot p v zs c ∧ w0.heap.size ≤ c

theorem Gone.of {w0 w w1 : World} {h c h' c' m p : Nat} {qs ys zs : List HQ} {v : Value} (T : Pl w0 w h c m qs p v zs) (H' : HoldAt w1 h' c' m ys) (H : HoldAt w1 h c m qs) (hf : Fr (· = c) w w1) (hn : ∀ b, foot h' c' ys b → w.heap.size ≤ b) : Gone w0 w1 h c h' c' m qs ys p v zs := by
  have hc : foot h c qs c := .inr (.inl rfl)
  have T1 := T.onH H (fun b hb => .inl hb) hf
  have hcl := T.H.foot_lt c hc
  have hz := T.below.size
  refine ⟨H, ⟨H', T1.R, fun b hb hr => ?_, T1.below, fun b hb => Nat.le_trans hz (hn b hb), T1.pnew⟩, fun hb => ?_, T.apart c hc, T.hnew c hc⟩
  · have h1 := hn b hb
    have h2 := T.R.lt b hr
    omega
  · have h1 := hn c hb
    omega

theorem Gone.step {w0 w w1 : World} {h c h' c' m p : Nat} {qs qs1 ys zs : List HQ} {v : Value} (G : Gone w0 w h c h' c' m qs ys p v zs) (H : HoldAt w1 h c m qs1) (hf : Fr (· = c) w w1) : Gone w0 w1 h c h' c' m qs1 ys p v zs :=
  ⟨H, G.pl.onS hf (fun b hb => by subst hb; exact G.hc), G.hc⟩

theorem Gone.on {w0 w w1 : World} {h c h' c' m p : Nat} {qs ys zs : List HQ} {v : Value} (G : Gone w0 w h c h' c' m qs ys p v zs) (hf : Fr Nob w w1) : Gone w0 w1 h c h' c' m qs ys p v zs :=
  ⟨G.old.fr hf (fun _ _ e => e), G.pl.on hf, G.hc⟩

set_option maxRecDepth 100000 in
set_option maxHeartbeats 4000000 in
theorem plays_any {w : World} {a : Option Addr} {n cc : Nat} {l : List AD} (most : Int) (h : ActsR (· < w.heap.size) w (.slice a n cc) l) :
    Calls Try.prog 5 #[.int .i64 most, .slice a n cc] w fun e w' => e = .returned (.bool true) ∧ Below w.heap.size w w' := by
  obtain ⟨rfl, hc1, hm1⟩ := h.nonempty
  unfold maxLen at hm1
  have HL := Lib.hid h
  clear h
  go_enter Try.func5, Try.ntmps5
  go_wp2_with fail
  refine (many_any HL.out).mono ?_
  rintro e w2 ⟨b, rfl, rfl, hb, -⟩
  cases b
  · have Hb := Lib.hid (hb rfl)
    clear hb
    by_cases hmost : most < 1 ∨ 16 < most
    · go_wp2_with fail
      refine (new_no most w hmost).mono ?_
      rintro e w1 ⟨rfl, rfl⟩
      go_wp2_with fail
      refine (rnew_no most w hmost).mono ?_
      rintro e w1 ⟨rfl, rfl⟩
      go_wp2_with fail
      refine (awake_any _).mono ?_
      rintro e w1 ⟨rfl, hb⟩
      go_wp2
      go_ret
      exact ⟨rfl, hb⟩
    · go_wp2_with fail
      refine (new_ok most w (by omega) (by omega)).mono ?_
      rintro e w1 ⟨h, c, rfl, hH, hB, hc, hh⟩
      have HH := Lib.hid hH
      have HB := Lib.hid hB
      have Hc := Lib.hid hc
      have Hh := Lib.hid hh
      clear hH hB hc hh
      go_wp2_with fail
      refine (rnew_ok most w1 (by omega) (by omega)).mono ?_
      rintro e w2 ⟨p, rfl, hR, hB2, hp⟩
      have T0 := Lib.hid (show Pl w w2 h c most.toNat [] p (.slice none 0 0) [] from by
        have hf : Fr Nob w1 w2 := Fr.of_below hB2
        have h1 := HB.out.size
        refine ⟨HH.out.fr hf (fun _ _ e => e), hR, fun b hb hr => ?_, HB.out.trans (hB2.mono h1), fun b hb => ?_, by omega⟩
        · have h2 := HH.out.foot_lt b hb
          rcases hr with rfl | hr | hr
          · omega
          · cases hr
          · exact List.not_mem_nil hr
        · rcases hb with rfl | rfl | hb
          · have h3 := Hh.out; omega
          · have h3 := Hc.out; omega
          · exact (List.not_mem_nil hb).elim)
      clear hR hB2 hp HH HB Hc Hh hmost
      go_wp2_with fail
      go_loopg [5, 8] l.length (fun g hv i wr => ∃ k h c qs v zs, g + k = l.length ∧ hv = .pointer (some ⟨h, 0, none⟩) ∧ i = .int .i64 (k : Nat) ∧ Pl w wr h c most.toNat qs p v zs ∧ HQs zs = HQs qs)
      case atStart => exact ⟨0, h, c, [], _, [], by omega, rfl, rfl, T0.out, rfl⟩
      case round =>
        obtain ⟨k, h, c, qs, v, zs, hgk, rfl, rfl, hT, hs⟩ := hrel
        have HT := Lib.hid hT
        have Hs := Lib.hid hs
        have Hgk := Lib.hid hgk
        clear hT hs
        by_cases hlt : k < l.length
        · clear hgk
          obtain ⟨b1, o1, cs1, rfl, hb1, hr1, ⟨hao, hxo, s1, rfl, hs1⟩⟩ := HL.out.at hlt
          obtain ⟨p0, p1, p2, p3, p4, p5, p6, p7⟩ := row8 (hr1.keep (S := (· < w.heap.size)) hb1 HT.out.below.block)
          simp only [actR] at p0 p1 p2 p3 p4 p5 p6 p7
          obtain ⟨a', n', c', rfl⟩ : ∃ a n c, s1 = .slice a n c := ⟨_, _, _, hs1.choose_spec.choose_spec.1⟩
          have hAl : l[k].x.bs.length ≤ 70000 := by
            have h1 := bytes_le_tot (List.getElem_mem hlt)
            have h2 := Hb.out
            have h3 : l[k].x.bs.length / 128 < 500 := by omega
            omega
          generalize hA : l[k] = A at *
          have Hxo := Lib.hid hxo
          have Hs1 := Lib.hid hs1
          clear hA hr1 hao hxo hs1 hb1
          go_upto_if 54 with fail
          go_cut [5] (fun hv wx => ∃ h c qs v zs, hv = .pointer (some ⟨h, 0, none⟩) ∧ Pl w wx h c most.toNat qs p v zs ∧ HQs zs = HQs qs)
          case first =>
            by_cases hd : A.doo = 4
            · have hdb : (A.doo == 4) = true := by simpa using hd
              clear hd
              go_wp2_with fail
              refine (copy_any HT.out.H).mono ?_
              rintro e w3 ⟨h', c', ys, rfl, hys, H', Ho, hf, hn⟩
              have G3 := Lib.hid (Gone.of HT.out H' Ho hf hn)
              have Hys := Lib.hid hys
              clear hys H' Ho hf hn
              go_wp2_with fail
              refine (held_any 9223372036854775808 1 1 _).mono ?_
              rintro e w4 ⟨q4, rfl, qx4, qb4, hb4⟩
              have QX4 := Lib.hid qx4
              have QB4 := Lib.hid qb4
              have CL4 := Lib.hid (G3.out.old.foot_lt c (.inr (.inl rfl)))
              have G4 := Lib.hid (G3.out.on (Fr.of_below hb4))
              clear qx4 qb4 hb4 G3
              go_wp2_with fail
              refine (put_any q4 G4.out.old (by rw [QX4.out]; exact hx_ok (by decide) (by decide) (by decide)) (QB4.out.mono (fun b hb => ⟨hb.2, by have h1 := CL4.out; have h2 := hb.1; omega⟩))).mono ?_
              rintro e w5 ⟨qs5, rfl, -, H5, hf5⟩
              have G5 := Lib.hid (G4.out.step H5 hf5)
              clear H5 hf5 G4 QX4 QB4 CL4
              go_wp2_with fail
              refine (late_take G5.out.old _).mono ?_
              rintro e w6 ⟨a6, k6, cc6, ys6, qs6, rfl, -, -, -, -, H6, hf6, -, -⟩
              have G6 := Lib.hid (G5.out.step H6 hf6)
              clear H6 hf6 G5
              go_wp2_with fail
              go_meet
              case rel => exact ⟨h', c', ys, v, zs, rfl, G6.out.pl, by rw [Hs.out, Hys.out]⟩
            · have hdb : (A.doo == 4) = false := by simpa using hd
              clear hd
              go_wp2_with fail
              refine (act_any HT.out Hs.out A.doo ⟨A.x, a', n', c'⟩ A.n Hxo.out Hs1.out hAl).mono ?_
              rintro e w3 ⟨rfl, qs3, v3, zs3, T3, hs3⟩
              have HT3 := Lib.hid T3
              have Hs3 := Lib.hid hs3
              clear T3 hs3
              go_wp2_with fail
              go_meet
              case rel => exact ⟨h, c, qs3, v3, zs3, rfl, HT3.out, Hs3.out⟩
          case rest =>
            obtain ⟨h9, c9, qs9, v9, zs9, rfl, T9, hs9⟩ := hcut
            have HT9 := Lib.hid T9
            have Hs9 := Lib.hid hs9
            clear T9 hs9
            go_wp2_with fail
            refine (stands_any HT9.out Hs9.out).mono ?_
            rintro e w4 ⟨rfl, qs4, v4, zs4, T4, hs4⟩
            have HT4 := Lib.hid T4
            have Hs4 := Lib.hid hs4
            clear T4 hs4
            go_wp2_with fail
            go_roundg (gk - 1)
            case measure => have := Hgk.out; omega
            case rel => exact ⟨k + 1, h9, c9, qs4, v4, zs4, by have := Hgk.out; omega, rfl, by go_num, HT4.out, Hs4.out⟩
        · go_wp2_with fail
          refine (awake_any _).mono ?_
          rintro e w2 ⟨rfl, hb2⟩
          go_wp2
          go_ret
          exact ⟨rfl, HT.out.below.trans (hb2.mono HT.out.below.size)⟩
  · clear hb
    go_wp2_with fail
    refine (awake_any _).mono ?_
    rintro e w1 ⟨rfl, hb⟩
    go_wp2
    go_ret
    exact ⟨rfl, hb⟩

end Go.Proofs.Ytokgggcjfhebnaa
