/-
  awake answers true: the walk.
-/
import Derived.Test.YtokgggcjfhebnaaAwake
set_option linter.unusedVariables false
namespace Go.Proofs.Ytokgggcjfhebnaa
open Go.RowKit Go.Conc

set_option maxRecDepth 100000 in
set_option maxHeartbeats 4000000 in
theorem awake_any (w : World) : Calls Try.prog 9 #[] w fun e w' => e = .returned (.bool true) ∧ Below w.heap.size w w' := by
  go_enter Try.func9, Try.ntmps9
  go_wp2_with fail
  refine (new_ok 2 w (by decide) (by decide)).mono ?_
  rintro e w1 ⟨h, c, rfl, hH, hB, hc, hh⟩
  have H1 := Lib.hid hH
  have B1 := Lib.hid hB
  have Hc := Lib.hid hc
  have HL1 : Hid (HQs ([] : List HQ) = []) := rfl
  clear hH hB hc hh
  go_wp2_with fail
  refine (held_any 1 7 20 _).mono ?_
  rintro e w2 ⟨q2, rfl, qx2, qb2, hb2⟩
  have QX2 := Lib.hid qx2
  have QB2 := Lib.hid qb2
  have CL2 := Lib.hid (H1.out.foot_lt c (.inr (.inl rfl)))
  have H2 := Lib.hid (H1.out.fr (S := fun _ => False) (Fr.of_below hb2) (fun _ _ e => e))
  have B2 := Lib.hid (B1.out.trans (hb2.mono B1.out.size))
  clear qx2 qb2 hb2 H1 B1
  go_wp2_with fail
  refine (put_law H2.out HL1.out q2 (by rw [QX2.out]; exact hx_ok (by decide) (by decide) (by decide)) QB2.out (fun b hb => ⟨hb.2, by have h1 := CL2.out; have h2 := hb.1; omega⟩) (k := 0) (by rw [QX2.out]; decide)).mono ?_
  rintro e w3 ⟨qs3, rfl, hl3, h3, fr3⟩
  have HL3 : Hid (HQs qs3 = [hx 1 7 20]) := by rw [hl3, QX2.out]; rfl
  have B3 := Lib.hid (B2.out.trans (fr3.below B2.out.size (fun i hi => hi ▸ Hc.out)))
  have H3 := Lib.hid h3
  clear hl3 h3 fr3 H2 B2 HL1 QX2 QB2 CL2
  go_wp2_with fail
  refine (held_any 2 8 20 _).mono ?_
  rintro e w4 ⟨q4, rfl, qx4, qb4, hb4⟩
  have QX4 := Lib.hid qx4
  have QB4 := Lib.hid qb4
  have CL4 := Lib.hid (H3.out.foot_lt c (.inr (.inl rfl)))
  have H4 := Lib.hid (H3.out.fr (S := fun _ => False) (Fr.of_below hb4) (fun _ _ e => e))
  have B4 := Lib.hid (B3.out.trans (hb4.mono B3.out.size))
  clear qx4 qb4 hb4 H3 B3
  go_wp2_with fail
  refine (put_law H4.out HL3.out q4 (by rw [QX4.out]; exact hx_ok (by decide) (by decide) (by decide)) QB4.out (fun b hb => ⟨hb.2, by have h1 := CL4.out; have h2 := hb.1; omega⟩) (k := 0) (by rw [QX4.out]; decide)).mono ?_
  rintro e w5 ⟨qs5, rfl, hl5, h5, fr5⟩
  have HL5 : Hid (HQs qs5 = [hx 1 7 20, hx 2 8 20]) := by rw [hl5, QX4.out]; rfl
  have B5 := Lib.hid (B4.out.trans (fr5.below B4.out.size (fun i hi => hi ▸ Hc.out)))
  have H5 := Lib.hid h5
  clear hl5 h5 fr5 H4 B4 HL3 QX4 QB4 CL4
  go_wp2_with fail
  refine (held_any 2 9 20 _).mono ?_
  rintro e w6 ⟨q6, rfl, qx6, qb6, hb6⟩
  have QX6 := Lib.hid qx6
  have QB6 := Lib.hid qb6
  have CL6 := Lib.hid (H5.out.foot_lt c (.inr (.inl rfl)))
  have H6 := Lib.hid (H5.out.fr (S := fun _ => False) (Fr.of_below hb6) (fun _ _ e => e))
  have B6 := Lib.hid (B5.out.trans (hb6.mono B5.out.size))
  clear qx6 qb6 hb6 H5 B5
  go_wp2_with fail
  refine (put_law H6.out HL5.out q6 (by rw [QX6.out]; exact hx_ok (by decide) (by decide) (by decide)) QB6.out (fun b hb => ⟨hb.2, by have h1 := CL6.out; have h2 := hb.1; omega⟩) (k := 5) (by rw [QX6.out]; decide)).mono ?_
  rintro e w7 ⟨qs7, rfl, hl7, h7, fr7⟩
  have HL7 : Hid (HQs qs7 = [hx 1 7 20, hx 2 8 20]) := by rw [hl7, QX6.out]; rfl
  have B7 := Lib.hid (B6.out.trans (fr7.below B6.out.size (fun i hi => hi ▸ Hc.out)))
  have H7 := Lib.hid h7
  clear hl7 h7 fr7 H6 B6 HL5 QX6 QB6 CL6
  go_wp2_with fail
  refine (held_any 3 7 20 _).mono ?_
  rintro e w8 ⟨q8, rfl, qx8, qb8, hb8⟩
  have QX8 := Lib.hid qx8
  have QB8 := Lib.hid qb8
  have CL8 := Lib.hid (H7.out.foot_lt c (.inr (.inl rfl)))
  have H8 := Lib.hid (H7.out.fr (S := fun _ => False) (Fr.of_below hb8) (fun _ _ e => e))
  have B8 := Lib.hid (B7.out.trans (hb8.mono B7.out.size))
  clear qx8 qb8 hb8 H7 B7
  go_wp2_with fail
  refine (put_law H8.out HL7.out q8 (by rw [QX8.out]; exact hx_ok (by decide) (by decide) (by decide)) QB8.out (fun b hb => ⟨hb.2, by have h1 := CL8.out; have h2 := hb.1; omega⟩) (k := 3) (by rw [QX8.out]; decide)).mono ?_
  rintro e w9 ⟨qs9, rfl, hl9, h9, fr9⟩
  have HL9 : Hid (HQs qs9 = [hx 1 7 20, hx 2 8 20]) := by rw [hl9, QX8.out]; rfl
  have B9 := Lib.hid (B8.out.trans (fr9.below B8.out.size (fun i hi => hi ▸ Hc.out)))
  have H9 := Lib.hid h9
  clear hl9 h9 fr9 H8 B8 HL7 QX8 QB8 CL8
  go_wp2_with fail
  refine (ready_law H9.out HL9.out 7 (O := [hx 1 7 20]) (N := [hx 2 8 20]) (k := 1) (by decide) (by decide) rfl).mono ?_
  rintro e w10 ⟨a10, c10, ys10, qs10, rfl, hy10, own10, h10, hl10, fr10, -, -⟩
  have HL10 := Lib.hid hl10
  have H10 := Lib.hid h10
  have B10 := Lib.hid (B9.out.trans (fr10.below B9.out.size (fun i hi => hi ▸ Hc.out)))
  obtain ⟨y10, rfl, yx10⟩ := HQs_one hy10
  have R10 := Lib.hid own10
  have YX10 := Lib.hid yx10
  clear own10 hy10 yx10 hl10 h10 fr10 H9 B9 HL9
  go_wp2_with fail
  refine (all_any H10.out).mono ?_
  rintro e w11 ⟨v11, ys11, rfl, hy11, ho11, h11, fr11⟩
  have R12 := Lib.hid (ownsRow_fr R10.out fr11 (own_ne_chan R10.out H10.out))
  clear R10
  obtain ⟨y11, rfl, yx11⟩ := HQs_one (hy11.trans HL10.out)
  have own11 := ho11.row
  obtain ⟨a11, c11, rfl⟩ := ownsRow_slice own11
  have R11 := Lib.hid (show World.ownsRow _ _ _ _ (.slice a11 1 c11) 1 _ from own11)
  have YX11 := Lib.hid yx11
  have H11 := Lib.hid h11
  have B11 := Lib.hid (B10.out.trans (fr11.below B10.out.size (fun i hi => hi ▸ Hc.out)))
  clear own11 ho11 hy11 yx11 h11 fr11 H10 B10
  simp only [List.length_singleton]
  go_wp2_with fail
  refine (held_any 4 8 9 _).mono ?_
  rintro e w13 ⟨q13, rfl, qx13, qb13, hb13⟩
  have QX13 := Lib.hid qx13
  have QB13 := Lib.hid qb13
  have CL13 := Lib.hid (H11.out.foot_lt c (.inr (.inl rfl)))
  have R14 := Lib.hid (ownsRow_fr R12.out (S := fun _ => False) (Fr.of_below hb13) (fun _ _ e => e))
  clear R12
  have R15 := Lib.hid (ownsRow_fr R11.out (S := fun _ => False) (Fr.of_below hb13) (fun _ _ e => e))
  clear R11
  have H13 := Lib.hid (H11.out.fr (S := fun _ => False) (Fr.of_below hb13) (fun _ _ e => e))
  have B13 := Lib.hid (B11.out.trans (hb13.mono B11.out.size))
  clear qx13 qb13 hb13 H11 B11
  go_wp2_with fail
  refine (put_law H13.out HL10.out q13 (by rw [QX13.out]; exact hx_ok (by decide) (by decide) (by decide)) QB13.out (fun b hb => ⟨hb.2, by have h1 := CL13.out; have h2 := hb.1; omega⟩) (k := 0) (by rw [QX13.out]; decide)).mono ?_
  rintro e w16 ⟨qs16, rfl, hl16, h16, fr16⟩
  have HL16 : Hid (HQs qs16 = [hx 2 8 20, hx 4 8 9]) := by rw [hl16, QX13.out]; rfl
  have R17 := Lib.hid (ownsRow_fr R14.out fr16 (own_ne_chan R14.out H13.out))
  clear R14
  have R18 := Lib.hid (ownsRow_fr R15.out fr16 (own_ne_chan R15.out H13.out))
  clear R15
  have B16 := Lib.hid (B13.out.trans (fr16.below B13.out.size (fun i hi => hi ▸ Hc.out)))
  have H16 := Lib.hid h16
  clear hl16 h16 fr16 H13 B13 HL10 QX13 QB13 CL13
  go_wp2_with fail
  refine (late_law H16.out HL16.out 8 (O := []) (N := [hx 2 8 20, hx 4 8 9]) (k := 0) (by decide) (by decide) rfl).mono ?_
  rintro e w19 ⟨a19, c19, ys19, qs19, rfl, hy19, own19, h19, hl19, fr19, -, -⟩
  have R20 := Lib.hid (ownsRow_fr R17.out fr19 (own_ne_chan R17.out H16.out))
  clear R17
  have R21 := Lib.hid (ownsRow_fr R18.out fr19 (own_ne_chan R18.out H16.out))
  clear R18
  have HL19 := Lib.hid hl19
  have H19 := Lib.hid h19
  have B19 := Lib.hid (B16.out.trans (fr19.below B16.out.size (fun i hi => hi ▸ Hc.out)))
  clear own19 hy19 hl19 h19 fr19 H16 B16 HL16
  go_wp2_with fail
  refine (late_law H19.out HL19.out 9 (O := [hx 4 8 9]) (N := [hx 2 8 20]) (k := 1) (by decide) (by decide) rfl).mono ?_
  rintro e w22 ⟨a22, c22, ys22, qs22, rfl, hy22, own22, h22, hl22, fr22, -, -⟩
  have R23 := Lib.hid (ownsRow_fr R20.out fr22 (own_ne_chan R20.out H19.out))
  clear R20
  have R24 := Lib.hid (ownsRow_fr R21.out fr22 (own_ne_chan R21.out H19.out))
  clear R21
  have HL22 := Lib.hid hl22
  have H22 := Lib.hid h22
  have B22 := Lib.hid (B19.out.trans (fr22.below B19.out.size (fun i hi => hi ▸ Hc.out)))
  obtain ⟨y22, rfl, yx22⟩ := HQs_one hy22
  have R22 := Lib.hid own22
  have YX22 := Lib.hid yx22
  clear own22 hy22 yx22 hl22 h22 fr22 H19 B19 HL19
  obtain ⟨g25, rfl, gl25, gc25⟩ := one_cell R23.out
  rw [YX10.out] at gc25
  simp only [hx] at gc25
  obtain ⟨g26, rfl, gl26, gc26⟩ := one_cell R24.out
  rw [YX11.out] at gc26
  simp only [hx] at gc26
  obtain ⟨g27, rfl, gl27, gc27⟩ := one_cell R22.out
  rw [YX22.out] at gc27
  simp only [hx] at gc27
  go_wp2_with fail
  have an : List.any _ (fun q : HQ => q.x.addr == 8) = true := (any_HQs' _ (fun x => x.addr == 8)).symm.trans (by rw [HL22.out]; decide)
  have ln := (congrArg List.length HL22.out)
  simp only [HQs, List.length_map, List.length_singleton] at ln
  refine (has_any H22.out 8).mono ?_
  rintro e w50 ⟨rfl, h50, fr50⟩
  rw [an]
  have H50 := Lib.hid h50
  have B50 := Lib.hid (B22.out.trans (fr50.below B22.out.size (fun i hi => hi ▸ Hc.out)))
  have LN := Lib.hid ln
  clear an ln h50 fr50
  go_wp2_with fail
  refine (len_any H50.out).mono ?_
  rintro e w51 ⟨rfl, rfl⟩
  rw [LN.out]
  go_wp2
  go_ret
  exact ⟨rfl, B50.out⟩

end Go.Proofs.Ytokgggcjfhebnaa
