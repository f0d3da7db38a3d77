/-
  HoldApart: what is taken out to one address and to another one is the same whichever comes first; a copy is apart.
-/
import Derived.Test.YtokgggcjfhebnaaRd
set_option linter.unusedVariables false
namespace Go.Proofs.Ytokgggcjfhebnaa
open Go.RowKit Go.Conc

theorem filter_aa (L : List HD) (a : Int) : (L.filter (fun x => !(x.addr == a))).filter (fun x => x.addr == a) = [] := by
  rw [List.filter_filter, List.filter_eq_nil_iff]
  intro x _ h
  simp at h

theorem filter_ab (L : List HD) {a b : Int} (h : a ≠ b) : (L.filter (fun x => !(x.addr == b))).filter (fun x => x.addr == a) = L.filter (fun x => x.addr == a) := by
  rw [List.filter_filter]
  refine List.filter_congr fun x _ => ?_
  by_cases e : x.addr = a
  · simp [e, h]
  · simp [e]

theorem filter_comm (L : List HD) (a b : Int) : (L.filter (fun x => !(x.addr == b))).filter (fun x => !(x.addr == a)) = (L.filter (fun x => !(x.addr == a))).filter (fun x => !(x.addr == b)) := by
  rw [List.filter_filter, List.filter_filter]
  exact List.filter_congr fun x _ => Bool.and_comm _ _

set_option maxRecDepth 100000 in
set_option maxHeartbeats 4000000 in
theorem apart_any {w : World} {a : Option Addr} {n cc : Nat} {l : List AD} (most x y : Int) (h : ActsR (· < w.heap.size) w (.slice a n cc) l) :
    Calls Try.prog 4 #[.int .i64 most, .slice a n cc, .int .u32 x, .int .u32 y] w fun e w' => e = .returned (.bool true) ∧ Below w.heap.size w w' := by
  obtain ⟨rfl, hc1, hm1⟩ := h.nonempty
  unfold maxLen at hm1
  have HL := Lib.hid h
  clear h
  by_cases hmost : most < 1 ∨ 16 < most
  · go_enter Try.func4, Try.ntmps4
    go_wp2_with fail
    refine (new_no most w hmost).mono ?_
    rintro e w1 ⟨rfl, rfl⟩
    go_wp2_with fail
    refine (awake_any _).mono ?_
    rintro e w1 ⟨rfl, hb⟩
    go_wp2
    go_ret
    exact ⟨rfl, hb⟩
  · go_enter Try.func4, Try.ntmps4
    go_wp2_with fail
    refine (new_ok most w (by omega) (by omega)).mono ?_
    rintro e w1 ⟨h, c, rfl, hH, hB, hc, hh⟩
    have HH := Lib.hid hH
    have HB := Lib.hid hB
    clear hH hB hmost
    go_wp2_with fail
    refine (many_any (HL.out.keep HB.out.block)).mono ?_
    rintro e w2 ⟨b, rfl, rfl, hb, hbt⟩
    cases b
    · clear hb hbt
      go_wp2_with fail
      go_loopg [11] l.length (fun g i wr => ∃ k qs, g + k = l.length ∧ i = .int .i64 (k : Nat) ∧ HoldAt wr h c most.toNat qs ∧ Below w.heap.size w wr)
      case atStart => exact ⟨0, [], by omega, rfl, HH.out, HB.out⟩
      case round =>
        obtain ⟨k, qs, hgk, rfl, hHk, hBk⟩ := hrel
        have HHk := Lib.hid hHk
        have HBk := Lib.hid hBk
        have Hgk := Lib.hid hgk
        clear hHk hBk
        by_cases hlt : k < l.length
        · clear hgk
          obtain ⟨b1, o1, cs1, rfl, hb1, hr1, ⟨hao, hxo, s1, rfl, hs1⟩⟩ := HL.out.at hlt
          obtain ⟨p0, p1, p2, p3, p4, p5, p6, p7⟩ := row8 (hr1.keep (S := (· < w.heap.size)) hb1 HBk.out.block)
          simp only [actR] at p0 p1 p2 p3 p4 p5 p6 p7
          obtain ⟨a', n', c', rfl⟩ : ∃ a n c, s1 = .slice a n c := ⟨_, _, _, hs1.choose_spec.choose_spec.1⟩
          have hcw := HHk.out.foot_lt c (.inr (.inl rfl))
          generalize hA : l[k] = A at *
          have Hxo := Lib.hid hxo
          have Hs1 := Lib.hid ((hs1.keep HBk.out.block).mono (T := (fun b => b < wr.heap.size ∧ b ≠ c)) (fun b hb => ⟨Nat.lt_of_lt_of_le hb HBk.out.size, by omega⟩))
          clear hA hr1 hao hxo hs1 hb1
          by_cases hd : A.doo = 0
          · have hdb : (A.doo == 0) = true := by simpa using hd
            clear hd
            go_wp2_with fail
            refine (put_any ⟨A.x, a', n', c'⟩ HHk.out Hxo.out Hs1.out).mono ?_
            rintro e w3 ⟨qs3, rfl, -, hold3, fr3⟩
            go_wp2_with fail
            go_roundg (gk - 1)
            case measure => have := Hgk.out; omega
            case rel => exact ⟨k + 1, qs3, by have := Hgk.out; omega, by go_num, hold3, HBk.out.trans (fr3.below HBk.out.size (fun i e => e ▸ hc))⟩
          · have hdb : (A.doo == 0) = false := by simpa using hd
            clear hd
            go_wp2_with fail
            go_roundg (gk - 1)
            case measure => have := Hgk.out; omega
            case rel => exact ⟨k + 1, qs, by have := Hgk.out; omega, by go_num, HHk.out, HBk.out⟩
        · go_wp2_with fail
          refine (all_rd HHk.out).mono ?_
          rintro e w3 ⟨a3, n3, c3, was, rfl, hwas, hrd, H3, f3⟩
          have Hwas := Lib.hid hwas
          have Hrd := Lib.hid hrd
          have HH3 := Lib.hid H3
          have HB3 := Lib.hid (HBk.out.trans (f3.below HBk.out.size (fun i e => e ▸ hc)))
          clear hwas hrd H3 f3
          go_wp2_with fail
          refine (copy_any HH3.out).mono ?_
          rintro e w4 ⟨hx, cx, xs, rfl, hxs, X4, H4, f4, hx4⟩
          have Hxs := Lib.hid hxs
          have HX4 := Lib.hid X4
          have HH4 := Lib.hid H4
          have F4 := Lib.hid f4
          have Hx4 := Lib.hid hx4
          clear hxs X4 H4 f4 hx4
          go_wp2_with fail
          refine (copy_any HH4.out).mono ?_
          rintro e w5 ⟨hy, cy, ys, rfl, hys, Y5, H5, f5, hy5⟩
          have hcn := HH3.out.foot_lt c (.inr (.inl rfl))
          have T5 := Lib.hid (show Three w w5 most.toNat h c qs hx cx xs hy cy ys w3.heap.size w4.heap.size from
            ⟨H5, HX4.out.fr f5 (fun b hb e => by have := Hx4.out b hb; omega), Y5, HH3.out.foot_lt, fun b hb => ⟨Hx4.out b hb, HX4.out.foot_lt b hb⟩, hy5,
              (HB3.out.trans (F4.out.below HB3.out.size (fun i e => e ▸ hc))).trans (f5.below (HB3.out.trans (F4.out.below HB3.out.size (fun i e => e ▸ hc))).size (fun i e => e ▸ hc)), hc⟩)
          have R5 := Lib.hid ((Hrd.out.fr HH3.out F4.out).fr HH4.out f5)
          have Hys := Lib.hid hys
          clear hys Y5 H5 f5 hy5 hcn HH3 HB3 Hrd HX4 HH4 F4 Hx4
          go_wp2_with fail
          refine (ready_rd T5.out.X x).mono ?_
          rintro e w6 ⟨ap, kp, cp, ps, xs6, rfl, hkp, hps, hxs6, rp, X6, s6, f6⟩
          have Hkp := Lib.hid hkp
          clear hkp
          have T6 := Lib.hid (T5.out.onX X6 s6 f6)
          have R6 := Lib.hid (R5.out.fr T5.out.X f6)
          have P6 := Lib.hid rp
          have Hps := Lib.hid hps
          have Hx6 := Lib.hid hxs6
          clear hps hxs6 rp X6 s6 f6 T5 R5
          go_wp2_with fail
          refine (ready_rd T6.out.X y).mono ?_
          rintro e w7 ⟨aq, kq, cq, qq, xs7, rfl, hkq, hqq, hxs7, rq, X7, s7, f7⟩
          have Hkq := Lib.hid hkq
          clear hkq
          have T7 := Lib.hid (T6.out.onX X7 s7 f7)
          have R7 := Lib.hid (R6.out.fr T6.out.X f7)
          have P7 := Lib.hid (P6.out.fr T6.out.X f7)
          have Q7 := Lib.hid rq
          have Hqq := Lib.hid hqq
          have Hx7 := Lib.hid hxs7
          clear hqq hxs7 rq X7 s7 f7 T6 R6 P6
          go_wp2_with fail
          refine (ready_rd T7.out.Y y).mono ?_
          rintro e w8 ⟨ar, kr, cr, rr, ys8, rfl, hkr, hrr, hys8, rw8, Y8, s8, f8⟩
          have Hkr := Lib.hid hkr
          clear hkr
          have T8 := Lib.hid (T7.out.onY Y8 s8 f8)
          have R8 := Lib.hid (R7.out.fr T7.out.Y f8)
          have P8 := Lib.hid (P7.out.fr T7.out.Y f8)
          have Q8 := Lib.hid (Q7.out.fr T7.out.Y f8)
          have RR8 := Lib.hid rw8
          have Hrr := Lib.hid hrr
          have Hy8 := Lib.hid hys8
          clear hrr hys8 rw8 Y8 s8 f8 T7 R7 P7 Q7
          go_wp2_with fail
          refine (ready_rd T8.out.Y x).mono ?_
          rintro e w9 ⟨az, ks, cz, ss, ys9, rfl, hks, hss, hys9, rs, Y9, s9, f9⟩
          have Hks := Lib.hid hks
          clear hks
          have T9 := Lib.hid (T8.out.onY Y9 s9 f9)
          have R9 := Lib.hid (R8.out.fr T8.out.Y f9)
          have P9 := Lib.hid (P8.out.fr T8.out.Y f9)
          have Q9 := Lib.hid (Q8.out.fr T8.out.Y f9)
          have RR9 := Lib.hid (RR8.out.fr T8.out.Y f9)
          have S9 := Lib.hid rs
          have Hss := Lib.hid hss
          have Hy9 := Lib.hid hys9
          clear hss hys9 rs Y9 s9 f9 T8 R8 P8 Q8 RR8
          by_cases hxy : x = y
          · subst hxy
            have hq0 : kq = 0 := by
              have h1 : HQs qq = [] := by rw [Hqq.out, Hx6.out, filter_aa]
              rw [Hkq.out, HQs_none h1]; rfl
            have hs0 : ks = 0 := by
              have h1 : HQs ss = [] := by rw [Hss.out, Hy8.out, filter_aa]
              rw [Hks.out, HQs_none h1]; rfl
            subst hq0 hs0
            have E1 := Lib.hid (P9.out.same RR9.out (by rw [Hps.out, Hrr.out, Hxs.out, Hys.out]))
            go_wp2_with fail
            refine E1.out.mono ?_
            rintro e w10 ⟨rfl, hb10⟩
            have hB10 := T9.out.below.trans (hb10.mono T9.out.below.size)
            have HB10 := Lib.hid hB10
            clear hB10 hb10
            go_wp2_with fail
            refine (awake_any _).mono ?_
            rintro e w11 ⟨rfl, hb11⟩
            go_wp2
            go_ret
            exact ⟨rfl, HB10.out.trans (hb11.mono HB10.out.size)⟩
          · have Hxy := Lib.hid hxy
            have E1 := Lib.hid (P9.out.same S9.out (by rw [Hps.out, Hss.out, Hy8.out, Hxs.out, Hys.out, filter_ab _ Hxy.out]))
            go_wp2_with fail
            refine E1.out.mono ?_
            rintro e w10 ⟨rfl, hb10⟩
            have T10 := Lib.hid (T9.out.on hb10)
            have R10 := Lib.hid (R9.out.below hb10)
            have E2 := Lib.hid ((Q9.out.below hb10).same (RR9.out.below hb10) (by rw [Hqq.out, Hrr.out, Hx6.out, Hxs.out, Hys.out, filter_ab _ (Ne.symm Hxy.out)]))
            clear hb10 E1 P9 Q9 RR9 S9 R9 T9
            go_wp2_with fail
            refine E2.out.mono ?_
            rintro e w11 ⟨rfl, hb11⟩
            have T11 := Lib.hid (T10.out.on hb11)
            have R11 := Lib.hid (R10.out.below hb11)
            clear hb11 E2 R10 T10
            go_wp2_with fail
            refine (all_rd T11.out.X).mono ?_
            rintro e w12 ⟨ax, nx, cx', vx, rfl, hvx, rx, X12, f12⟩
            have T12 := Lib.hid (T11.out.onX X12 (fun _ e => e) f12)
            have R12 := Lib.hid (R11.out.fr T11.out.X f12)
            have V12 := Lib.hid rx
            have Hvx := Lib.hid hvx
            clear hvx rx X12 f12 T11 R11
            go_wp2_with fail
            refine (all_rd T12.out.Y).mono ?_
            rintro e w13 ⟨ay, ny, cy', vy, rfl, hvy, ry, Y13, f13⟩
            have T13 := Lib.hid (T12.out.onY Y13 (fun _ e => e) f13)
            have R13 := Lib.hid (R12.out.fr T12.out.Y f13)
            have E3 := Lib.hid ((V12.out.fr T12.out.Y f13).same ry (by rw [Hvx.out, hvy, Hx7.out, Hx6.out, Hy9.out, Hy8.out, Hxs.out, Hys.out, filter_comm]))
            clear hvy ry Y13 f13 T12 R12 V12
            go_wp2_with fail
            refine E3.out.mono ?_
            rintro e w14 ⟨rfl, hb14⟩
            have T14 := Lib.hid (T13.out.on hb14)
            have R14 := Lib.hid (R13.out.below hb14)
            clear hb14 E3 T13 R13
            go_wp2_with fail
            refine (all_rd T14.out.H).mono ?_
            rintro e w15 ⟨ah, nh, ch, vh, rfl, hvh, rh, H15, f15⟩
            have T15 := Lib.hid (T14.out.onH H15 f15)
            have E4 := Lib.hid (rh.same (R14.out.fr T14.out.H f15) (by rw [hvh, Hwas.out]))
            clear hvh rh H15 f15 T14 R14
            go_wp2_with fail
            refine E4.out.mono ?_
            rintro e w16 ⟨rfl, hb16⟩
            have HB16 := Lib.hid (T15.out.below.trans (hb16.mono T15.out.below.size))
            clear hb16
            go_wp2_with fail
            refine (awake_any _).mono ?_
            rintro e w17 ⟨rfl, hb17⟩
            go_wp2
            go_ret
            exact ⟨rfl, HB16.out.trans (hb17.mono HB16.out.size)⟩
    · have Hbt := Lib.hid (hbt rfl)
      clear hb hbt
      go_wp2_with fail
      refine (many_any (HL.out.keep HB.out.block)).mono ?_
      rintro e w3 ⟨b, rfl, rfl, hb, -⟩
      obtain rfl : b = true := by
        cases b
        · have := hb rfl; have := Hbt.out; omega
        · rfl
      clear hb
      go_wp2_with fail
      refine (awake_any _).mono ?_
      rintro e w4 ⟨rfl, hb4⟩
      go_wp2
      go_ret
      exact ⟨rfl, HB.out.trans (hb4.mono HB.out.size)⟩

end Go.Proofs.Ytokgggcjfhebnaa
