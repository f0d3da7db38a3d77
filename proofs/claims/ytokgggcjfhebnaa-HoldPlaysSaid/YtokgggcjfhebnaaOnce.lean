/-
  HoldOnce: the queue, and the requests that were put in and not taken out, read alike, call by call.
-/
import Derived.Test.YtokgggcjfhebnaaDoes
import Derived.Test.YtokgggcjfhebnaaSame
import Derived.Deep.DeepFit
set_option linter.unusedVariables false
namespace Go.Proofs.Ytokgggcjfhebnaa
open Go.RowKit Go.Conc

/-- A row of requests reads as what they are. -/
theorem helds_of_row {w : World} {B : Nat} {v : Value} {zs : List HQ} (h : w.ownsRow B 34 6 v zs.length (flat zs)) (hz : ∀ z ∈ zs, z.x.ok ∧ BytesR (· < w.heap.size) w z.s z.x.bs) : HeldsR (· < w.heap.size) w v (HQs zs) := by
  have hc := fun g hg => h.cells (g := g) hg
  have hl := h.lt
  have hlen : (HQs zs).length = zs.length := by simp [HQs]
  rcases h.2 with ⟨rfl, e2⟩ | ⟨g, cap, cur, rfl, hg, hh, hn, hm, hs, _⟩
  · exact ⟨none, 0, by rw [hlen, e2], by rw [hlen]; omega, by simp [maxLen], fun _ => rfl, fun h0 => by rw [hlen] at h0; omega⟩
  · refine ⟨some ⟨g, 0, none⟩, cap, by rw [hlen], by rw [hlen]; exact hn, hm, fun e => (by cases e), fun _ => ⟨g, 0, rfl, (hl g rfl).2, fun i hi => ?_⟩⟩
    rw [hlen] at hi
    have hmem : zs[i] ∈ zs := List.getElem_mem hi
    have hx : (HQs zs)[i]'(by rw [hlen]; exact hi) = zs[i].x := by simp [HQs]
    refine ⟨zs[i].cells, ?_, ?_⟩
    · intro j hj
      have := hc g rfl (i * 6 + j) (zs[i].cells[j]) (by rw [flat_get zs i hi j hj]; simp [hj])
      rw [← this]
      show w.cell? ⟨g, 0 + i * 6 + j, none⟩ = _
      congr 1
      unfold Addr.add
      split
      · rename_i h0
        have hi0 : 0 + i * 6 + j = 0 := by omega
        rw [hi0]
      · simp
    · rw [hx]
      exact ⟨(hz _ hmem).1, _, rfl, (hz _ hmem).2⟩

/-- One place of it. -/
theorem helds_at {w : World} {g n c j : Nat} {xs : List HD} (h : HeldsR (· < w.heap.size) w (.slice (some ⟨g, 0, none⟩) n c) xs) (hj : j < xs.length) (c' : Nat) (h1 : 1 ≤ c') (h2 : c' ≤ maxLen) :
    HeldsR (· < w.heap.size) w (.slice (some ⟨g, j * 6, none⟩) 1 c') [xs[j]] := by
  obtain ⟨b, o, cs, e, hb, hr, hx⟩ := h.at hj
  cases e
  refine ⟨some ⟨g, j * 6, none⟩, c', rfl, h1, h2, fun e => (by cases e), fun _ => ⟨g, j * 6, rfl, hb, fun i hi => ?_⟩⟩
  simp at hi
  subst hi
  refine ⟨cs, ?_, by simpa using hx⟩
  have : 0 + j * heldR.n = j * 6 + 0 * heldR.n := by show 0 + j * 6 = j * 6 + 0 * 6; omega
  rw [← this]
  exact hr

theorem Owned.elems {w : World} {B : Nat} {v : Value} {ys qs : List HQ} (h : Owned w B v ys) (e : HQs ys = HQs qs) (hq : ∀ q ∈ qs, q.x.ok) : ∀ y ∈ ys, y.x.ok ∧ BytesR (· < w.heap.size) w y.s y.x.bs := by
  intro y hy
  obtain ⟨q, hq', e'⟩ := mem_HQs e hy
  exact ⟨e' ▸ hq q hq', (h.bytes y hy).bytesR.mono (fun b hb => ((h.bytes y hy).lt b hb).2)⟩

/-- The queue, and what was put in and not taken out. -/
structure Core (w0 : World) (h c m : Nat) (vin : Value) (qs zs : List HQ) (wr : World) : Prop where
  hold : HoldAt wr h c m qs
  same : HQs zs = HQs qs
  row : wr.ownsRow w0.heap.size 34 6 vin zs.length (flat zs)
  elems : ∀ z ∈ zs, z.x.ok ∧ BytesR (· < w0.heap.size) w0 z.s z.x.bs
  below : Below w0.heap.size w0 wr
  apart : ∀ g, vin.ownBlock = some g → ¬ foot h c qs g
  hc : w0.heap.size ≤ c

theorem Core.fr {w0 wr w' : World} {h c m : Nat} {vin : Value} {qs zs : List HQ} (H : Core w0 h c m vin qs zs wr) (hh : HoldAt w' h c m qs) (hf : Fr (· = c) wr w') : Core w0 h c m vin qs zs w' :=
  ⟨hh, H.same, ownsRow_fr H.row hf (own_ne_chan H.row H.hold), H.elems, H.below.trans (hf.below H.below.size (fun i e => e ▸ H.hc)), H.apart, H.hc⟩

theorem Core.alloc {w0 wr : World} {h c m : Nat} {vin : Value} {qs zs : List HQ} (H : Core w0 h c m vin qs zs wr) (o : Obj) : Core w0 h c m vin qs zs (wr.alloc o) :=
  H.fr (H.hold.alloc o) ((Fr.refl _ wr).alloc o)

theorem Core.helds {w0 wr : World} {h c m : Nat} {vin : Value} {qs zs : List HQ} (H : Core w0 h c m vin qs zs wr) : HeldsR (· < wr.heap.size) wr vin (HQs zs) :=
  helds_of_row H.row (fun z hz => ⟨(H.elems z hz).1, ((H.elems z hz).2.keep H.below.block).mono (fun b hb => Nat.lt_of_lt_of_le hb H.below.size)⟩)

/-- What All answers is what was put in and not taken out. -/
theorem Core.all {w0 wr w1 : World} {h c m : Nat} {vin v : Value} {qs zs ys : List HQ} {B : Nat} (H : Core w0 h c m vin qs zs wr) (hys : HQs ys = HQs qs) (ho : Owned w1 B v ys) : HeldsR (· < w1.heap.size) w1 v (HQs zs) := by
  rw [H.same, ← hys]
  exact helds_of_row ho.row (ho.elems hys (fun q hq => (H.hold.ok q hq).1))

/-- A request was put in. -/
theorem Core.put {w0 w2 w3 w4 : World} {h c m : Nat} {vin vin' : Value} {qs zs : List HQ} {y q : HQ} {o : Obj} (H : Core w0 h c m vin qs zs w2) (H3 : HoldAt w3 h c m (qs ++ [y])) (f3 : Fr (· = c) w2 w3) (hy : y.x = q.x)
    (hyf : ∀ b, y.s.ownBlock = some b → w2.heap.size ≤ b) (hq : q.x.ok ∧ BytesR (· < w0.heap.size) w0 q.s q.x.bs) (hg : (w3.alloc o).grownBy w4 vin.ownBlock)
    (hown : w4.ownsRow w0.heap.size 34 6 vin' (zs.length + 1) (flat zs ++ q.cells)) (hwh : vin'.ownBlock = vin.ownBlock ∨ vin'.ownBlock = some (w3.alloc o).heap.size) : Core w0 h c m vin' (qs ++ [y]) (zs ++ [q]) w4 := by
  have hrow := H.row.lt
  have hz := f3.size
  have hS : ∀ b, foot h c (qs ++ [y]) b → ¬ vin.ownBlock = some b := by
    intro b hb e
    rcases hb with hb | hb | hb
    · exact H.apart b e (.inl hb)
    · exact H.apart b e (.inr (.inl hb))
    · rw [List.map_append, blocks_append, List.mem_append] at hb
      rcases hb with hb | hb
      · exact H.apart b e (.inr (.inr hb))
      · obtain ⟨v, hv, hvb⟩ := mem_blocks.1 hb
        simp at hv
        subst hv
        have h1 := hyf b hvb
        have h2 := (hrow b e).2
        omega
  have fr4 : Fr (fun b => vin.ownBlock = some b) w3 w4 := ((Fr.refl _ w3).alloc o).grown hg (fun k hk => .inl hk)
  refine ⟨H3.fr fr4 hS, by simp [HQs, hy] ; exact H.same, ?_, ?_, ?_, ?_, H.hc⟩
  · rw [flat_append, flat_one]
    simpa using hown
  · intro z hz'
    rcases List.mem_append.1 hz' with h' | h'
    · exact H.elems z h'
    · simp at h'; subst h'; exact hq
  · exact (H.below.trans (f3.below H.below.size (fun i e => e ▸ H.hc))).trans (fr4.below (Nat.le_trans H.below.size hz) (fun i e => (hrow i e).1))
  · intro g hg0
    rcases hwh with e | e
    · exact fun hf => hS g hf (e ▸ hg0)
    · intro hf
      rw [hg0] at e
      cases e
      have := H3.foot_lt _ hf
      simp at this
      omega

theorem same_yes {a1 a2 : Option Addr} {n1 c1 n2 c2 : Nat} {xs ys : List HD} {w : World} (h1 : HeldsR (· < w.heap.size) w (.slice a1 n1 c1) xs) (h2 : HeldsR (· < w.heap.size) w (.slice a2 n2 c2) ys) (e : xs = ys) :
    Calls Try.prog 12 #[.slice a1 n1 c1, .slice a2 n2 c2] w fun e w' => e = .returned (.bool true) ∧ Below w.heap.size w w' :=
  (same_any a1 a2 n1 c1 n2 c2 xs ys w h1 h2).mono fun e' w' h => by rw [decide_eq_true e] at h; exact h
theorem same_not {a1 a2 : Option Addr} {n1 c1 n2 c2 : Nat} {xs ys : List HD} {w : World} (h1 : HeldsR (· < w.heap.size) w (.slice a1 n1 c1) xs) (h2 : HeldsR (· < w.heap.size) w (.slice a2 n2 c2) ys) (e : xs ≠ ys) :
    Calls Try.prog 12 #[.slice a1 n1 c1, .slice a2 n2 c2] w fun e w' => e = .returned (.bool false) ∧ Below w.heap.size w w' :=
  (same_any a1 a2 n1 c1 n2 c2 xs ys w h1 h2).mono fun e' w' h => by rw [decide_eq_false e] at h; exact h

theorem ownsRow_cap {w : World} {B : Nat} {e size n n' c : Nat} {a : Option Addr} {xs : List Value} (h : w.ownsRow B e size (.slice a n c) n' xs) : n = n' ∧ n ≤ c ∧ c ≤ maxLen := by
  rcases h.2 with ⟨e, e2⟩ | ⟨g, cap, cur, e, _, _, h1, h2, _⟩
  · cases e; subst e2; exact ⟨rfl, by omega, by simp [maxLen]⟩
  · cases e; exact ⟨rfl, h1, h2⟩

theorem filter_take_get {L : List HD} {p : HD → Bool} {j : Nat} (hj : j < L.length) (hp : p L[j] = true) : ∃ h : ((L.take j).filter p).length < (L.filter p).length, (L.filter p)[((L.take j).filter p).length] = L[j] := by
  have e : L.filter p = (L.take j).filter p ++ L[j] :: (L.drop (j + 1)).filter p := by
    conv => lhs; rw [← List.take_append_drop j L, List.drop_eq_getElem_cons hj, List.filter_append, List.filter_cons_of_pos hp]
  have h : ((L.take j).filter p).length < (L.filter p).length := by rw [e]; simp
  refine ⟨h, ?_⟩
  simp only [e]
  rw [List.getElem_append_right (Nat.le_refl _)]
  simp

theorem filter_get {L : List HD} {p : HD → Bool} {k : Nat} (hk : k < (L.filter p).length) : p (L.filter p)[k] = true := (List.mem_filter.1 (List.getElem_mem hk)).2

theorem HQs_get (zs : List HQ) {j : Nat} (hj : j < zs.length) : (HQs zs)[j]'(by simpa [HQs] using hj) = zs[j].x := by simp [HQs]
theorem HQs_len (zs : List HQ) : (HQs zs).length = zs.length := by simp [HQs]
theorem HQs_take (zs : List HQ) (j : Nat) : HQs (zs.take j) = (HQs zs).take j := by simp [HQs, List.map_take]

set_option maxRecDepth 100000 in
set_option maxHeartbeats 4000000 in
theorem once_any {w : World} {a : Option Addr} {n cc : Nat} {l : List AD} (most : Int) (h : ActsR (· < w.heap.size) w (.slice a n cc) l) :
    Calls Try.prog 3 #[.int .i64 most, .slice a n cc] w fun e w' => e = .returned (.bool true) ∧ Below w.heap.size w w' := by
  obtain ⟨rfl, hc1, hm1⟩ := h.nonempty
  unfold maxLen at hm1
  have HL := Lib.hid h
  clear h
  by_cases hmost : most < 1 ∨ 16 < most
  · go_enter Try.func3, Try.ntmps3
    go_wp2_with fail
    refine (new_no most w hmost).mono ?_
    rintro e w1 ⟨rfl, rfl⟩
    go_wp2_with fail
    refine (awake_any _).mono ?_
    rintro e w1 ⟨rfl, hb⟩
    go_wp2
    go_ret
    exact ⟨rfl, hb⟩
  · go_enter Try.func3, Try.ntmps3
    go_wp2_with fail
    refine (new_ok most w (by omega) (by omega)).mono ?_
    rintro e w1 ⟨h, c, rfl, hH, hB, hc, hh⟩
    have HH := Lib.hid hH
    have HB := Lib.hid hB
    clear hH hB hmost
    go_wp2_with fail
    refine (many_any (HL.out.keep HB.out.block)).mono ?_
    rintro e w2 ⟨b, rfl, rfl, hb, -⟩
    cases b
    · have hb' := hb rfl
      clear hb
      have hhh := HH.out.foot_lt h (.inl rfl)
      go_wp2_with fail
      go_loopg [7, 8] l.length (fun g vin i wr => ∃ k qs zs, g + k = l.length ∧ i = .int .i64 (k : Nat) ∧ Core w h c most.toNat vin qs zs wr)
      case atStart => exact ⟨0, [], [], by omega, rfl, HH.out, rfl, World.ownsRow_nil _ _ _ _, by simp, HB.out, by simp [Value.ownBlock], hc⟩
      case round =>
        obtain ⟨k, qs, zs, hgk, rfl, hcore⟩ := hrel
        have HC := Lib.hid hcore
        have Hgk := Lib.hid hgk
        clear hcore
        by_cases hlt : k < l.length
        · clear hgk
          obtain ⟨b1, o1, cs1, rfl, hb1, hr1, ⟨hao, hxo, s1, rfl, hs1⟩⟩ := HL.out.at hlt
          obtain ⟨p0, p1, p2, p3, p4, p5, p6, p7⟩ := row8 (hr1.keep (S := (· < w.heap.size)) hb1 HC.out.below.block)
          simp only [actR] at p0 p1 p2 p3 p4 p5 p6 p7
          obtain ⟨a', n', c', rfl⟩ : ∃ a n c, s1 = .slice a n c := ⟨_, _, _, hs1.choose_spec.choose_spec.1⟩
          have hb1' : b1 < wr.heap.size := Nat.lt_of_lt_of_le hb1 HC.out.below.size
          generalize hA : l[k] = A at *
          have Hxo := Lib.hid hxo
          have Hs1 := Lib.hid hs1
          clear hA hr1 hao hxo hs1 hb1
          go_wp2_with fail
          refine (all_any (HC.out.hold.alloc _)).mono ?_
          rintro e w2 ⟨v2, ys2, rfl, hy2, ho2, h2, fr2⟩
          have hcc := (HC.out.hold.foot_lt c (.inr (.inl rfl)))
          have hbox : w2.heap[wr.heap.size]? = some (.cells #[.int .i64 A.doo, .int .u64 A.x.id, .int .u64 A.x.uid, .int .u32 A.x.addr, .int .i64 A.x.port, .int .u64 A.x.til, .slice a' n' c', .int .u64 A.n] 36) := (fr2.block _ (by simp) (by omega)).trans (heap_alloc_new wr _)
          have HC2 := Lib.hid ((HC.out.alloc (.cells #[.int .i64 A.doo, .int .u64 A.x.id, .int .u64 A.x.uid, .int .u32 A.x.addr, .int .i64 A.x.port, .int .u64 A.x.til, .slice a' n' c', .int .u64 A.n] 36)).fr h2 fr2)
          have Hy2 := Lib.hid hy2
          have Ho2 := Lib.hid ho2
          have hz2 := fr2.size
          simp at hz2
          obtain ⟨g1, g2⟩ := block_cells hbox
          have Hs2 := Lib.hid ((Hs1.out.keep (HC2.out.below.block)).mono (T := (· < w2.heap.size)) (fun b hb => Nat.lt_of_lt_of_le hb HC2.out.below.size))
          clear hbox hy2 ho2 h2 fr2 p0 p1 p2 p3 p4 p5 p6 p7
          obtain ⟨va, vc, rfl⟩ := ownsRow_slice Ho2.out.row
          go_upto_if 42 with fail
          go_cut [7] (fun vin' wx => ∃ qs' zs', Core w h c most.toNat vin' qs' zs' wx)
          case first =>
            by_cases hd : A.doo = 0
            · have hdb : (A.doo == 0) = true := by simpa using hd
              clear hd
              go_wp2_with fail
              refine (put_any ⟨A.x, a', n', c'⟩ HC2.out.hold Hxo.out ((Hs1.out.keep (HC2.out.below.block)).mono (fun b hb => ⟨Nat.lt_of_lt_of_le hb HC2.out.below.size, by omega⟩))).mono ?_
              rintro e w3 ⟨qs3, rfl, h3, hold3, fr3⟩
              have hbox3 := fun i => fr3.cell (i := wr.heap.size) (o := i) (by omega) (by omega)
              have Hbox3 := Lib.hid hbox3
              have H3 := Lib.hid hold3
              have F3 := Lib.hid fr3
              clear hbox3 hold3 fr3
              rcases h3 with ⟨e0, y, rfl, hyx, hyf⟩ | ⟨hne, e3⟩
              · rw [e0]
                have Hyx := Lib.hid hyx
                have Hyf := Lib.hid hyf
                clear e0 hyx hyf
                have hbox4 := Hbox3.out
                have hwlt : wr.heap.size < w3.heap.size := by have := F3.out.size; omega
                have hrow3 := ownsRow_fr HC2.out.row F3.out (own_ne_chan HC2.out.row HC2.out.hold)
                have Hrow3 := Lib.hid (ownsRow_fr hrow3 (S := fun _ => False) ((Fr.refl _ w3).alloc (.cells (HQ.cells ⟨A.x, a', n', c'⟩).toArray 34)) (fun _ _ e => e))
                have Hzl := Lib.hid (show (zs.length + 1) * 64 ≤ 140737488355328 by have h1 := len_HQs HC2.out.same; have h2 := HC2.out.hold.len; have h3 := HC2.out.hold.most; omega)
                have Hcn := Lib.hid (cell_new_row w3 (HQ.cells ⟨A.x, a', n', c'⟩) 34)
                have Hbs := Lib.hid (show w.heap.size ≤ (w3.alloc (.cells (HQ.cells ⟨A.x, a', n', c'⟩).toArray 34)).heap.size by have h1 := HC2.out.below.size; have h2 := F3.out.size; simp; omega)
                clear hrow3
                go_wp2_with (at_builtin; refine wpList_append_where rfl (.tmp 49) (.tmp 52) rfl elemHeld w.heap.size u7 _ _ rfl Hrow3.out ⟨w3.heap.size, 0, none⟩ 1 1 (HQ.cells ⟨A.x, a', n', c'⟩) rfl rfl Hcn.out (held_one _) Hzl.out Hbs.out ?_; intro v' w4 hown' hgrow hwh)
                go_meet
                case rel => exact ⟨_, _, HC2.out.put (q := ⟨A.x, a', n', c'⟩) H3.out F3.out Hyx.out Hyf.out ⟨Hxo.out, Hs1.out⟩ hgrow hown' hwh⟩
              · have e4 := e3.symm
                subst e4
                generalize putNo most.toNat (HQs qs) A.x = K at *
                have hkb : (K == 0) = false := by simpa using hne
                clear hne e3
                have HC3 := Lib.hid (HC2.out.fr H3.out F3.out)
                go_wp2_with fail
                refine (all_any H3.out).mono ?_
                rintro e w4 ⟨v4, ys4, rfl, hy4, ho4, h4, fr4⟩
                obtain ⟨va4, vc4, rfl⟩ := ownsRow_slice ho4.row
                have HA := Lib.hid (HC3.out.all hy4 ho4)
                have hbl : ∀ b ∈ blocks (.slice va ys2.length vc :: ys2.map HQ.s), b ≠ c := fun b hb => by have := (Ho2.out.lt b hb).1; simp at this; omega
                have HB2 := Lib.hid (HC3.out.all Hy2.out ((Ho2.out.fr F3.out hbl).fr fr4 hbl))
                have HC4 := Lib.hid (HC3.out.fr h4 fr4)
                clear hy4 ho4 h4 fr4 hbl
                go_wp2_with fail
                refine (same_any _ _ _ _ _ _ _ _ _ HA.out HB2.out).mono ?_
                rintro e w5 ⟨rfl, hb5⟩
                have HC5 := Lib.hid (HC4.out.fr (HC4.out.hold.fr (S := fun _ => False) (Fr.of_below hb5) (fun _ _ e => e)) (Fr.of_below hb5))
                clear hb5
                go_wp2_with fail
                go_meet
                case rel => exact ⟨_, _, HC5.out⟩
            · have hdb : (A.doo == 0) = false := by simpa using hd
              clear hd
              go_wp2_with fail
              refine (does_any HC2.out.hold A.doo ⟨A.x, a', n', c'⟩ A.n).mono ?_
              rintro e w3 ⟨p, a3, k3, cc3, ys3, qs3, rfl, hk3, hy3, hq3, hrow3, hold3, fr3, hmem3, -⟩
              have Hk3 := Lib.hid hk3
              have Hy3 := Lib.hid hy3
              have Hq3 := Lib.hid hq3
              have Hr3 := Lib.hid hrow3
              have H3 := Lib.hid hold3
              have F3 := Lib.hid fr3
              have Hm3 := Lib.hid hmem3
              clear hk3 hy3 hq3 hrow3 hold3 fr3 hmem3
              have Hzr := Lib.hid (ownsRow_fr HC2.out.row F3.out (own_ne_chan HC2.out.row HC2.out.hold))
              have Hzh := Lib.hid (helds_of_row Hzr.out (fun z hz => ⟨(HC2.out.elems z hz).1, ((HC2.out.elems z hz).2.keep (HC2.out.below.trans (F3.out.below HC2.out.below.size (fun i e => e ▸ hc))).block).mono (fun b hb => Nat.lt_of_lt_of_le hb (Nat.le_trans HC2.out.below.size F3.out.size))⟩))
              have hym : ∀ y ∈ ys3, y.x.ok ∧ BytesR (· < w3.heap.size) w3 y.s y.x.bs := fun y hy => by
                have hyq := Hm3.out y (.inr hy)
                have hob := ownsRow_fr (HC2.out.hold.bytes y hyq) F3.out (fun g hg => (HC2.out.hold.notChan.2 y hyq g hg).1)
                exact ⟨(HC2.out.hold.ok y hyq).1, (OwnB.bytesR hob).mono (fun b hb => (hob.lt b hb).2)⟩
              have Hyh := Lib.hid (helds_of_row (Hk3.out ▸ Hr3.out) hym)
              clear hym
              go_wp2_with fail
              obtain ⟨wo, rfl⟩ : ∃ wo : World, wo = wr := ⟨_, rfl⟩
              go_loopw [13, 14, 15] (fun st ki ji wi => ∃ j : Nat, j ≤ zs.length ∧ ji = .int .i64 j ∧ ki = .int .i64 ((zs.take j).filter (fun q => p q.x)).length ∧ wi.ownsRow w3.heap.size 34 6 st ((zs.take j).filter (fun q => !p q.x)).length (flat ((zs.take j).filter (fun q => !p q.x))) ∧ Fr (fun _ => False) w3 wi) (fun _ _ ji _ => zs.length - (intOf ji).toNat)
              case atStart => exact ⟨0, Nat.zero_le _, rfl, rfl, World.ownsRow_nil _ _ _ _, Fr.refl _ _⟩
              case round =>
                obtain ⟨j, hj, rfl, rfl, hst, hfri⟩ := hrel
                have Hst := Lib.hid hst
                have Hfri := Lib.hid hfri
                clear hst hfri
                obtain ⟨uz, cz, euz⟩ := ownsRow_slice Hzr.out
                subst euz
                obtain ⟨-, hcz, hcz2⟩ := ownsRow_cap Hzr.out
                obtain ⟨hk3, hcc3, hcc32⟩ := ownsRow_cap Hr3.out
                unfold maxLen at hcz2 hcc32
                clear hk3
                by_cases hjl : j < zs.length
                · obtain ⟨gz, rfl, hgz1, hgz2, hrz⟩ := row_cells (ownsRow_fr Hzr.out Hfri.out (fun _ _ e => e)) hjl rfl
                  have hjL : j < (HQs zs).length := by rw [HQs_len]; exact hjl
                  have hmono : ∀ b, b < w3.heap.size → b < wr.heap.size := fun b hb => Nat.lt_of_lt_of_le hb Hfri.out.size
                  have Hsub := Lib.hid (helds_at ((Hzh.out.keep (Hfri.out.agree (fun i hi => ⟨hi, fun e => e⟩))).mono hmono) hjL (cz - j) (by omega) (by unfold maxLen; omega))
                  have hkk : ((zs.take j).filter (fun q => p q.x)).length = (((HQs zs).take j).filter p).length := by rw [← HQs_take, ← HQs_filter, HQs_len]
                  have hfe : HQs ys3 = (HQs zs).filter p := by rw [Hy3.out, HC2.out.same]
                  have hklen : ys3.length = ((HQs zs).filter p).length := by rw [← hfe, HQs_len]
                  generalize hKN : ((zs.take j).filter (fun q => p q.x)).length = kn at *
                  have Hkn := Lib.hid hKN
                  have Hkk := Lib.hid hkk
                  have Hfe := Lib.hid hfe
                  have Hkl := Lib.hid hklen
                  clear hKN hkk hfe hklen hmono
                  by_cases hpj : p zs[j].x = true
                  · have hpj' : p (HQs zs)[j] = true := by rw [HQs_get zs hjl]; exact hpj
                    obtain ⟨hf1, hf2⟩ := filter_take_get hjL hpj'
                    have hknL : kn < (HQs ys3).length := by have := Hfe.out; have := Hkk.out; rw [Hfe.out, Hkk.out]; exact hf1
                    have hkn3 : kn < k3 := by rw [Hk3.out, ← HQs_len]; exact hknL
                    have hxe : (HQs ys3)[kn] = (HQs zs)[j] := by simp only [Hfe.out, Hkk.out]; exact hf2
                    have Hxe := Lib.hid hxe
                    clear hf1 hf2 hxe hpj'
                    obtain ⟨gy, rfl, hgy1, hgy2, -⟩ := row_cells Hr3.out (by rw [← HQs_len]; exact hknL) Hk3.out
                    have Hsuby := Lib.hid (helds_at ((Hyh.out.keep (Hfri.out.agree (fun i hi => ⟨hi, fun e => e⟩))).mono (fun b hb => Nat.lt_of_lt_of_le hb Hfri.out.size)) hknL (cc3 - kn) (by omega) (by unfold maxLen; omega))
                    go_upto_region 22 with fail
                    have i1 : (0 : Int) ≤ (j : Int) := by omega
                    have i2 : (j : Int) + 1 ≤ (cz : Int) := by omega
                    have i3 : IntKind.i64.wrap ((j : Int) + 1) = (j : Int) + 1 := IntWalk.i64_in _ (by omega)
                    have i4 : (0 : Int) ≤ (j : Int) + 1 := by omega
                    have i5 : ((j : Int) + 1).toNat = j + 1 := by omega
                    have i6 : (0 : Int) ≤ (kn : Int) := by omega
                    have i7 : (kn : Int) + 1 ≤ (cc3 : Int) := by omega
                    have i8 : IntKind.i64.wrap ((kn : Int) + 1) = (kn : Int) + 1 := IntWalk.i64_in _ (by omega)
                    have i9 : (0 : Int) ≤ (kn : Int) + 1 := by omega
                    have i0 : ((kn : Int) + 1).toNat = kn + 1 := by omega
                    have i10 : ¬ cz = j := by omega
                    have i11 : ¬ cc3 = kn := by omega
                    have Hss := Lib.hid (same_yes (w := wr.drew) Hsub.out Hsuby.out (by rw [Hxe.out]))
                    go_region_held3 (fun _ => True) (trivial) ((go_at_call 12; go_fit Hss.out; rintro e w5 ⟨rfl, hb5⟩))
                    have Hb5 := Lib.hid hb5
                    clear hb5
                    go_wp2_with fail
                    go_roundw
                    case rel =>
                      refine ⟨j + 1, by omega, by go_num, ?_, ?_, (Hfri.out.drew).trans (Fr.of_below Hb5.out)⟩
                      · rw [take_filter hjl rfl p, if_pos hpj, List.length_append, Hkn.out]; go_num
                      · rw [take_filter hjl rfl (fun x => !p x)]
                        simp only [hpj, Bool.not_true, Bool.false_eq_true, if_false, List.append_nil]
                        exact ownsRow_fr Hst.out (S := fun _ => False) ((Fr.refl _ wr).drew.trans (Fr.of_below Hb5.out)) (fun _ _ e => e)
                    case measure => simp [intOf]; omega
                  · have hpf : p zs[j].x = false := by simpa using hpj
                    go_upto_region 22 with fail
                    go_cut [84] (fun s84 wx => s84 = .bool false ∧ Fr (fun _ => False) wr wx)
                    case first =>
                      by_cases hkn3 : kn < k3
                      · have hknL : kn < (HQs ys3).length := by rw [HQs_len, ← Hk3.out]; exact hkn3
                        have hne : [(HQs zs)[j]] ≠ [(HQs ys3)[kn]] := by
                          intro e
                          have e1 : (HQs zs)[j] = (HQs ys3)[kn] := by simpa using e
                          have e2 : p (HQs ys3)[kn] = true := by simp only [Hfe.out]; exact filter_get _
                          rw [← e1, HQs_get zs hjl, hpf] at e2
                          cases e2
                        obtain ⟨gy, rfl, hgy1, hgy2, -⟩ := row_cells Hr3.out (by rw [← HQs_len]; exact hknL) Hk3.out
                        have Hsuby := Lib.hid (helds_at ((Hyh.out.keep (Hfri.out.agree (fun i hi => ⟨hi, fun e => e⟩))).mono (fun b hb => Nat.lt_of_lt_of_le hb Hfri.out.size)) hknL (cc3 - kn) (by omega) (by unfold maxLen; omega))
                        have Hss := Lib.hid (same_not (w := wr.drew) Hsub.out Hsuby.out hne)
                        have i1 : (0 : Int) ≤ (j : Int) := by omega
                        have i2 : (j : Int) + 1 ≤ (cz : Int) := by omega
                        have i3 : IntKind.i64.wrap ((j : Int) + 1) = (j : Int) + 1 := IntWalk.i64_in _ (by omega)
                        have i4 : (0 : Int) ≤ (j : Int) + 1 := by omega
                        have i5 : ((j : Int) + 1).toNat = j + 1 := by omega
                        have i6 : (0 : Int) ≤ (kn : Int) := by omega
                        have i7 : (kn : Int) + 1 ≤ (cc3 : Int) := by omega
                        have i8 : IntKind.i64.wrap ((kn : Int) + 1) = (kn : Int) + 1 := IntWalk.i64_in _ (by omega)
                        have i9 : (0 : Int) ≤ (kn : Int) + 1 := by omega
                        have i0 : ((kn : Int) + 1).toNat = kn + 1 := by omega
                        have i10 : ¬ cz = j := by omega
                        have i11 : ¬ cc3 = kn := by omega
                        clear hne
                        go_region_held3 (fun _ => True) (trivial) ((go_at_call 12; refine Hss.out.mono ?_; rintro e w5 ⟨rfl, hb5⟩))
                        have Hb5 := Lib.hid hb5
                        clear hb5
                        go_wp2_with fail
                        go_meet
                        case rel => exact ⟨rfl, (Fr.refl _ wr).drew.trans (Fr.of_below Hb5.out)⟩
                      · have hg : decide (kn < k3) = false := by simpa using hkn3
                        go_quiet (fail)
                        go_wp2_with fail
                        go_meet
                        case rel => exact ⟨rfl, rfl, rfl, rfl, Nat.le_refl _, fun _ _ _ => rfl⟩
                    case rest =>
                      obtain ⟨rfl, frc⟩ := hcut
                      have Hfrc := Lib.hid frc
                      clear frc
                      have hrc := hrz.keep (S := (· = gz)) rfl (Hfrc.out.agree (by rintro i rfl; exact ⟨hgz2, fun e => e⟩))
                      have hgw : gz < wc.heap.size := Nat.lt_of_lt_of_le hgz2 Hfrc.out.size
                      have hmz : zs[j] ∈ zs := List.getElem_mem hjl
                      generalize hZ : zs[j] = z at *
                      obtain ⟨zx, za, zn, zc⟩ := z
                      obtain ⟨p0, p1, p2, p3, p4, p5⟩ := row6 hrc
                      simp only [HQ.s] at p5
                      have HZ := Lib.hid hZ
                      have Hpf := Lib.hid hpf
                      have Hstc := Lib.hid (ownsRow_fr Hst.out (S := fun _ => False) (Hfrc.out.alloc (.cells (HQ.cells ⟨zx, za, zn, zc⟩).toArray 34)) (fun _ _ e => e))
                      have Hcn := Lib.hid (cell_new_row wc (HQ.cells ⟨zx, za, zn, zc⟩) 34)
                      have Hzl := Lib.hid (show (((zs.take j).filter (fun q => !p q.x)).length + 1) * 64 ≤ 140737488355328 by have h0 := List.length_filter_le (fun q : HQ => !p q.x) (zs.take j); have h00 := List.length_take_le j zs; have h1 := len_HQs HC2.out.same; have h2 := HC2.out.hold.len; have h3 := HC2.out.hold.most; omega)
                      have Hbs := Lib.hid (show w3.heap.size ≤ (wc.alloc (.cells (HQ.cells ⟨zx, za, zn, zc⟩).toArray 34)).heap.size by have h1 := Hfrc.out.size; have h2 := Hfri.out.size; simp; omega)
                      clear hrc hZ hpf hpj hrz hmz
                      go_wp2_with (at_builtin; refine wpList_append_where rfl (.tmp 87) (.tmp 92) rfl elemHeld w3.heap.size u13 _ _ rfl Hstc.out ⟨wc.heap.size, 0, none⟩ 1 1 (HQ.cells ⟨zx, za, zn, zc⟩) rfl rfl Hcn.out (held_one _) Hzl.out Hbs.out ?_; intro v' w6 hown' hgrow hwh)
                      go_roundw
                      case rel =>
                        refine ⟨j + 1, by omega, by go_num, ?_, ?_, ?_⟩
                        · rw [take_filter hjl HZ.out p]
                          simp only [Hpf.out, Bool.false_eq_true, if_false, List.append_nil]
                          rw [Hkn.out]
                        · rw [take_filter hjl HZ.out (fun x => !p x), if_pos (by simp [Hpf.out]), flat_append, flat_one]
                          simpa using hown'
                        · exact ((Hfri.out.trans Hfrc.out).alloc _).grown hgrow (fun g hg => .inr (Hstc.out.lt g hg).1)
                      case measure => simp [intOf]; omega
                · have ej : j = zs.length := by omega
                  subst ej
                  have hke : ((zs.take zs.length).filter (fun q => p q.x)).length = k3 := by
                    rw [List.take_length, Hk3.out, ← HQs_len ys3, Hy3.out, ← HC2.out.same, ← HQs_filter, HQs_len]
                  have hst' := Hst.out
                  rw [List.take_length] at hst'
                  have Hst2 := Lib.hid hst'
                  rw [hke]
                  clear hst' hke
                  go_wp2_with fail
                  go_meet
                  case rel =>
                    exact ⟨_, _, ⟨H3.out.fr Hfri.out (fun _ _ e => e), by rw [HQs_filter zs (fun x => !p x), HC2.out.same, Hq3.out], ownsRow_mono Hst2.out (Nat.le_trans HC2.out.below.size F3.out.size), fun z hz => HC2.out.elems z (List.mem_filter.1 hz).1,
                      (HC2.out.below.trans (F3.out.below HC2.out.below.size (fun i e => e ▸ hc))).trans (Hfri.out.below (Nat.le_trans HC2.out.below.size F3.out.size) (fun _ e => e.elim)), fun g hg hf => by have h1 := (Hst2.out.lt g hg).1; have h2 := H3.out.foot_lt g hf; omega, hc⟩⟩
          case rest =>
            obtain ⟨qs3, zs3, hc3⟩ := hcut
            have HC3 := Lib.hid hc3
            clear hc3
            obtain ⟨uz, cz, euz⟩ := ownsRow_slice HC3.out.row
            subst euz
            go_wp2_with fail
            refine (all_any HC3.out.hold).mono ?_
            rintro e w5 ⟨v5, ys5, rfl, hy5, ho5, h5, fr5⟩
            obtain ⟨va5, vc5, rfl⟩ := ownsRow_slice ho5.row
            have HA := Lib.hid (HC3.out.all hy5 ho5)
            have HC5 := Lib.hid (HC3.out.fr h5 fr5)
            have HBh := Lib.hid HC5.out.helds
            clear hy5 ho5 h5 fr5
            go_wp2_with fail
            refine (same_yes HA.out HBh.out rfl).mono ?_
            rintro e w6 ⟨rfl, hb6⟩
            have HC6 := Lib.hid (HC5.out.fr (HC5.out.hold.fr (S := fun _ => False) (Fr.of_below hb6) (fun _ _ e => e)) (Fr.of_below hb6))
            clear hb6
            go_wp2_with fail
            refine (len_any HC6.out.hold).mono ?_
            rintro e w' ⟨rfl, rfl⟩
            have hle : ¬ most < (qs3.length : Int) := by have := HC6.out.hold.len; have := HC6.out.hold.pos; omega
            go_wp2_with fail
            go_roundg (gk - 1)
            case measure => have := Hgk.out; omega
            case rel => exact ⟨k + 1, _, _, by have := Hgk.out; omega, by go_num, HC6.out⟩
        · go_wp2_with fail
          refine (awake_any _).mono ?_
          rintro e w2 ⟨rfl, hb2⟩
          go_wp2
          go_ret
          exact ⟨rfl, HC.out.below.trans (hb2.mono HC.out.below.size)⟩
    · go_wp2_with fail
      refine (awake_any _).mono ?_
      rintro e w2 ⟨rfl, hb2⟩
      go_wp2
      go_ret
      exact ⟨rfl, HB.out.trans (hb2.mono HB.out.size)⟩

end Go.Proofs.Ytokgggcjfhebnaa
