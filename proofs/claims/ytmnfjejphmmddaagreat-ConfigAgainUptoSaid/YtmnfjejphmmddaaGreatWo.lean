/-
  config.without, config.with: at any width.
-/
import Derived.Test.YtmnfjejphmmddaaGreatCp
import Derived.Test.YtmnfjejphmmddaaGreatSa
import Derived.Test.YtmnfjejphmmddaaGreatSq
import Derived.Test.YtmnfjejphmmddaaGreatWa
import Derived.Test.YtmnfjejphmmddaaGreatQt
import Derived.Test.YtmnfjejphmmddaaGreatGn
import Derived.Test.YtmnfjejphmmddaaGreatTy
import Derived.Test.YtmnfjejphmmddaaGreatGm
import Derived.Test.YtmnfjejphmmddaaGreatF6
import Derived.KernelRfl
set_option maxRecDepth 100000
set_option linter.unusedVariables false
set_option linter.unusedSimpArgs false
namespace Go.Proofs.YtmnfjejphmmddaaGreat
def woCQ (z : Nat) : QF := ⟨10, [.tmp 4], (.seq (.reg none [⟨none, (some 3), .box (.t 0)⟩, ⟨none, (some 4), .mov (.c (.d (.bool false)))⟩]) (.seq (.reg (some [[], [], [0, 1], [], [2, 0, 1, 3], [4, 2, 0, 1, 3]]) [⟨none, (some 5), .load true 1 (.t 1)⟩, ⟨none, (some 6), .load false z (.t 3)⟩, ⟨none, (some 7), .call (.t 5) [(.t 6)]⟩, ⟨none, (some 8), .load true 1 (.t 2)⟩, ⟨none, (some 9), .eq (.sc (.i .u64)) false (.t 7) (.t 8)⟩, ⟨none, (some 4), .mov (.t 9)⟩]) (.ret [4])))⟩
def woQ (cl clos del : Nat) : QF := ⟨19, [.tmp 6, .tmp 7], (.seq (.reg none [⟨none, (some 4), .box (.t 1)⟩, ⟨none, (some 5), .box (.t 2)⟩, ⟨none, (some 6), .mov (.c (.d (.slice true [])))⟩, ⟨none, (some 7), .mov (.c (.d (.bool false)))⟩]) (.seq (.reg none [⟨none, (some 9), .mov (.t 0)⟩, ⟨none, (some 10), .call (.c (.fn cl [])) [(.t 9)]⟩, ⟨none, (some 11), .mkfn clos [(.t 5), (.t 4)]⟩, ⟨none, (some 12), .call (.c (.fn del [])) [(.t 10), (.t 11)]⟩, ⟨none, (some 8), .mov (.t 12)⟩]) (.seq (.reg none [⟨none, (some 13), .mov (.t 8)⟩, ⟨none, (some 14), .mov (.t 8)⟩, ⟨none, (some 15), .len false (.t 14)⟩, ⟨none, (some 16), .mov (.t 0)⟩, ⟨none, (some 17), .len false (.t 16)⟩, ⟨none, (some 18), .bin .lss (.t 15) (.t 17)⟩, ⟨none, (some 6), .mov (.t 13)⟩, ⟨none, (some 7), .mov (.t 18)⟩]) (.ret [6, 7]))))⟩
def wiQ (z b wo clos srt : Nat) (zero : List V) : QF := ⟨26, [.tmp 6], (.seq (.reg none [⟨none, (some 4), .box (.t 1)⟩, ⟨none, (some 5), .box (.t 2)⟩, ⟨none, (some 6), .mov (.c (.d (.slice true [])))⟩]) (.seq (.reg (some [[], [], [], [1, 2], [], [0, 4, 3, 1, 2], [5, 0, 4, 3, 1, 2], [6, 5, 0, 4, 3, 1, 2], [6, 5, 0, 4, 3, 1, 2], [7, 6, 5, 0, 4, 3, 1, 2], [8, 9, 7, 6, 5, 0, 4, 3, 1, 2]]) [⟨none, (some 10), .mov (.t 0)⟩, ⟨none, (some 11), .load true 1 (.t 5)⟩, ⟨none, (some 12), .load false z (.t 4)⟩, ⟨none, (some 13), .call (.t 11) [(.t 12)]⟩, ⟨none, (some 14), .load true 1 (.t 5)⟩, ⟨none, (some 15), .call (.c (.fn wo [])) [(.t 10), (.t 13), (.t 14)]⟩, ⟨none, (some 9), .mov (.t 15)⟩, ⟨none, (some 16), .ext (.t 9) 0⟩, ⟨none, (some 17), .ext (.t 9) 1⟩, ⟨none, (some 7), .mov (.t 16)⟩, ⟨none, (some 8), .mov (.t 17)⟩]) (.seq (.reg none [⟨none, (some 18), .mov (.t 7)⟩, ⟨none, (some 19), .load false z (.t 4)⟩, ⟨none, (some 20), .buildS z 1 zero [(0, z, (.t 19))]⟩, ⟨none, (some 21), .app z b (.t 18) (.t 20)⟩, ⟨none, (some 7), .mov (.t 21)⟩]) (.seq (.reg none [⟨none, (some 22), .mov (.t 7)⟩, ⟨none, (some 23), .mkfn clos [(.t 5)]⟩, ⟨none, (some 24), .call (.c (.fn srt [])) [(.t 22), (.t 23)]⟩]) (.seq (.reg none [⟨none, (some 25), .mov (.t 7)⟩, ⟨none, (some 6), .mov (.t 25)⟩]) (.ret [6]))))))⟩
section
variable {E : Calls'} {T : FuncId → Option QF} {val : FuncId → Bool}
theorem sub_c {e : List D} {z : Nat} (he : e.length = z) : sub (e.map V.d) 0 z = some (e.map V.d) := sub_all (by simpa using he)
theorem S_woc {α : Type} {cells : α → List D} {z c idf : FuncId} {key : α → Int} (ht : T c = some (woCQ z)) (hv : val c = false) {e : α} (hz : (cells e).length = z) (hid : ∀ h, Sm E T val idf [ag (cells e)] h = some (.d (u64 (key e)), h)) {n : Int} {p r : Nat} {h : Hp} (hp : getB h.bs p = some [.fn idf []]) (hr : getB h.bs r = some [.d (u64 n)]) :
    Sm E T val c [ag (cells e), .ptr p 0, .ptr r 0] h = some (bl (key e == n), h) := by
  rw [Sm_ref ht hv]
  have hsub := sub_c hz
  simp [woCQ, Bd_mk, openA, opDE_call, noTr, apartT_mute, Tr.mute, getB_of hp, getB_of hr, hid, hsub, V.under]
/-- What is left of a row, and where it lies. -/
def Left {α : Type} (cells : α → List D) (z : Nat) (s : Sl α) (K : List α) (b0 : List Blk) (r : V) (bs' : List Blk) (lo lo' : Nat) : Prop :=
  (s.nl = true ∧ K = [] ∧ r = .d (.slice true []) ∧ bs' = b0 ∧ lo' = lo) ∨
  (s.nl = false ∧ s.l = [] ∧ K = [] ∧ r = .row b0.length 0 0 (some 0) z ∧ bs' = b0 ++ [.cells []] ∧ lo' = min lo b0.length) ∨
  (s.nl = false ∧ s.l ≠ [] ∧ r = .row (b0.length + 1) 0 K.length none z ∧ b0.length + 1 < bs'.length ∧ (∀ x, x < b0.length + 1 → bs'[x]? = (b0 ++ [.cells []])[x]?) ∧
    ∃ rest, getB bs' (b0.length + 1) = some (flat (K.map cells) ++ rest) ∧ rest.length = (s.l.length - K.length) * z)
theorem B_wo {α : Type} {cells : α → List D} {z b cl clos del idx idf : Nat} {zero : List V} {key : α → Int} (tcl : T cl = some (cloneQ z b zero)) (vcl : val cl = false) (tdel : T del = some (delQ z idx zero)) (vdel : val del = false) (tidx : T idx = some (idxQ z)) (vidx : val idx = false)
    (tc : T clos = some (woCQ z)) (vc : val clos = false) (hz : ∀ x, (cells x).length = z) (hz0 : 0 < z) (hzero : zero.length = z) (hb : b ≤ 4096) {s : Sl α} (hs : short s) (hid : ∀ e ∈ s.l, ∀ h, Sm E T val idf [ag (cells e)] h = some (.d (u64 (key e)), h)) (n : Int) (bs : List Blk) (lo : Nat) :
    ∃ r bs' lo', Bd E T val (woQ cl clos del) [.d (s.d cells), .d (u64 n), .fn idf []] ⟨bs, lo⟩ = some (.tup [r, bl (decide ((s.l.filter fun e => !(key e == n)).length < s.l.length))], ⟨bs', lo'⟩) ∧
      Left cells z s (s.l.filter fun e => !(key e == n)) (bs ++ [.cells [.d (u64 n)], .cells [.fn idf []]]) r bs' lo lo' := by
  have hp : ∀ ys, getB (bs ++ ([.cells [.d (u64 n)], .cells [.fn idf []]] ++ ys)) (bs.length + 1) = some [.fn idf []] := fun ys => by unfold getB; rw [List.getElem?_append_right (by omega)]; simp
  have hr : ∀ ys, getB (bs ++ ([.cells [.d (u64 n)], .cells [.fn idf []]] ++ ys)) bs.length = some [.d (u64 n)] := fun ys => by unfold getB; rw [List.getElem?_append_right (by omega)]; simp
  obtain ⟨nl, l⟩ := s
  have hcl := S_cloneR (E := E) (T := T) (val := val) tcl vcl hz0 hb (nl := nl) (es := l.map cells) (by simp; intro a _; exact hz a) (by simpa using hs.1) ⟨bs ++ [.cells [.d (u64 n)], .cells [.fn idf []]], lo⟩
  have hlen : l.length < 2 ^ 62 := hs.lt
  cases nl with
  | true =>
    have hl := hs.2 rfl
    simp at hl
    subst hl
    have h1 := S_del_none (E := E) (T := T) (val := val) cells (es := []) (z := z) (idx := idx) (zero := zero) tidx vidx tdel vdel (v := .d (.slice true [])) (f := clos) (caps := [.ptr (bs.length + 1) 0, .ptr bs.length 0]) (q := fun _ => false) (h := ⟨bs ++ [.cells [.d (u64 n)], .cells [.fn idf []]], lo⟩) ⟨by simp, .inl ⟨true, rfl⟩⟩ (by simp) (by simp) (by simp)
    simp [cloneR] at hcl
    refine ⟨.d (.slice true []), bs ++ [.cells [.d (u64 n)], .cells [.fn idf []]], lo, ?_, .inl ⟨rfl, rfl, rfl, rfl, rfl⟩⟩
    simp [Bd_mk, woQ, Sl.d, hcl, h1]
  | false =>
    cases hll : l with
    | nil =>
      subst hll
      have h1 := S_del_none (E := E) (T := T) (val := val) cells (es := []) (z := z) (idx := idx) (zero := zero) tidx vidx tdel vdel (v := .row (bs.length + 2) 0 0 (some 0) z) (f := clos) (caps := [.ptr (bs.length + 1) 0, .ptr bs.length 0]) (q := fun _ => false) (h := ⟨bs ++ [.cells [.d (u64 n)], .cells [.fn idf []], .cells []], min lo (bs.length + 2)⟩) ⟨by simp, .inr ⟨bs.length + 2, 0, some 0, [], rfl, by unfold getB; rw [List.getElem?_append_right (by omega)]; simp, by simp⟩⟩ (by simp) (by simp) (by simp)
      simp [cloneR] at hcl
      refine ⟨.row (bs.length + 2) 0 0 (some 0) z, bs ++ [.cells [.d (u64 n)], .cells [.fn idf []], .cells []], min lo (bs.length + 2), ?_, .inr (.inl ⟨rfl, rfl, rfl, by simp, by simp, by simp⟩)⟩
      simp [Bd_mk, woQ, Sl.d, hcl, h1]
    | cons p l' =>
      have hne : l ≠ [] := by rw [hll]; simp
      rw [← hll]
      have hc2 : cloneR z false (l.map cells) (bs ++ [.cells [.d (u64 n)], .cells [.fn idf []]]) lo = (.row (bs.length + 3) 0 l.length none z, ⟨bs ++ [.cells [.d (u64 n)], .cells [.fn idf []], .cells [], .cells (flat (l.map cells))], lo⟩) := by
        rw [hll]; simp [cloneR]
      rw [hc2] at hcl
      simp at hcl
      have hbF : getB (bs ++ [.cells [.d (u64 n)], .cells [.fn idf []], .cells [], .cells (flat (l.map cells))]) (bs.length + 3) = some (flat (l.map cells)) := by unfold getB; rw [List.getElem?_append_right (by omega)]; simp
      have hcall : ∀ e ∈ l, ∀ bs2 lo2, (∀ x, x ≠ bs.length + 3 → x < bs.length + 4 → bs2[x]? = (bs ++ [.cells [.d (u64 n)], .cells [.fn idf []], .cells [], .cells (flat (l.map cells))])[x]?) → Sm E T val clos (.agg ((cells e).map .d) :: [.ptr (bs.length + 1) 0, .ptr bs.length 0]) ⟨bs2, lo2⟩ = some (.d (.bool (key e == n)), ⟨bs2, lo2⟩) := by
        intro e he bs2 lo2 ho
        refine S_woc tc vc (hz e) (hid e he) ?_ ?_
        · have := ho (bs.length + 1) (by omega) (by omega)
          simp only [getB]
          rw [this, List.getElem?_append_right (by omega)]; simp
        · have := ho bs.length (by omega) (by omega)
          simp only [getB]
          rw [this, List.getElem?_append_right (by omega)]; simp
      by_cases hq : ∃ e ∈ l, (key e == n) = true
      · obtain ⟨bs', lo', rest, k1, k2, k3, k4, k5, k6⟩ := S_del_some (E := E) (T := T) (val := val) hz hz0 hzero tidx vidx tdel vdel (es := l) (b := bs.length + 3) (cap := none) (f := clos) (caps := [.ptr (bs.length + 1) 0, .ptr bs.length 0]) (q := fun e => key e == n) (h := ⟨bs ++ [.cells [.d (u64 n)], .cells [.fn idf []], .cells [], .cells (flat (l.map cells))], min lo (bs.length + 2)⟩) hbF hlen (fun e he bs2 lo2 _ ho => hcall e he bs2 lo2 (by simpa using ho)) hq
        refine ⟨.row (bs.length + 3) 0 (l.filter fun e => !(key e == n)).length none z, bs', lo', ?_, .inr (.inr ⟨rfl, hne, by simp, by simp at k2 ⊢; omega, ?_, rest, by simpa using k4, k6⟩)⟩
        · simp [Bd_mk, woQ, Sl.d, hcl, k1]
        · intro x hx
          simp at hx
          rw [k3 x (by omega) (by simp; omega)]
          have : ∀ ys : List Blk, ys = bs ++ [.cells [.d (u64 n)], .cells [.fn idf []], .cells []] → (bs ++ [.cells [.d (u64 n)], .cells [.fn idf []], .cells [], .cells (flat (l.map cells))])[x]? = ys[x]? := by
            rintro ys rfl
            rw [show bs ++ [.cells [.d (u64 n)], .cells [.fn idf []], .cells [], .cells (flat (l.map cells))] = (bs ++ [.cells [.d (u64 n)], .cells [.fn idf []], .cells []]) ++ [.cells (flat (l.map cells))] by simp, List.getElem?_append_left (by simp; omega)]
          exact this _ (by simp)
      · have hall : ∀ e ∈ l, (key e == n) = false := by
          intro e he
          cases hh : (key e == n) with
          | false => rfl
          | true => exact absurd ⟨e, he, hh⟩ hq
        have hK : l.filter (fun e => !(key e == n)) = l := List.filter_eq_self.2 fun e he => by simp [hall e he]
        have h1 := S_del_none (E := E) (T := T) (val := val) cells (es := l) (z := z) (idx := idx) (zero := zero) tidx vidx tdel vdel (v := .row (bs.length + 3) 0 l.length none z) (f := clos) (caps := [.ptr (bs.length + 1) 0, .ptr bs.length 0]) (q := fun e => key e == n) (h := ⟨bs ++ [.cells [.d (u64 n)], .cells [.fn idf []], .cells [], .cells (flat (l.map cells))], min lo (bs.length + 2)⟩)
          ⟨by simp; intro a _; exact hz a, .inr ⟨bs.length + 3, 0, none, _, by simp, hbF, by
            rw [sub_eq, if_pos (by rw [flatT_len hz]; simp), List.drop_zero, List.length_map, ← flatT_len hz, List.take_length]; rfl⟩⟩ hlen (fun e he lo2 => hcall e he _ lo2 fun _ _ _ => rfl) hall
        rw [hK]
        refine ⟨.row (bs.length + 3) 0 l.length none z, bs ++ [.cells [.d (u64 n)], .cells [.fn idf []], .cells [], .cells (flat (l.map cells))], min lo (bs.length + 2), ?_, .inr (.inr ⟨rfl, hne, by simp, by simp, ?_, [], by
          have e : (bs ++ [Blk.cells [V.d (u64 n)], .cells [.fn idf []]]).length + 1 = bs.length + 3 := by simp
          rw [e, hbF]; simp, by simp⟩)⟩
        · simp [Bd_mk, woQ, Sl.d, hcl, h1]
        · intro x hx
          simp at hx
          have : ∀ ys : List Blk, ys = bs ++ [.cells [.d (u64 n)], .cells [.fn idf []], .cells []] → (bs ++ [.cells [.d (u64 n)], .cells [.fn idf []], .cells [], .cells (flat (l.map cells))])[x]? = ys[x]? := by
            rintro ys rfl
            rw [show bs ++ [.cells [.d (u64 n)], .cells [.fn idf []], .cells [], .cells (flat (l.map cells))] = (bs ++ [.cells [.d (u64 n)], .cells [.fn idf []], .cells []]) ++ [.cells (flat (l.map cells))] by simp, List.getElem?_append_left (by simp; omega)]
          exact this _ (by simp)
theorem under_row {n b o m z : Nat} {cap : Option Nat} {l : List V} (hb : n ≤ b) : ¬ V.under n (.tup (.row b o m cap z :: l)) = true := by
  simp [V.under, V.under.go]
  omega
theorem frz1_of {h : Hp} {b o n z : Nat} {cap : Option Nat} {d : D} (hd : dataV h (7 + 1) (.row b o n cap z) = some d) : frz1 h (.row b o n cap z) = some (.d d) := by
  simp only [frz1_row, hd]
/-- config.without, by value. -/
theorem S_wo_val {α : Type} {cells : α → List D} {z b cl clos del idx idf wo : Nat} {zero : List V} {key : α → Int} (tcl : T cl = some (cloneQ z b zero)) (vcl : val cl = false) (tdel : T del = some (delQ z idx zero)) (vdel : val del = false) (tidx : T idx = some (idxQ z)) (vidx : val idx = false)
    (tc : T clos = some (woCQ z)) (vc : val clos = false) (two : T wo = some (woQ cl clos del)) (vwo : val wo = true) (hz : ∀ x, (cells x).length = z) (hz0 : 0 < z) (hzero : zero.length = z) (hb : b ≤ 4096) {s : Sl α} (hs : short s) (hid : ∀ e ∈ s.l, ∀ h, Sm E T val idf [ag (cells e)] h = some (.d (u64 (key e)), h)) (n : Int) (h : Hp) :
    Sm E T val wo [.d (s.d cells), .d (u64 n), .fn idf []] h = some (.tup [.d (.slice s.nl ((s.l.filter fun e => !(key e == n)).map cells)), bl (decide ((s.l.filter fun e => !(key e == n)).length < s.l.length))], h) := by
  rw [Sm_v two vwo]
  obtain ⟨r, bs', lo', k1, k2⟩ := B_wo (E := E) (T := T) (val := val) tcl vcl tdel vdel tidx vidx tc vc hz hz0 hzero hb hs hid n [] 0
  have hfr : frz h (.fn idf []) = some (.fn idf []) := rfl
  generalize hK : s.l.filter (fun e => !(key e == n)) = K at *
  have hw : ∀ e ∈ K.map cells, e.length = z := by simp; intro a _; exact hz a
  have hr : frz1 ⟨bs', lo'⟩ r = some (.d (.slice s.nl (K.map cells))) := by
    rcases k2 with ⟨h1, h2, h3, h4, h5⟩ | ⟨h1, h2, h3, h4, h5, h6⟩ | ⟨h1, h2, h3, h4, h5, rest, h6, h7⟩
    · subst h2 h3; rw [h1]; rfl
    · subst h3 h4 h5
      have := dataV_row (h := ⟨[.cells [.d (u64 n)], .cells [.fn idf []]] ++ [.cells []], lo'⟩) (k := 7) (b := 2) (n := 0) (cap := some 0) (es := []) (z := z) (rest := []) (by simp) rfl rfl
      rw [h1]
      exact frz1_of this
    · subst h3
      have := dataV_row (h := ⟨bs', lo'⟩) (k := 7) (n := K.length) (cap := none) (z := z) hw (by rw [List.length_map]) h6
      rw [h1]
      exact frz1_of this
  simp [hfr, k1, frz_tup, hr, pureV]
/-- config.without, in one's own memory. -/
theorem S_wo_ref {α : Type} {cells : α → List D} {z b cl clos del idx idf wo : Nat} {zero : List V} {key : α → Int} (tcl : T cl = some (cloneQ z b zero)) (vcl : val cl = false) (tdel : T del = some (delQ z idx zero)) (vdel : val del = false) (tidx : T idx = some (idxQ z)) (vidx : val idx = false)
    (tc : T clos = some (woCQ z)) (vc : val clos = false) (two : T wo = some (woQ cl clos del)) (vwo : val wo = false) (hz : ∀ x, (cells x).length = z) (hz0 : 0 < z) (hzero : zero.length = z) (hb : b ≤ 4096) {s : Sl α} (hs : short s) (hid : ∀ e ∈ s.l, ∀ h, Sm E T val idf [ag (cells e)] h = some (.d (u64 (key e)), h)) (n : Int) (h : Hp) :
    ∃ r bs' lo' w, Sm E T val wo [.d (s.d cells), .d (u64 n), .fn idf []] h = some (.tup [r, bl w], ⟨bs', lo'⟩) ∧ h.bs.length ≤ bs'.length ∧ (∀ x, x < h.bs.length → bs'[x]? = h.bs[x]?) ∧
      ((s.nl = true ∧ (s.l.filter fun e => !(key e == n)) = [] ∧ r = .d (.slice true [])) ∨ (∃ B, (s.l.filter fun e => !(key e == n)) = [] ∧ h.bs.length ≤ B ∧ r = .row B 0 0 (some 0) z ∧ getB bs' B = some []) ∨
       (∃ B rest q, h.bs.length ≤ B ∧ r = .row B 0 (s.l.filter fun e => !(key e == n)).length none z ∧ getB bs' B = some (flat ((s.l.filter fun e => !(key e == n)).map cells) ++ rest) ∧ rest.length = q * z ∧ 0 < (s.l.filter fun e => !(key e == n)).length + q)) := by
  obtain ⟨r, bs', lo', k1, k2⟩ := B_wo (E := E) (T := T) (val := val) tcl vcl tdel vdel tidx vidx tc vc hz hz0 hzero hb hs hid n h.bs h.bs.length
  have hfl : (s.l.filter fun e => !(key e == n)).length ≤ s.l.length := List.length_filter_le _ _
  generalize hK : s.l.filter (fun e => !(key e == n)) = K at *
  rw [Sm_ref two vwo, k1, byRef_s]
  rcases k2 with ⟨h1, h2, h3, h4, h5⟩ | ⟨h1, h2, h3, h4, h5, h6⟩ | ⟨h1, h2, h3, h4, h5, rest, h6, h7⟩
  · refine ⟨r, h.bs, h.low, decide (K.length < s.l.length), ?_, Nat.le_refl _, fun _ _ => rfl, .inl ⟨h1, h2, h3⟩⟩
    rw [if_pos ⟨by simp [h5], by subst h3; rfl⟩]
  · refine ⟨r, bs', min h.low lo', decide (K.length < s.l.length), ?_, by rw [h5]; simp, fun x hx => ?_, .inr (.inl ⟨_, h3, ?_, h4, ?_⟩)⟩
    · rw [if_neg (fun hh => by have hu := hh.2; subst h4; exact under_row (by simp) hu)]
    · rw [h5, List.append_assoc, List.getElem?_append_left hx]
    · simp
    · rw [h5]; simp [getB]
  · refine ⟨r, bs', min h.low lo', decide (K.length < s.l.length), ?_, by simp at h4; omega, fun x hx => ?_, .inr (.inr ⟨_, rest, s.l.length - K.length, ?_, h3, h6, h7, ?_⟩)⟩
    · rw [if_neg (fun hh => by have hu := hh.2; subst h3; exact under_row (by simp; omega) hu)]
    · rw [h5 x (by simp; omega), List.append_assoc, List.getElem?_append_left hx]
    · simp; omega
    · have := List.length_pos_iff.2 h2
      omega
end
end Go.Proofs.YtmnfjejphmmddaaGreat

/-
  config.with, at any width.
-/
namespace Go.Proofs.YtmnfjejphmmddaaGreat
section
variable {E : Calls'} {T : FuncId → Option QF} {val : FuncId → Bool}
/-- One operation that turns something, all others ordered against it. -/
theorem apartT_one {pr : List (List Nat)} {l : List Tr} (k : Nat) (hk : (List.range l.length).all (fun j => j == k || (pr.getD k []).contains j || (pr.getD j []).contains k) = true) (hm : (l.take k ++ l.drop (k + 1)).all Tr.mute = true) : apartT pr l = true := by
  rw [List.all_eq_true] at hk hm
  have hmm : ∀ j, j < l.length → j ≠ k → ∃ t, l[j]? = some t ∧ t.mute = true := by
    intro j hj hjk
    refine ⟨l[j], by simp [hj], hm _ ?_⟩
    rw [List.mem_append]
    rcases Nat.lt_or_gt_of_ne hjk with h | h
    · left
      rw [List.mem_take_iff_getElem]
      exact ⟨j, by omega, rfl⟩
    · right
      rw [List.mem_drop_iff_getElem]
      exact ⟨j - (k + 1), by omega, by congr 1; omega⟩
  unfold apartT
  simp only [List.all_eq_true, List.mem_range]
  intro i hi j hj
  by_cases hij : i = j
  · simp [hij]
  by_cases hik : i = k
  · subst hik
    have := hk j (by simpa using hj)
    simp only [Bool.or_eq_true, beq_iff_eq] at this ⊢
    rcases this with (h | h) | h
    · exact absurd h.symm hij
    · exact .inl (.inl (.inr h))
    · exact .inl (.inr h)
  by_cases hjk : j = k
  · subst hjk
    have := hk i (by simpa using hi)
    simp only [Bool.or_eq_true, beq_iff_eq] at this ⊢
    rcases this with (h | h) | h
    · exact absurd h hij
    · exact .inl (.inr h)
    · exact .inl (.inl (.inr h))
  obtain ⟨s, hs, ms⟩ := hmm i hi hik
  obtain ⟨t, ht, mt⟩ := hmm j hj hjk
  simp only [Tr.mute, Bool.and_eq_true, Bool.not_eq_true', List.isEmpty_iff, beq_iff_eq] at ms mt
  have : s.spares t = true := by
    unfold Tr.spares
    rw [ms.1.1, mt.1.1, ms.1.2, ms.2]
    cases t.call <;> simp
  simp [hs, ht, this]
/-- A thing put behind what was left. -/
theorem app_left {bs : List Blk} {z by_ : Nat} {K : List (List D)} {v : V} {x : List D} (hw : ∀ e ∈ K, e.length = z) (hx : x.length = z) (hz0 : 0 < z) (hby : by_ ≤ 4096) (hl : K.length < big) {r : Nat} {c : Option Nat} (hr : getB bs r = some (x.map .d)) {m : Nat}
    (hv : (K = [] ∧ v = .d (.slice true [])) ∨ (∃ B, K = [] ∧ m ≤ B ∧ v = .row B 0 0 (some 0) z ∧ getB bs B = some []) ∨ (∃ B rest q, m ≤ B ∧ v = .row B 0 K.length none z ∧ getB bs B = some (flat K ++ rest) ∧ rest.length = q * z ∧ 0 < K.length + q)) (hm : m ≤ bs.length) :
    ∃ (B : Nat) (cap : Option Nat) (bs' : List Blk) (rest : List V) (f : Nat → Nat), (∀ lo, appv ⟨bs, lo⟩ z by_ v (.row r 0 1 c z) = some (.row B 0 (K.length + 1) cap z, ⟨bs', f lo⟩)) ∧ m ≤ B ∧ getB bs' B = some (flat (K ++ [x]) ++ rest) ∧ ∀ y, y < m → bs'[y]? = bs[y]? := by
  have hrc : ∀ lo, rowCells ⟨bs, lo⟩ (.row r 0 1 c z) z = some (1, x.map .d) := by
    intro lo
    have : sub (x.map V.d) 0 z = some (x.map .d) := sub_all (by simpa using hx)
    simp only [rowCells, if_true, get_eq, hr, Nat.one_mul, this, Option.map_some]
  have hroom : ∀ n, n ≤ big → roomy n by_ = true := fun n hn => by simp only [roomy, Bool.and_eq_true, decide_eq_true_eq]; exact ⟨hn, hby⟩
  have hfx : flat (K ++ [x]) = flat K ++ x.map .d := by rw [flat_app, flat_cons, flat_nil, List.append_nil]
  rcases hv with ⟨h1, rfl⟩ | ⟨B, h1, h2, rfl, h4⟩ | ⟨B, rest, q, h2, rfl, h4, h5, h6⟩
  · subst h1
    refine ⟨bs.length, none, bs ++ [.cells (x.map .d)], [], fun lo => lo, fun lo => by simp only [appv, hrc, appendAt, if_neg (show ¬ (1 = 0) by decide), if_neg (show ¬ z = 0 by omega), hroom 1 (by decide), if_true]; rfl, hm, by simp [Hp.alloc, flat], fun y hy => ?_⟩
    rw [List.getElem?_append_left (by omega)]
  · subst h1
    have hsub : sub ([] : List V) 0 (0 * z) = some [] := by simp [sub]
    refine ⟨bs.length, none, bs ++ [.cells ([] ++ x.map .d)], [], fun lo => lo, fun lo => by simp only [appv, hrc, appendAt, ne_eq, not_true_eq_false, false_or, if_neg (show ¬ (1 = 0) by decide), if_neg (show ¬ z = 0 by omega), get_eq, h4, hsub, hroom (0 + 1) (by decide), Bool.not_true, Bool.false_eq_true, if_false, if_neg (show ¬ (0 + 1 ≤ 0) by decide)]; rfl, hm, by simp [Hp.alloc, flat], fun y hy => ?_⟩
    rw [List.getElem?_append_left (by omega)]
  · have hf := flat_len hw
    have hsub : sub (flat K ++ rest) 0 (K.length * z) = some (flat K) := by
      rw [sub_eq, if_pos (by rw [List.length_append, hf]; omega), List.drop_zero, ← hf, List.take_left]
    have hbl := getB_len h4
    rcases Nat.eq_zero_or_pos q with hq | hq
    · subst hq
      have hr0 : rest = [] := List.eq_nil_of_length_eq_zero (by simpa using h5)
      subst hr0
      have hpos : 0 < (flat K).length := by rw [hf]; exact Nat.mul_pos (by omega) hz0
      simp only [List.append_nil] at h4 hsub
      refine ⟨bs.length, none, bs.set B (.cells []) ++ [.cells (flat K ++ x.map .d)], [], fun lo => min lo B, fun lo => by simp only [appv, hrc, appendAt, ne_eq, not_true_eq_false, false_or, if_neg (show ¬ (1 = 0) by decide), if_neg (show ¬ z = 0 by omega), get_eq, h4, hsub, hroom (K.length + 1) (by omega), Bool.not_true, Bool.false_eq_true, if_false, hpos, and_self, if_true, Hp.size, Hp.alloc, Hp.set, List.length_set], hm, ?_, fun y hy => ?_⟩
      · have : getB (bs.set B (.cells []) ++ [.cells (flat K ++ x.map .d)]) (bs.set B (.cells [])).length = some (flat K ++ x.map .d) := by rw [getB_at]; rfl
        rw [List.length_set] at this
        rw [this, hfx, List.append_nil]
      · rw [List.getElem?_append_left (by simp; omega), List.getElem?_set_ne (by omega)]
    · have hqz : z ≤ q * z := by have := Nat.mul_le_mul_right z hq; rwa [Nat.one_mul] at this
      have hne : ¬ (True ∧ (flat K).length = (flat K ++ rest).length ∧ 0 < (flat K ++ rest).length) := by
        rw [List.length_append]; omega
      have hfit : 0 + (K.length + 1) * z ≤ (flat K ++ rest).length := by
        rw [List.length_append, hf, Nat.add_mul]; omega
      have hput : put (flat K ++ rest) (0 + K.length * z) (x.map V.d) = some (flat K ++ x.map .d ++ rest.drop z) := by
        unfold put
        rw [if_pos (by rw [List.length_append, List.length_map, hx, hf]; omega), Nat.zero_add, ← hf, List.take_left, List.length_map, hx, List.drop_append, List.drop_eq_nil_of_le (by omega), Nat.add_sub_cancel_left]
        simp
      refine ⟨B, none, bs.set B (.cells (flat K ++ x.map .d ++ rest.drop z)), rest.drop z, fun lo => min lo B, fun lo => by simp only [appv, hrc, appendAt, ne_eq, not_true_eq_false, false_or, if_neg (show ¬ (1 = 0) by decide), if_neg (show ¬ z = 0 by omega), get_eq, h4, hsub, hroom (K.length + 1) (by omega), Bool.not_true, Bool.false_eq_true, if_false, if_neg hne, if_pos hfit, hput]; rfl, h2, ?_, fun y hy => ?_⟩
      · simp [getB, hbl, hfx, Hp.set]
      · rw [List.getElem?_set_ne (by omega)]
theorem chunk_flat {z : Nat} : ∀ {l : List (List D)} {rest : List V}, (∀ e ∈ l, e.length = z) → chunk z l.length (flat l ++ rest) = l.map fun e => e.map V.d
  | [], rest, _ => rfl
  | e :: l, rest, h => by
    have he := h e (by simp)
    have ih := chunk_flat (l := l) (rest := rest) fun x hx => h x (List.mem_cons_of_mem _ hx)
    have hl : (e.map V.d).length = z := by simp [he]
    simp only [chunk, List.length_cons, List.range_succ_eq_map, List.map_cons, List.map_map, flat_cons, List.append_assoc] at ih ⊢
    congr 1
    · rw [Nat.zero_mul, List.drop_zero, ← hl, List.take_left]
    · rw [← ih]
      refine List.map_congr_left fun i _ => ?_
      simp only [Function.comp, Nat.succ_eq_add_one, Nat.add_mul, Nat.one_mul]
      rw [List.drop_append, List.drop_eq_nil_of_le (by omega), hl, List.nil_append, Nat.add_sub_cancel]
/-- The sort, at what it is asked. -/
theorem sortFE_at {α : Type} {cells : α → List D} {key : α → Int} {z p : Nat} {g idf : FuncId} (hz : ∀ x, (cells x).length = z) (hkey : ∀ x, (cells x)[p]? = some (.int .u64 (key x))) {L : List α} (hnd : (L.map key).Nodup) (hne : L ≠ []) (hlen : L.length ≤ 2 ^ 40) {h : Hp} {b c : Nat} {cap : Option Nat} {rest : List V}
    (hb : getB h.bs b = some (flat (L.map cells) ++ rest)) (hc : getB h.bs c = some [.fn idf []]) (hbc : b ≠ c) :
    sortFE ⟨z, p, g, idf⟩ [.row b 0 L.length cap z, .fn g [.ptr c 0]] h = some (.tup [], h.set b (flat ((L.mergeSort fun x y => decide (key x ≤ key y)).map cells) ++ rest)) := by
  have hw : ∀ e ∈ L.map cells, e.length = z := by simp; intro a _; exact hz a
  have hch := chunk_flat (rest := rest) hw
  rw [List.length_map] at hch
  have hkv : ∀ x, keyV p ((cells x).map V.d) = some (key x) := fun x => by simp [keyV, hkey]
  have hki : ∀ x, keyI p ((cells x).map V.d) = key x := fun x => by simp [keyI, hkv]
  have hfl := flatT_len hz L
  have h1 : ((L.map cells).map fun e => e.map V.d).map (keyI p) = L.map key := by
    rw [List.map_map, List.map_map]
    exact List.map_congr_left fun x _ => hki x
  have h2 : sortV p ((L.map cells).map fun e => e.map V.d) = ((L.mergeSort fun x y => decide (key x ≤ key y)).map cells).map fun e => e.map V.d := by
    rw [sortV, List.map_map, List.map_map]
    symm
    refine List.map_mergeSort fun x _ y _ => ?_
    simp only [Function.comp, hki]
  have h3 : ∀ l : List (List D), (l.map fun e => e.map V.d).flatten = flat l := fun l => by simp only [flat, List.map_flatten]
  simp only [sortFE, get_eq, hb, hc]
  rw [if_pos]
  · rw [hch, h2, h3, ← hfl, List.drop_left]
  · refine ⟨trivial, trivial, trivial, hbc, List.length_pos_iff.2 hne, hlen, by rw [List.length_append, hfl]; omega, ?_, ?_⟩
    · rw [hch]
      intro r hr
      obtain ⟨e, he, rfl⟩ := List.mem_map.1 hr
      obtain ⟨x, _, rfl⟩ := List.mem_map.1 he
      rw [hkv]; rfl
    · rw [hch, h1]; exact hnd
/-- A row with a thing put in. -/
def putT {α : Type} (key : α → Int) (x : α) (l : List α) : List α := ((l.filter fun e => !(key e == key x)) ++ [x]).mergeSort fun a b => decide (key a ≤ key b)
end
end Go.Proofs.YtmnfjejphmmddaaGreat

/-
  config.with, at any width.
-/
namespace Go.Proofs.YtmnfjejphmmddaaGreat
section
variable {E : Calls'} {T : FuncId → Option QF} {val : FuncId → Bool}
theorem fills_one {ev : X → V} {zero xs : List V} {z : Nat} {x : X} (h0 : zero.length = z) (hx : xs.length = z) (he : ev x = .agg xs) : fillsE ev zero [(0, z, x)] = some xs := by
  simp [fillsE, he, V.cells, hx, put, h0]
/-- config.with. -/
theorem S_wi {α : Type} {cells : α → List D} {z b cl clos del idx idf wo wi g srt p : Nat} {zero : List V} {key : α → Int} (tcl : T cl = some (cloneQ z b zero)) (vcl : val cl = false) (tdel : T del = some (delQ z idx zero)) (vdel : val del = false) (tidx : T idx = some (idxQ z)) (vidx : val idx = false)
    (tc : T clos = some (woCQ z)) (vc : val clos = false) (two : T wo = some (woQ cl clos del)) (vwo : val wo = false) (twi : T wi = some (wiQ z b wo g srt zero)) (vwi : val wi = true) (tsrt : T srt = none) (hE : ∀ args h, E srt args h = sortFE ⟨z, p, g, idf⟩ args h)
    (hz : ∀ x, (cells x).length = z) (hz0 : 0 < z) (hzero : zero.length = z) (hb : b ≤ 4096) (hkey : ∀ x, (cells x)[p]? = some (.int .u64 (key x))) {s : Sl α} (hs : short s) (hl : s.l.length < big) (hnd : (s.l.map key).Nodup) {x : α}
    (hid : ∀ e, e ∈ s.l ∨ e = x → ∀ h, Sm E T val idf [ag (cells e)] h = some (.d (u64 (key e)), h)) (h : Hp) :
    Sm E T val wi [.d (s.d cells), ag (cells x), .fn idf []] h = some (.d (.slice false ((putT key x s.l).map cells)), h) := by
  rw [Sm_v twi vwi]
  have hfr : frz h (.fn idf []) = some (.fn idf []) := rfl
  have hix := hid x (.inr rfl)
  obtain ⟨r, bs1, lo1, w, k1, k2, k3, k4⟩ := S_wo_ref (E := E) (T := T) (val := val) tcl vcl tdel vdel tidx vidx tc vc two vwo hz hz0 hzero hb hs (fun e he => hid e (.inl he)) (key x) ⟨[.cells ((cells x).map .d), .cells [.fn idf []]], 2⟩
  simp only [List.length_cons, List.length_nil] at k2 k3
  have hfl : (s.l.filter fun e => !(key e == key x)).length ≤ s.l.length := List.length_filter_le _ _
  have hndK : ((s.l.filter fun e => !(key e == key x)).map key).Nodup := List.Pairwise.sublist (List.Sublist.map key List.filter_sublist) hnd
  have hxK : ∀ e ∈ s.l.filter (fun e => !(key e == key x)), key e ≠ key x := fun e he => by simpa using (List.mem_filter.1 he).2
  have hput : putT key x s.l = ((s.l.filter fun e => !(key e == key x)) ++ [x]).mergeSort fun a b => decide (key a ≤ key b) := rfl
  generalize s.l.filter (fun e => !(key e == key x)) = K at *
  generalize putT key x s.l = PL at *
  have hw : ∀ e ∈ K.map cells, e.length = z := by simp; intro a _; exact hz a
  have hwp : ∀ e ∈ PL.map cells, e.length = z := by simp; intro a _; exact hz a
  have hndL : ((K ++ [x]).map key).Nodup := by
    rw [List.map_append, List.nodup_append]
    refine ⟨hndK, by simp, ?_⟩
    intro a ha b hb hab
    obtain ⟨e, he, rfl⟩ := List.mem_map.1 ha
    simp at hb
    exact hxK e he (hab.trans hb)
  have hsrc : getB (bs1 ++ [.cells ((cells x).map .d)]) bs1.length = some ((cells x).map .d) := by rw [getB_at]; rfl
  obtain ⟨B, cap, bs2, rest2, f, a1, a2, a3, a4⟩ := app_left (bs := bs1 ++ [.cells ((cells x).map .d)]) (by_ := b) (K := K.map cells) (v := r) (x := cells x) hw (hz x) hz0 hb (by simp; omega) hsrc (c := some 1) (m := 2) (by
    rcases k4 with ⟨q1, q2, q3⟩ | ⟨B, q1, q2, q3, q4⟩ | ⟨B, rest, q, q1, q2, q3, q4, q5⟩
    · exact .inl ⟨by rw [q2]; rfl, q3⟩
    · exact .inr (.inl ⟨B, by rw [q1]; rfl, by simpa using q2, q3, getB_of q4⟩)
    · exact .inr (.inr ⟨B, rest, q, by simpa using q1, by simpa using q2, getB_of q3, q4, by simpa using q5⟩)) (by simp; omega)
  have hc : getB bs2 1 = some [.fn idf []] := by
    simp only [getB]
    rw [a4 1 (by decide), List.getElem?_append_left (by omega), k3 1 (by decide)]; rfl
  have hs' := fun lo2 => sortFE_at (g := g) (idf := idf) hz hkey (L := K ++ [x]) hndL (by simp) (by simp; simp only [big] at hl; omega) (h := ⟨bs2, lo2⟩) (b := B) (c := 1) (cap := cap) (rest := rest2) (by simpa using a3) hc (by omega)
  rw [← hput] at hs'
  have hsm : ∀ lo2, Sm E T val srt [.row B 0 (K.length + 1) cap z, .fn g [.ptr 1 0]] ⟨bs2, lo2⟩ = some (.tup [], ⟨bs2.set B (.cells (flat (PL.map cells) ++ rest2)), min lo2 B⟩) := by
    intro lo2
    rw [Sm_ext tsrt, hE]
    simpa using hs' lo2
  have hbl := getB_len a3
  have hpl : PL.length = K.length + 1 := by rw [hput]; simp
  have hdv := fun lo2 => dataV_row (h := ⟨bs2.set B (.cells (flat (PL.map cells) ++ rest2)), lo2⟩) (k := 7) (b := B) (n := K.length + 1) (cap := cap) (z := z) (es := PL.map cells) (rest := rest2) hwp (by simp [hpl]) (by simp [getB, hbl])
  have hf1 : ∀ {ev : X → V} {t : X}, ev t = ag (cells x) → fillsE ev zero [(0, z, t)] = some ((cells x).map .d) := fun he => fills_one hzero (by simp [hz x]) he
  have hne : PL.map cells ≠ [] := fun hh => by have := congrArg List.length hh; simp [hpl] at this
  have hsub := sub_c (hz x)
  have hb10 : getB bs1 0 = some ((cells x).map .d) := by simp only [getB]; rw [k3 0 (by decide)]; rfl
  simp only [List.length_map] at a1
  have hty : V.under 2 (.tup []) = true := rfl
  have hbs : bs1.length = 2 → bs1 = [.cells ((cells x).map .d), .cells [.fn idf []]] := fun hh => by
    refine List.ext_getElem? fun i => ?_
    rcases Nat.lt_or_ge i 2 with hi | hi
    · exact k3 i hi
    · rw [List.getElem?_eq_none (by omega), List.getElem?_eq_none (by simpa using hi)]
  have hnu : nu r = some r := by
    rcases k4 with ⟨q1, q2, q3⟩ | ⟨B, q1, q2, q3, q4⟩ | ⟨B, rest, q, q1, q2, q3, q4, q5⟩ <;> rw [‹r = _›] <;> rfl
  have hap : ∀ (pr : List (List Nat)) (N bl : Nat) (bg : Bool), pr = [[], [], [], [1, 2], [], [0, 4, 3, 1, 2], [5, 0, 4, 3, 1, 2], [6, 5, 0, 4, 3, 1, 2], [6, 5, 0, 4, 3, 1, 2], [7, 6, 5, 0, 4, 3, 1, 2], [8, 9, 7, 6, 5, 0, 4, 3, 1, 2]] →
      apartT pr [⟨false, false, [], [], 2, 2, 0⟩, ⟨false, false, [1], [], 2, 2, 0⟩, ⟨false, false, [0], [], 2, 2, 0⟩, ⟨true, false, [], [], 2, 2, 0⟩, ⟨false, false, [1], [], 2, 2, 0⟩, ⟨true, bg, [], [], 2, N, bl⟩,
        ⟨false, false, [], [], N, N, 0⟩, ⟨false, false, [], [], N, N, 0⟩, ⟨false, false, [], [], N, N, 0⟩, ⟨false, false, [], [], N, N, 0⟩, ⟨false, false, [], [], N, N, 0⟩] = true := by
    rintro pr N bl bg rfl
    exact apartT_one 5 (by rfl) (by simp [Tr.mute])
  have hpf : pureV (.fn idf []) = true := rfl
  by_cases c1 : 2 ≤ lo1
  · by_cases c2 : bs1.length = 2
    · have := hbs c2
      subst this
      simp only [List.length_cons, List.length_nil, List.cons_append, List.nil_append] at a1
      simp (decide := true) [wiQ, Bd_mk, openA, opDE_call, noTr, hfr, hix, k1, c1, hsub, hb10, hf1, a1, hsm, hdv, hne, hnu, hap, hpf]
    · simp (decide := true) [wiQ, Bd_mk, openA, opDE_call, noTr, hfr, hix, k1, c1, c2, hsub, hb10, hf1, a1, hsm, hdv, hne, hnu, hap, hpf]
  · simp (decide := true) [wiQ, Bd_mk, openA, opDE_call, noTr, hfr, hix, k1, c1, hsub, hb10, hf1, a1, hsm, hdv, hne, hnu, hap, hpf]
end
end Go.Proofs.YtmnfjejphmmddaaGreat

/-
  config.with at its four types, read in an instance of its own: what it calls goes in one's own memory, the sort is from outside.
-/
namespace Go.Proofs.YtmnfjejphmmddaaGreat
def svcZ : List V := [(.d (.int .u64 0)), (.d (.str ⟨#[]⟩)), (.d (.int .u32 0)), (.d (.int .i64 0)), (.d (.int .u64 0))]
def wayZ : List V := [(.d (.int .u64 0)), (.d (.int .i64 0))]
def polZ : List V := [(.d (.int .u64 0)), (.d (.str ⟨#[]⟩)), (.d (.int .u64 0)), (.d (.int .i64 0)), (.d (.slice true []))]
def sfPod : SF := ⟨7, 0, 362, 191⟩
def sfSvc : SF := ⟨5, 0, 291, 193⟩
def sfWay : SF := ⟨2, 0, 294, 200⟩
def sfPol : SF := ⟨5, 0, 296, 205⟩
/-- The sorts. -/
def EW : Calls' := fun f args h => match Nat.beq f 271, Nat.beq f 276, Nat.beq f 280, Nat.beq f 284 with
  | true, _, _, _ => sortFE sfPod args h
  | _, true, _, _ => sortFE sfSvc args h
  | _, _, true, _ => sortFE sfWay args h
  | _, _, _, true => sortFE sfPol args h
  | _, _, _, _ => none
def tabW : List (Nat × QF) := [(289, q289), (192, q192), (199, q199), (204, q204), (190, q190), (198, q198), (203, q203), (206, q206), (290, q290), (293, q293), (295, q295), (297, q297), (106, q106), (186, q186), (187, q187), (188, q188), (105, q105), (243, q243), (246, q246), (248, q248), (100, q100), (103, q103), (109, q109), (339, q339), (191, q191), (193, q193), (200, q200), (205, q205)]
def TW : FuncId → Option QF := lookT tabW
def valW (f : FuncId) : Bool := [289, 192, 199, 204].any fun n => Nat.beq n f
section
variable {E : Calls'}
theorem W191 (p : Pod) (h : Hp) : Sm E TW valW 191 [ag p.c] h = some (.d (u64 p.uid), h) := by rw [Sm_ref (q := q191) (by kernel_rfl) (by kernel_rfl)]; simp [Bd_mk, q191, V.under]
theorem W193 (p : Svc) (h : Hp) : Sm E TW valW 193 [ag p.c] h = some (.d (u64 p.id), h) := by rw [Sm_ref (q := q193) (by kernel_rfl) (by kernel_rfl)]; simp [Bd_mk, q193, V.under]
theorem W200 (p : Way) (h : Hp) : Sm E TW valW 200 [ag p.c] h = some (.d (u64 p.id), h) := by rw [Sm_ref (q := q200) (by kernel_rfl) (by kernel_rfl)]; simp [Bd_mk, q200, V.under]
theorem W205 (p : Pol) (h : Hp) : Sm E TW valW 205 [ag p.c] h = some (.d (u64 p.id), h) := by rw [Sm_ref (q := q205) (by kernel_rfl) (by kernel_rfl)]; simp [Bd_mk, q205, V.under]
end
theorem W289 (s : Sl Pod) (hs : short s) (hl : s.l.length < big) (hnd : (s.l.map Pod.uid).Nodup) (x : Pod) (h : Hp) : Sm EW TW valW 289 [.d (s.d Pod.c), ag x.c, .fn 191 []] h = some (.d (.slice false ((putT Pod.uid x s.l).map Pod.c)), h) :=
  S_wi (E := EW) (T := TW) (val := valW) (cells := Pod.c) (key := Pod.uid) (z := 7) (b := 72) (cl := 106) (clos := 290) (del := 105) (idx := 100) (idf := 191) (wo := 190) (wi := 289) (g := 362) (srt := 271) (p := 0) (zero := pod0V)
    (by kernel_rfl) (by kernel_rfl) (by kernel_rfl) (by kernel_rfl) (by kernel_rfl) (by kernel_rfl) (by kernel_rfl) (by kernel_rfl) (by kernel_rfl) (by kernel_rfl) (by kernel_rfl) (by kernel_rfl) (by kernel_rfl) (fun _ _ => rfl) (fun _ => rfl) (by decide) rfl (by decide) (fun _ => rfl) hs hl hnd (fun e _ h => W191 e h) h
theorem W192 (s : Sl Svc) (hs : short s) (hl : s.l.length < big) (hnd : (s.l.map Svc.id).Nodup) (x : Svc) (h : Hp) : Sm EW TW valW 192 [.d (s.d Svc.c), ag x.c, .fn 193 []] h = some (.d (.slice false ((putT Svc.id x s.l).map Svc.c)), h) :=
  S_wi (E := EW) (T := TW) (val := valW) (cells := Svc.c) (key := Svc.id) (z := 5) (b := 48) (cl := 186) (clos := 293) (del := 243) (idx := 103) (idf := 193) (wo := 198) (wi := 192) (g := 291) (srt := 276) (p := 0) (zero := svcZ)
    (by kernel_rfl) (by kernel_rfl) (by kernel_rfl) (by kernel_rfl) (by kernel_rfl) (by kernel_rfl) (by kernel_rfl) (by kernel_rfl) (by kernel_rfl) (by kernel_rfl) (by kernel_rfl) (by kernel_rfl) (by kernel_rfl) (fun _ _ => rfl) (fun _ => rfl) (by decide) rfl (by decide) (fun _ => rfl) hs hl hnd (fun e _ h => W193 e h) h
theorem W199 (s : Sl Way) (hs : short s) (hl : s.l.length < big) (hnd : (s.l.map Way.id).Nodup) (x : Way) (h : Hp) : Sm EW TW valW 199 [.d (s.d Way.c), ag x.c, .fn 200 []] h = some (.d (.slice false ((putT Way.id x s.l).map Way.c)), h) :=
  S_wi (E := EW) (T := TW) (val := valW) (cells := Way.c) (key := Way.id) (z := 2) (b := 16) (cl := 187) (clos := 295) (del := 246) (idx := 109) (idf := 200) (wo := 203) (wi := 199) (g := 294) (srt := 280) (p := 0) (zero := wayZ)
    (by kernel_rfl) (by kernel_rfl) (by kernel_rfl) (by kernel_rfl) (by kernel_rfl) (by kernel_rfl) (by kernel_rfl) (by kernel_rfl) (by kernel_rfl) (by kernel_rfl) (by kernel_rfl) (by kernel_rfl) (by kernel_rfl) (fun _ _ => rfl) (fun _ => rfl) (by decide) rfl (by decide) (fun _ => rfl) hs hl hnd (fun e _ h => W200 e h) h
theorem W204 (s : Sl Pol) (hs : short s) (hl : s.l.length < big) (hnd : (s.l.map Pol.id).Nodup) (x : Pol) (h : Hp) : Sm EW TW valW 204 [.d (s.d Pol.c), ag x.c, .fn 205 []] h = some (.d (.slice false ((putT Pol.id x s.l).map Pol.c)), h) :=
  S_wi (E := EW) (T := TW) (val := valW) (cells := Pol.c) (key := Pol.id) (z := 5) (b := 64) (cl := 188) (clos := 297) (del := 248) (idx := 339) (idf := 205) (wo := 206) (wi := 204) (g := 296) (srt := 284) (p := 0) (zero := polZ)
    (by kernel_rfl) (by kernel_rfl) (by kernel_rfl) (by kernel_rfl) (by kernel_rfl) (by kernel_rfl) (by kernel_rfl) (by kernel_rfl) (by kernel_rfl) (by kernel_rfl) (by kernel_rfl) (by kernel_rfl) (by kernel_rfl) (fun _ _ => rfl) (fun _ => rfl) (by decide) rfl (by decide) (fun _ => rfl) hs hl hnd (fun e _ h => W205 e h) h
end Go.Proofs.YtmnfjejphmmddaaGreat

/-
  config.Apply: an edit as data; what stands around its parts.
-/
namespace Go.Proofs.YtmnfjejphmmddaaGreat
structure Edt where
  kind : Int
  id : Int
  pod : Pod
  svc : Svc
  way : Way
  pol : Pol
def Edt.c (e : Edt) : List D := [i64 e.kind, u64 e.id] ++ e.pod.c ++ e.svc.c ++ e.way.c ++ e.pol.c
@[simp] theorem Edt.len {x : Edt} : x.c.length = 21 := (rfl)
@[simp] theorem Edt.all {x : Edt} : sub x.c 0 21 = some x.c := (rfl)
@[simp] theorem Edt.s0_1 {x : Edt} : sub x.c 0 1 = some [i64 x.kind] := (rfl)
@[simp] theorem Edt.s1_1 {x : Edt} : sub x.c 1 1 = some [u64 x.id] := (rfl)
@[simp] theorem Edt.s2_7 {x : Edt} : sub x.c 2 7 = some x.pod.c := (rfl)
@[simp] theorem Edt.s9_5 {x : Edt} : sub x.c 9 5 = some x.svc.c := (rfl)
@[simp] theorem Edt.s14_2 {x : Edt} : sub x.c 14 2 = some x.way.c := (rfl)
@[simp] theorem Edt.s16_5 {x : Edt} : sub x.c 16 5 = some x.pol.c := (rfl)
@[simp] theorem Edt.s5_1 {x : Edt} : sub x.c 5 1 = some [i64 x.pod.host] := (rfl)
@[simp] theorem Edt.s6_1 {x : Edt} : sub x.c 6 1 = some [u32 x.pod.addr] := (rfl)
theorem Cfg.p0 {x : Cfg} {n : Int} : put (x.c.map V.d) 0 [.d (u64 n)] = some (({ x with epoch := n } : Cfg).c.map V.d) := (rfl)
theorem Cfg.p1 {x : Cfg} {n : Int} : put (x.c.map V.d) 1 [.d (u64 n)] = some (({ x with next := n } : Cfg).c.map V.d) := (rfl)
theorem Cfg.p4 {x : Cfg} {s : Sl Pod} : put (x.c.map V.d) 4 [.d (s.d Pod.c)] = some (({ x with pods := s } : Cfg).c.map V.d) := (rfl)
theorem Cfg.p5 {x : Cfg} {s : Sl Svc} : put (x.c.map V.d) 5 [.d (s.d Svc.c)] = some (({ x with services := s } : Cfg).c.map V.d) := (rfl)
theorem Cfg.p6 {x : Cfg} {s : Sl Way} : put (x.c.map V.d) 6 [.d (s.d Way.c)] = some (({ x with bound := s } : Cfg).c.map V.d) := (rfl)
theorem Cfg.p7 {x : Cfg} {s : Sl Pol} : put (x.c.map V.d) 7 [.d (s.d Pol.c)] = some (({ x with policies := s } : Cfg).c.map V.d) := (rfl)
theorem Pod.p0 {x : Pod} {n : Int} : put (x.c.map V.d) 0 [.d (u64 n)] = some (({ x with uid := n } : Pod).c.map V.d) := (rfl)
theorem Pod.p3 {x : Pod} {n : Int} : put (x.c.map V.d) 3 [.d (i64 n)] = some (({ x with host := n } : Pod).c.map V.d) := (rfl)
theorem Pod.p4 {x : Pod} {n : Int} : put (x.c.map V.d) 4 [.d (u32 n)] = some (({ x with addr := n } : Pod).c.map V.d) := (rfl)
section
variable {E : Calls'}
/-- A row without the thing of a number. -/
def outT {α : Type} (key : α → Int) (n : Int) (s : Sl α) : Sl α := ⟨s.nl, s.l.filter fun e => !(key e == n)⟩
def lessT {α : Type} (key : α → Int) (n : Int) (s : Sl α) : Bool := decide ((s.l.filter fun e => !(key e == n)).length < s.l.length)
theorem S190 (s : Sl Pod) (hs : short s) (n : Int) (h : Hp) : Sm E TT valT 190 [.d (s.d Pod.c), .d (u64 n), .fn 191 []] h = some (.tup [.d ((outT Pod.uid n s).d Pod.c), bl (lessT Pod.uid n s)], h) :=
  S_wo_val (cells := Pod.c) (key := Pod.uid) (zero := pod0V) t106 v106 t105 v105 t100 v100 t290 v290 t190 v190 (fun _ => rfl) (by decide) rfl (by decide) hs (fun e _ h => S191 e h) n h
theorem S198 (s : Sl Svc) (hs : short s) (n : Int) (h : Hp) : Sm E TT valT 198 [.d (s.d Svc.c), .d (u64 n), .fn 193 []] h = some (.tup [.d ((outT Svc.id n s).d Svc.c), bl (lessT Svc.id n s)], h) :=
  S_wo_val (cells := Svc.c) (key := Svc.id) (zero := svcZ) (b := 48) t186 v186 t243 v243 t103 v103 t293 v293 t198 v198 (fun _ => rfl) (by decide) rfl (by decide) hs (fun e _ h => S193 e h) n h
theorem S203 (s : Sl Way) (hs : short s) (n : Int) (h : Hp) : Sm E TT valT 203 [.d (s.d Way.c), .d (u64 n), .fn 200 []] h = some (.tup [.d ((outT Way.id n s).d Way.c), bl (lessT Way.id n s)], h) :=
  S_wo_val (cells := Way.c) (key := Way.id) (zero := wayZ) (b := 16) t187 v187 t246 v246 t109 v109 t295 v295 t203 v203 (fun _ => rfl) (by decide) rfl (by decide) hs (fun e _ h => S200 e h) n h
theorem S206 (s : Sl Pol) (hs : short s) (n : Int) (h : Hp) : Sm E TT valT 206 [.d (s.d Pol.c), .d (u64 n), .fn 205 []] h = some (.tup [.d ((outT Pol.id n s).d Pol.c), bl (lessT Pol.id n s)], h) :=
  S_wo_val (cells := Pol.c) (key := Pol.id) (zero := polZ) (b := 64) t188 v188 t248 v248 t339 v339 t297 v297 t206 v206 (fun _ => rfl) (by decide) rfl (by decide) hs (fun e _ h => S205 e h) n h
theorem S195 (p : Pod) (e : Edt) (x : Nat) (h : Hp) (hp : getB h.bs x = some (e.c.map .d)) : Sm E TT valT 195 [ag p.c, .ptr x 0] h = some (bl (p.service == e.id), h) := by
  rw [Sm_ref t195 v195]
  simp [Bd_mk, q195, getB_of hp, V.under]
theorem S197 (p : Pol) (e : Edt) (x : Nat) (h : Hp) (hp : getB h.bs x = some (e.c.map .d)) : Sm E TT valT 197 [ag p.c, .ptr x 0] h = some (bl (p.service == e.id), h) := by
  rw [Sm_ref t197 v197]
  simp [Bd_mk, q197, getB_of hp, V.under]
theorem S202 (p : Svc) (e : Edt) (x : Nat) (h : Hp) (hp : getB h.bs x = some (e.c.map .d)) : Sm E TT valT 202 [ag p.c, .ptr x 0] h = some (bl (p.way == e.id), h) := by
  rw [Sm_ref t202 v202]
  simp [Bd_mk, q202, getB_of hp, V.under]
theorem u245 : TT 245 = some (anyQ 100) := t245
theorem u194 : TT 194 = some (someQ 245) := t194
theorem S194 (s : Sl Pod) (hs : short s) (e : Edt) (x : Nat) (h : Hp) (hp : getB h.bs x = some (e.c.map .d)) : Sm E TT valT 194 [.d (s.d Pod.c), .fn 195 [.ptr x 0]] h = some (bl (s.l.any fun p => p.service == e.id), h) :=
  S_some u194 v194 rfl rfl (S_any Pod.c (z := 7) t100 v100 u245 v245 (RowIs.of (cells := Pod.c) (fun _ => rfl) _) hs.lt fun p _ lo => S195 p e x _ hp)
theorem S196 (s : Sl Pol) (hs : short s) (e : Edt) (x : Nat) (h : Hp) (hp : getB h.bs x = some (e.c.map .d)) : Sm E TT valT 196 [.d (s.d Pol.c), .fn 197 [.ptr x 0]] h = some (bl (s.l.any fun p => p.service == e.id), h) :=
  S_some u196 v196 rfl rfl (S_any Pol.c (z := 5) u339 v339 u292 v292 (RowIs.of (cells := Pol.c) (fun _ => rfl) _) hs.lt fun p _ lo => S197 p e x _ hp)
theorem S201 (s : Sl Svc) (hs : short s) (e : Edt) (x : Nat) (h : Hp) (hp : getB h.bs x = some (e.c.map .d)) : Sm E TT valT 201 [.d (s.d Svc.c), .fn 202 [.ptr x 0]] h = some (bl (s.l.any fun p => p.way == e.id), h) :=
  S_some u201 v201 rfl rfl (S_any Svc.c (z := 5) u103 v103 u239 v239 (RowIs.of (cells := Svc.c) (fun _ => rfl) _) hs.lt fun p _ lo => S202 p e x _ hp)
end
end Go.Proofs.YtmnfjejphmmddaaGreat

/-
  config.add, does, Own, Apply.
-/
namespace Go.Proofs.YtmnfjejphmmddaaGreat
theorem n289 : TT 289 = none := by kernel_rfl
theorem n192 : TT 192 = none := by kernel_rfl
theorem n199 : TT 199 = none := by kernel_rfl
theorem n204 : TT 204 = none := by kernel_rfl
/-- What config.with does is known from outside. -/
def WithE (E : Calls') : Prop := ∀ f, f = 289 ∨ f = 192 ∨ f = 199 ∨ f = 204 → ∀ args h, E f args h = Sm EW TW valW f args h
section
variable {E : Calls'} (hE : WithE E)
include hE
theorem S289 (s : Sl Pod) (hs : short s) (hl : s.l.length < big) (hnd : (s.l.map Pod.uid).Nodup) (x : Pod) (h : Hp) : Sm E TT valT 289 [.d (s.d Pod.c), ag x.c, .fn 191 []] h = some (.d ((⟨false, putT Pod.uid x s.l⟩ : Sl Pod).d Pod.c), h) := by
  rw [Sm_ext n289, hE _ (.inl rfl)]; exact W289 s hs hl hnd x h
theorem S192 (s : Sl Svc) (hs : short s) (hl : s.l.length < big) (hnd : (s.l.map Svc.id).Nodup) (x : Svc) (h : Hp) : Sm E TT valT 192 [.d (s.d Svc.c), ag x.c, .fn 193 []] h = some (.d ((⟨false, putT Svc.id x s.l⟩ : Sl Svc).d Svc.c), h) := by
  rw [Sm_ext n192, hE _ (.inr (.inl rfl))]; exact W192 s hs hl hnd x h
theorem S199 (s : Sl Way) (hs : short s) (hl : s.l.length < big) (hnd : (s.l.map Way.id).Nodup) (x : Way) (h : Hp) : Sm E TT valT 199 [.d (s.d Way.c), ag x.c, .fn 200 []] h = some (.d ((⟨false, putT Way.id x s.l⟩ : Sl Way).d Way.c), h) := by
  rw [Sm_ext n199, hE _ (.inr (.inr (.inl rfl)))]; exact W199 s hs hl hnd x h
theorem S204 (s : Sl Pol) (hs : short s) (hl : s.l.length < big) (hnd : (s.l.map Pol.id).Nodup) (x : Pol) (h : Hp) : Sm E TT valT 204 [.d (s.d Pol.c), ag x.c, .fn 205 []] h = some (.d ((⟨false, putT Pol.id x s.l⟩ : Sl Pol).d Pol.c), h) := by
  rw [Sm_ext n204, hE _ (.inr (.inr (.inr rfl)))]; exact W204 s hs hl hnd x h
def addT (c : Cfg) (p : Pod) : Cfg := { c with next := IntKind.wrap .u64 (c.next + 1), pods := ⟨false, putT Pod.uid { p with uid := c.next } c.pods.l⟩ }
/-- What a configuration is to be that things are put into. -/
def Open (c : Cfg) : Prop := c.pods.l.length < big ∧ (c.pods.l.map Pod.uid).Nodup ∧ c.services.l.length < big ∧ (c.services.l.map Svc.id).Nodup ∧ c.bound.l.length < big ∧ (c.bound.l.map Way.id).Nodup ∧ c.policies.l.length < big ∧ (c.policies.l.map Pol.id).Nodup
theorem S189 (c : Cfg) (hc : c.ok) (ho : Open c) (p : Pod) (b : Nat) (h : Hp) (hb : getB h.bs b = some (c.c.map .d)) :
    Sm E TT valT 189 [.ptr b 0, ag p.c] h = some (.tup [], ⟨h.bs.set b (.cells ((addT c p).c.map .d)) ++ [.cells (({ p with uid := c.next } : Pod).c.map .d)], min h.low b⟩) := by
  rw [Sm_ref t189 v189]
  have hbl := getB_len hb
  have n1 := fun h => S289 hE c.pods hc.1 ho.1 ho.2.1 { p with uid := c.next } h
  have e1 : V.d (u64 c.next) :: (List.map V.d p.c).tail = ({ p with uid := c.next } : Pod).c.map V.d := rfl
  have f1 : ∀ (cs : List V) (x : Blk), getB ((h.bs ++ [x]).set b (.cells cs)) b = some cs := fun cs x => by simp [getB, hbl, Nat.lt_succ_of_lt hbl]
  have f2 : ∀ (cs x : List V), getB ((h.bs ++ [Blk.cells x]).set b (.cells cs)) h.bs.length = some x := fun cs x => by
    simp only [getB]; rw [List.getElem?_set_ne (by omega)]; simp
  have f4 : ∀ (x c' : Blk), (h.bs ++ [x]).set b c' = h.bs.set b c' ++ [x] := fun x c' => List.set_append_left _ _ hbl
  simp [Bd_mk, q189, getB_of hb, e1, Cfg.p1, Cfg.p4, f1, f2, openA, opDE_call, noTr, n1]
  rw [if_pos (apartT_one 9 (by rfl) (by simp [Tr.mute]))]
  simp [f1, Cfg.p4, f4, V.under]
  rw [if_neg (by omega), show min h.low (min h.bs.length b) = min h.low b by omega]
  rfl
end
end Go.Proofs.YtmnfjejphmmddaaGreat

/-
  config.does.
-/
namespace Go.Proofs.YtmnfjejphmmddaaGreat
/-- What an edit makes, and why it can't be done. -/
def doesT (c : Cfg) (e : Edt) : Cfg × Int :=
  if e.kind = 1 then (addT c e.pod, 0)
  else if e.kind = 2 then ({ c with pods := outT Pod.uid e.id c.pods }, if lessT Pod.uid e.id c.pods then 0 else 4)
  else if e.kind = 3 then match c.pods.l.find? (fun p => p.uid == e.id) with
    | some p => (addT { c with pods := outT Pod.uid e.id c.pods } { p with host := e.pod.host, addr := e.pod.addr }, 0)
    | none => (c, 4)
  else if e.kind = 4 then ({ c with services := ⟨false, putT Svc.id e.svc c.services.l⟩ }, 0)
  else if e.kind = 5 then ({ c with services := outT Svc.id e.id c.services }, if lessT Svc.id e.id c.services then (if (c.pods.l.any fun p => p.service == e.id) || (c.policies.l.any fun p => p.service == e.id) then 5 else 0) else 4)
  else if e.kind = 6 then ({ c with bound := ⟨false, putT Way.id e.way c.bound.l⟩ }, 0)
  else if e.kind = 7 then ({ c with bound := outT Way.id e.id c.bound }, if lessT Way.id e.id c.bound then (if (c.services.l.any fun p => p.way == e.id) then 5 else 0) else 4)
  else if e.kind = 8 then ({ c with policies := ⟨false, putT Pol.id e.pol.own c.policies.l⟩ }, 0)
  else if e.kind = 9 then ({ c with policies := outT Pol.id e.id c.policies }, if lessT Pol.id e.id c.policies then 0 else 4)
  else (c, 1)
section
variable {E : Calls'} (hE : WithE E)
include hE
theorem S91 (c : Cfg) (hc : c.ok) (ho : Open c) (e : Edt) (he : e.pol.fits big) (x0 x1 x2 : List V) (lo : Nat) :
    ∃ ys lo', Sm E TT valT 91 [.ptr 3 0, ag e.c] ⟨[.cells x0, .cells x1, .cells x2, .cells (c.c.map .d)], lo⟩ = some (.d (i64 (doesT c e).2), ⟨.cells x0 :: .cells x1 :: .cells x2 :: .cells ((doesT c e).1.c.map .d) :: ys, lo'⟩) := by
  have a189 := fun bs lo h2 => S189 hE c hc ho e.pod 3 ⟨bs, lo⟩ h2
  have a190 := fun h => S190 (E := E) c.pods hc.1 e.id h
  have a42 := fun h => S42 (E := E) c hc e.id h
  have a192 := fun h => S192 hE c.services hc.2.1 ho.2.2.1 ho.2.2.2.1 e.svc h
  have a199 := fun h => S199 hE c.bound hc.2.2.1 ho.2.2.2.2.1 ho.2.2.2.2.2.1 e.way h
  have a204 := fun h => S204 hE c.policies hc.2.2.2.1 ho.2.2.2.2.2.2.1 ho.2.2.2.2.2.2.2 e.pol.own h
  have a113 := fun h => S113 (E := E) e.pol he h
  have a198 := fun h => S198 (E := E) c.services hc.2.1 e.id h
  have a203 := fun h => S203 (E := E) c.bound hc.2.2.1 e.id h
  have a206 := fun h => S206 (E := E) c.policies hc.2.2.2.1 e.id h
  have a194 := fun h hp => S194 (E := E) c.pods hc.1 e 4 h hp
  have a196 := fun h hp => S196 (E := E) c.policies hc.2.2.2.1 e 4 h hp
  have a201 := fun h hp => S201 (E := E) c.services hc.2.1 e 4 h hp
  rw [Sm_ref t91 v91]
  by_cases k1 : e.kind = 1
  · have : doesT c e = (addT c e.pod, 0) := by simp [doesT, k1]
    rw [this]
    simp (decide := true) [Bd_mk, q91, k1, a189, V.under]
  by_cases k2 : e.kind = 2
  · have : doesT c e = ({ c with pods := outT Pod.uid e.id c.pods }, if lessT Pod.uid e.id c.pods then 0 else 4) := by simp [doesT, k2]
    rw [this]
    cases hq : lessT Pod.uid e.id c.pods <;> simp (decide := true) [Bd_mk, q91, k1, k2, a190, hq, Cfg.p4, openA, opDE_call, noTr, V.under]
  by_cases k3 : e.kind = 3
  · cases hf : c.pods.l.find? (fun p => p.uid == e.id) with
    | none =>
      have : doesT c e = (c, 4) := by simp [doesT, k3, hf]
      rw [this]
      simp (decide := true) [Bd_mk, q91, k1, k2, k3, a42, hf, openA, opDE_call, noTr, V.under, pod0]
    | some p =>
      have : doesT c e = (addT { c with pods := outT Pod.uid e.id c.pods } { p with host := e.pod.host, addr := e.pod.addr }, 0) := by simp [doesT, k3, hf]
      rw [this]
      have hc' : ({ c with pods := outT Pod.uid e.id c.pods } : Cfg).ok := ⟨⟨Nat.le_trans (List.length_filter_le _ _) hc.1.1, fun hn => by have := hc.1.2 hn; simp [outT, this]⟩, hc.2⟩
      have ho' : Open { c with pods := outT Pod.uid e.id c.pods } := ⟨Nat.lt_of_le_of_lt (List.length_filter_le _ _) ho.1, List.Pairwise.sublist (List.Sublist.map _ List.filter_sublist) ho.2.1, ho.2.2⟩
      have b189 := fun bs lo h2 => S189 hE _ hc' ho' { p with host := e.pod.host, addr := e.pod.addr } 3 ⟨bs, lo⟩ h2
      have e3 : ∀ (n : Int), V.d (u64 p.uid) :: V.d (.str p.ns) :: V.d (.str p.sa) :: V.d (i64 n) :: V.d (u32 p.addr) :: V.d (i64 p.port) :: [V.d (u64 p.service)] = ({ p with host := n } : Pod).c.map V.d := fun _ => rfl
      have e4 : put (({ p with host := e.pod.host } : Pod).c.map V.d) 4 [.d (u32 e.pod.addr)] = some (({ p with host := e.pod.host, addr := e.pod.addr } : Pod).c.map V.d) := rfl
      simp (decide := true) [Bd_mk, q91, k1, k2, k3, a42, hf, a190, b189, Pod.p3, e4, Cfg.p4, openA, opDE_call, noTr, V.under]
  by_cases k4 : e.kind = 4
  · have : doesT c e = ({ c with services := ⟨false, putT Svc.id e.svc c.services.l⟩ }, 0) := by simp [doesT, k4]
    rw [this]
    simp (decide := true) [Bd_mk, q91, k1, k2, k3, k4, a192, Cfg.p5, openA, opDE_call, noTr, V.under]
  by_cases k5 : e.kind = 5
  · have : doesT c e = ({ c with services := outT Svc.id e.id c.services }, if lessT Svc.id e.id c.services then (if (c.pods.l.any fun p => p.service == e.id) || (c.policies.l.any fun p => p.service == e.id) then 5 else 0) else 4) := by simp [doesT, k5]
    rw [this]
    generalize (c.pods.l.any fun p => p.service == e.id) = A1 at *
    generalize (c.policies.l.any fun p => p.service == e.id) = A2 at *
    cases hq : lessT Svc.id e.id c.services <;> cases A1 <;> cases A2 <;> simp (decide := true) [Bd_mk, q91, k1, k2, k3, k4, k5, a198, a194, a196, hq, Cfg.p5, openA, opDE_call, noTr, V.under, opsA_if]
  by_cases k6 : e.kind = 6
  · have : doesT c e = ({ c with bound := ⟨false, putT Way.id e.way c.bound.l⟩ }, 0) := by simp [doesT, k6]
    rw [this]
    simp (decide := true) [Bd_mk, q91, k1, k2, k3, k4, k5, k6, a199, Cfg.p6, openA, opDE_call, noTr, V.under]
  by_cases k7 : e.kind = 7
  · have : doesT c e = ({ c with bound := outT Way.id e.id c.bound }, if lessT Way.id e.id c.bound then (if (c.services.l.any fun p => p.way == e.id) then 5 else 0) else 4) := by simp [doesT, k7]
    rw [this]
    generalize (c.services.l.any fun p => p.way == e.id) = A1 at *
    cases hq : lessT Way.id e.id c.bound <;> cases A1 <;> simp (decide := true) [Bd_mk, q91, k1, k2, k3, k4, k5, k6, k7, a203, a201, hq, Cfg.p6, openA, opDE_call, noTr, V.under]
  by_cases k8 : e.kind = 8
  · have : doesT c e = ({ c with policies := ⟨false, putT Pol.id e.pol.own c.policies.l⟩ }, 0) := by simp [doesT, k8]
    rw [this]
    simp (decide := true) [Bd_mk, q91, k1, k2, k3, k4, k5, k6, k7, k8, a204, a113, Cfg.p7, openA, opDE_call, noTr, V.under]
  by_cases k9 : e.kind = 9
  · have : doesT c e = ({ c with policies := outT Pol.id e.id c.policies }, if lessT Pol.id e.id c.policies then 0 else 4) := by simp [doesT, k9]
    rw [this]
    cases hq : lessT Pol.id e.id c.policies <;> simp (decide := true) [Bd_mk, q91, k1, k2, k3, k4, k5, k6, k7, k8, k9, a206, hq, Cfg.p7, openA, opDE_call, noTr, V.under]
  have : doesT c e = (c, 1) := by simp [doesT, k1, k2, k3, k4, k5, k6, k7, k8, k9]
  rw [this]
  simp (decide := true) [Bd_mk, q91, k1, k2, k3, k4, k5, k6, k7, k8, k9, V.under]
end
end Go.Proofs.YtmnfjejphmmddaaGreat

/-
  config.Own, read in an instance of its own: the rows of policies are of one's own.
-/
namespace Go.Proofs.YtmnfjejphmmddaaGreat
/-- What config.Own calls. -/
noncomputable def EO : Calls' := fun f args h => Sm (fun _ _ _ => none) TT valT f args h
def tabO : List (Nat × QF) := [(90, q90), (106, q106), (186, q186), (187, q187), (188, q188)]
def TO : FuncId → Option QF := lookT tabO
def valO (f : FuncId) : Bool := [90, 106, 186, 187].any fun n => Nat.beq n f
theorem o113 : TO 113 = none := by kernel_rfl
theorem O113 (p : Pol) (hp : p.fits big) (h : Hp) : Sm EO TO valO 113 [ag p.c] h = some (ag p.own.c, h) := by
  rw [Sm_ext o113]; exact S113 p hp h
theorem L90 {l : List Pol} (hl : l.length < 2 ^ 62) (hf : ∀ p ∈ l, p.ok) {bs0 : List Blk} {b : Nat} (hb0 : b < bs0.length) (hb1 : b ≠ 0) {Co : List V} (hco : bs0[0]? = some (.cells Co)) (hco7 : sub Co 7 1 = some [.row b 0 l.length none 5]) : ∀ (m i : Nat) (kept : List Pol) (bs : List Blk) (lo : Nat), i + m = l.length → kept.length = i → Thin Pol.c 5 l bs0 b kept bs →
    ∃ bs' lo', Cd EO TO valO (.loop [1, 2, 22, 23, 24] q90_b0) [(1, .ptr 0 0), (2, .ptr 1 0), (22, .row b 0 l.length none 5), (23, .d (i64 l.length)), (24, .d (i64 i))] ⟨bs, lo⟩ = some (.exit 0, [(1, .ptr 0 0), (2, .ptr 1 0)], ⟨bs', lo'⟩) ∧
      Thin Pol.c 5 l bs0 b (kept ++ (l.drop i).map Pol.own) bs' := by
  intro m
  have key := Cd_round (E := EO) (T := TO) (val := valO) [1, 2, 22, 23, 24] q90_b0
  generalize Cd EO TO valO (.loop [1, 2, 22, 23, 24] q90_b0) = W at key ⊢
  induction m with
  | zero =>
    intro i kept bs lo hi hk ht
    have h0 : l.drop i = [] := List.drop_eq_nil_of_le (by omega)
    refine ⟨bs, lo, ?_, by simpa [h0] using ht⟩
    rw [key]
    simp [q90_b0, show ¬ ((i : Int) < l.length) from by omega]
  | succ m ih =>
    intro i kept bs lo hi hk ht
    have hlt : i < l.length := by omega
    have hd : l.drop i = l[i] :: l.drop (i + 1) := List.drop_eq_getElem_cons hlt
    have hcz : ∀ x : Pol, (Pol.c x).length = 5 := fun _ => rfl
    have hread := ht.read hcz (j := i) (by omega) hlt
    have hrow := ht.row
    have hfx := hf _ (List.getElem_mem hlt)
    generalize l[i] = x at *
    have hix : ∀ bs lo, idxv none 5 (.row b 0 l.length none 5) (.d (.int .i64 i)) ⟨bs, lo⟩ = some (.ptr b (i * 5), ⟨bs, lo⟩) := by
      intro bs lo; simp only [idxv]; rw [if_pos ⟨by omega, by omega, trivial⟩]; simp
    have hw := int_next hlt hl
    have hcall := fun h => O113 x hfx h
    have hput : put polZ 0 (x.c.map V.d) = some (x.c.map .d) := rfl
    have ht1 := ht.lay (.cells (x.c.map .d))
    obtain ⟨cs, hcs, ht2⟩ := ht1.keep hcz (e := x.own) (by omega)
    rw [hk] at hcs
    have hrow1 := ht1.row
    rw [hk] at hrow hread hrow1
    have hc0 : getB (bs ++ [Blk.cells (x.c.map V.d)]) 0 = some Co := by
      simp only [getB]
      rw [ht1.old 0 (Ne.symm hb1) (by omega), hco]
    have hset : ∀ lo, Hp.set ⟨bs ++ [Blk.cells (x.c.map V.d)], lo⟩ b cs = ⟨(bs ++ [Blk.cells (x.c.map V.d)]).set b (Blk.cells cs), min lo b⟩ := fun _ => rfl
    obtain ⟨bs', lo', k1, k2⟩ := ih (i + 1) (kept ++ [x.own]) _ (min (min lo bs.length) b) (by omega) (by simp; omega) ht2
    refine ⟨bs', lo', ?_, by simpa [hd] using k2⟩
    generalize hB : (bs ++ [Blk.cells (x.c.map .d)]).set b (Blk.cells cs) = B at *
    rw [key]
    have hpz : polZ = [(.d (.int .u64 0)), (.d (.str ⟨#[]⟩)), (.d (.int .u64 0)), (.d (.int .i64 0)), (.d (.slice true []))] := rfl
    rw [hpz] at hput
    simp [q90_b0, hix, ldv, hrow, hread, hput, hcall, hw, hrow1, hcs, hset, hc0, hco7, openA, opDE_call, noTr, show ((i : Int) < l.length) from by omega]
    rw [if_pos (apartT_one 6 (by rfl) (by simp [Tr.mute]))]
    simp [hw]
    simpa using k1
/-- A configuration in memory of its own. -/
def Cfg.own (c : Cfg) : Cfg := { c with policies := ⟨c.policies.nl, c.policies.l.map Pol.own⟩ }
/-- The cells of a configuration, its policies as they lie. -/
def Cq (c : Cfg) (v : V) : List V := [.d (u64 c.epoch), .d (u64 c.next), .d (i64 c.hosts), .d (i64 c.ways), .d (c.pods.d Pod.c), .d (c.services.d Svc.c), .d (c.bound.d Way.c), v]
theorem O90 (c : Cfg) (hc : c.ok) (h : Hp) : Sm EO TO valO 90 [c.v] h = some (c.own.v, h) := by
  have c1 := fun h => S_cloneV (E := EO) (T := TO) (val := valO) (cells := Pod.c) (id := 106) (z := 7) (b := 72) (zero := pod0V) (by kernel_rfl) (by kernel_rfl) (by decide) (by decide) (fun _ => rfl) hc.1 h
  have c2 := fun h => S_cloneV (E := EO) (T := TO) (val := valO) (cells := Svc.c) (id := 186) (z := 5) (b := 48) (zero := svcZ) (by kernel_rfl) (by kernel_rfl) (by decide) (by decide) (fun _ => rfl) hc.2.1 h
  have c3 := fun h => S_cloneV (E := EO) (T := TO) (val := valO) (cells := Way.c) (id := 187) (z := 2) (b := 16) (zero := wayZ) (by kernel_rfl) (by kernel_rfl) (by decide) (by decide) (fun _ => rfl) hc.2.2.1 h
  have c4 := fun h => S_cloneR (E := EO) (T := TO) (val := valO) (id := 188) (z := 5) (b := 64) (zero := polZ) (by kernel_rfl) (by kernel_rfl) (by decide) (by decide) (nl := c.policies.nl) (es := c.policies.l.map Pol.c) (by simp) (by simpa using hc.2.2.2.1.1) h
  have hp4 : put (c.c.map V.d) 4 [.d (c.pods.d Pod.c)] = some (c.c.map V.d) := rfl
  have hp5 : put (c.c.map V.d) 5 [.d (c.services.d Svc.c)] = some (c.c.map V.d) := rfl
  have hp6 : put (c.c.map V.d) 6 [.d (c.bound.d Way.c)] = some (c.c.map V.d) := rfl
  have hp7 : ∀ v, put (c.c.map V.d) 7 [v] = some (Cq c v) := fun _ => rfl
  have hs7 : ∀ v, sub (Cq c v) 7 1 = some [v] := fun _ => rfl
  have hs8 : ∀ v, sub (Cq c v) 0 8 = some (Cq c v) := fun _ => rfl
  have hcl : ∀ v, (Cq c v).length = 8 := fun _ => rfl
  have hpz : ∀ v (z : List V), z.length = 8 → put z 0 (Cq c v) = some (Cq c v) := fun v z hz => by simp [put, hz, hcl]
  have hcv : ∀ h v l, dataV h 8 v = some (.slice c.policies.nl l) → l = (c.policies.l.map Pol.own).map Pol.c → cellsV h (Cq c v) = some c.own.c := fun h v l hv hl => by
    subst hl
    simp only [Cq, cellsV_cons]
    simp only [cellsV, List.mapM_cons, List.mapM_nil, hv]
    rfl
  rw [Sm_v (q := q90) (by kernel_rfl) (by kernel_rfl)]
  have key := Cd_round (E := EO) (T := TO) (val := valO) [1, 2, 22, 23, 24] q90_b0
  cases hnl : c.policies.nl with
  | true =>
    have hl := hc.2.2.2.1.2 hnl
    have hd : c.policies.d Pol.c = .slice true [] := by simp [Sl.d, hnl, hl]
    rw [hnl, hl] at c4
    simp [cloneR] at c4
    have hv := hcv ⟨[.cells (Cq c (.d (.slice true []))), .cells (Cq c (.d (.slice true [])))], 0⟩ (.d (.slice true [])) [] (by rw [hnl]; rfl) (by rw [hl]; rfl)
    simp (decide := true) [Bd_mk, q90, hd, c1, c2, c3, c4, hp4, hp5, hp6, hp7, hs7, hs8, openA, opDE_call, noTr]
    rw [Cd_keep]
    simp
    rw [key]
    simp [q90_b0, hs8, hpz, hcl, hv]
  | false =>
    rw [hnl] at c4
    cases hll : c.policies.l with
    | nil =>
      rw [hll] at c4
      simp [cloneR] at c4
      have hd : c.policies.d Pol.c = .slice false [] := by simp [Sl.d, hnl, hll]
      have hr := dataV_row (h := ⟨[.cells (Cq c (.row 2 0 0 (some 0) 5)), .cells (Cq c (.row 2 0 0 (some 0) 5)), .cells []], 0⟩) (k := 7) (b := 2) (n := 0) (cap := some 0) (es := []) (z := 5) (rest := []) (by simp) rfl rfl
      have hv := hcv ⟨[.cells (Cq c (.row 2 0 0 (some 0) 5)), .cells (Cq c (.row 2 0 0 (some 0) 5)), .cells []], 0⟩ (.row 2 0 0 (some 0) 5) [] (by rw [hnl]; exact hr) (by rw [hll]; rfl)
      simp (decide := true) [Bd_mk, q90, hd, c1, c2, c3, c4, hp4, hp5, hp6, hp7, hs7, hs8, openA, opDE_call, noTr]
      rw [Cd_keep]
      simp
      rw [key]
      simp [q90_b0, hs8, hpz, hcl, hv]
    | cons p l' =>
      have hne : c.policies.l ≠ [] := by rw [hll]; simp
      have hd : c.policies.d Pol.c = .slice false (c.policies.l.map Pol.c) := by simp [Sl.d, hnl]
      have hc2 : ∀ bs lo, cloneR 5 false (c.policies.l.map Pol.c) bs lo = (.row (bs.length + 1) 0 c.policies.l.length none 5, ⟨bs ++ [.cells [], .cells (flat (c.policies.l.map Pol.c))], lo⟩) := fun bs lo => by
        rw [hll]; simp [cloneR]
      simp only [hc2] at c4
      have hf : ∀ p ∈ c.policies.l, p.ok := hc.2.2.2.2
      have hlen : c.policies.l.length < 2 ^ 62 := hc.2.2.2.1.lt
      clear hll hc2
      generalize hPL : c.policies.l = l at *
      have hT : ∀ R : Blk, Thin Pol.c 5 l [.cells (Cq c (.row 3 0 l.length none 5)), R, .cells [], .cells (flat (l.map Pol.c))] 3 [] [.cells (Cq c (.row 3 0 l.length none 5)), R, .cells [], .cells (flat (l.map Pol.c))] := fun R => ⟨Nat.le_refl _, fun _ _ _ => rfl, by simp⟩
      obtain ⟨bs', lo', k1, k2⟩ := L90 hlen hf (b := 3) (by simp) (by decide) (Co := Cq c (.row 3 0 l.length none 5)) rfl rfl l.length 0 [] _ 0 (by omega) rfl (hT (.cells [(.d (.int .u64 0)), (.d (.int .u64 0)), (.d (.int .i64 0)), (.d (.int .i64 0)), (.d (.slice true [])), (.d (.slice true [])), (.d (.slice true [])), (.d (.slice true []))]))
      simp only [List.nil_append, List.drop_zero] at k2
      have g0 : getB bs' 0 = some (Cq c (.row 3 0 l.length none 5)) := by simp only [getB]; rw [k2.old 0 (by decide) (by simp)]; rfl
      have g1 : getB bs' 1 = some [(.d (.int .u64 0)), (.d (.int .u64 0)), (.d (.int .i64 0)), (.d (.int .i64 0)), (.d (.slice true [])), (.d (.slice true [])), (.d (.slice true [])), (.d (.slice true []))] := by simp only [getB]; rw [k2.old 1 (by decide) (by simp)]; rfl
      have hl1 : 1 < bs'.length := getB_len g1
      have g3 := k2.row
      have gs0 : ∀ cs, getB (bs'.set 1 (.cells cs)) 1 = some cs := fun cs => by simp [getB, hl1]
      have hr := fun cs lo => dataV_row (h := ⟨bs'.set 1 (.cells cs), lo⟩) (k := 7) (b := 3) (n := l.length) (cap := none) (es := (l.map Pol.own).map Pol.c) (z := 5) (rest := []) (by simp) (by simp) (by
        simp only [getB]
        rw [List.getElem?_set_ne (by decide)]
        simp only [getB] at g3
        rw [g3]
        simp
        have hfl := flatT_len (cells := Pol.c) (z := 5) (fun _ => rfl) l
        rw [hfl]; exact Nat.le_refl _)
      have hv := fun cs lo => hcv ⟨bs'.set 1 (.cells cs), lo⟩ (.row 3 0 l.length none 5) _ (by rw [hnl]; exact hr cs lo) rfl
      simp (decide := true) [Bd_mk, q90, hd, c1, c2, c3, c4, hp4, hp5, hp6, hp7, hs7, hs8, openA, opDE_call, noTr]
      rw [Cd_keep]
      simp at k1
      simp [k1, g0, g1, gs0, hs8, hpz, hcl, hv]
end Go.Proofs.YtmnfjejphmmddaaGreat

/-
  config.Apply.
-/
namespace Go.Proofs.YtmnfjejphmmddaaGreat
theorem fit_empty {α : Type} {B : Nat} {l : List α} (h : l.length ≤ B) : fit B ⟨l.isEmpty, l⟩ := ⟨h, fun hh => by simpa using hh⟩
theorem Rule.own_wf {B : Nat} {r : Rule} (h : r.wf B) : r.own.wf B := ⟨⟨fit_empty h.1.1.1, h.1.2⟩, ⟨fit_empty h.2.1.1.1, h.2.1.2⟩, ⟨fit_empty h.2.2.1.1, h.2.2.2⟩⟩
theorem Pol.own_wf {B : Nat} {p : Pol} (h : p.wf B) : p.own.wf B := by
  refine ⟨h.1, h.2.1, h.2.2.1, h.2.2.2.1, ⟨?_, fun hh => by simpa [Pol.own] using hh⟩, fun x hx => ?_⟩
  · simp only [Pol.own, List.length_map]; exact h.2.2.2.2.1.1
  · obtain ⟨r, hr, rfl⟩ := List.mem_map.1 hx
    exact Rule.own_wf (h.2.2.2.2.2 r hr)
theorem Cfg.own_wf {B : Nat} {c : Cfg} (h : c.wf B) : c.own.wf B := by
  obtain ⟨h1, h2, h3, h4, h5, h6, h7, h8⟩ := h
  refine ⟨h1, h2, h3, h4, h5, h6, h7, ⟨?_, fun hh => ?_⟩, fun x hx => ?_⟩
  · simp only [Cfg.own, List.length_map]; exact h8.1.1
  · simp only [Cfg.own] at hh ⊢; rw [h8.1.2 hh]; rfl
  · obtain ⟨p, hp, rfl⟩ := List.mem_map.1 hx
    exact Pol.own_wf (h8.2 p hp)
theorem putT_mem {α : Type} {key : α → Int} {x y : α} {l : List α} (h : y ∈ putT key x l) : y = x ∨ y ∈ l ∧ key y ≠ key x := by
  have := (List.mergeSort_perm _ _).mem_iff.1 h
  simp only [List.mem_append, List.mem_filter, List.mem_singleton] at this
  rcases this with ⟨a, b⟩ | h
  · exact .inr ⟨a, by simpa using b⟩
  · exact .inl h
theorem putT_len {α : Type} {key : α → Int} {x : α} {l : List α} : (putT key x l).length ≤ l.length + 1 := by
  unfold putT
  rw [List.length_mergeSort, List.length_append]
  have := List.length_filter_le (fun e => !(key e == key x)) l
  simp only [List.length_singleton]; omega
theorem put_wf {α : Type} {B : Nat} {f : Nat → α → Prop} {key : α → Int} {x : α} {s : Sl α} (h : s.wf B f) (hx : f B x) (hl : s.l.length + 1 ≤ B) : (⟨false, putT key x s.l⟩ : Sl α).wf B f :=
  ⟨⟨Nat.le_trans putT_len hl, fun h => by cases h⟩, fun y hy => by rcases putT_mem hy with rfl | h'; exact hx; exact h.2 y h'.1⟩
theorem out_wf {α : Type} {B : Nat} {f : Nat → α → Prop} {key : α → Int} {n : Int} {s : Sl α} (h : s.wf B f) : (outT key n s).wf B f :=
  ⟨⟨Nat.le_trans (List.length_filter_le _ _) h.1.1, fun hn => by have := h.1.2 hn; simp [outT, this]⟩, fun y hy => h.2 y (List.mem_filter.1 hy).1⟩
def Edt.wf (B : Nat) (e : Edt) : Prop := Inr .i64 e.kind ∧ Inr .u64 e.id ∧ e.pod.wf B ∧ e.svc.wf B ∧ e.way.wf B ∧ e.pol.wf B
theorem inr_u64 (n : Int) : Inr .u64 (IntKind.wrap .u64 n) := by
  have h1 := Int.emod_nonneg n (show (2 : Int) ^ 64 ≠ 0 by decide)
  have h2 := Int.emod_lt_of_pos n (show (0 : Int) < 2 ^ 64 by decide)
  simp only [Inr, IntKind.wrap, IntKind.bits, IntKind.signed, Bool.false_and, Bool.false_eq_true, if_false]
  simp [Lit.wf, IntKind.min, IntKind.max, IntKind.bits, IntKind.signed] at *
  omega
theorem addT_wf {B : Nat} {c : Cfg} {p : Pod} (h : c.wf B) (hp : p.wf B) (hl : c.pods.l.length + 1 ≤ B) : (addT c p).wf B :=
  ⟨h.1, inr_u64 _, h.2.2.1, h.2.2.2.1, put_wf h.2.2.2.2.1 ⟨h.2.1, hp.2⟩ hl, h.2.2.2.2.2⟩
theorem smallT_le {c : Cfg} (h : smallT c = true) : c.pods.l.length ≤ 16 ∧ c.services.l.length ≤ 6 ∧ c.bound.l.length ≤ 4 ∧ c.policies.l.length ≤ 12 := by
  simp only [smallT, Bool.and_eq_true, decide_eq_true_eq] at h
  omega
theorem doesT_wf {B : Nat} {c : Cfg} {e : Edt} (h : c.wf B) (he : e.wf B) (hB : 17 ≤ B) (hs : smallT c = true) : (doesT c e).1.wf B := by
  obtain ⟨l1, l2, l3, l4⟩ := smallT_le hs
  obtain ⟨e1, e2, e3, e4, e5, e6⟩ := he
  have ho : ∀ n, ({ c with pods := outT Pod.uid n c.pods } : Cfg).wf B := fun n => ⟨h.1, h.2.1, h.2.2.1, h.2.2.2.1, out_wf h.2.2.2.2.1, h.2.2.2.2.2⟩
  unfold doesT
  split
  · exact addT_wf h e3 (by omega)
  split
  · exact ho _
  split
  · split
    · rename_i p hp
      have hpw := h.2.2.2.2.1.2 p (List.mem_of_find?_eq_some hp)
      refine addT_wf (ho _) ⟨hpw.1, hpw.2.1, hpw.2.2.1, e3.2.2.2.1, e3.2.2.2.2.1, hpw.2.2.2.2.2⟩ ?_
      have := List.length_filter_le (fun x => !(Pod.uid x == e.id)) c.pods.l
      simp only [outT]; omega
    · exact h
  split
  · exact ⟨h.1, h.2.1, h.2.2.1, h.2.2.2.1, h.2.2.2.2.1, put_wf h.2.2.2.2.2.1 e4 (by omega), h.2.2.2.2.2.2⟩
  split
  · exact ⟨h.1, h.2.1, h.2.2.1, h.2.2.2.1, h.2.2.2.2.1, out_wf h.2.2.2.2.2.1, h.2.2.2.2.2.2⟩
  split
  · exact ⟨h.1, h.2.1, h.2.2.1, h.2.2.2.1, h.2.2.2.2.1, h.2.2.2.2.2.1, put_wf h.2.2.2.2.2.2.1 e5 (by omega), h.2.2.2.2.2.2.2⟩
  split
  · exact ⟨h.1, h.2.1, h.2.2.1, h.2.2.2.1, h.2.2.2.2.1, h.2.2.2.2.2.1, out_wf h.2.2.2.2.2.2.1, h.2.2.2.2.2.2.2⟩
  split
  · exact ⟨h.1, h.2.1, h.2.2.1, h.2.2.2.1, h.2.2.2.2.1, h.2.2.2.2.2.1, h.2.2.2.2.2.2.1, put_wf h.2.2.2.2.2.2.2 (Pol.own_wf e6) (by omega)⟩
  split
  · exact ⟨h.1, h.2.1, h.2.2.1, h.2.2.2.1, h.2.2.2.2.1, h.2.2.2.2.2.1, h.2.2.2.2.2.2.1, out_wf h.2.2.2.2.2.2.2⟩
  · exact h
def cfg0 : Cfg := ⟨0, 0, 0, 0, ⟨true, []⟩, ⟨true, []⟩, ⟨true, []⟩, ⟨true, []⟩⟩
/-- Is there no room? -/
def fullT (c d : Cfg) : Bool := decide (c.epoch ≥ 4611686018427387903) || decide (d.next > 4611686018427387904) || !smallT d
def nextT (d : Cfg) : Cfg := { d with epoch := IntKind.wrap .u64 (d.epoch + 1) }
def applyT (c : Cfg) (e : Edt) : Cfg × Int :=
  if cfgMay c = false then (cfg0, 1)
  else if (doesT c.own e).2 ≠ 0 then (cfg0, (doesT c.own e).2)
  else if fullT c (doesT c.own e).1 = true then (cfg0, 3)
  else if mayT (nextT (doesT c.own e).1) = false then (cfg0, 1)
  else if (bytesE (nextT (doesT c.own e).1)).length > 8192 then (cfg0, 6)
  else (nextT (doesT c.own e).1, 0)
section
variable {E : Calls'} (hE : WithE E) (h385 : ∀ t : Target, t.wf big → ∀ h, E 385 [ag t.c] h = some (bl (targetMay t), h)) (h90 : ∀ args h, E 90 args h = Sm EO TO valO 90 args h)
include hE h385 h90
omit hE h385 in
theorem S90 (c : Cfg) (hc : c.ok) (h : Hp) : Sm E TT valT 90 [c.v] h = some (c.own.v, h) := by
  rw [Sm_ext (by kernel_rfl), h90]; exact O90 c hc h
omit hE h385 h90 in
theorem May_open {c : Cfg} (h : cfgMay c = true) : Open c.own := by
  have hf := h
  simp only [cfgMay, Bool.and_eq_true] at hf
  have hm := hf.1.2
  obtain ⟨l1, l2, l3, l4⟩ := smallT_le hf.1.1
  simp only [mayT, Bool.and_eq_true, podsMay, servicesMay, boundMay, policiesMay] at hm
  refine ⟨Nat.lt_of_le_of_lt l1 (by decide), rises_nodup hm.1.1.1.1.2.2, Nat.lt_of_le_of_lt l2 (by decide), rises_nodup hm.1.1.1.2.2, Nat.lt_of_le_of_lt l3 (by decide), rises_nodup hm.1.2.2, ?_, ?_⟩
  · simp only [Cfg.own, List.length_map]; exact Nat.lt_of_le_of_lt l4 (by decide)
  · have : c.own.policies.l.map Pol.id = c.policies.l.map Pol.id := by simp [Cfg.own, Pol.own]
    rw [this]; exact rises_nodup hm.2.2
theorem S36 (c : Cfg) (hc : c.wf 1048576) (hcb : c.wf big) (e : Edt) (he : e.wf 1048576) (heb : e.wf big) (h : Hp) : Sm E TT valT 36 [c.v, ag e.c] h = some (.tup [ag (applyT c e).1.c, .d (i64 (applyT c e).2)], h) := by
  have n41 := fun h => S41 h385 c hc hcb h
  rw [Sm_v t36 v36]
  cases hm : cfgMay c with
  | false =>
    simp only [hm] at n41
    have : applyT c e = (cfg0, 1) := by simp [applyT, hm]
    rw [this]
    simp (decide := true) [Bd_mk, q36, n41, openA, opDE_call, noTr, cfg0]
    rfl
  | true =>
    simp only [hm] at n41
    have hsm : smallT c.own = true := by
      simp only [cfgMay, Bool.and_eq_true] at hm
      have hso : smallT c.own = smallT c := by unfold smallT; simp only [Cfg.own, List.length_map]; rfl
      rw [hso]; exact hm.1.1
    have hok := hc.ok (by decide)
    have n90 := fun h => S90 h90 c hok h
    have ho := May_open hm
    obtain ⟨ys, lo', n91⟩ := S91 hE c.own (Cfg.own_wf hcb |>.ok (Nat.le_refl _)) ho e (heb.2.2.2.2.2.fits) (c.c.map .d) (e.c.map .d) [(.d (.int .u64 0)), (.d (.int .u64 0)), (.d (.int .i64 0)), (.d (.int .i64 0)), (.d (.slice true [])), (.d (.slice true [])), (.d (.slice true [])), (.d (.slice true []))] 0
    have w1 := doesT_wf (Cfg.own_wf hc) he (by decide) hsm
    have w2 := doesT_wf (Cfg.own_wf hcb) heb (by decide) hsm
    have hA : applyT c e = (if (doesT c.own e).2 ≠ 0 then (cfg0, (doesT c.own e).2)
      else if fullT c (doesT c.own e).1 = true then (cfg0, 3)
      else if mayT (nextT (doesT c.own e).1) = false then (cfg0, 1)
      else if (bytesE (nextT (doesT c.own e).1)).length > 8192 then (cfg0, 6)
      else (nextT (doesT c.own e).1, 0)) := by simp [applyT, hm]
    rw [hA]
    clear hA
    generalize hd : (doesT c.own e).1 = d at *
    generalize hf : (doesT c.own e).2 = f at *
    have n92 := fun h => S92 (E := E) d h
    have wn1 : (nextT d).wf 1048576 := ⟨inr_u64 _, w1.2⟩
    have wn2 : (nextT d).wf big := ⟨inr_u64 _, w2.2⟩
    have n93 := fun h => S93 h385 (nextT d) wn1 wn2 h
    have hnx : put (d.c.map V.d) 0 [.d (.int .u64 (IntKind.wrap .u64 (d.epoch + 1)))] = some ((nextT d).c.map V.d) := rfl
    have hp0 : ∀ z : List V, z.length = 8 → ∀ x : Cfg, put z 0 (x.c.map V.d) = some (x.c.map V.d) := fun z hz x => by simp [put, hz]
    have hz : ag [(.int .u64 0), (.int .u64 0), (.int .i64 0), (.int .i64 0), (.slice true []), (.slice true []), (.slice true []), (.slice true [])] = ag cfg0.c := rfl
    by_cases k1 : f = 0
    case neg =>
      by_cases a1 : c.epoch ≥ 4611686018427387903
      · simp (decide := true) [Bd_mk, q36, n41, n90, n91, n92, k1, hnx, a1, openA, opDE_call, noTr, opsA_if, hz]
      · by_cases a2 : d.next > 4611686018427387904
        · simp (decide := true) [Bd_mk, q36, n41, n90, n91, n92, k1, hnx, a1, a2, openA, opDE_call, noTr, opsA_if, hz]
        · simp (decide := true) [Bd_mk, q36, n41, n90, n91, n92, k1, hnx, a1, a2, openA, opDE_call, noTr, opsA_if, hz]
    subst k1
    by_cases a1 : c.epoch ≥ 4611686018427387903
    · have hfu : fullT c d = true := by simp [fullT, a1]
      simp (decide := true) [Bd_mk, q36, n41, n90, n91, n92, hfu, hnx, a1, openA, opDE_call, noTr, opsA_if, hz]
    by_cases a2 : d.next > 4611686018427387904
    · have hfu : fullT c d = true := by simp [fullT, a1, a2]
      simp (decide := true) [Bd_mk, q36, n41, n90, n91, n92, hfu, hnx, a1, a2, openA, opDE_call, noTr, opsA_if, hz]
    cases a3 : smallT d with
    | false =>
      simp only [a3] at n92
      have hfu : fullT c d = true := by simp [fullT, a1, a2, a3]
      simp (decide := true) [Bd_mk, q36, n41, n90, n91, n92, hfu, hnx, a1, a2, openA, opDE_call, noTr, opsA_if, hz]
    | true =>
      simp only [a3] at n92
      have hfu : fullT c d = false := by simp [fullT, a1, a2, a3]
      cases a4 : mayT (nextT d) with
      | false =>
        simp only [a4] at n93
        simp (decide := true) [Bd_mk, q36, n41, n90, n91, n92, n93, hfu, hnx, a1, a2, openA, opDE_call, noTr, opsA_if, hz]
      | true =>
        simp only [a4] at n93
        have a3' : smallT (nextT d) = true := a3
        have hle := bytesE_le a3' a4
        have hp : policiesMay (nextT d) = true := by
          simp only [mayT, Bool.and_eq_true] at a4
          exact a4.2
        have n94 := fun h => S94 h385 (nextT d) wn2 (policiesMay_pol hp) (Nat.le_trans hle (by decide)) h
        have hl : ∀ h, lenv false (.d (bytesD (bytesE (nextT d)))) h = some (.d (i64 (bytesE (nextT d)).length), h) := fun h => by
          simp [bytesD]
        generalize hL : bytesD (bytesE (nextT d)) = L at *
        generalize (bytesE (nextT d)).length = k at *
        by_cases a5 : k > 8192
        · have a5' : ((k : Int) > 8192) := by omega
          simp (decide := true) [Bd_mk, q36, n41, n90, n91, n92, n93, n94, hl, hfu, hnx, a1, a2, a5, a5', openA, opDE_call, noTr, opsA_if, hz]
        · have a5' : ¬ ((k : Int) > 8192) := by omega
          simp (decide := true) [Bd_mk, q36, n41, n90, n91, n92, n93, n94, hl, hfu, hnx, a1, a2, a5, a5', openA, opDE_call, noTr, opsA_if, hz]
end
end Go.Proofs.YtmnfjejphmmddaaGreat

/-
  config.Start, gatepostlaw16.Long.
-/
namespace Go.Proofs.YtmnfjejphmmddaaGreat
def longC (e : Edt) : Cfg := ⟨0, 0, 0, 0, ⟨false, [e.pod]⟩, ⟨false, [e.svc]⟩, ⟨true, []⟩, ⟨false, [e.pol]⟩⟩
section
variable {E : Calls'} (h385 : ∀ t : Target, t.wf big → ∀ h, E 385 [ag t.c] h = some (bl (targetMay t), h))
theorem dataV_row_slice {h : Hp} {k b o n z : Nat} {cap : Option Nat} {d : D} (hd : dataV h (k + 1) (.row b o n cap z) = some d) : ∃ l, d = .slice false l := by
  simp only [dataV] at hd
  split at hd
  · split at hd
    · split at hd
      · cases hd; exact ⟨_, rfl⟩
      · cases hd
    · cases hd
  · cases hd
theorem frz_bool {h : Hp} {r : V} {b : Bool} (hr : frz h r = some (bl b)) : r = bl b := by
  cases r with
  | d x => simpa using hr
  | row b' o n cap z =>
    exfalso
    simp only [frz, frz1] at hr
    cases hd : dataV h 8 (.row b' o n cap z) with
    | none => rw [hd] at hr; cases hr
    | some d =>
      rw [hd] at hr
      obtain ⟨l, rfl⟩ := dataV_row_slice hd
      cases hr
  | ptr b' o => simp [frz, frz1, dataV] at hr
  | eptr cs o => simp [frz, frz1, dataV] at hr
  | undef => simp [frz, frz1] at hr
  | fn f cs => cases cs <;> simp [frz, frz1] at hr
  | agg cs =>
    simp only [frz, frz1] at hr
    split at hr <;> cases hr
  | tup vs =>
    simp only [frz] at hr
    split at hr <;> cases hr
theorem val_frz {T : FuncId → Option QF} {val : FuncId → Bool} {f : FuncId} {q : QF} (ht : T f = some q) (hv : val f = true) {l : List D} {b : Bool} (h0 : ∀ h, Sm E T val f [ag l] h = some (bl b, h)) {a : V} {h : Hp} (ha : frz h a = some (ag l)) : Sm E T val f [a] h = some (bl b, h) := by
  have h1 := h0 h
  rw [Sm_v ht hv] at h1 ⊢
  simp only [List.mapM_cons, List.mapM_nil, frz_ag, ha, Option.pure_def, Option.bind_eq_bind, Option.bind_some, valC_s, valE] at h1 ⊢
  cases hB : Bd E T val q [ag l] ⟨[], 0⟩ with
  | none => rw [hB] at h1; cases h1
  | some p =>
    obtain ⟨r, h'⟩ := p
    rw [hB] at h1
    simp only [valR] at h1 ⊢
    cases hr : frz h' r with
    | none => rw [hr] at h1; cases h1
    | some r' =>
      rw [hr] at h1
      have e1 : r' = bl b := by
        simp at h1; exact h1
      subst e1
      have := frz_bool hr
      subst this
      simp [ownR, own1, ownV]
theorem S32 (e : Edt) (he : e.wf big) : ∃ b : Bool, ∀ h, Sm E TT valT 32 [ag e.c] h = some (bl b, h) := by
  have hf : (longC e).ok := ⟨⟨(by decide : 1 ≤ big), fun h => by cases h⟩, ⟨(by decide : 1 ≤ big), fun h => by cases h⟩, ⟨(by decide : 0 ≤ big), fun _ => rfl⟩, ⟨(by decide : 1 ≤ big), fun h => by cases h⟩, by simp [longC]; exact he.2.2.2.2.2.fits⟩
  obtain ⟨b, hb⟩ := S31 (E := E) (longC e) hf
  refine ⟨b, fun h => ?_⟩
  rw [Sm_v t32 v32]
  have hp := dataV_row (h := ⟨[.cells (e.c.map .d), .cells (e.pod.c.map .d), .cells (e.svc.c.map .d), .cells (e.pol.c.map .d)], 0⟩) (k := 7) (b := 1) (n := 1) (cap := some 1) (es := [e.pod.c]) (z := 7) (rest := []) (by simp) rfl (by simp [flat])
  have hs := dataV_row (h := ⟨[.cells (e.c.map .d), .cells (e.pod.c.map .d), .cells (e.svc.c.map .d), .cells (e.pol.c.map .d)], 0⟩) (k := 7) (b := 2) (n := 1) (cap := some 1) (es := [e.svc.c]) (z := 5) (rest := []) (by simp) rfl (by simp [flat])
  have hq := dataV_row (h := ⟨[.cells (e.c.map .d), .cells (e.pod.c.map .d), .cells (e.svc.c.map .d), .cells (e.pol.c.map .d)], 0⟩) (k := 7) (b := 3) (n := 1) (cap := some 1) (es := [e.pol.c]) (z := 5) (rest := []) (by simp) rfl (by simp [flat])
  have hfz : frz ⟨[.cells (e.c.map .d), .cells (e.pod.c.map .d), .cells (e.svc.c.map .d), .cells (e.pol.c.map .d)], 0⟩ (.agg [.d (.int .u64 0), .d (.int .u64 0), .d (.int .i64 0), .d (.int .i64 0), .row 1 0 1 (some 1) 7, .row 2 0 1 (some 1) 5, .d (.slice true []), .row 3 0 1 (some 1) 5]) = some (ag (longC e).c) := by
    simp only [frz_aggl, cellsV, List.mapM_cons, List.mapM_nil, hp, hs, hq]
    rfl
  have n31 := val_frz (E := E) t31 v31 (l := (longC e).c) hb hfz
  simp (decide := true) [Bd_mk, q32, fillsE, n31]
end
end Go.Proofs.YtmnfjejphmmddaaGreat

/-
  What config.Apply makes: plain facts.
-/
namespace Go.Proofs.YtmnfjejphmmddaaGreat
/-- Each workload was there, or has the next number. -/
def Steps (c d : Cfg) : Prop := (∀ q ∈ d.pods.l, q ∈ c.pods.l ∨ (q.uid = c.next ∧ d.next = IntKind.wrap .u64 (c.next + 1))) ∧ (d.next = c.next ∨ d.next = IntKind.wrap .u64 (c.next + 1)) ∧ d.epoch = c.epoch
theorem does_steps (c : Cfg) (e : Edt) : Steps c (doesT c e).1 := by
  have hadd : ∀ (s : Sl Pod) (p : Pod), (∀ q ∈ s.l, q ∈ c.pods.l) → Steps c (addT { c with pods := s } p) := fun s p hs =>
    ⟨fun q hq => by
      rcases putT_mem hq with rfl | h
      · exact .inr ⟨rfl, rfl⟩
      · exact .inl (hs q h.1), .inr rfl, rfl⟩
  have hsame : ∀ d : Cfg, d.pods = c.pods → d.next = c.next → d.epoch = c.epoch → Steps c d := fun d h1 h2 h3 => ⟨fun q hq => .inl (h1 ▸ hq), .inl h2, h3⟩
  have hout : Steps c { c with pods := outT Pod.uid e.id c.pods } := ⟨fun q hq => .inl (List.mem_filter.1 hq).1, .inl rfl, rfl⟩
  unfold doesT
  split
  · exact hadd c.pods _ fun q hq => hq
  split
  · exact hout
  split
  · split
    · exact hadd _ _ fun q hq => (List.mem_filter.1 hq).1
    · exact hsame _ rfl rfl rfl
  iterate 6
    split
    · exact hsame _ rfl rfl rfl
  exact hsame _ rfl rfl rfl
theorem apply_ok {c : Cfg} {e : Edt} (h : (applyT c e).2 = 0) : cfgMay c = true ∧ cfgMay (applyT c e).1 = true ∧ (applyT c e).1 = nextT (doesT c.own e).1 ∧ c.epoch < 4611686018427387903 := by
  unfold applyT at h ⊢
  split at h
  · cases h
  rename_i h1
  split at h
  · rename_i h2; exact absurd h h2
  rename_i h2
  split at h
  · cases h
  rename_i h3
  split at h
  · cases h
  rename_i h4
  split at h
  · cases h
  rename_i h5
  rw [if_neg h1, if_neg h2, if_neg h3, if_neg h4, if_neg h5]
  simp only [fullT, Bool.or_eq_true, not_or, decide_eq_true_eq, Bool.not_eq_true', Bool.not_eq_false] at h3
  refine ⟨by simpa using h1, ?_, rfl, by omega⟩
  have hs : smallT (nextT (doesT c.own e).1) = true := h3.2
  simp only [cfgMay, hs, Bool.true_and, Bool.and_eq_true, decide_eq_true_eq]
  exact ⟨by simpa using h4, by omega⟩
theorem wrap_next {n : Int} (h1 : 0 ≤ n) (h2 : n ≤ 4611686018427387904) : IntKind.wrap .u64 (n + 1) = n + 1 := by
  simp [IntKind.wrap, IntKind.bits, IntKind.signed]; omega
end Go.Proofs.YtmnfjejphmmddaaGreat

/-
  ConfigStays: what was dropped, kept in a row of one's own.
-/
namespace Go.Proofs.YtmnfjejphmmddaaGreat
def u64s (l : List Int) : List V := l.map fun n => .d (u64 n)
structure Gn (c d : Cfg) (D : Nat) (acc : List Int) (bs : List Blk) (v : V) : Prop where
  c0 : getB bs 0 = some (c.c.map .d)
  d0 : getB bs D = some (d.c.map .d)
  is : (acc = [] ∧ v = .d (.slice true [])) ∨ (acc ≠ [] ∧ ∃ b, b ≠ 0 ∧ b ≠ D ∧ v = .row b 0 acc.length none 1 ∧ getB bs b = some (u64s acc))
theorem Gn.lay {c d : Cfg} {D : Nat} {acc : List Int} {bs : List Blk} {v : V} (h : Gn c d D acc bs v) (ys : List Blk) : Gn c d D acc (bs ++ ys) v :=
  ⟨getB_of h.c0, getB_of h.d0, by
    rcases h.is with h | ⟨h1, b, h2, h3, h4, h5⟩
    · exact .inl h
    · exact .inr ⟨h1, b, h2, h3, h4, getB_of h5⟩⟩
theorem Gn.nu {c d : Cfg} {D : Nat} {acc : List Int} {bs : List Blk} {v : V} (h : Gn c d D acc bs v) : Go.Proofs.YtmnfjejphmmddaaGreat.nu v = some v := by
  rcases h.is with ⟨_, rfl⟩ | ⟨_, b, _, _, rfl, _⟩ <;> rfl
theorem Gn.app {c d : Cfg} {D : Nat} {acc : List Int} {bs : List Blk} {v : V} (h : Gn c d D acc bs v) {n : Int} (hl : acc.length < big) {r : Nat} (hr : getB bs r = some [.d (u64 n)]) :
    ∃ v' bs', ∃ f : Nat → Nat, (∀ lo, appv ⟨bs, lo⟩ 1 8 v (.row r 0 1 (some 1) 1) = some (v', ⟨bs', f lo⟩)) ∧ Gn c d D (acc ++ [n]) bs' v' ∧ bs.length ≤ bs'.length := by
  have hrc : ∀ lo, rowCells ⟨bs, lo⟩ (.row r 0 1 (some 1) 1) 1 = some (1, [.d (u64 n)]) := by
    intro lo
    simp only [rowCells, if_true, get_eq, hr]
    rfl
  have hroom : ∀ n, n ≤ big → roomy n 8 = true := fun n hn => by simp only [roomy, Bool.and_eq_true, decide_eq_true_eq]; exact ⟨hn, by decide⟩
  have h0 := getB_len h.c0
  have hD := getB_len h.d0
  rcases h.is with ⟨h1, rfl⟩ | ⟨h1, b, h2, h3, rfl, h5⟩
  · subst h1
    refine ⟨.row bs.length 0 1 none 1, bs ++ [.cells [.d (u64 n)]], fun lo => lo, fun lo => by simp only [appv, hrc, appendAt, if_neg (show ¬ (1 = 0) by decide), hroom 1 (by decide), if_true]; rfl, ⟨getB_of h.c0, getB_of h.d0, .inr ⟨by simp, bs.length, by omega, by omega, rfl, by rw [getB_at]; rfl⟩⟩, by simp⟩
  · have hsub : sub (u64s acc) 0 (acc.length * 1) = some (u64s acc) := sub_all (by simp [u64s])
    have hpos : 0 < (u64s acc).length := by simp [u64s]; exact List.length_pos_iff.2 h1
    have hbl := getB_len h5
    refine ⟨.row bs.length 0 (acc.length + 1) none 1, bs.set b (.cells []) ++ [.cells (u64s acc ++ [.d (u64 n)])], fun lo => min lo b, fun lo => by simp only [appv, hrc, appendAt, ne_eq, not_true_eq_false, false_or, if_neg (show ¬ (1 = 0) by decide), get_eq, h5, hsub, hroom (acc.length + 1) (by omega), Bool.not_true, Bool.false_eq_true, if_false, hpos, and_self, if_true, Hp.size, Hp.alloc, Hp.set, List.length_set], ⟨?_, ?_, .inr ⟨by simp, bs.length, by omega, by omega, by simp, ?_⟩⟩, by simp⟩
    · have := h.c0
      simp only [getB] at this ⊢
      rw [List.getElem?_append_left (by simpa using h0), List.getElem?_set_ne h2]; exact this
    · have := h.d0
      simp only [getB] at this ⊢
      rw [List.getElem?_append_left (by simpa using hD), List.getElem?_set_ne h3]; exact this
    · have : getB (bs.set b (.cells []) ++ [.cells (u64s acc ++ [.d (u64 n)])]) (bs.set b (.cells [])).length = some (u64s acc ++ [.d (u64 n)]) := by rw [getB_at]; rfl
      rw [List.length_set] at this
      rw [this]; simp [u64s]
end Go.Proofs.YtmnfjejphmmddaaGreat

/-
  ConfigStays: the loops of a round.
-/
namespace Go.Proofs.YtmnfjejphmmddaaGreat
variable {E : Calls'}
end Go.Proofs.YtmnfjejphmmddaaGreat

/-
  ConfigStays: the edits.
-/
namespace Go.Proofs.YtmnfjejphmmddaaGreat
theorem Gn.next {c d : Cfg} {acc : List Int} {bs : List Blk} {v : V} (h : Gn c c 0 acc bs v) : Gn c d bs.length acc (bs ++ [.cells (d.c.map .d)]) v :=
  ⟨getB_of h.c0, by rw [getB_at]; rfl, by
    rcases h.is with h | ⟨h1, b, h2, h3, h4, h5⟩
    · exact .inl h
    · exact .inr ⟨h1, b, h2, by have := getB_len h5; omega, h4, getB_of h5⟩⟩
theorem apply_wf {B : Nat} {c : Cfg} {e : Edt} (h : c.wf B) (he : e.wf B) (hB : 17 ≤ B) (hok : (applyT c e).2 = 0) : (applyT c e).1.wf B := by
  obtain ⟨h1, h2, h3, h4⟩ := apply_ok hok
  rw [h3]
  have hsm : smallT c.own = true := by
    have hso : smallT c.own = smallT c := by unfold smallT; simp only [Cfg.own, List.length_map]; rfl
    simp only [cfgMay, Bool.and_eq_true] at h1
    rw [hso]; exact h1.1.1
  have := doesT_wf (Cfg.own_wf h) he hB hsm
  exact ⟨inr_u64 _, this.2⟩
section
variable {E : Calls'} (hE : WithE E) (h385 : ∀ t : Target, t.wf big → ∀ h, E 385 [ag t.c] h = some (bl (targetMay t), h)) (h90 : ∀ args h, E 90 args h = Sm EO TO valO 90 args h) (h33 : ∀ h, Sm E TT valT 33 [] h = some (bl true, h))
include hE h385 h90 h33
end
end Go.Proofs.YtmnfjejphmmddaaGreat

/-
  slices.Equal, slices.EqualFunc over data: at any width.
-/
namespace Go.Proofs.YtmnfjejphmmddaaGreat
section
variable {E : Calls'} {T : FuncId → Option QF} {val : FuncId → Bool}
theorem eql_loop {α : Type} {cells : α → List D} {z : Nat} (hz : ∀ x, (cells x).length = z) (hz0 : 0 < z) {k : EQ} {p : α → α → Bool} {s t : Sl α} (hl : s.l.length = t.l.length) (hs : s.l.length < 2 ^ 62)
    (he : ∀ x y h, eqv k true (ag (cells x)) (ag (cells y)) h = some (.d (.bool (p x y != true)), h)) (h : Hp) : ∀ (m i : Nat), i + m = s.l.length →
      Cd E T val (.loop [0, 1, 12, 13] (eqlB z k)) [(0, .d (s.d cells)), (1, .d (t.d cells)), (12, .d (i64 s.l.length)), (13, .d (i64 i))] h =
        if all2 p (s.l.drop i) (t.l.drop i) then some (.exit 0, [], h) else some (.ret, [(4, bl false)], h) := by
  intro m
  have key := Cd_round (E := E) (T := T) (val := val) [0, 1, 12, 13] (eqlB z k)
  generalize Cd E T val (.loop [0, 1, 12, 13] (eqlB z k)) = W at key ⊢
  induction m with
  | zero =>
    intro i hi
    rw [key, List.drop_eq_nil_of_le (by omega), List.drop_eq_nil_of_le (by omega)]
    simp [eqlB, all2, show ¬ ((i : Int) < s.l.length) from by omega]
  | succ m ih =>
    intro i hi
    have h1 : i < s.l.length := by omega
    have h2 : i < t.l.length := by omega
    have hx := fun h => idxv_sl (z := z) h (List.getElem?_eq_getElem h1) (hz _)
    have hy := fun h => idxv_sl (z := z) h (List.getElem?_eq_getElem h2) (hz _)
    have hw := int_next h1 hs
    have := ih (i + 1) (by omega)
    rw [key, all2_drop h1 h2]
    generalize s.l[i] = x at *
    generalize t.l[i] = y at *
    have sx := sub_all (hz x)
    have sy := sub_all (hz y)
    cases hq : p x y with
    | false => simp [eqlB, hx, hy, sx, sy, he, hq, hz0, show ((i : Int) < s.l.length) from by omega]
    | true =>
      simp [eqlB, hx, hy, sx, sy, he, hq, hw, hz0, show ((i : Int) < s.l.length) from by omega]
      simpa using this
/-- slices.Equal. -/
theorem S_eql {α : Type} {cells : α → List D} {z : Nat} {id : FuncId} (hz : ∀ x, (cells x).length = z) (hz0 : 0 < z) {k : EQ} {p : α → α → Bool} (ht : T id = some (eqlQ z k)) (hv : val id = true) {s t : Sl α} (hs : s.l.length < 2 ^ 62)
    (he : ∀ x y h, eqv k true (ag (cells x)) (ag (cells y)) h = some (.d (.bool (p x y != true)), h)) (h : Hp) : Sm E T val id [.d (s.d cells), .d (t.d cells)] h = some (bl (all2 p s.l t.l), h) := by
  rw [Sm_v ht hv]
  by_cases hl : s.l.length = t.l.length
  · have k1 := fun h => eql_loop (E := E) (T := T) (val := val) hz hz0 hl hs he h s.l.length 0 (by omega)
    simp [hl] at k1
    simp [Bd_mk, eqlQ, hl]
    rw [Cd_keep]
    simp [k1]
    cases all2 p s.l t.l <;> simp
  · have hl' : ¬ ((s.l.length : Int) = t.l.length) := by omega
    rw [all2_ne hl]
    simp [Bd_mk, eqlQ, hl']
theorem eql1_loop {α : Type} {cell : α → D} {k : EQ} {p : α → α → Bool} {s t : Sl α} (hl : s.l.length = t.l.length) (hs : s.l.length < 2 ^ 62)
    (he : ∀ x y h, eqv k true (.d (cell x)) (.d (cell y)) h = some (.d (.bool (p x y != true)), h)) (h : Hp) : ∀ (m i : Nat), i + m = s.l.length →
      Cd E T val (.loop [0, 1, 12, 13] (eql1B k)) [(0, .d (s.d fun x => [cell x])), (1, .d (t.d fun x => [cell x])), (12, .d (i64 s.l.length)), (13, .d (i64 i))] h =
        if all2 p (s.l.drop i) (t.l.drop i) then some (.exit 0, [], h) else some (.ret, [(4, bl false)], h) := by
  intro m
  have key := Cd_round (E := E) (T := T) (val := val) [0, 1, 12, 13] (eql1B k)
  generalize Cd E T val (.loop [0, 1, 12, 13] (eql1B k)) = W at key ⊢
  induction m with
  | zero =>
    intro i hi
    rw [key, List.drop_eq_nil_of_le (by omega), List.drop_eq_nil_of_le (by omega)]
    simp [eql1B, all2, show ¬ ((i : Int) < s.l.length) from by omega]
  | succ m ih =>
    intro i hi
    have h1 : i < s.l.length := by omega
    have h2 : i < t.l.length := by omega
    have hx := fun h => idxv_sl (z := 1) h (List.getElem?_eq_getElem h1) (cells := fun x => [cell x]) rfl
    have hy := fun h => idxv_sl (z := 1) h (List.getElem?_eq_getElem h2) (cells := fun x => [cell x]) rfl
    have hw := int_next h1 hs
    have := ih (i + 1) (by omega)
    rw [key, all2_drop h1 h2]
    generalize s.l[i] = x at *
    generalize t.l[i] = y at *
    cases hq : p x y with
    | false => simp [eql1B, hx, hy, he, hq, show ((i : Int) < s.l.length) from by omega]
    | true =>
      simp [eql1B, hx, hy, he, hq, hw, show ((i : Int) < s.l.length) from by omega]
      simpa using this
/-- slices.Equal, over scalars. -/
theorem S_eql1 {α : Type} {cell : α → D} {id : FuncId} {k : EQ} {p : α → α → Bool} (ht : T id = some (eql1Q k)) (hv : val id = true) {s t : Sl α} (hs : s.l.length < 2 ^ 62)
    (he : ∀ x y h, eqv k true (.d (cell x)) (.d (cell y)) h = some (.d (.bool (p x y != true)), h)) (h : Hp) : Sm E T val id [.d (s.d fun x => [cell x]), .d (t.d fun x => [cell x])] h = some (bl (all2 p s.l t.l), h) := by
  rw [Sm_v ht hv]
  by_cases hl : s.l.length = t.l.length
  · have k1 := fun h => eql1_loop (E := E) (T := T) (val := val) hl hs he h s.l.length 0 (by omega)
    simp [hl] at k1
    simp [Bd_mk, eql1Q, hl]
    rw [Cd_keep]
    simp [k1]
    cases all2 p s.l t.l <;> simp
  · have hl' : ¬ ((s.l.length : Int) = t.l.length) := by omega
    rw [all2_ne hl]
    simp [Bd_mk, eql1Q, hl']
theorem eqf_loop {α : Type} {cells : α → List D} {z : Nat} {zero : List V} (hz : ∀ x, (cells x).length = z) (hz0 : 0 < z) (hzero : zero.length = z) {f : FuncId} {p : α → α → Bool} {s t : Sl α} (hl : s.l.length = t.l.length) (hs : s.l.length < 2 ^ 62)
    (hf : ∀ x ∈ s.l, ∀ y ∈ t.l, ∀ h, Sm E T val f [ag (cells x), ag (cells y)] h = some (bl (p x y), h)) : ∀ (m i : Nat) (bs : List Blk) (lo : Nat), i + m = s.l.length → lo = 0 →
      ∃ bs', Cd E T val (.loop [1, 2, 15, 16, 17] (eqfB z zero)) [(1, .d (t.d cells)), (2, .fn f []), (15, .d (s.d cells)), (16, .d (i64 s.l.length)), (17, .d (i64 i))] ⟨bs, lo⟩ =
        if all2 p (s.l.drop i) (t.l.drop i) then some (.exit 0, [], ⟨bs', 0⟩) else some (.ret, [(6, bl false)], ⟨bs', 0⟩) := by
  intro m
  have key := Cd_round (E := E) (T := T) (val := val) [1, 2, 15, 16, 17] (eqfB z zero)
  generalize Cd E T val (.loop [1, 2, 15, 16, 17] (eqfB z zero)) = W at key ⊢
  induction m with
  | zero =>
    rintro i bs lo hi rfl
    refine ⟨bs, ?_⟩
    rw [key, List.drop_eq_nil_of_le (by omega), List.drop_eq_nil_of_le (by omega)]
    simp [eqfB, all2, show ¬ ((i : Int) < s.l.length) from by omega]
  | succ m ih =>
    rintro i bs lo hi rfl
    have h1 : i < s.l.length := by omega
    have h2 : i < t.l.length := by omega
    have hx := fun h => idxv_sl (z := z) h (List.getElem?_eq_getElem h1) (hz _)
    have hy := fun h => idxv_sl (z := z) h (List.getElem?_eq_getElem h2) (hz _)
    have hw := int_next h1 hs
    have hc := hf _ (List.getElem_mem h1) _ (List.getElem_mem h2)
    rw [key, all2_drop h1 h2]
    generalize s.l[i] = x at *
    generalize t.l[i] = y at *
    have sx := sub_all (hz x)
    have sy := sub_all (hz y)
    have px : put zero 0 ((cells x).map V.d) = some ((cells x).map .d) := by simp [put, hz, hzero]
    have py : put zero 0 ((cells y).map V.d) = some ((cells y).map .d) := by simp [put, hz, hzero]
    cases hq : p x y with
    | false =>
      refine ⟨bs ++ [.cells ((cells x).map .d), .cells ((cells y).map .d)], ?_⟩
      simp [eqfB, hx, hy, sx, sy, px, py, hc, hq, hz0, hz, show ((i : Int) < s.l.length) from by omega]
    | true =>
      obtain ⟨bs', q⟩ := ih (i + 1) (bs ++ [.cells ((cells x).map .d), .cells ((cells y).map .d)]) 0 (by omega) rfl
      refine ⟨bs', ?_⟩
      simp [eqfB, hx, hy, sx, sy, px, py, hc, hq, hw, hz0, hz, show ((i : Int) < s.l.length) from by omega]
      simpa using q
/-- slices.EqualFunc. -/
theorem S_eqf {α : Type} {cells : α → List D} {z : Nat} {zero : List V} {id : FuncId} (hz : ∀ x, (cells x).length = z) (hz0 : 0 < z) (hzero : zero.length = z) {f : FuncId} {p : α → α → Bool} (ht : T id = some (eqfQ z zero)) (hv : val id = true) {s t : Sl α} (hs : s.l.length < 2 ^ 62)
    (hf : ∀ x ∈ s.l, ∀ y ∈ t.l, ∀ h, Sm E T val f [ag (cells x), ag (cells y)] h = some (bl (p x y), h)) (h : Hp) : Sm E T val id [.d (s.d cells), .d (t.d cells), .fn f []] h = some (bl (all2 p s.l t.l), h) := by
  rw [Sm_v ht hv]
  have hfr : frz h (.fn f []) = some (.fn f []) := rfl
  by_cases hl : s.l.length = t.l.length
  · obtain ⟨bs', k1⟩ := eqf_loop (E := E) (T := T) (val := val) hz hz0 hzero hl hs hf s.l.length 0 [] 0 (by omega) rfl
    simp [hl] at k1
    simp [Bd_mk, eqfQ, hl, hfr, pureV]
    rw [Cd_keep]
    simp [k1]
    cases all2 p s.l t.l <;> simp [pureV, ownR, own1, ownV]
  · have hl' : ¬ ((s.l.length : Int) = t.l.length) := by omega
    rw [all2_ne hl]
    simp [Bd_mk, eqfQ, hl', hfr, pureV, ownR, own1, ownV]
end
/-! Alike. -/
def Cfg.same (a b : Cfg) : Bool := a.epoch == b.epoch && a.next == b.next && a.hosts == b.hosts && a.ways == b.ways && (all2 Pod.eqB a.pods.l b.pods.l && (all2 Svc.eqB a.services.l b.services.l && (all2 Way.eqB a.bound.l b.bound.l && all2 Pol.same a.policies.l b.policies.l)))
def alikeT (a b : Cfg) : Bool := Cfg.same { a with epoch := b.epoch } b
end Go.Proofs.YtmnfjejphmmddaaGreat

/-
  ConfigAgain: plain facts.
-/
namespace Go.Proofs.YtmnfjejphmmddaaGreat
theorem rise_ext {α : Type} {key : α → Int} : ∀ {l m : List α}, l.Pairwise (fun a b => key a < key b) → m.Pairwise (fun a b => key a < key b) → (∀ x, x ∈ l ↔ x ∈ m) → l = m
  | [], [], _, _, _ => rfl
  | [], b :: m, _, _, h => by have := (h b).2 (by simp); simp at this
  | a :: l, [], _, _, h => by have := (h a).1 (by simp); simp at this
  | a :: l, b :: m, h1, h2, h => by
    obtain ⟨p1, p2⟩ := List.pairwise_cons.1 h1
    obtain ⟨q1, q2⟩ := List.pairwise_cons.1 h2
    have hab : a = b := by
      rcases List.mem_cons.1 ((h a).1 (by simp)) with e | e
      · exact e
      · rcases List.mem_cons.1 ((h b).2 (by simp)) with e2 | e2
        · exact e2.symm
        · have := q1 a e; have := p1 b e2; omega
    subst hab
    have := rise_ext p2 q2 fun x => ⟨fun hx => by
      rcases List.mem_cons.1 ((h x).1 (List.mem_cons_of_mem _ hx)) with e | e
      · subst e; have := p1 x hx; omega
      · exact e, fun hx => by
      rcases List.mem_cons.1 ((h x).2 (List.mem_cons_of_mem _ hx)) with e | e
      · subst e; have := q1 x hx; omega
      · exact e⟩
    rw [this]
theorem rises_key {α : Type} {key : α → Int} {l : List α} (h : risesL (l.map key) = true) : l.Pairwise (fun a b => key a < key b) := by
  have := risesL_pair h
  rwa [List.pairwise_map] at this
theorem putT_iff {α : Type} {key : α → Int} {x y : α} {l : List α} : y ∈ putT key x l ↔ y = x ∨ y ∈ l ∧ key y ≠ key x := by
  unfold putT
  rw [(List.mergeSort_perm _ _).mem_iff]
  simp only [List.mem_append, List.mem_filter, List.mem_singleton, Bool.not_eq_true', beq_eq_false_iff_ne]
  exact Or.comm
theorem putT_rise {α : Type} {key : α → Int} {x : α} {l : List α} (h : l.Pairwise (fun a b => key a < key b)) : (putT key x l).Pairwise (fun a b => key a < key b) := by
  have h1 : ((l.filter fun e => !(key e == key x)) ++ [x]).Pairwise (fun a b => key a ≠ key b) := by
    rw [List.pairwise_append]
    refine ⟨(h.filter _).imp (by intro a b hh; omega), by simp, fun a ha b hb => ?_⟩
    simp only [List.mem_singleton] at hb
    subst hb
    simpa using (List.mem_filter.1 ha).2
  have hp := List.mergeSort_perm ((l.filter fun e => !(key e == key x)) ++ [x]) (fun a b => decide (key a ≤ key b))
  have h2 : (putT key x l).Pairwise (fun a b => key a ≠ key b) := (hp.pairwise_iff (fun {a b} h => Ne.symm h)).2 h1
  have h3 : (putT key x l).Pairwise (fun a b => decide (key a ≤ key b) = true) := List.pairwise_mergeSort (le := fun a b => decide (key a ≤ key b)) (by intro a b c h1 h2; simp at *; omega) (by intro a b; simp; omega) _
  exact List.Pairwise.imp₂ (fun a b h1 h2 => by simp at h2; omega) h2 h3
theorem putT_again {α : Type} {key : α → Int} {x : α} {l : List α} (h : l.Pairwise (fun a b => key a < key b)) : putT key x (putT key x l) = putT key x l := by
  refine rise_ext (putT_rise (putT_rise h)) (putT_rise h) fun y => ?_
  rw [putT_iff, putT_iff]
  constructor
  · rintro (h | ⟨h, h2⟩)
    · exact .inl h
    · exact h
  · rintro (h | h)
    · exact .inl h
    · exact .inr ⟨.inr h, h.2⟩
theorem putT_out {α : Type} {key : α → Int} {x : α} {l : List α} (h : l.Pairwise (fun a b => key a < key b)) (hn : ∀ y ∈ l, key y ≠ key x) : (putT key x l).filter (fun e => !(key e == key x)) = l := by
  refine rise_ext ((putT_rise h).filter _) h fun y => ?_
  rw [List.mem_filter, putT_iff]
  constructor
  · rintro ⟨rfl | h1, h2⟩
    · simp at h2
    · exact h1.1
  · intro hy
    exact ⟨.inr ⟨hy, hn y hy⟩, by simpa using hn y hy⟩
theorem less_not {α : Type} {key : α → Int} {n : Int} {s : Sl α} (h : lessT key n s = false) : ∀ y ∈ s.l, key y ≠ n := by
  simp only [lessT, decide_eq_false_iff_not, Nat.not_lt] at h
  have h1 := List.length_filter_le (fun e => !(key e == n)) s.l
  have h2 := List.length_filter_eq_length_iff.1 (show (s.l.filter fun e => !(key e == n)).length = s.l.length by omega)
  intro y hy
  simpa using h2 y hy
theorem less_of {α : Type} {key : α → Int} {n : Int} {s : Sl α} {x : α} (hx : x ∈ s.l) (hk : key x = n) : lessT key n s = true := by
  cases h : lessT key n s with
  | true => rfl
  | false => exact absurd hk (less_not h x hx)
theorem flat_le {α β : Type} (f : α → List β) (p : α → Bool) : ∀ m : List α, ((m.filter p).flatMap f).length ≤ (m.flatMap f).length
  | [] => Nat.le_refl _
  | y :: m => by
    have := flat_le f p m
    rw [List.filter_cons]
    split <;> simp only [List.flatMap_cons, List.length_append] <;> omega
theorem flat_out {α β : Type} (f : α → List β) (p : α → Bool) {x : α} (hp : p x = false) : ∀ {m : List α}, x ∈ m → ((m.filter p).flatMap f).length + (f x).length ≤ (m.flatMap f).length
  | [], h => by simp at h
  | y :: m, h => by
    rw [List.filter_cons]
    rcases List.mem_cons.1 h with rfl | h
    · have := flat_le f p m
      simp only [hp, Bool.false_eq_true, if_false, List.flatMap_cons, List.length_append]; omega
    · have := flat_out f p hp h
      split <;> simp only [List.flatMap_cons, List.length_append] <;> omega
/-! A number's bytes. -/
def Lg (n : Int) (x : Int) : Prop := 0 ≤ n ∧ x < 2 ^ n.toNat ∧ (1 ≤ x → 2 ^ n.toNat ≤ 2 * x)
theorem lenT_ok : ((List.range 256).all fun i => decide ((i : Int) < 2 ^ (lenT i).toNat) && (decide (i = 0) || decide ((2 : Int) ^ (lenT i).toNat ≤ 2 * i))) = true := by decide +kernel
theorem Lg_base {x : Int} (h0 : 0 ≤ x) (h1 : x < 256) : Lg (lenT (IntKind.wrap .u8 x).toNat) x := by
  have hw : IntKind.wrap .u8 x = x := by simp [IntKind.wrap, IntKind.bits, IntKind.signed]; omega
  rw [hw]
  have := List.all_eq_true.1 lenT_ok x.toNat (List.mem_range.2 (by omega))
  simp only [Bool.and_eq_true, Bool.or_eq_true, decide_eq_true_eq] at this
  have hx : ((x.toNat : Nat) : Int) = x := by omega
  rw [hx] at this
  exact ⟨(lenT_le _).1, this.1, fun h => by rcases this.2 with h2 | h2 <;> omega⟩
theorem Lg_shift {n x K : Int} (k : Nat) (hK : K = 2 ^ k) (hK0 : 0 < K) (hx : K ≤ x) (h : Lg n (x.fdiv K)) : Lg ((k : Int) + n) x := by
  obtain ⟨h0, h1, h2⟩ := h
  have e : ((k : Int) + n).toNat = k + n.toNat := by omega
  rw [Int.fdiv_eq_ediv_of_nonneg _ (by omega)] at h1 h2
  have hp : (2 : Int) ^ (k + n.toNat) = K * 2 ^ n.toNat := by rw [Int.pow_add, ← hK]
  have hd := Int.mul_ediv_add_emod x K
  have hm := Int.emod_nonneg x (show K ≠ 0 by omega)
  have hl := Int.emod_lt_of_pos x hK0
  have hq : 1 ≤ x / K := by
    have := (Int.le_ediv_iff_mul_le hK0 (a := 1) (b := x)).2 (by omega)
    exact this
  refine ⟨by omega, ?_, fun _ => ?_⟩
  · rw [e, hp]
    have := (Int.ediv_lt_iff_lt_mul hK0).1 h1
    rw [Int.mul_comm]; exact this
  · rw [e, hp]
    have h3 := Int.mul_le_mul_of_nonneg_left (h2 hq) (Int.le_of_lt hK0)
    have h4 : K * (2 * (x / K)) = 2 * (K * (x / K)) := by rw [Int.mul_left_comm]
    omega
theorem len64_ok {x : Int} (h0 : 0 ≤ x) (h1 : x < 2 ^ 64) : Lg (len64 x) x := by
  have hb : ∀ y, 0 ≤ y → y < 65536 → Lg ((if y ≥ 256 then 8 else 0) + lenT (IntKind.wrap .u8 (lenC y)).toNat) y := by
    intro y a b
    by_cases c : y ≥ 256
    · rw [if_pos c, lenC, if_pos c]
      have hd : y.fdiv 256 = y / 256 := Int.fdiv_eq_ediv_of_nonneg _ (by omega)
      exact Lg_shift (K := 256) 8 (by decide) (by omega) c (Lg_base (by rw [hd]; omega) (by rw [hd]; omega))
    · rw [if_neg c, lenC, if_neg c, Int.zero_add]
      exact Lg_base a (by omega)
  have ha : ∀ y, 0 ≤ y → y < 4294967296 → Lg ((if y ≥ 65536 then 16 else 0) + ((if lenB y ≥ 256 then 8 else 0) + lenT (IntKind.wrap .u8 (lenC (lenB y))).toNat)) y := by
    intro y a b
    by_cases c : y ≥ 65536
    · have hB : lenB y = y.fdiv 65536 := by rw [lenB, if_pos c]
      rw [if_pos c, hB]
      have hd : y.fdiv 65536 = y / 65536 := Int.fdiv_eq_ediv_of_nonneg _ (by omega)
      exact Lg_shift (K := 65536) 16 (by decide) (by omega) c (hb _ (by rw [hd]; omega) (by rw [hd]; omega))
    · have hB : lenB y = y := by rw [lenB, if_neg c]
      rw [if_neg c, hB, Int.zero_add]
      exact hb _ a (by omega)
  have hz : len64 x = (if x ≥ 4294967296 then 32 else 0) + ((if lenA x ≥ 65536 then 16 else 0) + ((if lenB (lenA x) ≥ 256 then 8 else 0) + lenT (IntKind.wrap .u8 (lenC (lenB (lenA x)))).toNat)) := by
    unfold len64; omega
  rw [hz]
  by_cases c : x ≥ 4294967296
  · have hA : lenA x = x.fdiv 4294967296 := by rw [lenA, if_pos c]
    rw [if_pos c, hA]
    have hd : x.fdiv 4294967296 = x / 4294967296 := Int.fdiv_eq_ediv_of_nonneg _ (by omega)
    exact Lg_shift (K := 4294967296) 32 (by decide) (by omega) c (ha _ (by rw [hd]; omega) (by rw [hd]; omega))
  · have hA : lenA x = x := by rw [lenA, if_neg c]
    rw [if_neg c, hA, Int.zero_add]
    exact ha _ h0 (by omega)
theorem len64_next {x : Int} (h0 : 0 ≤ x) (h1 : x < 2 ^ 63) : len64 (x + 1) ≤ len64 x + 1 := by
  obtain ⟨a0, a1, _⟩ := len64_ok h0 (by omega)
  obtain ⟨b0, _, b2⟩ := len64_ok (x := x + 1) (by omega) (by omega)
  have b3 := b2 (by omega)
  by_cases h : len64 (x + 1) ≤ len64 x + 1
  · exact h
  · exfalso
    have e : (len64 (x + 1)).toNat = ((len64 (x + 1)).toNat - (len64 x).toNat - 2) + ((len64 x).toNat + 2) := by omega
    rw [e, Int.pow_add] at b3
    have hp : (1 : Int) ≤ 2 ^ ((len64 (x + 1)).toNat - (len64 x).toNat - 2) := by
      have := Int.pow_pos (n := 2) (m := (len64 (x + 1)).toNat - (len64 x).toNat - 2) (by omega); omega
    have hp2 : (0 : Int) ≤ 2 ^ ((len64 x).toNat + 2) := by
      have := Int.pow_pos (n := 2) (m := (len64 x).toNat + 2) (by omega); omega
    have h3 := Int.mul_le_mul_of_nonneg_right hp hp2
    rw [Int.one_mul, Int.pow_succ, Int.pow_succ] at h3
    rw [Int.pow_succ, Int.pow_succ] at b3
    omega
theorem uintB_eq (x : Int) : ((uintB x).length : Int) = grpT x := by
  have := grpT_le x
  rw [uintB, uintG_len]; omega
theorem grpT_eq (x : Int) : grpT x = if (len64 x + 6) / 7 > 1 then (len64 x + 6) / 7 else 1 := by
  have := len64_le x
  have h2 : (len64 x + 6).tdiv 7 = (len64 x + 6) / 7 := Int.tdiv_eq_ediv_of_nonneg (by omega)
  unfold grpT; rw [h2]
theorem uintB_next {x : Int} (h0 : 0 ≤ x) (h1 : x < 2 ^ 63) : (uintB (x + 1)).length ≤ (uintB x).length + 1 := by
  have h := len64_next h0 h1
  have e1 := uintB_eq x
  have e2 := uintB_eq (x + 1)
  have g1 := grpT_eq x
  have g2 := grpT_eq (x + 1)
  have := len64_le x
  split at g1 <;> split at g2 <;> omega
theorem grp_small : ((List.range 17).all fun n => decide (grpT (n : Int) = 1)) = true := by decide +kernel
theorem uintB_small {n : Nat} (h : n ≤ 16) : (uintB (n : Int)).length = 1 := by
  have := List.all_eq_true.1 grp_small n (List.mem_range.2 (by omega))
  simp only [decide_eq_true_eq] at this
  have e := uintB_eq (n : Int)
  omega
theorem uintB_pos (x : Int) : 1 ≤ (uintB x).length := by
  have := grpT_le x; have := uintB_eq x; omega
theorem svcE_two (s : Svc) : 2 ≤ (svcE s).length := by
  have h1 := uintB_pos s.id
  have h2 := uintB_pos s.way
  simp only [svcE, List.flatMap_cons, List.flatMap_nil, List.append_nil, List.length_append]; omega
theorem wayE_two (s : Way) : 2 ≤ (wayE s).length := by
  have h1 := uintB_pos s.id
  have h2 := uintB_pos (IntKind.wrap .u64 s.node)
  simp only [wayE, List.flatMap_cons, List.flatMap_nil, List.append_nil, List.length_append]; omega
theorem polTE_two (s : Pol) : 2 ≤ (polTE s).length := by
  have h1 := uintB_pos s.id
  have h3 := uintB_pos ((strOf (polE s)).size : Int)
  have h4 : (polE s).length = (strOf (polE s)).toList.length := by
    have := strOf_size (polE s)
    rw [bytes_toList, Array.length_toList]; exact this.symm
  have h5 : 1 ≤ (polE s).length := by
    simp only [polE, List.length_append]; omega
  simp only [polTE, textB, List.length_append, List.length_map]; omega
theorem bytes_len (c : Cfg) : (bytesE c).length = (uintB c.epoch).length + ((uintB c.next).length + ((uintB (IntKind.wrap .u64 c.hosts)).length + ((uintB (IntKind.wrap .u64 c.ways)).length + (uintB (c.pods.l.length : Int)).length))) + (c.pods.l.flatMap podE).length + (uintB (c.services.l.length : Int)).length + (c.services.l.flatMap svcE).length + (uintB (c.bound.l.length : Int)).length + (c.bound.l.flatMap wayE).length + (uintB (c.policies.l.length : Int)).length + (c.policies.l.flatMap polTE).length := by
  simp only [bytesE, List.flatMap_cons, List.flatMap_nil, List.append_nil, List.length_append]; omega
/-! What may be, on its own. -/
theorem polMay_own (p : Pol) : polMay p.own = polMay p := by
  have : (p.rules.l.map Rule.own).all ruleMay = p.rules.l.all ruleMay := by rw [List.all_map]; rfl
  simp only [polMay, Pol.own, List.length_map, this]
  rfl
theorem Pol.own_own (p : Pol) : p.own.own = p.own := by
  simp only [Pol.own, List.isEmpty_map, List.map_map]
  congr 2
theorem Cfg.own_own {c : Cfg} (h : ∀ p ∈ c.policies.l, p.own = p) : c.own = c := by
  obtain ⟨e, n, hs, w, p, s, b, ⟨f, q⟩⟩ := c
  simp only [Cfg.own]
  congr 2
  exact (List.map_congr_left h).trans (List.map_id q)
theorem waysBad_like {a b : Cfg} (h1 : a.hosts = b.hosts) (h2 : a.ways = b.ways) : ∀ (l pre : List Way), waysBad a pre l = waysBad b pre l
  | [], _ => rfl
  | x :: l, pre => by
    have ih := waysBad_like h1 h2 l (pre ++ [x])
    simp only [waysBad, ih, wayBad, h1, h2]
theorem boundMay_like {a b : Cfg} (h1 : a.hosts = b.hosts) (h2 : a.ways = b.ways) (h3 : a.bound.l = b.bound.l) : boundMay a = boundMay b := by
  simp only [boundMay, waysBad_like h1 h2, h3]
theorem mayT_like {a b : Cfg} (hb : mayT b = true) (he : a.epoch ≤ 4611686018427387903) (h1 : a.next = b.next) (h2 : a.hosts = b.hosts) (h3 : a.ways = b.ways) (h4 : a.pods.l = b.pods.l) (h5 : a.services.l = b.services.l) (h6 : a.bound.l = b.bound.l)
    (h7 : a.policies.l = b.policies.l.map Pol.own) : mayT a = true := by
  obtain ⟨ae, n, hs, w, ⟨f1, p⟩, ⟨f2, s⟩, ⟨f3, q⟩, ⟨f4, r⟩⟩ := a
  obtain ⟨be, n', hs', w', ⟨g1, p'⟩, ⟨g2, s'⟩, ⟨g3, q'⟩, ⟨g4, r'⟩⟩ := b
  simp only at *
  subst h1 h2 h3 h4 h5 h6 h7
  simp only [mayT, Bool.and_eq_true] at hb ⊢
  obtain ⟨⟨⟨⟨⟨k1, k2⟩, k3⟩, k4⟩, k5⟩, k6⟩ := hb
  refine ⟨⟨⟨⟨⟨?_, k2⟩, k3⟩, k4⟩, (by rw [← k5]; exact boundMay_like rfl rfl rfl)⟩, ?_⟩
  · simp only [numsT, Bool.and_eq_true, decide_eq_true_eq] at k1 ⊢
    omega
  · simp only [policiesMay, List.any_map, List.map_map, Bool.and_eq_true] at k6 ⊢
    refine ⟨?_, k6.2⟩
    rw [← k6.1]
    congr 2
    funext x
    simp only [Function.comp, polBad, polMay_own]
    rfl
/-! Alike. -/
theorem Pol.own_same (p : Pol) : Pol.same p.own p = true := by
  have : all2 Rule.same (p.rules.l.map Rule.own) p.rules.l = true := by
    rw [all2_map]; exact all2_refl Rule.same_refl _
  simp [Pol.same, Pol.own, this]
theorem Cfg.same_refl (a : Cfg) : a.same a = true := by
  simp [Cfg.same, all2_refl (fun _ => Pod.eqB_iff.2 rfl), all2_refl (fun _ => Svc.eqB_iff.2 rfl), all2_refl (fun _ => Way.eqB_iff.2 rfl), all2_refl Pol.same_refl]
theorem alike_like {a b : Cfg} (h1 : a.next = b.next) (h2 : a.hosts = b.hosts) (h3 : a.ways = b.ways) (h4 : a.pods.l = b.pods.l) (h5 : a.services.l = b.services.l) (h6 : a.bound.l = b.bound.l)
    (h7 : a.policies.l = b.policies.l.map Pol.own) : alikeT a b = true := by
  have hp : all2 Pol.same (b.policies.l.map Pol.own) b.policies.l = true := by rw [all2_map]; exact all2_refl Pol.own_same _
  simp [alikeT, Cfg.same, h1, h2, h3, h4, h5, h6, h7, hp, all2_refl (fun _ => Pod.eqB_iff.2 rfl), all2_refl (fun _ => Svc.eqB_iff.2 rfl), all2_refl (fun _ => Way.eqB_iff.2 rfl)]
end Go.Proofs.YtmnfjejphmmddaaGreat

/-
  ConfigAgain: what is put in once more; what is put in and dropped.
-/
namespace Go.Proofs.YtmnfjejphmmddaaGreat
def pol0 : Pol := ⟨0, ⟨#[]⟩, 0, 0, ⟨true, []⟩⟩
def idOf (e : Edt) : Int := if e.kind = 6 then e.way.id else if e.kind = 8 then e.pol.id else e.svc.id
def dropOf (e : Edt) : Edt := ⟨e.kind + 1, idOf e, pod0, svc0, way0, pol0⟩
theorem ways_cnt {c : Cfg} : ∀ {l pre : List Way}, waysBad c pre l = false → ∀ w ∈ l, w.id ≠ 0
  | [], _, _, w, h => by simp at h
  | x :: l, pre, hb, w, h => by
    simp only [waysBad, Bool.or_eq_false_iff] at hb
    rcases List.mem_cons.1 h with rfl | h
    · have := hb.1
      simp only [wayBad, Bool.or_eq_false_iff, cntMay, Bool.not_eq_false', Bool.and_eq_true, decide_eq_true_eq] at this
      omega
    · exact ways_cnt hb.2 w h
/-- What more there is to know of a configuration that may be. -/
structure Fair2 (c : Cfg) : Prop where
  small : smallT c = true
  may : mayT c = true
  len : (bytesE c).length ≤ 8192
  sR : c.services.l.Pairwise fun a b => a.id < b.id
  wR : c.bound.l.Pairwise fun a b => a.id < b.id
  pR : c.policies.l.Pairwise fun a b => a.id < b.id
  w0 : ∀ w ∈ c.bound.l, w.id ≠ 0
  pS : ∀ p ∈ c.policies.l, p.service = 0 ∨ p.service ∈ c.services.l.map Svc.id
  nx : c.next ≤ 4611686018427387904
theorem fair2 {c : Cfg} (h : cfgMay c = true) : Fair2 c := by
  simp only [cfgMay, Bool.and_eq_true, decide_eq_true_eq] at h
  obtain ⟨⟨hs, hm⟩, hl⟩ := h
  have hm0 := hm
  simp only [mayT, Bool.and_eq_true] at hm
  obtain ⟨⟨⟨⟨⟨hnum, hp⟩, hsv⟩, ha⟩, hb⟩, hpo⟩ := hm
  simp only [servicesMay, Bool.and_eq_true] at hsv
  simp only [boundMay, Bool.and_eq_true, Bool.not_eq_true'] at hb
  simp only [policiesMay, Bool.and_eq_true, Bool.not_eq_true', List.any_eq_false] at hpo
  simp only [numsT, Bool.and_eq_true, decide_eq_true_eq] at hnum
  refine ⟨hs, hm0, by omega, rises_key hsv.2, rises_key hb.2, rises_key hpo.2, ways_cnt hb.1, fun p hpm => ?_, by omega⟩
  have := hpo.1 p hpm
  simp only [polBad, Bool.or_eq_true, not_or, Bool.and_eq_true, Bool.not_eq_true', not_and, beq_eq_false_iff_ne] at this
  by_cases h0 : p.service = 0
  · exact .inl h0
  · right
    have h3 := this.2.2 h0
    cases hf : svcBy c p.service with
    | none => simp [hf] at h3
    | some s =>
      have h4 := List.find?_some hf
      have h5 := List.mem_of_find?_eq_some hf
      exact List.mem_map.2 ⟨s, h5, by simpa using h4⟩
theorem apply_four {c : Cfg} {e : Edt} (h : (applyT c e).2 = 4) : (doesT c.own e).2 = 4 := by
  unfold applyT at h
  split at h
  · cases h
  split at h
  · exact h
  split at h
  · cases h
  split at h
  · cases h
  split at h <;> cases h
theorem apply_make {c D : Cfg} {e : Edt} (h1 : cfgMay c = true) (h2 : doesT c.own e = (D, 0)) (h3 : fullT c D = false) (h4 : mayT (nextT D) = true) : applyT c e = if (bytesE (nextT D)).length > 8192 then (cfg0, 6) else (nextT D, 0) := by
  simp [applyT, h1, h2, h3, h4]
/-- The three ways of putting in. -/
theorem does_put {c : Cfg} {e : Edt} :
    (e.kind = 4 → doesT c e = ({ c with services := ⟨false, putT Svc.id e.svc c.services.l⟩ }, 0)) ∧
    (e.kind = 6 → doesT c e = ({ c with bound := ⟨false, putT Way.id e.way c.bound.l⟩ }, 0)) ∧
    (e.kind = 8 → doesT c e = ({ c with policies := ⟨false, putT Pol.id e.pol.own c.policies.l⟩ }, 0)) :=
  ⟨fun k => by simp [doesT, k], fun k => by simp [doesT, k], fun k => by simp [doesT, k]⟩
theorem own_rise {l : List Pol} (h : l.Pairwise fun a b => a.id < b.id) : (l.map Pol.own).Pairwise fun a b => a.id < b.id := by
  rw [List.pairwise_map]; exact h
theorem own_mem {l : List Pol} : ∀ p ∈ l.map Pol.own, p.own = p := by
  intro p hp
  obtain ⟨q, _, rfl⟩ := List.mem_map.1 hp
  exact Pol.own_own q
theorem next_ep {c : Cfg} (h0 : 0 ≤ c.epoch) (h1 : c.epoch ≤ 2305843009213693953) : IntKind.wrap .u64 (c.epoch + 1) = c.epoch + 1 := wrap_next h0 (by omega)
theorem may_next {d : Cfg} (h : mayT d = true) (h0 : 0 ≤ d.epoch) (h1 : d.epoch ≤ 2305843009213693953) : mayT (nextT d) = true := by
  have he := next_ep h0 h1
  simp only [mayT, Bool.and_eq_true] at h ⊢
  obtain ⟨⟨⟨⟨⟨k1, k2⟩, k3⟩, k4⟩, k5⟩, k6⟩ := h
  refine ⟨⟨⟨⟨⟨?_, k2⟩, k3⟩, k4⟩, (by rw [← k5]; exact boundMay_like rfl rfl rfl)⟩, k6⟩
  simp only [numsT, Bool.and_eq_true, decide_eq_true_eq] at k1 ⊢
  have e1 : (nextT d).epoch = d.epoch + 1 := he
  have e2 : (nextT d).next = d.next := rfl
  have e3 : (nextT d).hosts = d.hosts := rfl
  have e4 : (nextT d).ways = d.ways := rfl
  omega
/-- Once more: the same, of one epoch more, or too long. -/
theorem again1 {c : Cfg} {e : Edt} (hk : e.kind = 4 ∨ e.kind = 6 ∨ e.kind = 8) (h0 : 0 ≤ c.epoch) (h1 : c.epoch ≤ 2305843009213693952) (h : (applyT c e).2 = 0) :
    applyT (applyT c e).1 e = (cfg0, 6) ∨ applyT (applyT c e).1 e = (nextT (applyT c e).1, 0) := by
  obtain ⟨a1, a2, a3, a4⟩ := apply_ok h
  have f := fair2 a1
  have he := next_ep h0 (by omega)
  have hfix : doesT (applyT c e).1.own e = ((applyT c e).1, 0) ∧ (applyT c e).1.epoch = c.epoch + 1 := by
    rw [a3]
    rcases hk with k | k | k
    · rw [(does_put (c := c.own)).1 k]
      rw [Cfg.own_own (c := nextT _) (by exact own_mem), does_put.1 k]
      simp only [nextT, Cfg.own, putT_again f.sR, he, and_self]
    · rw [(does_put (c := c.own)).2.1 k]
      rw [Cfg.own_own (c := nextT _) (by exact own_mem), does_put.2.1 k]
      simp only [nextT, Cfg.own, putT_again f.wR, he, and_self]
    · rw [(does_put (c := c.own)).2.2 k]
      rw [Cfg.own_own (c := nextT _) (by
        intro p hp
        rcases putT_mem hp with rfl | hp
        · exact Pol.own_own _
        · exact own_mem p hp.1), does_put.2.2 k]
      simp only [nextT, Cfg.own, putT_again (own_rise f.pR), he, and_self]
  clear a3
  generalize (applyT c e).1 = d at *
  have g := fair2 a2
  rw [apply_make a2 hfix.1 (by simp only [fullT, Bool.or_eq_false_iff, decide_eq_false_iff_not, Bool.not_eq_false']; exact ⟨⟨by omega, by have := g.nx; omega⟩, g.small⟩) (may_next g.may (by omega) (by omega))]
  split
  · exact .inl rfl
  · exact .inr rfl
/-- What is left, when what was put in is dropped. -/
theorem back_ok {c d D : Cfg} {e : Edt} (hc : cfgMay c = true) (hd : cfgMay d = true) (h0 : 0 ≤ c.epoch) (h1 : c.epoch ≤ 2305843009213693952) (he : d.epoch = c.epoch + 1) (hD : doesT d.own e = (D, 0)) (hDe : D.epoch = d.epoch)
    (k1 : D.next = c.next) (k2 : D.hosts = c.hosts) (k3 : D.ways = c.ways) (k4 : D.pods.l = c.pods.l) (k5 : D.services.l = c.services.l) (k6 : D.bound.l = c.bound.l) (k7 : D.policies.l = c.policies.l.map Pol.own)
    (hlen : (bytesE (nextT D)).length ≤ (bytesE d).length) : (applyT d e).2 = 0 ∧ alikeT (applyT d e).1 c = true ∧ (applyT d e).1.epoch = c.epoch + 2 := by
  have f := fair2 hc
  have g := fair2 hd
  have hw : IntKind.wrap .u64 (D.epoch + 1) = c.epoch + 2 := by
    rw [hDe, he, wrap_next (by omega) (by omega)]; omega
  have hsm : smallT D = true := by
    have := f.small
    simp only [smallT, k4, k5, k6, k7, List.length_map] at this ⊢
    exact this
  rw [apply_make hd hD (by simp only [fullT, Bool.or_eq_false_iff, decide_eq_false_iff_not, Bool.not_eq_false']; exact ⟨⟨by omega, by have := f.nx; omega⟩, hsm⟩) (mayT_like f.may (by show IntKind.wrap .u64 (D.epoch + 1) ≤ _; omega) k1 k2 k3 k4 k5 k6 k7), if_neg (by have := g.len; omega)]
  exact ⟨rfl, alike_like k1 k2 k3 k4 k5 k6 k7, hw⟩
theorem any_not {α : Type} {l : List α} {key : α → Int} {n : Int} (h : ∀ x ∈ l, key x ≠ n) : (l.any fun p => key p == n) = false := by
  rw [List.any_eq_false]
  intro x hx
  simpa using h x hx
theorem again2 {c : Cfg} {e : Edt} (hk : e.kind = 4 ∨ e.kind = 6 ∨ e.kind = 8) (h0 : 0 ≤ c.epoch) (h1 : c.epoch ≤ 2305843009213693952) (h : (applyT c e).2 = 0) (hn : (applyT c (dropOf e)).2 = 4) :
    (applyT (applyT c e).1 (dropOf e)).2 = 0 ∧ alikeT (applyT (applyT c e).1 (dropOf e)).1 c = true ∧ (applyT (applyT c e).1 (dropOf e)).1.epoch = c.epoch + 2 := by
  obtain ⟨a1, a2, a3, a4⟩ := apply_ok h
  have f := fair2 a1
  have ff := fair a1
  have he := next_ep h0 (by omega)
  have h4 := apply_four hn
  have g := fair2 a2
  have gg := fair a2
  have gs := smallT_le g.small
  have fs := smallT_le f.small
  have hue := uintB_next (x := c.epoch + 1) (by omega) (by omega)
  have hwe : IntKind.wrap .u64 (c.epoch + 1 + 1) = c.epoch + 1 + 1 := wrap_next (by omega) (by omega)
  rcases hk with k | k | k
  · have hd : (applyT c e).1 = { c.own with epoch := c.epoch + 1, services := ⟨false, putT Svc.id e.svc c.services.l⟩ } := by
      rw [a3, does_put.1 k]; simp only [nextT, Cfg.own, he]
    have hdr : ∀ x : Cfg, doesT x (dropOf e) = ({ x with services := outT Svc.id e.svc.id x.services }, if lessT Svc.id e.svc.id x.services then (if (x.pods.l.any fun p => p.service == e.svc.id) || (x.policies.l.any fun p => p.service == e.svc.id) then 5 else 0) else 4) := fun x => by
      simp [doesT, dropOf, idOf, k]
    have hno : ∀ y ∈ c.services.l, y.id ≠ e.svc.id := by
      rw [hdr] at h4
      cases hl : lessT Svc.id e.svc.id c.own.services with
      | false => exact less_not hl
      | true =>
        simp only [hl, if_true] at h4
        split at h4 <;> cases h4
    rw [hd] at a2 g gg gs ⊢
    have hmem : e.svc ∈ putT Svc.id e.svc c.services.l := putT_iff.2 (.inl rfl)
    have hid : e.svc.id ≠ 0 := fun hh => gg.id0 (List.mem_map.2 ⟨e.svc, hmem, hh⟩)
    have ho := putT_out f.sR hno
    have n1 : (c.pods.l.any fun p => p.service == e.svc.id) = false := any_not fun p hp hh => by
      rcases ff.svc p hp with e1 | e1
      · omega
      · obtain ⟨s, s1, s2⟩ := List.mem_map.1 e1
        exact hno s s1 (by omega)
    have n2 : ((c.policies.l.map Pol.own).any fun p => p.service == e.svc.id) = false := any_not fun p hp hh => by
      obtain ⟨q, hq, rfl⟩ := List.mem_map.1 hp
      rcases f.pS q hq with e1 | e1
      · exact hid (by rw [← hh]; exact e1)
      · obtain ⟨s, s1, s2⟩ := List.mem_map.1 e1
        exact hno s s1 (by rw [s2]; exact hh)
    have hD : doesT (Cfg.own { c.own with epoch := c.epoch + 1, services := ⟨false, putT Svc.id e.svc c.services.l⟩ }) (dropOf e) = ({ c.own with epoch := c.epoch + 1, services := ⟨false, c.services.l⟩ }, 0) := by
      rw [Cfg.own_own (by exact own_mem), hdr, less_of (s := ⟨false, putT Svc.id e.svc c.services.l⟩) hmem rfl]
      simp only [outT, ho, Cfg.own, n1, n2, if_true, Bool.or_self, Bool.false_eq_true, if_false]
    refine back_ok a1 a2 h0 h1 rfl hD rfl rfl rfl rfl rfl rfl rfl rfl ?_
    have fo := flat_out svcE (fun y => !(Svc.id y == e.svc.id)) (x := e.svc) (by simp) hmem
    rw [ho] at fo
    have := svcE_two e.svc
    have u1 := uintB_small (n := c.services.l.length) (by omega)
    have u2 := uintB_pos ((putT Svc.id e.svc c.services.l).length : Int)
    rw [bytes_len, bytes_len]
    simp only [nextT, Cfg.own, hwe]
    omega
  · have hd : (applyT c e).1 = { c.own with epoch := c.epoch + 1, bound := ⟨false, putT Way.id e.way c.bound.l⟩ } := by
      rw [a3, does_put.2.1 k]; simp only [nextT, Cfg.own, he]
    have hdr : ∀ x : Cfg, doesT x (dropOf e) = ({ x with bound := outT Way.id e.way.id x.bound }, if lessT Way.id e.way.id x.bound then (if (x.services.l.any fun p => p.way == e.way.id) then 5 else 0) else 4) := fun x => by
      simp [doesT, dropOf, idOf, k]
    have hno : ∀ y ∈ c.bound.l, y.id ≠ e.way.id := by
      rw [hdr] at h4
      cases hl : lessT Way.id e.way.id c.own.bound with
      | false => exact less_not hl
      | true =>
        simp only [hl, if_true] at h4
        split at h4 <;> cases h4
    rw [hd] at a2 g gg gs ⊢
    have hmem : e.way ∈ putT Way.id e.way c.bound.l := putT_iff.2 (.inl rfl)
    have hid : e.way.id ≠ 0 := g.w0 _ hmem
    have ho := putT_out f.wR hno
    have n1 : (c.services.l.any fun p => p.way == e.way.id) = false := any_not fun p hp hh => by
      rcases ff.way p hp with e1 | ⟨w, e1, e2⟩
      · omega
      · exact hno w (List.mem_of_find?_eq_some e1) (by omega)
    have hD : doesT (Cfg.own { c.own with epoch := c.epoch + 1, bound := ⟨false, putT Way.id e.way c.bound.l⟩ }) (dropOf e) = ({ c.own with epoch := c.epoch + 1, bound := ⟨false, c.bound.l⟩ }, 0) := by
      rw [Cfg.own_own (by exact own_mem), hdr, less_of (s := ⟨false, putT Way.id e.way c.bound.l⟩) hmem rfl]
      simp only [outT, ho, Cfg.own, n1, if_true, Bool.or_self, Bool.false_eq_true, if_false]
    refine back_ok a1 a2 h0 h1 rfl hD rfl rfl rfl rfl rfl rfl rfl rfl ?_
    have fo := flat_out wayE (fun y => !(Way.id y == e.way.id)) (x := e.way) (by simp) hmem
    rw [ho] at fo
    have := wayE_two e.way
    have u1 := uintB_small (n := c.bound.l.length) (by omega)
    have u2 := uintB_pos ((putT Way.id e.way c.bound.l).length : Int)
    rw [bytes_len, bytes_len]
    simp only [nextT, Cfg.own, hwe]
    omega
  · have hd : (applyT c e).1 = { c.own with epoch := c.epoch + 1, policies := ⟨false, putT Pol.id e.pol.own (c.policies.l.map Pol.own)⟩ } := by
      rw [a3, does_put.2.2 k]; simp only [nextT, Cfg.own, he]
    have hdr : ∀ x : Cfg, doesT x (dropOf e) = ({ x with policies := outT Pol.id e.pol.id x.policies }, if lessT Pol.id e.pol.id x.policies then 0 else 4) := fun x => by
      simp [doesT, dropOf, idOf, k]
    have hno : ∀ y ∈ c.policies.l.map Pol.own, y.id ≠ e.pol.own.id := by
      rw [hdr] at h4
      cases hl : lessT Pol.id e.pol.id c.own.policies with
      | false => exact less_not hl
      | true =>
        simp only [hl, if_true] at h4
        cases h4
    rw [hd] at a2 g gg gs ⊢
    have hmem : e.pol.own ∈ putT Pol.id e.pol.own (c.policies.l.map Pol.own) := putT_iff.2 (.inl rfl)
    have ho := putT_out (own_rise f.pR) hno
    have hD : doesT (Cfg.own { c.own with epoch := c.epoch + 1, policies := ⟨false, putT Pol.id e.pol.own (c.policies.l.map Pol.own)⟩ }) (dropOf e) = ({ c.own with epoch := c.epoch + 1, policies := ⟨false, c.policies.l.map Pol.own⟩ }, 0) := by
      rw [Cfg.own_own (by
        intro p hp
        rcases putT_mem hp with rfl | hp
        · exact Pol.own_own _
        · exact own_mem p hp.1), hdr, less_of (n := e.pol.id) (s := ⟨false, putT Pol.id e.pol.own (c.policies.l.map Pol.own)⟩) hmem rfl]
      show (_, (0 : Int)) = _
      congr 2
      simp only [outT]
      exact congrArg _ ho
    refine back_ok a1 a2 h0 h1 rfl hD rfl rfl rfl rfl rfl rfl rfl rfl ?_
    have fo := flat_out polTE (fun y => !(Pol.id y == e.pol.own.id)) (x := e.pol.own) (by simp) hmem
    rw [ho] at fo
    have := polTE_two e.pol.own
    have u1 := uintB_small (n := (c.policies.l.map Pol.own).length) (by rw [List.length_map]; omega)
    have u2 := uintB_pos ((putT Pol.id e.pol.own (c.policies.l.map Pol.own)).length : Int)
    rw [bytes_len, bytes_len]
    simp only [nextT, Cfg.own, hwe]
    omega
end Go.Proofs.YtmnfjejphmmddaaGreat

/-
  config.Same, alike, the law ConfigAgain: an instance of the reading of their own.
-/

namespace Go.Proofs.YtmnfjejphmmddaaGreat
def tabA : List (Nat × QF) := [(10, q10), (62, q62), (126, q126), (173, q173), (174, q174), (175, q175), (176, q176), (177, q177), (286, q286), (287, q287), (355, q355), (356, q356), (357, q357), (358, q358), (359, q359), (360, q360), (420, q420), (421, q421), (422, q422)]
def TA : FuncId → Option QF := lookT tabA
def valA (f : FuncId) : Bool := [10, 62, 126, 173, 174, 175, 176, 177, 286, 287, 355, 356, 357, 358, 359, 360, 420, 421, 422].any fun n => Nat.beq n f
theorem a10 : TA 10 = some (q10) := by kernel_rfl
theorem w10 : valA 10 = true := by kernel_rfl
theorem a62 : TA 62 = some (q62) := by kernel_rfl
theorem w62 : valA 62 = true := by kernel_rfl
theorem a126 : TA 126 = some (q126) := by kernel_rfl
theorem w126 : valA 126 = true := by kernel_rfl
theorem a173 : TA 173 = some (eqlQ 7 (.agg [(.i .u64), .s, .s, (.i .i64), (.i .u32), (.i .i64), (.i .u64)])) := by kernel_rfl
theorem w173 : valA 173 = true := by kernel_rfl
theorem a174 : TA 174 = some (eqlQ 5 (.agg [(.i .u64), .s, (.i .u32), (.i .i64), (.i .u64)])) := by kernel_rfl
theorem w174 : valA 174 = true := by kernel_rfl
theorem a175 : TA 175 = some (eqlQ 2 (.agg [(.i .u64), (.i .i64)])) := by kernel_rfl
theorem w175 : valA 175 = true := by kernel_rfl
theorem a176 : TA 176 = some (eqfQ 5 [(.d (.int .u64 0)), (.d (.str ⟨#[]⟩)), (.d (.int .u64 0)), (.d (.int .i64 0)), (.d (.slice true []))]) := by kernel_rfl
theorem w176 : valA 176 = true := by kernel_rfl
theorem a177 : TA 177 = some (q177) := by kernel_rfl
theorem w177 : valA 177 = true := by kernel_rfl
theorem a286 : TA 286 = some (eqfQ 3 [(.d (.slice true [])), (.d (.slice true [])), (.d (.slice true []))]) := by kernel_rfl
theorem w286 : valA 286 = true := by kernel_rfl
theorem a287 : TA 287 = some (q287) := by kernel_rfl
theorem w287 : valA 287 = true := by kernel_rfl
theorem a355 : TA 355 = some (eqfQ 3 [(.d (.slice true [])), (.d (.slice true [])), (.d (.slice true []))]) := by kernel_rfl
theorem w355 : valA 355 = true := by kernel_rfl
theorem a356 : TA 356 = some (q356) := by kernel_rfl
theorem w356 : valA 356 = true := by kernel_rfl
theorem a357 : TA 357 = some (eqfQ 4 [(.d (.slice true [])), (.d (.slice true [])), (.d (.slice true [])), (.d (.slice true []))]) := by kernel_rfl
theorem w357 : valA 357 = true := by kernel_rfl
theorem a358 : TA 358 = some (q358) := by kernel_rfl
theorem w358 : valA 358 = true := by kernel_rfl
theorem a359 : TA 359 = some (eqfQ 2 [(.d (.str ⟨#[]⟩)), (.d (.slice true []))]) := by kernel_rfl
theorem w359 : valA 359 = true := by kernel_rfl
theorem a360 : TA 360 = some (q360) := by kernel_rfl
theorem w360 : valA 360 = true := by kernel_rfl
theorem a420 : TA 420 = some (eqlQ 2 (.agg [(.i .i64), .s])) := by kernel_rfl
theorem w420 : valA 420 = true := by kernel_rfl
theorem a421 : TA 421 = some (eqlQ 2 (.agg [(.i .u32), (.i .i64)])) := by kernel_rfl
theorem w421 : valA 421 = true := by kernel_rfl
theorem a422 : TA 422 = some (eql1Q (.sc (.i .i64))) := by kernel_rfl
theorem w422 : valA 422 = true := by kernel_rfl
theorem a31 : TA 31 = none := by kernel_rfl
theorem a32 : TA 32 = none := by kernel_rfl
theorem a33 : TA 33 = none := by kernel_rfl
theorem a36 : TA 36 = none := by kernel_rfl
section
variable {E : Calls'}
theorem S420 (s t : Sl Term) (hs : short s) (h : Hp) : Sm E TA valA 420 [.d (s.d Term.c), .d (t.d Term.c)] h = some (bl (all2 Term.eqB s.l t.l), h) :=
  S_eql (z := 2) (fun _ => rfl) (by decide) a420 w420 hs.lt (fun x y h => eqv_term) h
theorem S421 (s t : Sl Cidr) (hs : short s) (h : Hp) : Sm E TA valA 421 [.d (s.d Cidr.c), .d (t.d Cidr.c)] h = some (bl (all2 Cidr.eqB s.l t.l), h) :=
  S_eql (z := 2) (fun _ => rfl) (by decide) a421 w421 hs.lt (fun x y h => eqv_cidr) h
theorem S422 (s t : Sl Int) (hs : short s) (h : Hp) : Sm E TA valA 422 [.d (s.d intC), .d (t.d intC)] h = some (bl (all2 (fun x y : Int => x == y) s.l t.l), h) :=
  S_eql1 (cell := fun n => i64 n) a422 w422 hs.lt (fun x y h => eqv_i) h
theorem S173 (s t : Sl Pod) (hs : short s) (h : Hp) : Sm E TA valA 173 [.d (s.d Pod.c), .d (t.d Pod.c)] h = some (bl (all2 Pod.eqB s.l t.l), h) :=
  S_eql (z := 7) (fun _ => rfl) (by decide) a173 w173 hs.lt (fun x y h => eqv_pod) h
theorem S174 (s t : Sl Svc) (hs : short s) (h : Hp) : Sm E TA valA 174 [.d (s.d Svc.c), .d (t.d Svc.c)] h = some (bl (all2 Svc.eqB s.l t.l), h) :=
  S_eql (z := 5) (fun _ => rfl) (by decide) a174 w174 hs.lt (fun x y h => eqv_svc) h
theorem S175 (s t : Sl Way) (hs : short s) (h : Hp) : Sm E TA valA 175 [.d (s.d Way.c), .d (t.d Way.c)] h = some (bl (all2 Way.eqB s.l t.l), h) :=
  S_eql (z := 2) (fun _ => rfl) (by decide) a175 w175 hs.lt (fun x y h => eqv_way) h
theorem S356 (a b : Source) (ha : a.fits big) (h : Hp) : Sm E TA valA 356 [ag a.c, ag b.c] h = some (bl (a.same b), h) := by
  have n1 := fun h => S420 (E := E) a.names b.names ha.1 h
  have n2 := fun h => S420 (E := E) a.spaces b.spaces ha.2.1 h
  have n3 := fun h => S421 (E := E) a.nets b.nets ha.2.2 h
  rw [Sm_v a356 w356]
  unfold Source.same
  generalize all2 Term.eqB a.names.l b.names.l = A1 at *
  generalize all2 Term.eqB a.spaces.l b.spaces.l = A2 at *
  generalize all2 Cidr.eqB a.nets.l b.nets.l = A3 at *
  cases A1 <;> cases A2 <;> simp (decide := true) [Bd_mk, q356, n1, n2, n3, openA, opDE_call, noTr, opsA_if]
theorem S358 (a b : Target) (ha : a.fits big) (h : Hp) : Sm E TA valA 358 [ag a.c, ag b.c] h = some (bl (a.same b), h) := by
  have n0 := fun h => S422 (E := E) a.ports b.ports ha.1 h
  have n1 := fun h => S420 (E := E) a.methods b.methods ha.2.1 h
  have n2 := fun h => S420 (E := E) a.paths b.paths ha.2.2.1 h
  have n3 := fun h => S420 (E := E) a.hosts b.hosts ha.2.2.2 h
  rw [Sm_v a358 w358]
  unfold Target.same
  generalize all2 (fun x y : Int => x == y) a.ports.l b.ports.l = A0 at *
  generalize all2 Term.eqB a.methods.l b.methods.l = A1 at *
  generalize all2 Term.eqB a.paths.l b.paths.l = A2 at *
  generalize all2 Term.eqB a.hosts.l b.hosts.l = A3 at *
  cases A0 <;> cases A1 <;> cases A2 <;> simp (decide := true) [Bd_mk, q358, n0, n1, n2, n3, openA, opDE_call, noTr, opsA_if]
theorem S360 (a b : When) (ha : a.fits big) (h : Hp) : Sm E TA valA 360 [ag a.c, ag b.c] h = some (bl (a.same b), h) := by
  have n1 := fun h => S420 (E := E) a.terms b.terms ha h
  rw [Sm_v a360 w360]
  unfold When.same
  generalize all2 Term.eqB a.terms.l b.terms.l = A1 at *
  cases e1 : eqS a.head b.head <;> simp (decide := true) [Bd_mk, q360, n1, e1, openA, opDE_call, noTr, opsA_if]
theorem S287 (a b : Rule) (ha : a.fits big) (h : Hp) : Sm E TA valA 287 [ag a.c, ag b.c] h = some (bl (a.same b), h) := by
  have n1 := fun h => S_eqf (E := E) (T := TA) (val := valA) (cells := Source.c) (z := 3) (fun _ => rfl) (by decide) rfl (f := 356) (p := Source.same) a355 w355 (s := a.frm) (t := b.frm) ha.1.1.lt (fun x hx y _ h => S356 x y (ha.1.2 x hx) h) h
  have n2 := fun h => S_eqf (E := E) (T := TA) (val := valA) (cells := Target.c) (z := 4) (fun _ => rfl) (by decide) rfl (f := 358) (p := Target.same) a357 w357 (s := a.to) (t := b.to) ha.2.1.1.lt (fun x hx y _ h => S358 x y (ha.2.1.2 x hx) h) h
  have n3 := fun h => S_eqf (E := E) (T := TA) (val := valA) (cells := When.c) (z := 2) (fun _ => rfl) (by decide) rfl (f := 360) (p := When.same) a359 w359 (s := a.whn) (t := b.whn) ha.2.2.1.lt (fun x hx y _ h => S360 x y (ha.2.2.2 x hx) h) h
  rw [Sm_v a287 w287]
  unfold Rule.same
  generalize all2 Source.same a.frm.l b.frm.l = A1 at *
  generalize all2 Target.same a.to.l b.to.l = A2 at *
  generalize all2 When.same a.whn.l b.whn.l = A3 at *
  cases A1 <;> cases A2 <;> simp (decide := true) [Bd_mk, q287, n1, n2, n3, openA, opDE_call, noTr, opsA_if]
theorem S177 (a b : Pol) (ha : a.fits big) (h : Hp) : Sm E TA valA 177 [ag a.c, ag b.c] h = some (bl (a.same b), h) := by
  have n1 := fun h => S_eqf (E := E) (T := TA) (val := valA) (cells := Rule.c) (z := 3) (fun _ => rfl) (by decide) rfl (f := 287) (p := Rule.same) a286 w286 (s := a.rules) (t := b.rules) ha.1.lt (fun x hx y _ h => S287 x y (ha.2 x hx) h) h
  rw [Sm_v a177 w177]
  unfold Pol.same
  generalize all2 Rule.same a.rules.l b.rules.l = A1 at *
  cases e1 : (a.id == b.id)
  case false => simp (decide := true) [Bd_mk, q177, n1, e1, openA, opDE_call, noTr, opsA_if]
  cases e2 : eqS a.ns b.ns
  case false => simp (decide := true) [Bd_mk, q177, n1, e1, e2, openA, opDE_call, noTr, opsA_if]
  cases e3 : (a.service == b.service)
  case false => simp (decide := true) [Bd_mk, q177, n1, e1, e2, e3, openA, opDE_call, noTr, opsA_if]
  cases e4 : (a.deny == b.deny) <;> simp (decide := true) [Bd_mk, q177, n1, e1, e2, e3, e4, openA, opDE_call, noTr, opsA_if]
theorem S126 (a b : Cfg) (ha : a.ok) (h : Hp) : Sm E TA valA 126 [a.v, b.v] h = some (bl (a.same b), h) := by
  have n1 := fun h => S173 (E := E) a.pods b.pods ha.1 h
  have n2 := fun h => S174 (E := E) a.services b.services ha.2.1 h
  have n3 := fun h => S175 (E := E) a.bound b.bound ha.2.2.1 h
  have n4 := fun h => S_eqf (E := E) (T := TA) (val := valA) (cells := Pol.c) (z := 5) (fun _ => rfl) (by decide) rfl (f := 177) (p := Pol.same) a176 w176 (s := a.policies) (t := b.policies) ha.2.2.2.1.lt (fun x hx y _ h => S177 x y (ha.2.2.2.2 x hx) h) h
  rw [Sm_v a126 w126]
  unfold Cfg.same
  generalize all2 Pod.eqB a.pods.l b.pods.l = A1 at *
  generalize all2 Svc.eqB a.services.l b.services.l = A2 at *
  generalize all2 Way.eqB a.bound.l b.bound.l = A3 at *
  generalize all2 Pol.same a.policies.l b.policies.l = A4 at *
  cases e1 : (a.epoch == b.epoch)
  case false => simp (decide := true) [Bd_mk, q126, e1, openA, opDE_call, noTr, opsA_if]
  cases e2 : (a.next == b.next)
  case false => simp (decide := true) [Bd_mk, q126, e1, e2, openA, opDE_call, noTr, opsA_if]
  cases e3 : (a.hosts == b.hosts)
  case false => simp (decide := true) [Bd_mk, q126, e1, e2, e3, openA, opDE_call, noTr, opsA_if]
  cases e4 : (a.ways == b.ways)
  case false => simp (decide := true) [Bd_mk, q126, e1, e2, e3, e4, openA, opDE_call, noTr, opsA_if]
  cases A1 <;> cases A2 <;> cases A3 <;> simp (decide := true) [Bd_mk, q126, e1, e2, e3, e4, n1, n2, n3, n4, openA, opDE_call, noTr, opsA_if]
theorem S62 (a b : Cfg) (ha : a.ok) (h : Hp) : Sm E TA valA 62 [a.v, b.v] h = some (bl (alikeT a b), h) := by
  have n1 := fun h => S126 (E := E) { a with epoch := b.epoch } b ha h
  have hp : put (a.c.map V.d) 0 [.d (u64 b.epoch)] = some (Cfg.c { a with epoch := b.epoch } |>.map .d) := rfl
  rw [Sm_v a62 w62]
  unfold alikeT
  simp (decide := true) [Bd_mk, q62, n1, hp, openA, opDE_call, noTr, opsA_if]
end
end Go.Proofs.YtmnfjejphmmddaaGreat

/-
  The law ConfigAgain.
-/
namespace Go.Proofs.YtmnfjejphmmddaaGreat
@[simp] theorem Edt.s9_1 {x : Edt} : sub x.c 9 1 = some [u64 x.svc.id] := (rfl)
@[simp] theorem Edt.s14_1 {x : Edt} : sub x.c 14 1 = some [u64 x.way.id] := (rfl)
@[simp] theorem Edt.s16_1 {x : Edt} : sub x.c 16 1 = some [u64 x.pol.id] := (rfl)
theorem inr_nonneg {n : Int} (h : Inr .u64 n) : 0 ≤ n := by
  simp [Inr, Lit.wf, IntKind.min, IntKind.max, IntKind.bits, IntKind.signed] at h
  omega
theorem apply_ep {c : Cfg} {e : Edt} (h : (applyT c e).2 = 0) (h0 : 0 ≤ c.epoch) (h1 : c.epoch ≤ 2305843009213693952) : (applyT c e).1.epoch = c.epoch + 1 := by
  rw [(apply_ok h).2.2.1]
  show IntKind.wrap .u64 ((doesT c.own e).1.epoch + 1) = _
  rw [(does_steps c.own e).2.2]
  show IntKind.wrap .u64 (c.epoch + 1) = _
  exact wrap_next h0 (by omega)
theorem dropOf_wf {B : Nat} {e : Edt} (h : e.wf B) (hk : e.kind = 4 ∨ e.kind = 6 ∨ e.kind = 8) : (dropOf e).wf B := by
  have hi : Inr .u64 (idOf e) := by
    unfold idOf
    split
    · exact h.2.2.2.2.1.1
    · split
      · exact h.2.2.2.2.2.1
      · exact h.2.2.2.1.1
  have hkk : Inr .i64 (e.kind + 1) := by rcases hk with k | k | k <;> rw [k] <;> (unfold Inr; decide)
  have z : ∀ k : IntKind, Inr k 0 := fun k => by cases k <;> (unfold Inr; decide)
  exact ⟨hkk, hi, ⟨z _, Nat.zero_le _, Nat.zero_le _, z _, z _, z _, z _⟩, ⟨z _, Nat.zero_le _, z _, z _, z _⟩, ⟨z _, z _⟩, ⟨z _, Nat.zero_le _, z _, z _, ⟨⟨Nat.zero_le _, fun _ => rfl⟩, by simp [dropOf, pol0]⟩⟩⟩
section
variable {E : Calls'} (h36 : ∀ c : Cfg, c.wf 1048576 → c.wf big → ∀ e : Edt, e.wf 1048576 → e.wf big → ∀ h, E 36 [c.v, ag e.c] h = some (.tup [ag (applyT c e).1.c, .d (i64 (applyT c e).2)], h))
  (h31 : ∀ c : Cfg, c.ok → ∃ b : Bool, ∀ h, E 31 [c.v] h = some (bl b, h)) (h32 : ∀ e : Edt, e.wf big → ∃ b : Bool, ∀ h, E 32 [ag e.c] h = some (bl b, h)) (h33 : ∀ h, E 33 [] h = some (bl true, h))
include h36 h31 h32 h33
/-- ConfigAgain holds. -/
theorem S10 (c : Cfg) (hc : c.wf 1048576) (hcb : c.wf big) (e : Edt) (he : e.wf 1048576) (heb : e.wf big) (h : Hp) : Sm E TA valA 10 [c.v, ag e.c] h = some (bl true, h) := by
  have m36 := fun c hc hcb e he heb h => (Sm_ext (E := E) (T := TA) (val := valA) (args := [c.v, ag e.c]) (h := h) a36).trans (h36 c hc hcb e he heb h)
  have m33 : ∀ h, Sm E TA valA 33 [] h = some (bl true, h) := fun h => by rw [Sm_ext a33]; exact h33 h
  obtain ⟨b1, e1⟩ := h31 c (hc.ok (by decide))
  obtain ⟨b2, e2⟩ := h32 e heb
  have m31 : ∀ h, Sm E TA valA 31 [c.v] h = some (bl b1, h) := fun h => by rw [Sm_ext a31]; exact e1 h
  have m32 : ∀ h, Sm E TA valA 32 [ag e.c] h = some (bl b2, h) := fun h => by rw [Sm_ext a32]; exact e2 h
  clear e1 e2
  rw [Sm_v a10 w10]
  cases b1
  case true => simp (decide := true) [Bd_mk, q10, m31, m33, openA, opDE_call, noTr, opsA_if]
  cases b2
  case true => simp (decide := true) [Bd_mk, q10, m31, m32, m33, openA, opDE_call, noTr, opsA_if]
  by_cases hep : c.epoch > 2305843009213693952
  · simp (decide := true) [Bd_mk, q10, m31, m32, m33, hep, openA, opDE_call, noTr, opsA_if]
  have h0 : 0 ≤ c.epoch := inr_nonneg hc.1
  by_cases hk : e.kind = 4 ∨ e.kind = 6 ∨ e.kind = 8
  case neg =>
    have k4 : ¬ e.kind = 4 := fun k => hk (.inl k)
    have k6 : ¬ e.kind = 6 := fun k => hk (.inr (.inl k))
    have k8 : ¬ e.kind = 8 := fun k => hk (.inr (.inr k))
    simp (decide := true) [Bd_mk, q10, m31, m32, m33, hep, k4, k6, k8, openA, opDE_call, noTr, opsA_if]
  have hdw1 := dropOf_wf he hk
  have hdw2 := dropOf_wf heb hk
  have n1 := fun h => m36 c hc hcb e he heb h
  have n3 := fun h => m36 c hc hcb (dropOf e) hdw1 hdw2 h
  have hz : ag [(.int .u64 0), (.int .u64 0), (.int .i64 0), (.int .i64 0), (.slice true []), (.slice true []), (.slice true []), (.slice true [])] = ag cfg0.c := rfl
  have hp0 : ∀ x y : Cfg, put (x.c.map V.d) 0 (y.c.map V.d) = some (y.c.map V.d) := fun _ _ => rfl
  have hzc : [(.d (.int .u64 0)), (.d (.int .u64 0)), (.d (.int .i64 0)), (.d (.int .i64 0)), (.d (.slice true [])), (.d (.slice true [])), (.d (.slice true [])), (.d (.slice true []))] = cfg0.c.map V.d := rfl
  by_cases hf : (applyT c e).2 = 0
  case neg =>
    generalize (applyT c e).1 = d at *
    generalize (applyT c e).2 = f at *
    rcases hk with k | k | k <;> simp (decide := true) [Bd_mk, q10, m31, m32, m33, hep, k, n1, hf, hp0, hzc, openA, opDE_call, noTr, opsA_if]
  have r1 := again1 hk h0 (by omega) hf
  have r2 := again2 hk h0 (by omega) hf
  have hd1 := apply_wf hc he (by decide) hf
  have hd2 := apply_wf hcb heb (by decide) hf
  have hdm := (apply_ok hf).2.1
  have hep1 : (applyT c e).1.epoch = c.epoch + 1 := apply_ep hf h0 (by omega)
  have hok := hd1.ok (by decide)
  have hcok := hc.ok (by decide)
  generalize (applyT c e).1 = d at *
  generalize (applyT c e).2 = f at *
  subst hf
  have n2 := fun h => m36 d hd1 hd2 e he heb h
  have n4 := fun h => m36 d hd1 hd2 (dropOf e) hdw1 hdw2 h
  rcases r1 with r1 | r1
  · rw [r1] at n2
    rcases hk with k | k | k <;> simp (decide := true) [Bd_mk, q10, m31, m32, m33, hep, k, n1, n2, hp0, hzc, openA, opDE_call, noTr, opsA_if]
  rw [r1] at n2
  have hal : alikeT (nextT d) d = true := Cfg.same_refl d
  have n62 := fun h => S62 (E := E) (nextT d) d hok h
  rw [hal] at n62
  have hnx : (nextT d).epoch = d.epoch + 1 := by show IntKind.wrap .u64 (d.epoch + 1) = _; rw [hep1, wrap_next (by omega) (by omega)]
  have hw1 : IntKind.wrap .u64 (d.epoch + 1) = d.epoch + 1 := hnx
  have hdr : (e.kind = 4 → dropOf e = ⟨5, e.svc.id, pod0, svc0, way0, pol0⟩) ∧ (e.kind = 6 → dropOf e = ⟨7, e.way.id, pod0, svc0, way0, pol0⟩) ∧ (e.kind = 8 → dropOf e = ⟨9, e.pol.id, pod0, svc0, way0, pol0⟩) := ⟨fun k => by simp [dropOf, idOf, k], fun k => by simp [dropOf, idOf, k], fun k => by simp [dropOf, idOf, k]⟩
  have hdz : ∀ k n : Int, V.agg [.d (.int .i64 k), .d (.int .u64 n), .d (.int .u64 0), .d (.str ⟨#[]⟩), .d (.str ⟨#[]⟩), .d (.int .i64 0), .d (.int .u32 0), .d (.int .i64 0), .d (.int .u64 0), .d (.int .u64 0), .d (.str ⟨#[]⟩), .d (.int .u32 0), .d (.int .i64 0), .d (.int .u64 0), .d (.int .u64 0), .d (.int .i64 0), .d (.int .u64 0), .d (.str ⟨#[]⟩), .d (.int .u64 0), .d (.int .i64 0), .d (.slice true [])] = ag (Edt.c ⟨k, n, pod0, svc0, way0, pol0⟩) := fun _ _ => rfl
  generalize hN : nextT d = N at *
  by_cases h4 : (applyT c (dropOf e)).2 = 4
  case neg =>
    generalize (applyT c (dropOf e)).1 = x at *
    generalize (applyT c (dropOf e)).2 = g at *
    rcases hk with k | k | k
    · rw [hdr.1 k] at n3
      simp (decide := true) [Bd_mk, q10, m31, m32, m33, hep, k, n1, n2, n3, n62, hnx, hw1, h4, hp0, hzc, hdz, fillsE, openA, opDE_call, noTr, opsA_if]
    · rw [hdr.2.1 k] at n3
      simp (decide := true) [Bd_mk, q10, m31, m32, m33, hep, k, n1, n2, n3, n62, hnx, hw1, h4, hp0, hzc, hdz, fillsE, openA, opDE_call, noTr, opsA_if]
    · rw [hdr.2.2 k] at n3
      simp (decide := true) [Bd_mk, q10, m31, m32, m33, hep, k, n1, n2, n3, n62, hnx, hw1, h4, hp0, hzc, hdz, fillsE, openA, opDE_call, noTr, opsA_if]
  obtain ⟨s1, s2, s3⟩ := r2 h4
  have hbok : (applyT d (dropOf e)).1.ok := (apply_wf hd1 hdw1 (by decide) s1).ok (by decide)
  have n62b := fun h => S62 (E := E) (applyT d (dropOf e)).1 c hbok h
  rw [s2] at n62b
  have hw2 : IntKind.wrap .u64 (c.epoch + 2) = c.epoch + 2 := by
    have := wrap_next (n := c.epoch + 1) (by omega) (by omega)
    rw [show c.epoch + 1 + 1 = c.epoch + 2 by omega] at this
    exact this
  generalize (applyT c (dropOf e)).1 = x at *
  generalize (applyT c (dropOf e)).2 = g at *
  generalize (applyT d (dropOf e)).1 = y at *
  generalize (applyT d (dropOf e)).2 = j at *
  subst h4 s1
  rcases hk with k | k | k
  · rw [hdr.1 k] at n3 n4
    simp (decide := true) [Bd_mk, q10, m31, m32, m33, hep, k, n1, n2, n3, n4, n62, n62b, hnx, hw1, hw2, s3, hp0, hzc, hdz, fillsE, openA, opDE_call, noTr, opsA_if]
  · rw [hdr.2.1 k] at n3 n4
    simp (decide := true) [Bd_mk, q10, m31, m32, m33, hep, k, n1, n2, n3, n4, n62, n62b, hnx, hw1, hw2, s3, hp0, hzc, hdz, fillsE, openA, opDE_call, noTr, opsA_if]
  · rw [hdr.2.2 k] at n3 n4
    simp (decide := true) [Bd_mk, q10, m31, m32, m33, hep, k, n1, n2, n3, n4, n62, n62b, hnx, hw1, hw2, s3, hp0, hzc, hdz, fillsE, openA, opDE_call, noTr, opsA_if]
end
end Go.Proofs.YtmnfjejphmmddaaGreat
