/- Sorting numbers in place: the frame. A block of one's own holds numbers of one kind; nothing else is turned. -/
import Derived.Test.YtegfnefobbgkjaaGreatCp
import Derived.Sort.Defs
import Derived.Test.YtegfnefobbgkjaaGreatF64
import Derived.Test.YtegfnefobbgkjaaGreatSa
import Derived.KernelRfl
import Derived.Test.YtegfnefobbgkjaaGreatWa
import Derived.Sort.LotC
import Derived.Sort.LotA
import Derived.Test.YtegfnefobbgkjaaGreatWo
import Derived.Sort.LotD2
import Derived.Sort.LotD3
import Derived.Sort.LotB
import Derived.Sort.LotD1
import Derived.Test.YtegfnefobbgkjaaGreatOa
set_option maxRecDepth 100000
set_option linter.unusedVariables false
set_option linter.unusedSimpArgs false
namespace Go.Proofs.YtegfnefobbgkjaaGreat
open Go.Sort (swp)
def zsV (kd:IntKind) (d:Array Int):List V:=d.toList.map (iv kd)
theorem zsV_len {kd:IntKind} {d:Array Int}:(zsV kd d).length = d.size:=by simp [zsV]
theorem zsV_at {kd:IntKind} {d:Array Int} {i:Nat} (h:i < d.size):(zsV kd d)[i]? = some (iv kd d[i]!):=by
 simp [zsV,h,getElem!_pos]
theorem zsV_set {kd:IntKind} {d:Array Int} {i:Nat} {x:Int}:(zsV kd d).set i (iv kd x) = zsV kd (d.setIfInBounds i x):=by
 simp [zsV]
abbrev Mz (kd:IntKind) (bs:List Blk) (b:Nat) (d:Array Int) (lo:Nat):Hp:=Mr bs b (zsV kd d) lo
section
variable {kd:IntKind} {bs:List Blk} {b lo:Nat} {d:Array Int}
theorem Mz_ld (hb:b < bs.length) {i:Nat} (hi:i < d.size):ldv (Mz kd bs b d lo) (.ptr b i) 1 true = some (.d (.int kd d[i]!),Mz kd bs b d lo):=Mr_ld hb (zsV_at hi)
theorem Mz_st (hb:b < bs.length) {i:Nat} {x:Int} (hi:i < d.size):stv (Mz kd bs b d lo) (.ptr b i) (.d (.int kd x)) 1 = some (.undef,Mz kd bs b (d.setIfInBounds i x) (min lo b)):=by
 have:=Mr_st (lo:=lo) hb (k:=i) (x:=.int kd x) (cur:=zsV kd d) (by rw [zsV_len]; exact hi)
 rw [this]
 have h2:=zsV_set (kd:=kd) (d:=d) (i:=i) (x:=x)
 rw [iv] at h2
 rw [h2]
end
def Kz (b lo:Nat) (d:Array Int) (lo':Nat) (d':Array Int):Prop:=(lo' <= b) \/ (d' = d /\ lo' = lo)
theorem Kz.refl {b lo:Nat} {d:Array Int}:Kz b lo d lo d:=.inr ⟨rfl,rfl⟩
theorem Kz.trans {b lo lo' lo'':Nat} {d d' d'':Array Int} (h:Kz b lo d lo' d') (k:Kz b lo' d' lo'' d''):Kz b lo d lo'' d'':=by
 rcases k with k | ⟨rfl,rfl⟩
 · exact .inl k
 · exact h
theorem swpz_size {d:Array Int} {i j:Nat}:(swp d i j).size = d.size:=by simp [swp]
theorem Mz_swap {kd:IntKind} {bs:List Blk} {b lo:Nat} {d:Array Int} (hb:b < bs.length) {i j:Nat} (hi:i < d.size) (hj:j < d.size) :
 stv (Mz kd bs b d lo) (.ptr b i) (.d (.int kd d[j]!)) 1 = some (.undef,Mz kd bs b (d.setIfInBounds i d[j]!) (min lo b)) ∧
 ∀ lo,stv (Mz kd bs b (d.setIfInBounds i d[j]!) lo) (.ptr b j) (.d (.int kd d[i]!)) 1 = some (.undef,Mz kd bs b (swp d i j) (min lo b)) :=
 ⟨Mz_st hb hi,fun lo=>Mz_st hb (by simpa using hj)⟩
theorem byRef_z {kd:IntKind} {bs:List Blk} {b lo lo':Nat} {d d':Array Int} {r:V} (hb:b < bs.length) (hr:r.under bs.length = true) (hk:Kz b bs.length d lo' d') :
 ∃ lo2,byRef (Mz kd bs b d lo) (some (r,Mz kd bs b d' lo')) = some (r,Mz kd bs b d' lo2) /\ Kz b lo d lo2 d':=by
 have hl:(Mz kd bs b d lo).bs.length = bs.length:=by simp [Mz,Mr]
 rw [byRef_s]
 rcases hk with hk | ⟨rfl,rfl⟩
 · rw [if_neg (fun hh=>by have:=hh.1; rw [hl] at this; simp only [Mz,Mr] at this; omega)]
   exact ⟨min lo lo',rfl,.inl (by omega)⟩
 · rw [if_pos ⟨by rw [hl]; exact Nat.le_refl _,by rw [hl]; exact hr⟩]
   exact ⟨lo,rfl,.refl⟩
end Go.Proofs.YtegfnefobbgkjaaGreat
namespace Go.Proofs.YtegfnefobbgkjaaGreat
open Go.Sort (swp ltInt insInner insOuter insertionSort)
def tabS:List (Nat × QF):=[(130,q240),(208,q328),(209,q329),(210,q330),(211,q331),(212,q332),(213,q333),(215,q335),(216,q336),(246,q374),(249,q377),(250,q378),(297,q434),(247,q375),(248,q376)]
def TS:FuncId -> Option QF:=lookT tabS
def valS (f:FuncId):Bool:=[247].any fun n=>Nat.beq n f
theorem s328:TS 208 = some q328:=by kernel_rfl
theorem x328:valS 208 = false:=by kernel_rfl
theorem s334:TS 214 = none:=by kernel_rfl
section
variable {E:Calls'} (h334:∀ x y h,E 214 [.d (u32 x),.d (u32 y)] h = some (bl (ltInt x y),h))
include h334
theorem Z334 (x y:Int) (h:Hp):Sm E TS valS 214 [.d (u32 x),.d (u32 y)] h = some (bl (ltInt x y),h):=by rw [Sm_ext s334]; exact h334 x y h
theorem ins_inz {bs:List Blk} {b:Nat} (hb:b < bs.length) {n a:Nat} (hn:n < 2 ^ 62) (ha:a <= n) {cap:Option Nat} (t2 t6:V):∀ (m:Nat) (d:Array Int) (lo:Nat),m < n -> d.size = n →
 ∃ lo',Cd E TS valS (.loop [0,1,2,6,7] q328_b0) [(0,.row b 0 n cap 1),(1,.d (i64 a)),(2,t2),(6,t6),(7,.d (i64 m))] (Mz .u32 bs b d lo) =
  some (.exit 2,[(0,.row b 0 n cap 1),(1,.d (i64 a)),(2,t2),(6,t6)],Mz .u32 bs b (insInner ltInt a m d) lo') /\ Kz b lo d lo' (insInner ltInt a m d) /\ (insInner ltInt a m d).size = n:=by
 intro m
 have key:=Cd_round (E:=E) (T:=TS) (val:=valS) [0,1,2,6,7] q328_b0
 generalize Cd E TS valS (.loop [0,1,2,6,7] q328_b0) = W at key ⊢
 induction m with
 | zero =>
  intro d lo hm hd
  refine ⟨lo,?_,.refl,hd⟩
  rw [key]
  simp (decide:=true) [q328_b0,openA,noTr,apartT_mute,Tr.mute,insInner,show ¬ ((a:Int) < 0) from by omega]
 | succ m ih =>
  intro d lo hm hd
  have hw1:IntKind.wrap .i64 (((m + 1:Nat):Int) - 1) = (m:Int):=by rw [wrap64] <;> omega
  have ix1:=fun h=>ix_row (b:=b) (o:=0) (z:=1) (cap:=cap) (kd:=.i64) (h:=h) (show m + 1 < n by omega)
  have ix0:=fun h=>ix_row (b:=b) (o:=0) (z:=1) (cap:=cap) (kd:=.i64) (h:=h) (show m < n by omega)
  simp only [Nat.zero_add,Nat.mul_one] at ix1 ix0
  have l1:=Mz_ld (kd:=.u32) (lo:=lo) hb (d:=d) (i:=m + 1) (by omega)
  have l0:=Mz_ld (kd:=.u32) (lo:=lo) hb (d:=d) (i:=m) (by omega)
  obtain ⟨st1,st2⟩:=Mz_swap (kd:=.u32) (lo:=lo) hb (d:=d) (i:=m + 1) (j:=m) (by omega) (by omega)
  have q:=ih (swp d (m + 1) m) (min (min lo b) b) (by omega) (by rw [swpz_size]; exact hd)
  have c:=fun h=>Z334 h334 d[m + 1]! d[m]! h
  simp only [insInner]
  generalize hx:d[m + 1]! = x at *
  generalize hy:d[m]! = y at *
  generalize d.setIfInBounds (m + 1) y = d1 at *
  generalize swp d (m + 1) m = d2 at *
  generalize hk:m + 1 = k at *
  have hkm:(k:Int) - 1 = (m:Int):=by omega
  rw [key]
  generalize hM:Mz .u32 bs b d lo = M0 at *
  generalize hM1:Mz .u32 bs b d1 = M1 at *
  by_cases c1:k > a
  · by_cases c2:ltInt x y = true
    · obtain ⟨lo',q1,q2,q3⟩:=q
      refine ⟨lo',?_,?_,?_⟩
      · simp (decide:=true) [q328_b0,openA,opDE_call,noTr,apartT_mute,Tr.mute,ix1,ix0,l1,l0,c,c1,c2,hw1,st1,st2,-ldv_ptr,-stv_ptr]
        simpa using q1
      · have:Kz b lo d (min (min lo b) b) d2:=.inl (by omega)
        simpa [c1,c2] using this.trans q2
      · simpa [c1,c2] using q3
    · refine ⟨lo,?_,?_,?_⟩
      · simp (decide:=true) [q328_b0,openA,opDE_call,noTr,apartT_mute,Tr.mute,ix1,ix0,l1,l0,c,c1,c2,hw1,hM,-ldv_ptr,-stv_ptr]
      · simpa [c1,c2] using Kz.refl
      · simpa [c1,c2] using hd
  · refine ⟨lo,?_,?_,?_⟩
    · simp (decide:=true) [q328_b0,openA,opDE_call,noTr,apartT_mute,Tr.mute,c1,hM,-ldv_ptr,-stv_ptr]
    · simpa [c1] using Kz.refl
    · simpa [c1] using hd
theorem ins_outz {bs:List Blk} {b:Nat} (hb:b < bs.length) {n a e:Nat} (hn:n < 2 ^ 62) (ha:a <= n) (he:e <= n) {cap:Option Nat}:∀ (m i:Nat) (d:Array Int) (lo:Nat),i + m = e \/ (m = 0 /\ e <= i) -> i < 2 ^ 62 -> d.size = n →
 ∃ lo',Cd E TS valS (.loop [0,1,2,6] q328_b1) [(0,.row b 0 n cap 1),(1,.d (i64 a)),(2,.d (i64 e)),(6,.d (i64 i))] (Mz .u32 bs b d lo) =
  some (.exit 0,[],Mz .u32 bs b (insOuter ltInt a e i d) lo') /\ Kz b lo d lo' (insOuter ltInt a e i d) /\ (insOuter ltInt a e i d).size = n:=by
 intro m
 have key:=Cd_round (E:=E) (T:=TS) (val:=valS) [0,1,2,6] q328_b1
 have hin:=ins_inz h334 hb hn ha (cap:=cap) (.d (i64 e))
 generalize Cd E TS valS (.loop [0,1,2,6] q328_b1) = W at key ⊢
 induction m with
 | zero =>
  intro i d lo hi hi2 hd
  have hu:insOuter ltInt a e i d = d:=by rw [insOuter,if_neg (by omega)]
  rw [hu]
  refine ⟨lo,?_,.refl,hd⟩
  rw [key]
  simp [q328_b1,show ¬ ((i:Int) < (e:Int)) from by omega]
 | succ m ih =>
  intro i d lo hi hi2 hd
  have hlt:i < e:=by omega
  have hu:insOuter ltInt a e i d = insOuter ltInt a e (i + 1) (insInner ltInt a i d):=by rw [insOuter,if_pos hlt]
  rw [hu]
  obtain ⟨lo1,a1,a2,a3⟩:=hin (.d (i64 i)) i d lo (by omega) hd
  obtain ⟨lo',q1,q2,q3⟩:=ih (i + 1) (insInner ltInt a i d) lo1 (by omega) (by omega) a3
  have hw:IntKind.wrap .i64 ((i:Int) + 1) = ((i + 1:Nat):Int):=by rw [wrap64] <;> omega
  refine ⟨lo',?_,a2.trans q2,q3⟩
  generalize insOuter ltInt a e (i + 1) (insInner ltInt a i d) = D at *
  generalize insInner ltInt a i d = d1 at *
  generalize Mz .u32 bs b d lo = M0 at *
  generalize Mz .u32 bs b d1 lo1 = M1 at *
  rw [key]
  simp [q328_b1,show ((i:Int) < (e:Int)) from by omega]
  rw [Cd_keep]
  try simp at a1
  simp [a1,hw]
  simpa using q1
theorem S328 {bs:List Blk} {b:Nat} (hb:b < bs.length) {n a e:Nat} (hn:n < 2 ^ 61) (ha:a <= n) (he:e <= n) {cap:Option Nat} (d:Array Int) (lo:Nat) (hd:d.size = n) :
 ∃ lo',Sm E TS valS 208 [.row b 0 n cap 1,.d (i64 a),.d (i64 e)] (Mz .u32 bs b d lo) = some (.tup [],Mz .u32 bs b (insertionSort ltInt d a e) lo') /\ Kz b lo d lo' (insertionSort ltInt d a e) /\ (insertionSort ltInt d a e).size = n:=by
 have hw:IntKind.wrap .i64 ((a:Int) + 1) = ((a + 1:Nat):Int):=by rw [wrap64] <;> omega
 obtain ⟨lo1,q1,q2,q3⟩:=ins_outz h334 hb (by omega) ha he (cap:=cap) (e - (a + 1)) (a + 1) d (Mz .u32 bs b d lo).bs.length (by omega) (by omega) hd
 have hl:(Mz .u32 bs b d lo).bs.length = bs.length:=by simp [Mz,Mr]
 rw [hl] at q1 q2
 obtain ⟨lo2,r1,r2⟩:=byRef_z (kd:=.u32) (lo:=lo) (r:=.tup []) hb rfl q2
 refine ⟨lo2,?_,r2,q3⟩
 have hM:(⟨(Mz .u32 bs b d lo).bs,bs.length⟩:Hp) = Mz .u32 bs b d bs.length:=rfl
 rw [Sm_ref s328 x328,hl,hM]
 refine Eq.trans ?_ r1
 congr 1
 generalize Mz .u32 bs b (insOuter ltInt a e (a + 1) d) lo1 = M1 at *
 generalize Mz .u32 bs b d bs.length = M0 at *
 simp [Bd_mk,q328,hw]
 rw [Cd_keep]
 simp at q1
 simp [q1]
 rfl
end
end Go.Proofs.YtegfnefobbgkjaaGreat
namespace Go.Proofs.YtegfnefobbgkjaaGreat
open Go.Sort (swp ltInt siftDown heapBuild heapPop heapSort)
@[simp] theorem bin_mul {k:IntKind} {a b:Int}:binD .mul (.d (.int k a)) (.d (.int k b)) = some (.int k (k.wrap (a * b))):=by simp [binD,binInt]
theorem s374:TS 246 = some q374:=by kernel_rfl
theorem x374:valS 246 = false:=by kernel_rfl
theorem s329:TS 209 = some q329:=by kernel_rfl
theorem x329:valS 209 = false:=by kernel_rfl
theorem wadd {x y:Nat} {k:Nat} (h:x + y = k) (hk:k < 2 ^ 62):IntKind.wrap .i64 ((x:Int) + (y:Int)) = (k:Int):=by rw [wrap64] <;> omega
theorem wadd1 {x:Nat} {k:Nat} (h:x + 1 = k) (hk:k < 2 ^ 62):IntKind.wrap .i64 ((x:Int) + 1) = (k:Int):=by rw [wrap64] <;> omega
theorem wsub1 {x:Nat} {k:Nat} (h:x = k + 1) (hk:k < 2 ^ 62):IntKind.wrap .i64 ((x:Int) - 1) = (k:Int):=by rw [wrap64] <;> omega
theorem wsub {x y:Nat} {k:Nat} (h:x = k + y) (hk:x < 2 ^ 62):IntKind.wrap .i64 ((x:Int) - (y:Int)) = (k:Int):=by rw [wrap64] <;> omega
theorem ixz {b n i:Nat} {cap:Option Nat} {h:Hp} (hi:i < n):idxv none 1 (.row b 0 n cap 1) (.d (.int .i64 i)) h = some (.ptr b i,h):=by
 have:=ix_row (b:=b) (o:=0) (z:=1) (cap:=cap) (kd:=.i64) (h:=h) hi
 simpa using this
section
variable {E:Calls'} (h334:∀ x y h,E 214 [.d (u32 x),.d (u32 y)] h = some (bl (ltInt x y),h))
include h334
theorem sift_loop {bs:List Blk} {b:Nat} (hb:b < bs.length) {n hi fi:Nat} (hn:n < 2 ^ 60) (hf:fi + hi <= n) {cap:Option Nat}:∀ (m root:Nat) (d:Array Int) (lo:Nat),hi - root <= m -> root <= hi -> d.size = n →
 ∃ lo' ex,(ex = Ex.exit 0 \/ ex = Ex.ret) /\ Cd E TS valS (.loop [0,2,3,8] q374_b0) [(0,.row b 0 n cap 1),(2,.d (i64 hi)),(3,.d (i64 fi)),(8,.d (i64 root))] (Mz .u32 bs b d lo) =
  some (ex,[],Mz .u32 bs b (siftDown ltInt hi fi root d) lo') /\ Kz b lo d lo' (siftDown ltInt hi fi root d) /\ (siftDown ltInt hi fi root d).size = n:=by
 intro m
 have key:=Cd_round (E:=E) (T:=TS) (val:=valS) [0,2,3,8] q374_b0
 generalize Cd E TS valS (.loop [0,2,3,8] q374_b0) = W at key ⊢
 induction m with
 | zero =>
  intro root d lo hm hr hd
  have hu:siftDown ltInt hi fi root d = d:=by rw [siftDown,dif_pos (by omega)]
  rw [hu]
  refine ⟨lo,.exit 0,.inl rfl,?_,.refl,hd⟩
  have hw1:IntKind.wrap .i64 (2 * (root:Int)) = 2 * (root:Int):=by rw [wrap64] <;> omega
  have hw2:IntKind.wrap .i64 (2 * (root:Int) + 1) = 2 * (root:Int) + 1:=by rw [wrap64] <;> omega
  rw [key]
  simp (decide:=true) [q374_b0,openA,noTr,hw1,hw2,show ((2:Int) * (root:Int) + 1 >= hi) from by omega]
 | succ m ih =>
  intro root d lo hm hr hd
  have hw1:IntKind.wrap .i64 (2 * (root:Int)) = 2 * (root:Int):=by rw [wrap64] <;> omega
  by_cases hlt:2 * root + 1 >= hi
  · have hu:siftDown ltInt hi fi root d = d:=by rw [siftDown,dif_pos hlt]
    rw [hu]
    refine ⟨lo,.exit 0,.inl rfl,?_,.refl,hd⟩
    have hw2:IntKind.wrap .i64 (2 * (root:Int) + 1) = 2 * (root:Int) + 1:=by rw [wrap64] <;> omega
    rw [key]
    simp (decide:=true) [q374_b0,openA,noTr,hw1,hw2,show ((2:Int) * (root:Int) + 1 >= hi) from by omega]
  rw [siftDown,dif_neg hlt]
  obtain ⟨c,hc⟩:∃ c,c = 2 * root + 1:=⟨_,rfl⟩
  have hw2:IntKind.wrap .i64 (2 * (root:Int) + 1) = (c:Int):=by rw [wrap64] <;> omega
  obtain ⟨k,hk⟩:∃ k,k = c + 1:=⟨_,rfl⟩
  have wk:=wadd1 (x:=c) hk.symm (by omega)
  obtain ⟨fr,hfr⟩:∃ k,k = fi + root:=⟨_,rfl⟩
  obtain ⟨fc,hfc⟩:∃ k,k = fi + c:=⟨_,rfl⟩
  obtain ⟨fk,hfk⟩:∃ j,j = fi + k:=⟨_,rfl⟩
  have wfr:=wadd (x:=fi) (y:=root) hfr.symm (by omega)
  have wfc:=wadd (x:=fi) (y:=c) hfc.symm (by omega)
  have wfk:=wadd (x:=fi) (y:=k) hfk.symm (by omega)
  have wfk2:=wadd1 (x:=fc) (k:=fk) (by omega) (by omega)
  rw [show fi + (2 * root + 1) + 1 = fk by omega,show 2 * root + 1 + 1 = k by omega,show fi + k = fk by omega,show 2 * root + 1 = c by omega,show fi + c = fc by omega,show fi + root = fr by omega]
  have ixr:=fun h=>ixz (b:=b) (n:=n) (cap:=cap) (h:=h) (i:=fr) (by omega)
  have ixc:=fun h=>ixz (b:=b) (n:=n) (cap:=cap) (h:=h) (i:=fc) (by omega)
  have lr:=Mz_ld (kd:=.u32) (lo:=lo) hb (d:=d) (i:=fr) (by omega)
  have lc:=Mz_ld (kd:=.u32) (lo:=lo) hb (d:=d) (i:=fc) (by omega)
  have cz:=fun x y h=>Z334 h334 x y h
  have hcl:¬ (c:Int) >= hi:=by omega
  by_cases hkh:k < hi
  · have ixk:=fun h=>ixz (b:=b) (n:=n) (cap:=cap) (h:=h) (i:=fk) (by omega)
    have lk:=Mz_ld (kd:=.u32) (lo:=lo) hb (d:=d) (i:=fk) (by omega)
    have hkl:(k:Int) < hi:=by omega
    by_cases c1:ltInt d[fc]! d[fk]! = true
    · rw [if_pos (by simp [hkh,c1])]
      by_cases c2:ltInt d[fr]! d[fk]! = true
      · rw [if_neg (by simp [c2]),dif_pos hkh]
        obtain ⟨st1,st2⟩:=Mz_swap (kd:=.u32) (lo:=lo) hb (d:=d) (i:=fr) (j:=fk) (by omega) (by omega)
        obtain ⟨lo',ex,hex,q1,q2,q3⟩:=ih k (swp d fr fk) (min (min lo b) b) (by omega) (by omega) (by rw [swpz_size]; exact hd)
        have hK:Kz b lo d (min (min lo b) b) (swp d fr fk):=.inl (by omega)
        refine ⟨lo',ex,hex,?_,hK.trans q2,q3⟩
        generalize siftDown ltInt hi fi k (swp d fr fk) = D at *
        generalize d[fr]! = x at *
        generalize d[fk]! = y at *
        generalize d[fc]! = z at *
        generalize d.setIfInBounds fr y = d1 at *
        generalize swp d fr fk = d2 at *
        generalize Mz .u32 bs b d lo = M0 at *
        rw [key]
        generalize hM1:Mz .u32 bs b d1 = M1 at *
        simp (decide:=true) [q374_b0,openA,opDE_call,noTr,apartT_mute,Tr.mute,hw1,hw2,wk,wfr,wfc,wfk,wfk2,ixr,ixc,ixk,lr,lc,lk,cz,c1,c2,hcl,hkl,st1,st2,-ldv_ptr,-stv_ptr]
        simpa using q1
      · rw [if_pos (by simp [c2])]
        refine ⟨lo,.ret,.inr rfl,?_,.refl,hd⟩
        generalize d[fr]! = x at *
        generalize d[fk]! = y at *
        generalize d[fc]! = z at *
        generalize Mz .u32 bs b d lo = M0 at *
        rw [key]
        simp (decide:=true) [q374_b0,openA,opDE_call,noTr,apartT_mute,Tr.mute,hw1,hw2,wk,wfr,wfc,wfk,wfk2,ixr,ixc,ixk,lr,lc,lk,cz,c1,c2,hcl,hkl,-ldv_ptr,-stv_ptr]
    · rw [if_neg (by simp [c1])]
      by_cases c2:ltInt d[fr]! d[fc]! = true
      · rw [if_neg (by simp [c2])]
        obtain ⟨st1,st2⟩:=Mz_swap (kd:=.u32) (lo:=lo) hb (d:=d) (i:=fr) (j:=fc) (by omega) (by omega)
        obtain ⟨lo',ex,hex,q1,q2,q3⟩:=ih c (swp d fr fc) (min (min lo b) b) (by omega) (by omega) (by rw [swpz_size]; exact hd)
        have hK:Kz b lo d (min (min lo b) b) (swp d fr fc):=.inl (by omega)
        refine ⟨lo',ex,hex,?_,hK.trans q2,q3⟩
        generalize siftDown ltInt hi fi c (swp d fr fc) = D at *
        generalize d[fr]! = x at *
        generalize d[fk]! = y at *
        generalize d[fc]! = z at *
        generalize d.setIfInBounds fr z = d1 at *
        generalize swp d fr fc = d2 at *
        generalize Mz .u32 bs b d lo = M0 at *
        rw [key]
        generalize hM1:Mz .u32 bs b d1 = M1 at *
        simp (decide:=true) [q374_b0,openA,opDE_call,noTr,apartT_mute,Tr.mute,hw1,hw2,wk,wfr,wfc,wfk,wfk2,ixr,ixc,ixk,lr,lc,lk,cz,c1,c2,hcl,hkl,st1,st2,-ldv_ptr,-stv_ptr]
        simpa using q1
      · rw [if_pos (by simp [c2])]
        refine ⟨lo,.ret,.inr rfl,?_,.refl,hd⟩
        generalize d[fr]! = x at *
        generalize d[fk]! = y at *
        generalize d[fc]! = z at *
        generalize Mz .u32 bs b d lo = M0 at *
        rw [key]
        simp (decide:=true) [q374_b0,openA,opDE_call,noTr,apartT_mute,Tr.mute,hw1,hw2,wk,wfr,wfc,wfk,wfk2,ixr,ixc,ixk,lr,lc,lk,cz,c1,c2,hcl,hkl,-ldv_ptr,-stv_ptr]
  · rw [if_neg (by simp [hkh])]
    have hkl:¬ (k:Int) < hi:=by omega
    by_cases c2:ltInt d[fr]! d[fc]! = true
    · rw [if_neg (by simp [c2])]
      obtain ⟨st1,st2⟩:=Mz_swap (kd:=.u32) (lo:=lo) hb (d:=d) (i:=fr) (j:=fc) (by omega) (by omega)
      obtain ⟨lo',ex,hex,q1,q2,q3⟩:=ih c (swp d fr fc) (min (min lo b) b) (by omega) (by omega) (by rw [swpz_size]; exact hd)
      have hK:Kz b lo d (min (min lo b) b) (swp d fr fc):=.inl (by omega)
      refine ⟨lo',ex,hex,?_,hK.trans q2,q3⟩
      generalize siftDown ltInt hi fi c (swp d fr fc) = D at *
      generalize d[fr]! = x at *
      generalize d[fc]! = z at *
      generalize d.setIfInBounds fr z = d1 at *
      generalize swp d fr fc = d2 at *
      generalize Mz .u32 bs b d lo = M0 at *
      rw [key]
      generalize hM1:Mz .u32 bs b d1 = M1 at *
      simp (decide:=true) [q374_b0,openA,opDE_call,noTr,apartT_mute,Tr.mute,hw1,hw2,wk,wfr,wfc,ixr,ixc,lr,lc,cz,c2,hcl,hkl,st1,st2,-ldv_ptr,-stv_ptr]
      simpa using q1
    · rw [if_pos (by simp [c2])]
      refine ⟨lo,.ret,.inr rfl,?_,.refl,hd⟩
      generalize d[fr]! = x at *
      generalize d[fc]! = z at *
      generalize Mz .u32 bs b d lo = M0 at *
      rw [key]
      simp (decide:=true) [q374_b0,openA,opDE_call,noTr,apartT_mute,Tr.mute,hw1,hw2,wk,wfr,wfc,ixr,ixc,lr,lc,cz,c2,hcl,hkl,-ldv_ptr,-stv_ptr]
theorem S374 {bs:List Blk} {b:Nat} (hb:b < bs.length) {n hi fi root:Nat} (hn:n < 2 ^ 60) (hf:fi + hi <= n) (hr:root <= hi) {cap:Option Nat} (d:Array Int) (lo:Nat) (hd:d.size = n) :
 ∃ lo',Sm E TS valS 246 [.row b 0 n cap 1,.d (i64 root),.d (i64 hi),.d (i64 fi)] (Mz .u32 bs b d lo) = some (.tup [],Mz .u32 bs b (siftDown ltInt hi fi root d) lo') /\ Kz b lo d lo' (siftDown ltInt hi fi root d) /\ (siftDown ltInt hi fi root d).size = n:=by
 obtain ⟨lo1,ex,hex,q1,q2,q3⟩:=sift_loop h334 hb hn hf (cap:=cap) (hi - root) root d bs.length (Nat.le_refl _) hr hd
 have hl:(Mz .u32 bs b d lo).bs.length = bs.length:=by simp [Mz,Mr]
 obtain ⟨lo2,r1,r2⟩:=byRef_z (kd:=.u32) (lo:=lo) (r:=.tup []) hb rfl q2
 refine ⟨lo2,?_,r2,q3⟩
 have hM:(⟨(Mz .u32 bs b d lo).bs,bs.length⟩:Hp) = Mz .u32 bs b d bs.length:=rfl
 rw [Sm_ref s374 x374,hl,hM]
 refine Eq.trans ?_ r1
 congr 1
 generalize Mz .u32 bs b (siftDown ltInt hi fi root d) lo1 = M1 at *
 generalize Mz .u32 bs b d bs.length = M0 at *
 simp [Bd_mk,q374]
 rw [Cd_keep]
 try simp at q1
 rcases hex with rfl | rfl <;> (simp [q1]; rfl)
end
end Go.Proofs.YtegfnefobbgkjaaGreat
namespace Go.Proofs.YtegfnefobbgkjaaGreat
open Go.Sort (swp ltInt siftDown heapBuild heapPop heapSort reverseLoop reverseRange)
theorem s332:TS 212 = some q332:=by kernel_rfl
theorem x332:valS 212 = false:=by kernel_rfl
theorem wpred {k:Nat} (hk:k < 2 ^ 62):IntKind.wrap .i64 ((k:Int) - 1) = (k:Int) - 1:=by rw [wrap64] <;> omega
theorem quo_nat {x y z:Nat} (hy:0 < y) (hz:x / y = z) (hx:x < 2 ^ 62):binD .quo (.d (.int .i64 x)) (.d (.int .i64 y)) = some (.int .i64 z):=by
 have hle:x / y <= x:=Nat.div_le_self x y
 have h1:(x:Int).tdiv (y:Int) = (z:Int):=by
  rw [Int.tdiv_eq_ediv_of_nonneg (by omega),← hz]
  exact (Int.natCast_ediv x y).symm
 simp only [binD,if_true,binInt]
 rw [if_neg (by omega),h1,wrap64] <;> omega
section
variable {E:Calls'} (h334:∀ x y h,E 214 [.d (u32 x),.d (u32 y)] h = some (bl (ltInt x y),h))
include h334
theorem hb_loop {bs:List Blk} {b:Nat} (hb:b < bs.length) {n hi fi:Nat} (hn:n < 2 ^ 60) (hf:fi + hi <= n) {cap:Option Nat} (t7:V):∀ (k:Nat) (d:Array Int) (lo:Nat),k <= hi + 1 -> d.size = n →
 ∃ lo',Cd E TS valS (.loop [0,6,7,8,9] q329_b0) [(0,.row b 0 n cap 1),(6,.d (i64 fi)),(7,t7),(8,.d (i64 hi)),(9,.d (i64 ((k:Int) - 1)))] (Mz .u32 bs b d lo) =
  some (.exit 0,[(0,.row b 0 n cap 1),(6,.d (i64 fi)),(7,t7),(8,.d (i64 hi))],Mz .u32 bs b (heapBuild ltInt hi fi k d) lo') /\ Kz b lo d lo' (heapBuild ltInt hi fi k d) /\ (heapBuild ltInt hi fi k d).size = n:=by
 intro k
 have key:=Cd_round (E:=E) (T:=TS) (val:=valS) [0,6,7,8,9] q329_b0
 generalize Cd E TS valS (.loop [0,6,7,8,9] q329_b0) = W at key ⊢
 induction k with
 | zero =>
  intro d lo hk hd
  refine ⟨lo,?_,.refl,hd⟩
  rw [key]
  simp (decide:=true) [q329_b0,heapBuild]
 | succ k ih =>
  intro d lo hk hd
  obtain ⟨lo1,a1,a2,a3⟩:=S374 h334 hb hn hf (root:=k) (by omega) (cap:=cap) d lo hd
  obtain ⟨lo',q1,q2,q3⟩:=ih (siftDown ltInt hi fi k d) lo1 (by omega) a3
  have hw:=wpred (k:=k) (by omega)
  have hkk:((k + 1:Nat):Int) - 1 = (k:Int):=by omega
  rw [hkk]
  refine ⟨lo',?_,a2.trans q2,q3⟩
  show W _ _ = some (_,_,Mz .u32 bs b (heapBuild ltInt hi fi k (siftDown ltInt hi fi k d)) lo')
  generalize heapBuild ltInt hi fi k (siftDown ltInt hi fi k d) = D at *
  generalize siftDown ltInt hi fi k d = d1 at *
  generalize Mz .u32 bs b d1 lo1 = M1 at *
  generalize Mz .u32 bs b d lo = M0 at *
  rw [key]
  simp [q329_b0,a1,hw,show ((k:Int) >= 0) from by omega]
  simpa using q1
theorem hp_loop {bs:List Blk} {b:Nat} (hb:b < bs.length) {n fi:Nat} (hn:n < 2 ^ 60) {cap:Option Nat}:∀ (k:Nat) (d:Array Int) (lo:Nat),fi + k <= n -> d.size = n →
 ∃ lo',Cd E TS valS (.loop [0,6,7,10] q329_b1) [(0,.row b 0 n cap 1),(6,.d (i64 fi)),(7,.d (i64 0)),(10,.d (i64 ((k:Int) - 1)))] (Mz .u32 bs b d lo) =
  some (.exit 2,[],Mz .u32 bs b (heapPop ltInt fi k d) lo') /\ Kz b lo d lo' (heapPop ltInt fi k d) /\ (heapPop ltInt fi k d).size = n:=by
 intro k
 have key:=Cd_round (E:=E) (T:=TS) (val:=valS) [0,6,7,10] q329_b1
 generalize Cd E TS valS (.loop [0,6,7,10] q329_b1) = W at key ⊢
 induction k with
 | zero =>
  intro d lo hk hd
  refine ⟨lo,?_,.refl,hd⟩
  rw [key]
  simp (decide:=true) [q329_b1,heapPop]
 | succ k ih =>
  intro d lo hk hd
  obtain ⟨fk,hfk⟩:∃ j,j = fi + k:=⟨_,rfl⟩
  have wfk:=wadd (x:=fi) (y:=k) hfk.symm (by omega)
  have ixf:=fun h=>ixz (b:=b) (n:=n) (cap:=cap) (h:=h) (i:=fi) (by omega)
  have ixk:=fun h=>ixz (b:=b) (n:=n) (cap:=cap) (h:=h) (i:=fk) (by omega)
  have lf:=Mz_ld (kd:=.u32) (lo:=lo) hb (d:=d) (i:=fi) (by omega)
  have lk:=Mz_ld (kd:=.u32) (lo:=lo) hb (d:=d) (i:=fk) (by omega)
  obtain ⟨st1,st2⟩:=Mz_swap (kd:=.u32) (lo:=lo) hb (d:=d) (i:=fi) (j:=fk) (by omega) (by omega)
  have a:=fun lo=>S374 h334 hb hn (hi:=k) (fi:=fi) (root:=0) (by omega) (Nat.zero_le _) (cap:=cap) (swp d fi fk) lo (by rw [swpz_size]; exact hd)
  obtain ⟨lo1,a1,a2,a3⟩:=a (min lo b)
  obtain ⟨lo',q1,q2,q3⟩:=ih (siftDown ltInt k fi 0 (swp d fi fk)) lo1 (by omega) a3
  have hw:=wpred (k:=k) (by omega)
  have hkk:((k + 1:Nat):Int) - 1 = (k:Int):=by omega
  have hK:Kz b lo d (min lo b) (swp d fi fk):=.inl (by omega)
  rw [hkk]
  simp only [heapPop]
  rw [← hfk]
  refine ⟨lo',?_,hK.trans (a2.trans q2),q3⟩
  generalize heapPop ltInt fi k (siftDown ltInt k fi 0 (swp d fi fk)) = D at *
  generalize siftDown ltInt k fi 0 (swp d fi fk) = d2 at *
  generalize d[fi]! = x at *
  generalize d[fk]! = y at *
  generalize d.setIfInBounds fi y = d1 at *
  generalize swp d fi fk = d3 at *
  generalize Mz .u32 bs b d lo = M0 at *
  generalize Mz .u32 bs b d2 lo1 = M2 at *
  rw [key]
  generalize hM1:Mz .u32 bs b d1 = M1 at *
  simp at a1
  simp (decide:=true) [q329_b1,ixf,ixk,lf,lk,st1,st2,a1,hw,wfk,openA,opDE_call,noTr,apartT_mute,Tr.mute,show ((k:Int) >= 0) from by omega,-ldv_ptr,-stv_ptr]
  simpa using q1
theorem S329 {bs:List Blk} {b:Nat} (hb:b < bs.length) {n a e:Nat} (hn:n < 2 ^ 60) (ha:a < e) (he:e <= n) {cap:Option Nat} (d:Array Int) (lo:Nat) (hd:d.size = n) :
 ∃ lo',Sm E TS valS 209 [.row b 0 n cap 1,.d (i64 a),.d (i64 e)] (Mz .u32 bs b d lo) = some (.tup [],Mz .u32 bs b (heapSort ltInt d a e) lo') /\ Kz b lo d lo' (heapSort ltInt d a e) /\ (heapSort ltInt d a e).size = n:=by
 obtain ⟨hi,hhi⟩:∃ j,j = e - a:=⟨_,rfl⟩
 obtain ⟨h1,hh1⟩:∃ j,hi = j + 1:=⟨hi - 1,by omega⟩
 obtain ⟨m,hm⟩:∃ j,h1 / 2 = j:=⟨_,rfl⟩
 have w1:=wsub (x:=e) (y:=a) (k:=hi) (by omega) (by omega)
 have w2:=wsub1 (x:=hi) (k:=h1) hh1 (by omega)
 have w3:binD .quo (.d (.int .i64 h1)) (.d (.int .i64 2)) = some (.int .i64 m):=quo_nat (x:=h1) (y:=2) (z:=m) (by decide) hm (by omega)
 obtain ⟨lo1,a1,a2,a3⟩:=hb_loop h334 hb hn (hi:=hi) (fi:=a) (by omega) (cap:=cap) (.d (i64 0)) (m + 1) d bs.length (by omega) hd
 obtain ⟨lo2,c1,c2,c3⟩:=hp_loop h334 hb hn (fi:=a) (cap:=cap) hi (heapBuild ltInt hi a (m + 1) d) lo1 (by omega) a3
 have hS:heapSort ltInt d a e = heapPop ltInt a hi (heapBuild ltInt hi a (m + 1) d):=by
  unfold heapSort
  rw [← hhi,show (hi - 1) / 2 + 1 = m + 1 by omega]
 have hl:(Mz .u32 bs b d lo).bs.length = bs.length:=by simp [Mz,Mr]
 rw [hS]
 obtain ⟨lo3,r1,r2⟩:=byRef_z (kd:=.u32) (lo:=lo) (r:=.tup []) hb rfl (a2.trans c2)
 refine ⟨lo3,?_,r2,c3⟩
 have hM:(⟨(Mz .u32 bs b d lo).bs,bs.length⟩:Hp) = Mz .u32 bs b d bs.length:=rfl
 rw [Sm_ref s329 x329,hl,hM]
 refine Eq.trans ?_ r1
 congr 1
 generalize heapPop ltInt a hi (heapBuild ltInt hi a (m + 1) d) = D at *
 generalize heapBuild ltInt hi a (m + 1) d = d1 at *
 generalize Mz .u32 bs b D lo2 = M2 at *
 generalize Mz .u32 bs b d1 lo1 = M1 at *
 generalize Mz .u32 bs b d bs.length = M0 at *
 rw [show ((m + 1:Nat):Int) - 1 = (m:Int) by omega] at a1
 rw [show ((hi:Nat):Int) - 1 = (h1:Int) by omega] at c1
 simp [Bd_mk,q329,w1,w2,w3]
 rw [Cd_keep]
 try simp at a1 c1
 simp [a1,w2]
 rw [Cd_keep]
 simp [c1]
 rfl
omit h334 in
theorem rev_loop {bs:List Blk} {b:Nat} (hb:b < bs.length) {n:Nat} (hn:n < 2 ^ 60) {cap:Option Nat}:∀ (m i j:Nat) (d:Array Int) (lo:Nat),j - i <= m -> j < n -> d.size = n →
 ∃ lo',Cd E TS valS (.loop [0,6,7] q332_b0) [(0,.row b 0 n cap 1),(6,.d (i64 i)),(7,.d (i64 j))] (Mz .u32 bs b d lo) =
  some (.exit 0,[],Mz .u32 bs b (reverseLoop i j d) lo') /\ Kz b lo d lo' (reverseLoop i j d) /\ (reverseLoop i j d).size = n:=by
 intro m
 have key:=Cd_round (E:=E) (T:=TS) (val:=valS) [0,6,7] q332_b0
 generalize Cd E TS valS (.loop [0,6,7] q332_b0) = W at key ⊢
 induction m with
 | zero =>
  intro i j d lo hm hj hd
  have hu:reverseLoop i j d = d:=by rw [reverseLoop,if_neg (by omega)]
  rw [hu]
  refine ⟨lo,?_,.refl,hd⟩
  rw [key]
  simp (decide:=true) [q332_b0,show ¬ ((i:Int) < (j:Int)) from by omega]
 | succ m ih =>
  intro i j d lo hm hj hd
  by_cases hlt:i < j
  · have hu:reverseLoop i j d = reverseLoop (i + 1) (j - 1) (swp d i j):=by rw [reverseLoop,if_pos hlt]
    rw [hu]
    obtain ⟨j1,hj1⟩:∃ k,j = k + 1:=⟨j - 1,by omega⟩
    have wi:=wadd1 (x:=i) (k:=i + 1) rfl (by omega)
    have wj:=wsub1 (x:=j) (k:=j1) hj1 (by omega)
    have ixi:=fun h=>ixz (b:=b) (n:=n) (cap:=cap) (h:=h) (i:=i) (by omega)
    have ixj:=fun h=>ixz (b:=b) (n:=n) (cap:=cap) (h:=h) (i:=j) (by omega)
    have li:=Mz_ld (kd:=.u32) (lo:=lo) hb (d:=d) (i:=i) (by omega)
    have lj:=Mz_ld (kd:=.u32) (lo:=lo) hb (d:=d) (i:=j) (by omega)
    obtain ⟨st1,st2⟩:=Mz_swap (kd:=.u32) (lo:=lo) hb (d:=d) (i:=i) (j:=j) (by omega) (by omega)
    rw [show j - 1 = j1 by omega]
    obtain ⟨lo',q1,q2,q3⟩:=ih (i + 1) j1 (swp d i j) (min (min lo b) b) (by omega) (by omega) (by rw [swpz_size]; exact hd)
    have hK:Kz b lo d (min (min lo b) b) (swp d i j):=.inl (by omega)
    refine ⟨lo',?_,hK.trans q2,q3⟩
    generalize reverseLoop (i + 1) j1 (swp d i j) = D at *
    generalize d[i]! = x at *
    generalize d[j]! = y at *
    generalize d.setIfInBounds i y = d1 at *
    generalize swp d i j = d3 at *
    generalize Mz .u32 bs b d lo = M0 at *
    rw [key]
    generalize hM1:Mz .u32 bs b d1 = M1 at *
    generalize hi1:i + 1 = i1 at *
    simp (decide:=true) [q332_b0,ixi,ixj,li,lj,st1,st2,wi,wj,openA,opDE_call,noTr,apartT_mute,Tr.mute,show ((i:Int) < (j:Int)) from by omega,-ldv_ptr,-stv_ptr]
    simpa using q1
  · have hu:reverseLoop i j d = d:=by rw [reverseLoop,if_neg hlt]
    rw [hu]
    refine ⟨lo,?_,.refl,hd⟩
    rw [key]
    simp (decide:=true) [q332_b0,show ¬ ((i:Int) < (j:Int)) from by omega]
omit h334 in
theorem S332 {bs:List Blk} {b:Nat} (hb:b < bs.length) {n a e:Nat} (hn:n < 2 ^ 60) (ha:a < e) (he:e <= n) {cap:Option Nat} (d:Array Int) (lo:Nat) (hd:d.size = n) :
 ∃ lo',Sm E TS valS 212 [.row b 0 n cap 1,.d (i64 a),.d (i64 e)] (Mz .u32 bs b d lo) = some (.tup [],Mz .u32 bs b (reverseRange d a e) lo') /\ Kz b lo d lo' (reverseRange d a e) /\ (reverseRange d a e).size = n:=by
 obtain ⟨e1,he1⟩:∃ k,e = k + 1:=⟨e - 1,by omega⟩
 have we:=wsub1 (x:=e) (k:=e1) he1 (by omega)
 obtain ⟨lo1,q1,q2,q3⟩:=rev_loop (E:=E) hb hn (cap:=cap) (e1 - a) a e1 d bs.length (Nat.le_refl _) (by omega) hd
 have hS:reverseRange d a e = reverseLoop a e1 d:=by unfold reverseRange; rw [show e - 1 = e1 by omega]
 rw [hS]
 have hl:(Mz .u32 bs b d lo).bs.length = bs.length:=by simp [Mz,Mr]
 obtain ⟨lo2,r1,r2⟩:=byRef_z (kd:=.u32) (lo:=lo) (r:=.tup []) hb rfl q2
 refine ⟨lo2,?_,r2,q3⟩
 have hM:(⟨(Mz .u32 bs b d lo).bs,bs.length⟩:Hp) = Mz .u32 bs b d bs.length:=rfl
 rw [Sm_ref s332 x332,hl,hM]
 refine Eq.trans ?_ r1
 congr 1
 generalize Mz .u32 bs b (reverseLoop a e1 d) lo1 = M1 at *
 generalize Mz .u32 bs b d bs.length = M0 at *
 simp [Bd_mk,q332,we]
 rw [Cd_keep]
 try simp at q1
 simp [q1]
 rfl
end
end Go.Proofs.YtegfnefobbgkjaaGreat
namespace Go.Proofs.YtegfnefobbgkjaaGreat
open Go.Sort (swp ltInt order2 median medianAdjacent choosePivot Hint)
theorem s434:TS 297 = some q434:=by kernel_rfl
theorem x434:valS 297 = false:=by kernel_rfl
theorem s378:TS 250 = some q378:=by kernel_rfl
theorem x378:valS 250 = false:=by kernel_rfl
theorem s377:TS 249 = some q377:=by kernel_rfl
theorem x377:valS 249 = false:=by kernel_rfl
theorem s331:TS 211 = some q331:=by kernel_rfl
theorem x331:valS 211 = false:=by kernel_rfl
abbrev Mn (bs:List Blk) (b:Nat) (d:Array Int) (s:Nat) (lo:Nat):Hp:=Mz .u32 (bs ++ [.cells [.d (i64 s)]]) b d lo
theorem Mn_len {bs:List Blk} {b:Nat} {d:Array Int} {s lo:Nat}:(Mn bs b d s lo).bs.length = bs.length + 1:=by simp [Mn,Mz,Mr]
theorem Mn_get {bs:List Blk} {b:Nat} (hb:b < bs.length) {d:Array Int} {s lo:Nat}:getB (Mn bs b d s lo).bs bs.length = some [.d (i64 s)]:=by
 simp only [Mn,Mz,Mr,getB]
 rw [List.getElem?_set_ne (by omega)]
 simp
theorem Mn_ld {bs:List Blk} {b:Nat} (hb:b < bs.length) {d:Array Int} {s lo:Nat}:ldv (Mn bs b d s lo) (.ptr bs.length 0) 1 true = some (.d (i64 s),Mn bs b d s lo):=by
 have h:=Mn_get hb (d:=d) (s:=s) (lo:=lo)
 generalize Mn bs b d s lo = M at *
 simp [h]
theorem Mn_st {bs:List Blk} {b:Nat} (hb:b < bs.length) {d:Array Int} {s t lo:Nat}:stv (Mn bs b d s lo) (.ptr bs.length 0) (.d (i64 t)) 1 = some (.undef,Mn bs b d t (min lo bs.length)):=by
 have h:=Mn_get hb (d:=d) (s:=s) (lo:=lo)
 have hs:(Mn bs b d s lo).set bs.length [.d (i64 t)] = Mn bs b d t (min lo bs.length):=by
  simp only [Mn,Mz,Mr,Hp.set]
  congr 1
  rw [List.set_comm _ _ (by omega)]
  congr 1
  simp
 rw [← hs]
 generalize Mn bs b d s lo = M at *
 simp [h]
def Ks (c lo s lo' s':Nat):Prop:=(lo' = lo /\ s' = s) \/ lo' = min lo c
theorem Ks.trans {c lo s lo' s' lo'' s'':Nat} (h:Ks c lo s lo' s') (k:Ks c lo' s' lo'' s''):Ks c lo s lo'' s'':=by
 unfold Ks at *
 rcases h with ⟨rfl,rfl⟩ | rfl <;> rcases k with ⟨rfl,rfl⟩ | rfl
 · exact .inl ⟨rfl,rfl⟩
 · exact .inr rfl
 · exact .inr rfl
 · exact .inr (by omega)
theorem byRef_n {bs:List Blk} {b:Nat} {d:Array Int} {s s' lo lo':Nat} {r:V} (hr:r.under (bs.length + 1) = true) (hk:Ks bs.length (bs.length + 1) s lo' s') :
 ∃ lo2,byRef (Mn bs b d s lo) (some (r,Mn bs b d s' lo')) = some (r,Mn bs b d s' lo2) /\ Ks bs.length lo s lo2 s':=by
 have hl:=Mn_len (bs:=bs) (b:=b) (d:=d) (s:=s) (lo:=lo)
 rw [byRef_s,hl]
 rcases hk with ⟨rfl,rfl⟩ | rfl
 · rw [if_pos ⟨Nat.le_refl _,hr⟩]
   exact ⟨lo,rfl,.inl ⟨rfl,rfl⟩⟩
 · rw [if_neg (fun hh=>by have:=hh.1; simp only [Mn,Mz,Mr] at this; omega)]
   exact ⟨min lo (min (bs.length + 1) bs.length),rfl,.inr (by omega)⟩
theorem order2_in {d:Array Int} {x y s n:Nat} (hx:x < n) (hy:y < n):(order2 ltInt d x y s).1 < n /\ (order2 ltInt d x y s).2.1 < n /\ (order2 ltInt d x y s).2.2 <= s + 1:=by
 unfold order2
 split
 · exact ⟨hy,hx,Nat.le_refl _⟩
 · exact ⟨hx,hy,Nat.le_succ _⟩
section
variable {E:Calls'} (h334:∀ x y h,E 214 [.d (u32 x),.d (u32 y)] h = some (bl (ltInt x y),h))
include h334
theorem S434 {bs:List Blk} {b:Nat} (hb:b < bs.length) {n x y s:Nat} (hn:n < 2 ^ 60) (hx:x < n) (hy:y < n) (hs:s < 2 ^ 60) {cap:Option Nat} (d:Array Int) (lo:Nat) (hd:d.size = n) :
 ∃ lo',Sm E TS valS 297 [.row b 0 n cap 1,.d (i64 x),.d (i64 y),.ptr bs.length 0] (Mn bs b d s lo) =
  some (.tup [.d (i64 (order2 ltInt d x y s).1),.d (i64 (order2 ltInt d x y s).2.1)],Mn bs b d (order2 ltInt d x y s).2.2 lo') /\ Ks bs.length lo s lo' (order2 ltInt d x y s).2.2:=by
 have hbl:b < (bs ++ [Blk.cells [.d (i64 s)]]).length:=by simp; omega
 have hl:=Mn_len (bs:=bs) (b:=b) (d:=d) (s:=s) (lo:=lo)
 have hM:(⟨(Mn bs b d s lo).bs,bs.length + 1⟩:Hp) = Mn bs b d s (bs.length + 1):=rfl
 have ixx:=fun h=>ixz (b:=b) (n:=n) (cap:=cap) (h:=h) (i:=x) hx
 have ixy:=fun h=>ixz (b:=b) (n:=n) (cap:=cap) (h:=h) (i:=y) hy
 have lx:ldv (Mn bs b d s (bs.length + 1)) (.ptr b x) 1 true = some (.d (.int .u32 d[x]!),Mn bs b d s (bs.length + 1)):=Mz_ld (kd:=.u32) hbl (d:=d) (i:=x) (by omega)
 have ly:ldv (Mn bs b d s (bs.length + 1)) (.ptr b y) 1 true = some (.d (.int .u32 d[y]!),Mn bs b d s (bs.length + 1)):=Mz_ld (kd:=.u32) hbl (d:=d) (i:=y) (by omega)
 obtain ⟨s1,hs1⟩:∃ j,s + 1 = j:=⟨_,rfl⟩
 have ls:=Mn_ld hb (d:=d) (s:=s) (lo:=bs.length + 1)
 have ss:=Mn_st hb (d:=d) (s:=s) (t:=s1) (lo:=bs.length + 1)
 have ws:=wadd1 (x:=s) (k:=s1) hs1 (by omega)
 have c:=fun h=>Z334 h334 d[y]! d[x]! h
 unfold order2
 rw [hs1]
 generalize d[x]! = X at *
 generalize d[y]! = Y at *
 cases hc:ltInt Y X with
 | true =>
  obtain ⟨lo2,r1,r2⟩:=byRef_n (bs:=bs) (b:=b) (d:=d) (s:=s) (s':=s1) (lo:=lo) (r:=.tup [.d (i64 y),.d (i64 x)]) rfl (.inr rfl:Ks bs.length (bs.length + 1) s (min (bs.length + 1) bs.length) s1)
  refine ⟨lo2,?_,r2⟩
  rw [Sm_ref s434 x434,hl,hM]
  refine Eq.trans ?_ r1
  congr 1
  generalize Mn bs b d s (bs.length + 1) = M1 at *
  generalize Mn bs b d s1 (min (bs.length + 1) bs.length) = M2 at *
  simp (decide:=true) [Bd_mk,q434,ixx,ixy,lx,ly,ls,ss,ws,c,hc,openA,opDE_call,noTr,apartT_mute,Tr.mute,tupOf,-ldv_ptr,-stv_ptr]
 | false =>
  obtain ⟨lo2,r1,r2⟩:=byRef_n (bs:=bs) (b:=b) (d:=d) (s:=s) (s':=s) (lo:=lo) (r:=.tup [.d (i64 x),.d (i64 y)]) rfl (.inl ⟨rfl,rfl⟩:Ks bs.length (bs.length + 1) s (bs.length + 1) s)
  refine ⟨lo2,?_,r2⟩
  rw [Sm_ref s434 x434,hl,hM]
  refine Eq.trans ?_ r1
  congr 1
  generalize Mn bs b d s (bs.length + 1) = M1 at *
  simp (decide:=true) [Bd_mk,q434,ixx,ixy,lx,ly,c,hc,openA,opDE_call,noTr,apartT_mute,Tr.mute,tupOf,-ldv_ptr,-stv_ptr]
theorem S378 {bs:List Blk} {b:Nat} (hb:b < bs.length) {n x y z s:Nat} (hn:n < 2 ^ 60) (hx:x < n) (hy:y < n) (hz:z < n) (hs:s < 2 ^ 50) {cap:Option Nat} (d:Array Int) (lo:Nat) (hd:d.size = n) :
 ∃ lo',Sm E TS valS 250 [.row b 0 n cap 1,.d (i64 x),.d (i64 y),.d (i64 z),.ptr bs.length 0] (Mn bs b d s lo) =
  some (.d (i64 (median ltInt d x y z s).1),Mn bs b d (median ltInt d x y z s).2 lo') /\ Ks bs.length lo s lo' (median ltInt d x y z s).2 /\ (median ltInt d x y z s).1 < n /\ (median ltInt d x y z s).2 <= s + 3:=by
 have hl:=Mn_len (bs:=bs) (b:=b) (d:=d) (s:=s) (lo:=lo)
 have hM:(⟨(Mn bs b d s lo).bs,bs.length + 1⟩:Hp) = Mn bs b d s (bs.length + 1):=rfl
 unfold median
 simp only
 obtain ⟨p1,p2,p3⟩:=order2_in (d:=d) (s:=s) hx hy
 obtain ⟨lo1,a1,a2⟩:=S434 h334 hb hn hx hy (by omega) (cap:=cap) d (bs.length + 1) hd (s:=s)
 generalize order2 ltInt d x y s = r1 at *
 obtain ⟨u1,u2,u3⟩:=r1
 simp only at *
 obtain ⟨e1,e2,e3⟩:=order2_in (d:=d) (s:=u3) p2 hz
 obtain ⟨lo2,c1,c2⟩:=S434 h334 hb hn p2 hz (by omega) (cap:=cap) d lo1 hd (s:=u3)
 generalize order2 ltInt d u2 z u3 = r2 at *
 obtain ⟨w1,w2,w3⟩:=r2
 simp only at *
 obtain ⟨g1,g2,g3⟩:=order2_in (d:=d) (s:=w3) p1 e1
 obtain ⟨lo3,i1,i2⟩:=S434 h334 hb hn p1 e1 (by omega) (cap:=cap) d lo2 hd (s:=w3)
 generalize order2 ltInt d u1 w1 w3 = r3 at *
 obtain ⟨v1,v2,v3⟩:=r3
 simp only at *
 obtain ⟨lo4,r1,r2⟩:=byRef_n (bs:=bs) (b:=b) (d:=d) (s:=s) (s':=v3) (lo:=lo) (r:=.d (i64 v2)) rfl (a2.trans (c2.trans i2))
 refine ⟨lo4,?_,r2,g2,by omega⟩
 rw [Sm_ref s378 x378,hl,hM]
 refine Eq.trans ?_ r1
 congr 1
 generalize Mn bs b d s (bs.length + 1) = M1 at *
 generalize Mn bs b d u3 lo1 = M2 at *
 generalize Mn bs b d w3 lo2 = M3 at *
 generalize Mn bs b d v3 lo3 = M4 at *
 simp [Bd_mk,q378,a1,c1,i1,tupOf]
theorem S377 {bs:List Blk} {b:Nat} (hb:b < bs.length) {n x s:Nat} (hn:n < 2 ^ 60) (h0:0 < x) (hx:x + 1 < n) (hs:s < 2 ^ 50) {cap:Option Nat} (d:Array Int) (lo:Nat) (hd:d.size = n) :
 ∃ lo',Sm E TS valS 249 [.row b 0 n cap 1,.d (i64 x),.ptr bs.length 0] (Mn bs b d s lo) =
  some (.d (i64 (medianAdjacent ltInt d x s).1),Mn bs b d (medianAdjacent ltInt d x s).2 lo') /\ Ks bs.length lo s lo' (medianAdjacent ltInt d x s).2 /\ (medianAdjacent ltInt d x s).1 < n /\ (medianAdjacent ltInt d x s).2 <= s + 3:=by
 have hl:=Mn_len (bs:=bs) (b:=b) (d:=d) (s:=s) (lo:=lo)
 have hM:(⟨(Mn bs b d s lo).bs,bs.length + 1⟩:Hp) = Mn bs b d s (bs.length + 1):=rfl
 unfold medianAdjacent
 obtain ⟨x0,hx0⟩:∃ j,x = j + 1:=⟨x - 1,by omega⟩
 obtain ⟨x1,hx1⟩:∃ j,x + 1 = j:=⟨_,rfl⟩
 have w0:=wsub1 (x:=x) (k:=x0) hx0 (by omega)
 have w1:=wadd1 (x:=x) (k:=x1) hx1 (by omega)
 rw [show x - 1 = x0 by omega,hx1]
 obtain ⟨lo1,a1,a2,a3,a4⟩:=S378 h334 hb hn (x:=x0) (y:=x) (z:=x1) (by omega) (by omega) (by omega) hs (cap:=cap) d (bs.length + 1) hd
 generalize median ltInt d x0 x x1 s = r at *
 obtain ⟨v2,v3⟩:=r
 simp only at *
 obtain ⟨lo4,r1,r2⟩:=byRef_n (bs:=bs) (b:=b) (d:=d) (s:=s) (s':=v3) (lo:=lo) (r:=.d (i64 v2)) rfl a2
 refine ⟨lo4,?_,r2,a3,a4⟩
 rw [Sm_ref s377 x377,hl,hM]
 refine Eq.trans ?_ r1
 congr 1
 generalize Mn bs b d s (bs.length + 1) = M1 at *
 generalize Mn bs b d v3 lo1 = M2 at *
 simp [Bd_mk,q377,a1,w0,w1,tupOf]
end
end Go.Proofs.YtegfnefobbgkjaaGreat
namespace Go.Proofs.YtegfnefobbgkjaaGreat
open Go.Sort (swp ltInt order2 median medianAdjacent choosePivot Hint)
def hintI:Hint -> Int
 | .unknown=>0
 | .increasing=>1
 | .decreasing=>2
theorem wmul {x y:Nat} {k:Nat} (h:x * y = k) (hk:k < 2 ^ 62):IntKind.wrap .i64 ((x:Int) * (y:Int)) = (k:Int):=by
 have:(x:Int) * (y:Int) = (k:Int):=by rw [← h]; exact (Int.natCast_mul x y).symm
 rw [this,wrap64] <;> omega
section
variable {E:Calls'} (h334:∀ x y h,E 214 [.d (u32 x),.d (u32 y)] h = some (bl (ltInt x y),h))
include h334
theorem S331 {bs:List Blk} {b:Nat} (hb:b < bs.length) {n a e:Nat} (hn:n < 2 ^ 60) (ha:a + 12 < e) (he:e <= n) {cap:Option Nat} (d:Array Int) (lo:Nat) (hd:d.size = n) :
 Sm E TS valS 211 [.row b 0 n cap 1,.d (i64 a),.d (i64 e)] (Mz .u32 bs b d lo) = some (.tup [.d (i64 (choosePivot ltInt d a e).1),.d (i64 (hintI (choosePivot ltInt d a e).2))],Mz .u32 bs b d lo):=by
 have hl:(Mz .u32 bs b d lo).bs.length = bs.length:=by simp [Mz,Mr]
 have hM:(⟨(Mz .u32 bs b d lo).bs,bs.length⟩:Hp) = Mz .u32 bs b d bs.length:=rfl
 obtain ⟨l,hl1⟩:∃ j,e - a = j:=⟨_,rfl⟩
 obtain ⟨q,hq⟩:∃ j,l / 4 = j:=⟨_,rfl⟩
 obtain ⟨q2,hq2⟩:∃ j,q * 2 = j:=⟨_,rfl⟩
 obtain ⟨q3,hq3⟩:∃ j,q * 3 = j:=⟨_,rfl⟩
 obtain ⟨i,hi⟩:∃ j,a + q = j:=⟨_,rfl⟩
 obtain ⟨j,hj⟩:∃ j,a + q2 = j:=⟨_,rfl⟩
 obtain ⟨k,hk⟩:∃ j,a + q3 = j:=⟨_,rfl⟩
 have wl:=wsub (x:=e) (y:=a) (k:=l) (by omega) (by omega)
 have wq:binD .quo (.d (.int .i64 l)) (.d (.int .i64 4)) = some (.int .i64 q):=quo_nat (x:=l) (y:=4) (z:=q) (by decide) hq (by omega)
 have w1:IntKind.wrap .i64 (q:Int) = (q:Int):=by rw [wrap64] <;> omega
 have w2:IntKind.wrap .i64 ((q:Int) * 2) = (q2:Int):=wmul (x:=q) (y:=2) hq2 (by omega)
 have w3:IntKind.wrap .i64 ((q:Int) * 3) = (q3:Int):=wmul (x:=q) (y:=3) hq3 (by omega)
 have wi:=wadd (x:=a) (y:=q) hi (by omega)
 have wj:=wadd (x:=a) (y:=q2) hj (by omega)
 have wk:=wadd (x:=a) (y:=q3) hk (by omega)
 have h8:(l:Int) >= 8:=by omega
 have hnew:(Mz .u32 bs b d bs.length).alloc [.d (.int .i64 0)] = Mn bs b d 0 bs.length:=by
  simp only [Mn,Mz,Mr,Hp.alloc]
  congr 1
  rw [List.set_append_left _ _ (by simpa using hb)]
  rfl
 have hlow0:(Mz .u32 bs b d bs.length).low = bs.length:=rfl
 have hMn:∀ s,ldv (Mn bs b d s bs.length) (.ptr bs.length 0) 1 true = some (.d (i64 s),Mn bs b d s bs.length):=fun s=>Mn_ld hb
 have hMl:∀ s,(Mn bs b d s bs.length).low = bs.length:=fun s=>rfl
 have hlen0:(Mz .u32 bs b d bs.length).bs.length = bs.length:=by simp [Mz,Mr]
 have hbr:∀ s v w,byRef (Mz .u32 bs b d lo) (some (.tup [.d v,.d w],Mn bs b d s bs.length)) = some (.tup [.d v,.d w],Mz .u32 bs b d lo):=fun s v w=>by
  rw [byRef_s,hl,hMl,if_pos ⟨Nat.le_refl _,rfl⟩]
 rw [Sm_ref s331 x331,hl,hM]
 unfold choosePivot
 simp only [hl1,hq,Nat.mul_one,hq2,hq3,hi,hj,hk]
 rw [if_pos (show l >= 8 by omega)]
 by_cases h50:l >= 50
 · have h50':(l:Int) >= 50:=by omega
   rw [if_pos h50]
   have Ksl:∀ {s s' lo'},Ks bs.length bs.length s lo' s' -> lo' = bs.length:=fun h=>by unfold Ks at h; omega
   obtain ⟨lo1,a1,a2,a3,a4⟩:=S377 h334 hb hn (x:=i) (by omega) (by omega) (s:=0) (by omega) (cap:=cap) d bs.length hd
   obtain rfl:=Ksl a2
   generalize medianAdjacent ltInt d i 0 = ri at *
   obtain ⟨i1,s1⟩:=ri
   simp only at *
   obtain ⟨lo2,b1,b2,b3,b4⟩:=S377 h334 hb hn (x:=j) (by omega) (by omega) (s:=s1) (by omega) (cap:=cap) d bs.length hd
   obtain rfl:=Ksl b2
   generalize medianAdjacent ltInt d j s1 = rj at *
   obtain ⟨j1,s2⟩:=rj
   simp only at *
   obtain ⟨lo3,c1,c2,c3,c4⟩:=S377 h334 hb hn (x:=k) (by omega) (by omega) (s:=s2) (by omega) (cap:=cap) d bs.length hd
   obtain rfl:=Ksl c2
   generalize medianAdjacent ltInt d k s2 = rk at *
   obtain ⟨k1,s3⟩:=rk
   simp only at *
   obtain ⟨lo4,d1,d2,d3,d4⟩:=S378 h334 hb hn (x:=i1) (y:=j1) (z:=k1) a3 b3 c3 (s:=s3) (by omega) (cap:=cap) d bs.length hd
   obtain rfl:=Ksl d2
   generalize median ltInt d i1 j1 k1 s3 = r at *
   obtain ⟨m,s4⟩:=r
   simp only at *
   have hld:=hMn s4
   have hbr:=hbr s4
   generalize Mz .u32 bs b d bs.length = M0 at *
   generalize Mn bs b d 0 bs.length = N0 at *
   generalize Mn bs b d s1 bs.length = N1 at *
   generalize Mn bs b d s2 bs.length = N2 at *
   generalize Mn bs b d s3 bs.length = N3 at *
   generalize Mn bs b d s4 bs.length = N4 at *
   by_cases e0:s4 = 0
   · simp only [e0,if_true,hintI]
     refine Eq.trans ?_ (hbr _ _)
     congr 1
     simp (decide:=true) [Bd_mk,q331,wl,wq,w1,w2,w3,wi,wj,wk,h8,h50',hlen0,hlow0,hnew,a1,b1,c1,d1,hld,e0,tupOf,-ldv_ptr]
   · have e0':¬ (s4:Int) = 0:=by omega
     by_cases e1:s4 = 12
     · simp only [e0,e1,if_true,if_false,hintI]
       refine Eq.trans ?_ (hbr _ _)
       congr 1
       subst e1
       simp (decide:=true) [Bd_mk,q331,wl,wq,w1,w2,w3,wi,wj,wk,h8,h50',hlen0,hlow0,hnew,a1,b1,c1,d1,hld,tupOf,-ldv_ptr]
     · have e1':¬ (s4:Int) = 12:=by omega
       simp only [e0,e1,if_false,hintI]
       refine Eq.trans ?_ (hbr _ _)
       congr 1
       simp (decide:=true) [Bd_mk,q331,wl,wq,w1,w2,w3,wi,wj,wk,h8,h50',hlen0,hlow0,hnew,a1,b1,c1,d1,hld,e0',e1',e0,e1,tupOf,-ldv_ptr]
 · have h50':¬ (l:Int) >= 50:=by omega
   rw [if_neg h50]
   have Ksl:∀ {s s' lo'},Ks bs.length bs.length s lo' s' -> lo' = bs.length:=fun h=>by unfold Ks at h; omega
   obtain ⟨lo4,d1,d2,d3,d4⟩:=S378 h334 hb hn (x:=i) (y:=j) (z:=k) (by omega) (by omega) (by omega) (s:=0) (by omega) (cap:=cap) d bs.length hd
   obtain rfl:=Ksl d2
   generalize median ltInt d i j k 0 = r at *
   obtain ⟨m,s4⟩:=r
   simp only at *
   have hld:=hMn s4
   have hbr:=hbr s4
   generalize Mz .u32 bs b d bs.length = M0 at *
   generalize Mn bs b d 0 bs.length = N0 at *
   generalize Mn bs b d s4 bs.length = N4 at *
   by_cases e0:s4 = 0
   · simp only [e0,if_true,hintI]
     refine Eq.trans ?_ (hbr _ _)
     congr 1
     simp (decide:=true) [Bd_mk,q331,wl,wq,w1,w2,w3,wi,wj,wk,h8,h50',hlen0,hlow0,hnew,d1,hld,e0,tupOf,-ldv_ptr]
   · have e0':¬ (s4:Int) = 0:=by omega
     by_cases e1:s4 = 12
     · simp only [e0,e1,if_true,if_false,hintI]
       refine Eq.trans ?_ (hbr _ _)
       congr 1
       subst e1
       simp (decide:=true) [Bd_mk,q331,wl,wq,w1,w2,w3,wi,wj,wk,h8,h50',hlen0,hlow0,hnew,d1,hld,tupOf,-ldv_ptr]
     · have e1':¬ (s4:Int) = 12:=by omega
       simp only [e0,e1,if_false,hintI]
       refine Eq.trans ?_ (hbr _ _)
       congr 1
       simp (decide:=true) [Bd_mk,q331,wl,wq,w1,w2,w3,wi,wj,wk,h8,h50',hlen0,hlow0,hnew,d1,hld,e0',e1',e0,e1,tupOf,-ldv_ptr]
end
end Go.Proofs.YtegfnefobbgkjaaGreat
namespace Go.Proofs.YtegfnefobbgkjaaGreat
open Go.Sort (swp ltInt scanUp scanDown partLoop partEqLoop partition partitionEqual)
theorem s336:TS 216 = some q336:=by kernel_rfl
theorem x336:valS 216 = false:=by kernel_rfl
theorem s335:TS 215 = some q335:=by kernel_rfl
theorem x335:valS 215 = false:=by kernel_rfl
section
variable {E:Calls'} (h334:∀ x y h,E 214 [.d (u32 x),.d (u32 y)] h = some (bl (ltInt x y),h))
include h334
theorem up336_0 {bs:List Blk} {b:Nat} (hb:b < bs.length) {n a j:Nat} (hn:n < 2 ^ 60) (ha:a < n) (hj:j < n) {cap:Option Nat} (d:Array Int) (lo:Nat) (hd:d.size = n):∀ (m i:Nat),j + 1 - i <= m -> i <= j + 1 →
 Cd E TS valS (.loop [0,1,10,11] q336_b0) [(0,.row b 0 n cap 1),(1,.d (i64 a)),(10,.d (i64 i)),(11,.d (i64 j))] (Mz .u32 bs b d lo) = some (.exit 0,[(0,.row b 0 n cap 1),(1,.d (i64 a)),(10,.d (i64 (scanUp (fun x=>ltInt x d[a]!) d j i))),(11,.d (i64 j))],Mz .u32 bs b d lo):=by
 intro m
 have key:=Cd_round (E:=E) (T:=TS) (val:=valS) [0,1,10,11] q336_b0
 generalize Cd E TS valS (.loop [0,1,10,11] q336_b0) = W at key ⊢
 induction m with
 | zero =>
  intro i hm hi
  rw [scanUp,if_neg (by simp; omega),key]
  simp (decide:=true) [q336_b0,openA,noTr,apartT_mute,Tr.mute,show ¬ ((i:Int) <= (j:Int)) from by omega]
 | succ m ih =>
  intro i hm hi
  by_cases hij:i <= j
  · have hij':(i:Int) <= (j:Int):=by omega
    have ixi:=fun h=>ixz (b:=b) (n:=n) (cap:=cap) (h:=h) (i:=i) (by omega)
    have ixa:=fun h=>ixz (b:=b) (n:=n) (cap:=cap) (h:=h) (i:=a) ha
    have li:=Mz_ld (kd:=.u32) (lo:=lo) hb (d:=d) (i:=i) (by omega)
    have la:=Mz_ld (kd:=.u32) (lo:=lo) hb (d:=d) (i:=a) (by omega)
    have c:=fun x y h=>Z334 h334 x y h
    obtain ⟨i1,hi1⟩:∃ k,i + 1 = k:=⟨_,rfl⟩
    have wi:=wadd1 (x:=i) (k:=i1) hi1 (by omega)
    have q:=ih i1 (by omega) (by omega)
    rw [scanUp,hi1]
    generalize scanUp (fun x=>ltInt x d[a]!) d j i1 = R at *
    generalize d[a]! = A at *
    generalize d[i]! = X at *
    generalize Mz .u32 bs b d lo = M0 at *
    rw [key]
    cases hc:ltInt X A with
    | true =>
     simp (decide:=true) [q336_b0,openA,opDE_call,noTr,apartT_mute,Tr.mute,ixi,ixa,li,la,c,hij,hij',hc,wi,-ldv_ptr,-stv_ptr]
     try simpa using q
    | false =>
     simp (decide:=true) [q336_b0,openA,opDE_call,noTr,apartT_mute,Tr.mute,ixi,ixa,li,la,c,hij,hij',hc,wi,-ldv_ptr,-stv_ptr]
     try simpa using q
  · rw [scanUp,if_neg (by simp; omega),key]
    simp (decide:=true) [q336_b0,openA,noTr,apartT_mute,Tr.mute,show ¬ ((i:Int) <= (j:Int)) from by omega]
theorem dn336_1 {bs:List Blk} {b:Nat} (hb:b < bs.length) {n a i:Nat} (hn:n < 2 ^ 60) (ha:a < n) (hi:0 < i) {cap:Option Nat} (d:Array Int) (lo:Nat) (hd:d.size = n):∀ (j:Nat),j < n →
 Cd E TS valS (.loop [0,1,10,11] q336_b1) [(0,.row b 0 n cap 1),(1,.d (i64 a)),(10,.d (i64 i)),(11,.d (i64 j))] (Mz .u32 bs b d lo) = some (.exit 2,[(0,.row b 0 n cap 1),(1,.d (i64 a)),(10,.d (i64 i)),(11,.d (i64 (scanDown (fun x=>!ltInt x d[a]!) d i j)))],Mz .u32 bs b d lo):=by
 intro j
 have key:=Cd_round (E:=E) (T:=TS) (val:=valS) [0,1,10,11] q336_b1
 generalize Cd E TS valS (.loop [0,1,10,11] q336_b1) = W at key ⊢
 induction j with
 | zero =>
  intro hj
  rw [key]
  simp (decide:=true) [q336_b1,openA,noTr,apartT_mute,Tr.mute,scanDown,show ¬ ((i:Int) <= 0) from by omega,show ¬ i = 0 from by omega]
 | succ j ih =>
  intro hj
  obtain ⟨j1,hj1⟩:∃ k,j + 1 = k:=⟨_,rfl⟩
  have wj:=wsub1 (x:=j1) (k:=j) hj1.symm (by omega)
  have q:=ih (by omega)
  rw [scanDown,hj1]
  by_cases hij:i <= j1
  · have hij':(i:Int) <= (j1:Int):=by omega
    have ixj:=fun h=>ixz (b:=b) (n:=n) (cap:=cap) (h:=h) (i:=j1) (by omega)
    have ixa:=fun h=>ixz (b:=b) (n:=n) (cap:=cap) (h:=h) (i:=a) ha
    have lj:=Mz_ld (kd:=.u32) (lo:=lo) hb (d:=d) (i:=j1) (by omega)
    have la:=Mz_ld (kd:=.u32) (lo:=lo) hb (d:=d) (i:=a) (by omega)
    have c:=fun x y h=>Z334 h334 x y h
    generalize scanDown (fun x=>!ltInt x d[a]!) d i j = R at *
    generalize d[a]! = A at *
    generalize d[j1]! = X at *
    generalize Mz .u32 bs b d lo = M0 at *
    rw [key]
    cases hc:ltInt X A with
    | true =>
     simp (decide:=true) [q336_b1,openA,opDE_call,noTr,apartT_mute,Tr.mute,ixj,ixa,lj,la,c,hij,hij',hc,wj,-ldv_ptr,-stv_ptr]
     try simpa using q
    | false =>
     simp (decide:=true) [q336_b1,openA,opDE_call,noTr,apartT_mute,Tr.mute,ixj,ixa,lj,la,c,hij,hij',hc,wj,-ldv_ptr,-stv_ptr]
     try simpa using q
  · have hij':¬ (i:Int) <= (j1:Int):=by omega
    rw [if_neg (by simp [hij]),key]
    simp (decide:=true) [q336_b1,openA,noTr,apartT_mute,Tr.mute,hij',hij]
theorem up336_2 {bs:List Blk} {b:Nat} (hb:b < bs.length) {n a j:Nat} (hn:n < 2 ^ 60) (ha:a < n) (hj:j < n) {cap:Option Nat} (d:Array Int) (lo:Nat) (hd:d.size = n):∀ (m i:Nat),j + 1 - i <= m -> i <= j + 1 →
 Cd E TS valS (.loop [0,1,10,11] q336_b2) [(0,.row b 0 n cap 1),(1,.d (i64 a)),(10,.d (i64 i)),(11,.d (i64 j))] (Mz .u32 bs b d lo) = some (.exit 6,[(0,.row b 0 n cap 1),(1,.d (i64 a)),(10,.d (i64 (scanUp (fun x=>ltInt x d[a]!) d j i))),(11,.d (i64 j))],Mz .u32 bs b d lo):=by
 intro m
 have key:=Cd_round (E:=E) (T:=TS) (val:=valS) [0,1,10,11] q336_b2
 generalize Cd E TS valS (.loop [0,1,10,11] q336_b2) = W at key ⊢
 induction m with
 | zero =>
  intro i hm hi
  rw [scanUp,if_neg (by simp; omega),key]
  simp (decide:=true) [q336_b2,openA,noTr,apartT_mute,Tr.mute,show ¬ ((i:Int) <= (j:Int)) from by omega]
 | succ m ih =>
  intro i hm hi
  by_cases hij:i <= j
  · have hij':(i:Int) <= (j:Int):=by omega
    have ixi:=fun h=>ixz (b:=b) (n:=n) (cap:=cap) (h:=h) (i:=i) (by omega)
    have ixa:=fun h=>ixz (b:=b) (n:=n) (cap:=cap) (h:=h) (i:=a) ha
    have li:=Mz_ld (kd:=.u32) (lo:=lo) hb (d:=d) (i:=i) (by omega)
    have la:=Mz_ld (kd:=.u32) (lo:=lo) hb (d:=d) (i:=a) (by omega)
    have c:=fun x y h=>Z334 h334 x y h
    obtain ⟨i1,hi1⟩:∃ k,i + 1 = k:=⟨_,rfl⟩
    have wi:=wadd1 (x:=i) (k:=i1) hi1 (by omega)
    have q:=ih i1 (by omega) (by omega)
    rw [scanUp,hi1]
    generalize scanUp (fun x=>ltInt x d[a]!) d j i1 = R at *
    generalize d[a]! = A at *
    generalize d[i]! = X at *
    generalize Mz .u32 bs b d lo = M0 at *
    rw [key]
    cases hc:ltInt X A with
    | true =>
     simp (decide:=true) [q336_b2,openA,opDE_call,noTr,apartT_mute,Tr.mute,ixi,ixa,li,la,c,hij,hij',hc,wi,-ldv_ptr,-stv_ptr]
     try simpa using q
    | false =>
     simp (decide:=true) [q336_b2,openA,opDE_call,noTr,apartT_mute,Tr.mute,ixi,ixa,li,la,c,hij,hij',hc,wi,-ldv_ptr,-stv_ptr]
     try simpa using q
  · rw [scanUp,if_neg (by simp; omega),key]
    simp (decide:=true) [q336_b2,openA,noTr,apartT_mute,Tr.mute,show ¬ ((i:Int) <= (j:Int)) from by omega]
theorem dn336_3 {bs:List Blk} {b:Nat} (hb:b < bs.length) {n a i:Nat} (hn:n < 2 ^ 60) (ha:a < n) (hi:0 < i) {cap:Option Nat} (d:Array Int) (lo:Nat) (hd:d.size = n):∀ (j:Nat),j < n →
 Cd E TS valS (.loop [0,1,10,11] q336_b3) [(0,.row b 0 n cap 1),(1,.d (i64 a)),(10,.d (i64 i)),(11,.d (i64 j))] (Mz .u32 bs b d lo) = some (.exit 8,[(0,.row b 0 n cap 1),(1,.d (i64 a)),(10,.d (i64 i)),(11,.d (i64 (scanDown (fun x=>!ltInt x d[a]!) d i j)))],Mz .u32 bs b d lo):=by
 intro j
 have key:=Cd_round (E:=E) (T:=TS) (val:=valS) [0,1,10,11] q336_b3
 generalize Cd E TS valS (.loop [0,1,10,11] q336_b3) = W at key ⊢
 induction j with
 | zero =>
  intro hj
  rw [key]
  simp (decide:=true) [q336_b3,openA,noTr,apartT_mute,Tr.mute,scanDown,show ¬ ((i:Int) <= 0) from by omega,show ¬ i = 0 from by omega]
 | succ j ih =>
  intro hj
  obtain ⟨j1,hj1⟩:∃ k,j + 1 = k:=⟨_,rfl⟩
  have wj:=wsub1 (x:=j1) (k:=j) hj1.symm (by omega)
  have q:=ih (by omega)
  rw [scanDown,hj1]
  by_cases hij:i <= j1
  · have hij':(i:Int) <= (j1:Int):=by omega
    have ixj:=fun h=>ixz (b:=b) (n:=n) (cap:=cap) (h:=h) (i:=j1) (by omega)
    have ixa:=fun h=>ixz (b:=b) (n:=n) (cap:=cap) (h:=h) (i:=a) ha
    have lj:=Mz_ld (kd:=.u32) (lo:=lo) hb (d:=d) (i:=j1) (by omega)
    have la:=Mz_ld (kd:=.u32) (lo:=lo) hb (d:=d) (i:=a) (by omega)
    have c:=fun x y h=>Z334 h334 x y h
    generalize scanDown (fun x=>!ltInt x d[a]!) d i j = R at *
    generalize d[a]! = A at *
    generalize d[j1]! = X at *
    generalize Mz .u32 bs b d lo = M0 at *
    rw [key]
    cases hc:ltInt X A with
    | true =>
     simp (decide:=true) [q336_b3,openA,opDE_call,noTr,apartT_mute,Tr.mute,ixj,ixa,lj,la,c,hij,hij',hc,wj,-ldv_ptr,-stv_ptr]
     try simpa using q
    | false =>
     simp (decide:=true) [q336_b3,openA,opDE_call,noTr,apartT_mute,Tr.mute,ixj,ixa,lj,la,c,hij,hij',hc,wj,-ldv_ptr,-stv_ptr]
     try simpa using q
  · have hij':¬ (i:Int) <= (j1:Int):=by omega
    rw [if_neg (by simp [hij]),key]
    simp (decide:=true) [q336_b3,openA,noTr,apartT_mute,Tr.mute,hij',hij]
theorem up335_0 {bs:List Blk} {b:Nat} (hb:b < bs.length) {n a j:Nat} (hn:n < 2 ^ 60) (ha:a < n) (hj:j < n) {cap:Option Nat} (d:Array Int) (lo:Nat) (hd:d.size = n):∀ (m i:Nat),j + 1 - i <= m -> i <= j + 1 →
 Cd E TS valS (.loop [0,1,9,10] q335_b0) [(0,.row b 0 n cap 1),(1,.d (i64 a)),(9,.d (i64 i)),(10,.d (i64 j))] (Mz .u32 bs b d lo) = some (.exit 2,[(0,.row b 0 n cap 1),(1,.d (i64 a)),(9,.d (i64 (scanUp (fun x=>!ltInt d[a]! x) d j i))),(10,.d (i64 j))],Mz .u32 bs b d lo):=by
 intro m
 have key:=Cd_round (E:=E) (T:=TS) (val:=valS) [0,1,9,10] q335_b0
 generalize Cd E TS valS (.loop [0,1,9,10] q335_b0) = W at key ⊢
 induction m with
 | zero =>
  intro i hm hi
  rw [scanUp,if_neg (by simp; omega),key]
  simp (decide:=true) [q335_b0,openA,noTr,apartT_mute,Tr.mute,show ¬ ((i:Int) <= (j:Int)) from by omega]
 | succ m ih =>
  intro i hm hi
  by_cases hij:i <= j
  · have hij':(i:Int) <= (j:Int):=by omega
    have ixi:=fun h=>ixz (b:=b) (n:=n) (cap:=cap) (h:=h) (i:=i) (by omega)
    have ixa:=fun h=>ixz (b:=b) (n:=n) (cap:=cap) (h:=h) (i:=a) ha
    have li:=Mz_ld (kd:=.u32) (lo:=lo) hb (d:=d) (i:=i) (by omega)
    have la:=Mz_ld (kd:=.u32) (lo:=lo) hb (d:=d) (i:=a) (by omega)
    have c:=fun x y h=>Z334 h334 x y h
    obtain ⟨i1,hi1⟩:∃ k,i + 1 = k:=⟨_,rfl⟩
    have wi:=wadd1 (x:=i) (k:=i1) hi1 (by omega)
    have q:=ih i1 (by omega) (by omega)
    rw [scanUp,hi1]
    generalize scanUp (fun x=>!ltInt d[a]! x) d j i1 = R at *
    generalize d[a]! = A at *
    generalize d[i]! = X at *
    generalize Mz .u32 bs b d lo = M0 at *
    rw [key]
    cases hc:ltInt A X with
    | true =>
     simp (decide:=true) [q335_b0,openA,opDE_call,noTr,apartT_mute,Tr.mute,ixi,ixa,li,la,c,hij,hij',hc,wi,-ldv_ptr,-stv_ptr]
     try simpa using q
    | false =>
     simp (decide:=true) [q335_b0,openA,opDE_call,noTr,apartT_mute,Tr.mute,ixi,ixa,li,la,c,hij,hij',hc,wi,-ldv_ptr,-stv_ptr]
     try simpa using q
  · rw [scanUp,if_neg (by simp; omega),key]
    simp (decide:=true) [q335_b0,openA,noTr,apartT_mute,Tr.mute,show ¬ ((i:Int) <= (j:Int)) from by omega]
theorem dn335_1 {bs:List Blk} {b:Nat} (hb:b < bs.length) {n a i:Nat} (hn:n < 2 ^ 60) (ha:a < n) (hi:0 < i) {cap:Option Nat} (d:Array Int) (lo:Nat) (hd:d.size = n):∀ (j:Nat),j < n →
 Cd E TS valS (.loop [0,1,9,10] q335_b1) [(0,.row b 0 n cap 1),(1,.d (i64 a)),(9,.d (i64 i)),(10,.d (i64 j))] (Mz .u32 bs b d lo) = some (.exit 4,[(0,.row b 0 n cap 1),(1,.d (i64 a)),(9,.d (i64 i)),(10,.d (i64 (scanDown (fun x=>ltInt d[a]! x) d i j)))],Mz .u32 bs b d lo):=by
 intro j
 have key:=Cd_round (E:=E) (T:=TS) (val:=valS) [0,1,9,10] q335_b1
 generalize Cd E TS valS (.loop [0,1,9,10] q335_b1) = W at key ⊢
 induction j with
 | zero =>
  intro hj
  rw [key]
  simp (decide:=true) [q335_b1,openA,noTr,apartT_mute,Tr.mute,scanDown,show ¬ ((i:Int) <= 0) from by omega,show ¬ i = 0 from by omega]
 | succ j ih =>
  intro hj
  obtain ⟨j1,hj1⟩:∃ k,j + 1 = k:=⟨_,rfl⟩
  have wj:=wsub1 (x:=j1) (k:=j) hj1.symm (by omega)
  have q:=ih (by omega)
  rw [scanDown,hj1]
  by_cases hij:i <= j1
  · have hij':(i:Int) <= (j1:Int):=by omega
    have ixj:=fun h=>ixz (b:=b) (n:=n) (cap:=cap) (h:=h) (i:=j1) (by omega)
    have ixa:=fun h=>ixz (b:=b) (n:=n) (cap:=cap) (h:=h) (i:=a) ha
    have lj:=Mz_ld (kd:=.u32) (lo:=lo) hb (d:=d) (i:=j1) (by omega)
    have la:=Mz_ld (kd:=.u32) (lo:=lo) hb (d:=d) (i:=a) (by omega)
    have c:=fun x y h=>Z334 h334 x y h
    generalize scanDown (fun x=>ltInt d[a]! x) d i j = R at *
    generalize d[a]! = A at *
    generalize d[j1]! = X at *
    generalize Mz .u32 bs b d lo = M0 at *
    rw [key]
    cases hc:ltInt A X with
    | true =>
     simp (decide:=true) [q335_b1,openA,opDE_call,noTr,apartT_mute,Tr.mute,ixj,ixa,lj,la,c,hij,hij',hc,wj,-ldv_ptr,-stv_ptr]
     try simpa using q
    | false =>
     simp (decide:=true) [q335_b1,openA,opDE_call,noTr,apartT_mute,Tr.mute,ixj,ixa,lj,la,c,hij,hij',hc,wj,-ldv_ptr,-stv_ptr]
     try simpa using q
  · have hij':¬ (i:Int) <= (j1:Int):=by omega
    rw [if_neg (by simp [hij]),key]
    simp (decide:=true) [q335_b1,openA,noTr,apartT_mute,Tr.mute,hij',hij]
end
end Go.Proofs.YtegfnefobbgkjaaGreat
namespace Go.Proofs.YtegfnefobbgkjaaGreat
open Go.Sort (swp ltInt scanUp scanDown partLoop partEqLoop partition partitionEqual scanUp_spec scanDown_spec partLoop_eq partEqLoop_eq)
section
variable {E:Calls'} (h334:∀ x y h,E 214 [.d (u32 x),.d (u32 y)] h = some (bl (ltInt x y),h))
include h334
theorem part_loop {bs:List Blk} {b:Nat} (hb:b < bs.length) {n a:Nat} (hn:n < 2 ^ 60) (ha:a < n) {cap:Option Nat}:∀ (m i j:Nat) (d:Array Int) (lo:Nat),j + 1 - i <= m -> a < i -> i <= j + 1 -> j < n -> d.size = n →
 ∃ lo',Cd E TS valS (.loop [0,1,10,11] q336_b4) [(0,.row b 0 n cap 1),(1,.d (i64 a)),(10,.d (i64 i)),(11,.d (i64 j))] (Mz .u32 bs b d lo) =
  some (.exit 4,[(0,.row b 0 n cap 1),(1,.d (i64 a)),(11,.d (i64 (partLoop ltInt a i j d).1))],Mz .u32 bs b (partLoop ltInt a i j d).2 lo') /\ Kz b lo d lo' (partLoop ltInt a i j d).2 /\ (partLoop ltInt a i j d).2.size = n /\ (partLoop ltInt a i j d).1 < n:=by
 intro m
 have key:=Cd_round (E:=E) (T:=TS) (val:=valS) [0,1,10,11] q336_b4
 generalize Cd E TS valS (.loop [0,1,10,11] q336_b4) = W at key ⊢
 induction m with
 | zero =>
  intro i j d lo hm hai hij hj hd
  have u:=up336_2 h334 hb hn ha hj (cap:=cap) d lo hd (j + 1 - i) i (Nat.le_refl _) hij
  have w:=fun i2 h2=>dn336_3 h334 hb hn ha (i:=i2) h2 (cap:=cap) d lo hd j hj
  obtain ⟨u1,u2,_,_⟩:=scanUp_spec (fun x=>ltInt x d[a]!) d j _ i rfl
  have hui:scanUp (fun x=>ltInt x d[a]!) d j i = i:=by have:=u2 hij; omega
  rw [partLoop_eq]
  rw [hui] at u ⊢
  have w:=w i (by omega)
  obtain ⟨w1,_,_,_⟩:=scanDown_spec (fun x=>!ltInt x d[a]!) d i j
  generalize scanDown (fun x=>!ltInt x d[a]!) d i j = j2 at *
  rw [if_pos (show i > j2 by omega)]
  refine ⟨lo,?_,.refl,hd,by omega⟩
  generalize Mz .u32 bs b d lo = M0 at *
  rw [key]
  simp (decide:=true) [q336_b4]
  rw [Cd_keep]
  try simp at u w
  simp [u]
  rw [Cd_keep]
  simp [w,show ((i:Int) > (j2:Int)) from by omega]
 | succ m ih =>
  intro i j d lo hm hai hij hj hd
  have u:=up336_2 h334 hb hn ha hj (cap:=cap) d lo hd (j + 1 - i) i (Nat.le_refl _) hij
  obtain ⟨u1,u2,_,u4⟩:=scanUp_spec (fun x=>ltInt x d[a]!) d j _ i rfl
  have u2:=u2 hij
  rw [partLoop_eq]
  generalize scanUp (fun x=>ltInt x d[a]!) d j i = i2 at *
  have w:=dn336_3 h334 hb hn ha (i:=i2) (by omega) (cap:=cap) d lo hd j hj
  obtain ⟨w1,_,_,w4⟩:=scanDown_spec (fun x=>!ltInt x d[a]!) d i2 j
  generalize scanDown (fun x=>!ltInt x d[a]!) d i2 j = j2 at *
  have hne:i2 ≠ j2:=fun hh=>by
   have e1:=u4 (by omega)
   have e2:=w4 (by omega) (by omega)
   rw [← hh] at e2
   simp only [e1] at e2
   cases e2
  by_cases hgt:i2 > j2
  · rw [if_pos hgt]
    refine ⟨lo,?_,.refl,hd,by omega⟩
    generalize Mz .u32 bs b d lo = M0 at *
    rw [key]
    simp (decide:=true) [q336_b4]
    rw [Cd_keep]
    try simp at u w
    simp [u]
    rw [Cd_keep]
    simp [w,show ((i2:Int) > (j2:Int)) from by omega]
  · rw [if_neg hgt]
    obtain ⟨i3,hi3⟩:∃ k,i2 + 1 = k:=⟨_,rfl⟩
    obtain ⟨j3,hj3⟩:∃ k,j2 = k + 1:=⟨j2 - 1,by omega⟩
    have wi:=wadd1 (x:=i2) (k:=i3) hi3 (by omega)
    have wj:=wsub1 (x:=j2) (k:=j3) hj3 (by omega)
    rw [hi3,show j2 - 1 = j3 by omega]
    have ixi:=fun h=>ixz (b:=b) (n:=n) (cap:=cap) (h:=h) (i:=i2) (by omega)
    have ixj:=fun h=>ixz (b:=b) (n:=n) (cap:=cap) (h:=h) (i:=j2) (by omega)
    have li:=Mz_ld (kd:=.u32) (lo:=lo) hb (d:=d) (i:=i2) (by omega)
    have lj:=Mz_ld (kd:=.u32) (lo:=lo) hb (d:=d) (i:=j2) (by omega)
    obtain ⟨st1,st2⟩:=Mz_swap (kd:=.u32) (lo:=lo) hb (d:=d) (i:=i2) (j:=j2) (by omega) (by omega)
    obtain ⟨lo',q1,q2,q3,q4⟩:=ih i3 j3 (swp d i2 j2) (min (min lo b) b) (by omega) (by omega) (by omega) (by omega) (by rw [swpz_size]; exact hd)
    have hK:Kz b lo d (min (min lo b) b) (swp d i2 j2):=.inl (by omega)
    refine ⟨lo',?_,hK.trans q2,q3,q4⟩
    generalize partLoop ltInt a i3 j3 (swp d i2 j2) = D at *
    clear u4 w4
    generalize d[i2]! = x at *
    generalize d[j2]! = y at *
    generalize d.setIfInBounds i2 y = d1 at *
    generalize swp d i2 j2 = d3 at *
    generalize Mz .u32 bs b d lo = M0 at *
    rw [key]
    generalize hM1:Mz .u32 bs b d1 = M1 at *
    simp (decide:=true) [q336_b4]
    rw [Cd_keep]
    try simp at u w
    simp [u]
    rw [Cd_keep]
    simp (decide:=true) [w,show ¬ ((i2:Int) > (j2:Int)) from by omega,ixi,ixj,li,lj,st1,st2,wi,wj,openA,opDE_call,noTr,apartT_mute,Tr.mute,-ldv_ptr,-stv_ptr]
    simpa using q1
theorem partEq_loop {bs:List Blk} {b:Nat} (hb:b < bs.length) {n a:Nat} (hn:n < 2 ^ 60) (ha:a < n) {cap:Option Nat}:∀ (m i j:Nat) (d:Array Int) (lo:Nat),j + 1 - i <= m -> a < i -> i <= j + 1 -> j < n -> d.size = n →
 ∃ lo',Cd E TS valS (.loop [0,1,9,10] q335_b2) [(0,.row b 0 n cap 1),(1,.d (i64 a)),(9,.d (i64 i)),(10,.d (i64 j))] (Mz .u32 bs b d lo) =
  some (.exit 0,[(9,.d (i64 (partEqLoop ltInt a i j d).1))],Mz .u32 bs b (partEqLoop ltInt a i j d).2 lo') /\ Kz b lo d lo' (partEqLoop ltInt a i j d).2 /\ (partEqLoop ltInt a i j d).2.size = n:=by
 intro m
 have key:=Cd_round (E:=E) (T:=TS) (val:=valS) [0,1,9,10] q335_b2
 generalize Cd E TS valS (.loop [0,1,9,10] q335_b2) = W at key ⊢
 induction m with
 | zero =>
  intro i j d lo hm hai hij hj hd
  have u:=up335_0 h334 hb hn ha hj (cap:=cap) d lo hd (j + 1 - i) i (Nat.le_refl _) hij
  have w:=fun i2 h2=>dn335_1 h334 hb hn ha (i:=i2) h2 (cap:=cap) d lo hd j hj
  obtain ⟨u1,u2,_,_⟩:=scanUp_spec (fun x=>!ltInt d[a]! x) d j _ i rfl
  have hui:scanUp (fun x=>!ltInt d[a]! x) d j i = i:=by have:=u2 hij; omega
  rw [partEqLoop_eq]
  rw [hui] at u ⊢
  have w:=w i (by omega)
  obtain ⟨w1,_,_,_⟩:=scanDown_spec (fun x=>ltInt d[a]! x) d i j
  generalize scanDown (fun x=>ltInt d[a]! x) d i j = j2 at *
  rw [if_pos (show i > j2 by omega)]
  refine ⟨lo,?_,.refl,hd⟩
  generalize Mz .u32 bs b d lo = M0 at *
  rw [key]
  simp (decide:=true) [q335_b2]
  rw [Cd_keep]
  try simp at u w
  simp [u]
  rw [Cd_keep]
  simp [w,show ((i:Int) > (j2:Int)) from by omega]
 | succ m ih =>
  intro i j d lo hm hai hij hj hd
  have u:=up335_0 h334 hb hn ha hj (cap:=cap) d lo hd (j + 1 - i) i (Nat.le_refl _) hij
  obtain ⟨u1,u2,_,u4⟩:=scanUp_spec (fun x=>!ltInt d[a]! x) d j _ i rfl
  have u2:=u2 hij
  rw [partEqLoop_eq]
  generalize scanUp (fun x=>!ltInt d[a]! x) d j i = i2 at *
  have w:=dn335_1 h334 hb hn ha (i:=i2) (by omega) (cap:=cap) d lo hd j hj
  obtain ⟨w1,_,_,w4⟩:=scanDown_spec (fun x=>ltInt d[a]! x) d i2 j
  generalize scanDown (fun x=>ltInt d[a]! x) d i2 j = j2 at *
  have hne:i2 ≠ j2:=fun hh=>by
   have e1:=u4 (by omega)
   have e2:=w4 (by omega) (by omega)
   rw [← hh] at e2
   simp only [e2] at e1
   cases e1
  by_cases hgt:i2 > j2
  · rw [if_pos hgt]
    refine ⟨lo,?_,.refl,hd⟩
    generalize Mz .u32 bs b d lo = M0 at *
    rw [key]
    simp (decide:=true) [q335_b2]
    rw [Cd_keep]
    try simp at u w
    simp [u]
    rw [Cd_keep]
    simp [w,show ((i2:Int) > (j2:Int)) from by omega]
  · rw [if_neg hgt]
    obtain ⟨i3,hi3⟩:∃ k,i2 + 1 = k:=⟨_,rfl⟩
    obtain ⟨j3,hj3⟩:∃ k,j2 = k + 1:=⟨j2 - 1,by omega⟩
    have wi:=wadd1 (x:=i2) (k:=i3) hi3 (by omega)
    have wj:=wsub1 (x:=j2) (k:=j3) hj3 (by omega)
    rw [hi3,show j2 - 1 = j3 by omega]
    have ixi:=fun h=>ixz (b:=b) (n:=n) (cap:=cap) (h:=h) (i:=i2) (by omega)
    have ixj:=fun h=>ixz (b:=b) (n:=n) (cap:=cap) (h:=h) (i:=j2) (by omega)
    have li:=Mz_ld (kd:=.u32) (lo:=lo) hb (d:=d) (i:=i2) (by omega)
    have lj:=Mz_ld (kd:=.u32) (lo:=lo) hb (d:=d) (i:=j2) (by omega)
    obtain ⟨st1,st2⟩:=Mz_swap (kd:=.u32) (lo:=lo) hb (d:=d) (i:=i2) (j:=j2) (by omega) (by omega)
    obtain ⟨lo',q1,q2,q3⟩:=ih i3 j3 (swp d i2 j2) (min (min lo b) b) (by omega) (by omega) (by omega) (by omega) (by rw [swpz_size]; exact hd)
    have hK:Kz b lo d (min (min lo b) b) (swp d i2 j2):=.inl (by omega)
    refine ⟨lo',?_,hK.trans q2,q3⟩
    generalize partEqLoop ltInt a i3 j3 (swp d i2 j2) = D at *
    clear u4 w4
    generalize d[i2]! = x at *
    generalize d[j2]! = y at *
    generalize d.setIfInBounds i2 y = d1 at *
    generalize swp d i2 j2 = d3 at *
    generalize Mz .u32 bs b d lo = M0 at *
    rw [key]
    generalize hM1:Mz .u32 bs b d1 = M1 at *
    simp (decide:=true) [q335_b2]
    rw [Cd_keep]
    try simp at u w
    simp [u]
    rw [Cd_keep]
    simp (decide:=true) [w,show ¬ ((i2:Int) > (j2:Int)) from by omega,ixi,ixj,li,lj,st1,st2,wi,wj,openA,opDE_call,noTr,apartT_mute,Tr.mute,-ldv_ptr,-stv_ptr]
    simpa using q1
theorem S335 {bs:List Blk} {b:Nat} (hb:b < bs.length) {n a e p:Nat} (hn:n < 2 ^ 60) (ha:a < e) (he:e <= n) (hp:p < n) {cap:Option Nat} (d:Array Int) (lo:Nat) (hd:d.size = n) :
 ∃ lo',Sm E TS valS 215 [.row b 0 n cap 1,.d (i64 a),.d (i64 e),.d (i64 p)] (Mz .u32 bs b d lo) = some (.d (i64 (partitionEqual ltInt d a e p).1),Mz .u32 bs b (partitionEqual ltInt d a e p).2 lo') /\ Kz b lo d lo' (partitionEqual ltInt d a e p).2 /\ (partitionEqual ltInt d a e p).2.size = n:=by
 obtain ⟨i,hi⟩:∃ k,a + 1 = k:=⟨_,rfl⟩
 obtain ⟨j,hj⟩:∃ k,e = k + 1:=⟨e - 1,by omega⟩
 have wi:=wadd1 (x:=a) (k:=i) hi (by omega)
 have wj:=wsub1 (x:=e) (k:=j) hj (by omega)
 have hM:(⟨(Mz .u32 bs b d lo).bs,bs.length⟩:Hp) = Mz .u32 bs b d bs.length:=rfl
 have hl:(Mz .u32 bs b d lo).bs.length = bs.length:=by simp [Mz,Mr]
 have ixa:=fun h=>ixz (b:=b) (n:=n) (cap:=cap) (h:=h) (i:=a) (by omega)
 have ixp:=fun h=>ixz (b:=b) (n:=n) (cap:=cap) (h:=h) (i:=p) hp
 have la:=Mz_ld (kd:=.u32) (lo:=bs.length) hb (d:=d) (i:=a) (by omega)
 have lp:=Mz_ld (kd:=.u32) (lo:=bs.length) hb (d:=d) (i:=p) (by omega)
 obtain ⟨st1,st2⟩:=Mz_swap (kd:=.u32) (lo:=bs.length) hb (d:=d) (i:=a) (j:=p) (by omega) (by omega)
 obtain ⟨lo1,q1,q2,q3⟩:=partEq_loop h334 hb hn (a:=a) (by omega) (cap:=cap) (j + 1 - i) i j (swp d a p) (min bs.length b) (Nat.le_refl _) (by omega) (by omega) (by omega) (by rw [swpz_size]; exact hd)
 have hS:partitionEqual ltInt d a e p = partEqLoop ltInt a i j (swp d a p):=by unfold partitionEqual; rw [hi,show e - 1 = j by omega]
 rw [hS]
 have hK:Kz b bs.length d (min bs.length b) (swp d a p):=.inl (by omega)
 obtain ⟨lo2,r1,r2⟩:=byRef_z (kd:=.u32) (lo:=lo) (r:=.d (i64 (partEqLoop ltInt a i j (swp d a p)).1)) hb rfl (hK.trans q2)
 refine ⟨lo2,?_,r2,q3⟩
 rw [Sm_ref s335 x335,hl,hM]
 refine Eq.trans ?_ r1
 congr 1
 generalize partEqLoop ltInt a i j (swp d a p) = D at *
 generalize d[a]! = x at *
 generalize d[p]! = y at *
 generalize d.setIfInBounds a y = d1 at *
 generalize swp d a p = d3 at *
 generalize Mz .u32 bs b d bs.length = M0 at *
 generalize hM1:Mz .u32 bs b d1 = M1 at *
 simp (decide:=true) [Bd_mk,q335,ixa,ixp,la,lp,st1,st2,wi,wj,openA,opDE_call,noTr,apartT_mute,Tr.mute,-ldv_ptr,-stv_ptr]
 rw [Cd_keep]
 try simp at q1
 simp [q1,tupOf]
theorem S336 {bs:List Blk} {b:Nat} (hb:b < bs.length) {n a e p:Nat} (hn:n < 2 ^ 60) (ha:a < e) (he:e <= n) (hp:p < n) {cap:Option Nat} (d:Array Int) (lo:Nat) (hd:d.size = n) :
 ∃ lo',Sm E TS valS 216 [.row b 0 n cap 1,.d (i64 a),.d (i64 e),.d (i64 p)] (Mz .u32 bs b d lo) = some (.tup [.d (i64 (partition ltInt d a e p).1),bl (partition ltInt d a e p).2.1],Mz .u32 bs b (partition ltInt d a e p).2.2 lo') /\ Kz b lo d lo' (partition ltInt d a e p).2.2 /\ (partition ltInt d a e p).2.2.size = n:=by
 obtain ⟨i,hi⟩:∃ k,a + 1 = k:=⟨_,rfl⟩
 obtain ⟨j,hj⟩:∃ k,e = k + 1:=⟨e - 1,by omega⟩
 have wi:=wadd1 (x:=a) (k:=i) hi (by omega)
 have wj:=wsub1 (x:=e) (k:=j) hj (by omega)
 have hM:(⟨(Mz .u32 bs b d lo).bs,bs.length⟩:Hp) = Mz .u32 bs b d bs.length:=rfl
 have hl:(Mz .u32 bs b d lo).bs.length = bs.length:=by simp [Mz,Mr]
 have ixa:=fun h=>ixz (b:=b) (n:=n) (cap:=cap) (h:=h) (i:=a) (by omega)
 have ixp:=fun h=>ixz (b:=b) (n:=n) (cap:=cap) (h:=h) (i:=p) hp
 have la:=Mz_ld (kd:=.u32) (lo:=bs.length) hb (d:=d) (i:=a) (by omega)
 have lp:=Mz_ld (kd:=.u32) (lo:=bs.length) hb (d:=d) (i:=p) (by omega)
 obtain ⟨st1,st2⟩:=Mz_swap (kd:=.u32) (lo:=bs.length) hb (d:=d) (i:=a) (j:=p) (by omega) (by omega)
 have hd1:(swp d a p).size = n:=by rw [swpz_size]; exact hd
 have hS:partition ltInt d a e p = (if scanUp (fun x=>ltInt x (swp d a p)[a]!) (swp d a p) j i > scanDown (fun x=>!ltInt x (swp d a p)[a]!) (swp d a p) (scanUp (fun x=>ltInt x (swp d a p)[a]!) (swp d a p) j i) j then
  (scanDown (fun x=>!ltInt x (swp d a p)[a]!) (swp d a p) (scanUp (fun x=>ltInt x (swp d a p)[a]!) (swp d a p) j i) j,true,swp (swp d a p) (scanDown (fun x=>!ltInt x (swp d a p)[a]!) (swp d a p) (scanUp (fun x=>ltInt x (swp d a p)[a]!) (swp d a p) j i) j) a) else
  ((partLoop ltInt a (scanUp (fun x=>ltInt x (swp d a p)[a]!) (swp d a p) j i + 1) (scanDown (fun x=>!ltInt x (swp d a p)[a]!) (swp d a p) (scanUp (fun x=>ltInt x (swp d a p)[a]!) (swp d a p) j i) j - 1) (swp (swp d a p) (scanUp (fun x=>ltInt x (swp d a p)[a]!) (swp d a p) j i) (scanDown (fun x=>!ltInt x (swp d a p)[a]!) (swp d a p) (scanUp (fun x=>ltInt x (swp d a p)[a]!) (swp d a p) j i) j))).1,false,
   swp (partLoop ltInt a (scanUp (fun x=>ltInt x (swp d a p)[a]!) (swp d a p) j i + 1) (scanDown (fun x=>!ltInt x (swp d a p)[a]!) (swp d a p) (scanUp (fun x=>ltInt x (swp d a p)[a]!) (swp d a p) j i) j - 1) (swp (swp d a p) (scanUp (fun x=>ltInt x (swp d a p)[a]!) (swp d a p) j i) (scanDown (fun x=>!ltInt x (swp d a p)[a]!) (swp d a p) (scanUp (fun x=>ltInt x (swp d a p)[a]!) (swp d a p) j i) j))).2
    (partLoop ltInt a (scanUp (fun x=>ltInt x (swp d a p)[a]!) (swp d a p) j i + 1) (scanDown (fun x=>!ltInt x (swp d a p)[a]!) (swp d a p) (scanUp (fun x=>ltInt x (swp d a p)[a]!) (swp d a p) j i) j - 1) (swp (swp d a p) (scanUp (fun x=>ltInt x (swp d a p)[a]!) (swp d a p) j i) (scanDown (fun x=>!ltInt x (swp d a p)[a]!) (swp d a p) (scanUp (fun x=>ltInt x (swp d a p)[a]!) (swp d a p) j i) j))).1 a)):=by
  unfold partition
  simp only [hi,show e - 1 = j by omega]
 rw [hS]
 clear hS
 have hK:Kz b bs.length d (min bs.length b) (swp d a p):=.inl (by omega)
 generalize hD:swp d a p = D at *
 have u:=up336_0 h334 hb hn (a:=a) (j:=j) (by omega) (by omega) (cap:=cap) D (min bs.length b) hd1 (j + 1 - i) i (Nat.le_refl _) (by omega)
 obtain ⟨u1,u2,_,u4⟩:=scanUp_spec (fun x=>ltInt x D[a]!) D j _ i rfl
 have u2:=u2 (by omega)
 generalize scanUp (fun x=>ltInt x D[a]!) D j i = i2 at *
 have w:=dn336_1 h334 hb hn (a:=a) (by omega) (i:=i2) (by omega) (cap:=cap) D (min bs.length b) hd1 j (by omega)
 obtain ⟨w1,w2,_,w4⟩:=scanDown_spec (fun x=>!ltInt x D[a]!) D i2 j
 generalize scanDown (fun x=>!ltInt x D[a]!) D i2 j = j2 at *
 have hne:i2 ≠ j2:=fun hh=>by
  have e1:=u4 (by omega)
  have e2:=w4 (by omega) (by omega)
  rw [← hh] at e2
  simp only [e1] at e2
  cases e2
 clear u4 w4
 have ixi:=fun (hh:i2 < n) h=>ixz (b:=b) (n:=n) (cap:=cap) (h:=h) (i:=i2) hh
 have ixj:=fun h=>ixz (b:=b) (n:=n) (cap:=cap) (h:=h) (i:=j2) (by omega)
 have lj:=Mz_ld (kd:=.u32) (lo:=min bs.length b) hb (d:=D) (i:=j2) (by omega)
 have la2:=Mz_ld (kd:=.u32) (lo:=min bs.length b) hb (d:=D) (i:=a) (by omega)
 by_cases hgt:i2 > j2
 · rw [if_pos hgt]
   have hgt':(i2:Int) > (j2:Int):=by omega
   obtain ⟨t1,t2⟩:=Mz_swap (kd:=.u32) (lo:=min bs.length b) hb (d:=D) (i:=j2) (j:=a) (by omega) (by omega)
   have hK2:Kz b (min bs.length b) D (min (min (min bs.length b) b) b) (swp D j2 a):=.inl (by omega)
   have hsz:(swp D j2 a).size = n:=by rw [swpz_size]; exact hd1
   obtain ⟨lo2,r1,r2⟩:=byRef_z (kd:=.u32) (lo:=lo) (r:=.tup [.d (i64 j2),bl true]) hb rfl (hK.trans hK2)
   refine ⟨lo2,?_,r2,hsz⟩
   rw [Sm_ref s336 x336,hl,hM]
   refine Eq.trans ?_ r1
   congr 1
   generalize d[a]! = x at *
   generalize d[p]! = y at *
   generalize d.setIfInBounds a y = d1 at *
   generalize D[a]! = x2 at *
   generalize D[j2]! = y2 at *
   generalize D.setIfInBounds j2 x2 = d4 at *
   generalize swp D j2 a = d5 at *
   generalize Mz .u32 bs b d bs.length = M0 at *
   generalize hM1:Mz .u32 bs b d1 = M1 at *
   generalize hM2:Mz .u32 bs b D = M2 at *
   generalize hM4:Mz .u32 bs b d4 = M4 at *
   simp (decide:=true) [Bd_mk,q336,ixa,ixp,la,lp,st1,st2,wi,wj,openA,opDE_call,noTr,apartT_mute,Tr.mute,-ldv_ptr,-stv_ptr]
   rw [Cd_keep]
   try simp at u w
   simp [u]
   rw [Cd_keep]
   try simp [-ldv_ptr,-stv_ptr] at t1 t2
   simp (decide:=true) [w,hgt',ixa,ixj,lj,la2,t1,t2,openA,opDE_call,noTr,apartT_mute,Tr.mute,tupOf,-ldv_ptr,-stv_ptr]
 · rw [if_neg hgt]
   have hgt':¬ (i2:Int) > (j2:Int):=by omega
   obtain ⟨i3,hi3⟩:∃ k,i2 + 1 = k:=⟨_,rfl⟩
   obtain ⟨j3,hj3⟩:∃ k,j2 = k + 1:=⟨j2 - 1,by omega⟩
   have wi3:=wadd1 (x:=i2) (k:=i3) hi3 (by omega)
   have wj3:=wsub1 (x:=j2) (k:=j3) hj3 (by omega)
   rw [hi3,show j2 - 1 = j3 by omega]
   have ixi:=ixi (by omega)
   have li:=Mz_ld (kd:=.u32) (lo:=min bs.length b) hb (d:=D) (i:=i2) (by omega)
   obtain ⟨t1,t2⟩:=Mz_swap (kd:=.u32) (lo:=min bs.length b) hb (d:=D) (i:=i2) (j:=j2) (by omega) (by omega)
   obtain ⟨lo1,q1,q2,q3,q4⟩:=part_loop h334 hb hn (a:=a) (by omega) (cap:=cap) (j3 + 1 - i3) i3 j3 (swp D i2 j2) (min bs.length b) (Nat.le_refl _) (by omega) (by omega) (by omega) (by rw [swpz_size]; exact hd1)
   have hK2:Kz b (min bs.length b) D (min bs.length b) (swp D i2 j2):=.inl (by omega)
   generalize hPL:partLoop ltInt a i3 j3 (swp D i2 j2) = PL at *
   obtain ⟨m,PD⟩:=PL
   simp only at q1 q2 q3 q4 ⊢
   have ixm:=fun h=>ixz (b:=b) (n:=n) (cap:=cap) (h:=h) (i:=m) q4
   have lm:=Mz_ld (kd:=.u32) (lo:=lo1) hb (d:=PD) (i:=m) (by omega)
   have la3:=Mz_ld (kd:=.u32) (lo:=lo1) hb (d:=PD) (i:=a) (by omega)
   obtain ⟨v1,v2⟩:=Mz_swap (kd:=.u32) (lo:=lo1) hb (d:=PD) (i:=m) (j:=a) (by omega) (by omega)
   have hsz:(swp PD m a).size = n:=by rw [swpz_size]; exact q3
   have hK3:Kz b lo1 PD (min (min lo1 b) b) (swp PD m a):=.inl (by omega)
   obtain ⟨lo2,r1,r2⟩:=byRef_z (kd:=.u32) (lo:=lo) (r:=.tup [.d (i64 m),bl false]) hb rfl (hK.trans (hK2.trans (q2.trans hK3)))
   refine ⟨lo2,?_,r2,hsz⟩
   rw [Sm_ref s336 x336,hl,hM]
   refine Eq.trans ?_ r1
   congr 1
   clear hPL
   generalize d[a]! = x at *
   generalize d[p]! = y at *
   generalize d.setIfInBounds a y = d1 at *
   generalize D[i2]! = x2 at *
   generalize D[j2]! = y2 at *
   generalize D.setIfInBounds i2 y2 = d4 at *
   generalize swp D i2 j2 = d5 at *
   generalize PD[a]! = x3 at *
   generalize PD[m]! = y3 at *
   generalize PD.setIfInBounds m x3 = d6 at *
   generalize swp PD m a = d7 at *
   generalize Mz .u32 bs b d bs.length = M0 at *
   generalize hM1:Mz .u32 bs b d1 = M1 at *
   generalize hM2:Mz .u32 bs b D = M2 at *
   generalize hM4:Mz .u32 bs b d4 = M4 at *
   generalize hM5:Mz .u32 bs b d5 = M5 at *
   generalize hM6:Mz .u32 bs b d6 = M6 at *
   generalize hM7:Mz .u32 bs b PD = M7 at *
   simp (decide:=true) [Bd_mk,q336,ixa,ixp,la,lp,st1,st2,wi,wj,openA,opDE_call,noTr,apartT_mute,Tr.mute,-ldv_ptr,-stv_ptr]
   rw [Cd_keep]
   try simp at u w
   simp [u]
   rw [Cd_keep]
   try simp [-ldv_ptr,-stv_ptr] at t1 t2
   simp (decide:=true) [w,hgt',ixi,ixj,li,lj,t1,t2,wi3,wj3,openA,opDE_call,noTr,apartT_mute,Tr.mute,-ldv_ptr,-stv_ptr]
   rw [Cd_keep]
   try simp at q1
   simp (decide:=true) [q1,ixm,ixa,lm,la3,v1,v2,openA,opDE_call,noTr,apartT_mute,Tr.mute,tupOf,-ldv_ptr,-stv_ptr]
end
end Go.Proofs.YtegfnefobbgkjaaGreat
namespace Go.Proofs.YtegfnefobbgkjaaGreat
open Go.Sort (swp ltInt scanSorted shiftDown shiftUp partialIns partialInsertionSort)
theorem s333:TS 213 = some q333:=by kernel_rfl
theorem x333:valS 213 = false:=by kernel_rfl
theorem scanSorted_in {d:Array Int} {e:Nat}:∀ (m i:Nat),e - i <= m -> i <= e -> i <= scanSorted ltInt d e i /\ scanSorted ltInt d e i <= e
 | 0,i,hm,hi=>by rw [scanSorted,if_neg (by simp; omega)]; exact ⟨Nat.le_refl _,hi⟩
 | m + 1,i,hm,hi=>by
  rw [scanSorted]
  split
  · rename_i hc
    simp only [Bool.and_eq_true,decide_eq_true_eq] at hc
    have hc1:=hc.1
    have:=scanSorted_in (d:=d) (e:=e) m (i + 1) (by omega) (by omega)
    omega
  · exact ⟨Nat.le_refl _,hi⟩
section
variable {E:Calls'} (h334:∀ x y h,E 214 [.d (u32 x),.d (u32 y)] h = some (bl (ltInt x y),h))
include h334
theorem sc_loop {bs:List Blk} {b:Nat} (hb:b < bs.length) {n e:Nat} (hn:n < 2 ^ 60) (he:e <= n) {cap:Option Nat} (t1 t8:V) (d:Array Int) (lo:Nat) (hd:d.size = n):∀ (m i:Nat),e - i <= m -> 0 < i -> i <= e →
 Cd E TS valS (.loop [0,1,2,7,8] q333_b0) [(0,.row b 0 n cap 1),(1,t1),(2,.d (i64 e)),(7,.d (i64 i)),(8,t8)] (Mz .u32 bs b d lo) = some (.exit 2,[(0,.row b 0 n cap 1),(1,t1),(2,.d (i64 e)),(7,.d (i64 (scanSorted ltInt d e i))),(8,t8)],Mz .u32 bs b d lo):=by
 intro m
 have key:=Cd_round (E:=E) (T:=TS) (val:=valS) [0,1,2,7,8] q333_b0
 generalize Cd E TS valS (.loop [0,1,2,7,8] q333_b0) = W at key ⊢
 induction m with
 | zero =>
  intro i hm h0 hi
  rw [scanSorted,if_neg (by simp; omega),key]
  simp (decide:=true) [q333_b0,openA,noTr,apartT_mute,Tr.mute,show ¬ ((i:Int) < (e:Int)) from by omega]
 | succ m ih =>
  intro i hm h0 hi
  by_cases hij:i < e
  · have hij':(i:Int) < (e:Int):=by omega
    obtain ⟨i0,hi0⟩:∃ k,i = k + 1:=⟨i - 1,by omega⟩
    obtain ⟨i1,hi1⟩:∃ k,i + 1 = k:=⟨_,rfl⟩
    have wi:=wadd1 (x:=i) (k:=i1) hi1 (by omega)
    have w0:=wsub1 (x:=i) (k:=i0) hi0 (by omega)
    have ixi:=fun h=>ixz (b:=b) (n:=n) (cap:=cap) (h:=h) (i:=i) (by omega)
    have ix0:=fun h=>ixz (b:=b) (n:=n) (cap:=cap) (h:=h) (i:=i0) (by omega)
    have li:=Mz_ld (kd:=.u32) (lo:=lo) hb (d:=d) (i:=i) (by omega)
    have l0:=Mz_ld (kd:=.u32) (lo:=lo) hb (d:=d) (i:=i0) (by omega)
    have c:=fun x y h=>Z334 h334 x y h
    have q:=ih i1 (by omega) (by omega) (by omega)
    rw [scanSorted,hi1,show i - 1 = i0 by omega]
    generalize scanSorted ltInt d e i1 = R at *
    generalize d[i0]! = A at *
    generalize d[i]! = X at *
    generalize Mz .u32 bs b d lo = M0 at *
    rw [key]
    cases hc:ltInt X A with
    | true =>
     simp (decide:=true) [q333_b0,openA,opDE_call,noTr,apartT_mute,Tr.mute,ixi,ix0,li,l0,c,hij,hij',hc,wi,w0,-ldv_ptr,-stv_ptr]
    | false =>
     simp (decide:=true) [q333_b0,openA,opDE_call,noTr,apartT_mute,Tr.mute,ixi,ix0,li,l0,c,hij,hij',hc,wi,w0,-ldv_ptr,-stv_ptr]
     simpa using q
  · rw [scanSorted,if_neg (by simp [hij]),key]
    simp (decide:=true) [q333_b0,openA,noTr,apartT_mute,Tr.mute,show ¬ ((i:Int) < (e:Int)) from by omega]
theorem sd_loop {bs:List Blk} {b:Nat} (hb:b < bs.length) {n:Nat} (hn:n < 2 ^ 60) {cap:Option Nat} (t1 t2 t7 t8:V):∀ (j:Nat) (d:Array Int) (lo:Nat),j < n -> d.size = n →
 ∃ lo',Cd E TS valS (.loop [0,1,2,7,8,9] q333_b1) [(0,.row b 0 n cap 1),(1,t1),(2,t2),(7,t7),(8,t8),(9,.d (i64 j))] (Mz .u32 bs b d lo) = some (.exit 4,[(0,.row b 0 n cap 1),(1,t1),(2,t2),(7,t7),(8,t8)],Mz .u32 bs b (shiftDown ltInt j d) lo') /\ Kz b lo d lo' (shiftDown ltInt j d) /\ (shiftDown ltInt j d).size = n:=by
 intro j
 have key:=Cd_round (E:=E) (T:=TS) (val:=valS) [0,1,2,7,8,9] q333_b1
 generalize Cd E TS valS (.loop [0,1,2,7,8,9] q333_b1) = W at key ⊢
 induction j with
 | zero =>
  intro d lo hj hd
  refine ⟨lo,?_,.refl,hd⟩
  rw [key]
  simp (decide:=true) [q333_b1,shiftDown]
 | succ j ih =>
  intro d lo hj hd
  obtain ⟨k,hk⟩:∃ k,j + 1 = k:=⟨_,rfl⟩
  have w0:=wsub1 (x:=k) (k:=j) hk.symm (by omega)
  have ixk:=fun h=>ixz (b:=b) (n:=n) (cap:=cap) (h:=h) (i:=k) (by omega)
  have ixj:=fun h=>ixz (b:=b) (n:=n) (cap:=cap) (h:=h) (i:=j) (by omega)
  have lk:=Mz_ld (kd:=.u32) (lo:=lo) hb (d:=d) (i:=k) (by omega)
  have lj:=Mz_ld (kd:=.u32) (lo:=lo) hb (d:=d) (i:=j) (by omega)
  obtain ⟨st1,st2⟩:=Mz_swap (kd:=.u32) (lo:=lo) hb (d:=d) (i:=k) (j:=j) (by omega) (by omega)
  have c:=fun x y h=>Z334 h334 x y h
  obtain ⟨lo',q1,q2,q3⟩:=ih (swp d k j) (min (min lo b) b) (by omega) (by rw [swpz_size]; exact hd)
  have hk1:(k:Int) >= 1:=by omega
  have hK:Kz b lo d (min (min lo b) b) (swp d k j):=.inl (by omega)
  rw [shiftDown,hk]
  by_cases hc:ltInt d[k]! d[j]! = true
  · rw [if_neg (by simp [hc])]
    refine ⟨lo',?_,hK.trans q2,q3⟩
    generalize shiftDown ltInt j (swp d k j) = D at *
    generalize d[k]! = x at *
    generalize d[j]! = y at *
    generalize d.setIfInBounds k y = d1 at *
    generalize swp d k j = d3 at *
    generalize Mz .u32 bs b d lo = M0 at *
    rw [key]
    generalize hM1:Mz .u32 bs b d1 = M1 at *
    simp (decide:=true) [q333_b1,openA,opDE_call,noTr,apartT_mute,Tr.mute,ixk,ixj,lk,lj,c,hc,w0,hk1,st1,st2,-ldv_ptr,-stv_ptr]
    simpa using q1
  · rw [if_pos (by simp [hc])]
    refine ⟨lo,?_,.refl,hd⟩
    generalize d[k]! = x at *
    generalize d[j]! = y at *
    generalize Mz .u32 bs b d lo = M0 at *
    rw [key]
    simp (decide:=true) [q333_b1,openA,opDE_call,noTr,apartT_mute,Tr.mute,ixk,ixj,lk,lj,c,hc,w0,hk1,-ldv_ptr,-stv_ptr]
theorem su_loop {bs:List Blk} {b:Nat} (hb:b < bs.length) {n e:Nat} (hn:n < 2 ^ 60) (he:e <= n) {cap:Option Nat} (t1 t7 t8:V):∀ (m j:Nat) (d:Array Int) (lo:Nat),e - j <= m -> 0 < j -> j <= e -> d.size = n →
 ∃ lo',Cd E TS valS (.loop [0,1,2,7,8,10] q333_b2) [(0,.row b 0 n cap 1),(1,t1),(2,.d (i64 e)),(7,t7),(8,t8),(10,.d (i64 j))] (Mz .u32 bs b d lo) = some (.exit 6,[(0,.row b 0 n cap 1),(1,t1),(2,.d (i64 e)),(7,t7),(8,t8)],Mz .u32 bs b (shiftUp ltInt e j d) lo') /\ Kz b lo d lo' (shiftUp ltInt e j d) /\ (shiftUp ltInt e j d).size = n:=by
 intro m
 have key:=Cd_round (E:=E) (T:=TS) (val:=valS) [0,1,2,7,8,10] q333_b2
 generalize Cd E TS valS (.loop [0,1,2,7,8,10] q333_b2) = W at key ⊢
 induction m with
 | zero =>
  intro j d lo hm h0 hj hd
  have hu:shiftUp ltInt e j d = d:=by rw [shiftUp,if_neg (by omega)]
  rw [hu]
  refine ⟨lo,?_,.refl,hd⟩
  rw [key]
  simp (decide:=true) [q333_b2,show ¬ ((j:Int) < (e:Int)) from by omega]
 | succ m ih =>
  intro j d lo hm h0 hj hd
  by_cases hje:j < e
  · have hje':(j:Int) < (e:Int):=by omega
    obtain ⟨j0,hj0⟩:∃ k,j = k + 1:=⟨j - 1,by omega⟩
    obtain ⟨j1,hj1⟩:∃ k,j + 1 = k:=⟨_,rfl⟩
    have w1:=wadd1 (x:=j) (k:=j1) hj1 (by omega)
    have w0:=wsub1 (x:=j) (k:=j0) hj0 (by omega)
    have ixj:=fun h=>ixz (b:=b) (n:=n) (cap:=cap) (h:=h) (i:=j) (by omega)
    have ix0:=fun h=>ixz (b:=b) (n:=n) (cap:=cap) (h:=h) (i:=j0) (by omega)
    have lj:=Mz_ld (kd:=.u32) (lo:=lo) hb (d:=d) (i:=j) (by omega)
    have l0:=Mz_ld (kd:=.u32) (lo:=lo) hb (d:=d) (i:=j0) (by omega)
    obtain ⟨st1,st2⟩:=Mz_swap (kd:=.u32) (lo:=lo) hb (d:=d) (i:=j) (j:=j0) (by omega) (by omega)
    have c:=fun x y h=>Z334 h334 x y h
    obtain ⟨lo',q1,q2,q3⟩:=ih j1 (swp d j j0) (min (min lo b) b) (by omega) (by omega) (by omega) (by rw [swpz_size]; exact hd)
    have hK:Kz b lo d (min (min lo b) b) (swp d j j0):=.inl (by omega)
    rw [shiftUp,if_pos hje,hj1,show j - 1 = j0 by omega]
    by_cases hc:ltInt d[j]! d[j0]! = true
    · rw [if_neg (by simp [hc])]
      refine ⟨lo',?_,hK.trans q2,q3⟩
      generalize shiftUp ltInt e j1 (swp d j j0) = D at *
      generalize d[j]! = x at *
      generalize d[j0]! = y at *
      generalize d.setIfInBounds j y = d1 at *
      generalize swp d j j0 = d3 at *
      generalize Mz .u32 bs b d lo = M0 at *
      rw [key]
      generalize hM1:Mz .u32 bs b d1 = M1 at *
      simp (decide:=true) [q333_b2,openA,opDE_call,noTr,apartT_mute,Tr.mute,ixj,ix0,lj,l0,c,hc,w0,w1,hje',st1,st2,-ldv_ptr,-stv_ptr]
      simpa using q1
    · rw [if_pos (by simp [hc])]
      refine ⟨lo,?_,.refl,hd⟩
      generalize d[j]! = x at *
      generalize d[j0]! = y at *
      generalize Mz .u32 bs b d lo = M0 at *
      rw [key]
      simp (decide:=true) [q333_b2,openA,opDE_call,noTr,apartT_mute,Tr.mute,ixj,ix0,lj,l0,c,hc,w0,w1,hje',-ldv_ptr,-stv_ptr]
  · have hu:shiftUp ltInt e j d = d:=by rw [shiftUp,if_neg hje]
    rw [hu]
    refine ⟨lo,?_,.refl,hd⟩
    rw [key]
    simp (decide:=true) [q333_b2,show ¬ ((j:Int) < (e:Int)) from by omega]
def PiOut (r:Bool) (ex:Ex) (e:EA):Prop:=(ex = .ret /\ e = [(6,bl r)]) \/ (ex = .exit 0 /\ e = [] /\ r = false)
theorem pi_loop {bs:List Blk} {b:Nat} (hb:b < bs.length) {n a e:Nat} (hn:n < 2 ^ 60) (ha:a < e) (he:e <= n) {cap:Option Nat}:∀ (s i:Nat) (d:Array Int) (lo:Nat),s <= 5 -> a < i -> i <= e -> d.size = n →
 ∃ lo' ex ev,PiOut (partialIns ltInt a e s i d).2 ex ev /\ Cd E TS valS (.loop [0,1,2,7,8] q333_b3) [(0,.row b 0 n cap 1),(1,.d (i64 a)),(2,.d (i64 e)),(7,.d (i64 i)),(8,.d (i64 ((5 - s:Nat):Int)))] (Mz .u32 bs b d lo) =
  some (ex,ev,Mz .u32 bs b (partialIns ltInt a e s i d).1 lo') /\ Kz b lo d lo' (partialIns ltInt a e s i d).1 /\ (partialIns ltInt a e s i d).1.size = n:=by
 intro s
 have key:=Cd_round (E:=E) (T:=TS) (val:=valS) [0,1,2,7,8] q333_b3
 generalize Cd E TS valS (.loop [0,1,2,7,8] q333_b3) = W at key ⊢
 induction s with
 | zero =>
  intro i d lo hs hi hie hd
  refine ⟨lo,_,_,.inr ⟨rfl,rfl,rfl⟩,?_,.refl,hd⟩
  rw [key]
  simp (decide:=true) [q333_b3,partialIns]
 | succ s ih =>
  intro i d lo hs hi hie hd
  obtain ⟨k,hk⟩:∃ k,5 - (s + 1) = k:=⟨_,rfl⟩
  obtain ⟨k1,hk1⟩:∃ j,5 - s = j:=⟨_,rfl⟩
  have wk:=wadd1 (x:=k) (k:=k1) (by omega) (by omega)
  have hk5:(k:Int) < 5:=by omega
  have u:=sc_loop h334 hb hn he (cap:=cap) (.d (i64 a)) (.d (i64 k)) d lo hd (e - i) i (Nat.le_refl _) (by omega) hie
  obtain ⟨u1,u2⟩:=scanSorted_in (d:=d) (e:=e) (e - i) i (Nat.le_refl _) hie
  simp only [partialIns]
  rw [hk]
  generalize scanSorted ltInt d e i = i2 at *
  by_cases h1:i2 = e
  · subst h1
    rw [if_pos rfl]
    refine ⟨lo,_,_,.inl ⟨rfl,rfl⟩,?_,.refl,hd⟩
    generalize Mz .u32 bs b d lo = M0 at *
    rw [key]
    simp (decide:=true) [q333_b3,hk5]
    rw [Cd_keep]
    try simp at u
    simp [u]
  rw [if_neg h1]
  have h1':¬ (i2:Int) = (e:Int):=by omega
  obtain ⟨l,hl⟩:∃ j,e - a = j:=⟨_,rfl⟩
  have wl:=wsub (x:=e) (y:=a) (k:=l) (by omega) (by omega)
  by_cases h2:l < 50
  · have h2':(l:Int) < 50:=by omega
    rw [if_pos (by omega)]
    refine ⟨lo,_,_,.inl ⟨rfl,rfl⟩,?_,.refl,hd⟩
    generalize Mz .u32 bs b d lo = M0 at *
    rw [key]
    simp (decide:=true) [q333_b3,hk5]
    rw [Cd_keep]
    try simp at u
    simp [u,h1,h1',wl,h2',h2]
  have h2':¬ (l:Int) < 50:=by omega
  rw [if_neg (by omega)]
  obtain ⟨i0,hi0⟩:∃ j,i2 = j + 1:=⟨i2 - 1,by omega⟩
  obtain ⟨i3,hi3⟩:∃ j,i2 + 1 = j:=⟨_,rfl⟩
  obtain ⟨p,hp⟩:∃ j,i2 - a = j:=⟨_,rfl⟩
  obtain ⟨q,hq⟩:∃ j,e - i2 = j:=⟨_,rfl⟩
  have w0:=wsub1 (x:=i2) (k:=i0) hi0 (by omega)
  have w3:=wadd1 (x:=i2) (k:=i3) hi3 (by omega)
  have wp:=wsub (x:=i2) (y:=a) (k:=p) (by omega) (by omega)
  have wq:=wsub (x:=e) (y:=i2) (k:=q) (by omega) (by omega)
  rw [show i2 - 1 = i0 by omega,hi3,hp,hq]
  have ix2:=fun h=>ixz (b:=b) (n:=n) (cap:=cap) (h:=h) (i:=i2) (by omega)
  have ix0:=fun h=>ixz (b:=b) (n:=n) (cap:=cap) (h:=h) (i:=i0) (by omega)
  have l2:=Mz_ld (kd:=.u32) (lo:=lo) hb (d:=d) (i:=i2) (by omega)
  have l0:=Mz_ld (kd:=.u32) (lo:=lo) hb (d:=d) (i:=i0) (by omega)
  obtain ⟨st1,st2⟩:=Mz_swap (kd:=.u32) (lo:=lo) hb (d:=d) (i:=i2) (j:=i0) (by omega) (by omega)
  have hsz:(swp d i2 i0).size = n:=by rw [swpz_size]; exact hd
  have hK:Kz b lo d (min lo b) (swp d i2 i0):=.inl (by omega)
  generalize swp d i2 i0 = dS at *
  generalize d[i2]! = x at *
  generalize d[i0]! = y at *
  generalize d.setIfInBounds i2 y = d1 at *
  generalize Mz .u32 bs b d lo = M0 at *
  by_cases hp2:p >= 2
  · have hp2':(p:Int) >= 2:=by omega
    rw [if_pos hp2]
    obtain ⟨loA,a1,a2,a3⟩:=sd_loop h334 hb hn (cap:=cap) (.d (i64 a)) (.d (i64 e)) (.d (i64 i2)) (.d (i64 k)) i0 dS (min lo b) (by omega) hsz
    generalize shiftDown ltInt i0 dS = dA at *
    by_cases hq2:q >= 2
    · have hq2':(q:Int) >= 2:=by omega
      rw [if_pos hq2]
      obtain ⟨loB,b1,b2,b3⟩:=su_loop h334 hb hn he (cap:=cap) (.d (i64 a)) (.d (i64 i2)) (.d (i64 k)) (e - i3) i3 dA loA (Nat.le_refl _) (by omega) (by omega) a3
      generalize shiftUp ltInt e i3 dA = dB at *
      obtain ⟨lo',ex,ev,r0,r1,r2,r3⟩:=ih i2 dB loB (by omega) (by omega) (by omega) b3
      refine ⟨lo',ex,ev,r0,?_,hK.trans (a2.trans (b2.trans r2)),r3⟩
      rw [hk1] at r1
      rw [key]
      generalize hM1:Mz .u32 bs b d1 = M1 at *
      simp (decide:=true) [q333_b3,hk5]
      rw [Cd_keep]
      try simp at u
      try simp [-ldv_ptr,-stv_ptr] at st2
      simp (decide:=true) [u,h1,h1',wl,h2',h2,w0,w3,wp,wq,ix2,ix0,l2,l0,st1,st2,hp2,hp2',openA,opDE_call,noTr,apartT_mute,Tr.mute,-ldv_ptr,-stv_ptr]
      rw [Cd_keep]
      try simp at a1
      simp (decide:=true) [a1,w3,wq,hq2,hq2']
      rw [Cd_keep]
      try simp at b1
      simp [b1,wk]
      simpa using r1
    · have hq2':¬ (q:Int) >= 2:=by omega
      rw [if_neg hq2]
      obtain ⟨lo',ex,ev,r0,r1,r2,r3⟩:=ih i2 dA loA (by omega) (by omega) (by omega) a3
      refine ⟨lo',ex,ev,r0,?_,hK.trans (a2.trans r2),r3⟩
      rw [hk1] at r1
      rw [key]
      generalize hM1:Mz .u32 bs b d1 = M1 at *
      simp (decide:=true) [q333_b3,hk5]
      rw [Cd_keep]
      try simp at u
      try simp [-ldv_ptr,-stv_ptr] at st2
      simp (decide:=true) [u,h1,h1',wl,h2',h2,w0,w3,wp,wq,ix2,ix0,l2,l0,st1,st2,hp2,hp2',openA,opDE_call,noTr,apartT_mute,Tr.mute,-ldv_ptr,-stv_ptr]
      rw [Cd_keep]
      try simp at a1
      simp (decide:=true) [a1,w3,wq,hq2,hq2',wk]
      simpa using r1
  · have hp2':¬ (p:Int) >= 2:=by omega
    rw [if_neg hp2]
    by_cases hq2:q >= 2
    · have hq2':(q:Int) >= 2:=by omega
      rw [if_pos hq2]
      obtain ⟨loB,b1,b2,b3⟩:=su_loop h334 hb hn he (cap:=cap) (.d (i64 a)) (.d (i64 i2)) (.d (i64 k)) (e - i3) i3 dS (min lo b) (Nat.le_refl _) (by omega) (by omega) hsz
      generalize shiftUp ltInt e i3 dS = dB at *
      obtain ⟨lo',ex,ev,r0,r1,r2,r3⟩:=ih i2 dB loB (by omega) (by omega) (by omega) b3
      refine ⟨lo',ex,ev,r0,?_,hK.trans (b2.trans r2),r3⟩
      rw [hk1] at r1
      rw [key]
      generalize hM1:Mz .u32 bs b d1 = M1 at *
      simp (decide:=true) [q333_b3,hk5]
      rw [Cd_keep]
      try simp at u
      try simp [-ldv_ptr,-stv_ptr] at st2
      simp (decide:=true) [u,h1,h1',wl,h2',h2,w0,w3,wp,wq,ix2,ix0,l2,l0,st1,st2,hp2,hp2',hq2,hq2',openA,opDE_call,noTr,apartT_mute,Tr.mute,-ldv_ptr,-stv_ptr]
      rw [Cd_keep]
      try simp at b1
      simp [b1,wk]
      simpa using r1
    · have hq2':¬ (q:Int) >= 2:=by omega
      rw [if_neg hq2]
      obtain ⟨lo',ex,ev,r0,r1,r2,r3⟩:=ih i2 dS (min lo b) (by omega) (by omega) (by omega) hsz
      refine ⟨lo',ex,ev,r0,?_,hK.trans r2,r3⟩
      rw [hk1] at r1
      rw [key]
      generalize hM1:Mz .u32 bs b d1 = M1 at *
      simp (decide:=true) [q333_b3,hk5]
      rw [Cd_keep]
      try simp at u
      try simp [-ldv_ptr,-stv_ptr] at st2
      simp (decide:=true) [u,h1,h1',wl,h2',h2,w0,w3,wp,wq,ix2,ix0,l2,l0,st1,st2,hp2,hp2',hq2,hq2',wk,openA,opDE_call,noTr,apartT_mute,Tr.mute,-ldv_ptr,-stv_ptr]
      simpa using r1
theorem S333 {bs:List Blk} {b:Nat} (hb:b < bs.length) {n a e:Nat} (hn:n < 2 ^ 60) (ha:a < e) (he:e <= n) {cap:Option Nat} (d:Array Int) (lo:Nat) (hd:d.size = n) :
 ∃ lo',Sm E TS valS 213 [.row b 0 n cap 1,.d (i64 a),.d (i64 e)] (Mz .u32 bs b d lo) = some (bl (partialInsertionSort ltInt d a e).2,Mz .u32 bs b (partialInsertionSort ltInt d a e).1 lo') /\ Kz b lo d lo' (partialInsertionSort ltInt d a e).1 /\ (partialInsertionSort ltInt d a e).1.size = n:=by
 obtain ⟨i,hi⟩:∃ k,a + 1 = k:=⟨_,rfl⟩
 have wi:=wadd1 (x:=a) (k:=i) hi (by omega)
 have hM:(⟨(Mz .u32 bs b d lo).bs,bs.length⟩:Hp) = Mz .u32 bs b d bs.length:=rfl
 have hl:(Mz .u32 bs b d lo).bs.length = bs.length:=by simp [Mz,Mr]
 obtain ⟨lo1,ex,ev,q0,q1,q2,q3⟩:=pi_loop h334 hb hn ha he (cap:=cap) 5 i d bs.length (Nat.le_refl _) (by omega) (by omega) hd
 have hS:partialInsertionSort ltInt d a e = partialIns ltInt a e 5 i d:=by unfold partialInsertionSort; rw [hi]
 rw [hS]
 generalize partialIns ltInt a e 5 i d = R at *
 obtain ⟨D,r⟩:=R
 simp only at *
 obtain ⟨lo2,r1,r2⟩:=byRef_z (kd:=.u32) (lo:=lo) (r:=bl r) hb rfl q2
 refine ⟨lo2,?_,r2,q3⟩
 rw [Sm_ref s333 x333,hl,hM]
 refine Eq.trans ?_ r1
 congr 1
 generalize Mz .u32 bs b d bs.length = M0 at *
 generalize Mz .u32 bs b D lo1 = M1 at *
 simp [Bd_mk,q333,wi]
 rw [Cd_keep]
 try simp at q1
 rcases q0 with ⟨rfl,rfl⟩ | ⟨rfl,rfl,rfl⟩ <;> simp [q1,tupOf]
end
end Go.Proofs.YtegfnefobbgkjaaGreat
namespace Go.Proofs.YtegfnefobbgkjaaGreat
open Go.Sort (swp ltInt PermIn permIn_trans permIn_refl swp_permIn)
theorem s330:TS 210 = some q330:=by kernel_rfl
theorem x330:valS 210 = false:=by kernel_rfl
theorem s375:TS 247 = some q375:=by kernel_rfl
theorem x375:valS 247 = true:=by kernel_rfl
theorem s376:TS 248 = some q376:=by kernel_rfl
theorem x376:valS 248 = false:=by kernel_rfl
theorem s241:TS 131 = none:=by kernel_rfl
theorem xor_some (k:IntKind) (a b:Int):∃ y,binD .xor (.d (.int k a)) (.d (.int k b)) = some (.int k y):=⟨k.wrap ((BitVec.ofInt k.bits a ^^^ BitVec.ofInt k.bits b).toNat),by simp [binD,binInt]⟩
theorem shl_some (k k':IntKind) (a:Int) {b:Int} (hb:0 <= b):∃ y,binD .shl (.d (.int k a)) (.d (.int k' b)) = some (.int k y):=⟨k.wrap (a * 2 ^ (min b.toNat k.bits)),by simp [binD,show ¬ b < 0 by omega]⟩
theorem shr_some (k k':IntKind) (a:Int) {b:Int} (hb:0 <= b):∃ y,binD .shr (.d (.int k a)) (.d (.int k' b)) = some (.int k y):=⟨a.fdiv (2 ^ (min b.toNat k.bits)),by simp [binD,show ¬ b < 0 by omega]⟩
theorem and_some (x:Int) {k:Nat} (hk:k < 2 ^ 62):∃ y:Nat,y <= k /\ binD .and (.d (.int .u64 x)) (.d (.int .u64 k)) = some (.int .u64 y):=by
 have h1:(BitVec.ofInt 64 x &&& BitVec.ofInt 64 (k:Int)).toNat <= k:=by
  rw [BitVec.toNat_and]
  have h2:(BitVec.ofInt 64 (k:Int)).toNat = k:=by
   rw [BitVec.toNat_ofInt]
   omega
  rw [h2]
  exact Nat.and_le_right
 refine ⟨_,h1,?_⟩
 simp only [binD,if_true,binInt]
 congr 2
 generalize hy:(BitVec.ofInt 64 x &&& BitVec.ofInt 64 (k:Int)).toNat = y at *
 have:(BitVec.ofInt IntKind.u64.bits x &&& BitVec.ofInt IntKind.u64.bits (k:Int)).toNat = y:=hy
 rw [this]
 simp [IntKind.wrap,IntKind.bits,IntKind.signed]
 omega
abbrev Mx (bs:List Blk) (b:Nat) (d:Array Int) (s:Int) (lo:Nat):Hp:=Mz .u32 (bs ++ [.cells [.d (u64 s)]]) b d lo
theorem Mx_len {bs:List Blk} {b:Nat} {d:Array Int} {s:Int} {lo:Nat}:(Mx bs b d s lo).bs.length = bs.length + 1:=by simp [Mx,Mz,Mr]
theorem Mx_get {bs:List Blk} {b:Nat} (hb:b < bs.length) {d:Array Int} {s:Int} {lo:Nat}:getB (Mx bs b d s lo).bs bs.length = some [.d (u64 s)]:=by
 simp only [Mx,Mz,Mr,getB]
 rw [List.getElem?_set_ne (by omega)]
 simp
theorem Mx_ld {bs:List Blk} {b:Nat} (hb:b < bs.length) {d:Array Int} {s:Int} {lo:Nat}:ldv (Mx bs b d s lo) (.ptr bs.length 0) 1 true = some (.d (u64 s),Mx bs b d s lo):=by
 have h:=Mx_get hb (d:=d) (s:=s) (lo:=lo)
 generalize Mx bs b d s lo = M at *
 simp [h]
theorem Mx_st {bs:List Blk} {b:Nat} (hb:b < bs.length) {d:Array Int} {s t:Int} {lo:Nat}:stv (Mx bs b d s lo) (.ptr bs.length 0) (.d (u64 t)) 1 = some (.undef,Mx bs b d t (min lo bs.length)):=by
 have h:=Mx_get hb (d:=d) (s:=s) (lo:=lo)
 have hs:(Mx bs b d s lo).set bs.length [.d (u64 t)] = Mx bs b d t (min lo bs.length):=by
  simp only [Mx,Mz,Mr,Hp.set]
  congr 1
  rw [List.set_comm _ _ (by omega)]
  congr 1
  simp
 rw [← hs]
 generalize Mx bs b d s lo = M at *
 simp [h]
section
variable {E:Calls'} (h241:∀ x h,E 131 [.d (u64 x)] h = some (.d (i64 (len64 x)),h))
theorem S376 {bs:List Blk} {b:Nat} (hb:b < bs.length) (d:Array Int) (r:Int) (lo:Nat):∃ r',Sm E TS valS 248 [.ptr bs.length 0] (Mx bs b d r lo) = some (.d (u64 r'),Mx bs b d r' (min lo bs.length)):=by
 obtain ⟨y1,e1⟩:=shl_some .u64 .u64 r (b:=13) (by decide)
 obtain ⟨z1,g1⟩:=xor_some .u64 r y1
 obtain ⟨y2,e2⟩:=shr_some .u64 .u64 z1 (b:=7) (by decide)
 obtain ⟨z2,g2⟩:=xor_some .u64 z1 y2
 obtain ⟨y3,e3⟩:=shl_some .u64 .u64 z2 (b:=17) (by decide)
 obtain ⟨z3,g3⟩:=xor_some .u64 z2 y3
 have hl:=Mx_len (bs:=bs) (b:=b) (d:=d) (s:=r) (lo:=lo)
 have hM:(⟨(Mx bs b d r lo).bs,bs.length + 1⟩:Hp) = Mx bs b d r (bs.length + 1):=rfl
 have l0:=Mx_ld hb (d:=d) (s:=r) (lo:=bs.length + 1)
 have s1:=Mx_st hb (d:=d) (s:=r) (t:=z1) (lo:=bs.length + 1)
 have hm:min (bs.length + 1) bs.length = bs.length:=by omega
 rw [hm] at s1
 have l1:=Mx_ld hb (d:=d) (s:=z1) (lo:=bs.length)
 have s2:=Mx_st hb (d:=d) (s:=z1) (t:=z2) (lo:=bs.length)
 rw [Nat.min_self] at s2
 have l2:=Mx_ld hb (d:=d) (s:=z2) (lo:=bs.length)
 have s3:=Mx_st hb (d:=d) (s:=z2) (t:=z3) (lo:=bs.length)
 rw [Nat.min_self] at s3
 have l3:=Mx_ld hb (d:=d) (s:=z3) (lo:=bs.length)
 refine ⟨z3,?_⟩
 have hbr:byRef (Mx bs b d r lo) (some (.d (u64 z3),Mx bs b d z3 bs.length)) = some (.d (u64 z3),Mx bs b d z3 (min lo bs.length)):=by
  rw [byRef_s,hl,if_neg (fun hh=>by have:=hh.1; simp only [Mx,Mz,Mr] at this; omega)]
  rfl
 rw [Sm_ref s376 x376,hl,hM]
 refine Eq.trans ?_ hbr
 congr 1
 generalize Mx bs b d r (bs.length + 1) = M0 at *
 generalize Mx bs b d z1 bs.length = M1 at *
 generalize Mx bs b d z2 bs.length = M2 at *
 generalize Mx bs b d z3 bs.length = M3 at *
 simp (decide:=true) [Bd_mk,q376,l0,l1,l2,l3,s1,s2,s3,e1,e2,e3,g1,g2,g3,openA,noTr,apartT_mute,Tr.mute,tupOf,-ldv_ptr,-stv_ptr]
include h241
theorem S375 {l:Nat} (h0:0 < l) (hl:l < 2 ^ 60):∃ m:Nat,l < m /\ m <= 2 * l /\ ∀ h,Sm E TS valS 247 [.d (i64 l)] h = some (.d (u64 m),h):=by
 obtain ⟨a0,a1,a2⟩:=len64_ok (x:=(l:Int)) (by omega) (by omega)
 have a2:=a2 (by omega)
 obtain ⟨k,hk⟩:∃ k:Nat,len64 l = k:=⟨(len64 l).toNat,by omega⟩
 have hkn:(len64 l).toNat = k:=by omega
 rw [hkn] at a1 a2
 have hp:(2:Int) ^ k = ((2 ^ k:Nat):Int):=by simp
 rw [hp] at a1 a2
 refine ⟨2 ^ k,by omega,by omega,fun h=>?_⟩
 have hk63:k < 64:=by
  have:=Nat.pow_lt_pow_iff_right (a:=2) (n:=k) (m:=64) (by decide)
  exact this.1 (by omega)
 have hw:IntKind.wrap .u64 (l:Int) = (l:Int):=by simp [IntKind.wrap,IntKind.bits,IntKind.signed]; omega
 have hs:binD .shl (.d (.int .u64 1)) (.d (.int .i64 (k:Int))) = some (.int .u64 ((2 ^ k:Nat):Int)):=by
  have hmin:min k 64 = k:=by omega
  simp only [binD,show ¬ ((k:Int) < 0) by omega,if_false,Int.toNat_natCast,show IntKind.u64.bits = 64 from rfl,hmin]
  congr 2
  rw [hp]
  generalize 2 ^ k = m at *
  simp [IntKind.wrap,IntKind.bits,IntKind.signed]; omega
 have n241:∀ x h,Sm E TS valS 131 [.d (u64 x)] h = some (.d (i64 (len64 x)),h):=fun x h=>by rw [Sm_ext s241]; exact h241 x h
 rw [Sm_v s375 x375]
 generalize 2 ^ k = m at *
 simp (decide:=true) [Bd_mk,q375,hw,n241,hk,hs]
omit h241 in
theorem bp_loop {bs:List Blk} {b:Nat} (hb:b < bs.length) {n a l m:Nat} (hn:n < 2 ^ 60) (hl:8 <= l) (hal:a + l <= n) (hm0:l < m) (hm:m <= 2 * l) {cap:Option Nat}:∀ (k i:Nat) (d:Array Int) (r:Int) (lo:Nat),i + k = a + l / 4 * 2 + 2 -> a <= i -> d.size = n →
 ∃ d' r' lo',Cd E TS valS (.loop [0,1,6,7,8,9] q330_b0) [(0,.row b 0 n cap 1),(1,.d (i64 a)),(6,.d (i64 l)),(7,.ptr bs.length 0),(8,.d (u64 m)),(9,.d (i64 i))] (Mx bs b d r lo) = some (.exit 0,[],Mx bs b d' r' lo') /\ PermIn a (a + l) d d' /\ (lo' <= b \/ k = 0):=by
 intro k
 have key:=Cd_round (E:=E) (T:=TS) (val:=valS) [0,1,6,7,8,9] q330_b0
 generalize Cd E TS valS (.loop [0,1,6,7,8,9] q330_b0) = W at key ⊢
 obtain ⟨q,hq⟩:∃ j,l / 4 = j:=⟨_,rfl⟩
 obtain ⟨q2,hq2⟩:∃ j,q * 2 = j:=⟨_,rfl⟩
 obtain ⟨t,ht⟩:∃ j,a + q2 = j:=⟨_,rfl⟩
 obtain ⟨t1,ht1⟩:∃ j,t + 1 = j:=⟨_,rfl⟩
 have wq:binD .quo (.d (.int .i64 l)) (.d (.int .i64 4)) = some (.int .i64 q):=quo_nat (x:=l) (y:=4) (z:=q) (by decide) hq (by omega)
 have w2:IntKind.wrap .i64 ((q:Int) * 2) = (q2:Int):=wmul (x:=q) (y:=2) hq2 (by omega)
 have wt:=wadd (x:=a) (y:=q2) ht (by omega)
 have wt1:=wadd1 (x:=t) (k:=t1) ht1 (by omega)
 rw [hq,hq2]
 induction k with
 | zero =>
  intro i d r lo hik hai hd
  refine ⟨d,r,lo,?_,permIn_refl _ _ _,.inr rfl⟩
  rw [key]
  simp (decide:=true) [q330_b0,wq,w2,wt,wt1,show ¬ ((i:Int) <= (t1:Int)) from by omega]
 | succ k ih =>
  intro i d r lo hik hai hd
  obtain ⟨r1,n1⟩:=S376 (E:=E) hb d r lo
  obtain ⟨m1,hm1⟩:∃ j,m = j + 1:=⟨m - 1,by omega⟩
  have wm:IntKind.wrap .u64 ((m:Int) - 1) = (m1:Int):=by simp [IntKind.wrap,IntKind.bits,IntKind.signed]; omega
  obtain ⟨y,hy,ey⟩:=and_some r1 (k:=m1) (by omega)
  have wy:IntKind.wrap .i64 (y:Int) = (y:Int):=by rw [wrap64] <;> omega
  have hbl:b < (bs ++ [Blk.cells [.d (u64 r1)]]).length:=by simp; omega
  have hit:(i:Int) <= (t1:Int):=by omega
  have ixi:=fun h=>ixz (b:=b) (n:=n) (cap:=cap) (h:=h) (i:=i) (by omega)
  obtain ⟨i1,hi1⟩:∃ j,i + 1 = j:=⟨_,rfl⟩
  have wi:=wadd1 (x:=i) (k:=i1) hi1 (by omega)
  have go:∀ o:Nat,o < l -> ∃ d' r' lo',(∃ M1,stv (Mx bs b d r1 (min lo bs.length)) (.ptr b i) (.d (.int .u32 d[a + o]!)) 1 = some (.undef,M1) /\ stv M1 (.ptr b (a + o)) (.d (.int .u32 d[i]!)) 1 = some (.undef,Mx bs b (swp d i (a + o)) r1 (min lo b))) ∧
   W [(0,.row b 0 n cap 1),(1,.d (i64 a)),(6,.d (i64 l)),(7,.ptr bs.length 0),(8,.d (u64 m)),(9,.d (i64 i1))] (Mx bs b (swp d i (a + o)) r1 (min lo b)) = some (.exit 0,[],Mx bs b d' r' lo') /\ PermIn a (a + l) d d' /\ lo' <= b:=by
   intro o ho
   obtain ⟨d',r',lo',c1,c2,c3⟩:=ih i1 (swp d i (a + o)) r1 (min lo b) (by omega) (by omega) (by rw [swpz_size]; exact hd)
   obtain ⟨st1,st2⟩:=Mz_swap (kd:=.u32) (lo:=min lo bs.length) hbl (d:=d) (i:=i) (j:=a + o) (by omega) (by omega)
   have hmin:min (min (min lo bs.length) b) b = min lo b:=by omega
   have st2:=st2 (min (min lo bs.length) b)
   rw [hmin] at st2
   refine ⟨d',r',lo',⟨_,st1,st2⟩,c1,permIn_trans _ _ _ _ _ (swp_permIn _ _ _ _ _ hai (by omega) (by omega) (by omega) (by omega)) c2,?_⟩
   rcases c3 with c3 | rfl
   · exact c3
   · have hid:=c1
     rw [key] at hid
     simp (decide:=true) [q330_b0,wq,w2,wt,wt1,show ¬ ((i1:Int) <= (t1:Int)) from by omega] at hid
     have hlow:=congrArg Hp.low hid
     simp only [Mx,Mz,Mr] at hlow
     omega
  by_cases hyl:y >= l
  · have hyl':(y:Int) >= (l:Int):=by omega
    obtain ⟨o,ho⟩:∃ j,y = j + l:=⟨y - l,by omega⟩
    have wo:=wsub (x:=y) (y:=l) (k:=o) ho (by omega)
    obtain ⟨d',r',lo',⟨M1,st1,st2⟩,c1,c2,c3⟩:=go o (by omega)
    obtain ⟨ao,hao⟩:∃ j,a + o = j:=⟨_,rfl⟩
    have wa:=wadd (x:=a) (y:=o) hao (by omega)
    have ixo:=fun h=>ixz (b:=b) (n:=n) (cap:=cap) (h:=h) (i:=ao) (by omega)
    have li:ldv (Mx bs b d r1 (min lo bs.length)) (.ptr b i) 1 true = some (.d (.int .u32 d[i]!),Mx bs b d r1 (min lo bs.length)):=Mz_ld (kd:=.u32) hbl (d:=d) (i:=i) (by omega)
    have lo2:ldv (Mx bs b d r1 (min lo bs.length)) (.ptr b ao) 1 true = some (.d (.int .u32 d[ao]!),Mx bs b d r1 (min lo bs.length)):=Mz_ld (kd:=.u32) hbl (d:=d) (i:=ao) (by omega)
    rw [hao] at st1 st2 c1
    refine ⟨d',r',lo',?_,c2,.inl c3⟩
    generalize d[i]! = X at *
    generalize d[ao]! = Y at *
    generalize swp d i ao = d3 at *
    generalize Mx bs b d r1 (min lo bs.length) = N1 at *
    generalize Mx bs b d r lo = N0 at *
    generalize Mx bs b d3 r1 (min lo b) = N3 at *
    rw [key]
    simp (decide:=true) [q330_b0,wq,w2,wt,wt1,hit,n1,wm,ey,wy,hyl,hyl',wo,wa,ixi,ixo,li,lo2,st1,st2,wi,openA,opDE_call,noTr,apartT_mute,Tr.mute,-ldv_ptr,-stv_ptr]
    simpa using c1
  · have hyl':¬ (y:Int) >= (l:Int):=by omega
    obtain ⟨d',r',lo',⟨M1,st1,st2⟩,c1,c2,c3⟩:=go y (by omega)
    obtain ⟨ao,hao⟩:∃ j,a + y = j:=⟨_,rfl⟩
    have wa:=wadd (x:=a) (y:=y) hao (by omega)
    have ixo:=fun h=>ixz (b:=b) (n:=n) (cap:=cap) (h:=h) (i:=ao) (by omega)
    have li:ldv (Mx bs b d r1 (min lo bs.length)) (.ptr b i) 1 true = some (.d (.int .u32 d[i]!),Mx bs b d r1 (min lo bs.length)):=Mz_ld (kd:=.u32) hbl (d:=d) (i:=i) (by omega)
    have lo2:ldv (Mx bs b d r1 (min lo bs.length)) (.ptr b ao) 1 true = some (.d (.int .u32 d[ao]!),Mx bs b d r1 (min lo bs.length)):=Mz_ld (kd:=.u32) hbl (d:=d) (i:=ao) (by omega)
    rw [hao] at st1 st2 c1
    refine ⟨d',r',lo',?_,c2,.inl c3⟩
    generalize d[i]! = X at *
    generalize d[ao]! = Y at *
    generalize swp d i ao = d3 at *
    generalize Mx bs b d r1 (min lo bs.length) = N1 at *
    generalize Mx bs b d r lo = N0 at *
    generalize Mx bs b d3 r1 (min lo b) = N3 at *
    rw [key]
    simp (decide:=true) [q330_b0,wq,w2,wt,wt1,hit,n1,wm,ey,wy,hyl,hyl',wa,ixi,ixo,li,lo2,st1,st2,wi,openA,opDE_call,noTr,apartT_mute,Tr.mute,-ldv_ptr,-stv_ptr]
    simpa using c1
end
end Go.Proofs.YtegfnefobbgkjaaGreat
namespace Go.Proofs.YtegfnefobbgkjaaGreat
open Go.Sort (swp ltInt PermIn permIn_trans permIn_refl)
section
variable {E:Calls'} (h241:∀ x h,E 131 [.d (u64 x)] h = some (.d (i64 (len64 x)),h))
include h241
theorem S330 {bs:List Blk} {b:Nat} (hb:b < bs.length) {n a e:Nat} (hn:n < 2 ^ 59) (ha:a + 12 < e) (he:e <= n) {cap:Option Nat} (d:Array Int) (lo:Nat) (hd:d.size = n) :
 ∃ ys d' lo',Sm E TS valS 210 [.row b 0 n cap 1,.d (i64 a),.d (i64 e)] (Mz .u32 bs b d lo) = some (.tup [],Mz .u32 (bs ++ ys) b d' lo') /\ PermIn a e d d' /\ lo' <= b:=by
 obtain ⟨l,hl⟩:∃ j,e - a = j:=⟨_,rfl⟩
 obtain ⟨q,hq⟩:∃ j,l / 4 = j:=⟨_,rfl⟩
 obtain ⟨q2,hq2⟩:∃ j,q * 2 = j:=⟨_,rfl⟩
 obtain ⟨t,ht⟩:∃ j,a + q2 = j:=⟨_,rfl⟩
 obtain ⟨i,hi⟩:∃ j,t = j + 1:=⟨t - 1,by omega⟩
 have wl:=wsub (x:=e) (y:=a) (k:=l) (by omega) (by omega)
 have wu:IntKind.wrap .u64 (l:Int) = (l:Int):=by simp [IntKind.wrap,IntKind.bits,IntKind.signed]; omega
 have wq:binD .quo (.d (.int .i64 l)) (.d (.int .i64 4)) = some (.int .i64 q):=quo_nat (x:=l) (y:=4) (z:=q) (by decide) hq (by omega)
 have w2:IntKind.wrap .i64 ((q:Int) * 2) = (q2:Int):=wmul (x:=q) (y:=2) hq2 (by omega)
 have wt:=wadd (x:=a) (y:=q2) ht (by omega)
 have wi:=wsub1 (x:=t) (k:=i) hi (by omega)
 obtain ⟨m,hm0,hm1,n375⟩:=S375 h241 (l:=l) (by omega) (by omega)
 obtain ⟨d',r',lo1,c1,c2,c3⟩:=bp_loop (E:=E) hb (n:=n) (a:=a) (l:=l) (m:=m) (by omega) (by omega) (by omega) hm0 hm1 (cap:=cap) 3 i d l bs.length (by omega) (by omega) hd
 have c3:lo1 <= b:=by omega
 rw [show a + l = e by omega] at c2
 have hM:(⟨(Mz .u32 bs b d lo).bs,bs.length⟩:Hp) = Mz .u32 bs b d bs.length:=rfl
 have hlen:(Mz .u32 bs b d lo).bs.length = bs.length:=by simp [Mz,Mr]
 have hlen0:(Mz .u32 bs b d bs.length).bs.length = bs.length:=by simp [Mz,Mr]
 have hnew:(Mz .u32 bs b d bs.length).alloc [.d (.int .u64 0)] = Mx bs b d 0 bs.length:=by
  simp only [Mx,Mz,Mr,Hp.alloc]
  congr 1
  rw [List.set_append_left _ _ (by simpa using hb)]
 have hst:=Mx_st hb (d:=d) (s:=0) (t:=(l:Int)) (lo:=bs.length)
 rw [Nat.min_self] at hst
 refine ⟨[.cells [.d (u64 r')]],d',min lo lo1,?_,c2,by omega⟩
 have hbr:byRef (Mz .u32 bs b d lo) (some (.tup [],Mx bs b d' r' lo1)) = some (.tup [],Mz .u32 (bs ++ [.cells [.d (u64 r')]]) b d' (min lo lo1)):=by
  rw [byRef_s,hlen,if_neg (fun hh=>by have:=hh.1; simp only [Mx,Mz,Mr] at this; omega)]
  rfl
 rw [Sm_ref s330 x330,hlen,hM]
 refine Eq.trans ?_ hbr
 congr 1
 generalize Mz .u32 bs b d bs.length = M0 at *
 generalize Mx bs b d 0 bs.length = M1 at *
 generalize Mx bs b d (l:Int) bs.length = M2 at *
 generalize Mx bs b d' r' lo1 = M3 at *
 simp (decide:=true) [Bd_mk,q330,wl,wu,show (l:Int) >= 8 from by omega,hlen0,hnew,hst,n375,wq,w2,wt,wi,openA,opDE_call,noTr,apartT_mute,Tr.mute,-ldv_ptr,-stv_ptr]
 rw [Cd_keep]
 try simp at c1
 simp [c1]
 rfl
end
end Go.Proofs.YtegfnefobbgkjaaGreat
namespace Go.Proofs.YtegfnefobbgkjaaGreat
open Go.Sort (swp ltInt PermIn SortedIn Below SWO permIn_trans permIn_refl partition partitionEqual partialInsertionSort choosePivot reverseRange round_eq round_part partition_holds partitionEqual_holds Hint)
def pdq7:QC:=(.seq (.seq (.reg (some [[],[0],[1,0],[2,1,0],[2,1,0],[4,2,1,0],[3,5,4,2,1,0],[6,3,5,4,2,1,0],[2,1,0],[2,1,0],[8,9,2,1,0],[10,8,9,2,1,0],[7,6,3,5,4,11,10,8,9,2,1,0],[12,7,6,3,5,4,11,10,8,9,2,1,0],[13,12,7,6,3,5,4,11,10,8,9,2,1,0]]) [mv 73 1,op 74 (bc .gtr 73 0),mv 75 74,ot 75 76 (.mov (.t 0)),ot 75 77 (.mov (.t 1)),ot 75 78 (bc .sub 77 1),ot 75 79 (ia 1 76 78),ot 75 80 (l1' 79),ot 75 81 (.mov (.t 0)),ot 75 82 (.mov (.t 11)),ot 75 83 (ia 1 81 82),ot 75 84 (l1' 83),ot 75 85 (kc' 214 [.t 80,.t 84]),ot 75 86 (.un .not (.t 85)),op 87 (.pick (.t 75) (.t 86) (.c zb))]) (.cond (.t 87) (sr [mv 88 0,mv 89 1,mv 90 2,mv 91 11,op 92 (kc' 215 [.t 88,.t 89,.t 90,.t 91]),mv 13 92] (sr [mv 93 13,mv 1 93] (.exit 1 [0,1,2,3,8,9]))) .skip)) (sr [mv 95 0,mv 96 1,mv 97 2,mv 98 11,op 99 (kc' 216 [.t 95,.t 96,.t 97,.t 98]),mv 94 99,op 100 (.ext (.t 94) 0),op 101 (.ext (.t 94) 1),mv 14 100,mv 15 101] (sr [mv 102 15,mv 9 102] (sr [mv 103 14,mv 104 1,op 105 (bt .sub 103 104),mv 106 2,mv 107 14,op 108 (bt .sub 106 107),mv 16 105,mv 17 108] (sr [mv 109 10,op 110 (bc .quo 109 8),mv 18 110] (sr [mv 111 16,mv 112 17,op 113 (bt .lss 111 112)] (.cond (.t 113) (sr [mv 114 16,mv 115 18,op 116 (bt .geq 114 115),mv 8 116] (sr [mv 117 0,mv 118 1,mv 119 14,mv 120 3,op 121 (kc' 130 [.t 117,.t 118,.t 119,.t 120])] (.reg none [mv 122 14,op 123 (bc .add 122 1),mv 1 123]))) (sr [mv 124 17,mv 125 18,op 126 (bt .geq 124 125),mv 8 126] (sr [mv 127 0,mv 128 14,op 129 (bc .add 128 1),mv 130 2,mv 131 3,op 132 (kc' 130 [.t 127,.t 129,.t 130,.t 131])] (.reg none [mv 133 14,mv 2 133]))))))))))
def pdq6:QC:=(.seq (sr [mv 61 8,mv 62 61,ot 62 63 (.mov (.t 9)),op 64 (.pick (.t 62) (.t 63) (.c zb)),mv 65 64,ot 65 66 (.mov (.t 12)),ot 65 67 (.eq (.sc (.i .i64)) false (.t 66) (ci 1)),op 68 (.pick (.t 65) (.t 67) (.c zb))] (.cond (.t 68) (sr [mv 69 0,mv 70 1,mv 71 2,op 72 (kc' 213 [.t 69,.t 70,.t 71])] (.cond (.t 72) (.ret []) .skip)) .skip)) pdq7)
def pdq4:QC:=(sr [mv 43 0,mv 44 1,mv 45 2,op 46 (kc' 211 [.t 43,.t 44,.t 45]),mv 42 46,op 47 (.ext (.t 42) 0),op 48 (.ext (.t 42) 1),mv 11 47,mv 12 48] (.seq (sr [mv 49 12,op 50 (.eq (.sc (.i .i64)) false (.t 49) (ci 2))] (.cond (.t 50) (sr [mv 51 0,mv 52 1,mv 53 2,op 54 (kc' 212 [.t 51,.t 52,.t 53])] (sr [mv 55 2,op 56 (bc .sub 55 1),mv 57 11,mv 58 1,op 59 (bt .sub 57 58),op 60 (bt .sub 56 59),mv 11 60] (.reg none [oc' 12 1]))) .skip)) pdq6))
theorem pdq_body:q240_b0 = .block 1 (.seq (.reg none [⟨none,some 19,.mov (.t 2)⟩,⟨none,some 20,.mov (.t 1)⟩,⟨none,some 21,.bin .sub (.t 19) (.t 20)⟩,⟨none,some 10,.mov (.t 21)⟩]) (.seq (.seq (.reg none [⟨none,some 22,.mov (.t 10)⟩,⟨none,some 23,.bin .leq (.t 22) (.c (.d (.int .i64 12)))⟩]) (.cond (.t 23) (.seq (.reg none [⟨none,some 24,.mov (.t 0)⟩,⟨none,some 25,.mov (.t 1)⟩,⟨none,some 26,.mov (.t 2)⟩,⟨none,some 27,.call (.c (.fn 208 [])) [.t 24,.t 25,.t 26]⟩]) (.ret [])) .skip)) (.seq (.seq (.reg none [⟨none,some 28,.mov (.t 3)⟩,⟨none,some 29,.eq (.sc (.i .i64)) false (.t 28) (.c (.d (.int .i64 0)))⟩]) (.cond (.t 29) (.seq (.reg none [⟨none,some 30,.mov (.t 0)⟩,⟨none,some 31,.mov (.t 1)⟩,⟨none,some 32,.mov (.t 2)⟩,⟨none,some 33,.call (.c (.fn 209 [])) [.t 30,.t 31,.t 32]⟩]) (.ret [])) .skip)) (.seq (.seq (.reg none [⟨none,some 34,.mov (.t 8)⟩,⟨none,some 35,.un .not (.t 34)⟩]) (.cond (.t 35) (.seq (.reg none [⟨none,some 36,.mov (.t 0)⟩,⟨none,some 37,.mov (.t 1)⟩,⟨none,some 38,.mov (.t 2)⟩,⟨none,some 39,.call (.c (.fn 210 [])) [.t 36,.t 37,.t 38]⟩]) (.reg none [⟨none,some 40,.mov (.t 3)⟩,⟨none,some 41,.bin .sub (.t 40) (.c (.d (.int .i64 1)))⟩,⟨none,some 3,.mov (.t 41)⟩])) .skip)) pdq4)))):=rfl
theorem s240:TS 130 = some q240:=by kernel_rfl
theorem x240:valS 130 = false:=by kernel_rfl
theorem swoI:SWO ltInt:=⟨fun x=>by simp [ltInt],fun x y z h1 h2=>by simp [ltInt] at *; omega,fun x y z h1 h2=>by simp [ltInt] at *; omega⟩
def Kq (b lo:Nat) (d:Array Int) (ys:List Blk) (lo':Nat) (d':Array Int):Prop:=lo' <= b \/ (d' = d /\ ys = [] /\ lo' = lo)
theorem Kq.of {b lo lo':Nat} {d d':Array Int} (h:Kz b lo d lo' d'):Kq b lo d [] lo' d':=by
 rcases h with h | ⟨h1,h2⟩
 · exact .inl h
 · exact .inr ⟨h1,rfl,h2⟩
theorem Kq.trans {b lo lo' lo'':Nat} {d d' d'':Array Int} {ys zs:List Blk} (h:Kq b lo d ys lo' d') (k:Kq b lo' d' zs lo'' d''):Kq b lo d (ys ++ zs) lo'' d'':=by
 rcases k with k | ⟨rfl,rfl,rfl⟩
 · exact .inl k
 · rcases h with h | ⟨rfl,rfl,rfl⟩
   · exact .inl h
   · exact .inr ⟨rfl,rfl,rfl⟩
def Sorts (E:Calls') (b n:Nat) (cap:Option Nat) (lim x y:Nat):Prop:=∀ (bs:List Blk) (d:Array Int) (lo:Nat),b < bs.length -> x <= y -> y <= n -> d.size = n -> Below ltInt x y d →
 ∃ ys d' lo',Sm E TS valS 130 [.row b 0 n cap 1,.d (i64 x),.d (i64 y),.d (i64 lim)] (Mz .u32 bs b d lo) = some (.tup [],Mz .u32 (bs ++ ys) b d' lo') /\ PermIn x y d d' /\ SortedIn ltInt x y d' /\ Kq b lo d ys lo' d'
def Round (E:Calls') (b n:Nat) (cap:Option Nat) (lim a e:Nat) (bs:List Blk) (d:Array Int) (lo:Nat) (o:OutA):Prop :=
 (∃ ys d' lo',o = some (.ret,[],Mz .u32 (bs ++ ys) b d' lo') /\ PermIn a e d d' /\ SortedIn ltInt a e d' /\ Kq b lo d ys lo' d') ∨
 (∃ (a2 e2:Nat) (wb2 wp2:Bool) (ys:List Blk) (d2:Array Int) (lo2:Nat),(∀ W,againC [0,1,2,3,8,9] W (leave 1 o) = W [(0,.row b 0 n cap 1),(1,.d (i64 a2)),(2,.d (i64 e2)),(3,.d (i64 lim)),(8,bl wb2),(9,bl wp2)] (Mz .u32 (bs ++ ys) b d2 lo2)) ∧
  a2 <= e2 /\ e2 <= e /\ e2 - a2 < e - a /\ d2.size = n /\ Below ltInt a2 e2 d2 /\ (∀ R,PermIn a2 e2 d2 R -> SortedIn ltInt a2 e2 R -> PermIn a e d R /\ SortedIn ltInt a e R) /\ Kq b lo d ys lo2 d2)
section
variable {E:Calls'} (h334:∀ x y h,E 214 [.d (u32 x),.d (u32 y)] h = some (bl (ltInt x y),h))
include h334
theorem pdq7_step {bs:List Blk} {b:Nat} (hb:b < bs.length) {n a e p lim:Nat} (hn:n < 2 ^ 59) (ha:a + 12 < e) (he:e <= n) (hp1:a <= p) (hp2:p < e) {cap:Option Nat} (d:Array Int) (lo:Nat) (hd:d.size = n) (hB:Below ltInt a e d) (wb wp:Bool)
 (hrec:∀ x y,y - x < e - a -> Sorts E b n cap lim x y) {ev:EA} (g0:ev.get 0 = .row b 0 n cap 1) (g1:ev.get 1 = .d (i64 a)) (g2:ev.get 2 = .d (i64 e)) (g3:ev.get 3 = .d (i64 lim)) (g8:ev.get 8 = bl wb) (g9:ev.get 9 = bl wp) (g10:ev.get 10 = .d (i64 ((e - a:Nat):Int))) (g11:ev.get 11 = .d (i64 p)) :
 Round E b n cap lim a e bs d lo (Cd E TS valS pdq7 ev (Mz .u32 bs b d lo)):=by
 right
 have hn60:n < 2 ^ 60:=by omega
 have c:=fun x y h=>Z334 h334 x y h
 have ixp:=fun h=>ixz (b:=b) (n:=n) (cap:=cap) (h:=h) (i:=p) (by omega)
 have lp:=Mz_ld (kd:=.u32) (lo:=lo) hb (d:=d) (i:=p) (by omega)
 by_cases heq:0 < a /\ ltInt d[a - 1]! d[p]! = false
 · obtain ⟨h0,hnl⟩:=heq
   obtain ⟨a0,ha0⟩:∃ j,a = j + 1:=⟨a - 1,by omega⟩
   have w0:=wsub1 (x:=a) (k:=a0) ha0 (by omega)
   rw [show a - 1 = a0 by omega] at hnl
   have ix0:=fun h=>ixz (b:=b) (n:=n) (cap:=cap) (h:=h) (i:=a0) (by omega)
   have l0:=Mz_ld (kd:=.u32) (lo:=lo) hb (d:=d) (i:=a0) (by omega)
   obtain ⟨lo1,q1,q2,q3⟩:=S335 h334 hb hn60 (a:=a) (e:=e) (p:=p) (by omega) he (by omega) (cap:=cap) d lo hd
   obtain ⟨r1,r2,r3,r4,r5⟩:=round_eq swoI (partitionEqual_holds ltInt) (d4:=(partitionEqual ltInt d a e p).2) (mid:=(partitionEqual ltInt d a e p).1) h0 hp1 hp2 (by omega) hB (by rw [show a - 1 = a0 by omega]; exact hnl) rfl
   generalize partitionEqual ltInt d a e p = R at *
   obtain ⟨mid,d4⟩:=R
   simp only at *
   refine ⟨mid,e,wb,wp,[],d4,lo1,fun W=>?_,r2,Nat.le_refl _,by omega,q3,r4,r5,.of q2⟩
   have hag:(a:Int) > 0:=by omega
   rw [List.append_nil]
   generalize d[a0]! = X at *
   generalize d[p]! = Y at *
   generalize Mz .u32 bs b d lo = M0 at *
   simp (decide:=true) [pdq7,g0,g1,g2,g3,g8,g9,g10,g11,hag,h0,w0,ix0,l0,ixp,lp,c,hnl,q1,openA,opDE_call,noTr,apartT_mute,Tr.mute,-ldv_ptr,-stv_ptr]
 · have hcond:(0 < a -> ltInt d[a - 1]! d[p]! = true):=fun h=>by
    cases hx:ltInt d[a - 1]! d[p]! with
    | true=>rfl
    | false=>exact absurd ⟨h,hx⟩ heq
   obtain ⟨lo1,q1,q2,q3⟩:=S336 h334 hb hn60 (a:=a) (e:=e) (p:=p) (by omega) he (by omega) (cap:=cap) d lo hd
   obtain ⟨r1,r2,r3,r4,r5,r6,r7⟩:=round_part swoI (partition_holds ltInt) (d4:=(partition ltInt d a e p).2.2) (mid:=(partition ltInt d a e p).1) (ap:=(partition ltInt d a e p).2.1) hp1 hp2 (by omega) hB rfl
   generalize partition ltInt d a e p = R at *
   obtain ⟨mid,ap,d4⟩:=R
   simp only at *
   obtain ⟨lf,hlf⟩:∃ j,mid - a = j:=⟨_,rfl⟩
   obtain ⟨rg,hrg⟩:∃ j,e - mid = j:=⟨_,rfl⟩
   obtain ⟨l,hl⟩:∃ j,e - a = j:=⟨_,rfl⟩
   obtain ⟨th,hth⟩:∃ j,l / 8 = j:=⟨_,rfl⟩
   obtain ⟨m1,hm1⟩:∃ j,mid + 1 = j:=⟨_,rfl⟩
   have wlf:=wsub (x:=mid) (y:=a) (k:=lf) (by omega) (by omega)
   have wrg:=wsub (x:=e) (y:=mid) (k:=rg) (by omega) (by omega)
   have wth:binD .quo (.d (.int .i64 l)) (.d (.int .i64 8)) = some (.int .i64 th):=quo_nat (x:=l) (y:=8) (z:=th) (by decide) hth (by omega)
   have wm1:=wadd1 (x:=mid) (k:=m1) hm1 (by omega)
   rw [hl] at g10
   rw [hm1] at r5 r6 r7
   by_cases hlr:lf < rg
   · have hlr':(lf:Int) < (rg:Int):=by omega
     obtain ⟨ys,L,lo2,s1,s2,s3,s4⟩:=hrec a mid (by omega) bs d4 lo1 hb r1 (by omega) q3 r4
     obtain ⟨t1,t2⟩:=r6 L s2 s3
     refine ⟨m1,e,decide ((lf:Int) >= (th:Int)),ap,ys,L,lo2,fun W=>?_,by omega,Nat.le_refl _,by omega,s2.1.trans q3,t1,t2,?_⟩
     · by_cases h0:0 < a
       · have hag:(a:Int) > 0:=by omega
         obtain ⟨a0,ha0⟩:∃ j,a = j + 1:=⟨a - 1,by omega⟩
         have w0:=wsub1 (x:=a) (k:=a0) ha0 (by omega)
         have hnl:=hcond h0
         rw [show a - 1 = a0 by omega] at hnl
         have ix0:=fun h=>ixz (b:=b) (n:=n) (cap:=cap) (h:=h) (i:=a0) (by omega)
         have l0:=Mz_ld (kd:=.u32) (lo:=lo) hb (d:=d) (i:=a0) (by omega)
         generalize d[a0]! = X at *
         generalize d[p]! = Y at *
         generalize Mz .u32 bs b d lo = M0 at *
         generalize Mz .u32 bs b d4 lo1 = M1 at *
         simp (decide:=true) [pdq7,g0,g1,g2,g3,g8,g9,g10,g11,hag,h0,w0,ix0,l0,ixp,lp,c,hnl,q1,wlf,wrg,wth,hlr',hlr,s1,wm1,openA,opDE_call,noTr,apartT_mute,Tr.mute,-ldv_ptr,-stv_ptr]
       · have hag:¬ (a:Int) > 0:=by omega
         generalize Mz .u32 bs b d lo = M0 at *
         generalize Mz .u32 bs b d4 lo1 = M1 at *
         simp (decide:=true) [pdq7,g0,g1,g2,g3,g8,g9,g10,g11,hag,h0,q1,wlf,wrg,wth,hlr',hlr,s1,wm1,openA,opDE_call,noTr,apartT_mute,Tr.mute,-ldv_ptr,-stv_ptr]
     · have:=Kq.trans (.of q2) s4
       simpa using this
   · have hlr':¬ (lf:Int) < (rg:Int):=by omega
     obtain ⟨ys,L,lo2,s1,s2,s3,s4⟩:=hrec m1 e (by omega) bs d4 lo1 hb (by omega) he q3 r5
     obtain ⟨t1,t2⟩:=r7 L s2 s3
     refine ⟨a,mid,decide ((rg:Int) >= (th:Int)),ap,ys,L,lo2,fun W=>?_,r1,by omega,by omega,s2.1.trans q3,t1,t2,?_⟩
     · by_cases h0:0 < a
       · have hag:(a:Int) > 0:=by omega
         obtain ⟨a0,ha0⟩:∃ j,a = j + 1:=⟨a - 1,by omega⟩
         have w0:=wsub1 (x:=a) (k:=a0) ha0 (by omega)
         have hnl:=hcond h0
         rw [show a - 1 = a0 by omega] at hnl
         have ix0:=fun h=>ixz (b:=b) (n:=n) (cap:=cap) (h:=h) (i:=a0) (by omega)
         have l0:=Mz_ld (kd:=.u32) (lo:=lo) hb (d:=d) (i:=a0) (by omega)
         generalize d[a0]! = X at *
         generalize d[p]! = Y at *
         generalize Mz .u32 bs b d lo = M0 at *
         generalize Mz .u32 bs b d4 lo1 = M1 at *
         simp (decide:=true) [pdq7,g0,g1,g2,g3,g8,g9,g10,g11,hag,h0,w0,ix0,l0,ixp,lp,c,hnl,q1,wlf,wrg,wth,hlr',hlr,s1,wm1,openA,opDE_call,noTr,apartT_mute,Tr.mute,-ldv_ptr,-stv_ptr]
       · have hag:¬ (a:Int) > 0:=by omega
         generalize Mz .u32 bs b d lo = M0 at *
         generalize Mz .u32 bs b d4 lo1 = M1 at *
         simp (decide:=true) [pdq7,g0,g1,g2,g3,g8,g9,g10,g11,hag,h0,q1,wlf,wrg,wth,hlr',hlr,s1,wm1,openA,opDE_call,noTr,apartT_mute,Tr.mute,-ldv_ptr,-stv_ptr]
     · have:=Kq.trans (.of q2) s4
       simpa using this
end
end Go.Proofs.YtegfnefobbgkjaaGreat
namespace Go.Proofs.YtegfnefobbgkjaaGreat
open Go.Sort (swp ltInt PermIn SortedIn Below SWO permIn_trans permIn_refl partialInsertionSort choosePivot reverseRange partialInsertionSort_holds choosePivot_holds reverseRange_holds insertionSort_holds heapSort_holds insertionSort heapSort Hint)
theorem byRef_q {bs ys:List Blk} {b lo lo':Nat} {d d':Array Int} (hb:b < bs.length) (hk:Kq b bs.length d ys lo' d') :
 ∃ lo2,byRef (Mz .u32 bs b d lo) (some (.tup [],Mz .u32 (bs ++ ys) b d' lo')) = some (.tup [],Mz .u32 (bs ++ ys) b d' lo2) /\ Kq b lo d ys lo2 d':=by
 have hl:(Mz .u32 bs b d lo).bs.length = bs.length:=by simp [Mz,Mr]
 rw [byRef_s,hl]
 rcases hk with hk | ⟨rfl,rfl,rfl⟩
 · rw [if_neg (fun hh=>by have:=hh.1; simp only [Mz,Mr] at this; omega)]
   exact ⟨min lo lo',rfl,.inl (by omega)⟩
 · rw [if_pos ⟨Nat.le_refl _,rfl⟩,List.append_nil]
   exact ⟨lo,rfl,.inr ⟨rfl,rfl,rfl⟩⟩
theorem Round.behind {E:Calls'} {b n lim a e:Nat} {cap:Option Nat} {bs ys:List Blk} {d D:Array Int} {lo lo1:Nat} {o:OutA} (hp:PermIn a e d D) (hk:Kq b lo d ys lo1 D) (h:Round E b n cap lim a e (bs ++ ys) D lo1 o):Round E b n cap lim a e bs d lo o:=by
 rcases h with ⟨zs,d',lo',h1,h2,h3,h4⟩ | ⟨a2,e2,wb2,wp2,zs,d2,lo2,h1,h2,h3,h4,h5,h6,h7,h8⟩
 · exact .inl ⟨ys ++ zs,d',lo',by rw [h1,List.append_assoc],permIn_trans _ _ _ _ _ hp h2,h3,hk.trans h4⟩
 · exact .inr ⟨a2,e2,wb2,wp2,ys ++ zs,d2,lo2,fun W=>by rw [h1 W,List.append_assoc],h2,h3,h4,h5,h6,fun R r1 r2=>⟨permIn_trans _ _ _ _ _ hp (h7 R r1 r2).1,(h7 R r1 r2).2⟩,hk.trans h8⟩
section
variable {E:Calls'} (h334:∀ x y h,E 214 [.d (u32 x),.d (u32 y)] h = some (bl (ltInt x y),h)) (h241:∀ x h,E 131 [.d (u64 x)] h = some (.d (i64 (len64 x)),h))
include h334
theorem pdq6_step {bs:List Blk} {b:Nat} (hb:b < bs.length) {n a e p lim:Nat} (hn:n < 2 ^ 59) (ha:a + 12 < e) (he:e <= n) (hp1:a <= p) (hp2:p < e) {cap:Option Nat} (d:Array Int) (lo:Nat) (hd:d.size = n) (hB:Below ltInt a e d) (wb wp:Bool) (hint:Hint)
 (hrec:∀ x y,y - x < e - a -> Sorts E b n cap lim x y) {ev:EA} (g0:ev.get 0 = .row b 0 n cap 1) (g1:ev.get 1 = .d (i64 a)) (g2:ev.get 2 = .d (i64 e)) (g3:ev.get 3 = .d (i64 lim)) (g8:ev.get 8 = bl wb) (g9:ev.get 9 = bl wp) (g10:ev.get 10 = .d (i64 ((e - a:Nat):Int))) (g11:ev.get 11 = .d (i64 p)) (g12:ev.get 12 = .d (i64 (hintI hint))) :
 Round E b n cap lim a e bs d lo (Cd E TS valS pdq6 ev (Mz .u32 bs b d lo)):=by
 have next:∀ (D:Array Int) (lo1:Nat),D.size = n -> Below ltInt a e D -> ∀ ev':EA,ev'.get 0 = .row b 0 n cap 1 -> ev'.get 1 = .d (i64 a) -> ev'.get 2 = .d (i64 e) -> ev'.get 3 = .d (i64 lim) -> ev'.get 8 = bl wb -> ev'.get 9 = bl wp -> ev'.get 10 = .d (i64 ((e - a:Nat):Int)) -> ev'.get 11 = .d (i64 p) -> Round E b n cap lim a e bs D lo1 (Cd E TS valS pdq7 ev' (Mz .u32 bs b D lo1)) :=
  fun D lo1 h1 h2 ev' k0 k1 k2 k3 k8 k9 k10 k11=>pdq7_step h334 hb hn ha he hp1 hp2 D lo1 h1 h2 wb wp hrec k0 k1 k2 k3 k8 k9 k10 k11
 cases wb with
 | false =>
  have nx:=next d lo hd hB
  generalize Mz .u32 bs b d lo = M0 at *
  simp (decide:=true) [pdq6,g8,g9,g12]
  exact nx _ (by simp [g0]) (by simp [g1]) (by simp [g2]) (by simp [g3]) (by simp [g8]) (by simp [g9]) (by simp [g10]) (by simp [g11])
 | true =>
  cases wp with
  | false =>
   have nx:=next d lo hd hB
   generalize Mz .u32 bs b d lo = M0 at *
   simp (decide:=true) [pdq6,g8,g9,g12]
   exact nx _ (by simp [g0]) (by simp [g1]) (by simp [g2]) (by simp [g3]) (by simp [g8]) (by simp [g9]) (by simp [g10]) (by simp [g11])
  | true =>
   have other:hintI hint ≠ 1 -> Round E b n cap lim a e bs d lo (Cd E TS valS pdq6 ev (Mz .u32 bs b d lo)):=fun hne=>by
    have nx:=next d lo hd hB
    generalize Mz .u32 bs b d lo = M0 at *
    simp (decide:=true) [pdq6,g8,g9,g12,hne]
    exact nx _ (by simp [g0]) (by simp [g1]) (by simp [g2]) (by simp [g3]) (by simp [g8]) (by simp [g9]) (by simp [g10]) (by simp [g11])
   cases hint with
   | unknown=>exact other (by simp [hintI])
   | decreasing=>exact other (by simp [hintI])
   | increasing =>
    obtain ⟨lo1,q1,q2,q3⟩:=S333 h334 hb (by omega) (a:=a) (e:=e) (by omega) he (cap:=cap) d lo hd
    obtain ⟨p1,p2⟩:=partialInsertionSort_holds swoI d a e (by omega) (by omega) hB
    generalize partialInsertionSort ltInt d a e = R at *
    obtain ⟨D,r⟩:=R
    simp only at *
    have hBD:=hB.perm (by omega) p1
    cases r with
    | true =>
     refine .inl ⟨[],D,lo1,?_,p1,p2 rfl,.of q2⟩
     rw [List.append_nil]
     generalize Mz .u32 bs b d lo = M0 at *
     generalize Mz .u32 bs b D lo1 = M1 at *
     simp (decide:=true) [pdq6,g0,g1,g2,g8,g9,g12,hintI,q1]
    | false =>
     have nx:=next D lo1 q3 hBD
     refine Round.behind (ys:=[]) p1 (.of q2) ?_
     rw [List.append_nil]
     generalize Mz .u32 bs b d lo = M0 at *
     generalize Mz .u32 bs b D lo1 = M1 at *
     simp (decide:=true) [pdq6,g0,g1,g2,g8,g9,g12,hintI,q1]
     exact nx _ (by simp [g0]) (by simp [g1]) (by simp [g2]) (by simp [g3]) (by simp [g8]) (by simp [g9]) (by simp [g10]) (by simp [g11])
theorem pdq4_step {bs:List Blk} {b:Nat} (hb:b < bs.length) {n a e lim:Nat} (hn:n < 2 ^ 59) (ha:a + 12 < e) (he:e <= n) {cap:Option Nat} (d:Array Int) (lo:Nat) (hd:d.size = n) (hB:Below ltInt a e d) (wb wp:Bool)
 (hrec:∀ x y,y - x < e - a -> Sorts E b n cap lim x y) {ev:EA} (g0:ev.get 0 = .row b 0 n cap 1) (g1:ev.get 1 = .d (i64 a)) (g2:ev.get 2 = .d (i64 e)) (g3:ev.get 3 = .d (i64 lim)) (g8:ev.get 8 = bl wb) (g9:ev.get 9 = bl wp) (g10:ev.get 10 = .d (i64 ((e - a:Nat):Int))) :
 Round E b n cap lim a e bs d lo (Cd E TS valS pdq4 ev (Mz .u32 bs b d lo)):=by
 have c1:=S331 h334 hb (by omega) ha he (cap:=cap) d lo hd
 obtain ⟨p1,p2⟩:=choosePivot_holds ltInt d a e (by omega)
 generalize choosePivot ltInt d a e = C at *
 obtain ⟨c,hint⟩:=C
 simp only at *
 have other:hintI hint ≠ 2 -> Round E b n cap lim a e bs d lo (Cd E TS valS pdq4 ev (Mz .u32 bs b d lo)):=fun hne=>by
  have nx:=fun ev' k0 k1 k2 k3 k8 k9 k10 k11 k12=>pdq6_step h334 hb hn ha he p1 p2 d lo hd hB wb wp hint hrec (ev:=ev') k0 k1 k2 k3 k8 k9 k10 k11 k12
  generalize Mz .u32 bs b d lo = M0 at *
  simp (decide:=true) [pdq4,g0,g1,g2,c1,hne]
  exact nx _ (by simp [g0]) (by simp [g1]) (by simp [g2]) (by simp [g3]) (by simp [g8]) (by simp [g9]) (by simp [g10]) (by simp) (by simp)
 cases hint with
 | unknown=>exact other (by simp [hintI])
 | increasing=>exact other (by simp [hintI])
 | decreasing =>
  obtain ⟨lo1,q1,q2,q3⟩:=S332 (E:=E) hb (by omega) (a:=a) (e:=e) (by omega) he (cap:=cap) d lo hd
  have r1:=reverseRange_holds d a e (by omega) (by omega)
  generalize reverseRange d a e = D at *
  obtain ⟨e1,he1⟩:∃ j,e = j + 1:=⟨e - 1,by omega⟩
  obtain ⟨ca,hca⟩:∃ j,c = j + a:=⟨c - a,by omega⟩
  obtain ⟨p,hp⟩:∃ j,e1 = j + ca:=⟨e1 - ca,by omega⟩
  have w1:=wsub1 (x:=e) (k:=e1) he1 (by omega)
  have w2:=wsub (x:=c) (y:=a) (k:=ca) hca (by omega)
  have w3:=wsub (x:=e1) (y:=ca) (k:=p) hp (by omega)
  have nx:=fun ev' k0 k1 k2 k3 k8 k9 k10 k11 k12=>pdq6_step h334 hb hn ha he (p:=p) (by omega) (by omega) D lo1 q3 (hB.perm (by omega) r1) wb wp .increasing hrec (ev:=ev') k0 k1 k2 k3 k8 k9 k10 k11 k12
  refine Round.behind (ys:=[]) r1 (.of q2) ?_
  rw [List.append_nil]
  generalize Mz .u32 bs b d lo = M0 at *
  generalize Mz .u32 bs b D lo1 = M1 at *
  simp (decide:=true) [pdq4,g0,g1,g2,c1,hintI,q1,w1,w2,w3]
  exact nx _ (by simp [g0]) (by simp [g1]) (by simp [g2]) (by simp [g3]) (by simp [g8]) (by simp [g9]) (by simp [g10]) (by simp) (by simp [hintI])
include h241
theorem pdq_loop {b n:Nat} (hn:n < 2 ^ 59) {cap:Option Nat}:∀ (N a e lim:Nat) (wb wp:Bool) (bs:List Blk) (d:Array Int) (lo:Nat),e - a < N -> b < bs.length -> a <= e -> e <= n -> d.size = n -> lim < 2 ^ 60 -> Below ltInt a e d →
 ∃ ys d' lo',Cd E TS valS (.loop [0,1,2,3,8,9] q240_b0) [(0,.row b 0 n cap 1),(1,.d (i64 a)),(2,.d (i64 e)),(3,.d (i64 lim)),(8,bl wb),(9,bl wp)] (Mz .u32 bs b d lo) = some (.ret,[],Mz .u32 (bs ++ ys) b d' lo') /\ PermIn a e d d' /\ SortedIn ltInt a e d' /\ Kq b lo d ys lo' d':=by
 intro N
 have key:=Cd_round (E:=E) (T:=TS) (val:=valS) [0,1,2,3,8,9] q240_b0
 have hfun:∀ (bs:List Blk) (d:Array Int) (x y lim lo1:Nat) (ys:List Blk) (d':Array Int),b < bs.length →
  Cd E TS valS (.loop [0,1,2,3,8,9] q240_b0) [(0,.row b 0 n cap 1),(1,.d (i64 x)),(2,.d (i64 y)),(3,.d (i64 lim)),(8,bl true),(9,bl true)] (Mz .u32 bs b d bs.length) = some (.ret,[],Mz .u32 (bs ++ ys) b d' lo1) →
  ∀ lo,Sm E TS valS 130 [.row b 0 n cap 1,.d (i64 x),.d (i64 y),.d (i64 lim)] (Mz .u32 bs b d lo) = byRef (Mz .u32 bs b d lo) (some (.tup [],Mz .u32 (bs ++ ys) b d' lo1)):=fun bs d x y lim lo1 ys d' hb h lo=>by
  have hl:(Mz .u32 bs b d lo).bs.length = bs.length:=by simp [Mz,Mr]
  have hM:(⟨(Mz .u32 bs b d lo).bs,bs.length⟩:Hp) = Mz .u32 bs b d bs.length:=rfl
  rw [Sm_ref s240 x240,hl,hM]
  congr 1
  generalize Mz .u32 bs b d bs.length = M0 at *
  generalize Mz .u32 (bs ++ ys) b d' lo1 = M1 at *
  simp [Bd_mk,q240]
  rw [Cd_keep]
  try simp at h
  simp [h]
  rfl
 generalize Cd E TS valS (.loop [0,1,2,3,8,9] q240_b0) = W at key hfun ⊢
 induction N with
 | zero=>intro a e lim wb wp bs d lo h; omega
 | succ N ih =>
  intro a e lim wb wp bs d lo hN hb hae hen hd hlim hB
  have hrec:∀ lim',lim' < 2 ^ 60 -> ∀ x y,y - x < e - a -> Sorts E b n cap lim' x y:=fun lim' hl x y hxy bs d lo hb hx hy hd hB=>by
   obtain ⟨ys,d',lo1,c1,c2,c3,c4⟩:=ih x y lim' true true bs d bs.length (by omega) hb hx hy hd hl hB
   obtain ⟨lo2,r1,r2⟩:=byRef_q (lo:=lo) hb c4
   exact ⟨ys,d',lo2,(hfun bs d x y lim' lo1 ys d' hb c1 lo).trans r1,c2,c3,r2⟩
  obtain ⟨l,hl⟩:∃ j,e - a = j:=⟨_,rfl⟩
  have wl:=wsub (x:=e) (y:=a) (k:=l) (by omega) (by omega)
  rw [key,pdq_body]
  by_cases h12:l <= 12
  · have h12':(l:Int) <= 12:=by omega
    obtain ⟨lo1,q1,q2,q3⟩:=S328 h334 hb (by omega) (a:=a) (e:=e) (by omega) hen (cap:=cap) d lo hd
    obtain ⟨p1,p2⟩:=insertionSort_holds swoI d a e hae (by omega)
    refine ⟨[],_,lo1,?_,p1,p2,.of q2⟩
    rw [List.append_nil]
    generalize Mz .u32 bs b d lo = M0 at *
    generalize Mz .u32 bs b (insertionSort ltInt d a e) lo1 = M1 at *
    simp (decide:=true) [wl,h12,h12',q1]
  have h12':¬ (l:Int) <= 12:=by omega
  by_cases hl0:lim = 0
  · subst hl0
    obtain ⟨lo1,q1,q2,q3⟩:=S329 h334 hb (by omega) (a:=a) (e:=e) (by omega) hen (cap:=cap) d lo hd
    obtain ⟨p1,p2⟩:=heapSort_holds swoI d a e hae (by omega)
    refine ⟨[],_,lo1,?_,p1,p2,.of q2⟩
    rw [List.append_nil]
    generalize Mz .u32 bs b d lo = M0 at *
    generalize Mz .u32 bs b (heapSort ltInt d a e) lo1 = M1 at *
    simp (decide:=true) [wl,h12,h12',q1]
  have hl0':¬ (lim:Int) = 0:=by omega
  have fin_:∀ (lim':Nat) (o:OutA),lim' < 2 ^ 60 -> Round E b n cap lim' a e bs d lo o -> ∃ ys d' lo',againC [0,1,2,3,8,9] W (leave 1 o) = some (.ret,[],Mz .u32 (bs ++ ys) b d' lo') /\ PermIn a e d d' /\ SortedIn ltInt a e d' /\ Kq b lo d ys lo' d':=by
   rintro lim' o hl' (⟨ys,d',lo',rfl,h2,h3,h4⟩ | ⟨a2,e2,wb2,wp2,ys,d2,lo2,h1,h2,h3,h4,h5,h6,h7,h8⟩)
   · exact ⟨ys,d',lo',rfl,h2,h3,h4⟩
   · have hKb:b < (bs ++ ys).length:=by simp; omega
     obtain ⟨zs,d',lo',c1,c2,c3,c4⟩:=ih a2 e2 lim' wb2 wp2 (bs ++ ys) d2 lo2 (by omega) hKb h2 (by omega) h5 hl' h6
     refine ⟨ys ++ zs,d',lo',?_,(h7 d' c2 c3).1,(h7 d' c2 c3).2,h8.trans c4⟩
     rw [h1 W,c1,List.append_assoc]
  cases wb with
  | true =>
   have st:=fun ev k0 k1 k2 k3 k8 k9 k10=>fin_ lim _ hlim (pdq4_step h334 hb hn (a:=a) (e:=e) (by omega) hen (cap:=cap) d lo hd hB true wp (hrec lim hlim) (ev:=ev) k0 k1 k2 k3 k8 k9 k10)
   generalize Mz .u32 bs b d lo = M0 at *
   simp (decide:=true) [wl,h12,h12',hl0,hl0']
   refine st _ ?_ ?_ ?_ ?_ ?_ ?_ ?_ <;> simp [hl]
  | false =>
   obtain ⟨lm,hlm⟩:∃ j,lim = j + 1:=⟨lim - 1,by omega⟩
   have wlm:=wsub1 (x:=lim) (k:=lm) hlm (by omega)
   obtain ⟨ys,d1,lo1,q1,q2,q3⟩:=S330 h241 hb hn (a:=a) (e:=e) (by omega) hen (cap:=cap) d lo hd
   have hb1:b < (bs ++ ys).length:=by simp; omega
   have st:=fun ev k0 k1 k2 k3 k8 k9 k10=>fin_ lm _ (by omega) (Round.behind q2 (.inl q3) (pdq4_step h334 hb1 hn (a:=a) (e:=e) (by omega) hen (cap:=cap) d1 lo1 (q2.1.trans hd) (hB.perm (by omega) q2) false wp (hrec lm (by omega)) (ev:=ev) k0 k1 k2 k3 k8 k9 k10))
   generalize Mz .u32 bs b d lo = M0 at *
   generalize Mz .u32 (bs ++ ys) b d1 lo1 = M1 at *
   simp (decide:=true) [wl,h12,h12',hl0,hl0',q1,wlm]
   refine st _ ?_ ?_ ?_ ?_ ?_ ?_ ?_ <;> simp [hl]
theorem S240 {b n:Nat} (hn:n < 2 ^ 59) {cap:Option Nat} {lim:Nat} (hlim:lim < 2 ^ 60) {bs:List Blk} (hb:b < bs.length) (d:Array Int) (lo:Nat) (hd:d.size = n) :
 ∃ ys d' lo',Sm E TS valS 130 [.row b 0 n cap 1,.d (i64 0),.d (i64 n),.d (i64 lim)] (Mz .u32 bs b d lo) = some (.tup [],Mz .u32 (bs ++ ys) b d' lo') /\ PermIn 0 n d d' /\ SortedIn ltInt 0 n d' /\ Kq b lo d ys lo' d':=by
 obtain ⟨ys,d',lo1,c1,c2,c3,c4⟩:=pdq_loop h334 h241 hn (cap:=cap) (n + 1) 0 n lim true true bs d bs.length (by omega) hb (Nat.zero_le _) (Nat.le_refl _) hd hlim (.inl rfl)
 obtain ⟨lo2,r1,r2⟩:=byRef_q (lo:=lo) hb c4
 refine ⟨ys,d',lo2,?_,c2,c3,r2⟩
 refine Eq.trans ?_ r1
 have hl:(Mz .u32 bs b d lo).bs.length = bs.length:=by simp [Mz,Mr]
 have hM:(⟨(Mz .u32 bs b d lo).bs,bs.length⟩:Hp) = Mz .u32 bs b d bs.length:=rfl
 rw [Sm_ref s240 x240,hl,hM]
 congr 1
 generalize Mz .u32 bs b d bs.length = M0 at *
 generalize Mz .u32 (bs ++ ys) b d' lo1 = M1 at *
 simp [Bd_mk,q240]
 rw [Cd_keep]
 try simp at c1
 simp [c1]
 rfl
end
end Go.Proofs.YtegfnefobbgkjaaGreat
namespace Go.Proofs.YtegfnefobbgkjaaGreat
open Go.Sort (ltInt PermIn SortedIn sorted_unique_holds)
def tabU:List (Nat × QF):=[(61,q136),(62,q137)]
def TU:FuncId -> Option QF:=lookT tabU
def valU (f:FuncId):Bool:=false
theorem u136:TU 61 = some q136:=by kernel_rfl
theorem u137:TU 62 = some (cmpQ .u32):=by kernel_rfl
theorem u240:TU 130 = none:=by kernel_rfl
theorem u241:TU 131 = none:=by kernel_rfl
theorem Mr_same {bs:List Blk} {b lo:Nat} {cs:List V} (hb:getB bs b = some cs):Mr bs b cs lo = ⟨bs,lo⟩:=by
 have hbl:=getB_len hb
 unfold Mr
 congr 1
 apply List.ext_getElem?
 intro i
 by_cases hi:b = i
 · subst hi
   rw [List.getElem?_set_self hbl]
   unfold getB at hb
   split at hb
   · rename_i hh; cases hb; exact hh.symm
   · cases hb
 · rw [List.getElem?_set_ne hi]
theorem sort_is {d d':Array Int} (h1:PermIn 0 d.size d d') (h2:SortedIn ltInt 0 d.size d'):d'.toList = sortZ d.toList:=by
 have:=sorted_unique_holds swoI (fun x y a b=>by simp [ltInt] at a b; omega) d d' h1 h2
 rw [this,sortZ]
 congr 1
 funext x y
 simp only [ltInt]
 by_cases h:x <= y
 · simp [h]
 · simp [h]; omega
section
variable {E:Calls'} (h334:∀ x y h,E 214 [.d (u32 x),.d (u32 y)] h = some (bl (ltInt x y),h)) (h241:∀ x h,E 131 [.d (u64 x)] h = some (.d (i64 (len64 x)),h))
include h334 h241
theorem S136 {E2:Calls'} (k240:∀ args h,E2 130 args h = Sm E TS valS 130 args h) (k241:∀ x h,E2 131 [.d (u64 x)] h = some (.d (i64 (len64 x)),h)) {bs:List Blk} {b lo n:Nat} {cap:Option Nat} (hb:b < bs.length) (d:Array Int) (hd:d.size = n) (hn:n < 2 ^ 59) :
 ∃ ys lo',Sm E2 TU valU 61 [.row b 0 n cap 1] (Mz .u32 bs b d lo) = some (.tup [],Mr (bs ++ ys) b ((sortZ d.toList).map (iv .u32)) lo'):=by
 obtain ⟨a0,a1,a2⟩:=len64_ok (x:=(n:Int)) (by omega) (by omega)
 have hle:=len64_le (n:Int)
 obtain ⟨k,hk⟩:∃ k:Nat,len64 n = k:=⟨(len64 n).toNat,by omega⟩
 obtain ⟨ys,d',lo1,c1,c2,c3,c4⟩:=S240 h334 h241 hn (cap:=cap) (lim:=k) (by omega) hb d bs.length hd
 have hsz:=c2.1
 have hl:=sort_is (d:=d) (d':=d') (by rw [hd]; exact c2) (by rw [hd]; exact c3)
 have hz:zsV .u32 d' = (sortZ d.toList).map (iv .u32):=by rw [zsV,hl]
 obtain ⟨lo2,r1,r2⟩:=byRef_q (lo:=lo) hb c4
 have hwu:IntKind.wrap .u64 (n:Int) = (n:Int):=by simp [IntKind.wrap,IntKind.bits,IntKind.signed]; omega
 have n240:∀ args h,Sm E2 TU valU 130 args h = Sm E TS valS 130 args h:=fun args h=>by rw [Sm_ext u240]; exact k240 args h
 have n241:∀ x h,Sm E2 TU valU 131 [.d (u64 x)] h = some (.d (i64 (len64 x)),h):=fun x h=>by rw [Sm_ext u241]; exact k241 x h
 refine ⟨ys,lo2,?_⟩
 rw [← hz]
 refine Eq.trans ?_ r1
 have hlen:(Mz .u32 bs b d lo).bs.length = bs.length:=by simp [Mz,Mr]
 have hM:(⟨(Mz .u32 bs b d lo).bs,bs.length⟩:Hp) = Mz .u32 bs b d bs.length:=rfl
 rw [Sm_ref u136 rfl,hlen,hM]
 congr 1
 generalize Mz .u32 bs b d bs.length = M0 at *
 generalize Mz .u32 (bs ++ ys) b d' lo1 = M1 at *
 try simp at c1
 simp [Bd_mk,q136,hwu,n240,n241,hk,c1]
 rfl
end
def chgL:List Int -> List Int
 | x :: y :: l=>(if x = y then [] else [y]) ++ chgL (y :: l)
 | _=>[]
theorem chgL_len:∀ l:List Int,(chgL l).length = chg l
 | []=>rfl
 | [_]=>rfl
 | x :: y :: l=>by
  have:=chgL_len (y :: l)
  simp only [chgL,chg,List.length_append,this]
  split <;> simp
theorem chgL_drop {zs:List Int} {i:Nat} (h:i + 1 < zs.length):chgL (zs.drop i) = (if zs[i] = zs[i + 1] then [] else [zs[i + 1]]) ++ chgL (zs.drop (i + 1)):=by
 rw [List.drop_eq_getElem_cons (show i < zs.length by omega),List.drop_eq_getElem_cons h]
 simp only [chgL]
theorem cmpL_chg:∀ (x:Int) (l:List Int),cmpL (x :: l) = x :: chgL (x :: l)
 | x,[]=>rfl
 | x,y :: l=>by
  have ih:=cmpL_chg y l
  rw [cmpL,ih]
  by_cases h:x = y
  · subst h; simp [chgL]
  · simp [chgL,h]
section
variable {E:Calls'} {T:FuncId -> Option QF} {val:FuncId -> Bool} {kd:IntKind}
theorem cmp_inL {bs:List Blk} {b:Nat} (hb:b < bs.length) {zs:List Int} {cap cap2:Option Nat} (hn:zs.length < 2 ^ 62) {k0:Nat} (hk0:1 <= k0) (hk1:k0 < zs.length):∀ (m i k:Nat) (cur:List V) (lo:Nat),k0 + i + m = zs.length -> 1 <= i -> k < k0 + i -> cur.length = zs.length -> (∀ j (hj:j < zs.length),k <= j -> cur[j]? = some (iv kd zs[j])) →
 ∃ cur' lo',Cd E T val (.loop [0,3,4,5] (cmpB0 kd)) [(0,.row b 0 zs.length cap 1),(3,.d (i64 k)),(4,.row b k0 (zs.length - k0) cap2 1),(5,.d (i64 i))] (Mr bs b cur lo) =
  some (.exit 2,[(0,.row b 0 zs.length cap 1),(3,.d (i64 (k + chg (zs.drop (k0 + i - 1)):Nat)))],Mr bs b cur' lo') /\ cur'.length = zs.length /\ (lo' = lo \/ lo' = min lo b) /\ cur'.take (k + chg (zs.drop (k0 + i - 1))) = cur.take k ++ (chgL (zs.drop (k0 + i - 1))).map (iv kd):=by
 intro m
 have key:=Cd_round (E:=E) (T:=T) (val:=val) [0,3,4,5] (cmpB0 kd)
 generalize Cd E T val (.loop [0,3,4,5] (cmpB0 kd)) = W at key ⊢
 induction m with
 | zero =>
  intro i k cur lo hi h1 hk hl hc
  have h0:chg (zs.drop (k0 + i - 1)) = 0:=by
   have:=chg_le (zs.drop (k0 + i - 1))
   simp only [List.length_drop] at this
   omega
  have hL:chgL (zs.drop (k0 + i - 1)) = []:=List.eq_nil_of_length_eq_zero (by rw [chgL_len,h0])
  refine ⟨cur,lo,?_,hl,.inl rfl,by rw [h0,hL]; simp⟩
  rw [key,h0]
  simp [cmpB0,show ¬ ((i:Int) < ((zs.length - k0:Nat):Int)) from by omega]
 | succ m ih =>
  intro i k cur lo hi h1 hk hl hc
  have hlt:i < zs.length - k0:=by omega
  have e1:=hc (k0 + i) (by omega) (by omega)
  have e0:=hc (k0 + i - 1) (by omega) (by omega)
  have hd:=chg_drop (zs:=zs) (i:=k0 + i - 1) (by omega)
  have hdL:=chgL_drop (zs:=zs) (i:=k0 + i - 1) (by omega)
  have hs:k0 + i - 1 + 1 = k0 + i:=by omega
  simp only [hs] at hd hdL
  rw [hd,hdL]
  have hw:=int_next (show i < zs.length by omega) hn
  have hwk:=int_next (show k < zs.length by omega) hn
  have hwm:IntKind.wrap .i64 ((i:Int) - 1) = ((i - 1:Nat):Int):=by rw [wrap64] <;> omega
  have i1:=fun h=>ix_row (b:=b) (o:=k0) (z:=1) (cap:=cap2) (kd:=.i64) (h:=h) hlt
  have i0:=fun h=>ix_row (b:=b) (o:=k0) (z:=1) (cap:=cap2) (kd:=.i64) (h:=h) (show i - 1 < zs.length - k0 by omega)
  have ik:=fun h=>ix_row (b:=b) (o:=0) (z:=1) (cap:=cap) (kd:=.i64) (h:=h) (show k < zs.length by omega)
  simp only [Nat.mul_one,show k0 + (i - 1) = k0 + i - 1 by omega,Nat.zero_add] at i1 i0 ik
  have l1:=Mr_ld (lo:=lo) hb e1
  have l0:=Mr_ld (lo:=lo) hb e0
  generalize zs[k0 + i]'(by omega) = y at *
  generalize zs[k0 + i - 1]'(by omega) = x at *
  by_cases hxy:x = y
  · obtain ⟨cur',lo',k1,k2,k3,k4⟩:=ih (i + 1) k cur lo (by omega) (by omega) (by omega) hl hc
    simp only [show k0 + (i + 1) - 1 = k0 + i by omega] at k1 k4
    simp only [hxy,if_true,Nat.zero_add,List.nil_append]
    refine ⟨cur',lo',?_,k2,k3,k4⟩
    rw [key]
    subst hxy
    simp [cmpB0,i1,i0,l1,l0,iv,hw,hwm,show ((i:Int) < ((zs.length - k0:Nat):Int)) from by omega,-ldv_ptr]
    simpa using k1
  · have st:=Mr_st (lo:=lo) (x:=.int kd y) hb (show k < cur.length by omega)
    obtain ⟨cur',lo',k1,k2,k3,k4⟩:=ih (i + 1) (k + 1) (cur.set k (.d (.int kd y))) (min lo b) (by omega) (by omega) (by omega) (by simpa using hl) (by
     intro j hj hkj
     rw [List.getElem?_set_ne (by omega)]
     exact hc j hj (by omega))
    simp only [show k0 + (i + 1) - 1 = k0 + i by omega] at k1 k4
    simp only [hxy,if_false]
    refine ⟨cur',lo',?_,k2,by rcases k3 with k3 | k3 <;> omega,?_⟩
    · rw [key]
      have hyx:¬ y = x:=fun h=>hxy h.symm
      simp [cmpB0,i1,i0,ik,l1,l0,st,iv,hw,hwk,hwm,hyx,show ((i:Int) < ((zs.length - k0:Nat):Int)) from by omega,-ldv_ptr,-stv_ptr]
      rw [show ((k:Int) + (1 + (chg (zs.drop (k0 + i)):Int))) = ((k + 1 + chg (zs.drop (k0 + i)):Nat):Int) by omega]
      simpa using k1
    · rw [show k + (1 + chg (zs.drop (k0 + i))) = k + 1 + chg (zs.drop (k0 + i)) by omega,k4]
      have hset:(cur.set k (.d (.int kd y))).take (k + 1) = cur.take k ++ [iv kd y]:=by
       rw [List.take_add_one]
       rw [List.take_set_of_le (Nat.le_refl k)]
       rw [List.getElem?_set_self (by omega)]
       rfl
      rw [hset]
      simp
theorem cmp_clrL {C:Calls'} {bs:List Blk} {b lo:Nat} {cur:List V} (hb:b < bs.length) {n k:Nat} {cap:Option Nat} {e:EA} {x:X} {zero:V} (he:x.ea e = .row b k (n - k) cap 1) (hc:cur.length = n) (hk:k < n) :
 ∃ cur',cur'.length = n /\ cur'.take k = cur.take k /\ opE C (.clear 1 [zero] x) (X.ea e) (Mr bs b cur lo) = some (.undef,Mr bs b cur' (min lo b)):=by
 have hr:((List.replicate (n - k) [zero]).flatten).length = n - k:=by simp
 have hp:put cur k (List.replicate (n - k) [zero]).flatten = some (cur.take k ++ (List.replicate (n - k) [zero]).flatten ++ cur.drop (k + (n - k))):=by
  unfold put
  rw [if_pos (by rw [hr]; omega),hr]
 refine ⟨cur.take k ++ (List.replicate (n - k) [zero]).flatten ++ cur.drop (k + (n - k)),by simp only [List.length_append,hr,List.length_take,List.length_drop]; omega,?_,?_⟩
 · rw [List.append_assoc,List.take_append_of_le_length (by simp; omega),List.take_take,Nat.min_self]
 have hne:¬ (n - k) * 1 = 0:=by omega
 simp only [opE,he,if_true,get_eq,Mr_get hb,if_neg hne,hp]
 simp [Hp.set,Mr]
theorem cmp_outL {bs:List Blk} {b lo:Nat} (hb:b < bs.length) {zs:List Int} {cap:Option Nat} (hn:zs.length < 2 ^ 62):∀ (m k:Nat),k + m = zs.length -> 1 <= k →
 ∃ cur' lo',(Cd E T val (.loop [0,3] (cmpB1 kd)) [(0,.row b 0 zs.length cap 1),(3,.d (i64 k))] (Mr bs b (zs.map (iv kd)) lo) = some (.ret,[(2,.row b 0 (k + chg (zs.drop (k - 1))) cap 1)],Mr bs b cur' lo') /\ cur'.length = zs.length /\ lo' = min lo b /\ cur'.take (k + chg (zs.drop (k - 1))) = (zs.take k ++ chgL (zs.drop (k - 1))).map (iv kd)) ∨
  (Cd E T val (.loop [0,3] (cmpB1 kd)) [(0,.row b 0 zs.length cap 1),(3,.d (i64 k))] (Mr bs b (zs.map (iv kd)) lo) = some (.exit 0,[(0,.row b 0 zs.length cap 1)],Mr bs b (zs.map (iv kd)) lo) /\ k + chg (zs.drop (k - 1)) = zs.length /\ zs = zs.take k ++ chgL (zs.drop (k - 1))):=by
 intro m
 have key:=Cd_round (E:=E) (T:=T) (val:=val) [0,3] (cmpB1 kd)
 generalize Cd E T val (.loop [0,3] (cmpB1 kd)) = W at key ⊢
 induction m with
 | zero =>
  intro k hk h1
  have h0:chg (zs.drop (k - 1)) = 0:=by
   have:=chg_le (zs.drop (k - 1))
   simp only [List.length_drop] at this
   omega
  have hL:chgL (zs.drop (k - 1)) = []:=List.eq_nil_of_length_eq_zero (by rw [chgL_len,h0])
  refine ⟨[],0,.inr ⟨?_,by omega,by rw [hL,List.take_of_length_le (by omega)]; simp⟩⟩
  rw [key]
  simp [cmpB1,show ¬ ((k:Int) < (zs.length:Int)) from by omega]
 | succ m ih =>
  intro k hk h1
  have hlt:k < zs.length:=by omega
  have e1:(zs.map (iv kd))[k]? = some (iv kd zs[k]):=by simp [hlt]
  have e0:(zs.map (iv kd))[k - 1]? = some (iv kd (zs[k - 1]'(by omega))):=by rw [List.getElem?_map,List.getElem?_eq_getElem (show k - 1 < zs.length by omega)]; rfl
  have hd:=chg_drop (zs:=zs) (i:=k - 1) (by omega)
  have hdL:=chgL_drop (zs:=zs) (i:=k - 1) (by omega)
  have hs:k - 1 + 1 = k:=by omega
  simp only [hs] at hd hdL
  have htk:zs.take (k + 1) = zs.take k ++ [zs[k]]:=by rw [List.take_add_one,List.getElem?_eq_getElem hlt]; rfl
  have hw:=int_next hlt hn
  have hwm:IntKind.wrap .i64 ((k:Int) - 1) = ((k - 1:Nat):Int):=by rw [wrap64] <;> omega
  have i1:=fun h=>ix_row (b:=b) (o:=0) (z:=1) (cap:=cap) (kd:=.i64) (h:=h) hlt
  have i0:=fun h=>ix_row (b:=b) (o:=0) (z:=1) (cap:=cap) (kd:=.i64) (h:=h) (show k - 1 < zs.length by omega)
  simp only [Nat.mul_one,Nat.zero_add] at i1 i0
  have l1:=Mr_ld (lo:=lo) hb e1
  have l0:=Mr_ld (lo:=lo) hb e0
  have hin:=cmp_inL (E:=E) (T:=T) (val:=val) (kd:=kd) hb (zs:=zs) (cap:=cap) (cap2:=cap.map (· - k)) hn h1 hlt (zs.length - k - 1) 1 k (zs.map (iv kd)) lo (by omega) (by omega) (by omega) (by simp) (fun j hj _=>by simp [hj])
  have hcl:=chg_le (zs.drop k)
  simp only [List.length_drop] at hcl
  rw [hd,hdL]
  generalize zs[k]'(by omega) = y at *
  generalize zs[k - 1]'(by omega) = x at *
  by_cases hxy:x = y
  · obtain ⟨cur',lo',k1,k2,k3,k4⟩:=hin
    simp only [show k + 1 - 1 = k by omega] at k1 k4
    have hK:k + chg (zs.drop k) < zs.length:=by omega
    generalize hKe:k + chg (zs.drop k) = K at *
    obtain ⟨cur2,c1,c3,c2⟩:=cmp_clrL (C:=Sm E T val) (lo:=lo') hb (cur:=cur') (e:=[(56,.row b K (zs.length - K) (cap.map (· - K)) 1),(55,.d (i64 K)),(54,.row b 0 zs.length cap 1),(0,.row b 0 zs.length cap 1),(3,.d (i64 K))]) (x:=.t 56) (n:=zs.length) (k:=K) (cap:=cap.map (· - K)) (zero:=.d (.int kd 0)) (by simp) k2 hK
    have sl1:=fun h=>cmp_sl (h:=h) (ev:=X.ea [(27,.d (i64 k)),(26,.row b 0 zs.length cap 1),(25,.d (.bool true)),(24,iv kd x),(23,.ptr b (k - 1)),(22,.d (i64 (k - 1:Nat))),(21,.d (i64 k)),(20,.row b 0 zs.length cap 1),(19,iv kd y),(18,.ptr b k),(17,.d (i64 k)),(16,.row b 0 zs.length cap 1),(13,.d (.bool true)),(12,.d (i64 zs.length)),(11,.row b 0 zs.length cap 1),(10,.d (i64 k)),(0,.row b 0 zs.length cap 1),(3,.d (i64 k))]) (x:=.t 27) (b:=b) (n:=zs.length) (cap:=cap) (k:=k) (by simp) hlt h1
    have sl2:=fun h=>cmp_sl (h:=h) (ev:=X.ea [(55,.d (i64 K)),(54,.row b 0 zs.length cap 1),(0,.row b 0 zs.length cap 1),(3,.d (i64 K))]) (x:=.t 55) (b:=b) (n:=zs.length) (cap:=cap) (k:=K) (by simp) hK (by omega)
    have sl3:=fun h=>slice_hi (h:=h) (ev:=X.ea [(58,.d (i64 K)),(57,.row b 0 zs.length cap 1),(56,.row b K (zs.length - K) (cap.map (· - K)) 1),(55,.d (i64 K)),(54,.row b 0 zs.length cap 1),(0,.row b 0 zs.length cap 1),(3,.d (i64 K))]) (x:=.t 58) (b:=b) (z:=1) (len:=zs.length) (cap:=cap) (n:=K) (by simp) (by omega)
    simp only [hxy,if_true,Nat.zero_add,List.nil_append]
    refine ⟨cur2,min lo' b,.inl ⟨?_,c1,by rcases k3 with k3 | k3 <;> omega,?_⟩⟩
    · rw [key]
      subst hxy
      simp [iv] at sl1
      simp [cmpB1,i1,i0,l1,l0,iv,hwm,hlt,sl1,-ldv_ptr]
      rw [Cd_keep]
      simp at k1
      simp [k1,sl2]
      rw [c2]
      simp [sl3,hKe]
    · rw [hKe,c3,k4,List.map_append,List.map_take]
  · obtain ⟨cur',lo',hh⟩:=ih (k + 1) (by omega) (by omega)
    simp only [show k + 1 - 1 = k by omega,htk] at hh
    refine ⟨cur',lo',?_⟩
    have hyx:¬ y = x:=fun h=>hxy h.symm
    have hadd:k + (1 + chg (zs.drop k)) = k + 1 + chg (zs.drop k):=by omega
    have happ:zs.take k ++ ([y] ++ chgL (zs.drop k)) = zs.take k ++ [y] ++ chgL (zs.drop k):=by simp
    simp only [hxy,if_false,hadd,happ]
    rw [key]
    simp [cmpB1,i1,i0,l1,l0,iv,hwm,hw,hlt,hyx,-ldv_ptr]
    simpa [iv] using hh
theorem S_compactL {id:FuncId} (ht:T id = some (cmpQ kd)) (hv:val id = false) {zs:List Int} {b lo:Nat} {cap:Option Nat} {bs:List Blk} (hb:b < bs.length) (hn:zs.length < 2 ^ 62) :
 ∃ cur lo',Sm E T val id [.row b 0 zs.length cap 1] (Mr bs b (zs.map (iv kd)) lo) = some (.row b 0 (cmpL zs).length cap 1,Mr bs b cur lo') /\ cur.take (cmpL zs).length = (cmpL zs).map (iv kd):=by
 have hl:(Mr bs b (zs.map (iv kd)) lo).bs.length = bs.length:=by simp [Mr]
 have hM:(⟨(Mr bs b (zs.map (iv kd)) lo).bs,bs.length⟩:Hp) = Mr bs b (zs.map (iv kd)) bs.length:=rfl
 have hlow:∀ lo cur,(Mr bs b cur lo).low = lo:=fun _ _=>rfl
 have hlen:∀ lo cur,(Mr bs b cur lo).bs.length = bs.length:=fun _ _=>by simp [Mr]
 have hmk:∀ cur lo lo',(⟨(Mr bs b cur lo).bs,lo'⟩:Hp) = Mr bs b cur lo':=fun _ _ _=>rfl
 rw [Sm_ref ht hv,hl,hM]
 by_cases h2:zs.length < 2
 · have hz:cmpL zs = zs:=by
    match zs,h2 with
    | [],_=>rfl
    | [x],_=>rfl
    | _ :: _ :: _,h2=>simp at h2; omega
   rw [hz]
   refine ⟨zs.map (iv kd),lo,?_,by rw [List.take_of_length_le (by simp)]⟩
   have h1:=hlow bs.length (zs.map (iv kd))
   have h3:=hlen bs.length (zs.map (iv kd))
   have h4:=hlow lo (zs.map (iv kd))
   have h5:=hlen lo (zs.map (iv kd))
   generalize Mr bs b (zs.map (iv kd)) bs.length = M0 at *
   generalize Mr bs b (zs.map (iv kd)) lo = M1 at *
   simp [cmpQ,Bd_mk,show ((zs.length:Int) < 2) from by omega,V.under,hb,h1,h5]
 · obtain ⟨x,l,rfl⟩:∃ x l,zs = x :: l:=by
    cases zs with
    | nil=>simp at h2
    | cons x l=>exact ⟨x,l,rfl⟩
   have hc:=cmpL_chg x l
   have hcl:(cmpL (x :: l)).length = 1 + chg (x :: l):=by rw [hc,List.length_cons,chgL_len]; omega
   obtain ⟨cur',lo',hh | hh⟩:=cmp_outL (E:=E) (T:=T) (val:=val) (kd:=kd) (lo:=bs.length) (cap:=cap) hb hn ((x :: l).length - 1) 1 (by simp at h2 ⊢; omega) (by omega)
   · obtain ⟨k1,k2,k3,k4⟩:=hh
     simp only [Nat.sub_self,List.drop_zero,List.take_succ_cons,List.take_zero,List.singleton_append] at k1 k4
     rw [← hc] at k4
     rw [hcl]
     have hlo:lo' = b:=by omega
     subst hlo
     refine ⟨cur',min lo lo',?_,k4⟩
     have h1:=hlow lo' cur'
     have h5:=hlen lo ((x :: l).map (iv kd))
     have h6:=hlow lo ((x :: l).map (iv kd))
     have h7:=hmk cur' lo' (min lo lo')
     generalize (x :: l) = zs at *
     generalize Mr bs lo' (zs.map (iv kd)) bs.length = M0 at *
     generalize Mr bs lo' (zs.map (iv kd)) lo = M1 at *
     generalize Mr bs lo' cur' lo' = M2 at *
     simp at k1
     simp [cmpQ,Bd_mk,show ¬ ((zs.length:Int) < 2) from by omega]
     rw [Cd_keep]
     simp [k1,V.under,hb,h1,h5,h6,h7,show ¬ (bs.length <= lo') from by omega]
   · obtain ⟨k1,k2,k3⟩:=hh
     simp only [Nat.sub_self,List.drop_zero,List.take_succ_cons,List.take_zero,List.singleton_append] at k1 k2 k3
     rw [← hc] at k3
     rw [← k3]
     refine ⟨(x :: l).map (iv kd),lo,?_,by rw [List.take_of_length_le (by simp)]⟩
     have h1:=hlow bs.length ((x :: l).map (iv kd))
     have h5:=hlen lo ((x :: l).map (iv kd))
     generalize (x :: l) = zs at *
     generalize Mr bs b (zs.map (iv kd)) bs.length = M0 at *
     generalize Mr bs b (zs.map (iv kd)) lo = M1 at *
     simp at k1
     simp [cmpQ,Bd_mk,show ¬ ((zs.length:Int) < 2) from by omega]
     rw [Cd_keep]
     simp [k1,V.under,hb,h1,h5]
end
end Go.Proofs.YtegfnefobbgkjaaGreat
