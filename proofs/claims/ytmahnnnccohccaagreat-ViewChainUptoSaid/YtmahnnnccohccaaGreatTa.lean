/- Sorting numbers in place: the frame. A block of one's own holds numbers of one kind; nothing else is turned. -/
import Derived.Test.YtmahnnnccohccaaGreatCp
import Derived.Sort.Defs
import Derived.Test.YtmahnnnccohccaaGreatF64
import Derived.Test.YtmahnnnccohccaaGreatSa
import Derived.KernelRfl
import Derived.Test.YtmahnnnccohccaaGreatWa
import Derived.Sort.LotC
import Derived.Sort.LotA
import Derived.Test.YtmahnnnccohccaaGreatWo
import Derived.Sort.LotD2
import Derived.Sort.LotD3
import Derived.Sort.LotB
import Derived.Sort.LotD1
import Derived.Test.YtmahnnnccohccaaGreatOa
set_option maxRecDepth 100000
set_option linter.unusedVariables false
set_option linter.unusedSimpArgs false
namespace Go.Proofs.YtmahnnnccohccaaGreat
open Go.Sort (swp)
def zsV (kd:IntKind) (d:Array Int):List V:=d.toList.map (iv kd)
abbrev Mz (kd:IntKind) (bs:List Blk) (b:Nat) (d:Array Int) (lo:Nat):Hp:=Mr bs b (zsV kd d) lo
section
variable {kd:IntKind} {bs:List Blk} {b lo:Nat} {d:Array Int}
end
def Kz (b lo:Nat) (d:Array Int) (lo':Nat) (d':Array Int):Prop:=(lo' <= b) \/ (d' = d /\ lo' = lo)
theorem Kz.refl {b lo:Nat} {d:Array Int}:Kz b lo d lo d:=.inr ⟨rfl,rfl⟩
theorem Kz.trans {b lo lo' lo'':Nat} {d d' d'':Array Int} (h:Kz b lo d lo' d') (k:Kz b lo' d' lo'' d''):Kz b lo d lo'' d'':=by
 rcases k with k | ⟨rfl,rfl⟩
 · exact .inl k
 · exact h
end Go.Proofs.YtmahnnnccohccaaGreat
namespace Go.Proofs.YtmahnnnccohccaaGreat
open Go.Sort (swp ltInt insInner insOuter insertionSort)
section
variable {E:Calls'} (h334:∀ x y h,E 443 [.d (u32 x),.d (u32 y)] h = some (bl (ltInt x y),h))
include h334
end
end Go.Proofs.YtmahnnnccohccaaGreat
namespace Go.Proofs.YtmahnnnccohccaaGreat
open Go.Sort (swp ltInt siftDown heapBuild heapPop heapSort)
@[simp] theorem bin_mul {k:IntKind} {a b:Int}:binD .mul (.d (.int k a)) (.d (.int k b)) = some (.int k (k.wrap (a * b))):=by simp [binD,binInt]
section
variable {E:Calls'} (h334:∀ x y h,E 443 [.d (u32 x),.d (u32 y)] h = some (bl (ltInt x y),h))
include h334
end
end Go.Proofs.YtmahnnnccohccaaGreat
namespace Go.Proofs.YtmahnnnccohccaaGreat
open Go.Sort (swp ltInt siftDown heapBuild heapPop heapSort reverseLoop reverseRange)
section
variable {E:Calls'} (h334:∀ x y h,E 443 [.d (u32 x),.d (u32 y)] h = some (bl (ltInt x y),h))
include h334
end
end Go.Proofs.YtmahnnnccohccaaGreat
namespace Go.Proofs.YtmahnnnccohccaaGreat
open Go.Sort (swp ltInt order2 median medianAdjacent choosePivot Hint)
def Ks (c lo s lo' s':Nat):Prop:=(lo' = lo /\ s' = s) \/ lo' = min lo c
theorem Ks.trans {c lo s lo' s' lo'' s'':Nat} (h:Ks c lo s lo' s') (k:Ks c lo' s' lo'' s''):Ks c lo s lo'' s'':=by
 unfold Ks at *
 rcases h with ⟨rfl,rfl⟩ | rfl <;> rcases k with ⟨rfl,rfl⟩ | rfl
 · exact .inl ⟨rfl,rfl⟩
 · exact .inr rfl
 · exact .inr rfl
 · exact .inr (by omega)
section
variable {E:Calls'} (h334:∀ x y h,E 443 [.d (u32 x),.d (u32 y)] h = some (bl (ltInt x y),h))
include h334
end
end Go.Proofs.YtmahnnnccohccaaGreat
namespace Go.Proofs.YtmahnnnccohccaaGreat
open Go.Sort (swp ltInt order2 median medianAdjacent choosePivot Hint)
section
variable {E:Calls'} (h334:∀ x y h,E 443 [.d (u32 x),.d (u32 y)] h = some (bl (ltInt x y),h))
include h334
end
end Go.Proofs.YtmahnnnccohccaaGreat
namespace Go.Proofs.YtmahnnnccohccaaGreat
open Go.Sort (swp ltInt scanUp scanDown partLoop partEqLoop partition partitionEqual)
section
variable {E:Calls'} (h334:∀ x y h,E 443 [.d (u32 x),.d (u32 y)] h = some (bl (ltInt x y),h))
include h334
end
end Go.Proofs.YtmahnnnccohccaaGreat
namespace Go.Proofs.YtmahnnnccohccaaGreat
open Go.Sort (swp ltInt scanUp scanDown partLoop partEqLoop partition partitionEqual scanUp_spec scanDown_spec partLoop_eq partEqLoop_eq)
section
variable {E:Calls'} (h334:∀ x y h,E 443 [.d (u32 x),.d (u32 y)] h = some (bl (ltInt x y),h))
include h334
end
end Go.Proofs.YtmahnnnccohccaaGreat
namespace Go.Proofs.YtmahnnnccohccaaGreat
open Go.Sort (swp ltInt scanSorted shiftDown shiftUp partialIns partialInsertionSort)
section
variable {E:Calls'} (h334:∀ x y h,E 443 [.d (u32 x),.d (u32 y)] h = some (bl (ltInt x y),h))
include h334
end
end Go.Proofs.YtmahnnnccohccaaGreat
namespace Go.Proofs.YtmahnnnccohccaaGreat
open Go.Sort (swp ltInt PermIn permIn_trans permIn_refl swp_permIn)
section
variable {E:Calls'} (h241:∀ x h,E 323 [.d (u64 x)] h = some (.d (i64 (len64 x)),h))
include h241
end
end Go.Proofs.YtmahnnnccohccaaGreat
namespace Go.Proofs.YtmahnnnccohccaaGreat
open Go.Sort (swp ltInt PermIn permIn_trans permIn_refl)
section
variable {E:Calls'} (h241:∀ x h,E 323 [.d (u64 x)] h = some (.d (i64 (len64 x)),h))
include h241
end
end Go.Proofs.YtmahnnnccohccaaGreat
namespace Go.Proofs.YtmahnnnccohccaaGreat
open Go.Sort (swp ltInt PermIn SortedIn Below SWO permIn_trans permIn_refl partition partitionEqual partialInsertionSort choosePivot reverseRange round_eq round_part partition_holds partitionEqual_holds Hint)
def Kq (b lo:Nat) (d:Array Int) (ys:List Blk) (lo':Nat) (d':Array Int):Prop:=lo' <= b \/ (d' = d /\ ys = [] /\ lo' = lo)
theorem Kq.of {b lo lo':Nat} {d d':Array Int} (h:Kz b lo d lo' d'):Kq b lo d [] lo' d':=by
 rcases h with h | ⟨h1,h2⟩
 · exact .inl h
 · exact .inr ⟨h1,rfl,h2⟩
theorem Kq.trans {b lo lo' lo'':Nat} {d d' d'':Array Int} {ys zs:List Blk} (h:Kq b lo d ys lo' d') (k:Kq b lo' d' zs lo'' d''):Kq b lo d (ys ++ zs) lo'' d'':=by
 rcases k with k | ⟨rfl,rfl,rfl⟩
 · exact .inl k
 · rcases h with h | ⟨rfl,rfl,rfl⟩
   · exact .inl h
   · exact .inr ⟨rfl,rfl,rfl⟩
def Round (E:Calls') (b n:Nat) (cap:Option Nat) (lim a e:Nat) (bs:List Blk) (d:Array Int) (lo:Nat) (o:OutA):Prop :=
 (∃ ys d' lo',o = some (.ret,[],Mz .u32 (bs ++ ys) b d' lo') /\ PermIn a e d d' /\ SortedIn ltInt a e d' /\ Kq b lo d ys lo' d') ∨
 (∃ (a2 e2:Nat) (wb2 wp2:Bool) (ys:List Blk) (d2:Array Int) (lo2:Nat),(∀ W,againC [0,1,2,3,8,9] W (leave 1 o) = W [(0,.row b 0 n cap 1),(1,.d (i64 a2)),(2,.d (i64 e2)),(3,.d (i64 lim)),(8,bl wb2),(9,bl wp2)] (Mz .u32 (bs ++ ys) b d2 lo2)) ∧
  a2 <= e2 /\ e2 <= e /\ e2 - a2 < e - a /\ d2.size = n /\ Below ltInt a2 e2 d2 /\ (∀ R,PermIn a2 e2 d2 R -> SortedIn ltInt a2 e2 R -> PermIn a e d R /\ SortedIn ltInt a e R) /\ Kq b lo d ys lo2 d2)
section
variable {E:Calls'} (h334:∀ x y h,E 443 [.d (u32 x),.d (u32 y)] h = some (bl (ltInt x y),h))
include h334
end
end Go.Proofs.YtmahnnnccohccaaGreat
namespace Go.Proofs.YtmahnnnccohccaaGreat
open Go.Sort (swp ltInt PermIn SortedIn Below SWO permIn_trans permIn_refl partialInsertionSort choosePivot reverseRange partialInsertionSort_holds choosePivot_holds reverseRange_holds insertionSort_holds heapSort_holds insertionSort heapSort Hint)
theorem Round.behind {E:Calls'} {b n lim a e:Nat} {cap:Option Nat} {bs ys:List Blk} {d D:Array Int} {lo lo1:Nat} {o:OutA} (hp:PermIn a e d D) (hk:Kq b lo d ys lo1 D) (h:Round E b n cap lim a e (bs ++ ys) D lo1 o):Round E b n cap lim a e bs d lo o:=by
 rcases h with ⟨zs,d',lo',h1,h2,h3,h4⟩ | ⟨a2,e2,wb2,wp2,zs,d2,lo2,h1,h2,h3,h4,h5,h6,h7,h8⟩
 · exact .inl ⟨ys ++ zs,d',lo',by rw [h1,List.append_assoc],permIn_trans _ _ _ _ _ hp h2,h3,hk.trans h4⟩
 · exact .inr ⟨a2,e2,wb2,wp2,ys ++ zs,d2,lo2,fun W=>by rw [h1 W,List.append_assoc],h2,h3,h4,h5,h6,fun R r1 r2=>⟨permIn_trans _ _ _ _ _ hp (h7 R r1 r2).1,(h7 R r1 r2).2⟩,hk.trans h8⟩
section
variable {E:Calls'} (h334:∀ x y h,E 443 [.d (u32 x),.d (u32 y)] h = some (bl (ltInt x y),h)) (h241:∀ x h,E 323 [.d (u64 x)] h = some (.d (i64 (len64 x)),h))
include h334
include h241
end
end Go.Proofs.YtmahnnnccohccaaGreat
namespace Go.Proofs.YtmahnnnccohccaaGreat
open Go.Sort (ltInt PermIn SortedIn sorted_unique_holds)
section
variable {E:Calls'} (h334:∀ x y h,E 443 [.d (u32 x),.d (u32 y)] h = some (bl (ltInt x y),h)) (h241:∀ x h,E 323 [.d (u64 x)] h = some (.d (i64 (len64 x)),h))
include h334 h241
end
section
variable {E:Calls'} {T:FuncId -> Option QF} {val:FuncId -> Bool} {kd:IntKind}
end
end Go.Proofs.YtmahnnnccohccaaGreat
