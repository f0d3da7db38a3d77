/- The comparisons of view.put, walked. -/
import Derived.Test.YtmahnnnccohccaaGreatProg
import Derived.WalkKit
import Derived.Test.YtmahnnnccohccaaGreatYd
import Derived.Test.YtmahnnnccohccaaGreatWo
import Derived.Shelf.SlSortCmp.WholeK
import Derived.KernelRfl
set_option maxRecDepth 100000
set_option linter.unusedVariables false
namespace Go.Proofs.YtmahnnnccohccaaGreat
open Go.RowKit Go.Sort Go.Shelf Go.Lib
set_option maxHeartbeats 1000000 in
theorem nan458 (a:Int) (W:World):Calls Tryz.prog 458 #[.int .u64 a] W fun e w'=>e = .returned (.bool false) /\ w' = W:=by
 go_enter Tryz.func458,Tryz.ntmps458
 go_wp2
 go_ret
 exact ⟨rfl,rfl⟩
def cmpI (a b:Int):Int:=if a < b then -1 else if b < a then 1 else 0
set_option maxHeartbeats 2000000 in
theorem cmp357 (a b:Int) (W:World):Calls Tryz.prog 357 #[.int .u64 a,.int .u64 b] W fun e w'=>e = .returned (.int .i64 (cmpI a b)) /\ ∃ q,w' = W.drewN q:=by
 have n1:=fun W=>nan458 a W
 have n2:=fun W=>nan458 b W
 unfold cmpI
 by_cases h1:a < b
 · simp only [h1,if_true]
   go_enter Tryz.func357,Tryz.ntmps357
   go_wp2_with (go_at_call 458; first | (refine (n1 _).mono ?_; rintro e w' ⟨rfl,rfl⟩) | (refine (n2 _).mono ?_; rintro e w' ⟨rfl,rfl⟩))
   go_ret
   exact ⟨rfl,0,rfl⟩
 · by_cases h2:b < a
   · simp only [h1,h2,if_true,if_false]
     go_enter Tryz.func357,Tryz.ntmps357
     go_wp2_with (go_at_call 458; first | (refine (n1 _).mono ?_; rintro e w' ⟨rfl,rfl⟩) | (refine (n2 _).mono ?_; rintro e w' ⟨rfl,rfl⟩))
     go_ret
     exact ⟨rfl,0,rfl⟩
   · simp only [h1,h2,if_false]
     go_enter Tryz.func357,Tryz.ntmps357
     go_wp2_with (go_at_call 458; first | (refine (n1 _).mono ?_; rintro e w' ⟨rfl,rfl⟩) | (refine (n2 _).mono ?_; rintro e w' ⟨rfl,rfl⟩))
     go_ret
     exact ⟨rfl,0,rfl⟩
set_option maxHeartbeats 2000000 in
theorem id178 (k:Int) (v1 v2 v3 v4 v5 v6:Value) (h1:v1.oneCell' = true) (h2:v2.oneCell' = true) (h3:v3.oneCell' = true) (h4:v4.oneCell' = true) (h5:v5.oneCell' = true) (h6:v6.oneCell' = true) (W:World) :
 Calls Tryz.prog 178 #[.agg #[Value.int .u64 k,v1,v2,v3,v4,v5,v6]] W fun e w'=>e = .returned (.int .u64 k) /\ ∃ q os,w' = grow (W.drewN q) os:=by
 go_enter Tryz.func178,Tryz.ntmps178
 go_wp2
 go_ret
 exact ⟨rfl,0,_,by rw [alloc_eq_grow]; rfl⟩
set_option maxHeartbeats 4000000 in
theorem cmp356 (k:Int) (v1 v2 v3 v4 v5 v6:Value) (h1:v1.oneCell' = true) (h2:v2.oneCell' = true) (h3:v3.oneCell' = true) (h4:v4.oneCell' = true) (h5:v5.oneCell' = true) (h6:v6.oneCell' = true) (k':Int) (u1 u2 u3 u4 u5 u6:Value) (g1:u1.oneCell' = true) (g2:u2.oneCell' = true) (g3:u3.oneCell' = true) (g4:u4.oneCell' = true) (g5:u5.oneCell' = true) (g6:u6.oneCell' = true) (c:Nat) (W:World) (hc:W.cell? ⟨c,0,none⟩ = some (.func (.func 178) #[] #[])) (hlt:c < W.heap.size) :
 Calls Tryz.prog 356 #[.agg #[Value.int .u64 k,v1,v2,v3,v4,v5,v6],.agg #[Value.int .u64 k',u1,u2,u3,u4,u5,u6],.pointer (some ⟨c,0,none⟩)] W fun e w'=>e = .returned (.int .i64 (cmpI k k')) /\ ∃ q os,w' = grow (W.drewN q) os:=by
 have Hc:=(show Hid _ from hc)
 have Hn1:=(show Hid _ from fun W=>id178 k v1 v2 v3 v4 v5 v6 h1 h2 h3 h4 h5 h6 W)
 have Hn2:=(show Hid _ from fun W=>id178 k' u1 u2 u3 u4 u5 u6 g1 g2 g3 g4 g5 g6 W)
 have Hn3:=(show Hid _ from fun W=>cmp357 k k' W)
 have mixed:Tryz.prog.follows .mixedOrders = true:=by kernel_rfl
 clear hc
 generalize cmpI k k' = r at *
 go_enter Tryz.func356,Tryz.ntmps356
 go_wp2_with fail
 have hsz:((W.alloc (Obj.cells #[Value.int .u64 k,v1,v2,v3,v4,v5,v6] 50)).alloc (Obj.cells #[Value.int .u64 k',u1,u2,u3,u4,u5,u6] 50)).heap.size = W.heap.size + 2:=by rw [World.size_alloc,World.size_alloc]
 have lc:∀ n os,(grow (((W.alloc (Obj.cells #[Value.int .u64 k,v1,v2,v3,v4,v5,v6] 50)).alloc (Obj.cells #[Value.int .u64 k',u1,u2,u3,u4,u5,u6] 50)).drewN n) os).cell? ⟨c,0,none⟩ = some (.func (.func 178) #[] #[]):=fun n os=>by
  refine cell_grown (by rw [hsz]; exact Nat.lt_of_lt_of_le hlt (Nat.le_add_right _ _)) ?_ n os
  rw [← Hc.out]
  simp only [World.cell?]
  rw [Below.heap_alloc _ _ _ (by rw [World.size_alloc]; exact Nat.lt_succ_of_lt hlt),Below.heap_alloc _ _ _ hlt]
 have hb1:((W.alloc (Obj.cells #[Value.int .u64 k,v1,v2,v3,v4,v5,v6] 50)).alloc (Obj.cells #[Value.int .u64 k',u1,u2,u3,u4,u5,u6] 50)).heap[W.heap.size]? = some (Obj.cells #[Value.int .u64 k,v1,v2,v3,v4,v5,v6] 50):=by
  rw [Below.heap_alloc _ _ _ (by rw [World.size_alloc]; exact Nat.lt_succ_self _)]
  show (W.heap.push _)[W.heap.size]? = _
  simp
 have hb2:((W.alloc (Obj.cells #[Value.int .u64 k,v1,v2,v3,v4,v5,v6] 50)).alloc (Obj.cells #[Value.int .u64 k',u1,u2,u3,u4,u5,u6] 50)).heap[W.heap.size + 1]? = some (Obj.cells #[Value.int .u64 k',u1,u2,u3,u4,u5,u6] 50):=by
  show ((W.heap.push _).push _)[W.heap.size + 1]? = _
  rw [Array.getElem?_push,if_pos (by simp)]
 have m0:∀ n os,(grow (((W.alloc (Obj.cells #[Value.int .u64 k,v1,v2,v3,v4,v5,v6] 50)).alloc (Obj.cells #[Value.int .u64 k',u1,u2,u3,u4,u5,u6] 50)).drewN n) os).cell? ⟨W.heap.size,0,none⟩ = some (Value.int .u64 k):=fun n os=>cell_grown (by rw [hsz]; show W.heap.size < W.heap.size + 2; omega) (by simp only [World.cell?,hb1]; rfl) n os
 have m1:∀ n os,(grow (((W.alloc (Obj.cells #[Value.int .u64 k,v1,v2,v3,v4,v5,v6] 50)).alloc (Obj.cells #[Value.int .u64 k',u1,u2,u3,u4,u5,u6] 50)).drewN n) os).cell? ⟨W.heap.size,1,none⟩ = some (v1):=fun n os=>cell_grown (by rw [hsz]; show W.heap.size < W.heap.size + 2; omega) (by simp only [World.cell?,hb1]; rfl) n os
 have m2:∀ n os,(grow (((W.alloc (Obj.cells #[Value.int .u64 k,v1,v2,v3,v4,v5,v6] 50)).alloc (Obj.cells #[Value.int .u64 k',u1,u2,u3,u4,u5,u6] 50)).drewN n) os).cell? ⟨W.heap.size,2,none⟩ = some (v2):=fun n os=>cell_grown (by rw [hsz]; show W.heap.size < W.heap.size + 2; omega) (by simp only [World.cell?,hb1]; rfl) n os
 have m3:∀ n os,(grow (((W.alloc (Obj.cells #[Value.int .u64 k,v1,v2,v3,v4,v5,v6] 50)).alloc (Obj.cells #[Value.int .u64 k',u1,u2,u3,u4,u5,u6] 50)).drewN n) os).cell? ⟨W.heap.size,3,none⟩ = some (v3):=fun n os=>cell_grown (by rw [hsz]; show W.heap.size < W.heap.size + 2; omega) (by simp only [World.cell?,hb1]; rfl) n os
 have m4:∀ n os,(grow (((W.alloc (Obj.cells #[Value.int .u64 k,v1,v2,v3,v4,v5,v6] 50)).alloc (Obj.cells #[Value.int .u64 k',u1,u2,u3,u4,u5,u6] 50)).drewN n) os).cell? ⟨W.heap.size,4,none⟩ = some (v4):=fun n os=>cell_grown (by rw [hsz]; show W.heap.size < W.heap.size + 2; omega) (by simp only [World.cell?,hb1]; rfl) n os
 have m5:∀ n os,(grow (((W.alloc (Obj.cells #[Value.int .u64 k,v1,v2,v3,v4,v5,v6] 50)).alloc (Obj.cells #[Value.int .u64 k',u1,u2,u3,u4,u5,u6] 50)).drewN n) os).cell? ⟨W.heap.size,5,none⟩ = some (v5):=fun n os=>cell_grown (by rw [hsz]; show W.heap.size < W.heap.size + 2; omega) (by simp only [World.cell?,hb1]; rfl) n os
 have m6:∀ n os,(grow (((W.alloc (Obj.cells #[Value.int .u64 k,v1,v2,v3,v4,v5,v6] 50)).alloc (Obj.cells #[Value.int .u64 k',u1,u2,u3,u4,u5,u6] 50)).drewN n) os).cell? ⟨W.heap.size,6,none⟩ = some (v6):=fun n os=>cell_grown (by rw [hsz]; show W.heap.size < W.heap.size + 2; omega) (by simp only [World.cell?,hb1]; rfl) n os
 have p0:∀ n os,(grow (((W.alloc (Obj.cells #[Value.int .u64 k,v1,v2,v3,v4,v5,v6] 50)).alloc (Obj.cells #[Value.int .u64 k',u1,u2,u3,u4,u5,u6] 50)).drewN n) os).cell? ⟨W.heap.size + 1,0,none⟩ = some (Value.int .u64 k'):=fun n os=>cell_grown (by rw [hsz]; show W.heap.size + 1 < W.heap.size + 2; omega) (by simp only [World.cell?,hb2]; rfl) n os
 have p1:∀ n os,(grow (((W.alloc (Obj.cells #[Value.int .u64 k,v1,v2,v3,v4,v5,v6] 50)).alloc (Obj.cells #[Value.int .u64 k',u1,u2,u3,u4,u5,u6] 50)).drewN n) os).cell? ⟨W.heap.size + 1,1,none⟩ = some (u1):=fun n os=>cell_grown (by rw [hsz]; show W.heap.size + 1 < W.heap.size + 2; omega) (by simp only [World.cell?,hb2]; rfl) n os
 have p2:∀ n os,(grow (((W.alloc (Obj.cells #[Value.int .u64 k,v1,v2,v3,v4,v5,v6] 50)).alloc (Obj.cells #[Value.int .u64 k',u1,u2,u3,u4,u5,u6] 50)).drewN n) os).cell? ⟨W.heap.size + 1,2,none⟩ = some (u2):=fun n os=>cell_grown (by rw [hsz]; show W.heap.size + 1 < W.heap.size + 2; omega) (by simp only [World.cell?,hb2]; rfl) n os
 have p3:∀ n os,(grow (((W.alloc (Obj.cells #[Value.int .u64 k,v1,v2,v3,v4,v5,v6] 50)).alloc (Obj.cells #[Value.int .u64 k',u1,u2,u3,u4,u5,u6] 50)).drewN n) os).cell? ⟨W.heap.size + 1,3,none⟩ = some (u3):=fun n os=>cell_grown (by rw [hsz]; show W.heap.size + 1 < W.heap.size + 2; omega) (by simp only [World.cell?,hb2]; rfl) n os
 have p4:∀ n os,(grow (((W.alloc (Obj.cells #[Value.int .u64 k,v1,v2,v3,v4,v5,v6] 50)).alloc (Obj.cells #[Value.int .u64 k',u1,u2,u3,u4,u5,u6] 50)).drewN n) os).cell? ⟨W.heap.size + 1,4,none⟩ = some (u4):=fun n os=>cell_grown (by rw [hsz]; show W.heap.size + 1 < W.heap.size + 2; omega) (by simp only [World.cell?,hb2]; rfl) n os
 have p5:∀ n os,(grow (((W.alloc (Obj.cells #[Value.int .u64 k,v1,v2,v3,v4,v5,v6] 50)).alloc (Obj.cells #[Value.int .u64 k',u1,u2,u3,u4,u5,u6] 50)).drewN n) os).cell? ⟨W.heap.size + 1,5,none⟩ = some (u5):=fun n os=>cell_grown (by rw [hsz]; show W.heap.size + 1 < W.heap.size + 2; omega) (by simp only [World.cell?,hb2]; rfl) n os
 have p6:∀ n os,(grow (((W.alloc (Obj.cells #[Value.int .u64 k,v1,v2,v3,v4,v5,v6] 50)).alloc (Obj.cells #[Value.int .u64 k',u1,u2,u3,u4,u5,u6] 50)).drewN n) os).cell? ⟨W.heap.size + 1,6,none⟩ = some (u6):=fun n os=>cell_grown (by rw [hsz]; show W.heap.size + 1 < W.heap.size + 2; omega) (by simp only [World.cell?,hb2]; rfl) n os
 clear hsz hb1 hb2
 generalize hwq:((W.alloc (Obj.cells #[Value.int .u64 k,v1,v2,v3,v4,v5,v6] 50)).alloc (Obj.cells #[Value.int .u64 k',u1,u2,u3,u4,u5,u6] 50)) = wq at lc m0 m1 m2 m3 m4 m5 m6 p0 p1 p2 p3 p4 p5 p6 ⊢
 refine wp_region_quiet_grown (by assumption) (by kernel_rfl) ?_
 quiet_step (fail)
 quiet_step (fail)
 quiet_step (refine Calls.grown_of (Hn1.out _))
 quiet_step (fail)
 quiet_step (fail)
 quiet_step (refine Calls.grown_of (Hn2.out _))
 quiet_step (refine Calls.grown_of ((Hn3.out _).mono fun e w' ⟨h1,q,h2⟩=>⟨h1,q,#[],by rw [grow_empty]; exact h2⟩))
 quiet_step (fail)
 refine wpQuiet_nil ?_
 intro _ hw'
 obtain ⟨⟨nq,osq⟩,hw''⟩:=hw'
 subst hw''
 go_wp2_with fail
 go_ret
 rw [← hwq,alloc_eq_grow,alloc_eq_grow]
 refine ⟨rfl,nq,#[Obj.cells #[Value.int .u64 k,v1,v2,v3,v4,v5,v6] 50] ++ #[Obj.cells #[Value.int .u64 k',u1,u2,u3,u4,u5,u6] 50] ++ osq,?_⟩
 show grow (grow (grow (W.drewN nq) _) _) osq = _
 simp only [grow_grow]
theorem does356:CmpDoes Tryz.prog sgPod:=by
 intro W c x y hc
 have hlt:c < W.heap.size:=by
  rcases Nat.lt_or_ge c W.heap.size with h | h
  · exact h
  · simp [World.cell?,Array.getElem?_eq_none h] at hc
 obtain ⟨xs,xl,xo,xk,xh⟩:=x
 obtain ⟨ys,yl,yo,yk,yh⟩:=y
 simp only [sgPod] at xs xl xh ys yl yh hc ⊢
 obtain ⟨a0,a1,a2,a3,a4,a5,a6,rfl⟩:∃ a0 a1 a2 a3 a4 a5 a6,xs = [a0,a1,a2,a3,a4,a5,a6]:=by
  match xs,xl with
  | [a0,a1,a2,a3,a4,a5,a6],_=>exact ⟨a0,a1,a2,a3,a4,a5,a6,rfl⟩
 obtain ⟨b0,b1,b2,b3,b4,b5,b6,rfl⟩:∃ b0 b1 b2 b3 b4 b5 b6,ys = [b0,b1,b2,b3,b4,b5,b6]:=by
  match ys,yl with
  | [b0,b1,b2,b3,b4,b5,b6],_=>exact ⟨b0,b1,b2,b3,b4,b5,b6,rfl⟩
 simp only [List.getElem?_cons_zero,Option.some.injEq] at xh yh
 subst xh; subst yh
 exact cmp356 xk a1 a2 a3 a4 a5 a6 (xo _ (by simp)) (xo _ (by simp)) (xo _ (by simp)) (xo _ (by simp)) (xo _ (by simp)) (xo _ (by simp)) yk b1 b2 b3 b4 b5 b6 (yo _ (by simp)) (yo _ (by simp)) (yo _ (by simp)) (yo _ (by simp)) (yo _ (by simp)) (yo _ (by simp)) c W hc hlt
set_option maxHeartbeats 2000000 in
theorem id181 (k:Int) (v1 v2 v3 v4:Value) (h1:v1.oneCell' = true) (h2:v2.oneCell' = true) (h3:v3.oneCell' = true) (h4:v4.oneCell' = true) (W:World) :
 Calls Tryz.prog 181 #[.agg #[Value.int .u64 k,v1,v2,v3,v4]] W fun e w'=>e = .returned (.int .u64 k) /\ ∃ q os,w' = grow (W.drewN q) os:=by
 go_enter Tryz.func181,Tryz.ntmps181
 go_wp2
 go_ret
 exact ⟨rfl,0,_,by rw [alloc_eq_grow]; rfl⟩
set_option maxHeartbeats 4000000 in
theorem cmp361 (k:Int) (v1 v2 v3 v4:Value) (h1:v1.oneCell' = true) (h2:v2.oneCell' = true) (h3:v3.oneCell' = true) (h4:v4.oneCell' = true) (k':Int) (u1 u2 u3 u4:Value) (g1:u1.oneCell' = true) (g2:u2.oneCell' = true) (g3:u3.oneCell' = true) (g4:u4.oneCell' = true) (c:Nat) (W:World) (hc:W.cell? ⟨c,0,none⟩ = some (.func (.func 181) #[] #[])) (hlt:c < W.heap.size) :
 Calls Tryz.prog 361 #[.agg #[Value.int .u64 k,v1,v2,v3,v4],.agg #[Value.int .u64 k',u1,u2,u3,u4],.pointer (some ⟨c,0,none⟩)] W fun e w'=>e = .returned (.int .i64 (cmpI k k')) /\ ∃ q os,w' = grow (W.drewN q) os:=by
 have Hc:=(show Hid _ from hc)
 have Hn1:=(show Hid _ from fun W=>id181 k v1 v2 v3 v4 h1 h2 h3 h4 W)
 have Hn2:=(show Hid _ from fun W=>id181 k' u1 u2 u3 u4 g1 g2 g3 g4 W)
 have Hn3:=(show Hid _ from fun W=>cmp357 k k' W)
 have mixed:Tryz.prog.follows .mixedOrders = true:=by kernel_rfl
 clear hc
 generalize cmpI k k' = r at *
 go_enter Tryz.func361,Tryz.ntmps361
 go_wp2_with fail
 have hsz:((W.alloc (Obj.cells #[Value.int .u64 k,v1,v2,v3,v4] 52)).alloc (Obj.cells #[Value.int .u64 k',u1,u2,u3,u4] 52)).heap.size = W.heap.size + 2:=by rw [World.size_alloc,World.size_alloc]
 have lc:∀ n os,(grow (((W.alloc (Obj.cells #[Value.int .u64 k,v1,v2,v3,v4] 52)).alloc (Obj.cells #[Value.int .u64 k',u1,u2,u3,u4] 52)).drewN n) os).cell? ⟨c,0,none⟩ = some (.func (.func 181) #[] #[]):=fun n os=>by
  refine cell_grown (by rw [hsz]; exact Nat.lt_of_lt_of_le hlt (Nat.le_add_right _ _)) ?_ n os
  rw [← Hc.out]
  simp only [World.cell?]
  rw [Below.heap_alloc _ _ _ (by rw [World.size_alloc]; exact Nat.lt_succ_of_lt hlt),Below.heap_alloc _ _ _ hlt]
 have hb1:((W.alloc (Obj.cells #[Value.int .u64 k,v1,v2,v3,v4] 52)).alloc (Obj.cells #[Value.int .u64 k',u1,u2,u3,u4] 52)).heap[W.heap.size]? = some (Obj.cells #[Value.int .u64 k,v1,v2,v3,v4] 52):=by
  rw [Below.heap_alloc _ _ _ (by rw [World.size_alloc]; exact Nat.lt_succ_self _)]
  show (W.heap.push _)[W.heap.size]? = _
  simp
 have hb2:((W.alloc (Obj.cells #[Value.int .u64 k,v1,v2,v3,v4] 52)).alloc (Obj.cells #[Value.int .u64 k',u1,u2,u3,u4] 52)).heap[W.heap.size + 1]? = some (Obj.cells #[Value.int .u64 k',u1,u2,u3,u4] 52):=by
  show ((W.heap.push _).push _)[W.heap.size + 1]? = _
  rw [Array.getElem?_push,if_pos (by simp)]
 have m0:∀ n os,(grow (((W.alloc (Obj.cells #[Value.int .u64 k,v1,v2,v3,v4] 52)).alloc (Obj.cells #[Value.int .u64 k',u1,u2,u3,u4] 52)).drewN n) os).cell? ⟨W.heap.size,0,none⟩ = some (Value.int .u64 k):=fun n os=>cell_grown (by rw [hsz]; show W.heap.size < W.heap.size + 2; omega) (by simp only [World.cell?,hb1]; rfl) n os
 have m1:∀ n os,(grow (((W.alloc (Obj.cells #[Value.int .u64 k,v1,v2,v3,v4] 52)).alloc (Obj.cells #[Value.int .u64 k',u1,u2,u3,u4] 52)).drewN n) os).cell? ⟨W.heap.size,1,none⟩ = some (v1):=fun n os=>cell_grown (by rw [hsz]; show W.heap.size < W.heap.size + 2; omega) (by simp only [World.cell?,hb1]; rfl) n os
 have m2:∀ n os,(grow (((W.alloc (Obj.cells #[Value.int .u64 k,v1,v2,v3,v4] 52)).alloc (Obj.cells #[Value.int .u64 k',u1,u2,u3,u4] 52)).drewN n) os).cell? ⟨W.heap.size,2,none⟩ = some (v2):=fun n os=>cell_grown (by rw [hsz]; show W.heap.size < W.heap.size + 2; omega) (by simp only [World.cell?,hb1]; rfl) n os
 have m3:∀ n os,(grow (((W.alloc (Obj.cells #[Value.int .u64 k,v1,v2,v3,v4] 52)).alloc (Obj.cells #[Value.int .u64 k',u1,u2,u3,u4] 52)).drewN n) os).cell? ⟨W.heap.size,3,none⟩ = some (v3):=fun n os=>cell_grown (by rw [hsz]; show W.heap.size < W.heap.size + 2; omega) (by simp only [World.cell?,hb1]; rfl) n os
 have m4:∀ n os,(grow (((W.alloc (Obj.cells #[Value.int .u64 k,v1,v2,v3,v4] 52)).alloc (Obj.cells #[Value.int .u64 k',u1,u2,u3,u4] 52)).drewN n) os).cell? ⟨W.heap.size,4,none⟩ = some (v4):=fun n os=>cell_grown (by rw [hsz]; show W.heap.size < W.heap.size + 2; omega) (by simp only [World.cell?,hb1]; rfl) n os
 have p0:∀ n os,(grow (((W.alloc (Obj.cells #[Value.int .u64 k,v1,v2,v3,v4] 52)).alloc (Obj.cells #[Value.int .u64 k',u1,u2,u3,u4] 52)).drewN n) os).cell? ⟨W.heap.size + 1,0,none⟩ = some (Value.int .u64 k'):=fun n os=>cell_grown (by rw [hsz]; show W.heap.size + 1 < W.heap.size + 2; omega) (by simp only [World.cell?,hb2]; rfl) n os
 have p1:∀ n os,(grow (((W.alloc (Obj.cells #[Value.int .u64 k,v1,v2,v3,v4] 52)).alloc (Obj.cells #[Value.int .u64 k',u1,u2,u3,u4] 52)).drewN n) os).cell? ⟨W.heap.size + 1,1,none⟩ = some (u1):=fun n os=>cell_grown (by rw [hsz]; show W.heap.size + 1 < W.heap.size + 2; omega) (by simp only [World.cell?,hb2]; rfl) n os
 have p2:∀ n os,(grow (((W.alloc (Obj.cells #[Value.int .u64 k,v1,v2,v3,v4] 52)).alloc (Obj.cells #[Value.int .u64 k',u1,u2,u3,u4] 52)).drewN n) os).cell? ⟨W.heap.size + 1,2,none⟩ = some (u2):=fun n os=>cell_grown (by rw [hsz]; show W.heap.size + 1 < W.heap.size + 2; omega) (by simp only [World.cell?,hb2]; rfl) n os
 have p3:∀ n os,(grow (((W.alloc (Obj.cells #[Value.int .u64 k,v1,v2,v3,v4] 52)).alloc (Obj.cells #[Value.int .u64 k',u1,u2,u3,u4] 52)).drewN n) os).cell? ⟨W.heap.size + 1,3,none⟩ = some (u3):=fun n os=>cell_grown (by rw [hsz]; show W.heap.size + 1 < W.heap.size + 2; omega) (by simp only [World.cell?,hb2]; rfl) n os
 have p4:∀ n os,(grow (((W.alloc (Obj.cells #[Value.int .u64 k,v1,v2,v3,v4] 52)).alloc (Obj.cells #[Value.int .u64 k',u1,u2,u3,u4] 52)).drewN n) os).cell? ⟨W.heap.size + 1,4,none⟩ = some (u4):=fun n os=>cell_grown (by rw [hsz]; show W.heap.size + 1 < W.heap.size + 2; omega) (by simp only [World.cell?,hb2]; rfl) n os
 clear hsz hb1 hb2
 generalize hwq:((W.alloc (Obj.cells #[Value.int .u64 k,v1,v2,v3,v4] 52)).alloc (Obj.cells #[Value.int .u64 k',u1,u2,u3,u4] 52)) = wq at lc m0 m1 m2 m3 m4 p0 p1 p2 p3 p4 ⊢
 refine wp_region_quiet_grown (by assumption) (by kernel_rfl) ?_
 quiet_step (fail)
 quiet_step (fail)
 quiet_step (refine Calls.grown_of (Hn1.out _))
 quiet_step (fail)
 quiet_step (fail)
 quiet_step (refine Calls.grown_of (Hn2.out _))
 quiet_step (refine Calls.grown_of ((Hn3.out _).mono fun e w' ⟨h1,q,h2⟩=>⟨h1,q,#[],by rw [grow_empty]; exact h2⟩))
 quiet_step (fail)
 refine wpQuiet_nil ?_
 intro _ hw'
 obtain ⟨⟨nq,osq⟩,hw''⟩:=hw'
 subst hw''
 go_wp2_with fail
 go_ret
 rw [← hwq,alloc_eq_grow,alloc_eq_grow]
 refine ⟨rfl,nq,#[Obj.cells #[Value.int .u64 k,v1,v2,v3,v4] 52] ++ #[Obj.cells #[Value.int .u64 k',u1,u2,u3,u4] 52] ++ osq,?_⟩
 show grow (grow (grow (W.drewN nq) _) _) osq = _
 simp only [grow_grow]
theorem does361:CmpDoes Tryz.prog sgSvc:=by
 intro W c x y hc
 have hlt:c < W.heap.size:=by
  rcases Nat.lt_or_ge c W.heap.size with h | h
  · exact h
  · simp [World.cell?,Array.getElem?_eq_none h] at hc
 obtain ⟨xs,xl,xo,xk,xh⟩:=x
 obtain ⟨ys,yl,yo,yk,yh⟩:=y
 simp only [sgSvc] at xs xl xh ys yl yh hc ⊢
 obtain ⟨a0,a1,a2,a3,a4,rfl⟩:∃ a0 a1 a2 a3 a4,xs = [a0,a1,a2,a3,a4]:=by
  match xs,xl with
  | [a0,a1,a2,a3,a4],_=>exact ⟨a0,a1,a2,a3,a4,rfl⟩
 obtain ⟨b0,b1,b2,b3,b4,rfl⟩:∃ b0 b1 b2 b3 b4,ys = [b0,b1,b2,b3,b4]:=by
  match ys,yl with
  | [b0,b1,b2,b3,b4],_=>exact ⟨b0,b1,b2,b3,b4,rfl⟩
 simp only [List.getElem?_cons_zero,Option.some.injEq] at xh yh
 subst xh; subst yh
 exact cmp361 xk a1 a2 a3 a4 (xo _ (by simp)) (xo _ (by simp)) (xo _ (by simp)) (xo _ (by simp)) yk b1 b2 b3 b4 (yo _ (by simp)) (yo _ (by simp)) (yo _ (by simp)) (yo _ (by simp)) c W hc hlt
set_option maxHeartbeats 2000000 in
theorem id184 (k:Int) (v1:Value) (h1:v1.oneCell' = true) (W:World) :
 Calls Tryz.prog 184 #[.agg #[Value.int .u64 k,v1]] W fun e w'=>e = .returned (.int .u64 k) /\ ∃ q os,w' = grow (W.drewN q) os:=by
 go_enter Tryz.func184,Tryz.ntmps184
 go_wp2
 go_ret
 exact ⟨rfl,0,_,by rw [alloc_eq_grow]; rfl⟩
set_option maxHeartbeats 4000000 in
theorem cmp365 (k:Int) (v1:Value) (h1:v1.oneCell' = true) (k':Int) (u1:Value) (g1:u1.oneCell' = true) (c:Nat) (W:World) (hc:W.cell? ⟨c,0,none⟩ = some (.func (.func 184) #[] #[])) (hlt:c < W.heap.size) :
 Calls Tryz.prog 365 #[.agg #[Value.int .u64 k,v1],.agg #[Value.int .u64 k',u1],.pointer (some ⟨c,0,none⟩)] W fun e w'=>e = .returned (.int .i64 (cmpI k k')) /\ ∃ q os,w' = grow (W.drewN q) os:=by
 have Hc:=(show Hid _ from hc)
 have Hn1:=(show Hid _ from fun W=>id184 k v1 h1 W)
 have Hn2:=(show Hid _ from fun W=>id184 k' u1 g1 W)
 have Hn3:=(show Hid _ from fun W=>cmp357 k k' W)
 have mixed:Tryz.prog.follows .mixedOrders = true:=by kernel_rfl
 clear hc
 generalize cmpI k k' = r at *
 go_enter Tryz.func365,Tryz.ntmps365
 go_wp2_with fail
 have hsz:((W.alloc (Obj.cells #[Value.int .u64 k,v1] 54)).alloc (Obj.cells #[Value.int .u64 k',u1] 54)).heap.size = W.heap.size + 2:=by rw [World.size_alloc,World.size_alloc]
 have lc:∀ n os,(grow (((W.alloc (Obj.cells #[Value.int .u64 k,v1] 54)).alloc (Obj.cells #[Value.int .u64 k',u1] 54)).drewN n) os).cell? ⟨c,0,none⟩ = some (.func (.func 184) #[] #[]):=fun n os=>by
  refine cell_grown (by rw [hsz]; exact Nat.lt_of_lt_of_le hlt (Nat.le_add_right _ _)) ?_ n os
  rw [← Hc.out]
  simp only [World.cell?]
  rw [Below.heap_alloc _ _ _ (by rw [World.size_alloc]; exact Nat.lt_succ_of_lt hlt),Below.heap_alloc _ _ _ hlt]
 have hb1:((W.alloc (Obj.cells #[Value.int .u64 k,v1] 54)).alloc (Obj.cells #[Value.int .u64 k',u1] 54)).heap[W.heap.size]? = some (Obj.cells #[Value.int .u64 k,v1] 54):=by
  rw [Below.heap_alloc _ _ _ (by rw [World.size_alloc]; exact Nat.lt_succ_self _)]
  show (W.heap.push _)[W.heap.size]? = _
  simp
 have hb2:((W.alloc (Obj.cells #[Value.int .u64 k,v1] 54)).alloc (Obj.cells #[Value.int .u64 k',u1] 54)).heap[W.heap.size + 1]? = some (Obj.cells #[Value.int .u64 k',u1] 54):=by
  show ((W.heap.push _).push _)[W.heap.size + 1]? = _
  rw [Array.getElem?_push,if_pos (by simp)]
 have m0:∀ n os,(grow (((W.alloc (Obj.cells #[Value.int .u64 k,v1] 54)).alloc (Obj.cells #[Value.int .u64 k',u1] 54)).drewN n) os).cell? ⟨W.heap.size,0,none⟩ = some (Value.int .u64 k):=fun n os=>cell_grown (by rw [hsz]; show W.heap.size < W.heap.size + 2; omega) (by simp only [World.cell?,hb1]; rfl) n os
 have m1:∀ n os,(grow (((W.alloc (Obj.cells #[Value.int .u64 k,v1] 54)).alloc (Obj.cells #[Value.int .u64 k',u1] 54)).drewN n) os).cell? ⟨W.heap.size,1,none⟩ = some (v1):=fun n os=>cell_grown (by rw [hsz]; show W.heap.size < W.heap.size + 2; omega) (by simp only [World.cell?,hb1]; rfl) n os
 have p0:∀ n os,(grow (((W.alloc (Obj.cells #[Value.int .u64 k,v1] 54)).alloc (Obj.cells #[Value.int .u64 k',u1] 54)).drewN n) os).cell? ⟨W.heap.size + 1,0,none⟩ = some (Value.int .u64 k'):=fun n os=>cell_grown (by rw [hsz]; show W.heap.size + 1 < W.heap.size + 2; omega) (by simp only [World.cell?,hb2]; rfl) n os
 have p1:∀ n os,(grow (((W.alloc (Obj.cells #[Value.int .u64 k,v1] 54)).alloc (Obj.cells #[Value.int .u64 k',u1] 54)).drewN n) os).cell? ⟨W.heap.size + 1,1,none⟩ = some (u1):=fun n os=>cell_grown (by rw [hsz]; show W.heap.size + 1 < W.heap.size + 2; omega) (by simp only [World.cell?,hb2]; rfl) n os
 clear hsz hb1 hb2
 generalize hwq:((W.alloc (Obj.cells #[Value.int .u64 k,v1] 54)).alloc (Obj.cells #[Value.int .u64 k',u1] 54)) = wq at lc m0 m1 p0 p1 ⊢
 refine wp_region_quiet_grown (by assumption) (by kernel_rfl) ?_
 quiet_step (fail)
 quiet_step (fail)
 quiet_step (refine Calls.grown_of (Hn1.out _))
 quiet_step (fail)
 quiet_step (fail)
 quiet_step (refine Calls.grown_of (Hn2.out _))
 quiet_step (refine Calls.grown_of ((Hn3.out _).mono fun e w' ⟨h1,q,h2⟩=>⟨h1,q,#[],by rw [grow_empty]; exact h2⟩))
 quiet_step (fail)
 refine wpQuiet_nil ?_
 intro _ hw'
 obtain ⟨⟨nq,osq⟩,hw''⟩:=hw'
 subst hw''
 go_wp2_with fail
 go_ret
 rw [← hwq,alloc_eq_grow,alloc_eq_grow]
 refine ⟨rfl,nq,#[Obj.cells #[Value.int .u64 k,v1] 54] ++ #[Obj.cells #[Value.int .u64 k',u1] 54] ++ osq,?_⟩
 show grow (grow (grow (W.drewN nq) _) _) osq = _
 simp only [grow_grow]
theorem does365:CmpDoes Tryz.prog sgWay:=by
 intro W c x y hc
 have hlt:c < W.heap.size:=by
  rcases Nat.lt_or_ge c W.heap.size with h | h
  · exact h
  · simp [World.cell?,Array.getElem?_eq_none h] at hc
 obtain ⟨xs,xl,xo,xk,xh⟩:=x
 obtain ⟨ys,yl,yo,yk,yh⟩:=y
 simp only [sgWay] at xs xl xh ys yl yh hc ⊢
 obtain ⟨a0,a1,rfl⟩:∃ a0 a1,xs = [a0,a1]:=by
  match xs,xl with
  | [a0,a1],_=>exact ⟨a0,a1,rfl⟩
 obtain ⟨b0,b1,rfl⟩:∃ b0 b1,ys = [b0,b1]:=by
  match ys,yl with
  | [b0,b1],_=>exact ⟨b0,b1,rfl⟩
 simp only [List.getElem?_cons_zero,Option.some.injEq] at xh yh
 subst xh; subst yh
 exact cmp365 xk a1 (xo _ (by simp)) yk b1 (yo _ (by simp)) c W hc hlt
set_option maxHeartbeats 2000000 in
theorem id187 (k:Int) (v1 v2 v3 v4:Value) (h1:v1.oneCell' = true) (h2:v2.oneCell' = true) (h3:v3.oneCell' = true) (h4:v4.oneCell' = true) (W:World) :
 Calls Tryz.prog 187 #[.agg #[Value.int .u64 k,v1,v2,v3,v4]] W fun e w'=>e = .returned (.int .u64 k) /\ ∃ q os,w' = grow (W.drewN q) os:=by
 go_enter Tryz.func187,Tryz.ntmps187
 go_wp2
 go_ret
 exact ⟨rfl,0,_,by rw [alloc_eq_grow]; rfl⟩
set_option maxHeartbeats 4000000 in
theorem cmp369 (k:Int) (v1 v2 v3 v4:Value) (h1:v1.oneCell' = true) (h2:v2.oneCell' = true) (h3:v3.oneCell' = true) (h4:v4.oneCell' = true) (k':Int) (u1 u2 u3 u4:Value) (g1:u1.oneCell' = true) (g2:u2.oneCell' = true) (g3:u3.oneCell' = true) (g4:u4.oneCell' = true) (c:Nat) (W:World) (hc:W.cell? ⟨c,0,none⟩ = some (.func (.func 187) #[] #[])) (hlt:c < W.heap.size) :
 Calls Tryz.prog 369 #[.agg #[Value.int .u64 k,v1,v2,v3,v4],.agg #[Value.int .u64 k',u1,u2,u3,u4],.pointer (some ⟨c,0,none⟩)] W fun e w'=>e = .returned (.int .i64 (cmpI k k')) /\ ∃ q os,w' = grow (W.drewN q) os:=by
 have Hc:=(show Hid _ from hc)
 have Hn1:=(show Hid _ from fun W=>id187 k v1 v2 v3 v4 h1 h2 h3 h4 W)
 have Hn2:=(show Hid _ from fun W=>id187 k' u1 u2 u3 u4 g1 g2 g3 g4 W)
 have Hn3:=(show Hid _ from fun W=>cmp357 k k' W)
 have mixed:Tryz.prog.follows .mixedOrders = true:=by kernel_rfl
 clear hc
 generalize cmpI k k' = r at *
 go_enter Tryz.func369,Tryz.ntmps369
 go_wp2_with fail
 have hsz:((W.alloc (Obj.cells #[Value.int .u64 k,v1,v2,v3,v4] 63)).alloc (Obj.cells #[Value.int .u64 k',u1,u2,u3,u4] 63)).heap.size = W.heap.size + 2:=by rw [World.size_alloc,World.size_alloc]
 have lc:∀ n os,(grow (((W.alloc (Obj.cells #[Value.int .u64 k,v1,v2,v3,v4] 63)).alloc (Obj.cells #[Value.int .u64 k',u1,u2,u3,u4] 63)).drewN n) os).cell? ⟨c,0,none⟩ = some (.func (.func 187) #[] #[]):=fun n os=>by
  refine cell_grown (by rw [hsz]; exact Nat.lt_of_lt_of_le hlt (Nat.le_add_right _ _)) ?_ n os
  rw [← Hc.out]
  simp only [World.cell?]
  rw [Below.heap_alloc _ _ _ (by rw [World.size_alloc]; exact Nat.lt_succ_of_lt hlt),Below.heap_alloc _ _ _ hlt]
 have hb1:((W.alloc (Obj.cells #[Value.int .u64 k,v1,v2,v3,v4] 63)).alloc (Obj.cells #[Value.int .u64 k',u1,u2,u3,u4] 63)).heap[W.heap.size]? = some (Obj.cells #[Value.int .u64 k,v1,v2,v3,v4] 63):=by
  rw [Below.heap_alloc _ _ _ (by rw [World.size_alloc]; exact Nat.lt_succ_self _)]
  show (W.heap.push _)[W.heap.size]? = _
  simp
 have hb2:((W.alloc (Obj.cells #[Value.int .u64 k,v1,v2,v3,v4] 63)).alloc (Obj.cells #[Value.int .u64 k',u1,u2,u3,u4] 63)).heap[W.heap.size + 1]? = some (Obj.cells #[Value.int .u64 k',u1,u2,u3,u4] 63):=by
  show ((W.heap.push _).push _)[W.heap.size + 1]? = _
  rw [Array.getElem?_push,if_pos (by simp)]
 have m0:∀ n os,(grow (((W.alloc (Obj.cells #[Value.int .u64 k,v1,v2,v3,v4] 63)).alloc (Obj.cells #[Value.int .u64 k',u1,u2,u3,u4] 63)).drewN n) os).cell? ⟨W.heap.size,0,none⟩ = some (Value.int .u64 k):=fun n os=>cell_grown (by rw [hsz]; show W.heap.size < W.heap.size + 2; omega) (by simp only [World.cell?,hb1]; rfl) n os
 have m1:∀ n os,(grow (((W.alloc (Obj.cells #[Value.int .u64 k,v1,v2,v3,v4] 63)).alloc (Obj.cells #[Value.int .u64 k',u1,u2,u3,u4] 63)).drewN n) os).cell? ⟨W.heap.size,1,none⟩ = some (v1):=fun n os=>cell_grown (by rw [hsz]; show W.heap.size < W.heap.size + 2; omega) (by simp only [World.cell?,hb1]; rfl) n os
 have m2:∀ n os,(grow (((W.alloc (Obj.cells #[Value.int .u64 k,v1,v2,v3,v4] 63)).alloc (Obj.cells #[Value.int .u64 k',u1,u2,u3,u4] 63)).drewN n) os).cell? ⟨W.heap.size,2,none⟩ = some (v2):=fun n os=>cell_grown (by rw [hsz]; show W.heap.size < W.heap.size + 2; omega) (by simp only [World.cell?,hb1]; rfl) n os
 have m3:∀ n os,(grow (((W.alloc (Obj.cells #[Value.int .u64 k,v1,v2,v3,v4] 63)).alloc (Obj.cells #[Value.int .u64 k',u1,u2,u3,u4] 63)).drewN n) os).cell? ⟨W.heap.size,3,none⟩ = some (v3):=fun n os=>cell_grown (by rw [hsz]; show W.heap.size < W.heap.size + 2; omega) (by simp only [World.cell?,hb1]; rfl) n os
 have m4:∀ n os,(grow (((W.alloc (Obj.cells #[Value.int .u64 k,v1,v2,v3,v4] 63)).alloc (Obj.cells #[Value.int .u64 k',u1,u2,u3,u4] 63)).drewN n) os).cell? ⟨W.heap.size,4,none⟩ = some (v4):=fun n os=>cell_grown (by rw [hsz]; show W.heap.size < W.heap.size + 2; omega) (by simp only [World.cell?,hb1]; rfl) n os
 have p0:∀ n os,(grow (((W.alloc (Obj.cells #[Value.int .u64 k,v1,v2,v3,v4] 63)).alloc (Obj.cells #[Value.int .u64 k',u1,u2,u3,u4] 63)).drewN n) os).cell? ⟨W.heap.size + 1,0,none⟩ = some (Value.int .u64 k'):=fun n os=>cell_grown (by rw [hsz]; show W.heap.size + 1 < W.heap.size + 2; omega) (by simp only [World.cell?,hb2]; rfl) n os
 have p1:∀ n os,(grow (((W.alloc (Obj.cells #[Value.int .u64 k,v1,v2,v3,v4] 63)).alloc (Obj.cells #[Value.int .u64 k',u1,u2,u3,u4] 63)).drewN n) os).cell? ⟨W.heap.size + 1,1,none⟩ = some (u1):=fun n os=>cell_grown (by rw [hsz]; show W.heap.size + 1 < W.heap.size + 2; omega) (by simp only [World.cell?,hb2]; rfl) n os
 have p2:∀ n os,(grow (((W.alloc (Obj.cells #[Value.int .u64 k,v1,v2,v3,v4] 63)).alloc (Obj.cells #[Value.int .u64 k',u1,u2,u3,u4] 63)).drewN n) os).cell? ⟨W.heap.size + 1,2,none⟩ = some (u2):=fun n os=>cell_grown (by rw [hsz]; show W.heap.size + 1 < W.heap.size + 2; omega) (by simp only [World.cell?,hb2]; rfl) n os
 have p3:∀ n os,(grow (((W.alloc (Obj.cells #[Value.int .u64 k,v1,v2,v3,v4] 63)).alloc (Obj.cells #[Value.int .u64 k',u1,u2,u3,u4] 63)).drewN n) os).cell? ⟨W.heap.size + 1,3,none⟩ = some (u3):=fun n os=>cell_grown (by rw [hsz]; show W.heap.size + 1 < W.heap.size + 2; omega) (by simp only [World.cell?,hb2]; rfl) n os
 have p4:∀ n os,(grow (((W.alloc (Obj.cells #[Value.int .u64 k,v1,v2,v3,v4] 63)).alloc (Obj.cells #[Value.int .u64 k',u1,u2,u3,u4] 63)).drewN n) os).cell? ⟨W.heap.size + 1,4,none⟩ = some (u4):=fun n os=>cell_grown (by rw [hsz]; show W.heap.size + 1 < W.heap.size + 2; omega) (by simp only [World.cell?,hb2]; rfl) n os
 clear hsz hb1 hb2
 generalize hwq:((W.alloc (Obj.cells #[Value.int .u64 k,v1,v2,v3,v4] 63)).alloc (Obj.cells #[Value.int .u64 k',u1,u2,u3,u4] 63)) = wq at lc m0 m1 m2 m3 m4 p0 p1 p2 p3 p4 ⊢
 refine wp_region_quiet_grown (by assumption) (by kernel_rfl) ?_
 quiet_step (fail)
 quiet_step (fail)
 quiet_step (refine Calls.grown_of (Hn1.out _))
 quiet_step (fail)
 quiet_step (fail)
 quiet_step (refine Calls.grown_of (Hn2.out _))
 quiet_step (refine Calls.grown_of ((Hn3.out _).mono fun e w' ⟨h1,q,h2⟩=>⟨h1,q,#[],by rw [grow_empty]; exact h2⟩))
 quiet_step (fail)
 refine wpQuiet_nil ?_
 intro _ hw'
 obtain ⟨⟨nq,osq⟩,hw''⟩:=hw'
 subst hw''
 go_wp2_with fail
 go_ret
 rw [← hwq,alloc_eq_grow,alloc_eq_grow]
 refine ⟨rfl,nq,#[Obj.cells #[Value.int .u64 k,v1,v2,v3,v4] 63] ++ #[Obj.cells #[Value.int .u64 k',u1,u2,u3,u4] 63] ++ osq,?_⟩
 show grow (grow (grow (W.drewN nq) _) _) osq = _
 simp only [grow_grow]
theorem does369:CmpDoes Tryz.prog sgPol:=by
 intro W c x y hc
 have hlt:c < W.heap.size:=by
  rcases Nat.lt_or_ge c W.heap.size with h | h
  · exact h
  · simp [World.cell?,Array.getElem?_eq_none h] at hc
 obtain ⟨xs,xl,xo,xk,xh⟩:=x
 obtain ⟨ys,yl,yo,yk,yh⟩:=y
 simp only [sgPol] at xs xl xh ys yl yh hc ⊢
 obtain ⟨a0,a1,a2,a3,a4,rfl⟩:∃ a0 a1 a2 a3 a4,xs = [a0,a1,a2,a3,a4]:=by
  match xs,xl with
  | [a0,a1,a2,a3,a4],_=>exact ⟨a0,a1,a2,a3,a4,rfl⟩
 obtain ⟨b0,b1,b2,b3,b4,rfl⟩:∃ b0 b1 b2 b3 b4,ys = [b0,b1,b2,b3,b4]:=by
  match ys,yl with
  | [b0,b1,b2,b3,b4],_=>exact ⟨b0,b1,b2,b3,b4,rfl⟩
 simp only [List.getElem?_cons_zero,Option.some.injEq] at xh yh
 subst xh; subst yh
 exact cmp369 xk a1 a2 a3 a4 (xo _ (by simp)) (xo _ (by simp)) (xo _ (by simp)) (xo _ (by simp)) yk b1 b2 b3 b4 (yo _ (by simp)) (yo _ (by simp)) (yo _ (by simp)) (yo _ (by simp)) c W hc hlt
end Go.Proofs.YtmahnnnccohccaaGreat
