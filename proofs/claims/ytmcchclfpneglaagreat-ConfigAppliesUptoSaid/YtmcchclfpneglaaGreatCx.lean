/- The comparisons of config.with, walked. -/
import Derived.WalkKit
import Derived.Test.YtmcchclfpneglaaGreatWo
import Derived.Shelf.SlSortCmp.WholeK
import Derived.KernelRfl
set_option maxRecDepth 100000
set_option linter.unusedVariables false
namespace Go.Proofs.YtmcchclfpneglaaGreat
open Go.RowKit Go.Sort Go.Shelf Go.Lib
set_option maxHeartbeats 1000000 in
theorem IJ (a:Int)(W:World):Calls Tryz.prog 151 #[.int .u64 a] W fun e w'=>e=.returned (.bool false)/\w'=W:=by
 go_enter Tryz.func151,Tryz.ntmps151
 go_wp2
 go_ret
 exact ⟨rfl,rfl⟩
def xD (a b:Int):Int:=if a<b then -1 else if b<a then 1 else 0
set_option maxHeartbeats 2000000 in
theorem yT (a b:Int)(W:World):Calls Tryz.prog 102 #[.int .u64 a,.int .u64 b] W fun e w'=>e=.returned (.int .i64 (xD a b))/\∃ q,w'=W.drewN q:=by
 have n1:=fun W=>IJ a W;have n2:=fun W=>IJ b W;unfold xD;by_cases h1:a<b
 · simp only [h1,if_true]
   go_enter Tryz.func102,Tryz.ntmps102
   go_wp2_with (go_at_call 151; first | (refine (n1 _).mono ?_; rintro e w' ⟨rfl,rfl⟩) | (refine (n2 _).mono ?_; rintro e w' ⟨rfl,rfl⟩))
   go_ret
   exact ⟨rfl,0,rfl⟩
 · by_cases h2:b<a
   · simp only [h1,h2,if_true,if_false]
     go_enter Tryz.func102,Tryz.ntmps102
     go_wp2_with (go_at_call 151; first | (refine (n1 _).mono ?_; rintro e w' ⟨rfl,rfl⟩) | (refine (n2 _).mono ?_; rintro e w' ⟨rfl,rfl⟩))
     go_ret
     exact ⟨rfl,0,rfl⟩
   · simp only [h1,h2,if_false]
     go_enter Tryz.func102,Tryz.ntmps102
     go_wp2_with (go_at_call 151; first | (refine (n1 _).mono ?_; rintro e w' ⟨rfl,rfl⟩) | (refine (n2 _).mono ?_; rintro e w' ⟨rfl,rfl⟩))
     go_ret
     exact ⟨rfl,0,rfl⟩
theorem JP {W wq:World}{A B:Array Value}{t:TypeId}(h:(W.alloc (Obj.cells A t)).alloc (Obj.cells B t)=wq):wq.heap.size=W.heap.size+2/\wq.heap[W.heap.size]?=some (Obj.cells A t)/\wq.heap[W.heap.size+1]?=some (Obj.cells B t):=by
 subst h;refine ⟨by rw [World.size_alloc,World.size_alloc],?_,?_⟩
 · rw [Below.heap_alloc _ _ _ (by rw [World.size_alloc]; exact Nat.lt_succ_self _)];show (W.heap.push _)[W.heap.size]?=_;simp
 · show ((W.heap.push _).push _)[W.heap.size+1]?=_;rw [Array.getElem?_push,if_pos (by simp)]
theorem iT {W wq:World}{A B:Array Value}{t:TypeId}(h:(W.alloc (Obj.cells A t)).alloc (Obj.cells B t)=wq)(j:Nat)(v:Value)(hv:A[j]?=some v)(n:Nat)(os:Array Obj):(grow (wq.drewN n) os).cell? ⟨W.heap.size,j,none⟩=some v:=by
 obtain ⟨h1,h2,_⟩:=JP h;exact cell_grown (by show W.heap.size<_; omega) (by simp only [World.cell?,h2]; exact hv) n os
theorem iU {W wq:World}{A B:Array Value}{t:TypeId}(h:(W.alloc (Obj.cells A t)).alloc (Obj.cells B t)=wq)(j:Nat)(v:Value)(hv:B[j]?=some v)(n:Nat)(os:Array Obj):(grow (wq.drewN n) os).cell? ⟨W.heap.size+1,j,none⟩=some v:=by
 obtain ⟨h1,_,h2⟩:=JP h;exact cell_grown (by show W.heap.size+1<_; omega) (by simp only [World.cell?,h2]; exact hv) n os
theorem EX {W wq:World}{A B:Array Value}{t:TypeId}(h:(W.alloc (Obj.cells A t)).alloc (Obj.cells B t)=wq){c:Nat}{v:Value}(hc:W.cell? ⟨c,0,none⟩=some v)(hlt:c<W.heap.size)(n:Nat)(os:Array Obj):(grow (wq.drewN n) os).cell? ⟨c,0,none⟩=some v:=by
 obtain ⟨h1,_⟩:=JP h;subst h;refine cell_grown (by show c<_; omega) ?_ n os;rw [← hc];simp only [World.cell?];rw [Below.heap_alloc _ _ _ (by rw [World.size_alloc]; exact Nat.lt_succ_of_lt hlt),Below.heap_alloc _ _ _ hlt]
set_option maxHeartbeats 2000000 in
theorem TD (k:Int)(v1 v2 v3 v4 v5 v6:Value)(h1:v1.oneCell'=true)(h2:v2.oneCell'=true)(h3:v3.oneCell'=true)(h4:v4.oneCell'=true)(h5:v5.oneCell'=true)(h6:v6.oneCell'=true)(W:World) :
 Calls Tryz.prog 50 #[.agg #[Value.int .u64 k,v1,v2,v3,v4,v5,v6]] W fun e w'=>e=.returned (.int .u64 k)/\∃ q os,w'=grow (W.drewN q) os:=by
 go_enter Tryz.func50,Tryz.ntmps50
 go_wp2
 go_ret
 exact ⟨rfl,0,_,by rw [alloc_eq_grow]; rfl⟩
set_option maxHeartbeats 4000000 in
theorem Oa (k:Int)(v1 v2 v3 v4 v5 v6:Value)(h1:v1.oneCell'=true)(h2:v2.oneCell'=true)(h3:v3.oneCell'=true)(h4:v4.oneCell'=true)(h5:v5.oneCell'=true)(h6:v6.oneCell'=true)(k':Int)(u1 u2 u3 u4 u5 u6:Value)(g1:u1.oneCell'=true)(g2:u2.oneCell'=true)(g3:u3.oneCell'=true)(g4:u4.oneCell'=true)(g5:u5.oneCell'=true)(g6:u6.oneCell'=true)(c:Nat)(W:World)(hc:W.cell? ⟨c,0,none⟩=some (.func (.func 50) #[] #[]))(hlt:c<W.heap.size) :
 Calls Tryz.prog 148 #[.agg #[Value.int .u64 k,v1,v2,v3,v4,v5,v6],.agg #[Value.int .u64 k',u1,u2,u3,u4,u5,u6],.pointer (some ⟨c,0,none⟩)] W fun e w'=>e=.returned (.int .i64 (xD k k'))/\∃ q os,w'=grow (W.drewN q) os:=by
 have Hc:=(show Hid _ from hc);have Hn1:=(show Hid _ from fun W=>TD k v1 v2 v3 v4 v5 v6 h1 h2 h3 h4 h5 h6 W);have Hn2:=(show Hid _ from fun W=>TD k' u1 u2 u3 u4 u5 u6 g1 g2 g3 g4 g5 g6 W);have Hn3:=(show Hid _ from fun W=>yT k k' W);have mixed:Tryz.prog.follows .mixedOrders=true:=by kernel_rfl
 clear hc;generalize xD k k'=r at *
 go_enter Tryz.func148,Tryz.ntmps148
 go_wp2_with fail
 generalize hwq:((W.alloc (Obj.cells #[Value.int .u64 k,v1,v2,v3,v4,v5,v6] 33)).alloc (Obj.cells #[Value.int .u64 k',u1,u2,u3,u4,u5,u6] 33))=wq;have lc:=EX hwq Hc.out hlt;have m0:=iT hwq 0 (Value.int .u64 k) rfl;have m1:=iT hwq 1 (v1) rfl;have m2:=iT hwq 2 (v2) rfl;have m3:=iT hwq 3 (v3) rfl;have m4:=iT hwq 4 (v4) rfl;have m5:=iT hwq 5 (v5) rfl;have m6:=iT hwq 6 (v6) rfl;have p0:=iU hwq 0 (Value.int .u64 k') rfl;have p1:=iU hwq 1 (u1) rfl;have p2:=iU hwq 2 (u2) rfl;have p3:=iU hwq 3 (u3) rfl;have p4:=iU hwq 4 (u4) rfl;have p5:=iU hwq 5 (u5) rfl;have p6:=iU hwq 6 (u6) rfl;refine wp_region_quiet_grown (by assumption) (by kernel_rfl) ?_
 quiet_step (fail)
 quiet_step (fail)
 quiet_step (refine Calls.grown_of (Hn1.out _))
 quiet_step (fail)
 quiet_step (fail)
 quiet_step (refine Calls.grown_of (Hn2.out _))
 quiet_step (refine Calls.grown_of ((Hn3.out _).mono fun e w' ⟨h1,q,h2⟩=>⟨h1,q,#[],by rw [grow_empty]; exact h2⟩))
 quiet_step (fail)
 refine wpQuiet_nil ?_;intro _ hw';obtain ⟨⟨nq,osq⟩,hw''⟩:=hw';subst hw''
 go_wp2_with fail
 go_ret
 rw [← hwq,alloc_eq_grow,alloc_eq_grow];refine ⟨rfl,nq,#[Obj.cells #[Value.int .u64 k,v1,v2,v3,v4,v5,v6] 33]++#[Obj.cells #[Value.int .u64 k',u1,u2,u3,u4,u5,u6] 33]++osq,?_⟩;show grow (grow (grow (W.drewN nq) _) _) osq=_;simp only [grow_grow]
theorem Kv:qE Tryz.prog yz:=by
 intro W c x y hc;have hlt:c<W.heap.size:=by
  rcases ck c W.heap.size with h | h
  · exact h
  · simp [World.cell?,Array.getElem?_eq_none h] at hc
 obtain ⟨xs,xl,xo,xk,xh⟩:=x;obtain ⟨ys,yl,yo,yk,yh⟩:=y;simp only [yz] at xs xl xh ys yl yh hc ⊢;obtain ⟨a0,a1,a2,a3,a4,a5,a6,rfl⟩:∃ a0 a1 a2 a3 a4 a5 a6,xs=[a0,a1,a2,a3,a4,a5,a6]:=by
  match xs,xl with
  | [a0,a1,a2,a3,a4,a5,a6],_=>exact ⟨a0,a1,a2,a3,a4,a5,a6,rfl⟩
 obtain ⟨b0,b1,b2,b3,b4,b5,b6,rfl⟩:∃ b0 b1 b2 b3 b4 b5 b6,ys=[b0,b1,b2,b3,b4,b5,b6]:=by
  match ys,yl with
  | [b0,b1,b2,b3,b4,b5,b6],_=>exact ⟨b0,b1,b2,b3,b4,b5,b6,rfl⟩
 simp only [List.getElem?_cons_zero,bd] at xh yh;subst xh; subst yh;exact Oa xk a1 a2 a3 a4 a5 a6 (xo _ (by simp)) (xo _ (by simp)) (xo _ (by simp)) (xo _ (by simp)) (xo _ (by simp)) (xo _ (by simp)) yk b1 b2 b3 b4 b5 b6 (yo _ (by simp)) (yo _ (by simp)) (yo _ (by simp)) (yo _ (by simp)) (yo _ (by simp)) (yo _ (by simp)) c W hc hlt
set_option maxHeartbeats 2000000 in
theorem TE (k:Int)(v1 v2 v3 v4:Value)(h1:v1.oneCell'=true)(h2:v2.oneCell'=true)(h3:v3.oneCell'=true)(h4:v4.oneCell'=true)(W:World) :
 Calls Tryz.prog 53 #[.agg #[Value.int .u64 k,v1,v2,v3,v4]] W fun e w'=>e=.returned (.int .u64 k)/\∃ q os,w'=grow (W.drewN q) os:=by
 go_enter Tryz.func53,Tryz.ntmps53
 go_wp2
 go_ret
 exact ⟨rfl,0,_,by rw [alloc_eq_grow]; rfl⟩
set_option maxHeartbeats 4000000 in
theorem N7 (k:Int)(v1 v2 v3 v4:Value)(h1:v1.oneCell'=true)(h2:v2.oneCell'=true)(h3:v3.oneCell'=true)(h4:v4.oneCell'=true)(k':Int)(u1 u2 u3 u4:Value)(g1:u1.oneCell'=true)(g2:u2.oneCell'=true)(g3:u3.oneCell'=true)(g4:u4.oneCell'=true)(c:Nat)(W:World)(hc:W.cell? ⟨c,0,none⟩=some (.func (.func 53) #[] #[]))(hlt:c<W.heap.size) :
 Calls Tryz.prog 101 #[.agg #[Value.int .u64 k,v1,v2,v3,v4],.agg #[Value.int .u64 k',u1,u2,u3,u4],.pointer (some ⟨c,0,none⟩)] W fun e w'=>e=.returned (.int .i64 (xD k k'))/\∃ q os,w'=grow (W.drewN q) os:=by
 have Hc:=(show Hid _ from hc);have Hn1:=(show Hid _ from fun W=>TE k v1 v2 v3 v4 h1 h2 h3 h4 W);have Hn2:=(show Hid _ from fun W=>TE k' u1 u2 u3 u4 g1 g2 g3 g4 W);have Hn3:=(show Hid _ from fun W=>yT k k' W);have mixed:Tryz.prog.follows .mixedOrders=true:=by kernel_rfl
 clear hc;generalize xD k k'=r at *
 go_enter Tryz.func101,Tryz.ntmps101
 go_wp2_with fail
 generalize hwq:((W.alloc (Obj.cells #[Value.int .u64 k,v1,v2,v3,v4] 35)).alloc (Obj.cells #[Value.int .u64 k',u1,u2,u3,u4] 35))=wq;have lc:=EX hwq Hc.out hlt;have m0:=iT hwq 0 (Value.int .u64 k) rfl;have m1:=iT hwq 1 (v1) rfl;have m2:=iT hwq 2 (v2) rfl;have m3:=iT hwq 3 (v3) rfl;have m4:=iT hwq 4 (v4) rfl;have p0:=iU hwq 0 (Value.int .u64 k') rfl;have p1:=iU hwq 1 (u1) rfl;have p2:=iU hwq 2 (u2) rfl;have p3:=iU hwq 3 (u3) rfl;have p4:=iU hwq 4 (u4) rfl;refine wp_region_quiet_grown (by assumption) (by kernel_rfl) ?_
 quiet_step (fail)
 quiet_step (fail)
 quiet_step (refine Calls.grown_of (Hn1.out _))
 quiet_step (fail)
 quiet_step (fail)
 quiet_step (refine Calls.grown_of (Hn2.out _))
 quiet_step (refine Calls.grown_of ((Hn3.out _).mono fun e w' ⟨h1,q,h2⟩=>⟨h1,q,#[],by rw [grow_empty]; exact h2⟩))
 quiet_step (fail)
 refine wpQuiet_nil ?_;intro _ hw';obtain ⟨⟨nq,osq⟩,hw''⟩:=hw';subst hw''
 go_wp2_with fail
 go_ret
 rw [← hwq,alloc_eq_grow,alloc_eq_grow];refine ⟨rfl,nq,#[Obj.cells #[Value.int .u64 k,v1,v2,v3,v4] 35]++#[Obj.cells #[Value.int .u64 k',u1,u2,u3,u4] 35]++osq,?_⟩;show grow (grow (grow (W.drewN nq) _) _) osq=_;simp only [grow_grow]
theorem Kr:qE Tryz.prog yB:=by
 intro W c x y hc;have hlt:c<W.heap.size:=by
  rcases ck c W.heap.size with h | h
  · exact h
  · simp [World.cell?,Array.getElem?_eq_none h] at hc
 obtain ⟨xs,xl,xo,xk,xh⟩:=x;obtain ⟨ys,yl,yo,yk,yh⟩:=y;simp only [yB] at xs xl xh ys yl yh hc ⊢;obtain ⟨a0,a1,a2,a3,a4,rfl⟩:∃ a0 a1 a2 a3 a4,xs=[a0,a1,a2,a3,a4]:=by
  match xs,xl with
  | [a0,a1,a2,a3,a4],_=>exact ⟨a0,a1,a2,a3,a4,rfl⟩
 obtain ⟨b0,b1,b2,b3,b4,rfl⟩:∃ b0 b1 b2 b3 b4,ys=[b0,b1,b2,b3,b4]:=by
  match ys,yl with
  | [b0,b1,b2,b3,b4],_=>exact ⟨b0,b1,b2,b3,b4,rfl⟩
 simp only [List.getElem?_cons_zero,bd] at xh yh;subst xh; subst yh;exact N7 xk a1 a2 a3 a4 (xo _ (by simp)) (xo _ (by simp)) (xo _ (by simp)) (xo _ (by simp)) yk b1 b2 b3 b4 (yo _ (by simp)) (yo _ (by simp)) (yo _ (by simp)) (yo _ (by simp)) c W hc hlt
set_option maxHeartbeats 2000000 in
theorem TF (k:Int)(v1:Value)(h1:v1.oneCell'=true)(W:World) :
 Calls Tryz.prog 60 #[.agg #[Value.int .u64 k,v1]] W fun e w'=>e=.returned (.int .u64 k)/\∃ q os,w'=grow (W.drewN q) os:=by
 go_enter Tryz.func60,Tryz.ntmps60
 go_wp2
 go_ret
 exact ⟨rfl,0,_,by rw [alloc_eq_grow]; rfl⟩
set_option maxHeartbeats 4000000 in
theorem N8 (k:Int)(v1:Value)(h1:v1.oneCell'=true)(k':Int)(u1:Value)(g1:u1.oneCell'=true)(c:Nat)(W:World)(hc:W.cell? ⟨c,0,none⟩=some (.func (.func 60) #[] #[]))(hlt:c<W.heap.size) :
 Calls Tryz.prog 108 #[.agg #[Value.int .u64 k,v1],.agg #[Value.int .u64 k',u1],.pointer (some ⟨c,0,none⟩)] W fun e w'=>e=.returned (.int .i64 (xD k k'))/\∃ q os,w'=grow (W.drewN q) os:=by
 have Hc:=(show Hid _ from hc);have Hn1:=(show Hid _ from fun W=>TF k v1 h1 W);have Hn2:=(show Hid _ from fun W=>TF k' u1 g1 W);have Hn3:=(show Hid _ from fun W=>yT k k' W);have mixed:Tryz.prog.follows .mixedOrders=true:=by kernel_rfl
 clear hc;generalize xD k k'=r at *
 go_enter Tryz.func108,Tryz.ntmps108
 go_wp2_with fail
 generalize hwq:((W.alloc (Obj.cells #[Value.int .u64 k,v1] 37)).alloc (Obj.cells #[Value.int .u64 k',u1] 37))=wq;have lc:=EX hwq Hc.out hlt;have m0:=iT hwq 0 (Value.int .u64 k) rfl;have m1:=iT hwq 1 (v1) rfl;have p0:=iU hwq 0 (Value.int .u64 k') rfl;have p1:=iU hwq 1 (u1) rfl;refine wp_region_quiet_grown (by assumption) (by kernel_rfl) ?_
 quiet_step (fail)
 quiet_step (fail)
 quiet_step (refine Calls.grown_of (Hn1.out _))
 quiet_step (fail)
 quiet_step (fail)
 quiet_step (refine Calls.grown_of (Hn2.out _))
 quiet_step (refine Calls.grown_of ((Hn3.out _).mono fun e w' ⟨h1,q,h2⟩=>⟨h1,q,#[],by rw [grow_empty]; exact h2⟩))
 quiet_step (fail)
 refine wpQuiet_nil ?_;intro _ hw';obtain ⟨⟨nq,osq⟩,hw''⟩:=hw';subst hw''
 go_wp2_with fail
 go_ret
 rw [← hwq,alloc_eq_grow,alloc_eq_grow];refine ⟨rfl,nq,#[Obj.cells #[Value.int .u64 k,v1] 37]++#[Obj.cells #[Value.int .u64 k',u1] 37]++osq,?_⟩;show grow (grow (grow (W.drewN nq) _) _) osq=_;simp only [grow_grow]
theorem Kt:qE Tryz.prog yC:=by
 intro W c x y hc;have hlt:c<W.heap.size:=by
  rcases ck c W.heap.size with h | h
  · exact h
  · simp [World.cell?,Array.getElem?_eq_none h] at hc
 obtain ⟨xs,xl,xo,xk,xh⟩:=x;obtain ⟨ys,yl,yo,yk,yh⟩:=y;simp only [yC] at xs xl xh ys yl yh hc ⊢;obtain ⟨a0,a1,rfl⟩:∃ a0 a1,xs=[a0,a1]:=by
  match xs,xl with
  | [a0,a1],_=>exact ⟨a0,a1,rfl⟩
 obtain ⟨b0,b1,rfl⟩:∃ b0 b1,ys=[b0,b1]:=by
  match ys,yl with
  | [b0,b1],_=>exact ⟨b0,b1,rfl⟩
 simp only [List.getElem?_cons_zero,bd] at xh yh;subst xh; subst yh;exact N8 xk a1 (xo _ (by simp)) yk b1 (yo _ (by simp)) c W hc hlt
set_option maxHeartbeats 2000000 in
theorem TH (k:Int)(v1 v2 v3 v4:Value)(h1:v1.oneCell'=true)(h2:v2.oneCell'=true)(h3:v3.oneCell'=true)(h4:v4.oneCell'=true)(W:World) :
 Calls Tryz.prog 65 #[.agg #[Value.int .u64 k,v1,v2,v3,v4]] W fun e w'=>e=.returned (.int .u64 k)/\∃ q os,w'=grow (W.drewN q) os:=by
 go_enter Tryz.func65,Tryz.ntmps65
 go_wp2
 go_ret
 exact ⟨rfl,0,_,by rw [alloc_eq_grow]; rfl⟩
set_option maxHeartbeats 4000000 in
theorem N9 (k:Int)(v1 v2 v3 v4:Value)(h1:v1.oneCell'=true)(h2:v2.oneCell'=true)(h3:v3.oneCell'=true)(h4:v4.oneCell'=true)(k':Int)(u1 u2 u3 u4:Value)(g1:u1.oneCell'=true)(g2:u2.oneCell'=true)(g3:u3.oneCell'=true)(g4:u4.oneCell'=true)(c:Nat)(W:World)(hc:W.cell? ⟨c,0,none⟩=some (.func (.func 65) #[] #[]))(hlt:c<W.heap.size) :
 Calls Tryz.prog 113 #[.agg #[Value.int .u64 k,v1,v2,v3,v4],.agg #[Value.int .u64 k',u1,u2,u3,u4],.pointer (some ⟨c,0,none⟩)] W fun e w'=>e=.returned (.int .i64 (xD k k'))/\∃ q os,w'=grow (W.drewN q) os:=by
 have Hc:=(show Hid _ from hc);have Hn1:=(show Hid _ from fun W=>TH k v1 v2 v3 v4 h1 h2 h3 h4 W);have Hn2:=(show Hid _ from fun W=>TH k' u1 u2 u3 u4 g1 g2 g3 g4 W);have Hn3:=(show Hid _ from fun W=>yT k k' W);have mixed:Tryz.prog.follows .mixedOrders=true:=by kernel_rfl
 clear hc;generalize xD k k'=r at *
 go_enter Tryz.func113,Tryz.ntmps113
 go_wp2_with fail
 generalize hwq:((W.alloc (Obj.cells #[Value.int .u64 k,v1,v2,v3,v4] 40)).alloc (Obj.cells #[Value.int .u64 k',u1,u2,u3,u4] 40))=wq;have lc:=EX hwq Hc.out hlt;have m0:=iT hwq 0 (Value.int .u64 k) rfl;have m1:=iT hwq 1 (v1) rfl;have m2:=iT hwq 2 (v2) rfl;have m3:=iT hwq 3 (v3) rfl;have m4:=iT hwq 4 (v4) rfl;have p0:=iU hwq 0 (Value.int .u64 k') rfl;have p1:=iU hwq 1 (u1) rfl;have p2:=iU hwq 2 (u2) rfl;have p3:=iU hwq 3 (u3) rfl;have p4:=iU hwq 4 (u4) rfl;refine wp_region_quiet_grown (by assumption) (by kernel_rfl) ?_
 quiet_step (fail)
 quiet_step (fail)
 quiet_step (refine Calls.grown_of (Hn1.out _))
 quiet_step (fail)
 quiet_step (fail)
 quiet_step (refine Calls.grown_of (Hn2.out _))
 quiet_step (refine Calls.grown_of ((Hn3.out _).mono fun e w' ⟨h1,q,h2⟩=>⟨h1,q,#[],by rw [grow_empty]; exact h2⟩))
 quiet_step (fail)
 refine wpQuiet_nil ?_;intro _ hw';obtain ⟨⟨nq,osq⟩,hw''⟩:=hw';subst hw''
 go_wp2_with fail
 go_ret
 rw [← hwq,alloc_eq_grow,alloc_eq_grow];refine ⟨rfl,nq,#[Obj.cells #[Value.int .u64 k,v1,v2,v3,v4] 40]++#[Obj.cells #[Value.int .u64 k',u1,u2,u3,u4] 40]++osq,?_⟩;show grow (grow (grow (W.drewN nq) _) _) osq=_;simp only [grow_grow]
theorem Ku:qE Tryz.prog yA:=by
 intro W c x y hc;have hlt:c<W.heap.size:=by
  rcases ck c W.heap.size with h | h
  · exact h
  · simp [World.cell?,Array.getElem?_eq_none h] at hc
 obtain ⟨xs,xl,xo,xk,xh⟩:=x;obtain ⟨ys,yl,yo,yk,yh⟩:=y;simp only [yA] at xs xl xh ys yl yh hc ⊢;obtain ⟨a0,a1,a2,a3,a4,rfl⟩:∃ a0 a1 a2 a3 a4,xs=[a0,a1,a2,a3,a4]:=by
  match xs,xl with
  | [a0,a1,a2,a3,a4],_=>exact ⟨a0,a1,a2,a3,a4,rfl⟩
 obtain ⟨b0,b1,b2,b3,b4,rfl⟩:∃ b0 b1 b2 b3 b4,ys=[b0,b1,b2,b3,b4]:=by
  match ys,yl with
  | [b0,b1,b2,b3,b4],_=>exact ⟨b0,b1,b2,b3,b4,rfl⟩
 simp only [List.getElem?_cons_zero,bd] at xh yh;subst xh; subst yh;exact N9 xk a1 a2 a3 a4 (xo _ (by simp)) (xo _ (by simp)) (xo _ (by simp)) (xo _ (by simp)) yk b1 b2 b3 b4 (yo _ (by simp)) (yo _ (by simp)) (yo _ (by simp)) (yo _ (by simp)) c W hc hlt
