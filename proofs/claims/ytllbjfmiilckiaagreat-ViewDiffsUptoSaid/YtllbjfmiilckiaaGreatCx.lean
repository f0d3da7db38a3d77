/- The comparisons of config.with, walked. -/
import Derived.WalkKit
import Derived.Test.YtllbjfmiilckiaaGreatYt0
import Derived.Shelf.SlSortCmp.WholeK
import Derived.KernelRfl
set_option maxHeartbeats 4000000
set_option maxRecDepth 100000
set_option linter.unusedVariables false
namespace Go.Proofs.YtllbjfmiilckiaaGreat
open Go.RowKit Go.Sort Go.Shelf Go.Lib
theorem Gs (a:Int)(W:World):Calls Tryz.prog 208 #[.int .u64 a] W λe w'=>e=.returned (.bool false)/\w'=W:=by
 go_enter Tryz.func208,Tryz.ntmps208
 go_wp2
 go_ret
 exact ⟨rfl,rfl⟩
def vB (a b:Int):Int:=if a<b then -1 else if b<a then 1 else 0
theorem wV (a b:Int)(W:World):Calls Tryz.prog 149 #[.int .u64 a,.int .u64 b] W λe w'=>e=.returned (.int .i64 (vB a b))/\∃ q,w'=W.drewN q:=by
 have n1:=λW=>Gs a W;have n2:=λW=>Gs b W;unfold vB;by_cases h1:a<b
 . simp only [h1,if_true]
   go_enter Tryz.func149,Tryz.ntmps149
   go_wp2_with (go_at_call 208; first | (refine (n1 _).mono ?_; rintro e w' ⟨rfl,rfl⟩) | (refine (n2 _).mono ?_; rintro e w' ⟨rfl,rfl⟩))
   go_ret
   exact ⟨rfl,0,rfl⟩
 . by_cases h2:b<a
   . simp only [h1,h2,if_true,if_false]
     go_enter Tryz.func149,Tryz.ntmps149
     go_wp2_with (go_at_call 208; first | (refine (n1 _).mono ?_; rintro e w' ⟨rfl,rfl⟩) | (refine (n2 _).mono ?_; rintro e w' ⟨rfl,rfl⟩))
     go_ret
     exact ⟨rfl,0,rfl⟩
   . simp only [h1,h2,if_false]
     go_enter Tryz.func149,Tryz.ntmps149
     go_wp2_with (go_at_call 208; first | (refine (n1 _).mono ?_; rintro e w' ⟨rfl,rfl⟩) | (refine (n2 _).mono ?_; rintro e w' ⟨rfl,rfl⟩))
     go_ret
     exact ⟨rfl,0,rfl⟩
theorem H6 {W wq:World}{A B:Array Value}{t:TypeId}(h:(W.alloc (Obj.cells A t)).alloc (Obj.cells B t)=wq):wq.heap.size=W.heap.size+2/\wq.heap[W.heap.size]?=some (Obj.cells A t)/\wq.heap[W.heap.size+1]?=some (Obj.cells B t):=by
 subst h;refine ⟨by rw [World.size_alloc,World.size_alloc],?_,?_⟩
 . rw [Below.heap_alloc _ _ _ (by rw [World.size_alloc]; exact Nat.lt_succ_self _)];show (W.heap.push _)[W.heap.size]?=_;simp
 . show ((W.heap.push _).push _)[W.heap.size+1]?=_;rw [Array.getElem?_push,if_pos (by simp)]
theorem ic {W wq:World}{A B:Array Value}{t:TypeId}(h:(W.alloc (Obj.cells A t)).alloc (Obj.cells B t)=wq)(j:Nat)(v:Value)(hv:A[j]?=some v)(n:Nat)(os:Array Obj):(grow (wq.drewN n) os).cell? ⟨W.heap.size,j,none⟩=some v:=by
 obtain ⟨h1,h2,_⟩:=H6 h;exact cell_grown (by show W.heap.size<_; omega) (by simp only [World.cell?,h2]; exact hv) n os
theorem ig {W wq:World}{A B:Array Value}{t:TypeId}(h:(W.alloc (Obj.cells A t)).alloc (Obj.cells B t)=wq)(j:Nat)(v:Value)(hv:B[j]?=some v)(n:Nat)(os:Array Obj):(grow (wq.drewN n) os).cell? ⟨W.heap.size+1,j,none⟩=some v:=by
 obtain ⟨h1,_,h2⟩:=H6 h;exact cell_grown (by show W.heap.size+1<_; omega) (by simp only [World.cell?,h2]; exact hv) n os
theorem CU {W wq:World}{A B:Array Value}{t:TypeId}(h:(W.alloc (Obj.cells A t)).alloc (Obj.cells B t)=wq){c:Nat}{v:Value}(hc:W.cell? ⟨c,0,none⟩=some v)(hlt:c<W.heap.size)(n:Nat)(os:Array Obj):(grow (wq.drewN n) os).cell? ⟨c,0,none⟩=some v:=by
 obtain ⟨h1,_⟩:=H6 h;subst h;refine cell_grown (by show c<_; omega) ?_ n os;rw [← hc];simp only [World.cell?];rw [Below.heap_alloc _ _ _ (by rw [World.size_alloc]; exact Nat.lt_succ_of_lt hlt),Below.heap_alloc _ _ _ hlt]
theorem TR (k:Int)(v1 v2 v3 v4 v5 v6:Value)(h1:v1.oneCell'=true)(h2:v2.oneCell'=true)(h3:v3.oneCell'=true)(h4:v4.oneCell'=true)(h5:v5.oneCell'=true)(h6:v6.oneCell'=true)(W:World) :
 Calls Tryz.prog 38 #[.agg #[Value.int .u64 k,v1,v2,v3,v4,v5,v6]] W λe w'=>e=.returned (.int .u64 k)/\∃ q os,w'=grow (W.drewN q) os:=by
 go_enter Tryz.func38,Tryz.ntmps38
 go_wp2
 go_ret
 exact ⟨rfl,0,_,by rw [alloc_eq_grow]; rfl⟩
theorem ML (k:Int)(v1 v2 v3 v4 v5 v6:Value)(h1:v1.oneCell'=true)(h2:v2.oneCell'=true)(h3:v3.oneCell'=true)(h4:v4.oneCell'=true)(h5:v5.oneCell'=true)(h6:v6.oneCell'=true)(k':Int)(u1 u2 u3 u4 u5 u6:Value)(g1:u1.oneCell'=true)(g2:u2.oneCell'=true)(g3:u3.oneCell'=true)(g4:u4.oneCell'=true)(g5:u5.oneCell'=true)(g6:u6.oneCell'=true)(c:Nat)(W:World)(hc:W.cell? ⟨c,0,none⟩=some (.func (.func 38) #[] #[]))(hlt:c<W.heap.size) :
 Calls Tryz.prog 148 #[.agg #[Value.int .u64 k,v1,v2,v3,v4,v5,v6],.agg #[Value.int .u64 k',u1,u2,u3,u4,u5,u6],.pointer (some ⟨c,0,none⟩)] W λe w'=>e=.returned (.int .i64 (vB k k'))/\∃ q os,w'=grow (W.drewN q) os:=by
 have Hc:=(show Hid _ from hc);have Hn1:=(show Hid _ from λW=>TR k v1 v2 v3 v4 v5 v6 h1 h2 h3 h4 h5 h6 W);have Hn2:=(show Hid _ from λW=>TR k' u1 u2 u3 u4 u5 u6 g1 g2 g3 g4 g5 g6 W);have Hn3:=(show Hid _ from λW=>wV k k' W);have mixed:Tryz.prog.follows .mixedOrders=true:=by kernel_rfl
 clear hc;generalize vB k k'=r at *
 go_enter Tryz.func148,Tryz.ntmps148
 go_wp2_with fail
 generalize hwq:((W.alloc (Obj.cells #[Value.int .u64 k,v1,v2,v3,v4,v5,v6] 58)).alloc (Obj.cells #[Value.int .u64 k',u1,u2,u3,u4,u5,u6] 58))=wq;have lc:=CU hwq Hc.out hlt;have m0:=ic hwq 0 (Value.int .u64 k) rfl;have m1:=ic hwq 1 (v1) rfl;have m2:=ic hwq 2 (v2) rfl;have m3:=ic hwq 3 (v3) rfl;have m4:=ic hwq 4 (v4) rfl;have m5:=ic hwq 5 (v5) rfl;have m6:=ic hwq 6 (v6) rfl;have p0:=ig hwq 0 (Value.int .u64 k') rfl;have p1:=ig hwq 1 (u1) rfl;have p2:=ig hwq 2 (u2) rfl;have p3:=ig hwq 3 (u3) rfl;have p4:=ig hwq 4 (u4) rfl;have p5:=ig hwq 5 (u5) rfl;have p6:=ig hwq 6 (u6) rfl;refine wp_region_quiet_grown (by assumption) (by kernel_rfl) ?_
 quiet_step (fail)
 quiet_step (fail)
 quiet_step (refine Calls.grown_of (Hn1.out _))
 quiet_step (fail)
 quiet_step (fail)
 quiet_step (refine Calls.grown_of (Hn2.out _))
 quiet_step (refine Calls.grown_of ((Hn3.out _).mono λe w' ⟨h1,q,h2⟩=>⟨h1,q,#[],by rw [grow_empty]; exact h2⟩))
 quiet_step (fail)
 refine wpQuiet_nil ?_;intro _ hw';obtain ⟨⟨nq,osq⟩,hw''⟩:=hw';subst hw''
 go_wp2_with fail
 go_ret
 rw [← hwq,alloc_eq_grow,alloc_eq_grow];refine ⟨rfl,nq,#[Obj.cells #[Value.int .u64 k,v1,v2,v3,v4,v5,v6] 58]++#[Obj.cells #[Value.int .u64 k',u1,u2,u3,u4,u5,u6] 58]++osq,?_⟩;show grow (grow (grow (W.drewN nq) _) _) osq=_;simp only [grow_grow]
theorem IM:oq Tryz.prog zU:=by
 intro W c x y hc;have hlt:c<W.heap.size:=by
  obtain h | h:=cr c W.heap.size
  . exact h
  . simp [World.cell?,Array.getElem?_eq_none h] at hc
 obtain ⟨xs,xl,xo,xk,xh⟩:=x;obtain ⟨ys,yl,yo,yk,yh⟩:=y;simp only [zU] at xs xl xh ys yl yh hc ⊢;obtain ⟨a0,a1,a2,a3,a4,a5,a6,rfl⟩:∃ a0 a1 a2 a3 a4 a5 a6,xs=[a0,a1,a2,a3,a4,a5,a6]:=by
  match xs,xl with
  | [a0,a1,a2,a3,a4,a5,a6],_=>exact ⟨a0,a1,a2,a3,a4,a5,a6,rfl⟩
 obtain ⟨b0,b1,b2,b3,b4,b5,b6,rfl⟩:∃ b0 b1 b2 b3 b4 b5 b6,ys=[b0,b1,b2,b3,b4,b5,b6]:=by
  match ys,yl with
  | [b0,b1,b2,b3,b4,b5,b6],_=>exact ⟨b0,b1,b2,b3,b4,b5,b6,rfl⟩
 simp only [List.getElem?_cons_zero,bd] at xh yh;subst xh; subst yh;exact ML xk a1 a2 a3 a4 a5 a6 (xo _ (by simp)) (xo _ (by simp)) (xo _ (by simp)) (xo _ (by simp)) (xo _ (by simp)) (xo _ (by simp)) yk b1 b2 b3 b4 b5 b6 (yo _ (by simp)) (yo _ (by simp)) (yo _ (by simp)) (yo _ (by simp)) (yo _ (by simp)) (yo _ (by simp)) c W hc hlt
theorem TS (k:Int)(v1 v2 v3 v4:Value)(h1:v1.oneCell'=true)(h2:v2.oneCell'=true)(h3:v3.oneCell'=true)(h4:v4.oneCell'=true)(W:World) :
 Calls Tryz.prog 40 #[.agg #[Value.int .u64 k,v1,v2,v3,v4]] W λe w'=>e=.returned (.int .u64 k)/\∃ q os,w'=grow (W.drewN q) os:=by
 go_enter Tryz.func40,Tryz.ntmps40
 go_wp2
 go_ret
 exact ⟨rfl,0,_,by rw [alloc_eq_grow]; rfl⟩
theorem MM (k:Int)(v1 v2 v3 v4:Value)(h1:v1.oneCell'=true)(h2:v2.oneCell'=true)(h3:v3.oneCell'=true)(h4:v4.oneCell'=true)(k':Int)(u1 u2 u3 u4:Value)(g1:u1.oneCell'=true)(g2:u2.oneCell'=true)(g3:u3.oneCell'=true)(g4:u4.oneCell'=true)(c:Nat)(W:World)(hc:W.cell? ⟨c,0,none⟩=some (.func (.func 40) #[] #[]))(hlt:c<W.heap.size) :
 Calls Tryz.prog 153 #[.agg #[Value.int .u64 k,v1,v2,v3,v4],.agg #[Value.int .u64 k',u1,u2,u3,u4],.pointer (some ⟨c,0,none⟩)] W λe w'=>e=.returned (.int .i64 (vB k k'))/\∃ q os,w'=grow (W.drewN q) os:=by
 have Hc:=(show Hid _ from hc);have Hn1:=(show Hid _ from λW=>TS k v1 v2 v3 v4 h1 h2 h3 h4 W);have Hn2:=(show Hid _ from λW=>TS k' u1 u2 u3 u4 g1 g2 g3 g4 W);have Hn3:=(show Hid _ from λW=>wV k k' W);have mixed:Tryz.prog.follows .mixedOrders=true:=by kernel_rfl
 clear hc;generalize vB k k'=r at *
 go_enter Tryz.func153,Tryz.ntmps153
 go_wp2_with fail
 generalize hwq:((W.alloc (Obj.cells #[Value.int .u64 k,v1,v2,v3,v4] 60)).alloc (Obj.cells #[Value.int .u64 k',u1,u2,u3,u4] 60))=wq;have lc:=CU hwq Hc.out hlt;have m0:=ic hwq 0 (Value.int .u64 k) rfl;have m1:=ic hwq 1 (v1) rfl;have m2:=ic hwq 2 (v2) rfl;have m3:=ic hwq 3 (v3) rfl;have m4:=ic hwq 4 (v4) rfl;have p0:=ig hwq 0 (Value.int .u64 k') rfl;have p1:=ig hwq 1 (u1) rfl;have p2:=ig hwq 2 (u2) rfl;have p3:=ig hwq 3 (u3) rfl;have p4:=ig hwq 4 (u4) rfl;refine wp_region_quiet_grown (by assumption) (by kernel_rfl) ?_
 quiet_step (fail)
 quiet_step (fail)
 quiet_step (refine Calls.grown_of (Hn1.out _))
 quiet_step (fail)
 quiet_step (fail)
 quiet_step (refine Calls.grown_of (Hn2.out _))
 quiet_step (refine Calls.grown_of ((Hn3.out _).mono λe w' ⟨h1,q,h2⟩=>⟨h1,q,#[],by rw [grow_empty]; exact h2⟩))
 quiet_step (fail)
 refine wpQuiet_nil ?_;intro _ hw';obtain ⟨⟨nq,osq⟩,hw''⟩:=hw';subst hw''
 go_wp2_with fail
 go_ret
 rw [← hwq,alloc_eq_grow,alloc_eq_grow];refine ⟨rfl,nq,#[Obj.cells #[Value.int .u64 k,v1,v2,v3,v4] 60]++#[Obj.cells #[Value.int .u64 k',u1,u2,u3,u4] 60]++osq,?_⟩;show grow (grow (grow (W.drewN nq) _) _) osq=_;simp only [grow_grow]
theorem IP:oq Tryz.prog zW:=by
 intro W c x y hc;have hlt:c<W.heap.size:=by
  obtain h | h:=cr c W.heap.size
  . exact h
  . simp [World.cell?,Array.getElem?_eq_none h] at hc
 obtain ⟨xs,xl,xo,xk,xh⟩:=x;obtain ⟨ys,yl,yo,yk,yh⟩:=y;simp only [zW] at xs xl xh ys yl yh hc ⊢;obtain ⟨a0,a1,a2,a3,a4,rfl⟩:∃ a0 a1 a2 a3 a4,xs=[a0,a1,a2,a3,a4]:=by
  match xs,xl with
  | [a0,a1,a2,a3,a4],_=>exact ⟨a0,a1,a2,a3,a4,rfl⟩
 obtain ⟨b0,b1,b2,b3,b4,rfl⟩:∃ b0 b1 b2 b3 b4,ys=[b0,b1,b2,b3,b4]:=by
  match ys,yl with
  | [b0,b1,b2,b3,b4],_=>exact ⟨b0,b1,b2,b3,b4,rfl⟩
 simp only [List.getElem?_cons_zero,bd] at xh yh;subst xh; subst yh;exact MM xk a1 a2 a3 a4 (xo _ (by simp)) (xo _ (by simp)) (xo _ (by simp)) (xo _ (by simp)) yk b1 b2 b3 b4 (yo _ (by simp)) (yo _ (by simp)) (yo _ (by simp)) (yo _ (by simp)) c W hc hlt
theorem TU (k:Int)(v1:Value)(h1:v1.oneCell'=true)(W:World) :
 Calls Tryz.prog 42 #[.agg #[Value.int .u64 k,v1]] W λe w'=>e=.returned (.int .u64 k)/\∃ q os,w'=grow (W.drewN q) os:=by
 go_enter Tryz.func42,Tryz.ntmps42
 go_wp2
 go_ret
 exact ⟨rfl,0,_,by rw [alloc_eq_grow]; rfl⟩
theorem MN (k:Int)(v1:Value)(h1:v1.oneCell'=true)(k':Int)(u1:Value)(g1:u1.oneCell'=true)(c:Nat)(W:World)(hc:W.cell? ⟨c,0,none⟩=some (.func (.func 42) #[] #[]))(hlt:c<W.heap.size) :
 Calls Tryz.prog 157 #[.agg #[Value.int .u64 k,v1],.agg #[Value.int .u64 k',u1],.pointer (some ⟨c,0,none⟩)] W λe w'=>e=.returned (.int .i64 (vB k k'))/\∃ q os,w'=grow (W.drewN q) os:=by
 have Hc:=(show Hid _ from hc);have Hn1:=(show Hid _ from λW=>TU k v1 h1 W);have Hn2:=(show Hid _ from λW=>TU k' u1 g1 W);have Hn3:=(show Hid _ from λW=>wV k k' W);have mixed:Tryz.prog.follows .mixedOrders=true:=by kernel_rfl
 clear hc;generalize vB k k'=r at *
 go_enter Tryz.func157,Tryz.ntmps157
 go_wp2_with fail
 generalize hwq:((W.alloc (Obj.cells #[Value.int .u64 k,v1] 62)).alloc (Obj.cells #[Value.int .u64 k',u1] 62))=wq;have lc:=CU hwq Hc.out hlt;have m0:=ic hwq 0 (Value.int .u64 k) rfl;have m1:=ic hwq 1 (v1) rfl;have p0:=ig hwq 0 (Value.int .u64 k') rfl;have p1:=ig hwq 1 (u1) rfl;refine wp_region_quiet_grown (by assumption) (by kernel_rfl) ?_
 quiet_step (fail)
 quiet_step (fail)
 quiet_step (refine Calls.grown_of (Hn1.out _))
 quiet_step (fail)
 quiet_step (fail)
 quiet_step (refine Calls.grown_of (Hn2.out _))
 quiet_step (refine Calls.grown_of ((Hn3.out _).mono λe w' ⟨h1,q,h2⟩=>⟨h1,q,#[],by rw [grow_empty]; exact h2⟩))
 quiet_step (fail)
 refine wpQuiet_nil ?_;intro _ hw';obtain ⟨⟨nq,osq⟩,hw''⟩:=hw';subst hw''
 go_wp2_with fail
 go_ret
 rw [← hwq,alloc_eq_grow,alloc_eq_grow];refine ⟨rfl,nq,#[Obj.cells #[Value.int .u64 k,v1] 62]++#[Obj.cells #[Value.int .u64 k',u1] 62]++osq,?_⟩;show grow (grow (grow (W.drewN nq) _) _) osq=_;simp only [grow_grow]
theorem IQ:oq Tryz.prog zX:=by
 intro W c x y hc;have hlt:c<W.heap.size:=by
  obtain h | h:=cr c W.heap.size
  . exact h
  . simp [World.cell?,Array.getElem?_eq_none h] at hc
 obtain ⟨xs,xl,xo,xk,xh⟩:=x;obtain ⟨ys,yl,yo,yk,yh⟩:=y;simp only [zX] at xs xl xh ys yl yh hc ⊢;obtain ⟨a0,a1,rfl⟩:∃ a0 a1,xs=[a0,a1]:=by
  match xs,xl with
  | [a0,a1],_=>exact ⟨a0,a1,rfl⟩
 obtain ⟨b0,b1,rfl⟩:∃ b0 b1,ys=[b0,b1]:=by
  match ys,yl with
  | [b0,b1],_=>exact ⟨b0,b1,rfl⟩
 simp only [List.getElem?_cons_zero,bd] at xh yh;subst xh; subst yh;exact MN xk a1 (xo _ (by simp)) yk b1 (yo _ (by simp)) c W hc hlt
theorem TV (k:Int)(v1 v2 v3 v4:Value)(h1:v1.oneCell'=true)(h2:v2.oneCell'=true)(h3:v3.oneCell'=true)(h4:v4.oneCell'=true)(W:World) :
 Calls Tryz.prog 44 #[.agg #[Value.int .u64 k,v1,v2,v3,v4]] W λe w'=>e=.returned (.int .u64 k)/\∃ q os,w'=grow (W.drewN q) os:=by
 go_enter Tryz.func44,Tryz.ntmps44
 go_wp2
 go_ret
 exact ⟨rfl,0,_,by rw [alloc_eq_grow]; rfl⟩
theorem MO (k:Int)(v1 v2 v3 v4:Value)(h1:v1.oneCell'=true)(h2:v2.oneCell'=true)(h3:v3.oneCell'=true)(h4:v4.oneCell'=true)(k':Int)(u1 u2 u3 u4:Value)(g1:u1.oneCell'=true)(g2:u2.oneCell'=true)(g3:u3.oneCell'=true)(g4:u4.oneCell'=true)(c:Nat)(W:World)(hc:W.cell? ⟨c,0,none⟩=some (.func (.func 44) #[] #[]))(hlt:c<W.heap.size) :
 Calls Tryz.prog 161 #[.agg #[Value.int .u64 k,v1,v2,v3,v4],.agg #[Value.int .u64 k',u1,u2,u3,u4],.pointer (some ⟨c,0,none⟩)] W λe w'=>e=.returned (.int .i64 (vB k k'))/\∃ q os,w'=grow (W.drewN q) os:=by
 have Hc:=(show Hid _ from hc);have Hn1:=(show Hid _ from λW=>TV k v1 v2 v3 v4 h1 h2 h3 h4 W);have Hn2:=(show Hid _ from λW=>TV k' u1 u2 u3 u4 g1 g2 g3 g4 W);have Hn3:=(show Hid _ from λW=>wV k k' W);have mixed:Tryz.prog.follows .mixedOrders=true:=by kernel_rfl
 clear hc;generalize vB k k'=r at *
 go_enter Tryz.func161,Tryz.ntmps161
 go_wp2_with fail
 generalize hwq:((W.alloc (Obj.cells #[Value.int .u64 k,v1,v2,v3,v4] 71)).alloc (Obj.cells #[Value.int .u64 k',u1,u2,u3,u4] 71))=wq;have lc:=CU hwq Hc.out hlt;have m0:=ic hwq 0 (Value.int .u64 k) rfl;have m1:=ic hwq 1 (v1) rfl;have m2:=ic hwq 2 (v2) rfl;have m3:=ic hwq 3 (v3) rfl;have m4:=ic hwq 4 (v4) rfl;have p0:=ig hwq 0 (Value.int .u64 k') rfl;have p1:=ig hwq 1 (u1) rfl;have p2:=ig hwq 2 (u2) rfl;have p3:=ig hwq 3 (u3) rfl;have p4:=ig hwq 4 (u4) rfl;refine wp_region_quiet_grown (by assumption) (by kernel_rfl) ?_
 quiet_step (fail)
 quiet_step (fail)
 quiet_step (refine Calls.grown_of (Hn1.out _))
 quiet_step (fail)
 quiet_step (fail)
 quiet_step (refine Calls.grown_of (Hn2.out _))
 quiet_step (refine Calls.grown_of ((Hn3.out _).mono λe w' ⟨h1,q,h2⟩=>⟨h1,q,#[],by rw [grow_empty]; exact h2⟩))
 quiet_step (fail)
 refine wpQuiet_nil ?_;intro _ hw';obtain ⟨⟨nq,osq⟩,hw''⟩:=hw';subst hw''
 go_wp2_with fail
 go_ret
 rw [← hwq,alloc_eq_grow,alloc_eq_grow];refine ⟨rfl,nq,#[Obj.cells #[Value.int .u64 k,v1,v2,v3,v4] 71]++#[Obj.cells #[Value.int .u64 k',u1,u2,u3,u4] 71]++osq,?_⟩;show grow (grow (grow (W.drewN nq) _) _) osq=_;simp only [grow_grow]
theorem IR:oq Tryz.prog zV:=by
 intro W c x y hc;have hlt:c<W.heap.size:=by
  obtain h | h:=cr c W.heap.size
  . exact h
  . simp [World.cell?,Array.getElem?_eq_none h] at hc
 obtain ⟨xs,xl,xo,xk,xh⟩:=x;obtain ⟨ys,yl,yo,yk,yh⟩:=y;simp only [zV] at xs xl xh ys yl yh hc ⊢;obtain ⟨a0,a1,a2,a3,a4,rfl⟩:∃ a0 a1 a2 a3 a4,xs=[a0,a1,a2,a3,a4]:=by
  match xs,xl with
  | [a0,a1,a2,a3,a4],_=>exact ⟨a0,a1,a2,a3,a4,rfl⟩
 obtain ⟨b0,b1,b2,b3,b4,rfl⟩:∃ b0 b1 b2 b3 b4,ys=[b0,b1,b2,b3,b4]:=by
  match ys,yl with
  | [b0,b1,b2,b3,b4],_=>exact ⟨b0,b1,b2,b3,b4,rfl⟩
 simp only [List.getElem?_cons_zero,bd] at xh yh;subst xh; subst yh;exact MO xk a1 a2 a3 a4 (xo _ (by simp)) (xo _ (by simp)) (xo _ (by simp)) (xo _ (by simp)) yk b1 b2 b3 b4 (yo _ (by simp)) (yo _ (by simp)) (yo _ (by simp)) (yo _ (by simp)) c W hc hlt
