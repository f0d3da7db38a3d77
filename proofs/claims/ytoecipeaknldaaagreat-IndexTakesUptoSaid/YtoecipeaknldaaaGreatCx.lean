/- The comparisons of config.with, walked. -/
import Derived.WalkKit
import Derived.Test.YtoecipeaknldaaaGreatYt0
import Derived.Shelf.SlSortCmp.WholeK
import Derived.KernelRfl
set_option maxHeartbeats 4000000
set_option maxRecDepth 100000
set_option linter.unusedVariables false
namespace Go.Proofs.YtoecipeaknldaaaGreat
open Go.RowKit Go.Sort Go.Shelf Go.Lib
theorem Gw (a:Int)(W:World):Calls Tryz.prog 153 #[.int .u64 a] W λe w'=>e=.returned (.bool false)/\w'=W:=by
 go_enter Tryz.func153,Tryz.ntmps153
 go_wp2
 go_ret
 exact ⟨rfl,rfl⟩
def vL (a b:Int):Int:=if a<b then -1 else if b<a then 1 else 0
theorem Co (a b:Int)(W:World):Calls Tryz.prog 99 #[.int .u64 a,.int .u64 b] W λe w'=>e=.returned (.int .i64 (vL a b))/\∃ q,w'=W.drewN q:=by
 have n1:=λW=>Gw a W;have n2:=λW=>Gw b W;unfold vL;by_cases h1:a<b
 . simp only [h1,if_true]
   go_enter Tryz.func99,Tryz.ntmps99
   go_wp2_with (go_at_call 153; first | (refine (n1 _).mono ?_; rintro e w' ⟨rfl,rfl⟩) | (refine (n2 _).mono ?_; rintro e w' ⟨rfl,rfl⟩))
   go_ret
   exact ⟨rfl,0,rfl⟩
 . by_cases h2:b<a
   . simp only [h1,h2,if_true,if_false]
     go_enter Tryz.func99,Tryz.ntmps99
     go_wp2_with (go_at_call 153; first | (refine (n1 _).mono ?_; rintro e w' ⟨rfl,rfl⟩) | (refine (n2 _).mono ?_; rintro e w' ⟨rfl,rfl⟩))
     go_ret
     exact ⟨rfl,0,rfl⟩
   . simp only [h1,h2,if_false]
     go_enter Tryz.func99,Tryz.ntmps99
     go_wp2_with (go_at_call 153; first | (refine (n1 _).mono ?_; rintro e w' ⟨rfl,rfl⟩) | (refine (n2 _).mono ?_; rintro e w' ⟨rfl,rfl⟩))
     go_ret
     exact ⟨rfl,0,rfl⟩
theorem Ik {W wq:World}{A B:Array Value}{t:TypeId}(h:(W.alloc (Obj.cells A t)).alloc (Obj.cells B t)=wq):wq.heap.size=W.heap.size+2/\wq.heap[W.heap.size]?=some (Obj.cells A t)/\wq.heap[W.heap.size+1]?=some (Obj.cells B t):=by
 subst h;refine ⟨by rw [World.size_alloc,World.size_alloc],?_,?_⟩
 . rw [Below.heap_alloc _ _ _ (by rw [World.size_alloc]; exact Nat.lt_succ_self _)];show (W.heap.push _)[W.heap.size]?=_;simp
 . show ((W.heap.push _).push _)[W.heap.size+1]?=_;rw [Array.getElem?_push,if_pos (by simp)]
theorem iI {W wq:World}{A B:Array Value}{t:TypeId}(h:(W.alloc (Obj.cells A t)).alloc (Obj.cells B t)=wq)(j:Nat)(v:Value)(hv:A[j]?=some v)(n:Nat)(os:Array Obj):(grow (wq.drewN n) os).cell? ⟨W.heap.size,j,none⟩=some v:=by
 obtain ⟨h1,h2,_⟩:=Ik h;exact cell_grown (by show W.heap.size<_; omega) (by simp only [World.cell?,h2]; exact hv) n os
theorem iJ {W wq:World}{A B:Array Value}{t:TypeId}(h:(W.alloc (Obj.cells A t)).alloc (Obj.cells B t)=wq)(j:Nat)(v:Value)(hv:B[j]?=some v)(n:Nat)(os:Array Obj):(grow (wq.drewN n) os).cell? ⟨W.heap.size+1,j,none⟩=some v:=by
 obtain ⟨h1,_,h2⟩:=Ik h;exact cell_grown (by show W.heap.size+1<_; omega) (by simp only [World.cell?,h2]; exact hv) n os
theorem Db {W wq:World}{A B:Array Value}{t:TypeId}(h:(W.alloc (Obj.cells A t)).alloc (Obj.cells B t)=wq){c:Nat}{v:Value}(hc:W.cell? ⟨c,0,none⟩=some v)(hlt:c<W.heap.size)(n:Nat)(os:Array Obj):(grow (wq.drewN n) os).cell? ⟨c,0,none⟩=some v:=by
 obtain ⟨h1,_⟩:=Ik h;subst h;refine cell_grown (by show c<_; omega) ?_ n os;rw [← hc];simp only [World.cell?];rw [Below.heap_alloc _ _ _ (by rw [World.size_alloc]; exact Nat.lt_succ_of_lt hlt),Below.heap_alloc _ _ _ hlt]
theorem RS (k:Int)(v1 v2 v3 v4 v5 v6:Value)(h1:v1.oneCell'=true)(h2:v2.oneCell'=true)(h3:v3.oneCell'=true)(h4:v4.oneCell'=true)(h5:v5.oneCell'=true)(h6:v6.oneCell'=true)(W:World) :
 Calls Tryz.prog 48 #[.agg #[Value.int .u64 k,v1,v2,v3,v4,v5,v6]] W λe w'=>e=.returned (.int .u64 k)/\∃ q os,w'=grow (W.drewN q) os:=by
 go_enter Tryz.func48,Tryz.ntmps48
 go_wp2
 go_ret
 exact ⟨rfl,0,_,by rw [alloc_eq_grow]; rfl⟩
theorem QP (k:Int)(v1 v2 v3 v4 v5 v6:Value)(h1:v1.oneCell'=true)(h2:v2.oneCell'=true)(h3:v3.oneCell'=true)(h4:v4.oneCell'=true)(h5:v5.oneCell'=true)(h6:v6.oneCell'=true)(k':Int)(u1 u2 u3 u4 u5 u6:Value)(g1:u1.oneCell'=true)(g2:u2.oneCell'=true)(g3:u3.oneCell'=true)(g4:u4.oneCell'=true)(g5:u5.oneCell'=true)(g6:u6.oneCell'=true)(c:Nat)(W:World)(hc:W.cell? ⟨c,0,none⟩=some (.func (.func 48) #[] #[]))(hlt:c<W.heap.size) :
 Calls Tryz.prog 98 #[.agg #[Value.int .u64 k,v1,v2,v3,v4,v5,v6],.agg #[Value.int .u64 k',u1,u2,u3,u4,u5,u6],.pointer (some ⟨c,0,none⟩)] W λe w'=>e=.returned (.int .i64 (vL k k'))/\∃ q os,w'=grow (W.drewN q) os:=by
 have Hc:=(show Hid _ from hc);have Hn1:=(show Hid _ from λW=>RS k v1 v2 v3 v4 v5 v6 h1 h2 h3 h4 h5 h6 W);have Hn2:=(show Hid _ from λW=>RS k' u1 u2 u3 u4 u5 u6 g1 g2 g3 g4 g5 g6 W);have Hn3:=(show Hid _ from λW=>Co k k' W);have mixed:Tryz.prog.follows .mixedOrders=true:=by kernel_rfl
 clear hc;generalize vL k k'=r at *
 go_enter Tryz.func98,Tryz.ntmps98
 go_wp2_with fail
 generalize hwq:((W.alloc (Obj.cells #[Value.int .u64 k,v1,v2,v3,v4,v5,v6] 50)).alloc (Obj.cells #[Value.int .u64 k',u1,u2,u3,u4,u5,u6] 50))=wq;have lc:=Db hwq Hc.out hlt;have m0:=iI hwq 0 (Value.int .u64 k) rfl;have m1:=iI hwq 1 (v1) rfl;have m2:=iI hwq 2 (v2) rfl;have m3:=iI hwq 3 (v3) rfl;have m4:=iI hwq 4 (v4) rfl;have m5:=iI hwq 5 (v5) rfl;have m6:=iI hwq 6 (v6) rfl;have p0:=iJ hwq 0 (Value.int .u64 k') rfl;have p1:=iJ hwq 1 (u1) rfl;have p2:=iJ hwq 2 (u2) rfl;have p3:=iJ hwq 3 (u3) rfl;have p4:=iJ hwq 4 (u4) rfl;have p5:=iJ hwq 5 (u5) rfl;have p6:=iJ hwq 6 (u6) rfl;refine wp_region_quiet_grown (by assumption) (by kernel_rfl) ?_
 quiet_step (fail)
 quiet_step (fail)
 quiet_step (refine Calls.grown_of (Hn1.out _))
 quiet_step (fail)
 quiet_step (fail)
 quiet_step (refine Calls.grown_of (Hn2.out _))
 quiet_step (refine Calls.grown_of ((Hn3.out _).mono λe w' ⟨h1,q,h2⟩=>⟨h1,q,#[],by rw [grow_empty]; exact h2⟩))
 quiet_step (fail)
 refine wpQuiet_nil ?_;intro _ hw';obtain ⟨⟨nq,osq⟩,hw''⟩:=hw';subst hw''
 go_wp2_with fail
 go_ret
 rw [← hwq,alloc_eq_grow,alloc_eq_grow];refine ⟨rfl,nq,#[Obj.cells #[Value.int .u64 k,v1,v2,v3,v4,v5,v6] 50]++#[Obj.cells #[Value.int .u64 k',u1,u2,u3,u4,u5,u6] 50]++osq,?_⟩;show grow (grow (grow (W.drewN nq) _) _) osq=_;simp only [grow_grow]
theorem MH:pK Tryz.prog Aj:=by
 intro W c x y hc;have hlt:c<W.heap.size:=by
  obtain h | h:=cm c W.heap.size
  . exact h
  . simp [World.cell?,Array.getElem?_eq_none h] at hc
 obtain ⟨xs,xl,xo,xk,xh⟩:=x;obtain ⟨ys,yl,yo,yk,yh⟩:=y;simp only [Aj] at xs xl xh ys yl yh hc ⊢;obtain ⟨a0,a1,a2,a3,a4,a5,a6,rfl⟩:∃ a0 a1 a2 a3 a4 a5 a6,xs=[a0,a1,a2,a3,a4,a5,a6]:=by
  match xs,xl with
  | [a0,a1,a2,a3,a4,a5,a6],_=>exact ⟨a0,a1,a2,a3,a4,a5,a6,rfl⟩
 obtain ⟨b0,b1,b2,b3,b4,b5,b6,rfl⟩:∃ b0 b1 b2 b3 b4 b5 b6,ys=[b0,b1,b2,b3,b4,b5,b6]:=by
  match ys,yl with
  | [b0,b1,b2,b3,b4,b5,b6],_=>exact ⟨b0,b1,b2,b3,b4,b5,b6,rfl⟩
 simp only [List.getElem?_cons_zero,bd] at xh yh;subst xh; subst yh;exact QP xk a1 a2 a3 a4 a5 a6 (xo _ (by simp)) (xo _ (by simp)) (xo _ (by simp)) (xo _ (by simp)) (xo _ (by simp)) (xo _ (by simp)) yk b1 b2 b3 b4 b5 b6 (yo _ (by simp)) (yo _ (by simp)) (yo _ (by simp)) (yo _ (by simp)) (yo _ (by simp)) (yo _ (by simp)) c W hc hlt
theorem RU (k:Int)(v1 v2 v3 v4:Value)(h1:v1.oneCell'=true)(h2:v2.oneCell'=true)(h3:v3.oneCell'=true)(h4:v4.oneCell'=true)(W:World) :
 Calls Tryz.prog 50 #[.agg #[Value.int .u64 k,v1,v2,v3,v4]] W λe w'=>e=.returned (.int .u64 k)/\∃ q os,w'=grow (W.drewN q) os:=by
 go_enter Tryz.func50,Tryz.ntmps50
 go_wp2
 go_ret
 exact ⟨rfl,0,_,by rw [alloc_eq_grow]; rfl⟩
theorem Mw (k:Int)(v1 v2 v3 v4:Value)(h1:v1.oneCell'=true)(h2:v2.oneCell'=true)(h3:v3.oneCell'=true)(h4:v4.oneCell'=true)(k':Int)(u1 u2 u3 u4:Value)(g1:u1.oneCell'=true)(g2:u2.oneCell'=true)(g3:u3.oneCell'=true)(g4:u4.oneCell'=true)(c:Nat)(W:World)(hc:W.cell? ⟨c,0,none⟩=some (.func (.func 50) #[] #[]))(hlt:c<W.heap.size) :
 Calls Tryz.prog 105 #[.agg #[Value.int .u64 k,v1,v2,v3,v4],.agg #[Value.int .u64 k',u1,u2,u3,u4],.pointer (some ⟨c,0,none⟩)] W λe w'=>e=.returned (.int .i64 (vL k k'))/\∃ q os,w'=grow (W.drewN q) os:=by
 have Hc:=(show Hid _ from hc);have Hn1:=(show Hid _ from λW=>RU k v1 v2 v3 v4 h1 h2 h3 h4 W);have Hn2:=(show Hid _ from λW=>RU k' u1 u2 u3 u4 g1 g2 g3 g4 W);have Hn3:=(show Hid _ from λW=>Co k k' W);have mixed:Tryz.prog.follows .mixedOrders=true:=by kernel_rfl
 clear hc;generalize vL k k'=r at *
 go_enter Tryz.func105,Tryz.ntmps105
 go_wp2_with fail
 generalize hwq:((W.alloc (Obj.cells #[Value.int .u64 k,v1,v2,v3,v4] 52)).alloc (Obj.cells #[Value.int .u64 k',u1,u2,u3,u4] 52))=wq;have lc:=Db hwq Hc.out hlt;have m0:=iI hwq 0 (Value.int .u64 k) rfl;have m1:=iI hwq 1 (v1) rfl;have m2:=iI hwq 2 (v2) rfl;have m3:=iI hwq 3 (v3) rfl;have m4:=iI hwq 4 (v4) rfl;have p0:=iJ hwq 0 (Value.int .u64 k') rfl;have p1:=iJ hwq 1 (u1) rfl;have p2:=iJ hwq 2 (u2) rfl;have p3:=iJ hwq 3 (u3) rfl;have p4:=iJ hwq 4 (u4) rfl;refine wp_region_quiet_grown (by assumption) (by kernel_rfl) ?_
 quiet_step (fail)
 quiet_step (fail)
 quiet_step (refine Calls.grown_of (Hn1.out _))
 quiet_step (fail)
 quiet_step (fail)
 quiet_step (refine Calls.grown_of (Hn2.out _))
 quiet_step (refine Calls.grown_of ((Hn3.out _).mono λe w' ⟨h1,q,h2⟩=>⟨h1,q,#[],by rw [grow_empty]; exact h2⟩))
 quiet_step (fail)
 refine wpQuiet_nil ?_;intro _ hw';obtain ⟨⟨nq,osq⟩,hw''⟩:=hw';subst hw''
 go_wp2_with fail
 go_ret
 rw [← hwq,alloc_eq_grow,alloc_eq_grow];refine ⟨rfl,nq,#[Obj.cells #[Value.int .u64 k,v1,v2,v3,v4] 52]++#[Obj.cells #[Value.int .u64 k',u1,u2,u3,u4] 52]++osq,?_⟩;show grow (grow (grow (W.drewN nq) _) _) osq=_;simp only [grow_grow]
theorem IZ:pK Tryz.prog Al:=by
 intro W c x y hc;have hlt:c<W.heap.size:=by
  obtain h | h:=cm c W.heap.size
  . exact h
  . simp [World.cell?,Array.getElem?_eq_none h] at hc
 obtain ⟨xs,xl,xo,xk,xh⟩:=x;obtain ⟨ys,yl,yo,yk,yh⟩:=y;simp only [Al] at xs xl xh ys yl yh hc ⊢;obtain ⟨a0,a1,a2,a3,a4,rfl⟩:∃ a0 a1 a2 a3 a4,xs=[a0,a1,a2,a3,a4]:=by
  match xs,xl with
  | [a0,a1,a2,a3,a4],_=>exact ⟨a0,a1,a2,a3,a4,rfl⟩
 obtain ⟨b0,b1,b2,b3,b4,rfl⟩:∃ b0 b1 b2 b3 b4,ys=[b0,b1,b2,b3,b4]:=by
  match ys,yl with
  | [b0,b1,b2,b3,b4],_=>exact ⟨b0,b1,b2,b3,b4,rfl⟩
 simp only [List.getElem?_cons_zero,bd] at xh yh;subst xh; subst yh;exact Mw xk a1 a2 a3 a4 (xo _ (by simp)) (xo _ (by simp)) (xo _ (by simp)) (xo _ (by simp)) yk b1 b2 b3 b4 (yo _ (by simp)) (yo _ (by simp)) (yo _ (by simp)) (yo _ (by simp)) c W hc hlt
theorem RX (k:Int)(v1:Value)(h1:v1.oneCell'=true)(W:World) :
 Calls Tryz.prog 52 #[.agg #[Value.int .u64 k,v1]] W λe w'=>e=.returned (.int .u64 k)/\∃ q os,w'=grow (W.drewN q) os:=by
 go_enter Tryz.func52,Tryz.ntmps52
 go_wp2
 go_ret
 exact ⟨rfl,0,_,by rw [alloc_eq_grow]; rfl⟩
theorem Mx (k:Int)(v1:Value)(h1:v1.oneCell'=true)(k':Int)(u1:Value)(g1:u1.oneCell'=true)(c:Nat)(W:World)(hc:W.cell? ⟨c,0,none⟩=some (.func (.func 52) #[] #[]))(hlt:c<W.heap.size) :
 Calls Tryz.prog 111 #[.agg #[Value.int .u64 k,v1],.agg #[Value.int .u64 k',u1],.pointer (some ⟨c,0,none⟩)] W λe w'=>e=.returned (.int .i64 (vL k k'))/\∃ q os,w'=grow (W.drewN q) os:=by
 have Hc:=(show Hid _ from hc);have Hn1:=(show Hid _ from λW=>RX k v1 h1 W);have Hn2:=(show Hid _ from λW=>RX k' u1 g1 W);have Hn3:=(show Hid _ from λW=>Co k k' W);have mixed:Tryz.prog.follows .mixedOrders=true:=by kernel_rfl
 clear hc;generalize vL k k'=r at *
 go_enter Tryz.func111,Tryz.ntmps111
 go_wp2_with fail
 generalize hwq:((W.alloc (Obj.cells #[Value.int .u64 k,v1] 54)).alloc (Obj.cells #[Value.int .u64 k',u1] 54))=wq;have lc:=Db hwq Hc.out hlt;have m0:=iI hwq 0 (Value.int .u64 k) rfl;have m1:=iI hwq 1 (v1) rfl;have p0:=iJ hwq 0 (Value.int .u64 k') rfl;have p1:=iJ hwq 1 (u1) rfl;refine wp_region_quiet_grown (by assumption) (by kernel_rfl) ?_
 quiet_step (fail)
 quiet_step (fail)
 quiet_step (refine Calls.grown_of (Hn1.out _))
 quiet_step (fail)
 quiet_step (fail)
 quiet_step (refine Calls.grown_of (Hn2.out _))
 quiet_step (refine Calls.grown_of ((Hn3.out _).mono λe w' ⟨h1,q,h2⟩=>⟨h1,q,#[],by rw [grow_empty]; exact h2⟩))
 quiet_step (fail)
 refine wpQuiet_nil ?_;intro _ hw';obtain ⟨⟨nq,osq⟩,hw''⟩:=hw';subst hw''
 go_wp2_with fail
 go_ret
 rw [← hwq,alloc_eq_grow,alloc_eq_grow];refine ⟨rfl,nq,#[Obj.cells #[Value.int .u64 k,v1] 54]++#[Obj.cells #[Value.int .u64 k',u1] 54]++osq,?_⟩;show grow (grow (grow (W.drewN nq) _) _) osq=_;simp only [grow_grow]
theorem I1:pK Tryz.prog Am:=by
 intro W c x y hc;have hlt:c<W.heap.size:=by
  obtain h | h:=cm c W.heap.size
  . exact h
  . simp [World.cell?,Array.getElem?_eq_none h] at hc
 obtain ⟨xs,xl,xo,xk,xh⟩:=x;obtain ⟨ys,yl,yo,yk,yh⟩:=y;simp only [Am] at xs xl xh ys yl yh hc ⊢;obtain ⟨a0,a1,rfl⟩:∃ a0 a1,xs=[a0,a1]:=by
  match xs,xl with
  | [a0,a1],_=>exact ⟨a0,a1,rfl⟩
 obtain ⟨b0,b1,rfl⟩:∃ b0 b1,ys=[b0,b1]:=by
  match ys,yl with
  | [b0,b1],_=>exact ⟨b0,b1,rfl⟩
 simp only [List.getElem?_cons_zero,bd] at xh yh;subst xh; subst yh;exact Mx xk a1 (xo _ (by simp)) yk b1 (yo _ (by simp)) c W hc hlt
theorem RY (k:Int)(v1 v2 v3 v4:Value)(h1:v1.oneCell'=true)(h2:v2.oneCell'=true)(h3:v3.oneCell'=true)(h4:v4.oneCell'=true)(W:World) :
 Calls Tryz.prog 55 #[.agg #[Value.int .u64 k,v1,v2,v3,v4]] W λe w'=>e=.returned (.int .u64 k)/\∃ q os,w'=grow (W.drewN q) os:=by
 go_enter Tryz.func55,Tryz.ntmps55
 go_wp2
 go_ret
 exact ⟨rfl,0,_,by rw [alloc_eq_grow]; rfl⟩
theorem MB (k:Int)(v1 v2 v3 v4:Value)(h1:v1.oneCell'=true)(h2:v2.oneCell'=true)(h3:v3.oneCell'=true)(h4:v4.oneCell'=true)(k':Int)(u1 u2 u3 u4:Value)(g1:u1.oneCell'=true)(g2:u2.oneCell'=true)(g3:u3.oneCell'=true)(g4:u4.oneCell'=true)(c:Nat)(W:World)(hc:W.cell? ⟨c,0,none⟩=some (.func (.func 55) #[] #[]))(hlt:c<W.heap.size) :
 Calls Tryz.prog 118 #[.agg #[Value.int .u64 k,v1,v2,v3,v4],.agg #[Value.int .u64 k',u1,u2,u3,u4],.pointer (some ⟨c,0,none⟩)] W λe w'=>e=.returned (.int .i64 (vL k k'))/\∃ q os,w'=grow (W.drewN q) os:=by
 have Hc:=(show Hid _ from hc);have Hn1:=(show Hid _ from λW=>RY k v1 v2 v3 v4 h1 h2 h3 h4 W);have Hn2:=(show Hid _ from λW=>RY k' u1 u2 u3 u4 g1 g2 g3 g4 W);have Hn3:=(show Hid _ from λW=>Co k k' W);have mixed:Tryz.prog.follows .mixedOrders=true:=by kernel_rfl
 clear hc;generalize vL k k'=r at *
 go_enter Tryz.func118,Tryz.ntmps118
 go_wp2_with fail
 generalize hwq:((W.alloc (Obj.cells #[Value.int .u64 k,v1,v2,v3,v4] 63)).alloc (Obj.cells #[Value.int .u64 k',u1,u2,u3,u4] 63))=wq;have lc:=Db hwq Hc.out hlt;have m0:=iI hwq 0 (Value.int .u64 k) rfl;have m1:=iI hwq 1 (v1) rfl;have m2:=iI hwq 2 (v2) rfl;have m3:=iI hwq 3 (v3) rfl;have m4:=iI hwq 4 (v4) rfl;have p0:=iJ hwq 0 (Value.int .u64 k') rfl;have p1:=iJ hwq 1 (u1) rfl;have p2:=iJ hwq 2 (u2) rfl;have p3:=iJ hwq 3 (u3) rfl;have p4:=iJ hwq 4 (u4) rfl;refine wp_region_quiet_grown (by assumption) (by kernel_rfl) ?_
 quiet_step (fail)
 quiet_step (fail)
 quiet_step (refine Calls.grown_of (Hn1.out _))
 quiet_step (fail)
 quiet_step (fail)
 quiet_step (refine Calls.grown_of (Hn2.out _))
 quiet_step (refine Calls.grown_of ((Hn3.out _).mono λe w' ⟨h1,q,h2⟩=>⟨h1,q,#[],by rw [grow_empty]; exact h2⟩))
 quiet_step (fail)
 refine wpQuiet_nil ?_;intro _ hw';obtain ⟨⟨nq,osq⟩,hw''⟩:=hw';subst hw''
 go_wp2_with fail
 go_ret
 rw [← hwq,alloc_eq_grow,alloc_eq_grow];refine ⟨rfl,nq,#[Obj.cells #[Value.int .u64 k,v1,v2,v3,v4] 63]++#[Obj.cells #[Value.int .u64 k',u1,u2,u3,u4] 63]++osq,?_⟩;show grow (grow (grow (W.drewN nq) _) _) osq=_;simp only [grow_grow]
theorem I4:pK Tryz.prog Ak:=by
 intro W c x y hc;have hlt:c<W.heap.size:=by
  obtain h | h:=cm c W.heap.size
  . exact h
  . simp [World.cell?,Array.getElem?_eq_none h] at hc
 obtain ⟨xs,xl,xo,xk,xh⟩:=x;obtain ⟨ys,yl,yo,yk,yh⟩:=y;simp only [Ak] at xs xl xh ys yl yh hc ⊢;obtain ⟨a0,a1,a2,a3,a4,rfl⟩:∃ a0 a1 a2 a3 a4,xs=[a0,a1,a2,a3,a4]:=by
  match xs,xl with
  | [a0,a1,a2,a3,a4],_=>exact ⟨a0,a1,a2,a3,a4,rfl⟩
 obtain ⟨b0,b1,b2,b3,b4,rfl⟩:∃ b0 b1 b2 b3 b4,ys=[b0,b1,b2,b3,b4]:=by
  match ys,yl with
  | [b0,b1,b2,b3,b4],_=>exact ⟨b0,b1,b2,b3,b4,rfl⟩
 simp only [List.getElem?_cons_zero,bd] at xh yh;subst xh; subst yh;exact MB xk a1 a2 a3 a4 (xo _ (by simp)) (xo _ (by simp)) (xo _ (by simp)) (xo _ (by simp)) yk b1 b2 b3 b4 (yo _ (by simp)) (yo _ (by simp)) (yo _ (by simp)) (yo _ (by simp)) c W hc hlt
