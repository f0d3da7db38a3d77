/- The comparisons of config.with, walked. -/
import Derived.WalkKit
import Derived.Test.YtmakbdpnlfmclaaGreatYd
import Derived.Shelf.SlSortCmp.WholeK
import Derived.KernelRfl
set_option maxHeartbeats 4000000
set_option maxRecDepth 100000
set_option linter.unusedVariables false
namespace Go.Proofs.YtmakbdpnlfmclaaGreat
open Go.RowKit Go.Sort Go.Shelf Go.Lib
theorem Kc (a:Int)(W:World):Calls Tryz.prog 255 #[.int .u64 a] W λe w'=>e=.returned (.bool false)/\w'=W:=by
 go_enter Tryz.func255,Tryz.ntmps255
 go_wp2
 go_ret
 exact ⟨rfl,rfl⟩
def nW (a b:Int):Int:=if a<b then -1 else if b<a then 1 else 0
theorem ou (a b:Int)(W:World):Calls Tryz.prog 171 #[.int .u64 a,.int .u64 b] W λe w'=>e=.returned (.int .i64 (nW a b))/\∃ q,w'=W.drewN q:=by
 have n1:=λW=>Kc a W;have n2:=λW=>Kc b W;unfold nW;by_cases h1:a<b
 . simp only [h1,if_true]
   go_enter Tryz.func171,Tryz.ntmps171
   go_wp2_with (go_at_call 255; first | (refine (n1 _).mono ?_; rintro e w' ⟨rfl,rfl⟩) | (refine (n2 _).mono ?_; rintro e w' ⟨rfl,rfl⟩))
   go_ret
   exact ⟨rfl,0,rfl⟩
 . by_cases h2:b<a
   . simp only [h1,h2,if_true,if_false]
     go_enter Tryz.func171,Tryz.ntmps171
     go_wp2_with (go_at_call 255; first | (refine (n1 _).mono ?_; rintro e w' ⟨rfl,rfl⟩) | (refine (n2 _).mono ?_; rintro e w' ⟨rfl,rfl⟩))
     go_ret
     exact ⟨rfl,0,rfl⟩
   . simp only [h1,h2,if_false]
     go_enter Tryz.func171,Tryz.ntmps171
     go_wp2_with (go_at_call 255; first | (refine (n1 _).mono ?_; rintro e w' ⟨rfl,rfl⟩) | (refine (n2 _).mono ?_; rintro e w' ⟨rfl,rfl⟩))
     go_ret
     exact ⟨rfl,0,rfl⟩
theorem LV {W wq:World}{A B:Array Value}{t:TypeId}(h:(W.alloc (Obj.cells A t)).alloc (Obj.cells B t)=wq):wq.heap.size=W.heap.size+2/\wq.heap[W.heap.size]?=some (Obj.cells A t)/\wq.heap[W.heap.size+1]?=some (Obj.cells B t):=by
 subst h;refine ⟨by rw [World.size_alloc,World.size_alloc],?_,?_⟩
 . rw [Below.heap_alloc _ _ _ (by rw [World.size_alloc]; exact Nat.lt_succ_self _)];show (W.heap.push _)[W.heap.size]?=_;simp
 . show ((W.heap.push _).push _)[W.heap.size+1]?=_;rw [Array.getElem?_push,if_pos (by simp)]
theorem cK {W wq:World}{A B:Array Value}{t:TypeId}(h:(W.alloc (Obj.cells A t)).alloc (Obj.cells B t)=wq)(j:Nat)(v:Value)(hv:A[j]?=some v)(n:Nat)(os:Array Obj):(grow (wq.drewN n) os).cell? ⟨W.heap.size,j,none⟩=some v:=by
 obtain ⟨h1,h2,_⟩:=LV h;exact cell_grown (by show W.heap.size<_; omega) (by simp only [World.cell?,h2]; exact hv) n os
theorem cO {W wq:World}{A B:Array Value}{t:TypeId}(h:(W.alloc (Obj.cells A t)).alloc (Obj.cells B t)=wq)(j:Nat)(v:Value)(hv:B[j]?=some v)(n:Nat)(os:Array Obj):(grow (wq.drewN n) os).cell? ⟨W.heap.size+1,j,none⟩=some v:=by
 obtain ⟨h1,_,h2⟩:=LV h;exact cell_grown (by show W.heap.size+1<_; omega) (by simp only [World.cell?,h2]; exact hv) n os
theorem uG {W wq:World}{A B:Array Value}{t:TypeId}(h:(W.alloc (Obj.cells A t)).alloc (Obj.cells B t)=wq){c:Nat}{v:Value}(hc:W.cell? ⟨c,0,none⟩=some v)(hlt:c<W.heap.size)(n:Nat)(os:Array Obj):(grow (wq.drewN n) os).cell? ⟨c,0,none⟩=some v:=by
 obtain ⟨h1,_⟩:=LV h;subst h;refine cell_grown (by show c<_; omega) ?_ n os;rw [← hc];simp only [World.cell?];rw [Below.heap_alloc _ _ _ (by rw [World.size_alloc]; exact Nat.lt_succ_of_lt hlt),Below.heap_alloc _ _ _ hlt]
theorem Yi (k:Int)(v1 v2 v3 v4 v5 v6:Value)(h1:v1.oneCell'=true)(h2:v2.oneCell'=true)(h3:v3.oneCell'=true)(h4:v4.oneCell'=true)(h5:v5.oneCell'=true)(h6:v6.oneCell'=true)(W:World) :
 Calls Tryz.prog 91 #[.agg #[Value.int .u64 k,v1,v2,v3,v4,v5,v6]] W λe w'=>e=.returned (.int .u64 k)/\∃ q os,w'=grow (W.drewN q) os:=by
 go_enter Tryz.func91,Tryz.ntmps91
 go_wp2
 go_ret
 exact ⟨rfl,0,_,by rw [alloc_eq_grow]; rfl⟩
theorem RH (k:Int)(v1 v2 v3 v4 v5 v6:Value)(h1:v1.oneCell'=true)(h2:v2.oneCell'=true)(h3:v3.oneCell'=true)(h4:v4.oneCell'=true)(h5:v5.oneCell'=true)(h6:v6.oneCell'=true)(k':Int)(u1 u2 u3 u4 u5 u6:Value)(g1:u1.oneCell'=true)(g2:u2.oneCell'=true)(g3:u3.oneCell'=true)(g4:u4.oneCell'=true)(g5:u5.oneCell'=true)(g6:u6.oneCell'=true)(c:Nat)(W:World)(hc:W.cell? ⟨c,0,none⟩=some (.func (.func 91) #[] #[]))(hlt:c<W.heap.size) :
 Calls Tryz.prog 253 #[.agg #[Value.int .u64 k,v1,v2,v3,v4,v5,v6],.agg #[Value.int .u64 k',u1,u2,u3,u4,u5,u6],.pointer (some ⟨c,0,none⟩)] W λe w'=>e=.returned (.int .i64 (nW k k'))/\∃ q os,w'=grow (W.drewN q) os:=by
 have Hc:=(show Hid _ from hc);have Hn1:=(show Hid _ from λW=>Yi k v1 v2 v3 v4 v5 v6 h1 h2 h3 h4 h5 h6 W);have Hn2:=(show Hid _ from λW=>Yi k' u1 u2 u3 u4 u5 u6 g1 g2 g3 g4 g5 g6 W);have Hn3:=(show Hid _ from λW=>ou k k' W);have mixed:Tryz.prog.follows .mixedOrders=true:=by kernel_rfl
 clear hc;generalize nW k k'=r at *
 go_enter Tryz.func253,Tryz.ntmps253
 go_wp2_with fail
 generalize hwq:((W.alloc (Obj.cells #[Value.int .u64 k,v1,v2,v3,v4,v5,v6] 54)).alloc (Obj.cells #[Value.int .u64 k',u1,u2,u3,u4,u5,u6] 54))=wq;have lc:=uG hwq Hc.out hlt;have m0:=cK hwq 0 (Value.int .u64 k) rfl;have m1:=cK hwq 1 (v1) rfl;have m2:=cK hwq 2 (v2) rfl;have m3:=cK hwq 3 (v3) rfl;have m4:=cK hwq 4 (v4) rfl;have m5:=cK hwq 5 (v5) rfl;have m6:=cK hwq 6 (v6) rfl;have p0:=cO hwq 0 (Value.int .u64 k') rfl;have p1:=cO hwq 1 (u1) rfl;have p2:=cO hwq 2 (u2) rfl;have p3:=cO hwq 3 (u3) rfl;have p4:=cO hwq 4 (u4) rfl;have p5:=cO hwq 5 (u5) rfl;have p6:=cO hwq 6 (u6) rfl;refine wp_region_quiet_grown (by assumption) (by kernel_rfl) ?_
 quiet_step (fail)
 quiet_step (fail)
 quiet_step (refine Calls.grown_of (Hn1.out _))
 quiet_step (fail)
 quiet_step (fail)
 quiet_step (refine Calls.grown_of (Hn2.out _))
 quiet_step (refine Calls.grown_of ((Hn3.out _).mono λe w' ⟨h1,q,h2⟩=>⟨h1,q,#[],by rw [grow_empty]; exact h2⟩))
 quiet_step (fail)
 refine wpQuiet_nil ?_;intro _ hw';obtain ⟨⟨nq,osq⟩,hw''⟩:=hw';subst hw''
 go_wp2_with fail
 go_ret
 rw [← hwq,alloc_eq_grow,alloc_eq_grow];refine ⟨rfl,nq,#[Obj.cells #[Value.int .u64 k,v1,v2,v3,v4,v5,v6] 54]++#[Obj.cells #[Value.int .u64 k',u1,u2,u3,u4,u5,u6] 54]++osq,?_⟩;show grow (grow (grow (W.drewN nq) _) _) osq=_;simp only [grow_grow]
theorem Nb:jR Tryz.prog Fy:=by
 intro W c x y hc;have hlt:c<W.heap.size:=by
  obtain h | h:=cn c W.heap.size
  . exact h
  . simp [World.cell?,Array.getElem?_eq_none h] at hc
 obtain ⟨xs,xl,xo,xk,xh⟩:=x;obtain ⟨ys,yl,yo,yk,yh⟩:=y;simp only [Fy] at xs xl xh ys yl yh hc ⊢;obtain ⟨a0,a1,a2,a3,a4,a5,a6,rfl⟩:∃ a0 a1 a2 a3 a4 a5 a6,xs=[a0,a1,a2,a3,a4,a5,a6]:=by
  match xs,xl with
  | [a0,a1,a2,a3,a4,a5,a6],_=>exact ⟨a0,a1,a2,a3,a4,a5,a6,rfl⟩
 obtain ⟨b0,b1,b2,b3,b4,b5,b6,rfl⟩:∃ b0 b1 b2 b3 b4 b5 b6,ys=[b0,b1,b2,b3,b4,b5,b6]:=by
  match ys,yl with
  | [b0,b1,b2,b3,b4,b5,b6],_=>exact ⟨b0,b1,b2,b3,b4,b5,b6,rfl⟩
 simp only [List.getElem?_cons_zero,bd] at xh yh;subst xh; subst yh;exact RH xk a1 a2 a3 a4 a5 a6 (xo _ (by simp)) (xo _ (by simp)) (xo _ (by simp)) (xo _ (by simp)) (xo _ (by simp)) (xo _ (by simp)) yk b1 b2 b3 b4 b5 b6 (yo _ (by simp)) (yo _ (by simp)) (yo _ (by simp)) (yo _ (by simp)) (yo _ (by simp)) (yo _ (by simp)) c W hc hlt
theorem Yj (k:Int)(v1 v2 v3 v4:Value)(h1:v1.oneCell'=true)(h2:v2.oneCell'=true)(h3:v3.oneCell'=true)(h4:v4.oneCell'=true)(W:World) :
 Calls Tryz.prog 94 #[.agg #[Value.int .u64 k,v1,v2,v3,v4]] W λe w'=>e=.returned (.int .u64 k)/\∃ q os,w'=grow (W.drewN q) os:=by
 go_enter Tryz.func94,Tryz.ntmps94
 go_wp2
 go_ret
 exact ⟨rfl,0,_,by rw [alloc_eq_grow]; rfl⟩
theorem Rx (k:Int)(v1 v2 v3 v4:Value)(h1:v1.oneCell'=true)(h2:v2.oneCell'=true)(h3:v3.oneCell'=true)(h4:v4.oneCell'=true)(k':Int)(u1 u2 u3 u4:Value)(g1:u1.oneCell'=true)(g2:u2.oneCell'=true)(g3:u3.oneCell'=true)(g4:u4.oneCell'=true)(c:Nat)(W:World)(hc:W.cell? ⟨c,0,none⟩=some (.func (.func 94) #[] #[]))(hlt:c<W.heap.size) :
 Calls Tryz.prog 170 #[.agg #[Value.int .u64 k,v1,v2,v3,v4],.agg #[Value.int .u64 k',u1,u2,u3,u4],.pointer (some ⟨c,0,none⟩)] W λe w'=>e=.returned (.int .i64 (nW k k'))/\∃ q os,w'=grow (W.drewN q) os:=by
 have Hc:=(show Hid _ from hc);have Hn1:=(show Hid _ from λW=>Yj k v1 v2 v3 v4 h1 h2 h3 h4 W);have Hn2:=(show Hid _ from λW=>Yj k' u1 u2 u3 u4 g1 g2 g3 g4 W);have Hn3:=(show Hid _ from λW=>ou k k' W);have mixed:Tryz.prog.follows .mixedOrders=true:=by kernel_rfl
 clear hc;generalize nW k k'=r at *
 go_enter Tryz.func170,Tryz.ntmps170
 go_wp2_with fail
 generalize hwq:((W.alloc (Obj.cells #[Value.int .u64 k,v1,v2,v3,v4] 56)).alloc (Obj.cells #[Value.int .u64 k',u1,u2,u3,u4] 56))=wq;have lc:=uG hwq Hc.out hlt;have m0:=cK hwq 0 (Value.int .u64 k) rfl;have m1:=cK hwq 1 (v1) rfl;have m2:=cK hwq 2 (v2) rfl;have m3:=cK hwq 3 (v3) rfl;have m4:=cK hwq 4 (v4) rfl;have p0:=cO hwq 0 (Value.int .u64 k') rfl;have p1:=cO hwq 1 (u1) rfl;have p2:=cO hwq 2 (u2) rfl;have p3:=cO hwq 3 (u3) rfl;have p4:=cO hwq 4 (u4) rfl;refine wp_region_quiet_grown (by assumption) (by kernel_rfl) ?_
 quiet_step (fail)
 quiet_step (fail)
 quiet_step (refine Calls.grown_of (Hn1.out _))
 quiet_step (fail)
 quiet_step (fail)
 quiet_step (refine Calls.grown_of (Hn2.out _))
 quiet_step (refine Calls.grown_of ((Hn3.out _).mono λe w' ⟨h1,q,h2⟩=>⟨h1,q,#[],by rw [grow_empty]; exact h2⟩))
 quiet_step (fail)
 refine wpQuiet_nil ?_;intro _ hw';obtain ⟨⟨nq,osq⟩,hw''⟩:=hw';subst hw''
 go_wp2_with fail
 go_ret
 rw [← hwq,alloc_eq_grow,alloc_eq_grow];refine ⟨rfl,nq,#[Obj.cells #[Value.int .u64 k,v1,v2,v3,v4] 56]++#[Obj.cells #[Value.int .u64 k',u1,u2,u3,u4] 56]++osq,?_⟩;show grow (grow (grow (W.drewN nq) _) _) osq=_;simp only [grow_grow]
theorem MV:jR Tryz.prog FB:=by
 intro W c x y hc;have hlt:c<W.heap.size:=by
  obtain h | h:=cn c W.heap.size
  . exact h
  . simp [World.cell?,Array.getElem?_eq_none h] at hc
 obtain ⟨xs,xl,xo,xk,xh⟩:=x;obtain ⟨ys,yl,yo,yk,yh⟩:=y;simp only [FB] at xs xl xh ys yl yh hc ⊢;obtain ⟨a0,a1,a2,a3,a4,rfl⟩:∃ a0 a1 a2 a3 a4,xs=[a0,a1,a2,a3,a4]:=by
  match xs,xl with
  | [a0,a1,a2,a3,a4],_=>exact ⟨a0,a1,a2,a3,a4,rfl⟩
 obtain ⟨b0,b1,b2,b3,b4,rfl⟩:∃ b0 b1 b2 b3 b4,ys=[b0,b1,b2,b3,b4]:=by
  match ys,yl with
  | [b0,b1,b2,b3,b4],_=>exact ⟨b0,b1,b2,b3,b4,rfl⟩
 simp only [List.getElem?_cons_zero,bd] at xh yh;subst xh; subst yh;exact Rx xk a1 a2 a3 a4 (xo _ (by simp)) (xo _ (by simp)) (xo _ (by simp)) (xo _ (by simp)) yk b1 b2 b3 b4 (yo _ (by simp)) (yo _ (by simp)) (yo _ (by simp)) (yo _ (by simp)) c W hc hlt
theorem Qi (k:Int)(v1:Value)(h1:v1.oneCell'=true)(W:World) :
 Calls Tryz.prog 101 #[.agg #[Value.int .u64 k,v1]] W λe w'=>e=.returned (.int .u64 k)/\∃ q os,w'=grow (W.drewN q) os:=by
 go_enter Tryz.func101,Tryz.ntmps101
 go_wp2
 go_ret
 exact ⟨rfl,0,_,by rw [alloc_eq_grow]; rfl⟩
theorem Ry (k:Int)(v1:Value)(h1:v1.oneCell'=true)(k':Int)(u1:Value)(g1:u1.oneCell'=true)(c:Nat)(W:World)(hc:W.cell? ⟨c,0,none⟩=some (.func (.func 101) #[] #[]))(hlt:c<W.heap.size) :
 Calls Tryz.prog 175 #[.agg #[Value.int .u64 k,v1],.agg #[Value.int .u64 k',u1],.pointer (some ⟨c,0,none⟩)] W λe w'=>e=.returned (.int .i64 (nW k k'))/\∃ q os,w'=grow (W.drewN q) os:=by
 have Hc:=(show Hid _ from hc);have Hn1:=(show Hid _ from λW=>Qi k v1 h1 W);have Hn2:=(show Hid _ from λW=>Qi k' u1 g1 W);have Hn3:=(show Hid _ from λW=>ou k k' W);have mixed:Tryz.prog.follows .mixedOrders=true:=by kernel_rfl
 clear hc;generalize nW k k'=r at *
 go_enter Tryz.func175,Tryz.ntmps175
 go_wp2_with fail
 generalize hwq:((W.alloc (Obj.cells #[Value.int .u64 k,v1] 58)).alloc (Obj.cells #[Value.int .u64 k',u1] 58))=wq;have lc:=uG hwq Hc.out hlt;have m0:=cK hwq 0 (Value.int .u64 k) rfl;have m1:=cK hwq 1 (v1) rfl;have p0:=cO hwq 0 (Value.int .u64 k') rfl;have p1:=cO hwq 1 (u1) rfl;refine wp_region_quiet_grown (by assumption) (by kernel_rfl) ?_
 quiet_step (fail)
 quiet_step (fail)
 quiet_step (refine Calls.grown_of (Hn1.out _))
 quiet_step (fail)
 quiet_step (fail)
 quiet_step (refine Calls.grown_of (Hn2.out _))
 quiet_step (refine Calls.grown_of ((Hn3.out _).mono λe w' ⟨h1,q,h2⟩=>⟨h1,q,#[],by rw [grow_empty]; exact h2⟩))
 quiet_step (fail)
 refine wpQuiet_nil ?_;intro _ hw';obtain ⟨⟨nq,osq⟩,hw''⟩:=hw';subst hw''
 go_wp2_with fail
 go_ret
 rw [← hwq,alloc_eq_grow,alloc_eq_grow];refine ⟨rfl,nq,#[Obj.cells #[Value.int .u64 k,v1] 58]++#[Obj.cells #[Value.int .u64 k',u1] 58]++osq,?_⟩;show grow (grow (grow (W.drewN nq) _) _) osq=_;simp only [grow_grow]
theorem MW:jR Tryz.prog FC:=by
 intro W c x y hc;have hlt:c<W.heap.size:=by
  obtain h | h:=cn c W.heap.size
  . exact h
  . simp [World.cell?,Array.getElem?_eq_none h] at hc
 obtain ⟨xs,xl,xo,xk,xh⟩:=x;obtain ⟨ys,yl,yo,yk,yh⟩:=y;simp only [FC] at xs xl xh ys yl yh hc ⊢;obtain ⟨a0,a1,rfl⟩:∃ a0 a1,xs=[a0,a1]:=by
  match xs,xl with
  | [a0,a1],_=>exact ⟨a0,a1,rfl⟩
 obtain ⟨b0,b1,rfl⟩:∃ b0 b1,ys=[b0,b1]:=by
  match ys,yl with
  | [b0,b1],_=>exact ⟨b0,b1,rfl⟩
 simp only [List.getElem?_cons_zero,bd] at xh yh;subst xh; subst yh;exact Ry xk a1 (xo _ (by simp)) yk b1 (yo _ (by simp)) c W hc hlt
theorem Qj (k:Int)(v1 v2 v3 v4:Value)(h1:v1.oneCell'=true)(h2:v2.oneCell'=true)(h3:v3.oneCell'=true)(h4:v4.oneCell'=true)(W:World) :
 Calls Tryz.prog 106 #[.agg #[Value.int .u64 k,v1,v2,v3,v4]] W λe w'=>e=.returned (.int .u64 k)/\∃ q os,w'=grow (W.drewN q) os:=by
 go_enter Tryz.func106,Tryz.ntmps106
 go_wp2
 go_ret
 exact ⟨rfl,0,_,by rw [alloc_eq_grow]; rfl⟩
theorem Rz (k:Int)(v1 v2 v3 v4:Value)(h1:v1.oneCell'=true)(h2:v2.oneCell'=true)(h3:v3.oneCell'=true)(h4:v4.oneCell'=true)(k':Int)(u1 u2 u3 u4:Value)(g1:u1.oneCell'=true)(g2:u2.oneCell'=true)(g3:u3.oneCell'=true)(g4:u4.oneCell'=true)(c:Nat)(W:World)(hc:W.cell? ⟨c,0,none⟩=some (.func (.func 106) #[] #[]))(hlt:c<W.heap.size) :
 Calls Tryz.prog 178 #[.agg #[Value.int .u64 k,v1,v2,v3,v4],.agg #[Value.int .u64 k',u1,u2,u3,u4],.pointer (some ⟨c,0,none⟩)] W λe w'=>e=.returned (.int .i64 (nW k k'))/\∃ q os,w'=grow (W.drewN q) os:=by
 have Hc:=(show Hid _ from hc);have Hn1:=(show Hid _ from λW=>Qj k v1 v2 v3 v4 h1 h2 h3 h4 W);have Hn2:=(show Hid _ from λW=>Qj k' u1 u2 u3 u4 g1 g2 g3 g4 W);have Hn3:=(show Hid _ from λW=>ou k k' W);have mixed:Tryz.prog.follows .mixedOrders=true:=by kernel_rfl
 clear hc;generalize nW k k'=r at *
 go_enter Tryz.func178,Tryz.ntmps178
 go_wp2_with fail
 generalize hwq:((W.alloc (Obj.cells #[Value.int .u64 k,v1,v2,v3,v4] 61)).alloc (Obj.cells #[Value.int .u64 k',u1,u2,u3,u4] 61))=wq;have lc:=uG hwq Hc.out hlt;have m0:=cK hwq 0 (Value.int .u64 k) rfl;have m1:=cK hwq 1 (v1) rfl;have m2:=cK hwq 2 (v2) rfl;have m3:=cK hwq 3 (v3) rfl;have m4:=cK hwq 4 (v4) rfl;have p0:=cO hwq 0 (Value.int .u64 k') rfl;have p1:=cO hwq 1 (u1) rfl;have p2:=cO hwq 2 (u2) rfl;have p3:=cO hwq 3 (u3) rfl;have p4:=cO hwq 4 (u4) rfl;refine wp_region_quiet_grown (by assumption) (by kernel_rfl) ?_
 quiet_step (fail)
 quiet_step (fail)
 quiet_step (refine Calls.grown_of (Hn1.out _))
 quiet_step (fail)
 quiet_step (fail)
 quiet_step (refine Calls.grown_of (Hn2.out _))
 quiet_step (refine Calls.grown_of ((Hn3.out _).mono λe w' ⟨h1,q,h2⟩=>⟨h1,q,#[],by rw [grow_empty]; exact h2⟩))
 quiet_step (fail)
 refine wpQuiet_nil ?_;intro _ hw';obtain ⟨⟨nq,osq⟩,hw''⟩:=hw';subst hw''
 go_wp2_with fail
 go_ret
 rw [← hwq,alloc_eq_grow,alloc_eq_grow];refine ⟨rfl,nq,#[Obj.cells #[Value.int .u64 k,v1,v2,v3,v4] 61]++#[Obj.cells #[Value.int .u64 k',u1,u2,u3,u4] 61]++osq,?_⟩;show grow (grow (grow (W.drewN nq) _) _) osq=_;simp only [grow_grow]
theorem MX:jR Tryz.prog Fz:=by
 intro W c x y hc;have hlt:c<W.heap.size:=by
  obtain h | h:=cn c W.heap.size
  . exact h
  . simp [World.cell?,Array.getElem?_eq_none h] at hc
 obtain ⟨xs,xl,xo,xk,xh⟩:=x;obtain ⟨ys,yl,yo,yk,yh⟩:=y;simp only [Fz] at xs xl xh ys yl yh hc ⊢;obtain ⟨a0,a1,a2,a3,a4,rfl⟩:∃ a0 a1 a2 a3 a4,xs=[a0,a1,a2,a3,a4]:=by
  match xs,xl with
  | [a0,a1,a2,a3,a4],_=>exact ⟨a0,a1,a2,a3,a4,rfl⟩
 obtain ⟨b0,b1,b2,b3,b4,rfl⟩:∃ b0 b1 b2 b3 b4,ys=[b0,b1,b2,b3,b4]:=by
  match ys,yl with
  | [b0,b1,b2,b3,b4],_=>exact ⟨b0,b1,b2,b3,b4,rfl⟩
 simp only [List.getElem?_cons_zero,bd] at xh yh;subst xh; subst yh;exact Rz xk a1 a2 a3 a4 (xo _ (by simp)) (xo _ (by simp)) (xo _ (by simp)) (xo _ (by simp)) yk b1 b2 b3 b4 (yo _ (by simp)) (yo _ (by simp)) (yo _ (by simp)) (yo _ (by simp)) c W hc hlt
theorem Qk (k:Int)(v1 v2 v3 v4 v5 v6:Value)(h1:v1.oneCell'=true)(h2:v2.oneCell'=true)(h3:v3.oneCell'=true)(h4:v4.oneCell'=true)(h5:v5.oneCell'=true)(h6:v6.oneCell'=true)(W:World) :
 Calls Tryz.prog 110 #[.agg #[Value.int .u64 k,v1,v2,v3,v4,v5,v6]] W λe w'=>e=.returned (.int .u64 k)/\∃ q os,w'=grow (W.drewN q) os:=by
 go_enter Tryz.func110,Tryz.ntmps110
 go_wp2
 go_ret
 exact ⟨rfl,0,_,by rw [alloc_eq_grow]; rfl⟩
theorem RA (k:Int)(v1 v2 v3 v4 v5 v6:Value)(h1:v1.oneCell'=true)(h2:v2.oneCell'=true)(h3:v3.oneCell'=true)(h4:v4.oneCell'=true)(h5:v5.oneCell'=true)(h6:v6.oneCell'=true)(k':Int)(u1 u2 u3 u4 u5 u6:Value)(g1:u1.oneCell'=true)(g2:u2.oneCell'=true)(g3:u3.oneCell'=true)(g4:u4.oneCell'=true)(g5:u5.oneCell'=true)(g6:u6.oneCell'=true)(c:Nat)(W:World)(hc:W.cell? ⟨c,0,none⟩=some (.func (.func 110) #[] #[]))(hlt:c<W.heap.size) :
 Calls Tryz.prog 188 #[.agg #[Value.int .u64 k,v1,v2,v3,v4,v5,v6],.agg #[Value.int .u64 k',u1,u2,u3,u4,u5,u6],.pointer (some ⟨c,0,none⟩)] W λe w'=>e=.returned (.int .i64 (nW k k'))/\∃ q os,w'=grow (W.drewN q) os:=by
 have Hc:=(show Hid _ from hc);have Hn1:=(show Hid _ from λW=>Qk k v1 v2 v3 v4 v5 v6 h1 h2 h3 h4 h5 h6 W);have Hn2:=(show Hid _ from λW=>Qk k' u1 u2 u3 u4 u5 u6 g1 g2 g3 g4 g5 g6 W);have Hn3:=(show Hid _ from λW=>ou k k' W);have mixed:Tryz.prog.follows .mixedOrders=true:=by kernel_rfl
 clear hc;generalize nW k k'=r at *
 go_enter Tryz.func188,Tryz.ntmps188
 go_wp2_with fail
 generalize hwq:((W.alloc (Obj.cells #[Value.int .u64 k,v1,v2,v3,v4,v5,v6] 54)).alloc (Obj.cells #[Value.int .u64 k',u1,u2,u3,u4,u5,u6] 54))=wq;have lc:=uG hwq Hc.out hlt;have m0:=cK hwq 0 (Value.int .u64 k) rfl;have m1:=cK hwq 1 (v1) rfl;have m2:=cK hwq 2 (v2) rfl;have m3:=cK hwq 3 (v3) rfl;have m4:=cK hwq 4 (v4) rfl;have m5:=cK hwq 5 (v5) rfl;have m6:=cK hwq 6 (v6) rfl;have p0:=cO hwq 0 (Value.int .u64 k') rfl;have p1:=cO hwq 1 (u1) rfl;have p2:=cO hwq 2 (u2) rfl;have p3:=cO hwq 3 (u3) rfl;have p4:=cO hwq 4 (u4) rfl;have p5:=cO hwq 5 (u5) rfl;have p6:=cO hwq 6 (u6) rfl;refine wp_region_quiet_grown (by assumption) (by kernel_rfl) ?_
 quiet_step (fail)
 quiet_step (fail)
 quiet_step (refine Calls.grown_of (Hn1.out _))
 quiet_step (fail)
 quiet_step (fail)
 quiet_step (refine Calls.grown_of (Hn2.out _))
 quiet_step (refine Calls.grown_of ((Hn3.out _).mono λe w' ⟨h1,q,h2⟩=>⟨h1,q,#[],by rw [grow_empty]; exact h2⟩))
 quiet_step (fail)
 refine wpQuiet_nil ?_;intro _ hw';obtain ⟨⟨nq,osq⟩,hw''⟩:=hw';subst hw''
 go_wp2_with fail
 go_ret
 rw [← hwq,alloc_eq_grow,alloc_eq_grow];refine ⟨rfl,nq,#[Obj.cells #[Value.int .u64 k,v1,v2,v3,v4,v5,v6] 54]++#[Obj.cells #[Value.int .u64 k',u1,u2,u3,u4,u5,u6] 54]++osq,?_⟩;show grow (grow (grow (W.drewN nq) _) _) osq=_;simp only [grow_grow]
theorem MZ:jR Tryz.prog BV:=by
 intro W c x y hc;have hlt:c<W.heap.size:=by
  obtain h | h:=cn c W.heap.size
  . exact h
  . simp [World.cell?,Array.getElem?_eq_none h] at hc
 obtain ⟨xs,xl,xo,xk,xh⟩:=x;obtain ⟨ys,yl,yo,yk,yh⟩:=y;simp only [BV] at xs xl xh ys yl yh hc ⊢;obtain ⟨a0,a1,a2,a3,a4,a5,a6,rfl⟩:∃ a0 a1 a2 a3 a4 a5 a6,xs=[a0,a1,a2,a3,a4,a5,a6]:=by
  match xs,xl with
  | [a0,a1,a2,a3,a4,a5,a6],_=>exact ⟨a0,a1,a2,a3,a4,a5,a6,rfl⟩
 obtain ⟨b0,b1,b2,b3,b4,b5,b6,rfl⟩:∃ b0 b1 b2 b3 b4 b5 b6,ys=[b0,b1,b2,b3,b4,b5,b6]:=by
  match ys,yl with
  | [b0,b1,b2,b3,b4,b5,b6],_=>exact ⟨b0,b1,b2,b3,b4,b5,b6,rfl⟩
 simp only [List.getElem?_cons_zero,bd] at xh yh;subst xh; subst yh;exact RA xk a1 a2 a3 a4 a5 a6 (xo _ (by simp)) (xo _ (by simp)) (xo _ (by simp)) (xo _ (by simp)) (xo _ (by simp)) (xo _ (by simp)) yk b1 b2 b3 b4 b5 b6 (yo _ (by simp)) (yo _ (by simp)) (yo _ (by simp)) (yo _ (by simp)) (yo _ (by simp)) (yo _ (by simp)) c W hc hlt
theorem Ql (k:Int)(v1 v2 v3 v4:Value)(h1:v1.oneCell'=true)(h2:v2.oneCell'=true)(h3:v3.oneCell'=true)(h4:v4.oneCell'=true)(W:World) :
 Calls Tryz.prog 112 #[.agg #[Value.int .u64 k,v1,v2,v3,v4]] W λe w'=>e=.returned (.int .u64 k)/\∃ q os,w'=grow (W.drewN q) os:=by
 go_enter Tryz.func112,Tryz.ntmps112
 go_wp2
 go_ret
 exact ⟨rfl,0,_,by rw [alloc_eq_grow]; rfl⟩
theorem RB (k:Int)(v1 v2 v3 v4:Value)(h1:v1.oneCell'=true)(h2:v2.oneCell'=true)(h3:v3.oneCell'=true)(h4:v4.oneCell'=true)(k':Int)(u1 u2 u3 u4:Value)(g1:u1.oneCell'=true)(g2:u2.oneCell'=true)(g3:u3.oneCell'=true)(g4:u4.oneCell'=true)(c:Nat)(W:World)(hc:W.cell? ⟨c,0,none⟩=some (.func (.func 112) #[] #[]))(hlt:c<W.heap.size) :
 Calls Tryz.prog 191 #[.agg #[Value.int .u64 k,v1,v2,v3,v4],.agg #[Value.int .u64 k',u1,u2,u3,u4],.pointer (some ⟨c,0,none⟩)] W λe w'=>e=.returned (.int .i64 (nW k k'))/\∃ q os,w'=grow (W.drewN q) os:=by
 have Hc:=(show Hid _ from hc);have Hn1:=(show Hid _ from λW=>Ql k v1 v2 v3 v4 h1 h2 h3 h4 W);have Hn2:=(show Hid _ from λW=>Ql k' u1 u2 u3 u4 g1 g2 g3 g4 W);have Hn3:=(show Hid _ from λW=>ou k k' W);have mixed:Tryz.prog.follows .mixedOrders=true:=by kernel_rfl
 clear hc;generalize nW k k'=r at *
 go_enter Tryz.func191,Tryz.ntmps191
 go_wp2_with fail
 generalize hwq:((W.alloc (Obj.cells #[Value.int .u64 k,v1,v2,v3,v4] 56)).alloc (Obj.cells #[Value.int .u64 k',u1,u2,u3,u4] 56))=wq;have lc:=uG hwq Hc.out hlt;have m0:=cK hwq 0 (Value.int .u64 k) rfl;have m1:=cK hwq 1 (v1) rfl;have m2:=cK hwq 2 (v2) rfl;have m3:=cK hwq 3 (v3) rfl;have m4:=cK hwq 4 (v4) rfl;have p0:=cO hwq 0 (Value.int .u64 k') rfl;have p1:=cO hwq 1 (u1) rfl;have p2:=cO hwq 2 (u2) rfl;have p3:=cO hwq 3 (u3) rfl;have p4:=cO hwq 4 (u4) rfl;refine wp_region_quiet_grown (by assumption) (by kernel_rfl) ?_
 quiet_step (fail)
 quiet_step (fail)
 quiet_step (refine Calls.grown_of (Hn1.out _))
 quiet_step (fail)
 quiet_step (fail)
 quiet_step (refine Calls.grown_of (Hn2.out _))
 quiet_step (refine Calls.grown_of ((Hn3.out _).mono λe w' ⟨h1,q,h2⟩=>⟨h1,q,#[],by rw [grow_empty]; exact h2⟩))
 quiet_step (fail)
 refine wpQuiet_nil ?_;intro _ hw';obtain ⟨⟨nq,osq⟩,hw''⟩:=hw';subst hw''
 go_wp2_with fail
 go_ret
 rw [← hwq,alloc_eq_grow,alloc_eq_grow];refine ⟨rfl,nq,#[Obj.cells #[Value.int .u64 k,v1,v2,v3,v4] 56]++#[Obj.cells #[Value.int .u64 k',u1,u2,u3,u4] 56]++osq,?_⟩;show grow (grow (grow (W.drewN nq) _) _) osq=_;simp only [grow_grow]
theorem M8:jR Tryz.prog BZ:=by
 intro W c x y hc;have hlt:c<W.heap.size:=by
  obtain h | h:=cn c W.heap.size
  . exact h
  . simp [World.cell?,Array.getElem?_eq_none h] at hc
 obtain ⟨xs,xl,xo,xk,xh⟩:=x;obtain ⟨ys,yl,yo,yk,yh⟩:=y;simp only [BZ] at xs xl xh ys yl yh hc ⊢;obtain ⟨a0,a1,a2,a3,a4,rfl⟩:∃ a0 a1 a2 a3 a4,xs=[a0,a1,a2,a3,a4]:=by
  match xs,xl with
  | [a0,a1,a2,a3,a4],_=>exact ⟨a0,a1,a2,a3,a4,rfl⟩
 obtain ⟨b0,b1,b2,b3,b4,rfl⟩:∃ b0 b1 b2 b3 b4,ys=[b0,b1,b2,b3,b4]:=by
  match ys,yl with
  | [b0,b1,b2,b3,b4],_=>exact ⟨b0,b1,b2,b3,b4,rfl⟩
 simp only [List.getElem?_cons_zero,bd] at xh yh;subst xh; subst yh;exact RB xk a1 a2 a3 a4 (xo _ (by simp)) (xo _ (by simp)) (xo _ (by simp)) (xo _ (by simp)) yk b1 b2 b3 b4 (yo _ (by simp)) (yo _ (by simp)) (yo _ (by simp)) (yo _ (by simp)) c W hc hlt
theorem Qm (k:Int)(v1:Value)(h1:v1.oneCell'=true)(W:World) :
 Calls Tryz.prog 114 #[.agg #[Value.int .u64 k,v1]] W λe w'=>e=.returned (.int .u64 k)/\∃ q os,w'=grow (W.drewN q) os:=by
 go_enter Tryz.func114,Tryz.ntmps114
 go_wp2
 go_ret
 exact ⟨rfl,0,_,by rw [alloc_eq_grow]; rfl⟩
theorem RD (k:Int)(v1:Value)(h1:v1.oneCell'=true)(k':Int)(u1:Value)(g1:u1.oneCell'=true)(c:Nat)(W:World)(hc:W.cell? ⟨c,0,none⟩=some (.func (.func 114) #[] #[]))(hlt:c<W.heap.size) :
 Calls Tryz.prog 195 #[.agg #[Value.int .u64 k,v1],.agg #[Value.int .u64 k',u1],.pointer (some ⟨c,0,none⟩)] W λe w'=>e=.returned (.int .i64 (nW k k'))/\∃ q os,w'=grow (W.drewN q) os:=by
 have Hc:=(show Hid _ from hc);have Hn1:=(show Hid _ from λW=>Qm k v1 h1 W);have Hn2:=(show Hid _ from λW=>Qm k' u1 g1 W);have Hn3:=(show Hid _ from λW=>ou k k' W);have mixed:Tryz.prog.follows .mixedOrders=true:=by kernel_rfl
 clear hc;generalize nW k k'=r at *
 go_enter Tryz.func195,Tryz.ntmps195
 go_wp2_with fail
 generalize hwq:((W.alloc (Obj.cells #[Value.int .u64 k,v1] 58)).alloc (Obj.cells #[Value.int .u64 k',u1] 58))=wq;have lc:=uG hwq Hc.out hlt;have m0:=cK hwq 0 (Value.int .u64 k) rfl;have m1:=cK hwq 1 (v1) rfl;have p0:=cO hwq 0 (Value.int .u64 k') rfl;have p1:=cO hwq 1 (u1) rfl;refine wp_region_quiet_grown (by assumption) (by kernel_rfl) ?_
 quiet_step (fail)
 quiet_step (fail)
 quiet_step (refine Calls.grown_of (Hn1.out _))
 quiet_step (fail)
 quiet_step (fail)
 quiet_step (refine Calls.grown_of (Hn2.out _))
 quiet_step (refine Calls.grown_of ((Hn3.out _).mono λe w' ⟨h1,q,h2⟩=>⟨h1,q,#[],by rw [grow_empty]; exact h2⟩))
 quiet_step (fail)
 refine wpQuiet_nil ?_;intro _ hw';obtain ⟨⟨nq,osq⟩,hw''⟩:=hw';subst hw''
 go_wp2_with fail
 go_ret
 rw [← hwq,alloc_eq_grow,alloc_eq_grow];refine ⟨rfl,nq,#[Obj.cells #[Value.int .u64 k,v1] 58]++#[Obj.cells #[Value.int .u64 k',u1] 58]++osq,?_⟩;show grow (grow (grow (W.drewN nq) _) _) osq=_;simp only [grow_grow]
theorem M9:jR Tryz.prog Ca:=by
 intro W c x y hc;have hlt:c<W.heap.size:=by
  obtain h | h:=cn c W.heap.size
  . exact h
  . simp [World.cell?,Array.getElem?_eq_none h] at hc
 obtain ⟨xs,xl,xo,xk,xh⟩:=x;obtain ⟨ys,yl,yo,yk,yh⟩:=y;simp only [Ca] at xs xl xh ys yl yh hc ⊢;obtain ⟨a0,a1,rfl⟩:∃ a0 a1,xs=[a0,a1]:=by
  match xs,xl with
  | [a0,a1],_=>exact ⟨a0,a1,rfl⟩
 obtain ⟨b0,b1,rfl⟩:∃ b0 b1,ys=[b0,b1]:=by
  match ys,yl with
  | [b0,b1],_=>exact ⟨b0,b1,rfl⟩
 simp only [List.getElem?_cons_zero,bd] at xh yh;subst xh; subst yh;exact RD xk a1 (xo _ (by simp)) yk b1 (yo _ (by simp)) c W hc hlt
theorem Qn (k:Int)(v1 v2 v3 v4:Value)(h1:v1.oneCell'=true)(h2:v2.oneCell'=true)(h3:v3.oneCell'=true)(h4:v4.oneCell'=true)(W:World) :
 Calls Tryz.prog 117 #[.agg #[Value.int .u64 k,v1,v2,v3,v4]] W λe w'=>e=.returned (.int .u64 k)/\∃ q os,w'=grow (W.drewN q) os:=by
 go_enter Tryz.func117,Tryz.ntmps117
 go_wp2
 go_ret
 exact ⟨rfl,0,_,by rw [alloc_eq_grow]; rfl⟩
theorem RG (k:Int)(v1 v2 v3 v4:Value)(h1:v1.oneCell'=true)(h2:v2.oneCell'=true)(h3:v3.oneCell'=true)(h4:v4.oneCell'=true)(k':Int)(u1 u2 u3 u4:Value)(g1:u1.oneCell'=true)(g2:u2.oneCell'=true)(g3:u3.oneCell'=true)(g4:u4.oneCell'=true)(c:Nat)(W:World)(hc:W.cell? ⟨c,0,none⟩=some (.func (.func 117) #[] #[]))(hlt:c<W.heap.size) :
 Calls Tryz.prog 199 #[.agg #[Value.int .u64 k,v1,v2,v3,v4],.agg #[Value.int .u64 k',u1,u2,u3,u4],.pointer (some ⟨c,0,none⟩)] W λe w'=>e=.returned (.int .i64 (nW k k'))/\∃ q os,w'=grow (W.drewN q) os:=by
 have Hc:=(show Hid _ from hc);have Hn1:=(show Hid _ from λW=>Qn k v1 v2 v3 v4 h1 h2 h3 h4 W);have Hn2:=(show Hid _ from λW=>Qn k' u1 u2 u3 u4 g1 g2 g3 g4 W);have Hn3:=(show Hid _ from λW=>ou k k' W);have mixed:Tryz.prog.follows .mixedOrders=true:=by kernel_rfl
 clear hc;generalize nW k k'=r at *
 go_enter Tryz.func199,Tryz.ntmps199
 go_wp2_with fail
 generalize hwq:((W.alloc (Obj.cells #[Value.int .u64 k,v1,v2,v3,v4] 61)).alloc (Obj.cells #[Value.int .u64 k',u1,u2,u3,u4] 61))=wq;have lc:=uG hwq Hc.out hlt;have m0:=cK hwq 0 (Value.int .u64 k) rfl;have m1:=cK hwq 1 (v1) rfl;have m2:=cK hwq 2 (v2) rfl;have m3:=cK hwq 3 (v3) rfl;have m4:=cK hwq 4 (v4) rfl;have p0:=cO hwq 0 (Value.int .u64 k') rfl;have p1:=cO hwq 1 (u1) rfl;have p2:=cO hwq 2 (u2) rfl;have p3:=cO hwq 3 (u3) rfl;have p4:=cO hwq 4 (u4) rfl;refine wp_region_quiet_grown (by assumption) (by kernel_rfl) ?_
 quiet_step (fail)
 quiet_step (fail)
 quiet_step (refine Calls.grown_of (Hn1.out _))
 quiet_step (fail)
 quiet_step (fail)
 quiet_step (refine Calls.grown_of (Hn2.out _))
 quiet_step (refine Calls.grown_of ((Hn3.out _).mono λe w' ⟨h1,q,h2⟩=>⟨h1,q,#[],by rw [grow_empty]; exact h2⟩))
 quiet_step (fail)
 refine wpQuiet_nil ?_;intro _ hw';obtain ⟨⟨nq,osq⟩,hw''⟩:=hw';subst hw''
 go_wp2_with fail
 go_ret
 rw [← hwq,alloc_eq_grow,alloc_eq_grow];refine ⟨rfl,nq,#[Obj.cells #[Value.int .u64 k,v1,v2,v3,v4] 61]++#[Obj.cells #[Value.int .u64 k',u1,u2,u3,u4] 61]++osq,?_⟩;show grow (grow (grow (W.drewN nq) _) _) osq=_;simp only [grow_grow]
theorem Na:jR Tryz.prog BX:=by
 intro W c x y hc;have hlt:c<W.heap.size:=by
  obtain h | h:=cn c W.heap.size
  . exact h
  . simp [World.cell?,Array.getElem?_eq_none h] at hc
 obtain ⟨xs,xl,xo,xk,xh⟩:=x;obtain ⟨ys,yl,yo,yk,yh⟩:=y;simp only [BX] at xs xl xh ys yl yh hc ⊢;obtain ⟨a0,a1,a2,a3,a4,rfl⟩:∃ a0 a1 a2 a3 a4,xs=[a0,a1,a2,a3,a4]:=by
  match xs,xl with
  | [a0,a1,a2,a3,a4],_=>exact ⟨a0,a1,a2,a3,a4,rfl⟩
 obtain ⟨b0,b1,b2,b3,b4,rfl⟩:∃ b0 b1 b2 b3 b4,ys=[b0,b1,b2,b3,b4]:=by
  match ys,yl with
  | [b0,b1,b2,b3,b4],_=>exact ⟨b0,b1,b2,b3,b4,rfl⟩
 simp only [List.getElem?_cons_zero,bd] at xh yh;subst xh; subst yh;exact RG xk a1 a2 a3 a4 (xo _ (by simp)) (xo _ (by simp)) (xo _ (by simp)) (xo _ (by simp)) yk b1 b2 b3 b4 (yo _ (by simp)) (yo _ (by simp)) (yo _ (by simp)) (yo _ (by simp)) c W hc hlt
