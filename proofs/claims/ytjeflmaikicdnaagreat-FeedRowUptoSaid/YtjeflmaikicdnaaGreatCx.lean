/- The comparisons of config.with, walked. -/
import Derived.WalkKit
import Derived.Test.YtjeflmaikicdnaaGreatYd
import Derived.Shelf.SlSortCmp.WholeK
import Derived.KernelRfl
set_option maxHeartbeats 4000000
set_option maxRecDepth 100000
set_option linter.unusedVariables false
namespace Go.Proofs.YtjeflmaikicdnaaGreat
open Go.RowKit Go.Sort Go.Shelf Go.Lib
theorem Kw (a:Int)(W:World):Calls Tryz.prog 226 #[.int .u64 a] W λe w'=>e=.returned (.bool false)/\w'=W:=by
 go_enter Tryz.func226,Tryz.ntmps226
 go_wp2
 go_ret
 exact ⟨rfl,rfl⟩
def ol (a b:Int):Int:=if a<b then -1 else if b<a then 1 else 0
theorem oM (a b:Int)(W:World):Calls Tryz.prog 149 #[.int .u64 a,.int .u64 b] W λe w'=>e=.returned (.int .i64 (ol a b))/\∃ q,w'=W.drewN q:=by
 have n1:=λW=>Kw a W;have n2:=λW=>Kw b W;unfold ol;by_cases h1:a<b
 . simp only [h1,if_true]
   go_enter Tryz.func149,Tryz.ntmps149
   go_wp2_with (go_at_call 226; first | (refine (n1 _).mono ?_; rintro e w' ⟨rfl,rfl⟩) | (refine (n2 _).mono ?_; rintro e w' ⟨rfl,rfl⟩))
   go_ret
   exact ⟨rfl,0,rfl⟩
 . by_cases h2:b<a
   . simp only [h1,h2,if_true,if_false]
     go_enter Tryz.func149,Tryz.ntmps149
     go_wp2_with (go_at_call 226; first | (refine (n1 _).mono ?_; rintro e w' ⟨rfl,rfl⟩) | (refine (n2 _).mono ?_; rintro e w' ⟨rfl,rfl⟩))
     go_ret
     exact ⟨rfl,0,rfl⟩
   . simp only [h1,h2,if_false]
     go_enter Tryz.func149,Tryz.ntmps149
     go_wp2_with (go_at_call 226; first | (refine (n1 _).mono ?_; rintro e w' ⟨rfl,rfl⟩) | (refine (n2 _).mono ?_; rintro e w' ⟨rfl,rfl⟩))
     go_ret
     exact ⟨rfl,0,rfl⟩
theorem Mf {W wq:World}{A B:Array Value}{t:TypeId}(h:(W.alloc (Obj.cells A t)).alloc (Obj.cells B t)=wq):wq.heap.size=W.heap.size+2/\wq.heap[W.heap.size]?=some (Obj.cells A t)/\wq.heap[W.heap.size+1]?=some (Obj.cells B t):=by
 subst h;refine ⟨by rw [World.size_alloc,World.size_alloc],?_,?_⟩
 . rw [Below.heap_alloc _ _ _ (by rw [World.size_alloc]; exact Nat.lt_succ_self _)];show (W.heap.push _)[W.heap.size]?=_;simp
 . show ((W.heap.push _).push _)[W.heap.size+1]?=_;rw [Array.getElem?_push,if_pos (by simp)]
theorem di {W wq:World}{A B:Array Value}{t:TypeId}(h:(W.alloc (Obj.cells A t)).alloc (Obj.cells B t)=wq)(j:Nat)(v:Value)(hv:A[j]?=some v)(n:Nat)(os:Array Obj):(grow (wq.drewN n) os).cell? ⟨W.heap.size,j,none⟩=some v:=by
 obtain ⟨h1,h2,_⟩:=Mf h;exact cell_grown (by show W.heap.size<_; omega) (by simp only [World.cell?,h2]; exact hv) n os
theorem dm {W wq:World}{A B:Array Value}{t:TypeId}(h:(W.alloc (Obj.cells A t)).alloc (Obj.cells B t)=wq)(j:Nat)(v:Value)(hv:B[j]?=some v)(n:Nat)(os:Array Obj):(grow (wq.drewN n) os).cell? ⟨W.heap.size+1,j,none⟩=some v:=by
 obtain ⟨h1,_,h2⟩:=Mf h;exact cell_grown (by show W.heap.size+1<_; omega) (by simp only [World.cell?,h2]; exact hv) n os
theorem uQ {W wq:World}{A B:Array Value}{t:TypeId}(h:(W.alloc (Obj.cells A t)).alloc (Obj.cells B t)=wq){c:Nat}{v:Value}(hc:W.cell? ⟨c,0,none⟩=some v)(hlt:c<W.heap.size)(n:Nat)(os:Array Obj):(grow (wq.drewN n) os).cell? ⟨c,0,none⟩=some v:=by
 obtain ⟨h1,_⟩:=Mf h;subst h;refine cell_grown (by show c<_; omega) ?_ n os;rw [← hc];simp only [World.cell?];rw [Below.heap_alloc _ _ _ (by rw [World.size_alloc]; exact Nat.lt_succ_of_lt hlt),Below.heap_alloc _ _ _ hlt]
theorem Yg (k:Int)(v1 v2 v3 v4 v5 v6:Value)(h1:v1.oneCell'=true)(h2:v2.oneCell'=true)(h3:v3.oneCell'=true)(h4:v4.oneCell'=true)(h5:v5.oneCell'=true)(h6:v6.oneCell'=true)(W:World) :
 Calls Tryz.prog 57 #[.agg #[Value.int .u64 k,v1,v2,v3,v4,v5,v6]] W λe w'=>e=.returned (.int .u64 k)/\∃ q os,w'=grow (W.drewN q) os:=by
 go_enter Tryz.func57,Tryz.ntmps57
 go_wp2
 go_ret
 exact ⟨rfl,0,_,by rw [alloc_eq_grow]; rfl⟩
theorem RL (k:Int)(v1 v2 v3 v4 v5 v6:Value)(h1:v1.oneCell'=true)(h2:v2.oneCell'=true)(h3:v3.oneCell'=true)(h4:v4.oneCell'=true)(h5:v5.oneCell'=true)(h6:v6.oneCell'=true)(k':Int)(u1 u2 u3 u4 u5 u6:Value)(g1:u1.oneCell'=true)(g2:u2.oneCell'=true)(g3:u3.oneCell'=true)(g4:u4.oneCell'=true)(g5:u5.oneCell'=true)(g6:u6.oneCell'=true)(c:Nat)(W:World)(hc:W.cell? ⟨c,0,none⟩=some (.func (.func 57) #[] #[]))(hlt:c<W.heap.size) :
 Calls Tryz.prog 224 #[.agg #[Value.int .u64 k,v1,v2,v3,v4,v5,v6],.agg #[Value.int .u64 k',u1,u2,u3,u4,u5,u6],.pointer (some ⟨c,0,none⟩)] W λe w'=>e=.returned (.int .i64 (ol k k'))/\∃ q os,w'=grow (W.drewN q) os:=by
 have Hc:=(show Hid _ from hc);have Hn1:=(show Hid _ from λW=>Yg k v1 v2 v3 v4 v5 v6 h1 h2 h3 h4 h5 h6 W);have Hn2:=(show Hid _ from λW=>Yg k' u1 u2 u3 u4 u5 u6 g1 g2 g3 g4 g5 g6 W);have Hn3:=(show Hid _ from λW=>oM k k' W);have mixed:Tryz.prog.follows .mixedOrders=true:=by kernel_rfl
 clear hc;generalize ol k k'=r at *
 go_enter Tryz.func224,Tryz.ntmps224
 go_wp2_with fail
 generalize hwq:((W.alloc (Obj.cells #[Value.int .u64 k,v1,v2,v3,v4,v5,v6] 51)).alloc (Obj.cells #[Value.int .u64 k',u1,u2,u3,u4,u5,u6] 51))=wq;have lc:=uQ hwq Hc.out hlt;have m0:=di hwq 0 (Value.int .u64 k) rfl;have m1:=di hwq 1 (v1) rfl;have m2:=di hwq 2 (v2) rfl;have m3:=di hwq 3 (v3) rfl;have m4:=di hwq 4 (v4) rfl;have m5:=di hwq 5 (v5) rfl;have m6:=di hwq 6 (v6) rfl;have p0:=dm hwq 0 (Value.int .u64 k') rfl;have p1:=dm hwq 1 (u1) rfl;have p2:=dm hwq 2 (u2) rfl;have p3:=dm hwq 3 (u3) rfl;have p4:=dm hwq 4 (u4) rfl;have p5:=dm hwq 5 (u5) rfl;have p6:=dm hwq 6 (u6) rfl;refine wp_region_quiet_grown (by assumption) (by kernel_rfl) ?_
 quiet_step (fail)
 quiet_step (fail)
 quiet_step (refine Calls.grown_of (Hn1.out _))
 quiet_step (fail)
 quiet_step (fail)
 quiet_step (refine Calls.grown_of (Hn2.out _))
 quiet_step (refine Calls.grown_of ((Hn3.out _).mono λe w' ⟨h1,q,h2⟩=>⟨h1,q,#[],by rw [grow_empty]; exact h2⟩))
 quiet_step (fail)
 refine wpQuiet_nil ?_;intro _ hw';obtain ⟨⟨nq,osq⟩,hw''⟩:=hw';subst hw''
 go_wp2_with fail
 go_ret
 rw [← hwq,alloc_eq_grow,alloc_eq_grow];refine ⟨rfl,nq,#[Obj.cells #[Value.int .u64 k,v1,v2,v3,v4,v5,v6] 51]++#[Obj.cells #[Value.int .u64 k',u1,u2,u3,u4,u5,u6] 51]++osq,?_⟩;show grow (grow (grow (W.drewN nq) _) _) osq=_;simp only [grow_grow]
theorem Nr:jP Tryz.prog F8:=by
 intro W c x y hc;have hlt:c<W.heap.size:=by
  obtain h | h:=co c W.heap.size
  . exact h
  . simp [World.cell?,Array.getElem?_eq_none h] at hc
 obtain ⟨xs,xl,xo,xk,xh⟩:=x;obtain ⟨ys,yl,yo,yk,yh⟩:=y;simp only [F8] at xs xl xh ys yl yh hc ⊢;obtain ⟨a0,a1,a2,a3,a4,a5,a6,rfl⟩:∃ a0 a1 a2 a3 a4 a5 a6,xs=[a0,a1,a2,a3,a4,a5,a6]:=by
  match xs,xl with
  | [a0,a1,a2,a3,a4,a5,a6],_=>exact ⟨a0,a1,a2,a3,a4,a5,a6,rfl⟩
 obtain ⟨b0,b1,b2,b3,b4,b5,b6,rfl⟩:∃ b0 b1 b2 b3 b4 b5 b6,ys=[b0,b1,b2,b3,b4,b5,b6]:=by
  match ys,yl with
  | [b0,b1,b2,b3,b4,b5,b6],_=>exact ⟨b0,b1,b2,b3,b4,b5,b6,rfl⟩
 simp only [List.getElem?_cons_zero,be] at xh yh;subst xh; subst yh;exact RL xk a1 a2 a3 a4 a5 a6 (xo _ (by simp)) (xo _ (by simp)) (xo _ (by simp)) (xo _ (by simp)) (xo _ (by simp)) (xo _ (by simp)) yk b1 b2 b3 b4 b5 b6 (yo _ (by simp)) (yo _ (by simp)) (yo _ (by simp)) (yo _ (by simp)) (yo _ (by simp)) (yo _ (by simp)) c W hc hlt
theorem Yh (k:Int)(v1 v2 v3 v4:Value)(h1:v1.oneCell'=true)(h2:v2.oneCell'=true)(h3:v3.oneCell'=true)(h4:v4.oneCell'=true)(W:World) :
 Calls Tryz.prog 60 #[.agg #[Value.int .u64 k,v1,v2,v3,v4]] W λe w'=>e=.returned (.int .u64 k)/\∃ q os,w'=grow (W.drewN q) os:=by
 go_enter Tryz.func60,Tryz.ntmps60
 go_wp2
 go_ret
 exact ⟨rfl,0,_,by rw [alloc_eq_grow]; rfl⟩
theorem RA (k:Int)(v1 v2 v3 v4:Value)(h1:v1.oneCell'=true)(h2:v2.oneCell'=true)(h3:v3.oneCell'=true)(h4:v4.oneCell'=true)(k':Int)(u1 u2 u3 u4:Value)(g1:u1.oneCell'=true)(g2:u2.oneCell'=true)(g3:u3.oneCell'=true)(g4:u4.oneCell'=true)(c:Nat)(W:World)(hc:W.cell? ⟨c,0,none⟩=some (.func (.func 60) #[] #[]))(hlt:c<W.heap.size) :
 Calls Tryz.prog 148 #[.agg #[Value.int .u64 k,v1,v2,v3,v4],.agg #[Value.int .u64 k',u1,u2,u3,u4],.pointer (some ⟨c,0,none⟩)] W λe w'=>e=.returned (.int .i64 (ol k k'))/\∃ q os,w'=grow (W.drewN q) os:=by
 have Hc:=(show Hid _ from hc);have Hn1:=(show Hid _ from λW=>Yh k v1 v2 v3 v4 h1 h2 h3 h4 W);have Hn2:=(show Hid _ from λW=>Yh k' u1 u2 u3 u4 g1 g2 g3 g4 W);have Hn3:=(show Hid _ from λW=>oM k k' W);have mixed:Tryz.prog.follows .mixedOrders=true:=by kernel_rfl
 clear hc;generalize ol k k'=r at *
 go_enter Tryz.func148,Tryz.ntmps148
 go_wp2_with fail
 generalize hwq:((W.alloc (Obj.cells #[Value.int .u64 k,v1,v2,v3,v4] 53)).alloc (Obj.cells #[Value.int .u64 k',u1,u2,u3,u4] 53))=wq;have lc:=uQ hwq Hc.out hlt;have m0:=di hwq 0 (Value.int .u64 k) rfl;have m1:=di hwq 1 (v1) rfl;have m2:=di hwq 2 (v2) rfl;have m3:=di hwq 3 (v3) rfl;have m4:=di hwq 4 (v4) rfl;have p0:=dm hwq 0 (Value.int .u64 k') rfl;have p1:=dm hwq 1 (u1) rfl;have p2:=dm hwq 2 (u2) rfl;have p3:=dm hwq 3 (u3) rfl;have p4:=dm hwq 4 (u4) rfl;refine wp_region_quiet_grown (by assumption) (by kernel_rfl) ?_
 quiet_step (fail)
 quiet_step (fail)
 quiet_step (refine Calls.grown_of (Hn1.out _))
 quiet_step (fail)
 quiet_step (fail)
 quiet_step (refine Calls.grown_of (Hn2.out _))
 quiet_step (refine Calls.grown_of ((Hn3.out _).mono λe w' ⟨h1,q,h2⟩=>⟨h1,q,#[],by rw [grow_empty]; exact h2⟩))
 quiet_step (fail)
 refine wpQuiet_nil ?_;intro _ hw';obtain ⟨⟨nq,osq⟩,hw''⟩:=hw';subst hw''
 go_wp2_with fail
 go_ret
 rw [← hwq,alloc_eq_grow,alloc_eq_grow];refine ⟨rfl,nq,#[Obj.cells #[Value.int .u64 k,v1,v2,v3,v4] 53]++#[Obj.cells #[Value.int .u64 k',u1,u2,u3,u4] 53]++osq,?_⟩;show grow (grow (grow (W.drewN nq) _) _) osq=_;simp only [grow_grow]
theorem Ni:jP Tryz.prog Ga:=by
 intro W c x y hc;have hlt:c<W.heap.size:=by
  obtain h | h:=co c W.heap.size
  . exact h
  . simp [World.cell?,Array.getElem?_eq_none h] at hc
 obtain ⟨xs,xl,xo,xk,xh⟩:=x;obtain ⟨ys,yl,yo,yk,yh⟩:=y;simp only [Ga] at xs xl xh ys yl yh hc ⊢;obtain ⟨a0,a1,a2,a3,a4,rfl⟩:∃ a0 a1 a2 a3 a4,xs=[a0,a1,a2,a3,a4]:=by
  match xs,xl with
  | [a0,a1,a2,a3,a4],_=>exact ⟨a0,a1,a2,a3,a4,rfl⟩
 obtain ⟨b0,b1,b2,b3,b4,rfl⟩:∃ b0 b1 b2 b3 b4,ys=[b0,b1,b2,b3,b4]:=by
  match ys,yl with
  | [b0,b1,b2,b3,b4],_=>exact ⟨b0,b1,b2,b3,b4,rfl⟩
 simp only [List.getElem?_cons_zero,be] at xh yh;subst xh; subst yh;exact RA xk a1 a2 a3 a4 (xo _ (by simp)) (xo _ (by simp)) (xo _ (by simp)) (xo _ (by simp)) yk b1 b2 b3 b4 (yo _ (by simp)) (yo _ (by simp)) (yo _ (by simp)) (yo _ (by simp)) c W hc hlt
theorem Yi (k:Int)(v1:Value)(h1:v1.oneCell'=true)(W:World) :
 Calls Tryz.prog 67 #[.agg #[Value.int .u64 k,v1]] W λe w'=>e=.returned (.int .u64 k)/\∃ q os,w'=grow (W.drewN q) os:=by
 go_enter Tryz.func67,Tryz.ntmps67
 go_wp2
 go_ret
 exact ⟨rfl,0,_,by rw [alloc_eq_grow]; rfl⟩
theorem RB (k:Int)(v1:Value)(h1:v1.oneCell'=true)(k':Int)(u1:Value)(g1:u1.oneCell'=true)(c:Nat)(W:World)(hc:W.cell? ⟨c,0,none⟩=some (.func (.func 67) #[] #[]))(hlt:c<W.heap.size) :
 Calls Tryz.prog 155 #[.agg #[Value.int .u64 k,v1],.agg #[Value.int .u64 k',u1],.pointer (some ⟨c,0,none⟩)] W λe w'=>e=.returned (.int .i64 (ol k k'))/\∃ q os,w'=grow (W.drewN q) os:=by
 have Hc:=(show Hid _ from hc);have Hn1:=(show Hid _ from λW=>Yi k v1 h1 W);have Hn2:=(show Hid _ from λW=>Yi k' u1 g1 W);have Hn3:=(show Hid _ from λW=>oM k k' W);have mixed:Tryz.prog.follows .mixedOrders=true:=by kernel_rfl
 clear hc;generalize ol k k'=r at *
 go_enter Tryz.func155,Tryz.ntmps155
 go_wp2_with fail
 generalize hwq:((W.alloc (Obj.cells #[Value.int .u64 k,v1] 55)).alloc (Obj.cells #[Value.int .u64 k',u1] 55))=wq;have lc:=uQ hwq Hc.out hlt;have m0:=di hwq 0 (Value.int .u64 k) rfl;have m1:=di hwq 1 (v1) rfl;have p0:=dm hwq 0 (Value.int .u64 k') rfl;have p1:=dm hwq 1 (u1) rfl;refine wp_region_quiet_grown (by assumption) (by kernel_rfl) ?_
 quiet_step (fail)
 quiet_step (fail)
 quiet_step (refine Calls.grown_of (Hn1.out _))
 quiet_step (fail)
 quiet_step (fail)
 quiet_step (refine Calls.grown_of (Hn2.out _))
 quiet_step (refine Calls.grown_of ((Hn3.out _).mono λe w' ⟨h1,q,h2⟩=>⟨h1,q,#[],by rw [grow_empty]; exact h2⟩))
 quiet_step (fail)
 refine wpQuiet_nil ?_;intro _ hw';obtain ⟨⟨nq,osq⟩,hw''⟩:=hw';subst hw''
 go_wp2_with fail
 go_ret
 rw [← hwq,alloc_eq_grow,alloc_eq_grow];refine ⟨rfl,nq,#[Obj.cells #[Value.int .u64 k,v1] 55]++#[Obj.cells #[Value.int .u64 k',u1] 55]++osq,?_⟩;show grow (grow (grow (W.drewN nq) _) _) osq=_;simp only [grow_grow]
theorem Nj:jP Tryz.prog Gb:=by
 intro W c x y hc;have hlt:c<W.heap.size:=by
  obtain h | h:=co c W.heap.size
  . exact h
  . simp [World.cell?,Array.getElem?_eq_none h] at hc
 obtain ⟨xs,xl,xo,xk,xh⟩:=x;obtain ⟨ys,yl,yo,yk,yh⟩:=y;simp only [Gb] at xs xl xh ys yl yh hc ⊢;obtain ⟨a0,a1,rfl⟩:∃ a0 a1,xs=[a0,a1]:=by
  match xs,xl with
  | [a0,a1],_=>exact ⟨a0,a1,rfl⟩
 obtain ⟨b0,b1,rfl⟩:∃ b0 b1,ys=[b0,b1]:=by
  match ys,yl with
  | [b0,b1],_=>exact ⟨b0,b1,rfl⟩
 simp only [List.getElem?_cons_zero,be] at xh yh;subst xh; subst yh;exact RB xk a1 (xo _ (by simp)) yk b1 (yo _ (by simp)) c W hc hlt
theorem Yj (k:Int)(v1 v2 v3 v4:Value)(h1:v1.oneCell'=true)(h2:v2.oneCell'=true)(h3:v3.oneCell'=true)(h4:v4.oneCell'=true)(W:World) :
 Calls Tryz.prog 72 #[.agg #[Value.int .u64 k,v1,v2,v3,v4]] W λe w'=>e=.returned (.int .u64 k)/\∃ q os,w'=grow (W.drewN q) os:=by
 go_enter Tryz.func72,Tryz.ntmps72
 go_wp2
 go_ret
 exact ⟨rfl,0,_,by rw [alloc_eq_grow]; rfl⟩
theorem RD (k:Int)(v1 v2 v3 v4:Value)(h1:v1.oneCell'=true)(h2:v2.oneCell'=true)(h3:v3.oneCell'=true)(h4:v4.oneCell'=true)(k':Int)(u1 u2 u3 u4:Value)(g1:u1.oneCell'=true)(g2:u2.oneCell'=true)(g3:u3.oneCell'=true)(g4:u4.oneCell'=true)(c:Nat)(W:World)(hc:W.cell? ⟨c,0,none⟩=some (.func (.func 72) #[] #[]))(hlt:c<W.heap.size) :
 Calls Tryz.prog 160 #[.agg #[Value.int .u64 k,v1,v2,v3,v4],.agg #[Value.int .u64 k',u1,u2,u3,u4],.pointer (some ⟨c,0,none⟩)] W λe w'=>e=.returned (.int .i64 (ol k k'))/\∃ q os,w'=grow (W.drewN q) os:=by
 have Hc:=(show Hid _ from hc);have Hn1:=(show Hid _ from λW=>Yj k v1 v2 v3 v4 h1 h2 h3 h4 W);have Hn2:=(show Hid _ from λW=>Yj k' u1 u2 u3 u4 g1 g2 g3 g4 W);have Hn3:=(show Hid _ from λW=>oM k k' W);have mixed:Tryz.prog.follows .mixedOrders=true:=by kernel_rfl
 clear hc;generalize ol k k'=r at *
 go_enter Tryz.func160,Tryz.ntmps160
 go_wp2_with fail
 generalize hwq:((W.alloc (Obj.cells #[Value.int .u64 k,v1,v2,v3,v4] 58)).alloc (Obj.cells #[Value.int .u64 k',u1,u2,u3,u4] 58))=wq;have lc:=uQ hwq Hc.out hlt;have m0:=di hwq 0 (Value.int .u64 k) rfl;have m1:=di hwq 1 (v1) rfl;have m2:=di hwq 2 (v2) rfl;have m3:=di hwq 3 (v3) rfl;have m4:=di hwq 4 (v4) rfl;have p0:=dm hwq 0 (Value.int .u64 k') rfl;have p1:=dm hwq 1 (u1) rfl;have p2:=dm hwq 2 (u2) rfl;have p3:=dm hwq 3 (u3) rfl;have p4:=dm hwq 4 (u4) rfl;refine wp_region_quiet_grown (by assumption) (by kernel_rfl) ?_
 quiet_step (fail)
 quiet_step (fail)
 quiet_step (refine Calls.grown_of (Hn1.out _))
 quiet_step (fail)
 quiet_step (fail)
 quiet_step (refine Calls.grown_of (Hn2.out _))
 quiet_step (refine Calls.grown_of ((Hn3.out _).mono λe w' ⟨h1,q,h2⟩=>⟨h1,q,#[],by rw [grow_empty]; exact h2⟩))
 quiet_step (fail)
 refine wpQuiet_nil ?_;intro _ hw';obtain ⟨⟨nq,osq⟩,hw''⟩:=hw';subst hw''
 go_wp2_with fail
 go_ret
 rw [← hwq,alloc_eq_grow,alloc_eq_grow];refine ⟨rfl,nq,#[Obj.cells #[Value.int .u64 k,v1,v2,v3,v4] 58]++#[Obj.cells #[Value.int .u64 k',u1,u2,u3,u4] 58]++osq,?_⟩;show grow (grow (grow (W.drewN nq) _) _) osq=_;simp only [grow_grow]
theorem Nk:jP Tryz.prog F9:=by
 intro W c x y hc;have hlt:c<W.heap.size:=by
  obtain h | h:=co c W.heap.size
  . exact h
  . simp [World.cell?,Array.getElem?_eq_none h] at hc
 obtain ⟨xs,xl,xo,xk,xh⟩:=x;obtain ⟨ys,yl,yo,yk,yh⟩:=y;simp only [F9] at xs xl xh ys yl yh hc ⊢;obtain ⟨a0,a1,a2,a3,a4,rfl⟩:∃ a0 a1 a2 a3 a4,xs=[a0,a1,a2,a3,a4]:=by
  match xs,xl with
  | [a0,a1,a2,a3,a4],_=>exact ⟨a0,a1,a2,a3,a4,rfl⟩
 obtain ⟨b0,b1,b2,b3,b4,rfl⟩:∃ b0 b1 b2 b3 b4,ys=[b0,b1,b2,b3,b4]:=by
  match ys,yl with
  | [b0,b1,b2,b3,b4],_=>exact ⟨b0,b1,b2,b3,b4,rfl⟩
 simp only [List.getElem?_cons_zero,be] at xh yh;subst xh; subst yh;exact RD xk a1 a2 a3 a4 (xo _ (by simp)) (xo _ (by simp)) (xo _ (by simp)) (xo _ (by simp)) yk b1 b2 b3 b4 (yo _ (by simp)) (yo _ (by simp)) (yo _ (by simp)) (yo _ (by simp)) c W hc hlt
theorem Yk (k:Int)(v1 v2 v3 v4 v5 v6:Value)(h1:v1.oneCell'=true)(h2:v2.oneCell'=true)(h3:v3.oneCell'=true)(h4:v4.oneCell'=true)(h5:v5.oneCell'=true)(h6:v6.oneCell'=true)(W:World) :
 Calls Tryz.prog 78 #[.agg #[Value.int .u64 k,v1,v2,v3,v4,v5,v6]] W λe w'=>e=.returned (.int .u64 k)/\∃ q os,w'=grow (W.drewN q) os:=by
 go_enter Tryz.func78,Tryz.ntmps78
 go_wp2
 go_ret
 exact ⟨rfl,0,_,by rw [alloc_eq_grow]; rfl⟩
theorem RG (k:Int)(v1 v2 v3 v4 v5 v6:Value)(h1:v1.oneCell'=true)(h2:v2.oneCell'=true)(h3:v3.oneCell'=true)(h4:v4.oneCell'=true)(h5:v5.oneCell'=true)(h6:v6.oneCell'=true)(k':Int)(u1 u2 u3 u4 u5 u6:Value)(g1:u1.oneCell'=true)(g2:u2.oneCell'=true)(g3:u3.oneCell'=true)(g4:u4.oneCell'=true)(g5:u5.oneCell'=true)(g6:u6.oneCell'=true)(c:Nat)(W:World)(hc:W.cell? ⟨c,0,none⟩=some (.func (.func 78) #[] #[]))(hlt:c<W.heap.size) :
 Calls Tryz.prog 174 #[.agg #[Value.int .u64 k,v1,v2,v3,v4,v5,v6],.agg #[Value.int .u64 k',u1,u2,u3,u4,u5,u6],.pointer (some ⟨c,0,none⟩)] W λe w'=>e=.returned (.int .i64 (ol k k'))/\∃ q os,w'=grow (W.drewN q) os:=by
 have Hc:=(show Hid _ from hc);have Hn1:=(show Hid _ from λW=>Yk k v1 v2 v3 v4 v5 v6 h1 h2 h3 h4 h5 h6 W);have Hn2:=(show Hid _ from λW=>Yk k' u1 u2 u3 u4 u5 u6 g1 g2 g3 g4 g5 g6 W);have Hn3:=(show Hid _ from λW=>oM k k' W);have mixed:Tryz.prog.follows .mixedOrders=true:=by kernel_rfl
 clear hc;generalize ol k k'=r at *
 go_enter Tryz.func174,Tryz.ntmps174
 go_wp2_with fail
 generalize hwq:((W.alloc (Obj.cells #[Value.int .u64 k,v1,v2,v3,v4,v5,v6] 51)).alloc (Obj.cells #[Value.int .u64 k',u1,u2,u3,u4,u5,u6] 51))=wq;have lc:=uQ hwq Hc.out hlt;have m0:=di hwq 0 (Value.int .u64 k) rfl;have m1:=di hwq 1 (v1) rfl;have m2:=di hwq 2 (v2) rfl;have m3:=di hwq 3 (v3) rfl;have m4:=di hwq 4 (v4) rfl;have m5:=di hwq 5 (v5) rfl;have m6:=di hwq 6 (v6) rfl;have p0:=dm hwq 0 (Value.int .u64 k') rfl;have p1:=dm hwq 1 (u1) rfl;have p2:=dm hwq 2 (u2) rfl;have p3:=dm hwq 3 (u3) rfl;have p4:=dm hwq 4 (u4) rfl;have p5:=dm hwq 5 (u5) rfl;have p6:=dm hwq 6 (u6) rfl;refine wp_region_quiet_grown (by assumption) (by kernel_rfl) ?_
 quiet_step (fail)
 quiet_step (fail)
 quiet_step (refine Calls.grown_of (Hn1.out _))
 quiet_step (fail)
 quiet_step (fail)
 quiet_step (refine Calls.grown_of (Hn2.out _))
 quiet_step (refine Calls.grown_of ((Hn3.out _).mono λe w' ⟨h1,q,h2⟩=>⟨h1,q,#[],by rw [grow_empty]; exact h2⟩))
 quiet_step (fail)
 refine wpQuiet_nil ?_;intro _ hw';obtain ⟨⟨nq,osq⟩,hw''⟩:=hw';subst hw''
 go_wp2_with fail
 go_ret
 rw [← hwq,alloc_eq_grow,alloc_eq_grow];refine ⟨rfl,nq,#[Obj.cells #[Value.int .u64 k,v1,v2,v3,v4,v5,v6] 51]++#[Obj.cells #[Value.int .u64 k',u1,u2,u3,u4,u5,u6] 51]++osq,?_⟩;show grow (grow (grow (W.drewN nq) _) _) osq=_;simp only [grow_grow]
theorem Nl:jP Tryz.prog Cn:=by
 intro W c x y hc;have hlt:c<W.heap.size:=by
  obtain h | h:=co c W.heap.size
  . exact h
  . simp [World.cell?,Array.getElem?_eq_none h] at hc
 obtain ⟨xs,xl,xo,xk,xh⟩:=x;obtain ⟨ys,yl,yo,yk,yh⟩:=y;simp only [Cn] at xs xl xh ys yl yh hc ⊢;obtain ⟨a0,a1,a2,a3,a4,a5,a6,rfl⟩:∃ a0 a1 a2 a3 a4 a5 a6,xs=[a0,a1,a2,a3,a4,a5,a6]:=by
  match xs,xl with
  | [a0,a1,a2,a3,a4,a5,a6],_=>exact ⟨a0,a1,a2,a3,a4,a5,a6,rfl⟩
 obtain ⟨b0,b1,b2,b3,b4,b5,b6,rfl⟩:∃ b0 b1 b2 b3 b4 b5 b6,ys=[b0,b1,b2,b3,b4,b5,b6]:=by
  match ys,yl with
  | [b0,b1,b2,b3,b4,b5,b6],_=>exact ⟨b0,b1,b2,b3,b4,b5,b6,rfl⟩
 simp only [List.getElem?_cons_zero,be] at xh yh;subst xh; subst yh;exact RG xk a1 a2 a3 a4 a5 a6 (xo _ (by simp)) (xo _ (by simp)) (xo _ (by simp)) (xo _ (by simp)) (xo _ (by simp)) (xo _ (by simp)) yk b1 b2 b3 b4 b5 b6 (yo _ (by simp)) (yo _ (by simp)) (yo _ (by simp)) (yo _ (by simp)) (yo _ (by simp)) (yo _ (by simp)) c W hc hlt
theorem Yl (k:Int)(v1 v2 v3 v4:Value)(h1:v1.oneCell'=true)(h2:v2.oneCell'=true)(h3:v3.oneCell'=true)(h4:v4.oneCell'=true)(W:World) :
 Calls Tryz.prog 80 #[.agg #[Value.int .u64 k,v1,v2,v3,v4]] W λe w'=>e=.returned (.int .u64 k)/\∃ q os,w'=grow (W.drewN q) os:=by
 go_enter Tryz.func80,Tryz.ntmps80
 go_wp2
 go_ret
 exact ⟨rfl,0,_,by rw [alloc_eq_grow]; rfl⟩
theorem RH (k:Int)(v1 v2 v3 v4:Value)(h1:v1.oneCell'=true)(h2:v2.oneCell'=true)(h3:v3.oneCell'=true)(h4:v4.oneCell'=true)(k':Int)(u1 u2 u3 u4:Value)(g1:u1.oneCell'=true)(g2:u2.oneCell'=true)(g3:u3.oneCell'=true)(g4:u4.oneCell'=true)(c:Nat)(W:World)(hc:W.cell? ⟨c,0,none⟩=some (.func (.func 80) #[] #[]))(hlt:c<W.heap.size) :
 Calls Tryz.prog 177 #[.agg #[Value.int .u64 k,v1,v2,v3,v4],.agg #[Value.int .u64 k',u1,u2,u3,u4],.pointer (some ⟨c,0,none⟩)] W λe w'=>e=.returned (.int .i64 (ol k k'))/\∃ q os,w'=grow (W.drewN q) os:=by
 have Hc:=(show Hid _ from hc);have Hn1:=(show Hid _ from λW=>Yl k v1 v2 v3 v4 h1 h2 h3 h4 W);have Hn2:=(show Hid _ from λW=>Yl k' u1 u2 u3 u4 g1 g2 g3 g4 W);have Hn3:=(show Hid _ from λW=>oM k k' W);have mixed:Tryz.prog.follows .mixedOrders=true:=by kernel_rfl
 clear hc;generalize ol k k'=r at *
 go_enter Tryz.func177,Tryz.ntmps177
 go_wp2_with fail
 generalize hwq:((W.alloc (Obj.cells #[Value.int .u64 k,v1,v2,v3,v4] 53)).alloc (Obj.cells #[Value.int .u64 k',u1,u2,u3,u4] 53))=wq;have lc:=uQ hwq Hc.out hlt;have m0:=di hwq 0 (Value.int .u64 k) rfl;have m1:=di hwq 1 (v1) rfl;have m2:=di hwq 2 (v2) rfl;have m3:=di hwq 3 (v3) rfl;have m4:=di hwq 4 (v4) rfl;have p0:=dm hwq 0 (Value.int .u64 k') rfl;have p1:=dm hwq 1 (u1) rfl;have p2:=dm hwq 2 (u2) rfl;have p3:=dm hwq 3 (u3) rfl;have p4:=dm hwq 4 (u4) rfl;refine wp_region_quiet_grown (by assumption) (by kernel_rfl) ?_
 quiet_step (fail)
 quiet_step (fail)
 quiet_step (refine Calls.grown_of (Hn1.out _))
 quiet_step (fail)
 quiet_step (fail)
 quiet_step (refine Calls.grown_of (Hn2.out _))
 quiet_step (refine Calls.grown_of ((Hn3.out _).mono λe w' ⟨h1,q,h2⟩=>⟨h1,q,#[],by rw [grow_empty]; exact h2⟩))
 quiet_step (fail)
 refine wpQuiet_nil ?_;intro _ hw';obtain ⟨⟨nq,osq⟩,hw''⟩:=hw';subst hw''
 go_wp2_with fail
 go_ret
 rw [← hwq,alloc_eq_grow,alloc_eq_grow];refine ⟨rfl,nq,#[Obj.cells #[Value.int .u64 k,v1,v2,v3,v4] 53]++#[Obj.cells #[Value.int .u64 k',u1,u2,u3,u4] 53]++osq,?_⟩;show grow (grow (grow (W.drewN nq) _) _) osq=_;simp only [grow_grow]
theorem Nn:jP Tryz.prog Cs:=by
 intro W c x y hc;have hlt:c<W.heap.size:=by
  obtain h | h:=co c W.heap.size
  . exact h
  . simp [World.cell?,Array.getElem?_eq_none h] at hc
 obtain ⟨xs,xl,xo,xk,xh⟩:=x;obtain ⟨ys,yl,yo,yk,yh⟩:=y;simp only [Cs] at xs xl xh ys yl yh hc ⊢;obtain ⟨a0,a1,a2,a3,a4,rfl⟩:∃ a0 a1 a2 a3 a4,xs=[a0,a1,a2,a3,a4]:=by
  match xs,xl with
  | [a0,a1,a2,a3,a4],_=>exact ⟨a0,a1,a2,a3,a4,rfl⟩
 obtain ⟨b0,b1,b2,b3,b4,rfl⟩:∃ b0 b1 b2 b3 b4,ys=[b0,b1,b2,b3,b4]:=by
  match ys,yl with
  | [b0,b1,b2,b3,b4],_=>exact ⟨b0,b1,b2,b3,b4,rfl⟩
 simp only [List.getElem?_cons_zero,be] at xh yh;subst xh; subst yh;exact RH xk a1 a2 a3 a4 (xo _ (by simp)) (xo _ (by simp)) (xo _ (by simp)) (xo _ (by simp)) yk b1 b2 b3 b4 (yo _ (by simp)) (yo _ (by simp)) (yo _ (by simp)) (yo _ (by simp)) c W hc hlt
theorem Ym (k:Int)(v1:Value)(h1:v1.oneCell'=true)(W:World) :
 Calls Tryz.prog 82 #[.agg #[Value.int .u64 k,v1]] W λe w'=>e=.returned (.int .u64 k)/\∃ q os,w'=grow (W.drewN q) os:=by
 go_enter Tryz.func82,Tryz.ntmps82
 go_wp2
 go_ret
 exact ⟨rfl,0,_,by rw [alloc_eq_grow]; rfl⟩
theorem RI (k:Int)(v1:Value)(h1:v1.oneCell'=true)(k':Int)(u1:Value)(g1:u1.oneCell'=true)(c:Nat)(W:World)(hc:W.cell? ⟨c,0,none⟩=some (.func (.func 82) #[] #[]))(hlt:c<W.heap.size) :
 Calls Tryz.prog 181 #[.agg #[Value.int .u64 k,v1],.agg #[Value.int .u64 k',u1],.pointer (some ⟨c,0,none⟩)] W λe w'=>e=.returned (.int .i64 (ol k k'))/\∃ q os,w'=grow (W.drewN q) os:=by
 have Hc:=(show Hid _ from hc);have Hn1:=(show Hid _ from λW=>Ym k v1 h1 W);have Hn2:=(show Hid _ from λW=>Ym k' u1 g1 W);have Hn3:=(show Hid _ from λW=>oM k k' W);have mixed:Tryz.prog.follows .mixedOrders=true:=by kernel_rfl
 clear hc;generalize ol k k'=r at *
 go_enter Tryz.func181,Tryz.ntmps181
 go_wp2_with fail
 generalize hwq:((W.alloc (Obj.cells #[Value.int .u64 k,v1] 55)).alloc (Obj.cells #[Value.int .u64 k',u1] 55))=wq;have lc:=uQ hwq Hc.out hlt;have m0:=di hwq 0 (Value.int .u64 k) rfl;have m1:=di hwq 1 (v1) rfl;have p0:=dm hwq 0 (Value.int .u64 k') rfl;have p1:=dm hwq 1 (u1) rfl;refine wp_region_quiet_grown (by assumption) (by kernel_rfl) ?_
 quiet_step (fail)
 quiet_step (fail)
 quiet_step (refine Calls.grown_of (Hn1.out _))
 quiet_step (fail)
 quiet_step (fail)
 quiet_step (refine Calls.grown_of (Hn2.out _))
 quiet_step (refine Calls.grown_of ((Hn3.out _).mono λe w' ⟨h1,q,h2⟩=>⟨h1,q,#[],by rw [grow_empty]; exact h2⟩))
 quiet_step (fail)
 refine wpQuiet_nil ?_;intro _ hw';obtain ⟨⟨nq,osq⟩,hw''⟩:=hw';subst hw''
 go_wp2_with fail
 go_ret
 rw [← hwq,alloc_eq_grow,alloc_eq_grow];refine ⟨rfl,nq,#[Obj.cells #[Value.int .u64 k,v1] 55]++#[Obj.cells #[Value.int .u64 k',u1] 55]++osq,?_⟩;show grow (grow (grow (W.drewN nq) _) _) osq=_;simp only [grow_grow]
theorem Np:jP Tryz.prog Ct:=by
 intro W c x y hc;have hlt:c<W.heap.size:=by
  obtain h | h:=co c W.heap.size
  . exact h
  . simp [World.cell?,Array.getElem?_eq_none h] at hc
 obtain ⟨xs,xl,xo,xk,xh⟩:=x;obtain ⟨ys,yl,yo,yk,yh⟩:=y;simp only [Ct] at xs xl xh ys yl yh hc ⊢;obtain ⟨a0,a1,rfl⟩:∃ a0 a1,xs=[a0,a1]:=by
  match xs,xl with
  | [a0,a1],_=>exact ⟨a0,a1,rfl⟩
 obtain ⟨b0,b1,rfl⟩:∃ b0 b1,ys=[b0,b1]:=by
  match ys,yl with
  | [b0,b1],_=>exact ⟨b0,b1,rfl⟩
 simp only [List.getElem?_cons_zero,be] at xh yh;subst xh; subst yh;exact RI xk a1 (xo _ (by simp)) yk b1 (yo _ (by simp)) c W hc hlt
theorem Yn (k:Int)(v1 v2 v3 v4:Value)(h1:v1.oneCell'=true)(h2:v2.oneCell'=true)(h3:v3.oneCell'=true)(h4:v4.oneCell'=true)(W:World) :
 Calls Tryz.prog 85 #[.agg #[Value.int .u64 k,v1,v2,v3,v4]] W λe w'=>e=.returned (.int .u64 k)/\∃ q os,w'=grow (W.drewN q) os:=by
 go_enter Tryz.func85,Tryz.ntmps85
 go_wp2
 go_ret
 exact ⟨rfl,0,_,by rw [alloc_eq_grow]; rfl⟩
theorem RJ (k:Int)(v1 v2 v3 v4:Value)(h1:v1.oneCell'=true)(h2:v2.oneCell'=true)(h3:v3.oneCell'=true)(h4:v4.oneCell'=true)(k':Int)(u1 u2 u3 u4:Value)(g1:u1.oneCell'=true)(g2:u2.oneCell'=true)(g3:u3.oneCell'=true)(g4:u4.oneCell'=true)(c:Nat)(W:World)(hc:W.cell? ⟨c,0,none⟩=some (.func (.func 85) #[] #[]))(hlt:c<W.heap.size) :
 Calls Tryz.prog 185 #[.agg #[Value.int .u64 k,v1,v2,v3,v4],.agg #[Value.int .u64 k',u1,u2,u3,u4],.pointer (some ⟨c,0,none⟩)] W λe w'=>e=.returned (.int .i64 (ol k k'))/\∃ q os,w'=grow (W.drewN q) os:=by
 have Hc:=(show Hid _ from hc);have Hn1:=(show Hid _ from λW=>Yn k v1 v2 v3 v4 h1 h2 h3 h4 W);have Hn2:=(show Hid _ from λW=>Yn k' u1 u2 u3 u4 g1 g2 g3 g4 W);have Hn3:=(show Hid _ from λW=>oM k k' W);have mixed:Tryz.prog.follows .mixedOrders=true:=by kernel_rfl
 clear hc;generalize ol k k'=r at *
 go_enter Tryz.func185,Tryz.ntmps185
 go_wp2_with fail
 generalize hwq:((W.alloc (Obj.cells #[Value.int .u64 k,v1,v2,v3,v4] 58)).alloc (Obj.cells #[Value.int .u64 k',u1,u2,u3,u4] 58))=wq;have lc:=uQ hwq Hc.out hlt;have m0:=di hwq 0 (Value.int .u64 k) rfl;have m1:=di hwq 1 (v1) rfl;have m2:=di hwq 2 (v2) rfl;have m3:=di hwq 3 (v3) rfl;have m4:=di hwq 4 (v4) rfl;have p0:=dm hwq 0 (Value.int .u64 k') rfl;have p1:=dm hwq 1 (u1) rfl;have p2:=dm hwq 2 (u2) rfl;have p3:=dm hwq 3 (u3) rfl;have p4:=dm hwq 4 (u4) rfl;refine wp_region_quiet_grown (by assumption) (by kernel_rfl) ?_
 quiet_step (fail)
 quiet_step (fail)
 quiet_step (refine Calls.grown_of (Hn1.out _))
 quiet_step (fail)
 quiet_step (fail)
 quiet_step (refine Calls.grown_of (Hn2.out _))
 quiet_step (refine Calls.grown_of ((Hn3.out _).mono λe w' ⟨h1,q,h2⟩=>⟨h1,q,#[],by rw [grow_empty]; exact h2⟩))
 quiet_step (fail)
 refine wpQuiet_nil ?_;intro _ hw';obtain ⟨⟨nq,osq⟩,hw''⟩:=hw';subst hw''
 go_wp2_with fail
 go_ret
 rw [← hwq,alloc_eq_grow,alloc_eq_grow];refine ⟨rfl,nq,#[Obj.cells #[Value.int .u64 k,v1,v2,v3,v4] 58]++#[Obj.cells #[Value.int .u64 k',u1,u2,u3,u4] 58]++osq,?_⟩;show grow (grow (grow (W.drewN nq) _) _) osq=_;simp only [grow_grow]
theorem Nq:jP Tryz.prog Cr:=by
 intro W c x y hc;have hlt:c<W.heap.size:=by
  obtain h | h:=co c W.heap.size
  . exact h
  . simp [World.cell?,Array.getElem?_eq_none h] at hc
 obtain ⟨xs,xl,xo,xk,xh⟩:=x;obtain ⟨ys,yl,yo,yk,yh⟩:=y;simp only [Cr] at xs xl xh ys yl yh hc ⊢;obtain ⟨a0,a1,a2,a3,a4,rfl⟩:∃ a0 a1 a2 a3 a4,xs=[a0,a1,a2,a3,a4]:=by
  match xs,xl with
  | [a0,a1,a2,a3,a4],_=>exact ⟨a0,a1,a2,a3,a4,rfl⟩
 obtain ⟨b0,b1,b2,b3,b4,rfl⟩:∃ b0 b1 b2 b3 b4,ys=[b0,b1,b2,b3,b4]:=by
  match ys,yl with
  | [b0,b1,b2,b3,b4],_=>exact ⟨b0,b1,b2,b3,b4,rfl⟩
 simp only [List.getElem?_cons_zero,be] at xh yh;subst xh; subst yh;exact RJ xk a1 a2 a3 a4 (xo _ (by simp)) (xo _ (by simp)) (xo _ (by simp)) (xo _ (by simp)) yk b1 b2 b3 b4 (yo _ (by simp)) (yo _ (by simp)) (yo _ (by simp)) (yo _ (by simp)) c W hc hlt
