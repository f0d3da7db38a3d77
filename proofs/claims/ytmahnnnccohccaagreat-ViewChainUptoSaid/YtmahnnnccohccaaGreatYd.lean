/- What the laws of views call, in layers. -/
import Derived.Test.YtmahnnnccohccaaGreatOd
import Derived.Test.YtmahnnnccohccaaGreatWo
import Derived.Test.YtmahnnnccohccaaGreatWa
import Derived.Test.YtmahnnnccohccaaGreatTa
import Derived.Test.YtmahnnnccohccaaGreatF64
import Derived.Test.YtmahnnnccohccaaGreatKa
import Derived.Test.YtmahnnnccohccaaGreatRa
set_option maxRecDepth 100000
set_option linter.unusedVariables false
set_option linter.unusedSimpArgs false
namespace Go.Proofs.YtmahnnnccohccaaGreat
open Go.Sort (ltInt)
def noE:Calls':=fun _ _ _=>none
def tabL:List (Nat × QF):=[(443,q334),(496,q379)]
def TL:FuncId -> Option QF:=lookT tabL
theorem S241 {E:Calls'} (x:Int) (h:Hp):Sm E TT valT 323 [.d (u64 x)] h = some (.d (i64 (len64 x)),h):=by
 rw [Sm_v t241 v241]
 simp (decide:=true) [Bd_mk,q241,S338]
noncomputable def Et:Calls':=fun f args h=>match Nat.beq f 537 with
 | true=>Sm E1 TP valP f args h
 | false=>none
end Go.Proofs.YtmahnnnccohccaaGreat
namespace Go.Proofs.YtmahnnnccohccaaGreat
noncomputable def ET0:Calls':=fun f args h=>Sm noE TT valT f args h
def tabZ:List (Nat × QF):=[(355,q271),(457,q350),(500,q388),(360,q276),(459,q352),(508,q396),(364,q280),(460,q353),(516,q404),(368,q284),(461,q354),(524,q412)]
def TZ:FuncId -> Option QF:=lookT tabZ
def valZ (f:FuncId):Bool:=false
theorem z271:TZ 355 = some (q271):=by kernel_rfl
theorem z350:TZ 457 = some (q350):=by kernel_rfl
theorem z388:TZ 500 = some (q388):=by kernel_rfl
theorem z276:TZ 360 = some (q276):=by kernel_rfl
theorem z352:TZ 459 = some (q352):=by kernel_rfl
theorem z396:TZ 508 = some (q396):=by kernel_rfl
theorem z280:TZ 364 = some (q280):=by kernel_rfl
theorem z353:TZ 460 = some (q353):=by kernel_rfl
theorem z404:TZ 516 = some (q404):=by kernel_rfl
theorem z284:TZ 368 = some (q284):=by kernel_rfl
theorem z354:TZ 461 = some (q354):=by kernel_rfl
theorem z412:TZ 524 = some (q412):=by kernel_rfl
theorem z241:TZ 323 = none:=by kernel_rfl
theorem Z388 {E:Calls'} (v:V) (hv:v = .d (.slice true []) \/ ∃ B cap,v = .row B 0 0 cap 7) (h:Hp):Sm E TZ valZ 500 [v,.d (i64 0),.d (i64 0),.fn 356 [.ptr 2 0]] h = some (.tup [],h):=by
 rw [Sm_ref z388 rfl]
 rcases hv with rfl | ⟨B,cap,rfl⟩
 all_goals
  simp (decide:=true) [Bd_mk,q388]
  rw [Cd_keep]
  simp
  rw [Cd_round]
  simp (decide:=true) [q388_b1,V.under,V.under.go,tupOf]
theorem Z350 {E:Calls'} (v:V) (hv:v = .d (.slice true []) \/ ∃ B cap,v = .row B 0 0 cap 7) (n:Int) (h:Hp):Sm E TZ valZ 457 [v,.d (i64 0),.d (i64 0),.d (i64 n),.fn 356 [.ptr 2 0]] h = some (.tup [],h):=by
 have k:=fun h=>Z388 (E:=E) v hv h
 rw [Sm_ref z350 rfl]
 rcases hv with rfl | ⟨B,cap,rfl⟩
 all_goals
  simp (decide:=true) [Bd_mk,q350]
  rw [Cd_keep]
  simp
  rw [Cd_round]
  simp (decide:=true) [q350_b0,k,V.under,V.under.go,tupOf]
theorem Z271 {E:Calls'} (k241:∀ x h,E 323 [.d (u64 x)] h = some (.d (i64 (len64 x)),h)) (v:V) (hv:v = .d (.slice true []) \/ ∃ B cap,v = .row B 0 0 cap 7) (h:Hp):Sm E TZ valZ 355 [v,.fn 356 [.ptr 2 0]] h = some (.tup [],h):=by
 have k:=fun n h=>Z350 (E:=E) v hv n h
 have n241:∀ x h,Sm E TZ valZ 323 [.d (u64 x)] h = some (.d (i64 (len64 x)),h):=fun x h=>by rw [Sm_ext z241]; exact k241 x h
 have hw:IntKind.wrap .u64 0 = 0:=by decide
 rw [Sm_ref z271 rfl]
 rcases hv with rfl | ⟨B,cap,rfl⟩
 all_goals simp (decide:=true) [Bd_mk,q271,k,n241,hw,V.under,V.under.go,tupOf]
theorem Z396 {E:Calls'} (v:V) (hv:v = .d (.slice true []) \/ ∃ B cap,v = .row B 0 0 cap 5) (h:Hp):Sm E TZ valZ 508 [v,.d (i64 0),.d (i64 0),.fn 361 [.ptr 2 0]] h = some (.tup [],h):=by
 rw [Sm_ref z396 rfl]
 rcases hv with rfl | ⟨B,cap,rfl⟩
 all_goals
  simp (decide:=true) [Bd_mk,q396]
  rw [Cd_keep]
  simp
  rw [Cd_round]
  simp (decide:=true) [q396_b1,V.under,V.under.go,tupOf]
theorem Z352 {E:Calls'} (v:V) (hv:v = .d (.slice true []) \/ ∃ B cap,v = .row B 0 0 cap 5) (n:Int) (h:Hp):Sm E TZ valZ 459 [v,.d (i64 0),.d (i64 0),.d (i64 n),.fn 361 [.ptr 2 0]] h = some (.tup [],h):=by
 have k:=fun h=>Z396 (E:=E) v hv h
 rw [Sm_ref z352 rfl]
 rcases hv with rfl | ⟨B,cap,rfl⟩
 all_goals
  simp (decide:=true) [Bd_mk,q352]
  rw [Cd_keep]
  simp
  rw [Cd_round]
  simp (decide:=true) [q352_b0,k,V.under,V.under.go,tupOf]
theorem Z276 {E:Calls'} (k241:∀ x h,E 323 [.d (u64 x)] h = some (.d (i64 (len64 x)),h)) (v:V) (hv:v = .d (.slice true []) \/ ∃ B cap,v = .row B 0 0 cap 5) (h:Hp):Sm E TZ valZ 360 [v,.fn 361 [.ptr 2 0]] h = some (.tup [],h):=by
 have k:=fun n h=>Z352 (E:=E) v hv n h
 have n241:∀ x h,Sm E TZ valZ 323 [.d (u64 x)] h = some (.d (i64 (len64 x)),h):=fun x h=>by rw [Sm_ext z241]; exact k241 x h
 have hw:IntKind.wrap .u64 0 = 0:=by decide
 rw [Sm_ref z276 rfl]
 rcases hv with rfl | ⟨B,cap,rfl⟩
 all_goals simp (decide:=true) [Bd_mk,q276,k,n241,hw,V.under,V.under.go,tupOf]
theorem Z404 {E:Calls'} (v:V) (hv:v = .d (.slice true []) \/ ∃ B cap,v = .row B 0 0 cap 2) (h:Hp):Sm E TZ valZ 516 [v,.d (i64 0),.d (i64 0),.fn 365 [.ptr 2 0]] h = some (.tup [],h):=by
 rw [Sm_ref z404 rfl]
 rcases hv with rfl | ⟨B,cap,rfl⟩
 all_goals
  simp (decide:=true) [Bd_mk,q404]
  rw [Cd_keep]
  simp
  rw [Cd_round]
  simp (decide:=true) [q404_b1,V.under,V.under.go,tupOf]
theorem Z353 {E:Calls'} (v:V) (hv:v = .d (.slice true []) \/ ∃ B cap,v = .row B 0 0 cap 2) (n:Int) (h:Hp):Sm E TZ valZ 460 [v,.d (i64 0),.d (i64 0),.d (i64 n),.fn 365 [.ptr 2 0]] h = some (.tup [],h):=by
 have k:=fun h=>Z404 (E:=E) v hv h
 rw [Sm_ref z353 rfl]
 rcases hv with rfl | ⟨B,cap,rfl⟩
 all_goals
  simp (decide:=true) [Bd_mk,q353]
  rw [Cd_keep]
  simp
  rw [Cd_round]
  simp (decide:=true) [q353_b0,k,V.under,V.under.go,tupOf]
theorem Z280 {E:Calls'} (k241:∀ x h,E 323 [.d (u64 x)] h = some (.d (i64 (len64 x)),h)) (v:V) (hv:v = .d (.slice true []) \/ ∃ B cap,v = .row B 0 0 cap 2) (h:Hp):Sm E TZ valZ 364 [v,.fn 365 [.ptr 2 0]] h = some (.tup [],h):=by
 have k:=fun n h=>Z353 (E:=E) v hv n h
 have n241:∀ x h,Sm E TZ valZ 323 [.d (u64 x)] h = some (.d (i64 (len64 x)),h):=fun x h=>by rw [Sm_ext z241]; exact k241 x h
 have hw:IntKind.wrap .u64 0 = 0:=by decide
 rw [Sm_ref z280 rfl]
 rcases hv with rfl | ⟨B,cap,rfl⟩
 all_goals simp (decide:=true) [Bd_mk,q280,k,n241,hw,V.under,V.under.go,tupOf]
theorem Z412 {E:Calls'} (v:V) (hv:v = .d (.slice true []) \/ ∃ B cap,v = .row B 0 0 cap 5) (h:Hp):Sm E TZ valZ 524 [v,.d (i64 0),.d (i64 0),.fn 369 [.ptr 2 0]] h = some (.tup [],h):=by
 rw [Sm_ref z412 rfl]
 rcases hv with rfl | ⟨B,cap,rfl⟩
 all_goals
  simp (decide:=true) [Bd_mk,q412]
  rw [Cd_keep]
  simp
  rw [Cd_round]
  simp (decide:=true) [q412_b1,V.under,V.under.go,tupOf]
theorem Z354 {E:Calls'} (v:V) (hv:v = .d (.slice true []) \/ ∃ B cap,v = .row B 0 0 cap 5) (n:Int) (h:Hp):Sm E TZ valZ 461 [v,.d (i64 0),.d (i64 0),.d (i64 n),.fn 369 [.ptr 2 0]] h = some (.tup [],h):=by
 have k:=fun h=>Z412 (E:=E) v hv h
 rw [Sm_ref z354 rfl]
 rcases hv with rfl | ⟨B,cap,rfl⟩
 all_goals
  simp (decide:=true) [Bd_mk,q354]
  rw [Cd_keep]
  simp
  rw [Cd_round]
  simp (decide:=true) [q354_b0,k,V.under,V.under.go,tupOf]
theorem Z284 {E:Calls'} (k241:∀ x h,E 323 [.d (u64 x)] h = some (.d (i64 (len64 x)),h)) (v:V) (hv:v = .d (.slice true []) \/ ∃ B cap,v = .row B 0 0 cap 5) (h:Hp):Sm E TZ valZ 368 [v,.fn 369 [.ptr 2 0]] h = some (.tup [],h):=by
 have k:=fun n h=>Z354 (E:=E) v hv n h
 have n241:∀ x h,Sm E TZ valZ 323 [.d (u64 x)] h = some (.d (i64 (len64 x)),h):=fun x h=>by rw [Sm_ext z241]; exact k241 x h
 have hw:IntKind.wrap .u64 0 = 0:=by decide
 rw [Sm_ref z284 rfl]
 rcases hv with rfl | ⟨B,cap,rfl⟩
 all_goals simp (decide:=true) [Bd_mk,q284,k,n241,hw,V.under,V.under.go,tupOf]
noncomputable def srtE (s:SF) (id:FuncId) (args:List V) (h:Hp):Option (V × Hp):=match args with
 | [.row _ 0 (_ + 1) _ _,_]=>sortFE s args h
 | _=>Sm ET0 TZ valZ id args h
theorem srtE_pos {s:SF} {id:FuncId} {h:Hp} {B n z:Nat} {cap:Option Nat} {g:V} (hn:0 < n):srtE s id [.row B 0 n cap z,g] h = sortFE s [.row B 0 n cap z,g] h:=by
 cases n with
 | zero=>omega
 | succ n=>rfl
def sgPod:SF:=⟨7,0,356,178⟩
def sgSvc:SF:=⟨5,0,361,181⟩
def sgWay:SF:=⟨2,0,365,184⟩
def sgPol:SF:=⟨5,0,369,187⟩
noncomputable def EIC:Calls':=fun f args h=>match Nat.beq f 189 || Nat.beq f 66 with
 | true=>Sm ET0 TB valB f args h
 | false=>match Nat.beq f 355,Nat.beq f 360,Nat.beq f 364,Nat.beq f 368 with
  | true,_,_,_=>srtE sgPod f args h
  | _,true,_,_=>srtE sgSvc f args h
  | _,_,true,_=>srtE sgWay f args h
  | _,_,_,true=>srtE sgPol f args h
  | _,_,_,_=>Sm Et TT valT f args h
theorem ET0_241 (x:Int) (h:Hp):ET0 323 [.d (u64 x)] h = some (.d (i64 (len64 x)),h):=S241 (E:=noE) x h
theorem ET0_113 (p:Pol) (hp:p.ok) (h:Hp):ET0 245 [ag p.c] h = some (ag p.own.c,h):=S113 (E:=noE) p hp h
theorem EIC_put:PutH EIC where
 h117 s hs n h:=S117 (E:=Et) hs n h
 h263 p hp h:=S263 (E:=Et) (fun t ht h=>S385 t ht h) p hp h
 h155 s hs hf h:=B155 (E:=ET0) ET0_113 hs hf h
 h271 hn:=srtE_pos hn
 h276 hn:=srtE_pos hn
 h280 hn:=srtE_pos hn
 h284 hn:=srtE_pos hn
 n271 v hv h:=by
  have:=Z271 (E:=ET0) ET0_241 v hv h
  rcases hv with rfl | ⟨B,cap,rfl⟩ <;> exact this
 n276 v hv h:=by
  have:=Z276 (E:=ET0) ET0_241 v hv h
  rcases hv with rfl | ⟨B,cap,rfl⟩ <;> exact this
 n280 v hv h:=by
  have:=Z280 (E:=ET0) ET0_241 v hv h
  rcases hv with rfl | ⟨B,cap,rfl⟩ <;> exact this
 n284 v hv h:=by
  have:=Z284 (E:=ET0) ET0_241 v hv h
  rcases hv with rfl | ⟨B,cap,rfl⟩ <;> exact this
noncomputable def EQ7:Calls':=fun f args h=>Sm EIC TI valI f args h
noncomputable def EC7:Calls':=fun f args h=>match Nat.beq f 50,Nat.beq f 58 with
 | true,_=>known 50 true f args h
 | _,true=>Sm EQ7 TD valD f args h
 | _,_=>EQ7 f args h
theorem EQ7_D:DiffH EQ7 where
 h62 v hv hw h:=I75 (E:=EIC) EIC_put.h117 EIC_put.h263 v hv hw h
 h189 s hs hf h:=(Sm_ext (T:=TI) (val:=valI) i155).trans (EIC_put.h155 s hs hf h)
 h188 p q hp hq h:=I177 (E:=EIC) p q hp h
 h178 p h:=I166 (E:=EIC) p h
 h181 p h:=I168 (E:=EIC) p h
 h184 p h:=I170 (E:=EIC) p h
 h187 p h:=I172 (E:=EIC) p h
theorem EC7_H:ChainH EC7 where
 h57 v hv:=by
  obtain ⟨b,k⟩:=S70 (E:=Et) v hv
  exact ⟨b,fun h=>(Sm_ext (E:=EIC) (T:=TI) (val:=valI) (f:=57) (by kernel_rfl)).trans (k h)⟩
 h50 h:=by show known 50 true 50 [] h = _; simp [known]
 h58n a b oa wa ob wb hn h:=D58n EQ7_D a b oa wa ob wb hn h
 h58 a b oa wa ob wb m1 m2 h:=D58 EQ7_D a b oa wa ob wb m1 m2 h
 h59 v d ov wv od wd m1 m2:=I80 (E:=EIC) EIC_put v ov wv d od wd m1 m2
 h60 a b oa h:=I82 (E:=EIC) a b oa h
end Go.Proofs.YtmahnnnccohccaaGreat
