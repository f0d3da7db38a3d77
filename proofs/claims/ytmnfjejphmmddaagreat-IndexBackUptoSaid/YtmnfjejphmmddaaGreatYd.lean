/- What the laws of views call, in layers. -/
import Derived.Test.YtmnfjejphmmddaaGreatOd
import Derived.Test.YtmnfjejphmmddaaGreatWo
import Derived.Test.YtmnfjejphmmddaaGreatWa
import Derived.Test.YtmnfjejphmmddaaGreatTa
import Derived.Test.YtmnfjejphmmddaaGreatF64
import Derived.Test.YtmnfjejphmmddaaGreatKa
import Derived.Test.YtmnfjejphmmddaaGreatIa
set_option maxRecDepth 100000
set_option linter.unusedVariables false
set_option linter.unusedSimpArgs false
namespace Go.Proofs.YtmnfjejphmmddaaGreat
open Go.Sort (ltInt)
def noE:Calls':=fun _ _ _=>none
def tabL:List (Nat × QF):=[(334,q334),(379,q379)]
def TL:FuncId -> Option QF:=lookT tabL
theorem S241 {E:Calls'} (x:Int) (h:Hp):Sm E TT valT 241 [.d (u64 x)] h = some (.d (i64 (len64 x)),h):=by
 rw [Sm_v t241 v241]
 simp (decide:=true) [Bd_mk,q241,S338]
noncomputable def Et:Calls':=fun f args h=>match Nat.beq f 385 with
 | true=>Sm E1 TP valP f args h
 | false=>none
end Go.Proofs.YtmnfjejphmmddaaGreat
namespace Go.Proofs.YtmnfjejphmmddaaGreat
noncomputable def ET0:Calls':=fun f args h=>Sm noE TT valT f args h
def tabZ:List (Nat × QF):=[(271,q271),(350,q350),(388,q388),(276,q276),(352,q352),(396,q396),(280,q280),(353,q353),(404,q404),(284,q284),(354,q354),(412,q412)]
def TZ:FuncId -> Option QF:=lookT tabZ
def valZ (f:FuncId):Bool:=false
theorem z271:TZ 271 = some (q271):=by kernel_rfl
theorem z350:TZ 350 = some (q350):=by kernel_rfl
theorem z388:TZ 388 = some (q388):=by kernel_rfl
theorem z276:TZ 276 = some (q276):=by kernel_rfl
theorem z352:TZ 352 = some (q352):=by kernel_rfl
theorem z396:TZ 396 = some (q396):=by kernel_rfl
theorem z280:TZ 280 = some (q280):=by kernel_rfl
theorem z353:TZ 353 = some (q353):=by kernel_rfl
theorem z404:TZ 404 = some (q404):=by kernel_rfl
theorem z284:TZ 284 = some (q284):=by kernel_rfl
theorem z354:TZ 354 = some (q354):=by kernel_rfl
theorem z412:TZ 412 = some (q412):=by kernel_rfl
theorem z241:TZ 241 = none:=by kernel_rfl
theorem Z388 {E:Calls'} (v:V) (hv:v = .d (.slice true []) \/ ∃ B cap,v = .row B 0 0 cap 7) (h:Hp):Sm E TZ valZ 388 [v,.d (i64 0),.d (i64 0),.fn 272 [.ptr 2 0]] h = some (.tup [],h):=by
 rw [Sm_ref z388 rfl]
 rcases hv with rfl | ⟨B,cap,rfl⟩
 all_goals
  simp (decide:=true) [Bd_mk,q388]
  rw [Cd_keep]
  simp
  rw [Cd_round]
  simp (decide:=true) [q388_b1,V.under,V.under.go,tupOf]
theorem Z350 {E:Calls'} (v:V) (hv:v = .d (.slice true []) \/ ∃ B cap,v = .row B 0 0 cap 7) (n:Int) (h:Hp):Sm E TZ valZ 350 [v,.d (i64 0),.d (i64 0),.d (i64 n),.fn 272 [.ptr 2 0]] h = some (.tup [],h):=by
 have k:=fun h=>Z388 (E:=E) v hv h
 rw [Sm_ref z350 rfl]
 rcases hv with rfl | ⟨B,cap,rfl⟩
 all_goals
  simp (decide:=true) [Bd_mk,q350]
  rw [Cd_keep]
  simp
  rw [Cd_round]
  simp (decide:=true) [q350_b0,k,V.under,V.under.go,tupOf]
theorem Z271 {E:Calls'} (k241:∀ x h,E 241 [.d (u64 x)] h = some (.d (i64 (len64 x)),h)) (v:V) (hv:v = .d (.slice true []) \/ ∃ B cap,v = .row B 0 0 cap 7) (h:Hp):Sm E TZ valZ 271 [v,.fn 272 [.ptr 2 0]] h = some (.tup [],h):=by
 have k:=fun n h=>Z350 (E:=E) v hv n h
 have n241:∀ x h,Sm E TZ valZ 241 [.d (u64 x)] h = some (.d (i64 (len64 x)),h):=fun x h=>by rw [Sm_ext z241]; exact k241 x h
 have hw:IntKind.wrap .u64 0 = 0:=by decide
 rw [Sm_ref z271 rfl]
 rcases hv with rfl | ⟨B,cap,rfl⟩
 all_goals simp (decide:=true) [Bd_mk,q271,k,n241,hw,V.under,V.under.go,tupOf]
theorem Z396 {E:Calls'} (v:V) (hv:v = .d (.slice true []) \/ ∃ B cap,v = .row B 0 0 cap 5) (h:Hp):Sm E TZ valZ 396 [v,.d (i64 0),.d (i64 0),.fn 277 [.ptr 2 0]] h = some (.tup [],h):=by
 rw [Sm_ref z396 rfl]
 rcases hv with rfl | ⟨B,cap,rfl⟩
 all_goals
  simp (decide:=true) [Bd_mk,q396]
  rw [Cd_keep]
  simp
  rw [Cd_round]
  simp (decide:=true) [q396_b1,V.under,V.under.go,tupOf]
theorem Z352 {E:Calls'} (v:V) (hv:v = .d (.slice true []) \/ ∃ B cap,v = .row B 0 0 cap 5) (n:Int) (h:Hp):Sm E TZ valZ 352 [v,.d (i64 0),.d (i64 0),.d (i64 n),.fn 277 [.ptr 2 0]] h = some (.tup [],h):=by
 have k:=fun h=>Z396 (E:=E) v hv h
 rw [Sm_ref z352 rfl]
 rcases hv with rfl | ⟨B,cap,rfl⟩
 all_goals
  simp (decide:=true) [Bd_mk,q352]
  rw [Cd_keep]
  simp
  rw [Cd_round]
  simp (decide:=true) [q352_b0,k,V.under,V.under.go,tupOf]
theorem Z276 {E:Calls'} (k241:∀ x h,E 241 [.d (u64 x)] h = some (.d (i64 (len64 x)),h)) (v:V) (hv:v = .d (.slice true []) \/ ∃ B cap,v = .row B 0 0 cap 5) (h:Hp):Sm E TZ valZ 276 [v,.fn 277 [.ptr 2 0]] h = some (.tup [],h):=by
 have k:=fun n h=>Z352 (E:=E) v hv n h
 have n241:∀ x h,Sm E TZ valZ 241 [.d (u64 x)] h = some (.d (i64 (len64 x)),h):=fun x h=>by rw [Sm_ext z241]; exact k241 x h
 have hw:IntKind.wrap .u64 0 = 0:=by decide
 rw [Sm_ref z276 rfl]
 rcases hv with rfl | ⟨B,cap,rfl⟩
 all_goals simp (decide:=true) [Bd_mk,q276,k,n241,hw,V.under,V.under.go,tupOf]
theorem Z404 {E:Calls'} (v:V) (hv:v = .d (.slice true []) \/ ∃ B cap,v = .row B 0 0 cap 2) (h:Hp):Sm E TZ valZ 404 [v,.d (i64 0),.d (i64 0),.fn 281 [.ptr 2 0]] h = some (.tup [],h):=by
 rw [Sm_ref z404 rfl]
 rcases hv with rfl | ⟨B,cap,rfl⟩
 all_goals
  simp (decide:=true) [Bd_mk,q404]
  rw [Cd_keep]
  simp
  rw [Cd_round]
  simp (decide:=true) [q404_b1,V.under,V.under.go,tupOf]
theorem Z353 {E:Calls'} (v:V) (hv:v = .d (.slice true []) \/ ∃ B cap,v = .row B 0 0 cap 2) (n:Int) (h:Hp):Sm E TZ valZ 353 [v,.d (i64 0),.d (i64 0),.d (i64 n),.fn 281 [.ptr 2 0]] h = some (.tup [],h):=by
 have k:=fun h=>Z404 (E:=E) v hv h
 rw [Sm_ref z353 rfl]
 rcases hv with rfl | ⟨B,cap,rfl⟩
 all_goals
  simp (decide:=true) [Bd_mk,q353]
  rw [Cd_keep]
  simp
  rw [Cd_round]
  simp (decide:=true) [q353_b0,k,V.under,V.under.go,tupOf]
theorem Z280 {E:Calls'} (k241:∀ x h,E 241 [.d (u64 x)] h = some (.d (i64 (len64 x)),h)) (v:V) (hv:v = .d (.slice true []) \/ ∃ B cap,v = .row B 0 0 cap 2) (h:Hp):Sm E TZ valZ 280 [v,.fn 281 [.ptr 2 0]] h = some (.tup [],h):=by
 have k:=fun n h=>Z353 (E:=E) v hv n h
 have n241:∀ x h,Sm E TZ valZ 241 [.d (u64 x)] h = some (.d (i64 (len64 x)),h):=fun x h=>by rw [Sm_ext z241]; exact k241 x h
 have hw:IntKind.wrap .u64 0 = 0:=by decide
 rw [Sm_ref z280 rfl]
 rcases hv with rfl | ⟨B,cap,rfl⟩
 all_goals simp (decide:=true) [Bd_mk,q280,k,n241,hw,V.under,V.under.go,tupOf]
theorem Z412 {E:Calls'} (v:V) (hv:v = .d (.slice true []) \/ ∃ B cap,v = .row B 0 0 cap 5) (h:Hp):Sm E TZ valZ 412 [v,.d (i64 0),.d (i64 0),.fn 285 [.ptr 2 0]] h = some (.tup [],h):=by
 rw [Sm_ref z412 rfl]
 rcases hv with rfl | ⟨B,cap,rfl⟩
 all_goals
  simp (decide:=true) [Bd_mk,q412]
  rw [Cd_keep]
  simp
  rw [Cd_round]
  simp (decide:=true) [q412_b1,V.under,V.under.go,tupOf]
theorem Z354 {E:Calls'} (v:V) (hv:v = .d (.slice true []) \/ ∃ B cap,v = .row B 0 0 cap 5) (n:Int) (h:Hp):Sm E TZ valZ 354 [v,.d (i64 0),.d (i64 0),.d (i64 n),.fn 285 [.ptr 2 0]] h = some (.tup [],h):=by
 have k:=fun h=>Z412 (E:=E) v hv h
 rw [Sm_ref z354 rfl]
 rcases hv with rfl | ⟨B,cap,rfl⟩
 all_goals
  simp (decide:=true) [Bd_mk,q354]
  rw [Cd_keep]
  simp
  rw [Cd_round]
  simp (decide:=true) [q354_b0,k,V.under,V.under.go,tupOf]
theorem Z284 {E:Calls'} (k241:∀ x h,E 241 [.d (u64 x)] h = some (.d (i64 (len64 x)),h)) (v:V) (hv:v = .d (.slice true []) \/ ∃ B cap,v = .row B 0 0 cap 5) (h:Hp):Sm E TZ valZ 284 [v,.fn 285 [.ptr 2 0]] h = some (.tup [],h):=by
 have k:=fun n h=>Z354 (E:=E) v hv n h
 have n241:∀ x h,Sm E TZ valZ 241 [.d (u64 x)] h = some (.d (i64 (len64 x)),h):=fun x h=>by rw [Sm_ext z241]; exact k241 x h
 have hw:IntKind.wrap .u64 0 = 0:=by decide
 rw [Sm_ref z284 rfl]
 rcases hv with rfl | ⟨B,cap,rfl⟩
 all_goals simp (decide:=true) [Bd_mk,q284,k,n241,hw,V.under,V.under.go,tupOf]
noncomputable def srtE (s:SF) (id:FuncId) (args:List V) (h:Hp):Option (V × Hp):=match args with
 | [.row _ 0 (_ + 1) _ _,_]=>sortFE s args h
 | _=>Sm ET0 TZ valZ id args h
theorem srtE_pos {s:SF} {id:FuncId} {h:Hp} {B n z:Nat} {cap:Option Nat} {g:V} (hn:0 < n):srtE s id [.row B 0 n cap z,g] h = sortFE s [.row B 0 n cap z,g] h:=by
 cases n with
 | zero=>omega
 | succ n=>rfl
def sgPod:SF:=⟨7,0,272,166⟩
def sgSvc:SF:=⟨5,0,277,168⟩
def sgWay:SF:=⟨2,0,281,170⟩
def sgPol:SF:=⟨5,0,285,172⟩
noncomputable def EI:Calls':=fun f args h=>match Nat.beq f 155 || Nat.beq f 163 with
 | true=>Sm ET0 TB valB f args h
 | false=>match Nat.beq f 16 with
  | true=>known 16 true f args h
  | false=>match Nat.beq f 271,Nat.beq f 276,Nat.beq f 280,Nat.beq f 284 with
   | true,_,_,_=>srtE sgPod f args h
   | _,true,_,_=>srtE sgSvc f args h
   | _,_,true,_=>srtE sgWay f args h
   | _,_,_,true=>srtE sgPol f args h
   | _,_,_,_=>Sm Et TT valT f args h
theorem ET0_241 (x:Int) (h:Hp):ET0 241 [.d (u64 x)] h = some (.d (i64 (len64 x)),h):=S241 (E:=noE) x h
theorem ET0_113 (p:Pol) (hp:p.ok) (h:Hp):ET0 113 [ag p.c] h = some (ag p.own.c,h):=S113 (E:=noE) p hp h
theorem EI_put:PutH EI where
 h117 s hs n h:=S117 (E:=Et) hs n h
 h263 p hp h:=S263 (E:=Et) (fun t ht h=>S385 t ht h) p hp h
 h155 s hs hf h:=B155 (E:=ET0) ET0_113 hs hf h
 h271 hn:=srtE_pos hn
 h276 hn:=srtE_pos hn
 h280 hn:=srtE_pos hn
 h284 hn:=srtE_pos hn
 n271 v hv h:=by
  have:=Z271 (E:=ET0) ET0_241 v hv h
  rcases hv with rfl | ⟨B,cap,rfl⟩ <;> exact this
 n276 v hv h:=by
  have:=Z276 (E:=ET0) ET0_241 v hv h
  rcases hv with rfl | ⟨B,cap,rfl⟩ <;> exact this
 n280 v hv h:=by
  have:=Z280 (E:=ET0) ET0_241 v hv h
  rcases hv with rfl | ⟨B,cap,rfl⟩ <;> exact this
 n284 v hv h:=by
  have:=Z284 (E:=ET0) ET0_241 v hv h
  rcases hv with rfl | ⟨B,cap,rfl⟩ <;> exact this
theorem EI_H:BackH EI where
 put:=EI_put
 h163 v hv h:=B163 (E:=ET0) ET0_113 v hv h
 h70 v hv:=S70 (E:=Et) v hv
 h16 h:=by show known 16 true 16 [] h = _; simp [known]
end Go.Proofs.YtmnfjejphmmddaaGreat
