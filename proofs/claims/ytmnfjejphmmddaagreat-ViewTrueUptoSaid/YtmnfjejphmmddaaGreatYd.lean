/- What the laws of views call, in layers. -/
import Derived.Test.YtmnfjejphmmddaaGreatOd
import Derived.Test.YtmnfjejphmmddaaGreatWo
import Derived.Test.YtmnfjejphmmddaaGreatWa
import Derived.Test.YtmnfjejphmmddaaGreatTa
import Derived.Test.YtmnfjejphmmddaaGreatF64
import Derived.Test.YtmnfjejphmmddaaGreatKa
set_option maxRecDepth 100000
set_option linter.unusedVariables false
set_option linter.unusedSimpArgs false
namespace Go.Proofs.YtmnfjejphmmddaaGreat
open Go.Sort (ltInt)
def noE:Calls':=fun _ _ _=>none
def tabL:List (Nat × QF):=[(334,q334),(379,q379)]
def TL:FuncId -> Option QF:=lookT tabL
def valL (f:FuncId):Bool:=[334,379].any fun n=>Nat.beq n f
theorem S379 {E:Calls'} (x:Int) (h:Hp):Sm E TL valL 379 [.d (u32 x)] h = some (bl false,h):=by
 rw [Sm_v (q:=q379) (by kernel_rfl) (by kernel_rfl)]
 simp [Bd_mk,q379]
theorem S334 {E:Calls'} (x y:Int) (h:Hp):Sm E TL valL 334 [.d (u32 x),.d (u32 y)] h = some (bl (ltInt x y),h):=by
 rw [Sm_v (q:=q334) (by kernel_rfl) (by kernel_rfl)]
 simp (decide:=true) [Bd_mk,q334,S379,openA,opDE_call,noTr,opsA_if,ltInt]
theorem S241 {E:Calls'} (x:Int) (h:Hp):Sm E TT valT 241 [.d (u64 x)] h = some (.d (i64 (len64 x)),h):=by
 rw [Sm_v t241 v241]
 simp (decide:=true) [Bd_mk,q241,S338]
noncomputable def Es:Calls':=fun f args h=>match Nat.beq f 334 with
 | true=>Sm noE TL valL f args h
 | false=>Sm noE TT valT f args h
noncomputable def Eu:Calls':=fun f args h=>match Nat.beq f 240 with
 | true=>Sm Es TS valS f args h
 | false=>Sm noE TT valT f args h
theorem S328n {E:Calls'} (h:Hp):Sm E TS valS 328 [nilV,.d (i64 0),.d (i64 0)] h = some (.tup [],h):=by
 rw [Sm_ref s328 x328]
 simp (decide:=true) [Bd_mk,q328]
 rw [Cd_keep]
 simp
 rw [Cd_round]
 simp (decide:=true) [q328_b1,V.under,V.under.go,tupOf]
theorem S240n {E:Calls'} (n:Int) (h:Hp):Sm E TS valS 240 [nilV,.d (i64 0),.d (i64 0),.d (i64 n)] h = some (.tup [],h):=by
 rw [Sm_ref s240 x240]
 simp (decide:=true) [Bd_mk,q240]
 rw [Cd_keep]
 simp
 rw [Cd_round]
 simp (decide:=true) [q240_b0,S328n,V.under,V.under.go,tupOf]
theorem S136n {E:Calls'} (k240:∀ args h,E 240 args h = Sm Es TS valS 240 args h) (k241:∀ x h,E 241 [.d (u64 x)] h = some (.d (i64 (len64 x)),h)) (h:Hp):Sm E TU valU 136 [nilV] h = some (.tup [],h):=by
 have n240:∀ args h,Sm E TU valU 240 args h = Sm Es TS valS 240 args h:=fun args h=>by rw [Sm_ext u240]; exact k240 args h
 have n241:∀ x h,Sm E TU valU 241 [.d (u64 x)] h = some (.d (i64 (len64 x)),h):=fun x h=>by rw [Sm_ext u241]; exact k241 x h
 have hw:IntKind.wrap .u64 0 = 0:=by decide
 rw [Sm_ref u136 rfl]
 simp (decide:=true) [Bd_mk,q136,n240,n241,S240n,hw,V.under,V.under.go,tupOf]
theorem S137n {E:Calls'} (h:Hp):Sm E TU valU 137 [nilV] h = some (nilV,h):=by
 rw [Sm_ref u137 rfl]
 simp (decide:=true) [Bd_mk,cmpQ,V.under]
noncomputable def Et:Calls':=fun f args h=>match Nat.beq f 385 with
 | true=>Sm E1 TP valP f args h
 | false=>none
noncomputable def EV:Calls':=fun f args h=>match Nat.beq f 136 || Nat.beq f 137,Nat.beq f 90 with
 | true,_=>Sm Eu TU valU f args h
 | false,true=>Sm EO TO valO f args h
 | false,false=>Sm Et TT valT f args h
theorem EV_H:OfH EV where
 h41 c hc hcb h:=S41 (E:=Et) (fun t ht h=>S385 t ht h) c hc hcb h
 h45 c hc n h:=S45 (E:=Et) c hc n h
 h52 p x h:=S52 (E:=Et) p x h
 h90 c hc h:=O90 c hc h
 h117 s hs n h:=S117 (E:=Et) hs n h
 h136 bs b lo n cap hb d hd hn:=S136 (E:=Es) (E2:=Eu) (fun x y h=>S334 x y h) (fun x h=>S241 x h) (fun args h=>rfl) (fun x h=>S241 x h) hb d hd hn
 h136n h:=S136n (E:=Eu) (fun args h=>rfl) (fun x h=>S241 x h) h
 h137 zs b lo cap bs hb hn:=S_compactL (E:=Eu) (T:=TU) (val:=valU) u137 rfl hb hn
 h137n h:=S137n h
end Go.Proofs.YtmnfjejphmmddaaGreat
namespace Go.Proofs.YtmnfjejphmmddaaGreat
noncomputable def EZ:Calls':=fun f args h=>match Nat.beq f 64 || Nat.beq f 154,Nat.beq f 63 with
 | true,_=>Sm EV TV valV f args h
 | false,true=>known 63 true f args h
 | false,false=>Sm Et TT valT f args h
theorem EZ_H:TrueH EZ where
 h31 c hc:=S31 (E:=Et) c hc
 h63 h:=by show known 63 true 63 [] h = _; simp [known]
 h64n c hc hcb s hs hno h:=V64n EV_H hc hcb hs hno h
 h64 c hc hcb hok hoo s hs h1 h2 hsz:=V64 EV_H hc hcb hok hoo hs h1 h2 hsz
 h71 v hv x h:=S71 (E:=Et) v hv x h
 h73 v hv n h:=S73 (E:=Et) v hv n h
 h43 c hc n h:=S43 (E:=Et) c hc n h
 h44 c hc n h:=S44 (E:=Et) c hc n h
 h45 c hc n h:=S45 (E:=Et) c hc n h
 h50 c hc x h:=S50 (E:=Et) c hc x h
 h154 s hs most h:=V154 (E:=EV) EV_H.h117 hs most h
 h263 p hp h:=S263 (E:=Et) (fun t ht h=>S385 t ht h) p hp h
theorem S14z {c:Cfg} (hc:c.wf 1048576) (hcb:c.wf big) (hok:c.ok) (hoo:c.own.ok) (how:∀ p ∈ c.policies.l,p.own.wf big) (hsv:c.services.l.length <= 1048576) {s:Scp} (hs:short s.addrs) (h:Hp):Sm EZ TG valG 14 [c.v,s.v] h = some (bl true,h) :=
 S14 EZ_H hc hcb hok hoo how hsv hs h
end Go.Proofs.YtmnfjejphmmddaaGreat
