/- What the laws of views call, in layers. -/
import Derived.Test.YtjkfknafpgfchaaGreatOa
import Derived.Test.YtjkfknafpgfchaaGreatWo
import Derived.Test.YtjkfknafpgfchaaGreatWa
import Derived.Test.YtjkfknafpgfchaaGreatF6
import Derived.Test.YtjkfknafpgfchaaGreatKa
import Derived.Test.YtjkfknafpgfchaaGreatRa
set_option maxRecDepth 100000
set_option linter.unusedVariables false
set_option linter.unusedSimpArgs false
namespace Go.Proofs.YtjkfknafpgfchaaGreat
section
open Go.Sort (ltInt)
def noE:Calls':=fun _ _ _=>none
def dj7:List (Nat × QF):=[(257,UI),(350,UT)]
def TL:FuncId -> Option QF:=jk dj7
theorem ca1 {E:Calls'} (x:Int) (h:Hp):Sm E TT ak 175 [.d (u64 x)] h = some (.d (i64 (bT x)),h):=by
 rw [bf dc2 dn8];simp (decide:=true) [af,Im,Xx]
noncomputable def Et:Calls':=fun f args h=>match Nat.beq f 276 with
 | true=>Sm E1 TP nO f args h
 | false=>none
end
section
noncomputable def ET0:Calls':=fun f args h=>Sm noE TT ak f args h
def bm2:List (Nat × QF):=[(146,Iu),(221,IG),(292,IL),(151,Iw),(223,II),(300,IM),(155,Iy),(224,IJ),(308,IP),(159,LJ),(225,Mh),(316,MF)]
def TZ:FuncId -> Option QF:=jk bm2
def lM (f:FuncId):Bool:=false
theorem dw4:TZ 146 = some (Iu):=by kernel_rfl
theorem dw8:TZ 221 = some (IG):=by kernel_rfl
theorem dx2:TZ 292 = some (IL):=by kernel_rfl
theorem dw5:TZ 151 = some (Iw):=by kernel_rfl
theorem dw9:TZ 223 = some (II):=by kernel_rfl
theorem dx3:TZ 300 = some (IM):=by kernel_rfl
theorem dw6:TZ 155 = some (Iy):=by kernel_rfl
theorem dx0:TZ 224 = some (IJ):=by kernel_rfl
theorem dx4:TZ 308 = some (IP):=by kernel_rfl
theorem dw7:TZ 159 = some (LJ):=by kernel_rfl
theorem dx1:TZ 225 = some (Mh):=by kernel_rfl
theorem dx5:TZ 316 = some (MF):=by kernel_rfl
theorem Ob:TZ 175 = none:=by kernel_rfl
theorem ce6 {E:Calls'} (v:V) (hv:v = .d (.slice true []) \/ ∃ B cap,v = .row B 0 0 cap 7) (h:Hp):Sm E TZ lM 292 [v,.d (i64 0),.d (i64 0),.fn 147 [.ptr 2 0]] h = some (.tup [],h):=by
 rw [aB dx2 rfl];rcases hv with rfl | ⟨B,cap,rfl⟩;all_goals
  simp (decide:=true) [af,IL];rw [aH];simp;rw [ax];simp (decide:=true) [Cr,V.under,V.under.go,bE]
theorem ce2 {E:Calls'} (v:V) (hv:v = .d (.slice true []) \/ ∃ B cap,v = .row B 0 0 cap 7) (n:Int) (h:Hp):Sm E TZ lM 221 [v,.d (i64 0),.d (i64 0),.d (i64 n),.fn 147 [.ptr 2 0]] h = some (.tup [],h):=by
 have k:=fun h=>ce6 (E:=E) v hv h;rw [aB dw8 rfl];rcases hv with rfl | ⟨B,cap,rfl⟩;all_goals
  simp (decide:=true) [af,IG];rw [aH];simp;rw [ax];simp (decide:=true) [Cm,k,V.under,V.under.go,bE]
theorem cd8 {E:Calls'} (k241:∀ x h,E 175 [.d (u64 x)] h = some (.d (i64 (bT x)),h)) (v:V) (hv:v = .d (.slice true []) \/ ∃ B cap,v = .row B 0 0 cap 7) (h:Hp):Sm E TZ lM 146 [v,.fn 147 [.ptr 2 0]] h = some (.tup [],h):=by
 have k:=fun n h=>ce2 (E:=E) v hv n h;have n241:∀ x h,Sm E TZ lM 175 [.d (u64 x)] h = some (.d (i64 (bT x)),h):=fun x h=>by rw [aJ Ob]; exact k241 x h
 have hw:IntKind.wrap .u64 0 = 0:=by decide
 rw [aB dw4 rfl];rcases hv with rfl | ⟨B,cap,rfl⟩;all_goals simp (decide:=true) [af,Iu,k,n241,hw,V.under,V.under.go,bE]
theorem ce7 {E:Calls'} (v:V) (hv:v = .d (.slice true []) \/ ∃ B cap,v = .row B 0 0 cap 5) (h:Hp):Sm E TZ lM 300 [v,.d (i64 0),.d (i64 0),.fn 152 [.ptr 2 0]] h = some (.tup [],h):=by
 rw [aB dx3 rfl];rcases hv with rfl | ⟨B,cap,rfl⟩;all_goals
  simp (decide:=true) [af,IM];rw [aH];simp;rw [ax];simp (decide:=true) [Cs,V.under,V.under.go,bE]
theorem ce3 {E:Calls'} (v:V) (hv:v = .d (.slice true []) \/ ∃ B cap,v = .row B 0 0 cap 5) (n:Int) (h:Hp):Sm E TZ lM 223 [v,.d (i64 0),.d (i64 0),.d (i64 n),.fn 152 [.ptr 2 0]] h = some (.tup [],h):=by
 have k:=fun h=>ce7 (E:=E) v hv h;rw [aB dw9 rfl];rcases hv with rfl | ⟨B,cap,rfl⟩;all_goals
  simp (decide:=true) [af,II];rw [aH];simp;rw [ax];simp (decide:=true) [Cn,k,V.under,V.under.go,bE]
theorem cd9 {E:Calls'} (k241:∀ x h,E 175 [.d (u64 x)] h = some (.d (i64 (bT x)),h)) (v:V) (hv:v = .d (.slice true []) \/ ∃ B cap,v = .row B 0 0 cap 5) (h:Hp):Sm E TZ lM 151 [v,.fn 152 [.ptr 2 0]] h = some (.tup [],h):=by
 have k:=fun n h=>ce3 (E:=E) v hv n h;have n241:∀ x h,Sm E TZ lM 175 [.d (u64 x)] h = some (.d (i64 (bT x)),h):=fun x h=>by rw [aJ Ob]; exact k241 x h
 have hw:IntKind.wrap .u64 0 = 0:=by decide
 rw [aB dw5 rfl];rcases hv with rfl | ⟨B,cap,rfl⟩;all_goals simp (decide:=true) [af,Iw,k,n241,hw,V.under,V.under.go,bE]
theorem ce8 {E:Calls'} (v:V) (hv:v = .d (.slice true []) \/ ∃ B cap,v = .row B 0 0 cap 2) (h:Hp):Sm E TZ lM 308 [v,.d (i64 0),.d (i64 0),.fn 156 [.ptr 2 0]] h = some (.tup [],h):=by
 rw [aB dx4 rfl];rcases hv with rfl | ⟨B,cap,rfl⟩;all_goals
  simp (decide:=true) [af,IP];rw [aH];simp;rw [ax];simp (decide:=true) [Ct,V.under,V.under.go,bE]
theorem ce4 {E:Calls'} (v:V) (hv:v = .d (.slice true []) \/ ∃ B cap,v = .row B 0 0 cap 2) (n:Int) (h:Hp):Sm E TZ lM 224 [v,.d (i64 0),.d (i64 0),.d (i64 n),.fn 156 [.ptr 2 0]] h = some (.tup [],h):=by
 have k:=fun h=>ce8 (E:=E) v hv h;rw [aB dx0 rfl];rcases hv with rfl | ⟨B,cap,rfl⟩;all_goals
  simp (decide:=true) [af,IJ];rw [aH];simp;rw [ax];simp (decide:=true) [Co,k,V.under,V.under.go,bE]
theorem ce0 {E:Calls'} (k241:∀ x h,E 175 [.d (u64 x)] h = some (.d (i64 (bT x)),h)) (v:V) (hv:v = .d (.slice true []) \/ ∃ B cap,v = .row B 0 0 cap 2) (h:Hp):Sm E TZ lM 155 [v,.fn 156 [.ptr 2 0]] h = some (.tup [],h):=by
 have k:=fun n h=>ce4 (E:=E) v hv n h;have n241:∀ x h,Sm E TZ lM 175 [.d (u64 x)] h = some (.d (i64 (bT x)),h):=fun x h=>by rw [aJ Ob]; exact k241 x h
 have hw:IntKind.wrap .u64 0 = 0:=by decide
 rw [aB dw6 rfl];rcases hv with rfl | ⟨B,cap,rfl⟩;all_goals simp (decide:=true) [af,Iy,k,n241,hw,V.under,V.under.go,bE]
theorem ce9 {E:Calls'} (v:V) (hv:v = .d (.slice true []) \/ ∃ B cap,v = .row B 0 0 cap 5) (h:Hp):Sm E TZ lM 316 [v,.d (i64 0),.d (i64 0),.fn 160 [.ptr 2 0]] h = some (.tup [],h):=by
 rw [aB dx5 rfl];rcases hv with rfl | ⟨B,cap,rfl⟩;all_goals
  simp (decide:=true) [af,MF];rw [aH];simp;rw [ax];simp (decide:=true) [Cu,V.under,V.under.go,bE]
theorem ce5 {E:Calls'} (v:V) (hv:v = .d (.slice true []) \/ ∃ B cap,v = .row B 0 0 cap 5) (n:Int) (h:Hp):Sm E TZ lM 225 [v,.d (i64 0),.d (i64 0),.d (i64 n),.fn 160 [.ptr 2 0]] h = some (.tup [],h):=by
 have k:=fun h=>ce9 (E:=E) v hv h;rw [aB dx1 rfl];rcases hv with rfl | ⟨B,cap,rfl⟩;all_goals
  simp (decide:=true) [af,Mh];rw [aH];simp;rw [ax];simp (decide:=true) [Cq,k,V.under,V.under.go,bE]
theorem ce1 {E:Calls'} (k241:∀ x h,E 175 [.d (u64 x)] h = some (.d (i64 (bT x)),h)) (v:V) (hv:v = .d (.slice true []) \/ ∃ B cap,v = .row B 0 0 cap 5) (h:Hp):Sm E TZ lM 159 [v,.fn 160 [.ptr 2 0]] h = some (.tup [],h):=by
 have k:=fun n h=>ce5 (E:=E) v hv n h;have n241:∀ x h,Sm E TZ lM 175 [.d (u64 x)] h = some (.d (i64 (bT x)),h):=fun x h=>by rw [aJ Ob]; exact k241 x h
 have hw:IntKind.wrap .u64 0 = 0:=by decide
 rw [aB dw7 rfl];rcases hv with rfl | ⟨B,cap,rfl⟩;all_goals simp (decide:=true) [af,LJ,k,n241,hw,V.under,V.under.go,bE]
noncomputable def qd (s:SF) (id:FuncId) (args:List V) (h:Hp):Option (V × Hp):=match args with
 | [.row _ 0 (_ + 1) _ _,_]=>gL s args h
 | _=>Sm ET0 TZ lM id args h
theorem oW {s:SF} {id:FuncId} {h:Hp} {B n z:Nat} {cap:Option Nat} {g:V} (hn:0 < n):qd s id [.row B 0 n cap z,g] h = gL s [.row B 0 n cap z,g] h:=by
 cases n with
 | zero=>omega
 | succ n=>rfl
def yI:SF:=⟨7,0,147,18⟩
def yK:SF:=⟨5,0,152,21⟩
def yL:SF:=⟨2,0,156,24⟩
def yJ:SF:=⟨5,0,160,27⟩
noncomputable def EIC:Calls':=fun f args h=>match Nat.beq f 29 || Nat.beq f 990066 with
 | true=>Sm ET0 TB yY f args h
 | false=>match Nat.beq f 146,Nat.beq f 151,Nat.beq f 155,Nat.beq f 159 with
  | true,_,_,_=>qd yI f args h
  | _,true,_,_=>qd yK f args h
  | _,_,true,_=>qd yL f args h
  | _,_,_,true=>qd yJ f args h
  | _,_,_,_=>Sm Et TT ak f args h
theorem qO (x:Int) (h:Hp):ET0 175 [.d (u64 x)] h = some (.d (i64 (bT x)),h):=ca1 (E:=noE) x h
theorem JQ (p:Pol) (hp:p.ok) (h:Hp):ET0 115 [ag p.c] h = some (ag p.own.c,h):=bz5 (E:=noE) p hp h
theorem EIC_put:PutH EIC where
 h117 s hs n h:=bz6 (E:=Et) hs n h
 h263 p hp h:=Qu (E:=Et) (fun t ht h=>Xz t ht h) p hp h
 h155 s hs hf h:=bt7 (E:=ET0) JQ hs hf h
 h271 hn:=oW hn
 h276 hn:=oW hn
 h280 hn:=oW hn
 h284 hn:=oW hn
 n271 v hv h:=by
  have:=cd8 (E:=ET0) qO v hv h;rcases hv with rfl | ⟨B,cap,rfl⟩ <;> exact this
 n276 v hv h:=by
  have:=cd9 (E:=ET0) qO v hv h;rcases hv with rfl | ⟨B,cap,rfl⟩ <;> exact this
 n280 v hv h:=by
  have:=ce0 (E:=ET0) qO v hv h;rcases hv with rfl | ⟨B,cap,rfl⟩ <;> exact this
 n284 v hv h:=by
  have:=ce1 (E:=ET0) qO v hv h;rcases hv with rfl | ⟨B,cap,rfl⟩ <;> exact this
noncomputable def EQ7:Calls':=fun f args h=>Sm EIC TI az f args h
theorem Od:DiffH EQ7 where
 h62 v hv hw h:=I75 (E:=EIC) EIC_put.h117 EIC_put.h263 v hv hw h
 h189 s hs hf h:=(aJ (T:=TI) (val:=az) Ye).trans (EIC_put.h155 s hs hf h)
 h188 p q hp hq h:=WJ (E:=EIC) p q hp h
 h178 p h:=JS (E:=EIC) p h
 h181 p h:=JU (E:=EIC) p h
 h184 p h:=JV (E:=EIC) p h
 h187 p h:=JW (E:=EIC) p h
end
end Go.Proofs.YtjkfknafpgfchaaGreat
