/- What the laws of views call, in layers. -/
import Derived.Test.YtegfnefobbgkjaaGreatOd
import Derived.Test.YtegfnefobbgkjaaGreatWo
import Derived.Test.YtegfnefobbgkjaaGreatWa
import Derived.Test.YtegfnefobbgkjaaGreatTa
import Derived.Test.YtegfnefobbgkjaaGreatF64
import Derived.Test.YtegfnefobbgkjaaGreatKa
import Derived.Test.YtegfnefobbgkjaaGreatRa
import Derived.Test.YtegfnefobbgkjaaGreatHa
set_option maxRecDepth 100000
set_option linter.unusedVariables false
set_option linter.unusedSimpArgs false
namespace Go.Proofs.YtegfnefobbgkjaaGreat
open Go.Sort (ltInt)
def noE:Calls':=fun _ _ _=>none
def tabL:List (Nat × QF):=[(214,q334),(251,q379)]
def TL:FuncId -> Option QF:=lookT tabL
def valL (f:FuncId):Bool:=[214,251].any fun n=>Nat.beq n f
theorem S379 {E:Calls'} (x:Int) (h:Hp):Sm E TL valL 251 [.d (u32 x)] h = some (bl false,h):=by
 rw [Sm_v (q:=q379) (by kernel_rfl) (by kernel_rfl)]
 simp [Bd_mk,q379]
theorem S334 {E:Calls'} (x y:Int) (h:Hp):Sm E TL valL 214 [.d (u32 x),.d (u32 y)] h = some (bl (ltInt x y),h):=by
 rw [Sm_v (q:=q334) (by kernel_rfl) (by kernel_rfl)]
 simp (decide:=true) [Bd_mk,q334,S379,openA,opDE_call,noTr,opsA_if,ltInt]
theorem S241 {E:Calls'} (x:Int) (h:Hp):Sm E TT valT 131 [.d (u64 x)] h = some (.d (i64 (len64 x)),h):=by
 rw [Sm_v t241 v241]
 simp (decide:=true) [Bd_mk,q241,S338]
noncomputable def Es:Calls':=fun f args h=>match Nat.beq f 214 with
 | true=>Sm noE TL valL f args h
 | false=>Sm noE TT valT f args h
noncomputable def Eu:Calls':=fun f args h=>match Nat.beq f 130 with
 | true=>Sm Es TS valS f args h
 | false=>Sm noE TT valT f args h
theorem S328n {E:Calls'} (h:Hp):Sm E TS valS 208 [nilV,.d (i64 0),.d (i64 0)] h = some (.tup [],h):=by
 rw [Sm_ref s328 x328]
 simp (decide:=true) [Bd_mk,q328]
 rw [Cd_keep]
 simp
 rw [Cd_round]
 simp (decide:=true) [q328_b1,V.under,V.under.go,tupOf]
theorem S240n {E:Calls'} (n:Int) (h:Hp):Sm E TS valS 130 [nilV,.d (i64 0),.d (i64 0),.d (i64 n)] h = some (.tup [],h):=by
 rw [Sm_ref s240 x240]
 simp (decide:=true) [Bd_mk,q240]
 rw [Cd_keep]
 simp
 rw [Cd_round]
 simp (decide:=true) [q240_b0,S328n,V.under,V.under.go,tupOf]
theorem S136n {E:Calls'} (k240:∀ args h,E 130 args h = Sm Es TS valS 130 args h) (k241:∀ x h,E 131 [.d (u64 x)] h = some (.d (i64 (len64 x)),h)) (h:Hp):Sm E TU valU 61 [nilV] h = some (.tup [],h):=by
 have n240:∀ args h,Sm E TU valU 130 args h = Sm Es TS valS 130 args h:=fun args h=>by rw [Sm_ext u240]; exact k240 args h
 have n241:∀ x h,Sm E TU valU 131 [.d (u64 x)] h = some (.d (i64 (len64 x)),h):=fun x h=>by rw [Sm_ext u241]; exact k241 x h
 have hw:IntKind.wrap .u64 0 = 0:=by decide
 rw [Sm_ref u136 rfl]
 simp (decide:=true) [Bd_mk,q136,n240,n241,S240n,hw,V.under,V.under.go,tupOf]
theorem S137n {E:Calls'} (h:Hp):Sm E TU valU 62 [nilV] h = some (nilV,h):=by
 rw [Sm_ref u137 rfl]
 simp (decide:=true) [Bd_mk,cmpQ,V.under]
noncomputable def Et:Calls':=fun f args h=>match Nat.beq f 257 with
 | true=>Sm E1 TP valP f args h
 | false=>none
noncomputable def EV:Calls':=fun f args h=>match Nat.beq f 61 || Nat.beq f 62,Nat.beq f 45 with
 | true,_=>Sm Eu TU valU f args h
 | false,true=>Sm EO TO valO f args h
 | false,false=>Sm Et TT valT f args h
theorem EV_H:OfH EV where
 h41 c hc hcb h:=S41 (E:=Et) (fun t ht h=>S385 t ht h) c hc hcb h
 h45 c hc n h:=S45 (E:=Et) c hc n h
 h52 p x h:=S52 (E:=Et) p x h
 h90 c hc h:=O90 c hc h
 h117 s hs n h:=S117 (E:=Et) hs n h
 h136 bs b lo n cap hb d hd hn:=S136 (E:=Es) (E2:=Eu) (fun x y h=>S334 x y h) (fun x h=>S241 x h) (fun args h=>rfl) (fun x h=>S241 x h) hb d hd hn
 h136n h:=S136n (E:=Eu) (fun args h=>rfl) (fun x h=>S241 x h) h
 h137 zs b lo cap bs hb hn:=S_compactL (E:=Eu) (T:=TU) (val:=valU) u137 rfl hb hn
 h137n h:=S137n h
end Go.Proofs.YtegfnefobbgkjaaGreat
namespace Go.Proofs.YtegfnefobbgkjaaGreat
noncomputable def ET0:Calls':=fun f args h=>Sm noE TT valT f args h
noncomputable def EIC:Calls':=fun f args h=>match Nat.beq f 41 || Nat.beq f 24 with
 | true=>Sm ET0 TB valB f args h
 | false=>Sm Et TT valT f args h
theorem ET0_113 (p:Pol) (hp:p.ok) (h:Hp):ET0 83 [ag p.c] h = some (ag p.own.c,h):=S113 (E:=noE) p hp h
theorem EIC_117 (s:Sl Int) (hs:short s) (n:Int) (h:Hp):EIC 54 [.d (s.d u32C),.d (u32 n)] h = some (bl (hasT s.l n),h):=S117 (E:=Et) hs n h
theorem EIC_263 (p:Pol) (hp:p.wf big) (h:Hp):EIC 152 [ag p.c] h = some (bl (polMay p),h):=S263 (E:=Et) (fun t ht h=>S385 t ht h) p hp h
theorem EIC_155 (s:Sl Pol) (hs:short s) (hf:∀ p ∈ s.l,p.ok) (h:Hp):EIC 41 [.d (s.d Pol.c)] h = some (.d (Sl.d Pol.c ⟨s.nl,s.l.map Pol.own⟩),h):=B155 (E:=ET0) ET0_113 hs hf h
noncomputable def EQ7:Calls':=fun f args h=>Sm EIC TI valI f args h
theorem EQ7_D:DiffH EQ7 where
 h62 v hv hw h:=I75 (E:=EIC) EIC_117 EIC_263 v hv hw h
 h189 s hs hf h:=(Sm_ext (T:=TI) (val:=valI) i155).trans (EIC_155 s hs hf h)
 h188 p q hp hq h:=I177 (E:=EIC) p q hp h
 h178 p h:=I166 (E:=EIC) p h
 h181 p h:=I168 (E:=EIC) p h
 h184 p h:=I170 (E:=EIC) p h
 h187 p h:=I172 (E:=EIC) p h
end Go.Proofs.YtegfnefobbgkjaaGreat
namespace Go.Proofs.YtegfnefobbgkjaaGreat
theorem F71 {E:Calls'} (H:FeedH E) (f:Fd) (hf:FdOk f):∃ b:Bool,∀ h,Sm E TF valF 4 [f.v] h = some (bl b,h):=by
 obtain ⟨b1,k1⟩:=H.h57 f.sent hf.sent
 obtain ⟨b2,k2⟩:=H.h57 f.base hf.base
 have f1:∀ h,Sm E TF valF 12 [f.sent.v] h = some (bl b1,h):=fun h=>(Sm_ext ft57).trans (k1 h)
 have f2:∀ h,Sm E TF valF 12 [f.base.v] h = some (bl b2,h):=fun h=>(Sm_ext ft57).trans (k2 h)
 by_cases hl:(f.addrs.l.length:Int) > 1000
 · exact ⟨true,fun h=>by rw [Sm_v ft71 fv71]; simp (decide:=true) [Bd_mk,r71,hl,opsA_if]⟩
 · cases b1
   · exact ⟨b2,fun h=>by rw [Sm_v ft71 fv71]; cases b2 <;> simp (decide:=true) [Bd_mk,r71,hl,f1,f2,opsA_if]⟩
   · exact ⟨true,fun h=>by rw [Sm_v ft71 fv71]; simp (decide:=true) [Bd_mk,r71,hl,f1,opsA_if]⟩
noncomputable def EF:Calls':=fun f args h=>match Nat.beq f 30 || Nat.beq f 21,Nat.beq f 42 with
 | true,_=>Sm EV TV valV f args h
 | false,true=>Sm EQ7 TD valD f args h
 | false,false=>EQ7 f args h
theorem EF_H:FeedH EF where
 h51n c w1 w2 s hs hno h:=V64n EV_H w1 w2 hs hno h
 h51 c w1 w2 ok oo s hs m1 m2 hsz:=V64 EV_H w1 w2 ok oo hs m1 m2 hsz
 h54 s hs h:=V67 (E:=EV) EV_H.h117 hs h
 h57 v hv:=by
  obtain ⟨b,k⟩:=S70 (E:=Et) v hv
  exact ⟨b,fun h=>(Sm_ext (E:=EIC) (T:=TI) (val:=valI) (f:=12) (by kernel_rfl)).trans (k h)⟩
 h58n a b oa wa ob wb hn h:=D58n EQ7_D a b oa wa ob wb hn h
 h58 a b oa wa ob wb m1 m2 h:=D58 EQ7_D a b oa wa ob wb m1 m2 h
 h60 a b oa h:=I82 (E:=EIC) a b oa h
 h62 v hv hw h:=I75 (E:=EIC) EIC_117 EIC_263 v hv hw h
 h66 v hv h:=(Sm_ext (E:=EIC) (T:=TI) (val:=valI) (f:=24) i163).trans (B163 (E:=ET0) ET0_113 v hv h)
 h133 s t hs h:=I81 (E:=EIC) s t hs h
noncomputable def E9:Calls':=fun f args h=>match Nat.beq f 6,Nat.beq f 5 with
 | true,_=>known 6 true f args h
 | false,true=>Sm Et TT valT f args h
 | false,false=>Sm EF TF valF f args h
theorem E9_H:AsideH E9 where
 h71 f hf:=F71 EF_H f hf
 h31 c hc:=S31 (E:=Et) c hc
 h72 h:=by show known 6 true 6 [] h = _; simp [known]
 h73 f hf c hc now s hs:=F73 EF_H f hf c hc now s hs
 h74 s hs h:=F74 EF_H s hs h
 h75 a b ha h:=F75 EF_H a b ha h
 h76 f hf c hc now a:=F76 EF_H f hf c hc now a
 h77 f hf now:=F77 EF_H f hf now
end Go.Proofs.YtegfnefobbgkjaaGreat
