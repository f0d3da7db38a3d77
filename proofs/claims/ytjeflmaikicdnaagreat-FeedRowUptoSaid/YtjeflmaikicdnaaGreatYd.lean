/- What the laws of views call, in layers. -/
import Derived.Test.YtjeflmaikicdnaaGreatKa
import Derived.Test.YtjeflmaikicdnaaGreatHs
import Derived.Shelf.SlSortCmp.WholeK
set_option maxRecDepth 100000
set_option linter.unusedVariables false
set_option linter.unusedSimpArgs false
namespace Go.Proofs.YtjeflmaikicdnaaGreat
open IntKind (wrap)
section
open Go.Sort (ltInt)
def noE:Calls':=λ_ _ _=>none
def df4:List (Nat×QF):=[(264,UG),(331,U1)]
def TL:FuncId->Option QF:=iW df4
def VP (f:FuncId):Bool:=[264,331].any λn=>Nat.beq n f
theorem bl5 {E:Calls'}(x:Int)(h:Hp):Sm E TL VP 331 [.d (u32 x)] h=some (bl false,h):=by
 rw [aN (q:=U1) (by kernel_rfl) (by kernel_rfl)];simp [aa,U1]
theorem bk3 {E:Calls'}(x y:Int)(h:Hp):Sm E TL VP 264 [.d (u32 x),.d (u32 y)] h=some (bl (ltInt x y),h):=by
 rw [aN (q:=UG) (by kernel_rfl) (by kernel_rfl)];simp +decide [aa,UG,bl5,ai,ltInt]
theorem MO {E:Calls'}(x:Int)(h:Hp):Sm E TT ah 197 [.d (u64 x)] h=some (.d (i64 (bX x)),h):=by
 rw [aN cv3 dm8];simp +decide [aa,OB,Xw]
noncomputable def Es:Calls':=λf args h=>match Nat.beq f 264 with
 | true=>Sm noE TL VP f args h
 | false=>Sm noE TT ah f args h
noncomputable def Eu:Calls':=λf args h=>match Nat.beq f 196 with
 | true=>Sm Es TS aR f args h
 | false=>Sm noE TT ah f args h
theorem Xv {E:Calls'}(h:Hp):Sm E TS aR 258 [aP,.d (i64 0),.d (i64 0)] h=some (.tup [],h):=by
 rw [av aj0 at7];simp +decide [aa,Lj];rw [aj];simp;rw [ax];simp +decide [nL,V.under,V.under.go,bf]
theorem Xq {E:Calls'}(n:Int)(h:Hp):Sm E TS aR 196 [aP,.d (i64 0),.d (i64 0),.d (i64 n)] h=some (.tup [],h):=by
 rw [av Vx VW];simp +decide [aa,H9];rw [aj];simp;rw [ax];simp +decide [nI,Xv,V.under,V.under.go,bf]
theorem Xg {E:Calls'}(k240:∀ args h,E 196 args h=Sm Es TS aR 196 args h)(k241:∀ x h,E 197 [.d (u64 x)] h=some (.d (i64 (bX x)),h))(h:Hp):Sm E TU Ai 96 [aP] h=some (.tup [],h):=by
 have n240:∀ args h,Sm E TU Ai 196 args h=Sm Es TS aR 196 args h:=λargs h=>by rw [aG ak3]; exact k240 args h
 have n241:∀ x h,Sm E TU Ai 197 [.d (u64 x)] h=some (.d (i64 (bX x)),h):=λx h=>by rw [aG ak4]; exact k241 x h
 have hw:wrap .u64 0=0:=by decide
 rw [av ak0 rfl];simp +decide [aa,Ld,n240,n241,Xq,hw,V.under,V.under.go,bf]
theorem Xh {E:Calls'}(h:Hp):Sm E TU Ai 97 [aP] h=some (aP,h):=by
 rw [av ak1 rfl];simp +decide [aa,cmpQ,V.under]
noncomputable def Et:Calls':=λf args h=>match Nat.beq f 280 with
 | true=>Sm E1 TP qi f args h
 | false=>none
noncomputable def EV:Calls':=λf args h=>match Nat.beq f 96||Nat.beq f 97,Nat.beq f 26 with
 | true,_=>Sm Eu TU Ai f args h
 | false,true=>Sm EO TO uA f args h
 | false,false=>Sm Et TT ah f args h
theorem EV_H:OfH EV where
 h41 c hc hcb h:=S41 (E:=Et) (λt ht h=>MQ t ht h) c hc hcb h
 h45 c hc n h:=S45 (E:=Et) c hc n h
 h52 p x h:=S52 (E:=Et) p x h
 h90 c hc h:=O90 c hc h
 h117 s hs n h:=Xf (E:=Et) hs n h
 h136 bs b lo n cap hb d hd hn:=bf1 (E:=Es) (E2:=Eu) (λx y h=>bk3 x y h) (λx h=>MO x h) (λargs h=>rfl) (λx h=>MO x h) hb d hd hn
 h136n h:=Xg (E:=Eu) (λargs h=>rfl) (λx h=>MO x h) h
 h137 zs b lo cap bs hb hn:=CU (E:=Eu) (T:=TU) (val:=Ai) ak1 rfl hb hn
 h137n h:=Xh h
end
section
noncomputable def ET0:Calls':=λf args h=>Sm noE TT ah f args h
def dg2:List (Nat×QF):=[(173,OD),(245,OZ),(318,O4),(147,OE),(225,O0),(294,O6),(154,OG),(228,O1),(302,O8),(159,Ul),(229,UM),(310,U8)]
def TZ:FuncId->Option QF:=iW dg2
def pO (f:FuncId):Bool:=false
theorem dy8:TZ 173=some (OD):=by kernel_rfl
theorem dz2:TZ 245=some (OZ):=by kernel_rfl
theorem dz6:TZ 318=some (O4):=by kernel_rfl
theorem dy9:TZ 147=some (OE):=by kernel_rfl
theorem dz3:TZ 225=some (O0):=by kernel_rfl
theorem dz7:TZ 294=some (O6):=by kernel_rfl
theorem dz0:TZ 154=some (OG):=by kernel_rfl
theorem dz4:TZ 228=some (O1):=by kernel_rfl
theorem dz8:TZ 302=some (O8):=by kernel_rfl
theorem dz1:TZ 159=some (Ul):=by kernel_rfl
theorem dz5:TZ 229=some (UM):=by kernel_rfl
theorem dz9:TZ 310=some (U8):=by kernel_rfl
theorem Qb:TZ 197=none:=by kernel_rfl
theorem bq9 {E:Calls'}(v:V)(hv:v=.d (.slice true [])\/∃ B cap,v=.row B 0 0 cap 7)(h:Hp):Sm E TZ pO 318 [v,.d (i64 0),.d (i64 0),.fn 174 [.ptr 2 0]] h=some (.tup [],h):=by
 rw [av dz6 rfl];obtain rfl | ⟨B,cap,rfl⟩:=hv;all_goals
  simp +decide [aa,O4];rw [aj];simp;rw [ax];simp +decide [FP,V.under,V.under.go,bf]
theorem bq5 {E:Calls'}(v:V)(hv:v=.d (.slice true [])\/∃ B cap,v=.row B 0 0 cap 7)(n:Int)(h:Hp):Sm E TZ pO 245 [v,.d (i64 0),.d (i64 0),.d (i64 n),.fn 174 [.ptr 2 0]] h=some (.tup [],h):=by
 have k:=λh=>bq9 (E:=E) v hv h;rw [av dz2 rfl];obtain rfl | ⟨B,cap,rfl⟩:=hv;all_goals
  simp +decide [aa,OZ];rw [aj];simp;rw [ax];simp +decide [FL,k,V.under,V.under.go,bf]
theorem bq1 {E:Calls'}(k241:∀ x h,E 197 [.d (u64 x)] h=some (.d (i64 (bX x)),h))(v:V)(hv:v=.d (.slice true [])\/∃ B cap,v=.row B 0 0 cap 7)(h:Hp):Sm E TZ pO 173 [v,.fn 174 [.ptr 2 0]] h=some (.tup [],h):=by
 have k:=λn h=>bq5 (E:=E) v hv n h;have n241:∀ x h,Sm E TZ pO 197 [.d (u64 x)] h=some (.d (i64 (bX x)),h):=λx h=>by rw [aG Qb]; exact k241 x h
 have hw:wrap .u64 0=0:=by decide
 rw [av dy8 rfl];obtain rfl | ⟨B,cap,rfl⟩:=hv;all_goals simp +decide [aa,OD,k,n241,hw,V.under,V.under.go,bf]
theorem br0 {E:Calls'}(v:V)(hv:v=.d (.slice true [])\/∃ B cap,v=.row B 0 0 cap 5)(h:Hp):Sm E TZ pO 294 [v,.d (i64 0),.d (i64 0),.fn 177 [.ptr 2 0]] h=some (.tup [],h):=by
 rw [av dz7 rfl];obtain rfl | ⟨B,cap,rfl⟩:=hv;all_goals
  simp +decide [aa,O6];rw [aj];simp;rw [ax];simp +decide [FQ,V.under,V.under.go,bf]
theorem bq6 {E:Calls'}(v:V)(hv:v=.d (.slice true [])\/∃ B cap,v=.row B 0 0 cap 5)(n:Int)(h:Hp):Sm E TZ pO 225 [v,.d (i64 0),.d (i64 0),.d (i64 n),.fn 177 [.ptr 2 0]] h=some (.tup [],h):=by
 have k:=λh=>br0 (E:=E) v hv h;rw [av dz3 rfl];obtain rfl | ⟨B,cap,rfl⟩:=hv;all_goals
  simp +decide [aa,O0];rw [aj];simp;rw [ax];simp +decide [FM,k,V.under,V.under.go,bf]
theorem bq2 {E:Calls'}(k241:∀ x h,E 197 [.d (u64 x)] h=some (.d (i64 (bX x)),h))(v:V)(hv:v=.d (.slice true [])\/∃ B cap,v=.row B 0 0 cap 5)(h:Hp):Sm E TZ pO 147 [v,.fn 177 [.ptr 2 0]] h=some (.tup [],h):=by
 have k:=λn h=>bq6 (E:=E) v hv n h;have n241:∀ x h,Sm E TZ pO 197 [.d (u64 x)] h=some (.d (i64 (bX x)),h):=λx h=>by rw [aG Qb]; exact k241 x h
 have hw:wrap .u64 0=0:=by decide
 rw [av dy9 rfl];obtain rfl | ⟨B,cap,rfl⟩:=hv;all_goals simp +decide [aa,OE,k,n241,hw,V.under,V.under.go,bf]
theorem br1 {E:Calls'}(v:V)(hv:v=.d (.slice true [])\/∃ B cap,v=.row B 0 0 cap 2)(h:Hp):Sm E TZ pO 302 [v,.d (i64 0),.d (i64 0),.fn 181 [.ptr 2 0]] h=some (.tup [],h):=by
 rw [av dz8 rfl];obtain rfl | ⟨B,cap,rfl⟩:=hv;all_goals
  simp +decide [aa,O8];rw [aj];simp;rw [ax];simp +decide [FR,V.under,V.under.go,bf]
theorem bq7 {E:Calls'}(v:V)(hv:v=.d (.slice true [])\/∃ B cap,v=.row B 0 0 cap 2)(n:Int)(h:Hp):Sm E TZ pO 228 [v,.d (i64 0),.d (i64 0),.d (i64 n),.fn 181 [.ptr 2 0]] h=some (.tup [],h):=by
 have k:=λh=>br1 (E:=E) v hv h;rw [av dz4 rfl];obtain rfl | ⟨B,cap,rfl⟩:=hv;all_goals
  simp +decide [aa,O1];rw [aj];simp;rw [ax];simp +decide [FN,k,V.under,V.under.go,bf]
theorem bq3 {E:Calls'}(k241:∀ x h,E 197 [.d (u64 x)] h=some (.d (i64 (bX x)),h))(v:V)(hv:v=.d (.slice true [])\/∃ B cap,v=.row B 0 0 cap 2)(h:Hp):Sm E TZ pO 154 [v,.fn 181 [.ptr 2 0]] h=some (.tup [],h):=by
 have k:=λn h=>bq7 (E:=E) v hv n h;have n241:∀ x h,Sm E TZ pO 197 [.d (u64 x)] h=some (.d (i64 (bX x)),h):=λx h=>by rw [aG Qb]; exact k241 x h
 have hw:wrap .u64 0=0:=by decide
 rw [av dz0 rfl];obtain rfl | ⟨B,cap,rfl⟩:=hv;all_goals simp +decide [aa,OG,k,n241,hw,V.under,V.under.go,bf]
theorem br2 {E:Calls'}(v:V)(hv:v=.d (.slice true [])\/∃ B cap,v=.row B 0 0 cap 5)(h:Hp):Sm E TZ pO 310 [v,.d (i64 0),.d (i64 0),.fn 185 [.ptr 2 0]] h=some (.tup [],h):=by
 rw [av dz9 rfl];obtain rfl | ⟨B,cap,rfl⟩:=hv;all_goals
  simp +decide [aa,U8];rw [aj];simp;rw [ax];simp +decide [FT,V.under,V.under.go,bf]
theorem bq8 {E:Calls'}(v:V)(hv:v=.d (.slice true [])\/∃ B cap,v=.row B 0 0 cap 5)(n:Int)(h:Hp):Sm E TZ pO 229 [v,.d (i64 0),.d (i64 0),.d (i64 n),.fn 185 [.ptr 2 0]] h=some (.tup [],h):=by
 have k:=λh=>br2 (E:=E) v hv h;rw [av dz5 rfl];obtain rfl | ⟨B,cap,rfl⟩:=hv;all_goals
  simp +decide [aa,UM];rw [aj];simp;rw [ax];simp +decide [FO,k,V.under,V.under.go,bf]
theorem bq4 {E:Calls'}(k241:∀ x h,E 197 [.d (u64 x)] h=some (.d (i64 (bX x)),h))(v:V)(hv:v=.d (.slice true [])\/∃ B cap,v=.row B 0 0 cap 5)(h:Hp):Sm E TZ pO 159 [v,.fn 185 [.ptr 2 0]] h=some (.tup [],h):=by
 have k:=λn h=>bq8 (E:=E) v hv n h;have n241:∀ x h,Sm E TZ pO 197 [.d (u64 x)] h=some (.d (i64 (bX x)),h):=λx h=>by rw [aG Qb]; exact k241 x h
 have hw:wrap .u64 0=0:=by decide
 rw [av dz1 rfl];obtain rfl | ⟨B,cap,rfl⟩:=hv;all_goals simp +decide [aa,Ul,k,n241,hw,V.under,V.under.go,bf]
noncomputable def uw (s:SF) (id:FuncId) (args:List V) (h:Hp):Option (V×Hp):=match args with
 | [.row _ 0 (_+1) _ _,_]=>gp s args h
 | _=>Sm ET0 TZ pO id args h
theorem sJ {s:SF}{id:FuncId}{h:Hp}{B n z:Nat}{cap:Option Nat}{g:V}(hn:0<n):uw s id [.row B 0 n cap z,g] h=gp s [.row B 0 n cap z,g] h:=by
 cases n with
 | zero=>omega
 | succ n=>rfl
def Cn:SF:=⟨7,0,174,78⟩
def Cs:SF:=⟨5,0,177,80⟩
def Ct:SF:=⟨2,0,181,82⟩
def Cr:SF:=⟨5,0,185,85⟩
noncomputable def EIC:Calls':=λf args h=>match Nat.beq f 83||Nat.beq f 33 with
 | true=>Sm ET0 TB oD f args h
 | false=>match Nat.beq f 173,Nat.beq f 147,Nat.beq f 154,Nat.beq f 159 with
  | true,_,_,_=>uw Cn f args h
  | _,true,_,_=>uw Cs f args h
  | _,_,true,_=>uw Ct f args h
  | _,_,_,true=>uw Cr f args h
  | _,_,_,_=>Sm Et TT ah f args h
theorem uV (x:Int)(h:Hp):ET0 197 [.d (u64 x)] h=some (.d (i64 (bX x)),h):=MO (E:=noE) x h
theorem EC (p:Pol)(hp:p.ok)(h:Hp):ET0 54 [ag p.c] h=some (ag p.own.c,h):=Q7 (E:=noE) p hp h
theorem EIC_put:PutH EIC where
 h117 s hs n h:=Xf (E:=Et) hs n h
 h263 p hp h:=Q8 (E:=Et) (λt ht h=>MQ t ht h) p hp h
 h155 s hs hf h:=Wu (E:=ET0) EC hs hf h
 h271 hn:=sJ hn
 h276 hn:=sJ hn
 h280 hn:=sJ hn
 h284 hn:=sJ hn
 n271 v hv h:=by
  have:=bq1 (E:=ET0) uV v hv h;obtain rfl | ⟨B,cap,rfl⟩:=hv<;>exact this
 n276 v hv h:=by
  have:=bq2 (E:=ET0) uV v hv h;obtain rfl | ⟨B,cap,rfl⟩:=hv<;>exact this
 n280 v hv h:=by
  have:=bq3 (E:=ET0) uV v hv h;obtain rfl | ⟨B,cap,rfl⟩:=hv<;>exact this
 n284 v hv h:=by
  have:=bq4 (E:=ET0) uV v hv h;obtain rfl | ⟨B,cap,rfl⟩:=hv<;>exact this
noncomputable def EQ7:Calls':=λf args h=>Sm EIC TI aJ f args h
theorem Qh:DiffH EQ7 where
 h62 v hv hw h:=I75 (E:=EIC) EIC_put.h117 EIC_put.h263 v hv hw h
 h189 s hs hf h:=(aG (T:=TI) (val:=aJ) Yb).trans (EIC_put.h155 s hs hf h)
 h188 p q hp hq h:=WH (E:=EIC) p q hp h
 h178 p h:=MJ (E:=EIC) p h
 h181 p h:=MK (E:=EIC) p h
 h184 p h:=ML (E:=EIC) p h
 h187 p h:=MM (E:=EIC) p h
end
section
noncomputable def ETT:Calls':=λf args h=>Sm Et TT ah f args h
theorem QW (t:Target)(ht:t.wf big)(h:Hp):Et 280 [ag t.c] h=some (bl (aZ t),h):=MQ t ht h
noncomputable def EF:Calls':=λf args h=>match Nat.beq f 35||Nat.beq f 30,Nat.beq f 86 with
 | true,_=>Sm EV TV aX f args h
 | false,true=>Sm EQ7 TD bT f args h
 | false,false=>EQ7 f args h
theorem Gs:FeedH EF where
 h51n c w1 w2 s hs hno h:=bp1 EV_H w1 w2 hs hno h
 h51 c w1 w2 ok oo s hs m1 m2 hsz:=V64 EV_H w1 w2 ok oo hs m1 m2 hsz
 h54 s hs h:=V67 (E:=EV) EV_H.h117 hs h
 h58n a b oa wa ob wb hn h:=bb4 Qh a b oa wa ob wb hn h
 h58 a b oa wa ob wb m1 m2 h:=D58 Qh a b oa wa ob wb m1 m2 h
 h60 a b oa h:=I82 (E:=EIC) a b oa h
 h62 v hv hw h:=I75 (E:=EIC) EIC_put.h117 EIC_put.h263 v hv hw h
 h66 v hv h:=(aG (E:=EIC) (T:=TI) (val:=aJ) (f:=33) bv2).trans (ba1 (E:=ET0) EC v hv h)
 h133 s t hs h:=I81 (E:=EIC) s t hs h
noncomputable def EA8:Calls':=λf args h=>match Nat.beq f 280,Nat.beq f 26,[142,59,66,71].any (Nat.beq f) with
 | true,_,_=>Sm E1 TP qi f args h
 | false,true,_=>Sm EO TO uA f args h
 | false,false,true=>Sm EW TW sO f args h
 | false,false,false=>none
theorem Wy:EP EA8:=λf hf args h=>by obtain rfl | rfl | rfl | rfl:=hf<;>rfl
noncomputable def E13:Calls':=λf args h=>match Nat.beq f 7,Nat.beq f 9,Nat.beq f 13,[36,32].any (Nat.beq f),[5,6,8].any (Nat.beq f) with
 | true,_,_,_,_=>known 7 true f args h
 | _,true,_,_,_=>Sm EA8 TT ah f args h
 | _,_,true,_,_=>Sm EQ7 TN8 je f args h
 | _,_,_,true,_=>EQ7 f args h
 | _,_,_,_,true=>ETT f args h
 | _,_,_,_,_=>Sm EF TF bV f args h
theorem Wx:RowH E13 where
 h4 L h:=bb5 (E:=EF) L h
 h5 c hc:=S31 (E:=Et) c hc
 h6 c hc h:=S41 (E:=Et) QW c hc.w1 hc.w2 h
 h7 h:=by show known 7 true 7 [] h=_; simp [known]
 h8 e he:=S32 (E:=Et) e he
 h9 c hc e he heb h:=S36 Wy (λt ht h=>MQ t ht h) (λargs h=>rfl) c hc.w1 hc.w2 e he heb h
 h10 f hf c hc now:=bb6 Gs f hf c hc now
 h11 s hs h:=F74 Gs s hs h
 h12 f hf c hc now s hs:=F73 Gs f hf c hc now s hs
 h13a bs nb n hb p h lo:=bn5 (E:=EQ7) hb h lo
 h13b bs nb n hb p h1 hw h2:=bn6 (E:=EQ7) hb h1 hw h2
 h13c bs nb n hb p h1 h2 hd hu hn:=bn7 (E:=EQ7) hb h1 h2 hd hu hn
 h13d bs nb n hb p x base h1 h2 h3 k32:=by
  obtain ⟨a,b,c⟩ | ⟨a,b,c,d,e⟩ | ⟨a,b,c,rfl⟩:=h3
  . exact S98 (E:=EQ7) hb h1 h2 (.inl ⟨a,b,c⟩) k32
  . exact S98 (E:=EQ7) hb h1 h2 (.inr ⟨a,b,c,d,e⟩) k32
  . exact bn8 (E:=EQ7) hb h1 h2 a b c k32
 h15 f hf c hc now a:=F76 Gs f hf c hc now a
 h17 f hf now:=F77 Gs f hf now
 h32 a' a b oa' wa' oa ob wb ma mb hn:=by
  obtain ⟨od,wd⟩:=JL oa ob wb;have ma':aY a'=true:=by rw [← sQ a',hn,sQ,ma]
  obtain ⟨n1,n2,n3,n4,k⟩:=I80 (E:=EIC) EIC_put a' oa' wa' (bC a b) od wd ma' (JM ma mb);obtain ⟨k1,k2,k3⟩:=k _ rfl;have hx:=Hz ma mb hn (n1:=n1) (n2:=n2) (n3:=n3) (n4:=n4) (d:=bC a b) rfl;have mx:=sQ b;rw [← hx,sQ,mb] at mx;refine ⟨_,k1,k2,hx,λh=>?_⟩;show Sm EIC TI aJ 32 [a'.v,(bC a b).v] h=_;rw [k3,mx]; rfl
 h35 c hc s hs:=H51 Gs c hc s hs
 h36 a b oa h:=I82 (E:=EIC) a b oa h
end
section
open Go.Sort Go.Shelf Go.RowKit
structure Rec (k p:Nat) where
 vs:List Value
 len:vs.length=k
 one:∀ v∈vs,v.oneCell'=true
 key:Int
 hk:vs[p]?=some (.int .u64 key)
abbrev Rec.inh {k p:Nat} (h:p<k):Inhabited (Rec k p):=⟨⟨List.replicate k (.int .u64 0),by simp,λv hv=>by rw [(List.mem_replicate.1 hv).2]; rfl,0,by simp [h]⟩⟩
def cfK {k p:Nat}(x y:Rec k p):Int:=if x.key<y.key then -1 else if y.key<x.key then 1 else 0
theorem FE {k p:Nat}(x y:Rec k p):ltOf cfK x y=decide (x.key<y.key):=by
 unfold ltOf cfK;by_cases h1:x.key<y.key
 . simp [h1]
 . by_cases h2:y.key<x.key<;>simp [h1,h2]
theorem VC {k p:Nat}:SWO (ltOf (cfK (k:=k) (p:=p))) where
 irrefl x:=by rw [FE]; simp
 trans x y z h1 h2:=by rw [FE] at *; simp at *; omega
 ntrans x y z h1 h2:=by rw [FE] at *; simp at *; omega
theorem rJ {α:Type}{f:α->Int}:∀ {l:List α},(l.map f).Nodup->∀ a∈l,∀ b∈l,f a=f b->a=b
 | x::l,h,a,ha,b,hb,e=>by
  simp only [cq,List.nodup_cons,cd,not_exists,not_and] at h;obtain e1 | ha':=List.mem_cons.1 ha<;>obtain e2 | hb':=List.mem_cons.1 hb
  . rw [e1,e2]
  . exact absurd (by rw [← e1,e]) (h.1 b hb')
  . exact absurd (by rw [← e2,e]) (h.1 a ha')
  . exact rJ h.2 a ha' b hb' e
theorem uK {z:Nat}:∀ {l:List (List V)} {j:Nat},(∀ r∈l,r.length=z)->j<l.length * z->∃ r,l[j / z]?=some r/\l.flatten[j]?=r[j % z]?
 | [],j,_,h=>by simp at h
 | r::l,j,hl,h=>by
  have hr:=hl r (by simp);have hz:0<z:=by
   obtain hz | hz:=Nat.eq_zero_or_pos z
   . rw [hz] at h; simp at h
   . exact hz
  obtain hj | hj:=co j z
  . refine ⟨r,by rw [Nat.div_eq_of_lt hj]; rfl,?_⟩;rw [List.flatten_cons,am (by omega),Nat.mod_eq_of_lt hj]
  . obtain ⟨k,rfl⟩:=Nat.exists_eq_add_of_le hj;rw [cj,Nat.add_mul,Nat.one_mul] at h;obtain ⟨r',e1,e2⟩:=uK (l:=l) (j:=k) (λx hx=>hl x (List.mem_cons_of_mem _ hx)) (by omega);refine ⟨r',by rw [Nat.add_div_left _ hz]; simpa using e1,?_⟩;rw [List.flatten_cons,bm (by omega),hr,Nat.add_sub_cancel_left,e2,Nat.add_mod_left]
theorem Ed {α:Type}{f:α->Int}{l1 l2 l:List α}(hnd:(l.map f).Nodup)(p1:l1.Perm l)(p2:l2.Perm l)(s1:l1.Pairwise λa b=>f a<=f b)(s2:l2.Pairwise λa b=>f a<=f b):l1=l2:=by
 refine (p1.trans p2.symm).eq_of_pairwise ?_ s1 s2;intro a b ha hb h1 h2;exact rJ hnd a (p1.mem_iff.1 ha) b (p2.mem_iff.1 hb) (by omega)
variable {P:Program}{ρr:Ren}
theorem FC {B:Nat}{ρ:Rh}{h:Hp}{w:World}(hR:Rel B ρ h w){b:Nat}{cs:List V}(hg:h.get b=some cs)(hne:cs≠[]):∃ hb:b<h.bs.length,h.bs[b].live=true:=by
 obtain ⟨hb,e⟩:=oW hg;refine ⟨hb,?_⟩;rw [e];cases cs with
 | nil=>exact absurd rfl hne
 | cons _ _=>rfl
def jP (P:Program)(s:SF):Prop:=∀ (W:World) (c:Nat) (x y:Rec s.z s.p),W.cell? ⟨c,0,none⟩=some (.func (.func s.id) #[] #[]) →
 Calls P s.g #[.agg x.vs.toArray,.agg y.vs.toArray,.pointer (some ⟨c,0,none⟩)] W λe w'=>e=.returned (.int .i64 (cfK x y))/\∃ q os,w'=grow (W.drewN q) os
theorem iJ (s:SF)(L:SlLaysF0.n6 P ρr)(aE:∀ w,(isAgg (ρr.t 24)).run P w=.ok true w)(zE:∀ w,(Go.sizeOf (ρr.t 24)).run P w=.ok s.z w)(eg:∀ args w,(callFunc s.g args).run P w=.ok (.enter s.g args) w)(hp:s.p<s.z)(hcmp:jP P s)
 {B:Nat} {ρ:Rh} {h:Hp} {w:World} {args:List V} {vs:Array Value} {r:V} {h':Hp} (hR:Rel B ρ h w) (hv:VRs ρ (St ρ w) w args vs.toList) (hm:gp s args h=some (r,h')) :
 Calls P (ρr.f 6) vs w (kV B ρ h w r h'):=by
 unfold gp at hm;split at hm
 . rename_i b n cap z g c;split at hm
   . rename_i cs id hgb hgc;split at hm
     . rename_i hall;obtain ⟨rfl,rfl,rfl,hbc,hn0,hn,hlen,hkeys,hnd⟩:=hall;cases hm;simp only [VRs] at hv;obtain ⟨u1,us1,e1,hu1,u2,us2,e2,hu2,e3⟩:=hv;subst e3; subst e2;have hvs:vs=#[u1,u2]:=Array.toList_inj.1 (by simpa using e1);subst hvs;simp only [VR,VRs] at hu1 hu2;obtain ⟨hbN,cc,rfl,hc1,hc2,_⟩:=hu1;obtain ⟨vs2,rfl,u3,us3,e4,⟨hcN,rfl⟩,rfl⟩:=hu2;have hvs2:vs2=#[.pointer (some ⟨ρ c,0,none⟩)]:=Array.toList_inj.1 (by simpa using e4);subst hvs2;have hz0:0<s.z:=by omega
       have hnz:0<n * s.z:=Nat.mul_pos hn0 hz0;have hne:cs≠[]:=by rintro rfl; simp at hlen; omega
       obtain ⟨arr,el,fz,k1,k2,k3,k4⟩:=gQ hR hgb hne;obtain ⟨arr2,el2,fz2,m1,m2,m3,m4⟩:=gQ hR hgc (by simp);obtain ⟨hbl,hlive⟩:=FC hR hgb hne;obtain ⟨hcl,hclive⟩:=FC hR hgc (by simp);have hcell:w.cell? ⟨ρ c,0,none⟩=some (.func (.func s.id) #[] #[]):=by
        have h1:0<arr2.size:=cf Nat.zero_lt_one (by simpa using m2);have h2:=(m4 0 (by simp) h1).1;simp only [List.getElem_cons_zero,VR,VRs] at h2;obtain ⟨vs3,e5,e6⟩:=h2;have e7:vs3=#[]:=Array.toList_inj.1 (by simpa using e6);subst e7;simp [World.cell?,m1,h1,e5]
       have hinj:ρ c≠ρ b:=hR.inj c b (Ne.symm hbc) (hR.live c hcl hclive) (hR.live b hbl hlive);have hlt:=(hR.lo b hbN).2;have hltc:=(hR.lo c hcN).2;have hbnd:∀ i,i<n->i * s.z+s.z<=n * s.z:=λi hi=>by
        have:=Nat.mul_le_mul_right s.z (show i+1<=n from hi)
        rwa [Nat.add_mul,Nat.one_mul] at this
       have hch:∀ i t,i<n->t<s.z->((cs.drop (i * s.z)).take s.z)[t]?=cs[i * s.z+t]?:=λi t hi ht=>by
        rw [List.getElem?_take_of_lt ht,List.getElem?_drop]
       have har:∀ i t,i<n->t<s.z->∃ v u,cs[i * s.z+t]?=some v/\arr[i * s.z+t]?=some u/\VR ρ (St ρ w) w v u/\u.oneCell'=true:=λi t hi ht=>by
        have:=hbnd i hi;have h1:i * s.z+t<cs.length:=by omega
        have h2:i * s.z+t<arr.size:=by omega
        exact ⟨cs[i * s.z+t],arr[i * s.z+t],by simp [h1],by simp [h2],k4 _ h1 h2⟩
       have hkey:∀ i,i<n->∃ m,oZ s.p ((cs.drop (i * s.z)).take s.z)=m/\arr[i * s.z+s.p]?=some (.int .u64 m):=λi hi=>by
        have h1:=hkeys ((cs.drop (i * s.z)).take s.z) (by simp only [chunk,cd,List.mem_range]; exact ⟨i,hi,rfl⟩);obtain ⟨m,hm⟩:=Option.isSome_iff_exists.1 h1;have h2:=GV hm;rw [hch i s.p hi hp] at h2;obtain ⟨v,u,a1,a2,a3,_⟩:=har i s.p hi hp;rw [h2] at a1;cases a1;simp only [VR,DR] at a3;subst a3;exact ⟨m,by simp [oZ,hm],a2⟩
       let cell:Nat->Value:=λj=>(arr[j]?).getD (.bool false)
       have hcl':∀ i t,i<n->t<s.z->arr[i * s.z+t]?=some (cell (i * s.z+t)):=λi t hi ht=>by
        obtain ⟨v,u,a1,a2,a3,a4⟩:=har i t hi ht;simp only [cell,a2,Option.getD_some]
       let rc:Fin n->Rec s.z s.p:=λi=>⟨(List.range s.z).map λt=>cell (i.1 * s.z+t),by simp,λv hv=>by
        simp only [cd,List.mem_range] at hv;obtain ⟨t,ht,rfl⟩:=hv;obtain ⟨v,u,a1,a2,a3,a4⟩:=har i.1 t i.2 ht;simp only [cell,a2,Option.getD_some]; exact a4,
        oZ s.p ((cs.drop (i.1 * s.z)).take s.z),by
         obtain ⟨m,q1,q2⟩:=hkey i.1 i.2;simp only [List.getElem?_map,List.getElem?_range hp,Option.map_some,cell,q2,Option.getD_some,q1]⟩
       letI:Inhabited (Rec s.z s.p):=Rec.inh hp
       let prs:List (Rec s.z s.p×List V):=(List.finRange n).map λi=>(rc i,(cs.drop (i.1 * s.z)).take s.z)
       have hsnd:prs.map (·.2)=chunk s.z n cs:=by
        refine List.ext_getElem (by simp [prs,chunk]) λi h1 h2=>?_;simp [prs,chunk]
       let d:Array (Rec s.z s.p):=(prs.map (·.1)).toArray
       have hds:d.size=n:=by simp [d,prs]
       have hdi:∀ i (hi:i<n),d[i]! = rc ⟨i,hi⟩:=λi hi=>by
        rw [getElem!_pos d i (by omega)];simp [d,prs]
       have hprk:∀ x∈prs,x.1.key=oZ s.p x.2:=λx hx=>by
        simp only [prs,cd] at hx;obtain ⟨i,_,rfl⟩:=hx;rfl
       have hkd:(prs.map (·.1)).map (·.key)=(chunk s.z n cs).map (oZ s.p):=by
        rw [← hsnd];have e1:(prs.map (·.1)).map (·.key)=prs.map λx=>x.1.key:=List.map_map;have e2:(prs.map (·.2)).map (oZ s.p)=prs.map λx=>oZ s.p x.2:=List.map_map;rw [e1,e2];exact List.map_congr_left hprk
       let enc:Rec s.z s.p->List Value:=λx=>x.vs
       have hH:HoldsK enc s.z w (ρ b) 0 d:=by
        intro j hj;rw [size_flatK,hds] at hj;have hi:j / s.z<n:=by rw [Nat.div_lt_iff_lt_mul hz0]; exact hj
        have ht:j % s.z<s.z:=Nat.mod_lt _ hz0;have hjj:j / s.z * s.z+j % s.z=j:=by rw [Nat.mul_comm]; exact Nat.div_add_mod j s.z
        have hj2:j<arr.size:=by omega
        refine ⟨?_,by simpa using k3 j hj2⟩;rw [get_flatK _ _ _ _ (by rw [hds]; exact hj),hdi _ hi];have h1:=hcl' _ _ hi ht;rw [hjj] at h1;have h2:(enc (rc ⟨j / s.z,hi⟩))[j % s.z]! = cell j:=by
         simp only [enc,rc];rw [getElem!_pos _ _ (by simpa using ht)];simp [hjj]
        rw [h2];simp only [World.cell?,k1,Nat.zero_add,id_eq];simpa using h1
       have hcm:CmpLays P s.g #[.pointer (some ⟨ρ c,0,none⟩)] enc s.z cfK (ρ b) 0 d.size w:=by
        intro m os dk hdk x y;refine hcmp _ (ρ c) x y ?_;have hh:(sortWorldK enc s.z w (ρ b) 0 m dk os).heap[ρ c]?=w.heap[ρ c]?:=by
         show ((w.heap.modify (ρ b) _)++os)[ρ c]?=_;rw [Array.getElem?_append_left (by simpa using hltc),Array.getElem?_modify,if_neg (Ne.symm hinj)]
        rw [← hcell];simp only [World.cell?,hh]
       have hct:=AnyQ.slices_SortFunc L s.z aE zE enc (λx=>x.len) (λx=>x.one) cfK VC s.g #[.pointer (some ⟨ρ c,0,none⟩)] (ρ b) 0 cc d w eg hcm hH hlt (by rw [hds]; omega);rw [hds] at hct;refine hct.mono ?_;rintro e w' ⟨rfl,d',nn,os,hP,hS,rfl⟩;have hd's:d'.size=n:=by rw [hP.1,hds]
       have hperm:d'.toList.Perm (prs.map (·.1)):=by
        have:=hP.2.2;have x1:d'.extract 0 n=d':=by rw [← hd's]; exact Array.extract_size
        have x2:d.extract 0 n=d:=by rw [← hds]; exact Array.extract_size
        rw [x1,x2] at this;exact this
       have hsrt:d'.toList.Pairwise λa b=>a.key<=b.key:=by
        rw [List.pairwise_iff_getElem];intro i j hi hj hij;have hi':i<d'.size:=by simpa using hi
        have hj':j<d'.size:=by simpa using hj
        have:=hS i j (Nat.zero_le _) hij (by omega);rw [FE,getElem!_pos d' i hi',getElem!_pos d' j hj'] at this;simp only [decide_eq_false_iff_not] at this;simp only [Array.getElem_toList];omega
       let prs':=prs.mergeSort λx y=>decide (oZ s.p x.2<=oZ s.p y.2)
       have hp1:prs'.map (·.2)=gW s.p (chunk s.z n cs):=by
        rw [gW,← hsnd];exact List.map_mergeSort λ_ _ _ _=>rfl
       have hpp:prs'.Perm prs:=List.mergeSort_perm _ _;have hp2:d'.toList=prs'.map (·.1):=by
        refine Ed (f:=(·.key)) (l:=prs.map (·.1)) (by rw [hkd]; exact hnd) hperm (hpp.map _) hsrt ?_;rw [List.pairwise_map];have hs:=List.pairwise_mergeSort (le:=λ(x y:Rec s.z s.p×List V)=>decide (oZ s.p x.2<=oZ s.p y.2)) (by intro a b c h1 h2; simp at *; omega) (by intro a b; simp; omega) prs;refine List.Pairwise.imp_of_mem ?_ hs;intro a b ha hb hab;rw [hprk a (hpp.mem_iff.1 ha),hprk b (hpp.mem_iff.1 hb)];simpa using hab
       have hplen:prs'.length=n:=by simp [prs',prs]
       have hat':∀ i (hi:i<n),∃ i0,∃ hi0:i0<n,d'[i]! = rc ⟨i0,hi0⟩/\(gW s.p (chunk s.z n cs))[i]?=some ((cs.drop (i0 * s.z)).take s.z):=λi hi=>by
        have hmem:prs'[i]'(by omega)∈prs:=hpp.mem_iff.1 (bj _);obtain ⟨i0,_,he⟩:=cd.1 hmem;refine ⟨i0.1,i0.2,?_,?_⟩
        . have h1:d'.toList[i]?=some (rc i0):=by
           rw [hp2,List.getElem?_map,ab (by omega),← he]; rfl
          rw [getElem!_pos d' i (by omega)];rw [ab (by simpa using (show i<d'.size by omega))] at h1;simpa using h1
        . rw [← hp1,List.getElem?_map,ab (by omega),← he]; rfl
       let w1:=putRowK enc s.z (Sort.ahead w nn) (ρ b) 0 d'
       have hheap:w1.heap=w.heap.modify (ρ b) (onCells (putCells id 0 (flatK enc s.z d'))):=rfl;have hsz:w1.heap.size=w.heap.size:=by rw [hheap]; simp
       have hoth:∀ k,k≠ρ b->w1.heap[k]?=w.heap[k]?:=λk hk=>by
        rw [hheap,Array.getElem?_modify,if_neg (Ne.symm hk)]
       have hat:w1.heap[ρ b]?=some (.cells (putCells id 0 (flatK enc s.z d') arr) el fz):=by
        rw [hheap,Array.getElem?_modify,if_pos rfl,k1]; rfl
       have hps:(putCells id 0 (flatK enc s.z d') arr).size=arr.size:=by simp [putCells]
       have hown:∀ arr' e' fz',w.heap[ρ b]?=some (.cells arr' e' fz')->∃ arr'' fz'',w1.heap[ρ b]?=some (.cells arr'' e' fz'')/\arr''.size=arr'.size:=by
        intro arr' e' fz' hh;rw [k1] at hh;cases hh;exact ⟨_,_,hat,hps⟩
       have q2:=kR hR (hR.live b hbl hlive) hsz hoth hown rfl rfl rfl;have hrl:∀ r∈gW s.p (chunk s.z n cs),r.length=s.z:=by
        intro r hr;have:=(List.mergeSort_perm _ _).mem_iff.1 hr;simp only [chunk,cd,List.mem_range] at this;obtain ⟨i,hi,rfl⟩:=this;have:=hbnd i hi;rw [List.length_take,List.length_drop]; omega
       have hsl:(gW s.p (chunk s.z n cs)).length=n:=by simp [gW,chunk]
       have hfl:((gW s.p (chunk s.z n cs)).flatten).length=n * s.z:=by
        rw [List.length_flatten];have:(gW s.p (chunk s.z n cs)).map List.length=List.replicate n s.z:=by
         rw [List.eq_replicate_iff];refine ⟨by simp [hsl],λx hx=>?_⟩;obtain ⟨r,hr,rfl⟩:=cd.1 hx;exact hrl r hr
        rw [this]; simp
       have hnew:((gW s.p (chunk s.z n cs)).flatten++cs.drop (n * s.z)).length=cs.length:=by
        rw [aq,hfl,List.length_drop]; omega
       have hbr:BR ρ w1 (ρ b) (.cells ((gW s.p (chunk s.z n cs)).flatten++cs.drop (n * s.z))):=by
        have hne2:(gW s.p (chunk s.z n cs)).flatten++cs.drop (n * s.z)≠[]:=λhh=>by
         rw [hh] at hnew; simp at hnew; exact hne (List.eq_nil_of_length_eq_zero hnew.symm)
        have core:∃ arr' e' fz',w1.heap[ρ b]?=some (.cells arr' e' fz')/\((gW s.p (chunk s.z n cs)).flatten++cs.drop (n * s.z)).length<=arr'.size/\(∀ j,j<arr'.size->w1.frozen? ⟨ρ b,j,none⟩=false) ∧
         ∀ (j:Nat) (h1:j<((gW s.p (chunk s.z n cs)).flatten++cs.drop (n * s.z)).length) (h2:j<arr'.size),VR ρ (St ρ w1) w1 ((gW s.p (chunk s.z n cs)).flatten++cs.drop (n * s.z))[j] arr'[j]/\arr'[j].oneCell'=true:=by
         refine ⟨_,_,_,hat,by rw [hps,hnew]; exact k2,λj hj=>?_,λj h1 h2=>?_⟩
         . have:=k3 j (by rw [← hps]; exact hj);rw [← this];exact frozen?_mapBlock (Sort.ahead w nn) (ρ b) _ _
         . have hja:j<arr.size:=by rw [← hps]; exact h2
           have hjc:j<cs.length:=by rw [← hnew]; exact h1
           obtain hj | hj:=co j (n * s.z)
           . have hi:j / s.z<n:=by rw [Nat.div_lt_iff_lt_mul hz0]; exact hj
             have ht:j % s.z<s.z:=Nat.mod_lt _ hz0;obtain ⟨i0,hi0,a1,a2⟩:=hat' _ hi;obtain ⟨r,b1,b2⟩:=uK (j:=j) hrl (by rw [hsl]; exact hj);rw [a2] at b1;cases b1;rw [hch i0 _ hi0 ht] at b2;obtain ⟨v,u,c1,c2,c3,c4⟩:=har i0 _ hi0 ht;have hV:((gW s.p (chunk s.z n cs)).flatten++cs.drop (n * s.z))[j]=v:=by
              rw [List.getElem_append_left (by rw [hfl]; exact hj)];have:=b2.trans c1;rw [ab (by rw [hfl]; exact hj)] at this;simpa using this
             have hU:(putCells id 0 (flatK enc s.z d') arr)[j]=u:=by
              simp only [putCells,Array.getElem_mapIdx];rw [if_pos ⟨Nat.zero_le _,by rw [size_flatK,hd's]; omega⟩,Nat.sub_zero,get_flatK _ _ _ _ (by rw [hd's]; exact hj),a1];simp only [enc,rc,id_eq];rw [getElem!_pos _ _ (by simpa using ht)];simp [cell,c2]
             rw [hV,hU];exact ⟨c3.ext q2.ext,c4⟩
           . have hV:((gW s.p (chunk s.z n cs)).flatten++cs.drop (n * s.z))[j]=cs[j]:=by
              rw [List.getElem_append_right (by rw [hfl]; exact hj)];simp only [List.getElem_drop,hfl]
              congr 1
              omega
             have hU:(putCells id 0 (flatK enc s.z d') arr)[j]=arr[j]:=by
              simp only [putCells,Array.getElem_mapIdx];rw [if_neg (by rw [size_flatK,hd's]; omega)]
             rw [hV,hU];exact ⟨(k4 j hjc hja).1.ext q2.ext,(k4 j hjc hja).2⟩
        revert core hne2
        cases (gW s.p (chunk s.z n cs)).flatten++cs.drop (n * s.z) with
        | nil=>intro hne2 _; exact absurd rfl hne2
        | cons x xs=>intro _ core; simpa only [BR] using core
       have q1:=sI hR hbl hlive hsz hoth hown rfl rfl rfl (.cells ((gW s.p (chunk s.z n cs)).flatten++cs.drop (n * s.z))) hbr (min h.low b);have hbel:Below w1.heap.size w1 (grow w1 os):=⟨rfl,rfl,rfl,by simp [grow],λk hk=>by simp [grow,Array.getElem?_append_left hk]⟩;obtain ⟨q3,q4⟩:=tH q1 hbel;exact ⟨_,ρ,rfl,q3,q2.trans q4,by simp only [VRx,VR,VRs]; exact ⟨_,rfl,rfl⟩⟩
     . cases hm
   . cases hm
 . cases hm
end
