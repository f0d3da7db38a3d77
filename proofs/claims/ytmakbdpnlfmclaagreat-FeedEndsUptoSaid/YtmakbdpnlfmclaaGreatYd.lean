/- What the laws of views call, in layers. -/
import Derived.Test.YtmakbdpnlfmclaaGreatKa
import Derived.Test.YtmakbdpnlfmclaaGreatHi
import Derived.Shelf.SlSortCmp.WholeK
set_option maxRecDepth 100000
set_option linter.unusedVariables false
set_option linter.unusedSimpArgs false
namespace Go.Proofs.YtmakbdpnlfmclaaGreat
open IntKind (wrap)
section
open Go.Sort (ltInt)
def noE:Calls':=λ_ _ _=>none
def dg3:List (Nat×QF):=[(208,UG),(271,U1)]
def TL:FuncId->Option QF:=gM dg3
def VG (f:FuncId):Bool:=[208,271].any λn=>Nat.beq n f
theorem bk9 {E:Calls'}(x:Int)(h:Hp):Sm E TL VG 271 [.d (u32 x)] h=some (bl false,h):=by
 rw [aN (q:=U1) (by kernel_rfl) (by kernel_rfl)];simp [aa,U1]
theorem bj5 {E:Calls'}(x y:Int)(h:Hp):Sm E TL VG 208 [.d (u32 x),.d (u32 y)] h=some (bl (ltInt x y),h):=by
 rw [aN (q:=UG) (by kernel_rfl) (by kernel_rfl)];simp +decide [aa,UG,bk9,au,ltInt]
theorem MC {E:Calls'}(x:Int)(h:Hp):Sm E TT ah 124 [.d (u64 x)] h=some (.d (i64 (bS x)),h):=by
 rw [aN cw2 dn9];simp +decide [aa,Oo,Xx]
noncomputable def Es:Calls':=λf args h=>match Nat.beq f 208 with
 | true=>Sm noE TL VG f args h
 | false=>Sm noE TT ah f args h
noncomputable def Eu:Calls':=λf args h=>match Nat.beq f 123 with
 | true=>Sm Es TS aS f args h
 | false=>Sm noE TT ah f args h
theorem Xw {E:Calls'}(h:Hp):Sm E TS aS 202 [aQ,.d (i64 0),.d (i64 0)] h=some (.tup [],h):=by
 rw [ax ai2 as8];simp +decide [aa,KZ];rw [aj];simp;rw [ak];simp +decide [nG,V.under,V.under.go,aY]
theorem Xr {E:Calls'}(n:Int)(h:Hp):Sm E TS aS 123 [aQ,.d (i64 0),.d (i64 0),.d (i64 n)] h=some (.tup [],h):=by
 rw [ax Vq VK];simp +decide [aa,Hf];rw [aj];simp;rw [ak];simp +decide [nD,Xw,V.under,V.under.go,aY]
theorem Xg {E:Calls'}(k240:∀ args h,E 123 args h=Sm Es TS aS 123 args h)(k241:∀ x h,E 124 [.d (u64 x)] h=some (.d (i64 (bS x)),h))(h:Hp):Sm E TU zW 44 [aQ] h=some (.tup [],h):=by
 have n240:∀ args h,Sm E TU zW 123 args h=Sm Es TS aS 123 args h:=λargs h=>by rw [aL aj7]; exact k240 args h
 have n241:∀ x h,Sm E TU zW 124 [.d (u64 x)] h=some (.d (i64 (bS x)),h):=λx h=>by rw [aL aj8]; exact k241 x h
 have hw:wrap .u64 0=0:=by decide
 rw [ax aj4 rfl];simp +decide [aa,KU,n240,n241,Xr,hw,V.under,V.under.go,aY]
theorem Xh {E:Calls'}(h:Hp):Sm E TU zW 45 [aQ] h=some (aQ,h):=by
 rw [ax aj5 rfl];simp +decide [aa,cmpQ,V.under]
noncomputable def Et:Calls':=λf args h=>match Nat.beq f 294 with
 | true=>Sm E1 TP pW f args h
 | false=>none
noncomputable def EV:Calls':=λf args h=>match Nat.beq f 44||Nat.beq f 45,Nat.beq f 31 with
 | true,_=>Sm Eu TU zW f args h
 | false,true=>Sm EO TO ul f args h
 | false,false=>Sm Et TT ah f args h
theorem EV_H:OfH EV where
 h41 c hc hcb h:=S41 (E:=Et) (λt ht h=>MF t ht h) c hc hcb h
 h45 c hc n h:=S45 (E:=Et) c hc n h
 h52 p x h:=S52 (E:=Et) p x h
 h90 c hc h:=O90 c hc h
 h117 s hs n h:=Xf (E:=Et) hs n h
 h136 bs b lo n cap hb d hd hn:=be5 (E:=Es) (E2:=Eu) (λx y h=>bj5 x y h) (λx h=>MC x h) (λargs h=>rfl) (λx h=>MC x h) hb d hd hn
 h136n h:=Xg (E:=Eu) (λargs h=>rfl) (λx h=>MC x h) h
 h137 zs b lo cap bs hb hn:=Cx (E:=Eu) (T:=TU) (val:=zW) aj5 rfl hb hn
 h137n h:=Xh h
end
section
noncomputable def ET0:Calls':=λf args h=>Sm noE TT ah f args h
def dh2:List (Nat×QF):=[(187,Ot),(265,OM),(331,OT),(169,Ou),(254,OO),(307,OV),(174,Ov),(256,OP),(315,OX),(177,Ul),(257,UM),(323,U4)]
def TZ:FuncId->Option QF:=gM dh2
def o8 (f:FuncId):Bool:=false
theorem ea0:TZ 187=some (Ot):=by kernel_rfl
theorem ea4:TZ 265=some (OM):=by kernel_rfl
theorem ea8:TZ 331=some (OT):=by kernel_rfl
theorem ea1:TZ 169=some (Ou):=by kernel_rfl
theorem ea5:TZ 254=some (OO):=by kernel_rfl
theorem ea9:TZ 307=some (OV):=by kernel_rfl
theorem ea2:TZ 174=some (Ov):=by kernel_rfl
theorem ea6:TZ 256=some (OP):=by kernel_rfl
theorem eb0:TZ 315=some (OX):=by kernel_rfl
theorem ea3:TZ 177=some (Ul):=by kernel_rfl
theorem ea7:TZ 257=some (UM):=by kernel_rfl
theorem eb1:TZ 323=some (U4):=by kernel_rfl
theorem PT:TZ 124=none:=by kernel_rfl
theorem bp9 {E:Calls'}(v:V)(hv:v=.d (.slice true [])\/∃ B cap,v=.row B 0 0 cap 7)(h:Hp):Sm E TZ o8 331 [v,.d (i64 0),.d (i64 0),.fn 188 [.ptr 2 0]] h=some (.tup [],h):=by
 rw [ax ea8 rfl];obtain rfl | ⟨B,cap,rfl⟩:=hv;all_goals
  simp +decide [aa,OT];rw [aj];simp;rw [ak];simp +decide [Fe,V.under,V.under.go,aY]
theorem bp5 {E:Calls'}(v:V)(hv:v=.d (.slice true [])\/∃ B cap,v=.row B 0 0 cap 7)(n:Int)(h:Hp):Sm E TZ o8 265 [v,.d (i64 0),.d (i64 0),.d (i64 n),.fn 188 [.ptr 2 0]] h=some (.tup [],h):=by
 have k:=λh=>bp9 (E:=E) v hv h;rw [ax ea4 rfl];obtain rfl | ⟨B,cap,rfl⟩:=hv;all_goals
  simp +decide [aa,OM];rw [aj];simp;rw [ak];simp +decide [E8,k,V.under,V.under.go,aY]
theorem bp1 {E:Calls'}(k241:∀ x h,E 124 [.d (u64 x)] h=some (.d (i64 (bS x)),h))(v:V)(hv:v=.d (.slice true [])\/∃ B cap,v=.row B 0 0 cap 7)(h:Hp):Sm E TZ o8 187 [v,.fn 188 [.ptr 2 0]] h=some (.tup [],h):=by
 have k:=λn h=>bp5 (E:=E) v hv n h;have n241:∀ x h,Sm E TZ o8 124 [.d (u64 x)] h=some (.d (i64 (bS x)),h):=λx h=>by rw [aL PT]; exact k241 x h
 have hw:wrap .u64 0=0:=by decide
 rw [ax ea0 rfl];obtain rfl | ⟨B,cap,rfl⟩:=hv;all_goals simp +decide [aa,Ot,k,n241,hw,V.under,V.under.go,aY]
theorem bq0 {E:Calls'}(v:V)(hv:v=.d (.slice true [])\/∃ B cap,v=.row B 0 0 cap 5)(h:Hp):Sm E TZ o8 307 [v,.d (i64 0),.d (i64 0),.fn 191 [.ptr 2 0]] h=some (.tup [],h):=by
 rw [ax ea9 rfl];obtain rfl | ⟨B,cap,rfl⟩:=hv;all_goals
  simp +decide [aa,OV];rw [aj];simp;rw [ak];simp +decide [Ff,V.under,V.under.go,aY]
theorem bp6 {E:Calls'}(v:V)(hv:v=.d (.slice true [])\/∃ B cap,v=.row B 0 0 cap 5)(n:Int)(h:Hp):Sm E TZ o8 254 [v,.d (i64 0),.d (i64 0),.d (i64 n),.fn 191 [.ptr 2 0]] h=some (.tup [],h):=by
 have k:=λh=>bq0 (E:=E) v hv h;rw [ax ea5 rfl];obtain rfl | ⟨B,cap,rfl⟩:=hv;all_goals
  simp +decide [aa,OO];rw [aj];simp;rw [ak];simp +decide [E9,k,V.under,V.under.go,aY]
theorem bp2 {E:Calls'}(k241:∀ x h,E 124 [.d (u64 x)] h=some (.d (i64 (bS x)),h))(v:V)(hv:v=.d (.slice true [])\/∃ B cap,v=.row B 0 0 cap 5)(h:Hp):Sm E TZ o8 169 [v,.fn 191 [.ptr 2 0]] h=some (.tup [],h):=by
 have k:=λn h=>bp6 (E:=E) v hv n h;have n241:∀ x h,Sm E TZ o8 124 [.d (u64 x)] h=some (.d (i64 (bS x)),h):=λx h=>by rw [aL PT]; exact k241 x h
 have hw:wrap .u64 0=0:=by decide
 rw [ax ea1 rfl];obtain rfl | ⟨B,cap,rfl⟩:=hv;all_goals simp +decide [aa,Ou,k,n241,hw,V.under,V.under.go,aY]
theorem bq1 {E:Calls'}(v:V)(hv:v=.d (.slice true [])\/∃ B cap,v=.row B 0 0 cap 2)(h:Hp):Sm E TZ o8 315 [v,.d (i64 0),.d (i64 0),.fn 195 [.ptr 2 0]] h=some (.tup [],h):=by
 rw [ax eb0 rfl];obtain rfl | ⟨B,cap,rfl⟩:=hv;all_goals
  simp +decide [aa,OX];rw [aj];simp;rw [ak];simp +decide [Fg,V.under,V.under.go,aY]
theorem bp7 {E:Calls'}(v:V)(hv:v=.d (.slice true [])\/∃ B cap,v=.row B 0 0 cap 2)(n:Int)(h:Hp):Sm E TZ o8 256 [v,.d (i64 0),.d (i64 0),.d (i64 n),.fn 195 [.ptr 2 0]] h=some (.tup [],h):=by
 have k:=λh=>bq1 (E:=E) v hv h;rw [ax ea6 rfl];obtain rfl | ⟨B,cap,rfl⟩:=hv;all_goals
  simp +decide [aa,OP];rw [aj];simp;rw [ak];simp +decide [Fa,k,V.under,V.under.go,aY]
theorem bp3 {E:Calls'}(k241:∀ x h,E 124 [.d (u64 x)] h=some (.d (i64 (bS x)),h))(v:V)(hv:v=.d (.slice true [])\/∃ B cap,v=.row B 0 0 cap 2)(h:Hp):Sm E TZ o8 174 [v,.fn 195 [.ptr 2 0]] h=some (.tup [],h):=by
 have k:=λn h=>bp7 (E:=E) v hv n h;have n241:∀ x h,Sm E TZ o8 124 [.d (u64 x)] h=some (.d (i64 (bS x)),h):=λx h=>by rw [aL PT]; exact k241 x h
 have hw:wrap .u64 0=0:=by decide
 rw [ax ea2 rfl];obtain rfl | ⟨B,cap,rfl⟩:=hv;all_goals simp +decide [aa,Ov,k,n241,hw,V.under,V.under.go,aY]
theorem bq2 {E:Calls'}(v:V)(hv:v=.d (.slice true [])\/∃ B cap,v=.row B 0 0 cap 5)(h:Hp):Sm E TZ o8 323 [v,.d (i64 0),.d (i64 0),.fn 199 [.ptr 2 0]] h=some (.tup [],h):=by
 rw [ax eb1 rfl];obtain rfl | ⟨B,cap,rfl⟩:=hv;all_goals
  simp +decide [aa,U4];rw [aj];simp;rw [ak];simp +decide [Fh,V.under,V.under.go,aY]
theorem bp8 {E:Calls'}(v:V)(hv:v=.d (.slice true [])\/∃ B cap,v=.row B 0 0 cap 5)(n:Int)(h:Hp):Sm E TZ o8 257 [v,.d (i64 0),.d (i64 0),.d (i64 n),.fn 199 [.ptr 2 0]] h=some (.tup [],h):=by
 have k:=λh=>bq2 (E:=E) v hv h;rw [ax ea7 rfl];obtain rfl | ⟨B,cap,rfl⟩:=hv;all_goals
  simp +decide [aa,UM];rw [aj];simp;rw [ak];simp +decide [Fb,k,V.under,V.under.go,aY]
theorem bp4 {E:Calls'}(k241:∀ x h,E 124 [.d (u64 x)] h=some (.d (i64 (bS x)),h))(v:V)(hv:v=.d (.slice true [])\/∃ B cap,v=.row B 0 0 cap 5)(h:Hp):Sm E TZ o8 177 [v,.fn 199 [.ptr 2 0]] h=some (.tup [],h):=by
 have k:=λn h=>bp8 (E:=E) v hv n h;have n241:∀ x h,Sm E TZ o8 124 [.d (u64 x)] h=some (.d (i64 (bS x)),h):=λx h=>by rw [aL PT]; exact k241 x h
 have hw:wrap .u64 0=0:=by decide
 rw [ax ea3 rfl];obtain rfl | ⟨B,cap,rfl⟩:=hv;all_goals simp +decide [aa,Ul,k,n241,hw,V.under,V.under.go,aY]
noncomputable def ui (s:SF) (id:FuncId) (args:List V) (h:Hp):Option (V×Hp):=match args with
 | [.row _ 0 (_+1) _ _,_]=>fU s args h
 | _=>Sm ET0 TZ o8 id args h
theorem rX {s:SF}{id:FuncId}{h:Hp}{B n z:Nat}{cap:Option Nat}{g:V}(hn:0<n):ui s id [.row B 0 n cap z,g] h=fU s [.row B 0 n cap z,g] h:=by
 cases n with
 | zero=>omega
 | succ n=>rfl
def BV:SF:=⟨7,0,188,110⟩
def BZ:SF:=⟨5,0,191,112⟩
def Ca:SF:=⟨2,0,195,114⟩
def BX:SF:=⟨5,0,199,117⟩
noncomputable def EIC:Calls':=λf args h=>match Nat.beq f 115||Nat.beq f 34 with
 | true=>Sm ET0 TB og f args h
 | false=>match Nat.beq f 187,Nat.beq f 169,Nat.beq f 174,Nat.beq f 177 with
  | true,_,_,_=>ui BV f args h
  | _,true,_,_=>ui BZ f args h
  | _,_,true,_=>ui Ca f args h
  | _,_,_,true=>ui BX f args h
  | _,_,_,_=>Sm Et TT ah f args h
theorem uM (x:Int)(h:Hp):ET0 124 [.d (u64 x)] h=some (.d (i64 (bS x)),h):=MC (E:=noE) x h
theorem Eb (p:Pol)(hp:p.ok)(h:Hp):ET0 88 [ag p.c] h=some (ag p.own.c,h):=Q3 (E:=noE) p hp h
theorem EIC_put:PutH EIC where
 h117 s hs n h:=Xf (E:=Et) hs n h
 h263 p hp h:=Q5 (E:=Et) (λt ht h=>MF t ht h) p hp h
 h155 s hs hf h:=Wi (E:=ET0) Eb hs hf h
 h271 hn:=rX hn
 h276 hn:=rX hn
 h280 hn:=rX hn
 h284 hn:=rX hn
 n271 v hv h:=by
  have:=bp1 (E:=ET0) uM v hv h;obtain rfl | ⟨B,cap,rfl⟩:=hv<;>exact this
 n276 v hv h:=by
  have:=bp2 (E:=ET0) uM v hv h;obtain rfl | ⟨B,cap,rfl⟩:=hv<;>exact this
 n280 v hv h:=by
  have:=bp3 (E:=ET0) uM v hv h;obtain rfl | ⟨B,cap,rfl⟩:=hv<;>exact this
 n284 v hv h:=by
  have:=bp4 (E:=ET0) uM v hv h;obtain rfl | ⟨B,cap,rfl⟩:=hv<;>exact this
noncomputable def EQ7:Calls':=λf args h=>Sm EIC TI aJ f args h
theorem P6:DiffH EQ7 where
 h62 v hv hw h:=I75 (E:=EIC) EIC_put.h117 EIC_put.h263 v hv hw h
 h189 s hs hf h:=(aL (T:=TI) (val:=aJ) Yd).trans (EIC_put.h155 s hs hf h)
 h188 p q hp hq h:=WA (E:=EIC) p q hp h
 h178 p h:=Ms (E:=EIC) p h
 h181 p h:=Mt (E:=EIC) p h
 h184 p h:=Mv (E:=EIC) p h
 h187 p h:=Mw (E:=EIC) p h
end
section
def aj0:List (Nat×QF):=[(139,q34)]
def TV8:FuncId->Option QF:=gM aj0
def FQ (f:FuncId):Bool:=Nat.beq 139 f
theorem V34 {E:Calls'}(hE:DoesE E)(c:Cfg)(hc:c.ok)(h:Hp):Sm E TV8 FQ 139 [c.v] h=some (ag c.cp.c,h):=by
 obtain ⟨bs',lo',v4,v5,v6,v7,L0,L1,L2,L3,a,r1,r2,r3,r4,r5,r6,r7,r8,r9,r10,r11,r12,r13,r14,u4⟩:=B34 (T:=TV8) (val:=FQ) (by kernel_rfl) hE c hc [];have hcv:[c.v].mapM (frz h)=some [c.v]:=by simp [Cfg.v]
 rw [aN (q:=q34) (by kernel_rfl) (by kernel_rfl),hcv,w9];have a':Bd E TV8 FQ q34 [c.v] ⟨[],0⟩=some (.agg (cq c v4 v5 v6 v7),⟨bs',lo'⟩):=a;rw [a',LW,AP,Gf (r7.datN r11 lo' 7) (r8.datN r12 lo' 7) (r9.datN r13 lo' 7) (r10.datE (λh0=>r14 (by simpa using h0)) lo' 7),← Cfg.cp_c];simp [Cfg.v]
noncomputable def ETT:Calls':=λf args h=>Sm Et TT ah f args h
theorem QV (t:Target)(ht:t.wf big)(h:Hp):Et 294 [ag t.c] h=some (bl (aZ t),h):=MF t ht h
noncomputable def EX8:Calls':=λf args h=>Sm ETT TX kW f args h
noncomputable def ED8:Calls':=λf args h=>match Nat.beq f 139 with
 | true=>Sm EX8 TV8 FQ f args h
 | false=>EX8 f args h
theorem PZ:DocE ED8 where
 e139 c hc h:=V34 (E:=EX8) ⟨λp hp h=>S35 (E:=ETT) p hp h⟩ c hc h
 e138 a b ha h:=S38 (E:=ETT) (λx y hx h=>S29 x y hx h) a b ha h
noncomputable def EF:Calls':=λf args h=>match Nat.beq f 15||Nat.beq f 27,Nat.beq f 135 with
 | true,_=>Sm EV TV aX f args h
 | false,true=>Sm EQ7 TD bO f args h
 | false,false=>EQ7 f args h
theorem FX:FeedH EF where
 h51n c w1 w2 s hs hno h:=bo1 EV_H w1 w2 hs hno h
 h51 c w1 w2 ok oo s hs m1 m2 hsz:=V64 EV_H w1 w2 ok oo hs m1 m2 hsz
 h54 s hs h:=V67 (E:=EV) EV_H.h117 hs h
 h58n a b oa wa ob wb hn h:=ba4 P6 a b oa wa ob wb hn h
 h58 a b oa wa ob wb m1 m2 h:=D58 P6 a b oa wa ob wb m1 m2 h
 h60 a b oa h:=I82 (E:=EIC) a b oa h
 h62 v hv hw h:=I75 (E:=EIC) EIC_put.h117 EIC_put.h263 v hv hw h
 h66 v hv h:=(aL (E:=EIC) (T:=TI) (val:=aJ) (f:=34) bv0).trans (az5 (E:=ET0) Eb v hv h)
 h133 s t hs h:=I81 (E:=EIC) s t hs h
noncomputable def EA8:Calls':=λf args h=>match Nat.beq f 294,Nat.beq f 31,[165,93,100,105].any (Nat.beq f) with
 | true,_,_=>Sm E1 TP pW f args h
 | false,true,_=>Sm EO TO ul f args h
 | false,false,true=>Sm EW TW sj f args h
 | false,false,false=>none
theorem Wn:El EA8:=λf hf args h=>by obtain rfl | rfl | rfl | rfl:=hf<;>rfl
noncomputable def E14:Calls':=λf args h=>match Nat.beq f 7,Nat.beq f 11,Nat.beq f 13,[18,19].any (Nat.beq f),[17,33].any (Nat.beq f),[5,6,10].any (Nat.beq f) with
 | true,_,_,_,_,_=>known 7 true f args h
 | _,true,_,_,_,_=>Sm EA8 TT ah f args h
 | _,_,true,_,_,_=>Sm EQ7 TN8 yA f args h
 | _,_,_,true,_,_=>Sm ED8 TD8 jK f args h
 | _,_,_,_,true,_=>EQ7 f args h
 | _,_,_,_,_,true=>ETT f args h
 | _,_,_,_,_,_=>Sm EF TF cB f args h
theorem Wm:EndsH E14 where
 h4 h:=F79 (E:=EF) h
 h5 c hc:=S31 (E:=Et) c hc
 h6 c hc h:=S41 (E:=Et) QV c hc.w1 hc.w2 h
 h7 h:=by show known 7 true 7 [] h=_; simp [known]
 h8 s hs h:=F74 FX s hs h
 h9 f hf c hc now s hs:=F73 FX f hf c hc now s hs
 h10 e he:=S32 (E:=Et) e he
 h11 c hc e he heb h:=S36 Wn (λt ht h=>MF t ht h) (λargs h=>rfl) c hc.w1 hc.w2 e he heb h
 h12 f hf ho c hc now:=F86 FX f hf c hc now ho
 h13 bs nb n hb p x base h1 h2 h3 k33:=S98 (E:=EQ7) hb h1 h2 h3 k33
 h14 f hf c hc now a:=F76 FX f hf c hc now a
 h15 c hc s hs:=H51 FX c hc s hs
 h16 f hf now:=F77 FX f hf now
 h17 a b oa h:=I82 (E:=EIC) a b oa h
 h19 f hf:=⟨f.own18,λh=>S78 PZ f hf h,λh=>S81 PZ f hf h⟩
 h33 a' a b oa' wa' oa ob wb ma mb hn:=by
  obtain ⟨od,wd⟩:=Jt oa ob wb;have ma':bf a'=true:=by rw [← jL a',hn,jL,ma]
  obtain ⟨n1,n2,n3,n4,k⟩:=I80 (E:=EIC) EIC_put a' oa' wa' (bP a b) od wd ma' (Ju ma mb);obtain ⟨k1,k2,k3⟩:=k _ rfl;have hx:=G5 ma mb hn (n1:=n1) (n2:=n2) (n3:=n3) (n4:=n4) (d:=bP a b) rfl;have mx:=jL b;rw [← hx,jL,mb] at mx;refine ⟨_,k1,k2,hx,λh=>?_⟩;show Sm EIC TI aJ 33 [a'.v,(bP a b).v] h=_;rw [k3,mx]; rfl
end
section
open Go.Sort Go.Shelf Go.RowKit
structure Rec (k p:Nat) where
 vs:List Value
 len:vs.length=k
 one:∀ v∈vs,v.oneCell'=true
 key:Int
 hk:vs[p]?=some (.int .u64 key)
abbrev Rec.inh {k p:Nat} (h:p<k):Inhabited (Rec k p):=⟨⟨List.replicate k (.int .u64 0),by simp,λv hv=>by rw [(List.mem_replicate.1 hv).2]; rfl,0,by simp [h]⟩⟩
def cfK {k p:Nat}(x y:Rec k p):Int:=if x.key<y.key then -1 else if y.key<x.key then 1 else 0
theorem EU {k p:Nat}(x y:Rec k p):ltOf cfK x y=decide (x.key<y.key):=by
 unfold ltOf cfK;by_cases h1:x.key<y.key
 . simp [h1]
 . by_cases h2:y.key<x.key<;>simp [h1,h2]
theorem Vu {k p:Nat}:SWO (ltOf (cfK (k:=k) (p:=p))) where
 irrefl x:=by rw [EU]; simp
 trans x y z h1 h2:=by rw [EU] at *; simp at *; omega
 ntrans x y z h1 h2:=by rw [EU] at *; simp at *; omega
theorem q9 {α:Type}{f:α->Int}:∀ {l:List α},(l.map f).Nodup->∀ a∈l,∀ b∈l,f a=f b->a=b
 | x::l,h,a,ha,b,hb,e=>by
  simp only [co,List.nodup_cons,cb,not_exists,not_and] at h;obtain e1 | ha':=List.mem_cons.1 ha<;>obtain e2 | hb':=List.mem_cons.1 hb
  . rw [e1,e2]
  . exact absurd (by rw [← e1,e]) (h.1 b hb')
  . exact absurd (by rw [← e2,e]) (h.1 a ha')
  . exact q9 h.2 a ha' b hb' e
theorem uC {z:Nat}:∀ {l:List (List V)} {j:Nat},(∀ r∈l,r.length=z)->j<l.length * z->∃ r,l[j / z]?=some r/\l.flatten[j]?=r[j % z]?
 | [],j,_,h=>by simp at h
 | r::l,j,hl,h=>by
  have hr:=hl r (by simp);have hz:0<z:=by
   obtain hz | hz:=Nat.eq_zero_or_pos z
   . rw [hz] at h; simp at h
   . exact hz
  obtain hj | hj:=cn j z
  . refine ⟨r,by rw [Nat.div_eq_of_lt hj]; rfl,?_⟩;rw [List.flatten_cons,al (by omega),Nat.mod_eq_of_lt hj]
  . obtain ⟨k,rfl⟩:=Nat.exists_eq_add_of_le hj;rw [ch,Nat.add_mul,Nat.one_mul] at h;obtain ⟨r',e1,e2⟩:=uC (l:=l) (j:=k) (λx hx=>hl x (List.mem_cons_of_mem _ hx)) (by omega);refine ⟨r',by rw [Nat.add_div_left _ hz]; simpa using e1,?_⟩;rw [List.flatten_cons,bk (by omega),hr,Nat.add_sub_cancel_left,e2,Nat.add_mod_left]
theorem DI {α:Type}{f:α->Int}{l1 l2 l:List α}(hnd:(l.map f).Nodup)(p1:l1.Perm l)(p2:l2.Perm l)(s1:l1.Pairwise λa b=>f a<=f b)(s2:l2.Pairwise λa b=>f a<=f b):l1=l2:=by
 refine (p1.trans p2.symm).eq_of_pairwise ?_ s1 s2;intro a b ha hb h1 h2;exact q9 hnd a (p1.mem_iff.1 ha) b (p2.mem_iff.1 hb) (by omega)
variable {P:Program}{ρr:Ren}
theorem ES {B:Nat}{ρ:Rh}{h:Hp}{w:World}(hR:Rel B ρ h w){b:Nat}{cs:List V}(hg:h.get b=some cs)(hne:cs≠[]):∃ hb:b<h.bs.length,h.bs[b].live=true:=by
 obtain ⟨hb,e⟩:=oK hg;refine ⟨hb,?_⟩;rw [e];cases cs with
 | nil=>exact absurd rfl hne
 | cons _ _=>rfl
def jR (P:Program)(s:SF):Prop:=∀ (W:World) (c:Nat) (x y:Rec s.z s.p),W.cell? ⟨c,0,none⟩=some (.func (.func s.id) #[] #[]) →
 Calls P s.g #[.agg x.vs.toArray,.agg y.vs.toArray,.pointer (some ⟨c,0,none⟩)] W λe w'=>e=.returned (.int .i64 (cfK x y))/\∃ q os,w'=grow (W.drewN q) os
theorem iL (s:SF)(L:SlLaysF0.n6 P ρr)(aE:∀ w,(isAgg (ρr.t 24)).run P w=.ok true w)(zE:∀ w,(Go.sizeOf (ρr.t 24)).run P w=.ok s.z w)(eg:∀ args w,(callFunc s.g args).run P w=.ok (.enter s.g args) w)(hp:s.p<s.z)(hcmp:jR P s)
 {B:Nat} {ρ:Rh} {h:Hp} {w:World} {args:List V} {vs:Array Value} {r:V} {h':Hp} (hR:Rel B ρ h w) (hv:VRs ρ (St ρ w) w args vs.toList) (hm:fU s args h=some (r,h')) :
 Calls P (ρr.f 6) vs w (kZ B ρ h w r h'):=by
 unfold fU at hm;split at hm
 . rename_i b n cap z g c;split at hm
   . rename_i cs id hgb hgc;split at hm
     . rename_i hall;obtain ⟨rfl,rfl,rfl,hbc,hn0,hn,hlen,hkeys,hnd⟩:=hall;cases hm;simp only [VRs] at hv;obtain ⟨u1,us1,e1,hu1,u2,us2,e2,hu2,e3⟩:=hv;subst e3; subst e2;have hvs:vs=#[u1,u2]:=Array.toList_inj.1 (by simpa using e1);subst hvs;simp only [VR,VRs] at hu1 hu2;obtain ⟨hbN,cc,rfl,hc1,hc2,_⟩:=hu1;obtain ⟨vs2,rfl,u3,us3,e4,⟨hcN,rfl⟩,rfl⟩:=hu2;have hvs2:vs2=#[.pointer (some ⟨ρ c,0,none⟩)]:=Array.toList_inj.1 (by simpa using e4);subst hvs2;have hz0:0<s.z:=by omega
       have hnz:0<n * s.z:=Nat.mul_pos hn0 hz0;have hne:cs≠[]:=by rintro rfl; simp at hlen; omega
       obtain ⟨arr,el,fz,k1,k2,k3,k4⟩:=gV hR hgb hne;obtain ⟨arr2,el2,fz2,m1,m2,m3,m4⟩:=gV hR hgc (by simp);obtain ⟨hbl,hlive⟩:=ES hR hgb hne;obtain ⟨hcl,hclive⟩:=ES hR hgc (by simp);have hcell:w.cell? ⟨ρ c,0,none⟩=some (.func (.func s.id) #[] #[]):=by
        have h1:0<arr2.size:=ce Nat.zero_lt_one (by simpa using m2);have h2:=(m4 0 (by simp) h1).1;simp only [List.getElem_cons_zero,VR,VRs] at h2;obtain ⟨vs3,e5,e6⟩:=h2;have e7:vs3=#[]:=Array.toList_inj.1 (by simpa using e6);subst e7;simp [World.cell?,m1,h1,e5]
       have hinj:ρ c≠ρ b:=hR.inj c b (Ne.symm hbc) (hR.live c hcl hclive) (hR.live b hbl hlive);have hlt:=(hR.lo b hbN).2;have hltc:=(hR.lo c hcN).2;have hbnd:∀ i,i<n->i * s.z+s.z<=n * s.z:=λi hi=>by
        have:=Nat.mul_le_mul_right s.z (show i+1<=n from hi)
        rwa [Nat.add_mul,Nat.one_mul] at this
       have hch:∀ i t,i<n->t<s.z->((cs.drop (i * s.z)).take s.z)[t]?=cs[i * s.z+t]?:=λi t hi ht=>by
        rw [List.getElem?_take_of_lt ht,List.getElem?_drop]
       have har:∀ i t,i<n->t<s.z->∃ v u,cs[i * s.z+t]?=some v/\arr[i * s.z+t]?=some u/\VR ρ (St ρ w) w v u/\u.oneCell'=true:=λi t hi ht=>by
        have:=hbnd i hi;have h1:i * s.z+t<cs.length:=by omega
        have h2:i * s.z+t<arr.size:=by omega
        exact ⟨cs[i * s.z+t],arr[i * s.z+t],by simp [h1],by simp [h2],k4 _ h1 h2⟩
       have hkey:∀ i,i<n->∃ m,oL s.p ((cs.drop (i * s.z)).take s.z)=m/\arr[i * s.z+s.p]?=some (.int .u64 m):=λi hi=>by
        have h1:=hkeys ((cs.drop (i * s.z)).take s.z) (by simp only [chunk,cb,List.mem_range]; exact ⟨i,hi,rfl⟩);obtain ⟨m,hm⟩:=Option.isSome_iff_exists.1 h1;have h2:=Gu hm;rw [hch i s.p hi hp] at h2;obtain ⟨v,u,a1,a2,a3,_⟩:=har i s.p hi hp;rw [h2] at a1;cases a1;simp only [VR,DR] at a3;subst a3;exact ⟨m,by simp [oL,hm],a2⟩
       let cell:Nat->Value:=λj=>(arr[j]?).getD (.bool false)
       have hcl':∀ i t,i<n->t<s.z->arr[i * s.z+t]?=some (cell (i * s.z+t)):=λi t hi ht=>by
        obtain ⟨v,u,a1,a2,a3,a4⟩:=har i t hi ht;simp only [cell,a2,Option.getD_some]
       let rc:Fin n->Rec s.z s.p:=λi=>⟨(List.range s.z).map λt=>cell (i.1 * s.z+t),by simp,λv hv=>by
        simp only [cb,List.mem_range] at hv;obtain ⟨t,ht,rfl⟩:=hv;obtain ⟨v,u,a1,a2,a3,a4⟩:=har i.1 t i.2 ht;simp only [cell,a2,Option.getD_some]; exact a4,
        oL s.p ((cs.drop (i.1 * s.z)).take s.z),by
         obtain ⟨m,q1,q2⟩:=hkey i.1 i.2;simp only [List.getElem?_map,List.getElem?_range hp,Option.map_some,cell,q2,Option.getD_some,q1]⟩
       letI:Inhabited (Rec s.z s.p):=Rec.inh hp
       let prs:List (Rec s.z s.p×List V):=(List.finRange n).map λi=>(rc i,(cs.drop (i.1 * s.z)).take s.z)
       have hsnd:prs.map (·.2)=chunk s.z n cs:=by
        refine List.ext_getElem (by simp [prs,chunk]) λi h1 h2=>?_;simp [prs,chunk]
       let d:Array (Rec s.z s.p):=(prs.map (·.1)).toArray
       have hds:d.size=n:=by simp [d,prs]
       have hdi:∀ i (hi:i<n),d[i]! = rc ⟨i,hi⟩:=λi hi=>by
        rw [getElem!_pos d i (by omega)];simp [d,prs]
       have hprk:∀ x∈prs,x.1.key=oL s.p x.2:=λx hx=>by
        simp only [prs,cb] at hx;obtain ⟨i,_,rfl⟩:=hx;rfl
       have hkd:(prs.map (·.1)).map (·.key)=(chunk s.z n cs).map (oL s.p):=by
        rw [← hsnd];have e1:(prs.map (·.1)).map (·.key)=prs.map λx=>x.1.key:=List.map_map;have e2:(prs.map (·.2)).map (oL s.p)=prs.map λx=>oL s.p x.2:=List.map_map;rw [e1,e2];exact List.map_congr_left hprk
       let enc:Rec s.z s.p->List Value:=λx=>x.vs
       have hH:HoldsK enc s.z w (ρ b) 0 d:=by
        intro j hj;rw [size_flatK,hds] at hj;have hi:j / s.z<n:=by rw [Nat.div_lt_iff_lt_mul hz0]; exact hj
        have ht:j % s.z<s.z:=Nat.mod_lt _ hz0;have hjj:j / s.z * s.z+j % s.z=j:=by rw [Nat.mul_comm]; exact Nat.div_add_mod j s.z
        have hj2:j<arr.size:=by omega
        refine ⟨?_,by simpa using k3 j hj2⟩;rw [get_flatK _ _ _ _ (by rw [hds]; exact hj),hdi _ hi];have h1:=hcl' _ _ hi ht;rw [hjj] at h1;have h2:(enc (rc ⟨j / s.z,hi⟩))[j % s.z]! = cell j:=by
         simp only [enc,rc];rw [getElem!_pos _ _ (by simpa using ht)];simp [hjj]
        rw [h2];simp only [World.cell?,k1,Nat.zero_add,id_eq];simpa using h1
       have hcm:CmpLays P s.g #[.pointer (some ⟨ρ c,0,none⟩)] enc s.z cfK (ρ b) 0 d.size w:=by
        intro m os dk hdk x y;refine hcmp _ (ρ c) x y ?_;have hh:(sortWorldK enc s.z w (ρ b) 0 m dk os).heap[ρ c]?=w.heap[ρ c]?:=by
         show ((w.heap.modify (ρ b) _)++os)[ρ c]?=_;rw [Array.getElem?_append_left (by simpa using hltc),Array.getElem?_modify,if_neg (Ne.symm hinj)]
        rw [← hcell];simp only [World.cell?,hh]
       have hct:=AnyQ.slices_SortFunc L s.z aE zE enc (λx=>x.len) (λx=>x.one) cfK Vu s.g #[.pointer (some ⟨ρ c,0,none⟩)] (ρ b) 0 cc d w eg hcm hH hlt (by rw [hds]; omega);rw [hds] at hct;refine hct.mono ?_;rintro e w' ⟨rfl,d',nn,os,hP,hS,rfl⟩;have hd's:d'.size=n:=by rw [hP.1,hds]
       have hperm:d'.toList.Perm (prs.map (·.1)):=by
        have:=hP.2.2;have x1:d'.extract 0 n=d':=by rw [← hd's]; exact Array.extract_size
        have x2:d.extract 0 n=d:=by rw [← hds]; exact Array.extract_size
        rw [x1,x2] at this;exact this
       have hsrt:d'.toList.Pairwise λa b=>a.key<=b.key:=by
        rw [List.pairwise_iff_getElem];intro i j hi hj hij;have hi':i<d'.size:=by simpa using hi
        have hj':j<d'.size:=by simpa using hj
        have:=hS i j (Nat.zero_le _) hij (by omega);rw [EU,getElem!_pos d' i hi',getElem!_pos d' j hj'] at this;simp only [decide_eq_false_iff_not] at this;simp only [Array.getElem_toList];omega
       let prs':=prs.mergeSort λx y=>decide (oL s.p x.2<=oL s.p y.2)
       have hp1:prs'.map (·.2)=gZ s.p (chunk s.z n cs):=by
        rw [gZ,← hsnd];exact List.map_mergeSort λ_ _ _ _=>rfl
       have hpp:prs'.Perm prs:=List.mergeSort_perm _ _;have hp2:d'.toList=prs'.map (·.1):=by
        refine DI (f:=(·.key)) (l:=prs.map (·.1)) (by rw [hkd]; exact hnd) hperm (hpp.map _) hsrt ?_;rw [List.pairwise_map];have hs:=List.pairwise_mergeSort (le:=λ(x y:Rec s.z s.p×List V)=>decide (oL s.p x.2<=oL s.p y.2)) (by intro a b c h1 h2; simp at *; omega) (by intro a b; simp; omega) prs;refine List.Pairwise.imp_of_mem ?_ hs;intro a b ha hb hab;rw [hprk a (hpp.mem_iff.1 ha),hprk b (hpp.mem_iff.1 hb)];simpa using hab
       have hplen:prs'.length=n:=by simp [prs',prs]
       have hat':∀ i (hi:i<n),∃ i0,∃ hi0:i0<n,d'[i]! = rc ⟨i0,hi0⟩/\(gZ s.p (chunk s.z n cs))[i]?=some ((cs.drop (i0 * s.z)).take s.z):=λi hi=>by
        have hmem:prs'[i]'(by omega)∈prs:=hpp.mem_iff.1 (bh _);obtain ⟨i0,_,he⟩:=cb.1 hmem;refine ⟨i0.1,i0.2,?_,?_⟩
        . have h1:d'.toList[i]?=some (rc i0):=by
           rw [hp2,List.getElem?_map,ab (by omega),← he]; rfl
          rw [getElem!_pos d' i (by omega)];rw [ab (by simpa using (show i<d'.size by omega))] at h1;simpa using h1
        . rw [← hp1,List.getElem?_map,ab (by omega),← he]; rfl
       let w1:=putRowK enc s.z (Sort.ahead w nn) (ρ b) 0 d'
       have hheap:w1.heap=w.heap.modify (ρ b) (onCells (putCells id 0 (flatK enc s.z d'))):=rfl;have hsz:w1.heap.size=w.heap.size:=by rw [hheap]; simp
       have hoth:∀ k,k≠ρ b->w1.heap[k]?=w.heap[k]?:=λk hk=>by
        rw [hheap,Array.getElem?_modify,if_neg (Ne.symm hk)]
       have hat:w1.heap[ρ b]?=some (.cells (putCells id 0 (flatK enc s.z d') arr) el fz):=by
        rw [hheap,Array.getElem?_modify,if_pos rfl,k1]; rfl
       have hps:(putCells id 0 (flatK enc s.z d') arr).size=arr.size:=by simp [putCells]
       have hown:∀ arr' e' fz',w.heap[ρ b]?=some (.cells arr' e' fz')->∃ arr'' fz'',w1.heap[ρ b]?=some (.cells arr'' e' fz'')/\arr''.size=arr'.size:=by
        intro arr' e' fz' hh;rw [k1] at hh;cases hh;exact ⟨_,_,hat,hps⟩
       have q2:=kU hR (hR.live b hbl hlive) hsz hoth hown rfl rfl rfl;have hrl:∀ r∈gZ s.p (chunk s.z n cs),r.length=s.z:=by
        intro r hr;have:=(List.mergeSort_perm _ _).mem_iff.1 hr;simp only [chunk,cb,List.mem_range] at this;obtain ⟨i,hi,rfl⟩:=this;have:=hbnd i hi;rw [List.length_take,List.length_drop]; omega
       have hsl:(gZ s.p (chunk s.z n cs)).length=n:=by simp [gZ,chunk]
       have hfl:((gZ s.p (chunk s.z n cs)).flatten).length=n * s.z:=by
        rw [List.length_flatten];have:(gZ s.p (chunk s.z n cs)).map List.length=List.replicate n s.z:=by
         rw [List.eq_replicate_iff];refine ⟨by simp [hsl],λx hx=>?_⟩;obtain ⟨r,hr,rfl⟩:=cb.1 hx;exact hrl r hr
        rw [this]; simp
       have hnew:((gZ s.p (chunk s.z n cs)).flatten++cs.drop (n * s.z)).length=cs.length:=by
        rw [am,hfl,List.length_drop]; omega
       have hbr:BR ρ w1 (ρ b) (.cells ((gZ s.p (chunk s.z n cs)).flatten++cs.drop (n * s.z))):=by
        have hne2:(gZ s.p (chunk s.z n cs)).flatten++cs.drop (n * s.z)≠[]:=λhh=>by
         rw [hh] at hnew; simp at hnew; exact hne (List.eq_nil_of_length_eq_zero hnew.symm)
        have core:∃ arr' e' fz',w1.heap[ρ b]?=some (.cells arr' e' fz')/\((gZ s.p (chunk s.z n cs)).flatten++cs.drop (n * s.z)).length<=arr'.size/\(∀ j,j<arr'.size->w1.frozen? ⟨ρ b,j,none⟩=false) ∧
         ∀ (j:Nat) (h1:j<((gZ s.p (chunk s.z n cs)).flatten++cs.drop (n * s.z)).length) (h2:j<arr'.size),VR ρ (St ρ w1) w1 ((gZ s.p (chunk s.z n cs)).flatten++cs.drop (n * s.z))[j] arr'[j]/\arr'[j].oneCell'=true:=by
         refine ⟨_,_,_,hat,by rw [hps,hnew]; exact k2,λj hj=>?_,λj h1 h2=>?_⟩
         . have:=k3 j (by rw [← hps]; exact hj);rw [← this];exact frozen?_mapBlock (Sort.ahead w nn) (ρ b) _ _
         . have hja:j<arr.size:=by rw [← hps]; exact h2
           have hjc:j<cs.length:=by rw [← hnew]; exact h1
           obtain hj | hj:=cn j (n * s.z)
           . have hi:j / s.z<n:=by rw [Nat.div_lt_iff_lt_mul hz0]; exact hj
             have ht:j % s.z<s.z:=Nat.mod_lt _ hz0;obtain ⟨i0,hi0,a1,a2⟩:=hat' _ hi;obtain ⟨r,b1,b2⟩:=uC (j:=j) hrl (by rw [hsl]; exact hj);rw [a2] at b1;cases b1;rw [hch i0 _ hi0 ht] at b2;obtain ⟨v,u,c1,c2,c3,c4⟩:=har i0 _ hi0 ht;have hV:((gZ s.p (chunk s.z n cs)).flatten++cs.drop (n * s.z))[j]=v:=by
              rw [List.getElem_append_left (by rw [hfl]; exact hj)];have:=b2.trans c1;rw [ab (by rw [hfl]; exact hj)] at this;simpa using this
             have hU:(putCells id 0 (flatK enc s.z d') arr)[j]=u:=by
              simp only [putCells,Array.getElem_mapIdx];rw [if_pos ⟨Nat.zero_le _,by rw [size_flatK,hd's]; omega⟩,Nat.sub_zero,get_flatK _ _ _ _ (by rw [hd's]; exact hj),a1];simp only [enc,rc,id_eq];rw [getElem!_pos _ _ (by simpa using ht)];simp [cell,c2]
             rw [hV,hU];exact ⟨c3.ext q2.ext,c4⟩
           . have hV:((gZ s.p (chunk s.z n cs)).flatten++cs.drop (n * s.z))[j]=cs[j]:=by
              rw [List.getElem_append_right (by rw [hfl]; exact hj)];simp only [List.getElem_drop,hfl]
              congr 1
              omega
             have hU:(putCells id 0 (flatK enc s.z d') arr)[j]=arr[j]:=by
              simp only [putCells,Array.getElem_mapIdx];rw [if_neg (by rw [size_flatK,hd's]; omega)]
             rw [hV,hU];exact ⟨(k4 j hjc hja).1.ext q2.ext,(k4 j hjc hja).2⟩
        revert core hne2
        cases (gZ s.p (chunk s.z n cs)).flatten++cs.drop (n * s.z) with
        | nil=>intro hne2 _; exact absurd rfl hne2
        | cons x xs=>intro _ core; simpa only [BR] using core
       have q1:=rV hR hbl hlive hsz hoth hown rfl rfl rfl (.cells ((gZ s.p (chunk s.z n cs)).flatten++cs.drop (n * s.z))) hbr (min h.low b);have hbel:Below w1.heap.size w1 (grow w1 os):=⟨rfl,rfl,rfl,by simp [grow],λk hk=>by simp [grow,Array.getElem?_append_left hk]⟩;obtain ⟨q3,q4⟩:=sM q1 hbel;exact ⟨_,ρ,rfl,q3,q2.trans q4,by simp only [VRx,VR,VRs]; exact ⟨_,rfl,rfl⟩⟩
     . cases hm
   . cases hm
 . cases hm
end
