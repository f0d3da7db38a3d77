/- What config.May calls: policy.target from an instance of its own. -/
import Derived.Test.YtllbjfmiilckiaaGreatKa
import Derived.Test.YtllbjfmiilckiaaGreatEv
import Derived.Shelf.SlSortCmp.WholeK
set_option linter.unusedSimpArgs false
set_option maxRecDepth 100000
set_option linter.unusedVariables false
namespace Go.Proofs.YtllbjfmiilckiaaGreat
open IntKind (wrap)
section
def noE:Calls':=λ_ _ _=>none
noncomputable def Et:Calls':=λf args h=>match Nat.beq f 259 with
 | true=>Sm E1 TP ol f args h
 | false=>none
end
section
theorem Zl {E:Calls'}(x:Int)(h:Hp):Sm E TT aD 173 [.d (u64 x)] h=some (.d (i64 (lD x)),h):=by
 rw [aY ay5 bi8];simp +decide [ae,JJ,Zx]
noncomputable def ET0:Calls':=λf args h=>Sm noE TT aD f args h
def WW:List (Nat×QF):=[(147,JO),(207,J8),(273,Kb),(152,JP),(209,J9),(281,Ke),(156,JQ),(210,Ka),(289,Kh),(160,Oo),(211,OD),(297,OM)]
def TZy:FuncId->Option QF:=gI WW
def iZ (f:FuncId):Bool:=false
theorem Xf:TZy 147=some (JO):=by kernel_rfl
theorem Xj:TZy 207=some (J8):=by kernel_rfl
theorem Xn:TZy 273=some (Kb):=by kernel_rfl
theorem Xg:TZy 152=some (JP):=by kernel_rfl
theorem Xk:TZy 209=some (J9):=by kernel_rfl
theorem Xo:TZy 281=some (Ke):=by kernel_rfl
theorem Xh:TZy 156=some (JQ):=by kernel_rfl
theorem Xl:TZy 210=some (Ka):=by kernel_rfl
theorem Xp:TZy 289=some (Kh):=by kernel_rfl
theorem Xi:TZy 160=some (Oo):=by kernel_rfl
theorem Xm:TZy 211=some (OD):=by kernel_rfl
theorem Xq:TZy 297=some (OM):=by kernel_rfl
theorem CZ:TZy 173=none:=by kernel_rfl
theorem aa7 {E:Calls'}(k:Nat)(v:V)(hv:v=.d (.slice true [])\/∃ B cap,v=.row B 0 0 cap 7)(h:Hp):Sm E TZy iZ 273 [v,.d (i64 0),.d (i64 0),.fn 148 [.ptr k 0]] h=some (.tup [],h):=by
 rw [aW Xn rfl];obtain rfl | ⟨B,cap,rfl⟩:=hv;all_goals
  simp +decide [ae,Kb];rw [au];simp;rw [aC];simp +decide [CB,V.under,V.under.go,bD]
theorem aa3 {E:Calls'}(k:Nat)(v:V)(hv:v=.d (.slice true [])\/∃ B cap,v=.row B 0 0 cap 7)(n:Int)(h:Hp):Sm E TZy iZ 207 [v,.d (i64 0),.d (i64 0),.d (i64 n),.fn 148 [.ptr k 0]] h=some (.tup [],h):=by
 have kk:=λh=>aa7 (E:=E) k v hv h;rw [aW Xj rfl];obtain rfl | ⟨B,cap,rfl⟩:=hv;all_goals
  simp +decide [ae,J8];rw [au];simp;rw [aC];simp +decide [Cw,kk,V.under,V.under.go,bD]
theorem Z9 {E:Calls'}(k241:∀ x h,E 173 [.d (u64 x)] h=some (.d (i64 (lD x)),h))(k:Nat)(v:V)(hv:v=.d (.slice true [])\/∃ B cap,v=.row B 0 0 cap 7)(h:Hp):Sm E TZy iZ 147 [v,.fn 148 [.ptr k 0]] h=some (.tup [],h):=by
 have kk:=λn h=>aa3 (E:=E) k v hv n h;have n241:∀ x h,Sm E TZy iZ 173 [.d (u64 x)] h=some (.d (i64 (lD x)),h):=λx h=>by rw [aO CZ]; exact k241 x h
 have hw:wrap .u64 0=0:=by decide
 rw [aW Xf rfl];obtain rfl | ⟨B,cap,rfl⟩:=hv;all_goals simp +decide [ae,JO,kk,n241,hw,V.under,V.under.go,bD]
theorem aa8 {E:Calls'}(k:Nat)(v:V)(hv:v=.d (.slice true [])\/∃ B cap,v=.row B 0 0 cap 5)(h:Hp):Sm E TZy iZ 281 [v,.d (i64 0),.d (i64 0),.fn 153 [.ptr k 0]] h=some (.tup [],h):=by
 rw [aW Xo rfl];obtain rfl | ⟨B,cap,rfl⟩:=hv;all_goals
  simp +decide [ae,Ke];rw [au];simp;rw [aC];simp +decide [CE,V.under,V.under.go,bD]
theorem aa4 {E:Calls'}(k:Nat)(v:V)(hv:v=.d (.slice true [])\/∃ B cap,v=.row B 0 0 cap 5)(n:Int)(h:Hp):Sm E TZy iZ 209 [v,.d (i64 0),.d (i64 0),.d (i64 n),.fn 153 [.ptr k 0]] h=some (.tup [],h):=by
 have kk:=λh=>aa8 (E:=E) k v hv h;rw [aW Xk rfl];obtain rfl | ⟨B,cap,rfl⟩:=hv;all_goals
  simp +decide [ae,J9];rw [au];simp;rw [aC];simp +decide [Cx,kk,V.under,V.under.go,bD]
theorem aa0 {E:Calls'}(k241:∀ x h,E 173 [.d (u64 x)] h=some (.d (i64 (lD x)),h))(k:Nat)(v:V)(hv:v=.d (.slice true [])\/∃ B cap,v=.row B 0 0 cap 5)(h:Hp):Sm E TZy iZ 152 [v,.fn 153 [.ptr k 0]] h=some (.tup [],h):=by
 have kk:=λn h=>aa4 (E:=E) k v hv n h;have n241:∀ x h,Sm E TZy iZ 173 [.d (u64 x)] h=some (.d (i64 (lD x)),h):=λx h=>by rw [aO CZ]; exact k241 x h
 have hw:wrap .u64 0=0:=by decide
 rw [aW Xg rfl];obtain rfl | ⟨B,cap,rfl⟩:=hv;all_goals simp +decide [ae,JP,kk,n241,hw,V.under,V.under.go,bD]
theorem aa9 {E:Calls'}(k:Nat)(v:V)(hv:v=.d (.slice true [])\/∃ B cap,v=.row B 0 0 cap 2)(h:Hp):Sm E TZy iZ 289 [v,.d (i64 0),.d (i64 0),.fn 157 [.ptr k 0]] h=some (.tup [],h):=by
 rw [aW Xp rfl];obtain rfl | ⟨B,cap,rfl⟩:=hv;all_goals
  simp +decide [ae,Kh];rw [au];simp;rw [aC];simp +decide [CF,V.under,V.under.go,bD]
theorem aa5 {E:Calls'}(k:Nat)(v:V)(hv:v=.d (.slice true [])\/∃ B cap,v=.row B 0 0 cap 2)(n:Int)(h:Hp):Sm E TZy iZ 210 [v,.d (i64 0),.d (i64 0),.d (i64 n),.fn 157 [.ptr k 0]] h=some (.tup [],h):=by
 have kk:=λh=>aa9 (E:=E) k v hv h;rw [aW Xl rfl];obtain rfl | ⟨B,cap,rfl⟩:=hv;all_goals
  simp +decide [ae,Ka];rw [au];simp;rw [aC];simp +decide [Cy,kk,V.under,V.under.go,bD]
theorem aa1 {E:Calls'}(k241:∀ x h,E 173 [.d (u64 x)] h=some (.d (i64 (lD x)),h))(k:Nat)(v:V)(hv:v=.d (.slice true [])\/∃ B cap,v=.row B 0 0 cap 2)(h:Hp):Sm E TZy iZ 156 [v,.fn 157 [.ptr k 0]] h=some (.tup [],h):=by
 have kk:=λn h=>aa5 (E:=E) k v hv n h;have n241:∀ x h,Sm E TZy iZ 173 [.d (u64 x)] h=some (.d (i64 (lD x)),h):=λx h=>by rw [aO CZ]; exact k241 x h
 have hw:wrap .u64 0=0:=by decide
 rw [aW Xh rfl];obtain rfl | ⟨B,cap,rfl⟩:=hv;all_goals simp +decide [ae,JQ,kk,n241,hw,V.under,V.under.go,bD]
theorem ab0 {E:Calls'}(k:Nat)(v:V)(hv:v=.d (.slice true [])\/∃ B cap,v=.row B 0 0 cap 5)(h:Hp):Sm E TZy iZ 297 [v,.d (i64 0),.d (i64 0),.fn 161 [.ptr k 0]] h=some (.tup [],h):=by
 rw [aW Xq rfl];obtain rfl | ⟨B,cap,rfl⟩:=hv;all_goals
  simp +decide [ae,OM];rw [au];simp;rw [aC];simp +decide [CG,V.under,V.under.go,bD]
theorem aa6 {E:Calls'}(k:Nat)(v:V)(hv:v=.d (.slice true [])\/∃ B cap,v=.row B 0 0 cap 5)(n:Int)(h:Hp):Sm E TZy iZ 211 [v,.d (i64 0),.d (i64 0),.d (i64 n),.fn 161 [.ptr k 0]] h=some (.tup [],h):=by
 have kk:=λh=>ab0 (E:=E) k v hv h;rw [aW Xm rfl];obtain rfl | ⟨B,cap,rfl⟩:=hv;all_goals
  simp +decide [ae,OD];rw [au];simp;rw [aC];simp +decide [Cz,kk,V.under,V.under.go,bD]
theorem aa2 {E:Calls'}(k241:∀ x h,E 173 [.d (u64 x)] h=some (.d (i64 (lD x)),h))(k:Nat)(v:V)(hv:v=.d (.slice true [])\/∃ B cap,v=.row B 0 0 cap 5)(h:Hp):Sm E TZy iZ 160 [v,.fn 161 [.ptr k 0]] h=some (.tup [],h):=by
 have kk:=λn h=>aa6 (E:=E) k v hv n h;have n241:∀ x h,Sm E TZy iZ 173 [.d (u64 x)] h=some (.d (i64 (lD x)),h):=λx h=>by rw [aO CZ]; exact k241 x h
 have hw:wrap .u64 0=0:=by decide
 rw [aW Xi rfl];obtain rfl | ⟨B,cap,rfl⟩:=hv;all_goals simp +decide [ae,Oo,kk,n241,hw,V.under,V.under.go,bD]
noncomputable def qU (s:SF) (id:FuncId) (args:List V) (h:Hp):Option (V×Hp):=match args with
 | [.row _ 0 (_+1) _ _,_]=>fD s args h
 | _=>Sm ET0 TZy iZ id args h
theorem qa {s:SF}{id:FuncId}{h:Hp}{B n z:Nat}{cap:Option Nat}{g:V}(hn:0<n):qU s id [.row B 0 n cap z,g] h=fD s [.row B 0 n cap z,g] h:=by
 cases n with
 | zero=>omega
 | succ n=>rfl
def zU:SF:=⟨7,0,148,38⟩
def zW:SF:=⟨5,0,153,40⟩
def zX:SF:=⟨2,0,157,42⟩
def zV:SF:=⟨5,0,161,44⟩
noncomputable def ET5:Calls':=Sm Et TT aD
theorem LY (x y:Pol)(hx:x.ok)(h:Hp):ET5 63 [ag x.c,ag y.c] h=some (bl (x.same y),h):=S29 x y hx h
theorem SQ:DoesE (EX1 ET5):=⟨λp hp h=>S35 (E:=ET5) p hp h⟩
theorem rQ (x:Int)(h:Hp):ET0 173 [.d (u64 x)] h=some (.d (i64 (lD x)),h):=Zl (E:=noE) x h
def WN:List (Nat×QF):=[(19,q79)]
def TDo:FuncId->Option QF:=gI WN
def LK (_:FuncId):Bool:=false
theorem ab4:TDo 19=some q79:=by kernel_rfl
theorem ZW {E:Calls'}(e:Int)(w1 w2 w3 w4 w5 g1 g2 g3 g4:V)(bs:List Blk)(lo:Nat)(hu:w1.under bs.length=true/\w2.under bs.length=true/\w3.under bs.length=true/\w4.under bs.length=true/\w5.under bs.length=true)(ho:(okV w1=true/\nu w1=some w1/\w1.cells=some [w1])/\(okV w2=true/\nu w2=some w2/\w2.cells=some [w2])/\(okV w3=true/\nu w3=some w3/\w3.cells=some [w3])/\(okV w4=true/\nu w4=some w4/\w4.cells=some [w4])/\(okV w5=true/\nu w5=some w5/\w5.cells=some [w5])) :
 Sm E TDo LK 19 [.agg (dcV e w1 w2 w3 w4 w5 g1 g2 g3 g4)] ⟨bs,lo⟩=some (.agg (az e w1 w2 w3 w4 w5),⟨bs,lo⟩):=by
 obtain ⟨⟨a1,b1,c1⟩,⟨a2,b2,c2⟩,⟨a3,b3,c3⟩,⟨a4,b4,c4⟩,a5,b5,c5⟩:=ho;obtain ⟨u1,u2,u3,u4,u5⟩:=hu;rw [aW ab4 rfl];simp [ae,q79,dcV,az,aN,a1,b1,c1,a2,b2,c2,a3,b3,c3,a4,b4,c4,a5,b5,c5,aA,aa,aM,aF,Tr.mute,aG,Tr.spares,List.range,List.range.loop,aj,V.under,V.under.go,u1,u2,u3,u4,u5]
noncomputable def ES8:Calls':=λf args h=>match [8,12,38,40,42,44,125].any (Nat.beq f) with
 | true=>Sm ET5 TI aR f args h
 | false=>match Nat.beq f 147,Nat.beq f 152,Nat.beq f 156,Nat.beq f 160 with
  | true,_,_,_=>qU zU f args h
  | _,true,_,_=>qU zW f args h
  | _,_,true,_=>qU zX f args h
  | _,_,_,true=>qU zV f args h
  | _,_,_,_=>ET0 f args h
theorem Nj (v:Vw)(hv:v.ok)(hw:∀ p∈v.policies.l,p.wf big)(h:Hp):Sm ET5 TI aR 8 [v.v] h=some (bl (aT v),h):=I75 (E:=ET5) (λs hs n h=>Q5 (E:=Et) hs n h) (λp hp h=>Ra (E:=Et) (λt ht h=>Rb t ht h) p hp h) v hv hw h
theorem La (d:Dlt)(hd:d.ok)(hw:∀ p∈d.policies.l,p.wf big)(h:Hp):Sm ET5 TI aR 12 [d.v] h=some (bl (dw d),h):=YC (E:=ET5) (λs hs n h=>Q5 (E:=Et) hs n h) (λp hp h=>Ra (E:=Et) (λt ht h=>Rb t ht h) p hp h) d hd hw h
theorem ET:PutR ES8 where
 h75 v hv hw a h ha:=CW i75 j75 (λh=>Nj v hv hw h) ha
 h164 d hd hw h:=La d hd hw h
 h231 r hr h:=Q8 (E:=noE) r hr h
 h269 s hs n h:=EU (E:=ET5) hs n h
 h166 p h:=Io (E:=ET5) p h
 h168 p h:=Ip (E:=ET5) p h
 h170 p h:=Iq (E:=ET5) p h
 h172 p h:=Ir (E:=ET5) p h
 h271 hn:=qa hn
 h276 hn:=qa hn
 h280 hn:=qa hn
 h284 hn:=qa hn
 n271 v k hv h:=by
  have:=Z9 (E:=ET0) rQ k v hv h;obtain rfl | ⟨B,cap,rfl⟩:=hv<;>exact this
 n276 v k hv h:=by
  have:=aa0 (E:=ET0) rQ k v hv h;obtain rfl | ⟨B,cap,rfl⟩:=hv<;>exact this
 n280 v k hv h:=by
  have:=aa1 (E:=ET0) rQ k v hv h;obtain rfl | ⟨B,cap,rfl⟩:=hv<;>exact this
 n284 v k hv h:=by
  have:=aa2 (E:=ET0) rQ k v hv h;obtain rfl | ⟨B,cap,rfl⟩:=hv<;>exact this
theorem UI {v:Vw}(hv:WV v){d:Dlt}(hd:WD d)(bs:List Blk):∃ bs' w1 w2 w3 w4 w5 k e,∃ F:Nat->Nat,(∀ lo,Sm ES8 TSw eB 20 [v.v,d.v] ⟨bs,lo⟩=some (.tup [.agg (az e w1 w2 w3 w4 w5),.d (i64 k)],⟨bs',F lo⟩))/\(∀ x,x<bs.length->bs'[x]?=bs[x]?)/\bs.length<=bs'.length ∧
 ((ko v d=true/\k=0/\e=d.epoch/\ViewN bs.length bs' d.covers.l (bU Pod.uid v.pods.l d.pods.l d.gonePods.l) (bU Svc.id v.services.l d.services.l d.goneServices.l) (bU Way.id v.bound.l d.bound.l d.goneBound.l) (bU Pol.id v.policies.l d.policies.l d.gonePolicies.l) w1 w2 w3 w4 w5) ∨
  (ko v d=false/\k=1/\e=0/\w1=ai/\w2=ai/\w3=ai/\w4=ai/\w5=ai)):=by
 cases hm:aT v&&dw d with
 | false=>exact ⟨bs,ai,ai,ai,ai,ai,1,0,id,λlo=>Z8 ET v hv.ok hv.wf d hd.ok hd.wf hm _,λ_ _=>rfl,br _,.inr ⟨by simp [ko,hm],rfl,rfl,rfl,rfl,rfl,rfl,rfl⟩⟩
 | true =>
  have hk:ko v d=aT (jU v d):=by simp [ko,hm]
  simp only [aq] at hm;rw [hk];exact W80 ET v hv.ok hv.wf d hd.ok hd.wf hm.1 hm.2 bs
noncomputable def EF8:Calls':=λf args h=>match [8,35,38,40,42,44].any (Nat.beq f) with
 | true=>Sm ET5 TI aR f args h
 | false=>ET0 f args h
theorem KV:DifR EF8:=⟨λv hv hw h=>Nj v hv hw h,λr hr h=>Q8 (E:=noE) r hr h,λp q hp hq h=>Qn (E:=ET5) p q hp h,λp h=>Io (E:=ET5) p h,λp h=>Ip (E:=ET5) p h,λp h=>Iq (E:=ET5) p h,λp h=>Ir (E:=ET5) p h⟩
noncomputable def EP8:Calls':=λf args h=>match Nat.beq f 19 with
 | true=>Sm noE TI aR f args h
 | false=>EX1 ET5 f args h
theorem EP8_H:DocPutE EP8:=⟨λp hp h=>S35 (E:=ET5) p hp h,λd h=>I79 (E:=noE) d h,λp hp h=>Zm (E:=ET5) p hp h⟩
theorem UJ {v:Vw}(hv:WV v){d:Dlt}(hd:WD d)(h:Hp):Sm EP8 TDp bB 21 [v.v,d.v] h=some (if ru v d=true then .tup [(fe v d).v,.d (i64 0)] else .tup [vw0.v,.d (i64 1)],h):=by
 cases hm:aT v&&dw d with
 | false =>
  have hk:ru v d=false:=by simp [ru,hm]
  rw [hk];exact ZX EP8_H hv.ok hv.wf hd.ok hd.wf hd.l1 hd.l2 hd.l3 hd.l4 hm h
 | true =>
  have hk:ru v d=aT (fe v d):=by simp [ru,hm]
  simp only [aq] at hm;rw [hk];exact S84 EP8_H hv.ok hv.wf hd.ok hd.wf hd.l1 hd.l2 hd.l3 hd.l4 hm.1 hm.2 h
noncomputable def EQ8:Calls':=λf args h=>match Nat.beq f 26 with
 | true=>Sm (EX1 ET5) TVq CV f args h
 | _=>EX1 ET5 f args h
theorem EP:Doc19E EQ8:=⟨λc hc h=>V34 SQ c hc h,λa b ha h=>S38 (E:=ET5) LY a b ha h⟩
noncomputable def EG8:Calls':=λf args h=>match [9,45,47].any (Nat.beq f),Nat.beq f 64 with
 | true,_=>Sm EP8 TDp bB f args h
 | _,true=>EX1 ET5 f args h
 | _,_=>ET5 f args h
theorem KW:DocDiffE EG8 where
 h178 v hv hw h:=Da (E:=EP8) EP8_H.h288 v hv hw h
 h46 c hc n h:=S46 (E:=Et) c hc n h
 h111 c hc n h:=Zj (E:=Et) c hc n h
 h112 c hc n h:=Zk (E:=Et) c hc n h
 h29 a b ha h:=S29 (E:=Et) a b ha h
 h35 p hp h:=S35 (E:=ET5) p hp h
 h180 w l1 l2 l3 l4 h:=Ml (E:=EP8) w l1 l2 l3 l4 h
 h182 s hs n h:=u7 (E:=EP8) hs n h
noncomputable def EH8:Calls':=λf args h=>match Nat.beq f 19,Nat.beq f 11 with
 | true,_=>Sm noE TI aR f args h
 | _,true=>Sm EQ8 TDq rH f args h
 | _,_=>Sm EP8 TDp bB f args h
theorem Qh:DocSameE EH8:=⟨λd h=>Mm (E:=EP8) d h,λd h=>I79 (E:=noE) d h,λa b ha hs h=>by
 have:=Re EP a b ha h;rw [vsm_same.1 hs] at this;exact this⟩
noncomputable def E8:Calls':=λf args h=>match Nat.beq f 6,Nat.beq f 15,Nat.beq f 16,Nat.beq f 17 with
 | true,_,_,_=>known 6 true f args h
 | _,true,_,_=>Sm noE TSv iA f args h
 | _,_,true,_=>Sm EF8 TDi eY f args h
 | _,_,_,true=>Sm EG8 TDd bR f args h
 | _,_,_,_=>match Nat.beq f 18,Nat.beq f 19,[14,20].any (Nat.beq f),[7,11].any (Nat.beq f) with
  | true,_,_,_=>Sm EH8 TDs iy f args h
  | _,true,_,_=>Sm noE TDo LK f args h
  | _,_,true,_=>Sm ES8 TSw eB f args h
  | _,_,_,true=>Sm EQ8 TDq rH f args h
  | _,_,_,_=>match [9,13,21].any (Nat.beq f),[5,8,10,12].any (Nat.beq f) with
   | true,_=>Sm EP8 TDp bB f args h
   | _,true=>Sm ET5 TI aR f args h
   | _,_=>ET5 f args h
theorem bf2:TDq 11=some q66:=by kernel_rfl
theorem YA:H8 E8 where
 h4 v hv:=S70 (E:=Et) v hv
 h5 d hd:=I17 (E:=ET5) (λv hv=>S70 (E:=Et) v hv) d hd
 h6 h:=by show known 6 true 6 [] h=_; simp [known]
 h7 v hv h:=S83 EP v hv h
 h8 v hv h:=Nj v hv.ok hv.wf h
 h9 v hv h:=Da (E:=EP8) EP8_H.h288 v hv.ok hv.wf h
 h10 a b ha h:=I82 (E:=ET5) a b ha h
 h11 a b ha w h hw:=Ak bf2 rfl (λh=>Re EP a b ha h) hw (rV h b.c)
 h12 d hd h:=La d hd.ok hd.wf h
 h13 d hd h:=Mk (E:=EP8) EP8_H.h79 EP8_H.h288 d hd.ok hd.wf hd.l1 hd.l2 hd.l3 hd.l4 h
 h14 v hv bs:=ZY ET v hv bs
 h15 L0 M bs cells h:=S69 (E:=noE) h
 h16n a b ha hb hno h:=Qd KV a b ha.ok ha.wf hb.ok hb.wf hno h
 h16 a b ha hb m1 m2 bs:=Yz KV a b ha.ok ha.wf hb.ok hb.wf m1 m2 bs
 h17n a b ha hb hno h:=ZV KW ha.ok ha.wf hb.ok hb.wf hno h
 h17 a b ha hb m1 m2 h:=S67 KW ha.ok ha.wf hb.ok hb.wf m1 m2 h
 h18 d e hd hs w h hw:=Ak Tk Tp (λh=>S68 Qh hd hs h) hw (rV h e.c)
 h19 e w1 w2 w3 w4 w5 g1 g2 g3 g4 bs lo hu ho:=ZW (E:=noE) e w1 w2 w3 w4 w5 g1 g2 g3 g4 bs lo hu ho
 h20 v hv d hd bs:=UI hv hd bs
 h21 v hv d hd h:=UJ hv hd h
theorem R8 {a b:Vw}(ha:WV a)(hb:WV b){d:Dlt}(hd:WD d)(h:Hp):Sm E8 TL8 Aj 3 [a.v,b.v,d.v] h=some (bl true,h):=S8 YA ha hb hd h
end
section
open Go.Sort Go.Shelf Go.RowKit
structure Rec (k p:Nat) where
 vs:List Value
 len:vs.length=k
 one:∀ v∈vs,v.oneCell'=true
 key:Int
 hk:vs[p]?=some (.int .u64 key)
abbrev Rec.inh {k p:Nat} (h:p<k):Inhabited (Rec k p):=⟨⟨List.replicate k (.int .u64 0),by simp,λv hv=>by rw [(List.mem_replicate.1 hv).2]; rfl,0,by simp [h]⟩⟩
def cfK {k p:Nat}(x y:Rec k p):Int:=if x.key<y.key then -1 else if y.key<x.key then 1 else 0
theorem Cr {k p:Nat}(x y:Rec k p):ltOf cfK x y=decide (x.key<y.key):=by
 unfold ltOf cfK;by_cases h1:x.key<y.key
 . simp [h1]
 . by_cases h2:y.key<x.key<;>simp [h1,h2]
theorem Pn {k p:Nat}:SWO (ltOf (cfK (k:=k) (p:=p))) where
 irrefl x:=by rw [Cr]; simp
 trans x y z h1 h2:=by rw [Cr] at *; simp at *; omega
 ntrans x y z h1 h2:=by rw [Cr] at *; simp at *; omega
theorem oI {α:Type}{f:α->Int}:∀ {l:List α},(l.map f).Nodup->∀ a∈l,∀ b∈l,f a=f b->a=b
 | x::l,h,a,ha,b,hb,e=>by
  simp only [ct,List.nodup_cons,ce,not_exists,not_and] at h;obtain e1 | ha':=List.mem_cons.1 ha<;>obtain e2 | hb':=List.mem_cons.1 hb
  . rw [e1,e2]
  . exact absurd (by rw [← e1,e]) (h.1 b hb')
  . exact absurd (by rw [← e2,e]) (h.1 a ha')
  . exact oI h.2 a ha' b hb' e
theorem rA {z:Nat}:∀ {l:List (List V)} {j:Nat},(∀ r∈l,r.length=z)->j<l.length * z->∃ r,l[j / z]?=some r/\l.flatten[j]?=r[j % z]?
 | [],j,_,h=>by simp at h
 | r::l,j,hl,h=>by
  have hr:=hl r (by simp);have hz:0<z:=by
   obtain hz | hz:=Nat.eq_zero_or_pos z
   . rw [hz] at h; simp at h
   . exact hz
  obtain hj | hj:=cr j z
  . refine ⟨r,by rw [Nat.div_eq_of_lt hj]; rfl,?_⟩;rw [List.flatten_cons,am (by omega),Nat.mod_eq_of_lt hj]
  . obtain ⟨k,rfl⟩:=Nat.exists_eq_add_of_le hj;rw [ck,Nat.add_mul,Nat.one_mul] at h;obtain ⟨r',e1,e2⟩:=rA (l:=l) (j:=k) (λx hx=>hl x (List.mem_cons_of_mem _ hx)) (by omega);refine ⟨r',by rw [Nat.add_div_left _ hz]; simpa using e1,?_⟩;rw [List.flatten_cons,bm (by omega),hr,Nat.add_sub_cancel_left,e2,Nat.add_mod_left]
theorem BI {α:Type}{f:α->Int}{l1 l2 l:List α}(hnd:(l.map f).Nodup)(p1:l1.Perm l)(p2:l2.Perm l)(s1:l1.Pairwise λa b=>f a<=f b)(s2:l2.Pairwise λa b=>f a<=f b):l1=l2:=by
 refine (p1.trans p2.symm).eq_of_pairwise ?_ s1 s2;intro a b ha hb h1 h2;exact oI hnd a (p1.mem_iff.1 ha) b (p2.mem_iff.1 hb) (by omega)
variable {P:Program}{ρr:Ren}
theorem Co {B:Nat}{ρ:Rh}{h:Hp}{w:World}(hR:Rel B ρ h w){b:Nat}{cs:List V}(hg:h.get b=some cs)(hne:cs≠[]):∃ hb:b<h.bs.length,h.bs[b].live=true:=by
 obtain ⟨hb,e⟩:=lY hg;refine ⟨hb,?_⟩;rw [e];cases cs with
 | nil=>exact absurd rfl hne
 | cons _ _=>rfl
def oq (P:Program)(s:SF):Prop:=∀ (W:World) (c:Nat) (x y:Rec s.z s.p),W.cell? ⟨c,0,none⟩=some (.func (.func s.id) #[] #[]) →
 Calls P s.g #[.agg x.vs.toArray,.agg y.vs.toArray,.pointer (some ⟨c,0,none⟩)] W λe w'=>e=.returned (.int .i64 (cfK x y))/\∃ q os,w'=grow (W.drewN q) os
theorem mU (s:SF)(L:SlLaysF0.n6 P ρr)(aE:∀ w,(isAgg (ρr.t 24)).run P w=.ok true w)(zE:∀ w,(Go.sizeOf (ρr.t 24)).run P w=.ok s.z w)(eg:∀ args w,(callFunc s.g args).run P w=.ok (.enter s.g args) w)(hp:s.p<s.z)(hcmp:oq P s)
 {B:Nat} {ρ:Rh} {h:Hp} {w:World} {args:List V} {vs:Array Value} {r:V} {h':Hp} (hR:Rel B ρ h w) (hv:VRs ρ (St ρ w) w args vs.toList) (hm:fD s args h=some (r,h')) :
 Calls P (ρr.f 6) vs w (jR B ρ h w r h'):=by
 unfold fD at hm;split at hm
 . rename_i b n cap z g c;split at hm
   . rename_i cs id hgb hgc;split at hm
     . rename_i hall;obtain ⟨rfl,rfl,rfl,hbc,hn0,hn,hlen,hkeys,hnd⟩:=hall;cases hm;simp only [VRs] at hv;obtain ⟨u1,us1,e1,hu1,u2,us2,e2,hu2,e3⟩:=hv;subst e3; subst e2;have hvs:vs=#[u1,u2]:=Array.toList_inj.1 (by simpa using e1);subst hvs;simp only [VR,VRs] at hu1 hu2;obtain ⟨hbN,cc,rfl,hc1,hc2,_⟩:=hu1;obtain ⟨vs2,rfl,u3,us3,e4,⟨hcN,rfl⟩,rfl⟩:=hu2;have hvs2:vs2=#[.pointer (some ⟨ρ c,0,none⟩)]:=Array.toList_inj.1 (by simpa using e4);subst hvs2;have hz0:0<s.z:=by omega
       have hnz:0<n * s.z:=Nat.mul_pos hn0 hz0;have hne:cs≠[]:=by rintro rfl; simp at hlen; omega
       obtain ⟨arr,el,fz,k1,k2,k3,k4⟩:=fK hR hgb hne;obtain ⟨arr2,el2,fz2,m1,m2,m3,m4⟩:=fK hR hgc (by simp);obtain ⟨hbl,hlive⟩:=Co hR hgb hne;obtain ⟨hcl,hclive⟩:=Co hR hgc (by simp);have hcell:w.cell? ⟨ρ c,0,none⟩=some (.func (.func s.id) #[] #[]):=by
        have h1:0<arr2.size:=cg Nat.zero_lt_one (by simpa using m2);have h2:=(m4 0 (by simp) h1).1;simp only [List.getElem_cons_zero,VR,VRs] at h2;obtain ⟨vs3,e5,e6⟩:=h2;have e7:vs3=#[]:=Array.toList_inj.1 (by simpa using e6);subst e7;simp [World.cell?,m1,h1,e5]
       have hinj:ρ c≠ρ b:=hR.inj c b (Ne.symm hbc) (hR.live c hcl hclive) (hR.live b hbl hlive);have hlt:=(hR.lo b hbN).2;have hltc:=(hR.lo c hcN).2;have hbnd:∀ i,i<n->i * s.z+s.z<=n * s.z:=λi hi=>by
        have:=Nat.mul_le_mul_right s.z (show i+1<=n from hi)
        rwa [Nat.add_mul,Nat.one_mul] at this
       have hch:∀ i t,i<n->t<s.z->((cs.drop (i * s.z)).take s.z)[t]?=cs[i * s.z+t]?:=λi t hi ht=>by
        rw [List.getElem?_take_of_lt ht,List.getElem?_drop]
       have har:∀ i t,i<n->t<s.z->∃ v u,cs[i * s.z+t]?=some v/\arr[i * s.z+t]?=some u/\VR ρ (St ρ w) w v u/\u.oneCell'=true:=λi t hi ht=>by
        have:=hbnd i hi;have h1:i * s.z+t<cs.length:=by omega
        have h2:i * s.z+t<arr.size:=by omega
        exact ⟨cs[i * s.z+t],arr[i * s.z+t],by simp [h1],by simp [h2],k4 _ h1 h2⟩
       have hkey:∀ i,i<n->∃ m,lZ s.p ((cs.drop (i * s.z)).take s.z)=m/\arr[i * s.z+s.p]?=some (.int .u64 m):=λi hi=>by
        have h1:=hkeys ((cs.drop (i * s.z)).take s.z) (by simp only [chunk,ce,List.mem_range]; exact ⟨i,hi,rfl⟩);obtain ⟨m,hm⟩:=Option.isSome_iff_exists.1 h1;have h2:=DJ hm;rw [hch i s.p hi hp] at h2;obtain ⟨v,u,a1,a2,a3,_⟩:=har i s.p hi hp;rw [h2] at a1;cases a1;simp only [VR,DR] at a3;subst a3;exact ⟨m,by simp [lZ,hm],a2⟩
       let cell:Nat->Value:=λj=>(arr[j]?).getD (.bool false)
       have hcl':∀ i t,i<n->t<s.z->arr[i * s.z+t]?=some (cell (i * s.z+t)):=λi t hi ht=>by
        obtain ⟨v,u,a1,a2,a3,a4⟩:=har i t hi ht;simp only [cell,a2,Option.getD_some]
       let rc:Fin n->Rec s.z s.p:=λi=>⟨(List.range s.z).map λt=>cell (i.1 * s.z+t),by simp,λv hv=>by
        simp only [ce,List.mem_range] at hv;obtain ⟨t,ht,rfl⟩:=hv;obtain ⟨v,u,a1,a2,a3,a4⟩:=har i.1 t i.2 ht;simp only [cell,a2,Option.getD_some]; exact a4,
        lZ s.p ((cs.drop (i.1 * s.z)).take s.z),by
         obtain ⟨m,q1,q2⟩:=hkey i.1 i.2;simp only [List.getElem?_map,List.getElem?_range hp,Option.map_some,cell,q2,Option.getD_some,q1]⟩
       letI:Inhabited (Rec s.z s.p):=Rec.inh hp
       let prs:List (Rec s.z s.p×List V):=(List.finRange n).map λi=>(rc i,(cs.drop (i.1 * s.z)).take s.z)
       have hsnd:prs.map (·.2)=chunk s.z n cs:=by
        refine List.ext_getElem (by simp [prs,chunk]) λi h1 h2=>?_;simp [prs,chunk]
       let d:Array (Rec s.z s.p):=(prs.map (·.1)).toArray
       have hds:d.size=n:=by simp [d,prs]
       have hdi:∀ i (hi:i<n),d[i]! = rc ⟨i,hi⟩:=λi hi=>by
        rw [getElem!_pos d i (by omega)];simp [d,prs]
       have hprk:∀ x∈prs,x.1.key=lZ s.p x.2:=λx hx=>by
        simp only [prs,ce] at hx;obtain ⟨i,_,rfl⟩:=hx;rfl
       have hkd:(prs.map (·.1)).map (·.key)=(chunk s.z n cs).map (lZ s.p):=by
        rw [← hsnd];have e1:(prs.map (·.1)).map (·.key)=prs.map λx=>x.1.key:=List.map_map;have e2:(prs.map (·.2)).map (lZ s.p)=prs.map λx=>lZ s.p x.2:=List.map_map;rw [e1,e2];exact List.map_congr_left hprk
       let enc:Rec s.z s.p->List Value:=λx=>x.vs
       have hH:HoldsK enc s.z w (ρ b) 0 d:=by
        intro j hj;rw [size_flatK,hds] at hj;have hi:j / s.z<n:=by rw [Nat.div_lt_iff_lt_mul hz0]; exact hj
        have ht:j % s.z<s.z:=Nat.mod_lt _ hz0;have hjj:j / s.z * s.z+j % s.z=j:=by rw [Nat.mul_comm]; exact Nat.div_add_mod j s.z
        have hj2:j<arr.size:=by omega
        refine ⟨?_,by simpa using k3 j hj2⟩;rw [get_flatK _ _ _ _ (by rw [hds]; exact hj),hdi _ hi];have h1:=hcl' _ _ hi ht;rw [hjj] at h1;have h2:(enc (rc ⟨j / s.z,hi⟩))[j % s.z]! = cell j:=by
         simp only [enc,rc];rw [getElem!_pos _ _ (by simpa using ht)];simp [hjj]
        rw [h2];simp only [World.cell?,k1,Nat.zero_add,id_eq];simpa using h1
       have hcm:CmpLays P s.g #[.pointer (some ⟨ρ c,0,none⟩)] enc s.z cfK (ρ b) 0 d.size w:=by
        intro m os dk hdk x y;refine hcmp _ (ρ c) x y ?_;have hh:(sortWorldK enc s.z w (ρ b) 0 m dk os).heap[ρ c]?=w.heap[ρ c]?:=by
         show ((w.heap.modify (ρ b) _)++os)[ρ c]?=_;rw [Array.getElem?_append_left (by simpa using hltc),Array.getElem?_modify,if_neg (Ne.symm hinj)]
        rw [← hcell];simp only [World.cell?,hh]
       have hct:=AnyQ.slices_SortFunc L s.z aE zE enc (λx=>x.len) (λx=>x.one) cfK Pn s.g #[.pointer (some ⟨ρ c,0,none⟩)] (ρ b) 0 cc d w eg hcm hH hlt (by rw [hds]; omega);rw [hds] at hct;refine hct.mono ?_;rintro e w' ⟨rfl,d',nn,os,hP,hS,rfl⟩;have hd's:d'.size=n:=by rw [hP.1,hds]
       have hperm:d'.toList.Perm (prs.map (·.1)):=by
        have:=hP.2.2;have x1:d'.extract 0 n=d':=by rw [← hd's]; exact Array.extract_size
        have x2:d.extract 0 n=d:=by rw [← hds]; exact Array.extract_size
        rw [x1,x2] at this;exact this
       have hsrt:d'.toList.Pairwise λa b=>a.key<=b.key:=by
        rw [List.pairwise_iff_getElem];intro i j hi hj hij;have hi':i<d'.size:=by simpa using hi
        have hj':j<d'.size:=by simpa using hj
        have:=hS i j (Nat.zero_le _) hij (by omega);rw [Cr,getElem!_pos d' i hi',getElem!_pos d' j hj'] at this;simp only [decide_eq_false_iff_not] at this;simp only [Array.getElem_toList];omega
       let prs':=prs.mergeSort λx y=>decide (lZ s.p x.2<=lZ s.p y.2)
       have hp1:prs'.map (·.2)=fP s.p (chunk s.z n cs):=by
        rw [fP,← hsnd];exact List.map_mergeSort λ_ _ _ _=>rfl
       have hpp:prs'.Perm prs:=List.mergeSort_perm _ _;have hp2:d'.toList=prs'.map (·.1):=by
        refine BI (f:=(·.key)) (l:=prs.map (·.1)) (by rw [hkd]; exact hnd) hperm (hpp.map _) hsrt ?_;rw [List.pairwise_map];have hs:=List.pairwise_mergeSort (le:=λ(x y:Rec s.z s.p×List V)=>decide (lZ s.p x.2<=lZ s.p y.2)) (by intro a b c h1 h2; simp at *; omega) (by intro a b; simp; omega) prs;refine List.Pairwise.imp_of_mem ?_ hs;intro a b ha hb hab;rw [hprk a (hpp.mem_iff.1 ha),hprk b (hpp.mem_iff.1 hb)];simpa using hab
       have hplen:prs'.length=n:=by simp [prs',prs]
       have hat':∀ i (hi:i<n),∃ i0,∃ hi0:i0<n,d'[i]! = rc ⟨i0,hi0⟩/\(fP s.p (chunk s.z n cs))[i]?=some ((cs.drop (i0 * s.z)).take s.z):=λi hi=>by
        have hmem:prs'[i]'(by omega)∈prs:=hpp.mem_iff.1 (bj _);obtain ⟨i0,_,he⟩:=ce.1 hmem;refine ⟨i0.1,i0.2,?_,?_⟩
        . have h1:d'.toList[i]?=some (rc i0):=by
           rw [hp2,List.getElem?_map,ab (by omega),← he]; rfl
          rw [getElem!_pos d' i (by omega)];rw [ab (by simpa using (show i<d'.size by omega))] at h1;simpa using h1
        . rw [← hp1,List.getElem?_map,ab (by omega),← he]; rfl
       let w1:=putRowK enc s.z (Sort.ahead w nn) (ρ b) 0 d'
       have hheap:w1.heap=w.heap.modify (ρ b) (onCells (putCells id 0 (flatK enc s.z d'))):=rfl;have hsz:w1.heap.size=w.heap.size:=by rw [hheap]; simp
       have hoth:∀ k,k≠ρ b->w1.heap[k]?=w.heap[k]?:=λk hk=>by
        rw [hheap,Array.getElem?_modify,if_neg (Ne.symm hk)]
       have hat:w1.heap[ρ b]?=some (.cells (putCells id 0 (flatK enc s.z d') arr) el fz):=by
        rw [hheap,Array.getElem?_modify,if_pos rfl,k1]; rfl
       have hps:(putCells id 0 (flatK enc s.z d') arr).size=arr.size:=by simp [putCells]
       have hown:∀ arr' e' fz',w.heap[ρ b]?=some (.cells arr' e' fz')->∃ arr'' fz'',w1.heap[ρ b]?=some (.cells arr'' e' fz'')/\arr''.size=arr'.size:=by
        intro arr' e' fz' hh;rw [k1] at hh;cases hh;exact ⟨_,_,hat,hps⟩
       have q2:=jO hR (hR.live b hbl hlive) hsz hoth hown rfl rfl rfl;have hrl:∀ r∈fP s.p (chunk s.z n cs),r.length=s.z:=by
        intro r hr;have:=(List.mergeSort_perm _ _).mem_iff.1 hr;simp only [chunk,ce,List.mem_range] at this;obtain ⟨i,hi,rfl⟩:=this;have:=hbnd i hi;rw [List.length_take,List.length_drop]; omega
       have hsl:(fP s.p (chunk s.z n cs)).length=n:=by simp [fP,chunk]
       have hfl:((fP s.p (chunk s.z n cs)).flatten).length=n * s.z:=by
        rw [List.length_flatten];have:(fP s.p (chunk s.z n cs)).map List.length=List.replicate n s.z:=by
         rw [List.eq_replicate_iff];refine ⟨by simp [hsl],λx hx=>?_⟩;obtain ⟨r,hr,rfl⟩:=ce.1 hx;exact hrl r hr
        rw [this]; simp
       have hnew:((fP s.p (chunk s.z n cs)).flatten++cs.drop (n * s.z)).length=cs.length:=by
        rw [ao,hfl,List.length_drop]; omega
       have hbr:BR ρ w1 (ρ b) (.cells ((fP s.p (chunk s.z n cs)).flatten++cs.drop (n * s.z))):=by
        have hne2:(fP s.p (chunk s.z n cs)).flatten++cs.drop (n * s.z)≠[]:=λhh=>by
         rw [hh] at hnew; simp at hnew; exact hne (List.eq_nil_of_length_eq_zero hnew.symm)
        have core:∃ arr' e' fz',w1.heap[ρ b]?=some (.cells arr' e' fz')/\((fP s.p (chunk s.z n cs)).flatten++cs.drop (n * s.z)).length<=arr'.size/\(∀ j,j<arr'.size->w1.frozen? ⟨ρ b,j,none⟩=false) ∧
         ∀ (j:Nat) (h1:j<((fP s.p (chunk s.z n cs)).flatten++cs.drop (n * s.z)).length) (h2:j<arr'.size),VR ρ (St ρ w1) w1 ((fP s.p (chunk s.z n cs)).flatten++cs.drop (n * s.z))[j] arr'[j]/\arr'[j].oneCell'=true:=by
         refine ⟨_,_,_,hat,by rw [hps,hnew]; exact k2,λj hj=>?_,λj h1 h2=>?_⟩
         . have:=k3 j (by rw [← hps]; exact hj);rw [← this];exact frozen?_mapBlock (Sort.ahead w nn) (ρ b) _ _
         . have hja:j<arr.size:=by rw [← hps]; exact h2
           have hjc:j<cs.length:=by rw [← hnew]; exact h1
           obtain hj | hj:=cr j (n * s.z)
           . have hi:j / s.z<n:=by rw [Nat.div_lt_iff_lt_mul hz0]; exact hj
             have ht:j % s.z<s.z:=Nat.mod_lt _ hz0;obtain ⟨i0,hi0,a1,a2⟩:=hat' _ hi;obtain ⟨r,b1,b2⟩:=rA (j:=j) hrl (by rw [hsl]; exact hj);rw [a2] at b1;cases b1;rw [hch i0 _ hi0 ht] at b2;obtain ⟨v,u,c1,c2,c3,c4⟩:=har i0 _ hi0 ht;have hV:((fP s.p (chunk s.z n cs)).flatten++cs.drop (n * s.z))[j]=v:=by
              rw [List.getElem_append_left (by rw [hfl]; exact hj)];have:=b2.trans c1;rw [ab (by rw [hfl]; exact hj)] at this;simpa using this
             have hU:(putCells id 0 (flatK enc s.z d') arr)[j]=u:=by
              simp only [putCells,Array.getElem_mapIdx];rw [if_pos ⟨Nat.zero_le _,by rw [size_flatK,hd's]; omega⟩,Nat.sub_zero,get_flatK _ _ _ _ (by rw [hd's]; exact hj),a1];simp only [enc,rc,id_eq];rw [getElem!_pos _ _ (by simpa using ht)];simp [cell,c2]
             rw [hV,hU];exact ⟨c3.ext q2.ext,c4⟩
           . have hV:((fP s.p (chunk s.z n cs)).flatten++cs.drop (n * s.z))[j]=cs[j]:=by
              rw [List.getElem_append_right (by rw [hfl]; exact hj)];simp only [List.getElem_drop,hfl]
              congr 1
              omega
             have hU:(putCells id 0 (flatK enc s.z d') arr)[j]=arr[j]:=by
              simp only [putCells,Array.getElem_mapIdx];rw [if_neg (by rw [size_flatK,hd's]; omega)]
             rw [hV,hU];exact ⟨(k4 j hjc hja).1.ext q2.ext,(k4 j hjc hja).2⟩
        revert core hne2
        cases (fP s.p (chunk s.z n cs)).flatten++cs.drop (n * s.z) with
        | nil=>intro hne2 _; exact absurd rfl hne2
        | cons x xs=>intro _ core; simpa only [BR] using core
       have q1:=p9 hR hbl hlive hsz hoth hown rfl rfl rfl (.cells ((fP s.p (chunk s.z n cs)).flatten++cs.drop (n * s.z))) hbr (min h.low b);have hbel:Below w1.heap.size w1 (grow w1 os):=⟨rfl,rfl,rfl,by simp [grow],λk hk=>by simp [grow,Array.getElem?_append_left hk]⟩;obtain ⟨q3,q4⟩:=qo q1 hbel;exact ⟨_,ρ,rfl,q3,q2.trans q4,by simp only [VRx,VR,VRs]; exact ⟨_,rfl,rfl⟩⟩
     . cases hm
   . cases hm
 . cases hm
end
section
theorem Sl.wf.le {α:Type}{B B':Nat}(hB:B<=B'){f:Nat->α->Prop}(hf:∀ x,f B x->f B' x){s:Sl α}(h:s.wf B f):s.wf B' f:=⟨h.1.le hB,λx hx=>hf x (h.2 x hx)⟩
section
variable {B B':Nat}(hB:B<=B')
include hB
theorem Pod.wf.le {x:Pod}(h:x.wf B):x.wf B':=⟨h.1,cj h.2.1 hB,cj h.2.2.1 hB,h.2.2.2⟩
theorem Svc.wf.le {x:Svc}(h:x.wf B):x.wf B':=⟨h.1,cj h.2.1 hB,h.2.2⟩
omit hB in
theorem Way.wf.le {x:Way}(h:x.wf B):x.wf B':=⟨h.1,h.2⟩
theorem Term.wf.le {x:Term}(h:x.wf B):x.wf B':=⟨h.1,cj h.2 hB⟩
omit hB in
theorem Cidr.wf.le {x:Cidr}(h:x.wf B):x.wf B':=⟨h.1,h.2⟩
theorem Source.wf.le {x:Source}(h:x.wf B):x.wf B':=⟨Sl.wf.le hB (λ_=>Term.wf.le hB) h.1,Sl.wf.le hB (λ_=>Term.wf.le hB) h.2.1,Sl.wf.le hB (λ_=>Cidr.wf.le) h.2.2⟩
theorem Target.wf.le {x:Target}(h:x.wf B):x.wf B':=⟨Sl.wf.le hB (λ_ h=>h) h.1,Sl.wf.le hB (λ_=>Term.wf.le hB) h.2.1,Sl.wf.le hB (λ_=>Term.wf.le hB) h.2.2.1,Sl.wf.le hB (λ_=>Term.wf.le hB) h.2.2.2⟩
theorem When.wf.le {x:When}(h:x.wf B):x.wf B':=⟨cj h.1 hB,Sl.wf.le hB (λ_=>Term.wf.le hB) h.2⟩
theorem Rule.wf.le {x:Rule}(h:x.wf B):x.wf B':=⟨Sl.wf.le hB (λ_=>Source.wf.le hB) h.1,Sl.wf.le hB (λ_=>Target.wf.le hB) h.2.1,Sl.wf.le hB (λ_=>When.wf.le hB) h.2.2⟩
theorem Pol.wf.le {x:Pol}(h:x.wf B):x.wf B':=⟨h.1,cj h.2.1 hB,h.2.2.1,h.2.2.2.1,Sl.wf.le hB (λ_=>Rule.wf.le hB) h.2.2.2.2⟩
theorem Cfg.wf.le {x:Cfg}(h:x.wf B):x.wf B':=⟨h.1,h.2.1,h.2.2.1,h.2.2.2.1,Sl.wf.le hB (λ_=>Pod.wf.le hB) h.2.2.2.2.1,Sl.wf.le hB (λ_=>Svc.wf.le hB) h.2.2.2.2.2.1,Sl.wf.le hB (λ_=>Way.wf.le) h.2.2.2.2.2.2.1,Sl.wf.le hB (λ_=>Pol.wf.le hB) h.2.2.2.2.2.2.2⟩
end
end
