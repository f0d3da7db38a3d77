/- What config.May calls: policy.target from an instance of its own. -/
import Derived.Test.YtoecipeaknldaaaGreatKa
import Derived.Test.YtoecipeaknldaaaGreatEz
import Derived.Shelf.SlSortCmp.WholeK
set_option linter.unusedSimpArgs false
set_option maxRecDepth 100000
set_option linter.unusedVariables false
namespace Go.Proofs.YtoecipeaknldaaaGreat
open IntKind (wrap)
section
def noE:Calls':=λ_ _ _=>none
noncomputable def Et:Calls':=λf args h=>match Nat.beq f 222 with
 | true=>Sm E1 TP pI f args h
 | false=>none
end
section
theorem Yj {E:Calls'}(x:Int)(h:Hp):Sm E TT ak 152 [.d (u64 x)] h=some (.d (i64 (mh x)),h):=by
 rw [aQ ah3 ar2];simp +decide [aa,JI,Yx]
noncomputable def ET0:Calls':=λf args h=>Sm noE TT ak f args h
def VE:List (Nat×QF):=[(97,JM),(151,JX),(173,J4),(104,JN),(157,JY),(183,J6),(110,JO),(161,JZ),(191,J8),(117,JP),(165,J3),(205,Ka)]
def TZy:FuncId->Option QF:=iN VE
def jD (f:FuncId):Bool:=false
theorem VP:TZy 97=some (JM):=by kernel_rfl
theorem VU:TZy 151=some (JX):=by kernel_rfl
theorem VY:TZy 173=some (J4):=by kernel_rfl
theorem VQ:TZy 104=some (JN):=by kernel_rfl
theorem VV:TZy 157=some (JY):=by kernel_rfl
theorem VZ:TZy 183=some (J6):=by kernel_rfl
theorem VS:TZy 110=some (JO):=by kernel_rfl
theorem VW:TZy 161=some (JZ):=by kernel_rfl
theorem V3:TZy 191=some (J8):=by kernel_rfl
theorem VT:TZy 117=some (JP):=by kernel_rfl
theorem VX:TZy 165=some (J3):=by kernel_rfl
theorem V4:TZy 205=some (Ka):=by kernel_rfl
theorem Dj:TZy 152=none:=by kernel_rfl
theorem Y5 {E:Calls'}(k:Nat)(v:V)(hv:v=.d (.slice true [])\/∃ B cap,v=.row B 0 0 cap 7)(h:Hp):Sm E TZy jD 173 [v,.d (i64 0),.d (i64 0),.fn 98 [.ptr k 0]] h=some (.tup [],h):=by
 rw [aT VY rfl];obtain rfl | ⟨B,cap,rfl⟩:=hv;all_goals
  simp +decide [aa,J4];rw [au];simp;rw [aF];simp +decide [CV,V.under,V.under.go,bH]
theorem Y1 {E:Calls'}(k:Nat)(v:V)(hv:v=.d (.slice true [])\/∃ B cap,v=.row B 0 0 cap 7)(n:Int)(h:Hp):Sm E TZy jD 151 [v,.d (i64 0),.d (i64 0),.d (i64 n),.fn 98 [.ptr k 0]] h=some (.tup [],h):=by
 have kk:=λh=>Y5 (E:=E) k v hv h;rw [aT VU rfl];obtain rfl | ⟨B,cap,rfl⟩:=hv;all_goals
  simp +decide [aa,JX];rw [au];simp;rw [aF];simp +decide [CP,kk,V.under,V.under.go,bH]
theorem YX {E:Calls'}(k241:∀ x h,E 152 [.d (u64 x)] h=some (.d (i64 (mh x)),h))(k:Nat)(v:V)(hv:v=.d (.slice true [])\/∃ B cap,v=.row B 0 0 cap 7)(h:Hp):Sm E TZy jD 97 [v,.fn 98 [.ptr k 0]] h=some (.tup [],h):=by
 have kk:=λn h=>Y1 (E:=E) k v hv n h;have n241:∀ x h,Sm E TZy jD 152 [.d (u64 x)] h=some (.d (i64 (mh x)),h):=λx h=>by rw [aU Dj]; exact k241 x h
 have hw:wrap .u64 0=0:=by decide
 rw [aT VP rfl];obtain rfl | ⟨B,cap,rfl⟩:=hv;all_goals simp +decide [aa,JM,kk,n241,hw,V.under,V.under.go,bH]
theorem Y6 {E:Calls'}(k:Nat)(v:V)(hv:v=.d (.slice true [])\/∃ B cap,v=.row B 0 0 cap 5)(h:Hp):Sm E TZy jD 183 [v,.d (i64 0),.d (i64 0),.fn 105 [.ptr k 0]] h=some (.tup [],h):=by
 rw [aT VZ rfl];obtain rfl | ⟨B,cap,rfl⟩:=hv;all_goals
  simp +decide [aa,J6];rw [au];simp;rw [aF];simp +decide [CW,V.under,V.under.go,bH]
theorem Y2 {E:Calls'}(k:Nat)(v:V)(hv:v=.d (.slice true [])\/∃ B cap,v=.row B 0 0 cap 5)(n:Int)(h:Hp):Sm E TZy jD 157 [v,.d (i64 0),.d (i64 0),.d (i64 n),.fn 105 [.ptr k 0]] h=some (.tup [],h):=by
 have kk:=λh=>Y6 (E:=E) k v hv h;rw [aT VV rfl];obtain rfl | ⟨B,cap,rfl⟩:=hv;all_goals
  simp +decide [aa,JY];rw [au];simp;rw [aF];simp +decide [CR,kk,V.under,V.under.go,bH]
theorem YY {E:Calls'}(k241:∀ x h,E 152 [.d (u64 x)] h=some (.d (i64 (mh x)),h))(k:Nat)(v:V)(hv:v=.d (.slice true [])\/∃ B cap,v=.row B 0 0 cap 5)(h:Hp):Sm E TZy jD 104 [v,.fn 105 [.ptr k 0]] h=some (.tup [],h):=by
 have kk:=λn h=>Y2 (E:=E) k v hv n h;have n241:∀ x h,Sm E TZy jD 152 [.d (u64 x)] h=some (.d (i64 (mh x)),h):=λx h=>by rw [aU Dj]; exact k241 x h
 have hw:wrap .u64 0=0:=by decide
 rw [aT VQ rfl];obtain rfl | ⟨B,cap,rfl⟩:=hv;all_goals simp +decide [aa,JN,kk,n241,hw,V.under,V.under.go,bH]
theorem Y7 {E:Calls'}(k:Nat)(v:V)(hv:v=.d (.slice true [])\/∃ B cap,v=.row B 0 0 cap 2)(h:Hp):Sm E TZy jD 191 [v,.d (i64 0),.d (i64 0),.fn 111 [.ptr k 0]] h=some (.tup [],h):=by
 rw [aT V3 rfl];obtain rfl | ⟨B,cap,rfl⟩:=hv;all_goals
  simp +decide [aa,J8];rw [au];simp;rw [aF];simp +decide [CX,V.under,V.under.go,bH]
theorem Y3 {E:Calls'}(k:Nat)(v:V)(hv:v=.d (.slice true [])\/∃ B cap,v=.row B 0 0 cap 2)(n:Int)(h:Hp):Sm E TZy jD 161 [v,.d (i64 0),.d (i64 0),.d (i64 n),.fn 111 [.ptr k 0]] h=some (.tup [],h):=by
 have kk:=λh=>Y7 (E:=E) k v hv h;rw [aT VW rfl];obtain rfl | ⟨B,cap,rfl⟩:=hv;all_goals
  simp +decide [aa,JZ];rw [au];simp;rw [aF];simp +decide [CS,kk,V.under,V.under.go,bH]
theorem YZ {E:Calls'}(k241:∀ x h,E 152 [.d (u64 x)] h=some (.d (i64 (mh x)),h))(k:Nat)(v:V)(hv:v=.d (.slice true [])\/∃ B cap,v=.row B 0 0 cap 2)(h:Hp):Sm E TZy jD 110 [v,.fn 111 [.ptr k 0]] h=some (.tup [],h):=by
 have kk:=λn h=>Y3 (E:=E) k v hv n h;have n241:∀ x h,Sm E TZy jD 152 [.d (u64 x)] h=some (.d (i64 (mh x)),h):=λx h=>by rw [aU Dj]; exact k241 x h
 have hw:wrap .u64 0=0:=by decide
 rw [aT VS rfl];obtain rfl | ⟨B,cap,rfl⟩:=hv;all_goals simp +decide [aa,JO,kk,n241,hw,V.under,V.under.go,bH]
theorem Y8 {E:Calls'}(k:Nat)(v:V)(hv:v=.d (.slice true [])\/∃ B cap,v=.row B 0 0 cap 5)(h:Hp):Sm E TZy jD 205 [v,.d (i64 0),.d (i64 0),.fn 118 [.ptr k 0]] h=some (.tup [],h):=by
 rw [aT V4 rfl];obtain rfl | ⟨B,cap,rfl⟩:=hv;all_goals
  simp +decide [aa,Ka];rw [au];simp;rw [aF];simp +decide [CY,V.under,V.under.go,bH]
theorem Y4 {E:Calls'}(k:Nat)(v:V)(hv:v=.d (.slice true [])\/∃ B cap,v=.row B 0 0 cap 5)(n:Int)(h:Hp):Sm E TZy jD 165 [v,.d (i64 0),.d (i64 0),.d (i64 n),.fn 118 [.ptr k 0]] h=some (.tup [],h):=by
 have kk:=λh=>Y8 (E:=E) k v hv h;rw [aT VX rfl];obtain rfl | ⟨B,cap,rfl⟩:=hv;all_goals
  simp +decide [aa,J3];rw [au];simp;rw [aF];simp +decide [CU,kk,V.under,V.under.go,bH]
theorem Y0 {E:Calls'}(k241:∀ x h,E 152 [.d (u64 x)] h=some (.d (i64 (mh x)),h))(k:Nat)(v:V)(hv:v=.d (.slice true [])\/∃ B cap,v=.row B 0 0 cap 5)(h:Hp):Sm E TZy jD 117 [v,.fn 118 [.ptr k 0]] h=some (.tup [],h):=by
 have kk:=λn h=>Y4 (E:=E) k v hv n h;have n241:∀ x h,Sm E TZy jD 152 [.d (u64 x)] h=some (.d (i64 (mh x)),h):=λx h=>by rw [aU Dj]; exact k241 x h
 have hw:wrap .u64 0=0:=by decide
 rw [aT VT rfl];obtain rfl | ⟨B,cap,rfl⟩:=hv;all_goals simp +decide [aa,JP,kk,n241,hw,V.under,V.under.go,bH]
noncomputable def rV (s:SF) (id:FuncId) (args:List V) (h:Hp):Option (V×Hp):=match args with
 | [.row _ 0 (_+1) _ _,_]=>ed s args h
 | _=>Sm ET0 TZy jD id args h
theorem qO {s:SF}{id:FuncId}{h:Hp}{B n z:Nat}{cap:Option Nat}{g:V}(hn:0<n):rV s id [.row B 0 n cap z,g] h=ed s [.row B 0 n cap z,g] h:=by
 cases n with
 | zero=>omega
 | succ n=>rfl
def Aj:SF:=⟨7,0,98,48⟩
def Al:SF:=⟨5,0,105,50⟩
def Am:SF:=⟨2,0,111,52⟩
def Ak:SF:=⟨5,0,118,55⟩
noncomputable def ET5:Calls':=Sm Et TT ak
theorem LH (x y:Pol)(hx:x.ok)(h:Hp):ET5 16 [ag x.c,ag y.c] h=some (bl (x.same y),h):=S29 x y hx h
theorem QS:DoesE (EX1 ET5):=⟨λp hp h=>S35 (E:=ET5) p hp h⟩
theorem sQ (x:Int)(h:Hp):ET0 152 [.d (u64 x)] h=some (.d (i64 (mh x)),h):=Yj (E:=noE) x h
noncomputable def ES4:Calls':=λf args h=>match [45,46,48,50,52,55,94].any (Nat.beq f) with
 | true=>Sm ET5 TI bn f args h
 | false=>match Nat.beq f 97,Nat.beq f 104,Nat.beq f 110,Nat.beq f 117 with
  | true,_,_,_=>rV Aj f args h
  | _,true,_,_=>rV Al f args h
  | _,_,true,_=>rV Am f args h
  | _,_,_,true=>rV Ak f args h
  | _,_,_,_=>ET0 f args h
theorem Py:PutD ES4 where
 h75 v hv hw a h ha:=Df i75 j75 (λh=>I75 (E:=ET5) (λs hs n h=>L9 (E:=Et) hs n h) (λp hp h=>Qr (E:=Et) (λt ht h=>Qs t ht h) p hp h) v hv hw h) ha
 h164 d hd hw h:=Xx (E:=ET5) (λs hs n h=>L9 (E:=Et) hs n h) (λp hp h=>Qr (E:=Et) (λt ht h=>Qs t ht h) p hp h) d hd hw h
 h113 p hp h:=Qi (E:=noE) p hp h
 h269 s hs n h:=E9 (E:=ET5) hs n h
 h166 p h:=LJ (E:=ET5) p h
 h168 p h:=LK (E:=ET5) p h
 h170 p h:=LM (E:=ET5) p h
 h172 p h:=LP (E:=ET5) p h
 h271 hn:=qO hn
 h276 hn:=qO hn
 h280 hn:=qO hn
 h284 hn:=qO hn
 n271 v k hv h:=by
  have:=YX (E:=ET0) sQ k v hv h;obtain rfl | ⟨B,cap,rfl⟩:=hv<;>exact this
 n276 v k hv h:=by
  have:=YY (E:=ET0) sQ k v hv h;obtain rfl | ⟨B,cap,rfl⟩:=hv<;>exact this
 n280 v k hv h:=by
  have:=YZ (E:=ET0) sQ k v hv h;obtain rfl | ⟨B,cap,rfl⟩:=hv<;>exact this
 n284 v k hv h:=by
  have:=Y0 (E:=ET0) sQ k v hv h;obtain rfl | ⟨B,cap,rfl⟩:=hv<;>exact this
noncomputable def EP4:Calls':=λf args h=>match Nat.beq f 19 with
 | true=>Sm noE TI bn f args h
 | false=>EX1 ET5 f args h
theorem KO:DocPutE EP4:=⟨λp hp h=>S35 (E:=ET5) p hp h,λd h=>I79 (E:=noE) d h,λp hp h=>Ym (E:=ET5) p hp h⟩
noncomputable def EQ4:Calls':=λf args h=>match Nat.beq f 42,Nat.beq f 26 with
 | true,_=>Sm (EX1 ET5) TVq De f args h
 | _,true=>Sm EP4 TDp bJ f args h
 | _,_=>EX1 ET5 f args h
theorem E8:Doc19E EQ4:=⟨λc hc h=>V34 QS c hc h,λa b ha h=>S38 (E:=ET5) LH a b ha h⟩
theorem LC {p:Psh}(hp:WholeP p)(v:Vw)(hv:v.ok)(hw:∀ q∈v.policies.l,q.wf big)(h:Hp):EQ4 26 [v.v,p.delta.v] h=some (if jf v p.delta=true then .tup [(cz v p.delta).v,.d (i64 0)] else .tup [vw0.v,.d (i64 1)],h):=by
 cases hm:bg v&&dL p.delta with
 | false =>
  have hd:jf v p.delta=false:=by simp [jf,hm]
  rw [hd];exact YV KO hv hw hp.d hp.w hp.l1 hp.l2 hp.l3 hp.l4 hm h
 | true =>
  have hd:jf v p.delta=bg (cz v p.delta):=by simp [jf,hm]
  simp only [ao] at hm;rw [hd];exact S84 KO hv hw hp.d hp.w hp.l1 hp.l2 hp.l3 hp.l4 hm.1 hm.2 h
noncomputable def ER4:Calls':=λf args h=>match Nat.beq f 19 with
 | true=>Sm noE TI bn f args h
 | false=>ET5 f args h
theorem yJ:LookE ER4 where
 e46 c hc n h:=S46 (E:=Et) c hc n h
 e70 v hv:=S70 (E:=Et) v hv
 e72 v hv x h:=S72 (E:=Et) v hv x h
 e73 v hv n h:=S73 (E:=Et) v hv n h
 e74 v hv n h:=S74 (E:=Et) v hv n h
 e79 d h:=I79 (E:=noE) d h
theorem Px:MineE ET5 where
 e42 c hc n a h ha:=by
  have h0:=λh=>S42 (E:=Et) c hc n h;cases hf:c.pods.l.find? λp=>p.uid==n with
  | none =>
   simp only [hf] at h0 ⊢;exact AB (p:=pod0.c) t42 v42 (by simp [pod0,Pod.c]) h0 ha
  | some p =>
   simp only [hf] at h0 ⊢;exact AB (p:=p.c) t42 v42 (by simp [Pod.c]) h0 ha
 e52 p x h:=S52 (E:=Et) p x h
 e113 p hp h:=Qi (E:=Et) p hp h
theorem Iq {E:Calls'}{T:FuncId->Option QF}{val:FuncId->Bool}{f:FuncId}{q:QF}(ht:T f=some q)(hv:val f=true){x y:D}{b:Bool}(h0:∀ h,Sm E T val f [.d x,.d y] h=some (bl b,h)){a:V}{h:Hp}(ha:frz h a=some (.d x)):Sm E T val f [a,.d y] h=some (bl b,h):=by
 have h1:=h0 h;rw [aQ ht hv] at h1 ⊢;simp only [List.mapM_cons,List.mapM_nil,xx,ha,Option.pure_def,Option.bind_eq_bind,Option.bind_some,nD,vU] at h1 ⊢;cases hB:Bd E T val q [.d x,.d y] ⟨[],0⟩ with
 | none=>rw [hB] at h1; cases h1
 | some p =>
  obtain ⟨r,h'⟩:=p;rw [hB] at h1;simp only [yH] at h1 ⊢;cases hr:frz h' r with
  | none=>rw [hr] at h1; cases h1
  | some r' =>
   rw [hr] at h1;have e1:r'=bl b:=by simp at h1; exact h1
   subst e1;have:=uE hr;subst this;simp [ownR,xJ,mq]
noncomputable def E4:Calls':=λf args h=>match Nat.beq f 6,Nat.beq f 8,Nat.beq f 14,Nat.beq f 17 with
 | true,_,_,_=>known 6 true f args h
 | _,true,_,_=>Sm ES4 TSd bA f args h
 | _,_,true,_=>Sm ET5 TDy kD f args h
 | _,_,_,true=>Sm noE TDz nE f args h
 | _,_,_,_=>match [5,4,12,13,15].any (Nat.beq f),[7,9,10,11].any (Nat.beq f) with
  | true,_=>Sm ER4 TDr lD f args h
  | _,true=>Sm EQ4 TDq jC f args h
  | _,_=>ET5 f args h
theorem Xv:H4 E4 where
 h16 h:=by show known 6 true 6 [] h=_; simp [known]
 h17 d hd:=S17 yJ d hd
 h18 x hx p hp bs:=Xy Py x hx p hp.d hp.w bs
 h20 x hv:=S20 yJ x hv
 h21 x ha hv h:=S21 E8 x ha hv h
 h22 x hx p hp h:=S22 E8 x hx p (λv hv hw h=>LC hp v hv hw h) h
 h23 a b ha hab w h hw:=Iq QQ rfl (λh=>S23 (E:=EQ4) ha hab h) hw
 h24 a b ha hv hs w h hw:=Ip QR rfl (λh=>S24 E8 ha hv hs h) hw (xw h b.c)
 h25 x hv n w h hw:=Ir (p:=(mi x n).c) Q9 rfl (by simp [Fnd.c,Pod.c,Svc.c,Way.c]) (λh=>S25 yJ x hv n h) hw
 h26 x hv n h:=S26 yJ x hv n h
 h27 x hf n L0 tag bs a w1 w2 w3 w4 w5 S:=Yl Px hf.p hf.l (λp hp=>(Pol.own_wf (hf.w p hp)).fits) n S
 h28 x hv n h:=S28 yJ x hv n h
 h29 x y hx h:=S29 (E:=Et) x y hx h
 h30 x L0 tag bs a w1 w2 w3 w4 w5 S hL hf:=S30 (E:=noE) S hL (ce hf.a (by decide)) (ce hf.p (by decide)) (ce hf.l (by decide))
theorem R4 {x:Idx}(hx:Whole x){p:Psh}(hp:WholeP p)(n k:Int)(h:Hp):Sm E4 TL4 nZ 3 [x.v,ag p.c,.d (u32 n),.d (u64 k)] h=some (bl true,h):=S4 Xv hx hp n k h
end
section
open Go.Sort Go.Shelf Go.RowKit
structure Rec (k p:Nat) where
 vs:List Value
 len:vs.length=k
 one:∀ v∈vs,v.oneCell'=true
 key:Int
 hk:vs[p]?=some (.int .u64 key)
abbrev Rec.inh {k p:Nat} (h:p<k):Inhabited (Rec k p):=⟨⟨List.replicate k (.int .u64 0),by simp,λv hv=>by rw [(List.mem_replicate.1 hv).2]; rfl,0,by simp [h]⟩⟩
def cfK {k p:Nat}(x y:Rec k p):Int:=if x.key<y.key then -1 else if y.key<x.key then 1 else 0
theorem CB {k p:Nat}(x y:Rec k p):ltOf cfK x y=decide (x.key<y.key):=by
 unfold ltOf cfK;by_cases h1:x.key<y.key
 . simp [h1]
 . by_cases h2:y.key<x.key<;>simp [h1,h2]
theorem OT {k p:Nat}:SWO (ltOf (cfK (k:=k) (p:=p))) where
 irrefl x:=by rw [CB]; simp
 trans x y z h1 h2:=by rw [CB] at *; simp at *; omega
 ntrans x y z h1 h2:=by rw [CB] at *; simp at *; omega
theorem pW {α:Type}{f:α->Int}:∀ {l:List α},(l.map f).Nodup->∀ a∈l,∀ b∈l,f a=f b->a=b
 | x::l,h,a,ha,b,hb,e=>by
  simp only [cn,List.nodup_cons,b9,not_exists,not_and] at h;obtain e1 | ha':=List.mem_cons.1 ha<;>obtain e2 | hb':=List.mem_cons.1 hb
  . rw [e1,e2]
  . exact absurd (by rw [← e1,e]) (h.1 b hb')
  . exact absurd (by rw [← e2,e]) (h.1 a ha')
  . exact pW h.2 a ha' b hb' e
theorem sJ {z:Nat}:∀ {l:List (List V)} {j:Nat},(∀ r∈l,r.length=z)->j<l.length * z->∃ r,l[j / z]?=some r/\l.flatten[j]?=r[j % z]?
 | [],j,_,h=>by simp at h
 | r::l,j,hl,h=>by
  have hr:=hl r (by simp);have hz:0<z:=by
   obtain hz | hz:=Nat.eq_zero_or_pos z
   . rw [hz] at h; simp at h
   . exact hz
  obtain hj | hj:=cm j z
  . refine ⟨r,by rw [Nat.div_eq_of_lt hj]; rfl,?_⟩;rw [List.flatten_cons,al (by omega),Nat.mod_eq_of_lt hj]
  . obtain ⟨k,rfl⟩:=Nat.exists_eq_add_of_le hj;rw [cg,Nat.add_mul,Nat.one_mul] at h;obtain ⟨r',e1,e2⟩:=sJ (l:=l) (j:=k) (λx hx=>hl x (List.mem_cons_of_mem _ hx)) (by omega);refine ⟨r',by rw [Nat.add_div_left _ hz]; simpa using e1,?_⟩;rw [List.flatten_cons,bk (by omega),hr,Nat.add_sub_cancel_left,e2,Nat.add_mod_left]
theorem BO {α:Type}{f:α->Int}{l1 l2 l:List α}(hnd:(l.map f).Nodup)(p1:l1.Perm l)(p2:l2.Perm l)(s1:l1.Pairwise λa b=>f a<=f b)(s2:l2.Pairwise λa b=>f a<=f b):l1=l2:=by
 refine (p1.trans p2.symm).eq_of_pairwise ?_ s1 s2;intro a b ha hb h1 h2;exact pW hnd a (p1.mem_iff.1 ha) b (p2.mem_iff.1 hb) (by omega)
variable {P:Program}{ρr:Ren}
theorem Cy {B:Nat}{ρ:Rh}{h:Hp}{w:World}(hR:Rel B ρ h w){b:Nat}{cs:List V}(hg:h.get b=some cs)(hne:cs≠[]):∃ hb:b<h.bs.length,h.bs[b].live=true:=by
 obtain ⟨hb,e⟩:=mQ hg;refine ⟨hb,?_⟩;rw [e];cases cs with
 | nil=>exact absurd rfl hne
 | cons _ _=>rfl
def pK (P:Program)(s:SF):Prop:=∀ (W:World) (c:Nat) (x y:Rec s.z s.p),W.cell? ⟨c,0,none⟩=some (.func (.func s.id) #[] #[]) →
 Calls P s.g #[.agg x.vs.toArray,.agg y.vs.toArray,.pointer (some ⟨c,0,none⟩)] W λe w'=>e=.returned (.int .i64 (cfK x y))/\∃ q os,w'=grow (W.drewN q) os
theorem nU (s:SF)(L:SlLaysF0.n6 P ρr)(aE:∀ w,(isAgg (ρr.t 24)).run P w=.ok true w)(zE:∀ w,(Go.sizeOf (ρr.t 24)).run P w=.ok s.z w)(eg:∀ args w,(callFunc s.g args).run P w=.ok (.enter s.g args) w)(hp:s.p<s.z)(hcmp:pK P s)
 {B:Nat} {ρ:Rh} {h:Hp} {w:World} {args:List V} {vs:Array Value} {r:V} {h':Hp} (hR:Rel B ρ h w) (hv:VRs ρ (St ρ w) w args vs.toList) (hm:ed s args h=some (r,h')) :
 Calls P (ρr.f 6) vs w (kF B ρ h w r h'):=by
 unfold ed at hm;split at hm
 . rename_i b n cap z g c;split at hm
   . rename_i cs id hgb hgc;split at hm
     . rename_i hall;obtain ⟨rfl,rfl,rfl,hbc,hn0,hn,hlen,hkeys,hnd⟩:=hall;cases hm;simp only [VRs] at hv;obtain ⟨u1,us1,e1,hu1,u2,us2,e2,hu2,e3⟩:=hv;subst e3; subst e2;have hvs:vs=#[u1,u2]:=Array.toList_inj.1 (by simpa using e1);subst hvs;simp only [VR,VRs] at hu1 hu2;obtain ⟨hbN,cc,rfl,hc1,hc2,_⟩:=hu1;obtain ⟨vs2,rfl,u3,us3,e4,⟨hcN,rfl⟩,rfl⟩:=hu2;have hvs2:vs2=#[.pointer (some ⟨ρ c,0,none⟩)]:=Array.toList_inj.1 (by simpa using e4);subst hvs2;have hz0:0<s.z:=by omega
       have hnz:0<n * s.z:=Nat.mul_pos hn0 hz0;have hne:cs≠[]:=by rintro rfl; simp at hlen; omega
       obtain ⟨arr,el,fz,k1,k2,k3,k4⟩:=gm hR hgb hne;obtain ⟨arr2,el2,fz2,m1,m2,m3,m4⟩:=gm hR hgc (by simp);obtain ⟨hbl,hlive⟩:=Cy hR hgb hne;obtain ⟨hcl,hclive⟩:=Cy hR hgc (by simp);have hcell:w.cell? ⟨ρ c,0,none⟩=some (.func (.func s.id) #[] #[]):=by
        have h1:0<arr2.size:=cd Nat.zero_lt_one (by simpa using m2);have h2:=(m4 0 (by simp) h1).1;simp only [List.getElem_cons_zero,VR,VRs] at h2;obtain ⟨vs3,e5,e6⟩:=h2;have e7:vs3=#[]:=Array.toList_inj.1 (by simpa using e6);subst e7;simp [World.cell?,m1,h1,e5]
       have hinj:ρ c≠ρ b:=hR.inj c b (Ne.symm hbc) (hR.live c hcl hclive) (hR.live b hbl hlive);have hlt:=(hR.lo b hbN).2;have hltc:=(hR.lo c hcN).2;have hbnd:∀ i,i<n->i * s.z+s.z<=n * s.z:=λi hi=>by
        have:=Nat.mul_le_mul_right s.z (show i+1<=n from hi)
        rwa [Nat.add_mul,Nat.one_mul] at this
       have hch:∀ i t,i<n->t<s.z->((cs.drop (i * s.z)).take s.z)[t]?=cs[i * s.z+t]?:=λi t hi ht=>by
        rw [List.getElem?_take_of_lt ht,List.getElem?_drop]
       have har:∀ i t,i<n->t<s.z->∃ v u,cs[i * s.z+t]?=some v/\arr[i * s.z+t]?=some u/\VR ρ (St ρ w) w v u/\u.oneCell'=true:=λi t hi ht=>by
        have:=hbnd i hi;have h1:i * s.z+t<cs.length:=by omega
        have h2:i * s.z+t<arr.size:=by omega
        exact ⟨cs[i * s.z+t],arr[i * s.z+t],by simp [h1],by simp [h2],k4 _ h1 h2⟩
       have hkey:∀ i,i<n->∃ m,mV s.p ((cs.drop (i * s.z)).take s.z)=m/\arr[i * s.z+s.p]?=some (.int .u64 m):=λi hi=>by
        have h1:=hkeys ((cs.drop (i * s.z)).take s.z) (by simp only [chunk,b9,List.mem_range]; exact ⟨i,hi,rfl⟩);obtain ⟨m,hm⟩:=Option.isSome_iff_exists.1 h1;have h2:=DW hm;rw [hch i s.p hi hp] at h2;obtain ⟨v,u,a1,a2,a3,_⟩:=har i s.p hi hp;rw [h2] at a1;cases a1;simp only [VR,DR] at a3;subst a3;exact ⟨m,by simp [mV,hm],a2⟩
       let cell:Nat->Value:=λj=>(arr[j]?).getD (.bool false)
       have hcl':∀ i t,i<n->t<s.z->arr[i * s.z+t]?=some (cell (i * s.z+t)):=λi t hi ht=>by
        obtain ⟨v,u,a1,a2,a3,a4⟩:=har i t hi ht;simp only [cell,a2,Option.getD_some]
       let rc:Fin n->Rec s.z s.p:=λi=>⟨(List.range s.z).map λt=>cell (i.1 * s.z+t),by simp,λv hv=>by
        simp only [b9,List.mem_range] at hv;obtain ⟨t,ht,rfl⟩:=hv;obtain ⟨v,u,a1,a2,a3,a4⟩:=har i.1 t i.2 ht;simp only [cell,a2,Option.getD_some]; exact a4,
        mV s.p ((cs.drop (i.1 * s.z)).take s.z),by
         obtain ⟨m,q1,q2⟩:=hkey i.1 i.2;simp only [List.getElem?_map,List.getElem?_range hp,Option.map_some,cell,q2,Option.getD_some,q1]⟩
       letI:Inhabited (Rec s.z s.p):=Rec.inh hp
       let prs:List (Rec s.z s.p×List V):=(List.finRange n).map λi=>(rc i,(cs.drop (i.1 * s.z)).take s.z)
       have hsnd:prs.map (·.2)=chunk s.z n cs:=by
        refine List.ext_getElem (by simp [prs,chunk]) λi h1 h2=>?_;simp [prs,chunk]
       let d:Array (Rec s.z s.p):=(prs.map (·.1)).toArray
       have hds:d.size=n:=by simp [d,prs]
       have hdi:∀ i (hi:i<n),d[i]! = rc ⟨i,hi⟩:=λi hi=>by
        rw [getElem!_pos d i (by omega)];simp [d,prs]
       have hprk:∀ x∈prs,x.1.key=mV s.p x.2:=λx hx=>by
        simp only [prs,b9] at hx;obtain ⟨i,_,rfl⟩:=hx;rfl
       have hkd:(prs.map (·.1)).map (·.key)=(chunk s.z n cs).map (mV s.p):=by
        rw [← hsnd];have e1:(prs.map (·.1)).map (·.key)=prs.map λx=>x.1.key:=List.map_map;have e2:(prs.map (·.2)).map (mV s.p)=prs.map λx=>mV s.p x.2:=List.map_map;rw [e1,e2];exact List.map_congr_left hprk
       let enc:Rec s.z s.p->List Value:=λx=>x.vs
       have hH:HoldsK enc s.z w (ρ b) 0 d:=by
        intro j hj;rw [size_flatK,hds] at hj;have hi:j / s.z<n:=by rw [Nat.div_lt_iff_lt_mul hz0]; exact hj
        have ht:j % s.z<s.z:=Nat.mod_lt _ hz0;have hjj:j / s.z * s.z+j % s.z=j:=by rw [Nat.mul_comm]; exact Nat.div_add_mod j s.z
        have hj2:j<arr.size:=by omega
        refine ⟨?_,by simpa using k3 j hj2⟩;rw [get_flatK _ _ _ _ (by rw [hds]; exact hj),hdi _ hi];have h1:=hcl' _ _ hi ht;rw [hjj] at h1;have h2:(enc (rc ⟨j / s.z,hi⟩))[j % s.z]! = cell j:=by
         simp only [enc,rc];rw [getElem!_pos _ _ (by simpa using ht)];simp [hjj]
        rw [h2];simp only [World.cell?,k1,Nat.zero_add,id_eq];simpa using h1
       have hcm:CmpLays P s.g #[.pointer (some ⟨ρ c,0,none⟩)] enc s.z cfK (ρ b) 0 d.size w:=by
        intro m os dk hdk x y;refine hcmp _ (ρ c) x y ?_;have hh:(sortWorldK enc s.z w (ρ b) 0 m dk os).heap[ρ c]?=w.heap[ρ c]?:=by
         show ((w.heap.modify (ρ b) _)++os)[ρ c]?=_;rw [Array.getElem?_append_left (by simpa using hltc),Array.getElem?_modify,if_neg (Ne.symm hinj)]
        rw [← hcell];simp only [World.cell?,hh]
       have hct:=AnyQ.slices_SortFunc L s.z aE zE enc (λx=>x.len) (λx=>x.one) cfK OT s.g #[.pointer (some ⟨ρ c,0,none⟩)] (ρ b) 0 cc d w eg hcm hH hlt (by rw [hds]; omega);rw [hds] at hct;refine hct.mono ?_;rintro e w' ⟨rfl,d',nn,os,hP,hS,rfl⟩;have hd's:d'.size=n:=by rw [hP.1,hds]
       have hperm:d'.toList.Perm (prs.map (·.1)):=by
        have:=hP.2.2;have x1:d'.extract 0 n=d':=by rw [← hd's]; exact Array.extract_size
        have x2:d.extract 0 n=d:=by rw [← hds]; exact Array.extract_size
        rw [x1,x2] at this;exact this
       have hsrt:d'.toList.Pairwise λa b=>a.key<=b.key:=by
        rw [List.pairwise_iff_getElem];intro i j hi hj hij;have hi':i<d'.size:=by simpa using hi
        have hj':j<d'.size:=by simpa using hj
        have:=hS i j (Nat.zero_le _) hij (by omega);rw [CB,getElem!_pos d' i hi',getElem!_pos d' j hj'] at this;simp only [decide_eq_false_iff_not] at this;simp only [Array.getElem_toList];omega
       let prs':=prs.mergeSort λx y=>decide (mV s.p x.2<=mV s.p y.2)
       have hp1:prs'.map (·.2)=gG s.p (chunk s.z n cs):=by
        rw [gG,← hsnd];exact List.map_mergeSort λ_ _ _ _=>rfl
       have hpp:prs'.Perm prs:=List.mergeSort_perm _ _;have hp2:d'.toList=prs'.map (·.1):=by
        refine BO (f:=(·.key)) (l:=prs.map (·.1)) (by rw [hkd]; exact hnd) hperm (hpp.map _) hsrt ?_;rw [List.pairwise_map];have hs:=List.pairwise_mergeSort (le:=λ(x y:Rec s.z s.p×List V)=>decide (mV s.p x.2<=mV s.p y.2)) (by intro a b c h1 h2; simp at *; omega) (by intro a b; simp; omega) prs;refine List.Pairwise.imp_of_mem ?_ hs;intro a b ha hb hab;rw [hprk a (hpp.mem_iff.1 ha),hprk b (hpp.mem_iff.1 hb)];simpa using hab
       have hplen:prs'.length=n:=by simp [prs',prs]
       have hat':∀ i (hi:i<n),∃ i0,∃ hi0:i0<n,d'[i]! = rc ⟨i0,hi0⟩/\(gG s.p (chunk s.z n cs))[i]?=some ((cs.drop (i0 * s.z)).take s.z):=λi hi=>by
        have hmem:prs'[i]'(by omega)∈prs:=hpp.mem_iff.1 (bh _);obtain ⟨i0,_,he⟩:=b9.1 hmem;refine ⟨i0.1,i0.2,?_,?_⟩
        . have h1:d'.toList[i]?=some (rc i0):=by
           rw [hp2,List.getElem?_map,ab (by omega),← he]; rfl
          rw [getElem!_pos d' i (by omega)];rw [ab (by simpa using (show i<d'.size by omega))] at h1;simpa using h1
        . rw [← hp1,List.getElem?_map,ab (by omega),← he]; rfl
       let w1:=putRowK enc s.z (Sort.ahead w nn) (ρ b) 0 d'
       have hheap:w1.heap=w.heap.modify (ρ b) (onCells (putCells id 0 (flatK enc s.z d'))):=rfl;have hsz:w1.heap.size=w.heap.size:=by rw [hheap]; simp
       have hoth:∀ k,k≠ρ b->w1.heap[k]?=w.heap[k]?:=λk hk=>by
        rw [hheap,Array.getElem?_modify,if_neg (Ne.symm hk)]
       have hat:w1.heap[ρ b]?=some (.cells (putCells id 0 (flatK enc s.z d') arr) el fz):=by
        rw [hheap,Array.getElem?_modify,if_pos rfl,k1]; rfl
       have hps:(putCells id 0 (flatK enc s.z d') arr).size=arr.size:=by simp [putCells]
       have hown:∀ arr' e' fz',w.heap[ρ b]?=some (.cells arr' e' fz')->∃ arr'' fz'',w1.heap[ρ b]?=some (.cells arr'' e' fz'')/\arr''.size=arr'.size:=by
        intro arr' e' fz' hh;rw [k1] at hh;cases hh;exact ⟨_,_,hat,hps⟩
       have q2:=kz hR (hR.live b hbl hlive) hsz hoth hown rfl rfl rfl;have hrl:∀ r∈gG s.p (chunk s.z n cs),r.length=s.z:=by
        intro r hr;have:=(List.mergeSort_perm _ _).mem_iff.1 hr;simp only [chunk,b9,List.mem_range] at this;obtain ⟨i,hi,rfl⟩:=this;have:=hbnd i hi;rw [List.length_take,List.length_drop]; omega
       have hsl:(gG s.p (chunk s.z n cs)).length=n:=by simp [gG,chunk]
       have hfl:((gG s.p (chunk s.z n cs)).flatten).length=n * s.z:=by
        rw [List.length_flatten];have:(gG s.p (chunk s.z n cs)).map List.length=List.replicate n s.z:=by
         rw [List.eq_replicate_iff];refine ⟨by simp [hsl],λx hx=>?_⟩;obtain ⟨r,hr,rfl⟩:=b9.1 hx;exact hrl r hr
        rw [this]; simp
       have hnew:((gG s.p (chunk s.z n cs)).flatten++cs.drop (n * s.z)).length=cs.length:=by
        rw [am,hfl,List.length_drop]; omega
       have hbr:BR ρ w1 (ρ b) (.cells ((gG s.p (chunk s.z n cs)).flatten++cs.drop (n * s.z))):=by
        have hne2:(gG s.p (chunk s.z n cs)).flatten++cs.drop (n * s.z)≠[]:=λhh=>by
         rw [hh] at hnew; simp at hnew; exact hne (List.eq_nil_of_length_eq_zero hnew.symm)
        have core:∃ arr' e' fz',w1.heap[ρ b]?=some (.cells arr' e' fz')/\((gG s.p (chunk s.z n cs)).flatten++cs.drop (n * s.z)).length<=arr'.size/\(∀ j,j<arr'.size->w1.frozen? ⟨ρ b,j,none⟩=false) ∧
         ∀ (j:Nat) (h1:j<((gG s.p (chunk s.z n cs)).flatten++cs.drop (n * s.z)).length) (h2:j<arr'.size),VR ρ (St ρ w1) w1 ((gG s.p (chunk s.z n cs)).flatten++cs.drop (n * s.z))[j] arr'[j]/\arr'[j].oneCell'=true:=by
         refine ⟨_,_,_,hat,by rw [hps,hnew]; exact k2,λj hj=>?_,λj h1 h2=>?_⟩
         . have:=k3 j (by rw [← hps]; exact hj);rw [← this];exact frozen?_mapBlock (Sort.ahead w nn) (ρ b) _ _
         . have hja:j<arr.size:=by rw [← hps]; exact h2
           have hjc:j<cs.length:=by rw [← hnew]; exact h1
           obtain hj | hj:=cm j (n * s.z)
           . have hi:j / s.z<n:=by rw [Nat.div_lt_iff_lt_mul hz0]; exact hj
             have ht:j % s.z<s.z:=Nat.mod_lt _ hz0;obtain ⟨i0,hi0,a1,a2⟩:=hat' _ hi;obtain ⟨r,b1,b2⟩:=sJ (j:=j) hrl (by rw [hsl]; exact hj);rw [a2] at b1;cases b1;rw [hch i0 _ hi0 ht] at b2;obtain ⟨v,u,c1,c2,c3,c4⟩:=har i0 _ hi0 ht;have hV:((gG s.p (chunk s.z n cs)).flatten++cs.drop (n * s.z))[j]=v:=by
              rw [List.getElem_append_left (by rw [hfl]; exact hj)];have:=b2.trans c1;rw [ab (by rw [hfl]; exact hj)] at this;simpa using this
             have hU:(putCells id 0 (flatK enc s.z d') arr)[j]=u:=by
              simp only [putCells,Array.getElem_mapIdx];rw [if_pos ⟨Nat.zero_le _,by rw [size_flatK,hd's]; omega⟩,Nat.sub_zero,get_flatK _ _ _ _ (by rw [hd's]; exact hj),a1];simp only [enc,rc,id_eq];rw [getElem!_pos _ _ (by simpa using ht)];simp [cell,c2]
             rw [hV,hU];exact ⟨c3.ext q2.ext,c4⟩
           . have hV:((gG s.p (chunk s.z n cs)).flatten++cs.drop (n * s.z))[j]=cs[j]:=by
              rw [List.getElem_append_right (by rw [hfl]; exact hj)];simp only [List.getElem_drop,hfl]
              congr 1
              omega
             have hU:(putCells id 0 (flatK enc s.z d') arr)[j]=arr[j]:=by
              simp only [putCells,Array.getElem_mapIdx];rw [if_neg (by rw [size_flatK,hd's]; omega)]
             rw [hV,hU];exact ⟨(k4 j hjc hja).1.ext q2.ext,(k4 j hjc hja).2⟩
        revert core hne2
        cases (gG s.p (chunk s.z n cs)).flatten++cs.drop (n * s.z) with
        | nil=>intro hne2 _; exact absurd rfl hne2
        | cons x xs=>intro _ core; simpa only [BR] using core
       have q1:=qN hR hbl hlive hsz hoth hown rfl rfl rfl (.cells ((gG s.p (chunk s.z n cs)).flatten++cs.drop (n * s.z))) hbr (min h.low b);have hbel:Below w1.heap.size w1 (grow w1 os):=⟨rfl,rfl,rfl,by simp [grow],λk hk=>by simp [grow,Array.getElem?_append_left hk]⟩;obtain ⟨q3,q4⟩:=qZ q1 hbel;exact ⟨_,ρ,rfl,q3,q2.trans q4,by simp only [VRx,VR,VRs]; exact ⟨_,rfl,rfl⟩⟩
     . cases hm
   . cases hm
 . cases hm
end
section
theorem Sl.wf.le {α:Type}{B B':Nat}(hB:B<=B'){f:Nat->α->Prop}(hf:∀ x,f B x->f B' x){s:Sl α}(h:s.wf B f):s.wf B' f:=⟨h.1.le hB,λx hx=>hf x (h.2 x hx)⟩
section
variable {B B':Nat}(hB:B<=B')
include hB
theorem Pod.wf.le {x:Pod}(h:x.wf B):x.wf B':=⟨h.1,cf h.2.1 hB,cf h.2.2.1 hB,h.2.2.2⟩
theorem Svc.wf.le {x:Svc}(h:x.wf B):x.wf B':=⟨h.1,cf h.2.1 hB,h.2.2⟩
omit hB in
theorem Way.wf.le {x:Way}(h:x.wf B):x.wf B':=⟨h.1,h.2⟩
theorem Term.wf.le {x:Term}(h:x.wf B):x.wf B':=⟨h.1,cf h.2 hB⟩
omit hB in
theorem Cidr.wf.le {x:Cidr}(h:x.wf B):x.wf B':=⟨h.1,h.2⟩
theorem Source.wf.le {x:Source}(h:x.wf B):x.wf B':=⟨Sl.wf.le hB (λ_=>Term.wf.le hB) h.1,Sl.wf.le hB (λ_=>Term.wf.le hB) h.2.1,Sl.wf.le hB (λ_=>Cidr.wf.le) h.2.2⟩
theorem Target.wf.le {x:Target}(h:x.wf B):x.wf B':=⟨Sl.wf.le hB (λ_ h=>h) h.1,Sl.wf.le hB (λ_=>Term.wf.le hB) h.2.1,Sl.wf.le hB (λ_=>Term.wf.le hB) h.2.2.1,Sl.wf.le hB (λ_=>Term.wf.le hB) h.2.2.2⟩
theorem When.wf.le {x:When}(h:x.wf B):x.wf B':=⟨cf h.1 hB,Sl.wf.le hB (λ_=>Term.wf.le hB) h.2⟩
theorem Rule.wf.le {x:Rule}(h:x.wf B):x.wf B':=⟨Sl.wf.le hB (λ_=>Source.wf.le hB) h.1,Sl.wf.le hB (λ_=>Target.wf.le hB) h.2.1,Sl.wf.le hB (λ_=>When.wf.le hB) h.2.2⟩
theorem Pol.wf.le {x:Pol}(h:x.wf B):x.wf B':=⟨h.1,cf h.2.1 hB,h.2.2.1,h.2.2.2.1,Sl.wf.le hB (λ_=>Rule.wf.le hB) h.2.2.2.2⟩
theorem Cfg.wf.le {x:Cfg}(h:x.wf B):x.wf B':=⟨h.1,h.2.1,h.2.2.1,h.2.2.2.1,Sl.wf.le hB (λ_=>Pod.wf.le hB) h.2.2.2.2.1,Sl.wf.le hB (λ_=>Svc.wf.le hB) h.2.2.2.2.2.1,Sl.wf.le hB (λ_=>Way.wf.le) h.2.2.2.2.2.2.1,Sl.wf.le hB (λ_=>Pol.wf.le hB) h.2.2.2.2.2.2.2⟩
end
end
