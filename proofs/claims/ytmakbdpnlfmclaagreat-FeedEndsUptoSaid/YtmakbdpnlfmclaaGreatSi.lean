/- Heavy: it ends, with a bool. -/
import Derived.Test.YtmakbdpnlfmclaaGreatSa
import Derived.Laws.RangeString
import Derived.KernelRfl
import Derived.Shelf.Sort.Plain
import Derived.Shelf.Slices.In.SortNone
set_option maxRecDepth 100000
set_option linter.unusedVariables false
set_option linter.unusedSimpArgs false
namespace Go.Proofs.YtmakbdpnlfmclaaGreat
open IntKind (wrap)
section
variable {E:Calls'}
theorem WX {p:Pol}(hp:p.ok):∀ (m i:Nat) (n:Int) (J:List Blk),i+m=p.rules.l.length →
 ∃ n' J',Cd E TT ah (.loop [1,3,4] qI) [(1,.ptr 0 0),(3,.d (i64 n)),(4,.d (i64 i))] ⟨.cells (p.c.map .d)::J,0⟩=some (.exit 0,[(3,.d (i64 n'))],⟨.cells (p.c.map .d)::J',0⟩):=by
 have hlt:=hp.1.lt;intro m;have key:=ak (E:=E) (T:=TT) (val:=ah) [1,3,4] qI;generalize Cd E TT ah (.loop [1,3,4] qI)=W at key ⊢
 induction m with
 | zero =>
  intro i n J hi;refine ⟨n,J,?_⟩;rw [key];simp [qI,show ¬ ((i:Int)<p.rules.l.length) from by omega]
 | succ m ih =>
  intro i n J hi;have h1:i<p.rules.l.length:=by omega
  have hx:=λh=>aK (z:=3) h (ab h1) (cells:=Rule.c) rfl;have hw:=aA h1 hlt;have hfx:=hp.2 _ (bh h1);by_cases hn:n<=2000
  . generalize p.rules.l[i]=x at *;obtain ⟨n1,q1⟩:=WU (E:=E) hfx (h:=⟨.cells (p.c.map .d)::(J++[.cells (x.c.map .d)]),0⟩) (q:=J.length+1) (t1:=.ptr 0 0) (t4:=.d (i64 i)) (by simp) x.frm.l.length 0 (wrap .i64 (n+wrap .i64 (wrap .i64 (wrap .i64 (1+(x.frm.l.length:Int))+(x.to.l.length:Int))+(x.whn.l.length:Int)))) (by omega);obtain ⟨n2,q2⟩:=WV (E:=E) hfx (h:=⟨.cells (p.c.map .d)::(J++[.cells (x.c.map .d)]),0⟩) (q:=J.length+1) (t1:=.ptr 0 0) (t4:=.d (i64 i)) (by simp) x.to.l.length 0 n1 (by omega);obtain ⟨n3,q3⟩:=WW (E:=E) hfx (h:=⟨.cells (p.c.map .d)::(J++[.cells (x.c.map .d)]),0⟩) (q:=J.length+1) (t1:=.ptr 0 0) (t4:=.d (i64 i)) (by simp) x.whn.l.length 0 n2 (by omega);simp at q1 q2 q3;rw [key];simp [qI,hx,hn,show ((i:Int)<p.rules.l.length) from by omega];rw [aj];simp [q1];rw [aj];simp [q2];rw [aj];simp [q3,hw];rw [show ((i:Int)+1)=((i+1:Nat):Int) from by omega];exact ih (i+1) _ _ (by omega)
  . refine ⟨n,J,?_⟩;rw [key];simp [qI,hn,show ((i:Int)<p.rules.l.length) from by omega]
theorem S87 (p:Pol)(hp:p.ok):∃ n':Int,∀ h,Sm E TT ah 21 [ag p.c] h=some (.d (i64 n'),h):=by
 obtain ⟨k,hk⟩:=mq (n:=p.ns.size);obtain ⟨n',J',q1⟩:=WX (E:=E) hp p.rules.l.length 0 (wrap .i64 (1+k)) [] (by omega);refine ⟨n',λh=>?_⟩;rw [aN t87 v87];simp at q1;simp [aa,q87,hk];rw [aj];simp [q1]
theorem WJ (c:Cfg)(hc:c.ok):∀ (m i:Nat) (n:Int),i+m=c.pods.l.length →
 ∃ n',Cd E TT ah (.loop [1,3,4] qz) [(1,.ptr 0 0),(3,.d (i64 n)),(4,.d (i64 i))] ⟨[.cells (c.c.map .d)],0⟩=some (.exit 0,[(1,.ptr 0 0),(3,.d (i64 n'))],⟨[.cells (c.c.map .d)],0⟩):=by
 have hlt:=hc.1.lt;intro m;have key:=ak (E:=E) (T:=TT) (val:=ah) [1,3,4] qz;generalize Cd E TT ah (.loop [1,3,4] qz)=W at key ⊢
 induction m with
 | zero =>
  intro i n hi;refine ⟨n,?_⟩;rw [key];simp [qz,show ¬ ((i:Int)<c.pods.l.length) from by omega]
 | succ m ih =>
  intro i n hi;have h1:i<c.pods.l.length:=by omega
  have hx:=λh=>aK (z:=7) h (ab h1) (cells:=Pod.c) rfl;have hw:=aA h1 hlt;by_cases hn:n<=2000
  . generalize c.pods.l[i]=x at *;obtain ⟨k,hk⟩:=mq (n:=wrap .i64 ((x.ns.size:Int)+(x.sa.size:Int)));rw [key];simp [qz,hx,hk,hw,hn,show ((i:Int)<c.pods.l.length) from by omega];rw [show ((i:Int)+1)=((i+1:Nat):Int) from by omega];exact ih (i+1) _ (by omega)
  . refine ⟨n,?_⟩;rw [key];simp [qz,hn,show ((i:Int)<c.pods.l.length) from by omega]
theorem WK (c:Cfg)(hc:c.ok):∀ (m i:Nat) (n:Int),i+m=c.services.l.length →
 ∃ n',Cd E TT ah (.loop [1,3,5] qA) [(1,.ptr 0 0),(3,.d (i64 n)),(5,.d (i64 i))] ⟨[.cells (c.c.map .d)],0⟩=some (.exit 2,[(1,.ptr 0 0),(3,.d (i64 n'))],⟨[.cells (c.c.map .d)],0⟩):=by
 have hlt:=hc.2.1.lt;intro m;have key:=ak (E:=E) (T:=TT) (val:=ah) [1,3,5] qA;generalize Cd E TT ah (.loop [1,3,5] qA)=W at key ⊢
 induction m with
 | zero =>
  intro i n hi;refine ⟨n,?_⟩;rw [key];simp [qA,show ¬ ((i:Int)<c.services.l.length) from by omega]
 | succ m ih =>
  intro i n hi;have h1:i<c.services.l.length:=by omega
  have hx:=λh=>aK (z:=5) h (ab h1) (cells:=Svc.c) rfl;have hw:=aA h1 hlt;by_cases hn:n<=2000
  . generalize c.services.l[i]=x at *;obtain ⟨k,hk⟩:=mq (n:=x.ns.size);rw [key];simp [qA,hx,hk,hw,hn,show ((i:Int)<c.services.l.length) from by omega];rw [show ((i:Int)+1)=((i+1:Nat):Int) from by omega];exact ih (i+1) _ (by omega)
  . refine ⟨n,?_⟩;rw [key];simp [qA,hn,show ((i:Int)<c.services.l.length) from by omega]
theorem WL (c:Cfg)(hc:c.ok):∀ (m i:Nat) (n:Int),i+m=c.policies.l.length →
 ∃ n',Cd E TT ah (.loop [1,3,6] qB) [(1,.ptr 0 0),(3,.d (i64 n)),(6,.d (i64 i))] ⟨[.cells (c.c.map .d)],0⟩=some (.exit 4,[(3,.d (i64 n'))],⟨[.cells (c.c.map .d)],0⟩):=by
 have hlt:=hc.2.2.2.1.lt;intro m;have key:=ak (E:=E) (T:=TT) (val:=ah) [1,3,6] qB;generalize Cd E TT ah (.loop [1,3,6] qB)=W at key ⊢
 induction m with
 | zero =>
  intro i n hi;refine ⟨n,?_⟩;rw [key];simp [qB,show ¬ ((i:Int)<c.policies.l.length) from by omega]
 | succ m ih =>
  intro i n hi;have h1:i<c.policies.l.length:=by omega
  have hx:=λh=>aK (z:=5) h (ab h1) (cells:=Pol.c) rfl;have hw:=aA h1 hlt;have hfx:=hc.2.2.2.2 _ (bh h1);by_cases hn:n<=2000
  . generalize c.policies.l[i]=x at *;obtain ⟨k,hk⟩:=S87 (E:=E) x hfx;rw [key];simp [qB,hx,hk,hw,hn,show ((i:Int)<c.policies.l.length) from by omega];rw [show ((i:Int)+1)=((i+1:Nat):Int) from by omega];exact ih (i+1) _ (by omega)
  . refine ⟨n,?_⟩;rw [key];simp [qB,hn,show ((i:Int)<c.policies.l.length) from by omega]
theorem S31 (c:Cfg)(hc:c.ok):∃ b:Bool,∀ h,Sm E TT ah 5 [c.v] h=some (bl b,h):=by
 obtain ⟨n1,q1⟩:=WJ (E:=E) c hc c.pods.l.length 0 (wrap .i64 (wrap .i64 ((c.pods.l.length:Int)+(c.services.l.length:Int))+(c.bound.l.length:Int))) (by omega);obtain ⟨n2,q2⟩:=WK (E:=E) c hc c.services.l.length 0 n1 (by omega);obtain ⟨n3,q3⟩:=WL (E:=E) c hc c.policies.l.length 0 n2 (by omega);refine ⟨decide (2000<n3),λh=>?_⟩;rw [aN t31 v31];simp at q1 q2 q3;simp [aa,q31];rw [aj];simp [q1];rw [aj];simp [q2];rw [aj];simp [q3]
end
section
variable {E:Calls'}
def aV (n:Int):List D:=[u32 n]
structure Vw where
 epoch:Int
 covers:Sl Int
 pods:Sl Pod
 services:Sl Svc
 bound:Sl Way
 policies:Sl Pol
def Vw.c (x:Vw):List D:=[u64 x.epoch,x.covers.d aV,x.pods.d Pod.c,x.services.d Svc.c,x.bound.d Way.c,x.policies.d Pol.c]
abbrev Vw.v (x:Vw):V:=ag x.c
def Vw.cfg (x:Vw):Cfg:=⟨0,0,0,0,x.pods,x.services,x.bound,x.policies⟩
abbrev Vw.ok (x:Vw):Prop:=short x.covers/\x.cfg.ok
@[simp] theorem Vw.len {x:Vw}:x.c.length=6:=(rfl)
@[simp] theorem Vw.all {x:Vw}:sub x.c 0 6=some x.c:=(rfl)
@[simp] theorem Vw.s0_1 {x:Vw}:sub x.c 0 1=some [u64 x.epoch]:=(rfl)
@[simp] theorem Vw.s1_1 {x:Vw}:sub x.c 1 1=some [x.covers.d aV]:=(rfl)
@[simp] theorem Vw.s2_1 {x:Vw}:sub x.c 2 1=some [x.pods.d Pod.c]:=(rfl)
@[simp] theorem Vw.s3_1 {x:Vw}:sub x.c 3 1=some [x.services.d Svc.c]:=(rfl)
@[simp] theorem Vw.s4_1 {x:Vw}:sub x.c 4 1=some [x.bound.d Way.c]:=(rfl)
@[simp] theorem Vw.s5_1 {x:Vw}:sub x.c 5 1=some [x.policies.d Pol.c]:=(rfl)
structure Fnd where
 kind:Int
 pod:Pod
 service:Svc
 way:Way
def Fnd.c (x:Fnd):List D:=i64 x.kind::(x.pod.c++(x.service.c++x.way.c))
abbrev Fnd.v (x:Fnd):V:=ag x.c
def fnd0:Fnd:=⟨0,pod0,svc0,way0⟩
@[simp] theorem Fnd.len {x:Fnd}:x.c.length=15:=(rfl)
@[simp] theorem Fnd.all {x:Fnd}:sub x.c 0 15=some x.c:=(rfl)
@[simp] theorem Fnd.s1_7 {x:Fnd}:sub x.c 1 7=some x.pod.c:=(rfl)
@[simp] theorem Fnd.s7_1 {x:Fnd}:sub x.c 7 1=some [u64 x.pod.service]:=(rfl)
@[simp] theorem Fnd.s8_5 {x:Fnd}:sub x.c 8 5=some x.service.c:=(rfl)
@[simp] theorem ec0:[(V.d (.int .i64 0)),(.d (.int .u64 0)),(.d (.str ⟨#[]⟩)),(.d (.str ⟨#[]⟩)),(.d (.int .i64 0)),(.d (.int .u32 0)),(.d (.int .i64 0)),(.d (.int .u64 0)),(.d (.int .u64 0)),(.d (.str ⟨#[]⟩)),(.d (.int .u32 0)),(.d (.int .i64 0)),(.d (.int .u64 0)),(.d (.int .u64 0)),(.d (.int .i64 0))]=fnd0.c.map .d:=(rfl)
@[simp] theorem bt5 {x:Fnd}{k:Int}:put (x.c.map V.d) 0 [.d (i64 k)]=some ((Fnd.c { x with kind:=k }).map .d):=(rfl)
@[simp] theorem eb9 {x:Fnd}{k:Int}:V.d (.int .i64 k)::(x.c.map V.d).tail=(Fnd.c { x with kind:=k }).map .d:=(rfl)
@[simp] theorem eb8 {x:Fnd}:(x.c.map V.d).drop 15=[]:=(rfl)
@[simp] theorem bt6 {x:Fnd}{p:Pod}:put (x.c.map V.d) 1 (p.c.map .d)=some ((Fnd.c { x with pod:=p }).map .d):=(rfl)
@[simp] theorem bt7 {x:Fnd}{p:Svc}:put (x.c.map V.d) 8 (p.c.map .d)=some ((Fnd.c { x with service:=p }).map .d):=(rfl)
@[simp] theorem av2 {x:Fnd}{p:Way}:put (x.c.map V.d) 13 (p.c.map .d)=some ((Fnd.c { x with way:=p }).map .d):=(rfl)
@[simp] theorem av3 {x y:Fnd}:put (x.c.map V.d) 0 (y.c.map .d)=some (y.c.map .d):=(rfl)
def Fnd.eqB (x y:Fnd):Bool:=x.kind==y.kind&&(x.pod.uid==y.pod.uid&&(eqS x.pod.ns y.pod.ns&&(eqS x.pod.sa y.pod.sa&&(x.pod.host==y.pod.host&&(x.pod.addr==y.pod.addr&&(x.pod.port==y.pod.port&&(x.pod.service==y.pod.service&&(x.service.id==y.service.id&&(eqS x.service.ns y.service.ns&&(x.service.addr==y.service.addr&&(x.service.port==y.service.port&&(x.service.way==y.service.way&&(x.way.id==y.way.id&&(x.way.node==y.way.node&&true))))))))))))))
@[simp] theorem au9 {h:Hp}{n:Bool}{x y:Fnd}:eqv (.agg [(.i .i64),(.i .u64),.s,.s,(.i .i64),(.i .u32),(.i .i64),(.i .u64),(.i .u64),.s,(.i .u32),(.i .i64),(.i .u64),(.i .u64),(.i .i64)]) n (ag x.c) (ag y.c) h=some (.d (.bool (x.eqB y != n)),h):=by
 simp [eqv,iM,ag,Fnd.c,Pod.c,Svc.c,Way.c,bE,nZ,Fnd.eqB,eqS]
@[simp] theorem Fnd.eqB_refl (x:Fnd):x.eqB x=true:=by simp [Fnd.eqB]
end
section
variable {E:Calls'}
@[simp] theorem RX {α:Type}(l:List α):l.find? (λ_=>false)=none:=by simp [List.find?_eq_none]
theorem bd3 {s:Sl Int}(hs:short s)(n:Int)(h:Hp):∀ (m i:Nat),i+m=s.l.length →
 Cd E TT ah (.loop [0,1,7,8] nC) [(0,.d (s.d aV)),(1,.d (u32 n)),(7,.d (i64 s.l.length)),(8,.d (i64 i))] h =
  match (s.l.drop i).findIdx? (λx=>x==n) with
  | some k=>some (.ret,[(4,.d (i64 (i+k:Nat)))],h)
  | none=>some (.exit 0,[],h):=by
 have hlt:=hs.lt;intro m;have key:=ak (E:=E) (T:=TT) (val:=ah) [0,1,7,8] nC;generalize Cd E TT ah (.loop [0,1,7,8] nC)=W at key ⊢
 induction m with
 | zero =>
  intro i hi;have h0:s.l.drop i=[]:=ba (by omega);rw [key];simp [nC,h0,show ¬ ((i:Int)<s.l.length) from by omega]
 | succ m ih =>
  intro i hi;have h1:i<s.l.length:=by omega
  have hx:=λh=>aK (z:=1) h (ab h1) (cells:=aV) rfl;have hw:=aA h1 hlt;have:=ih (i+1) (by omega);rw [key,aw h1];generalize s.l[i]=x at *;by_cases hq:x=n
  . simp [nC,hx,hq,aV,List.findIdx?_cons,show ((i:Int)<s.l.length) from by omega]
  . have hq':(x==n)=false:=by simpa using hq
    have hq2:¬ n=x:=λh=>hq h.symm;simp [nC,hx,hq',hq2,aV,hw,List.findIdx?_cons,show ((i:Int)<s.l.length) from by omega];rw [show ((i:Int)+1)=((i+1:Nat):Int) from by omega,this];cases hfi:(s.l.drop (i+1)).findIdx? (λp=>p==n) with
    | none=>rfl
    | some k=>simp; omega
theorem Xq {s:Sl Int}(hs:short s)(n:Int)(h:Hp):Sm E TT ah 118 [.d (s.d aV),.d (u32 n)] h=some (.d (i64 (mh s.l λx=>x==n)),h):=by
 rw [aN t232 v232];have k1:=λh=>bd3 (E:=E) hs n h s.l.length 0 (by omega);simp at k1;simp [aa,Om];rw [aj];simp [k1,mh];cases s.l.findIdx? (λx=>x==n) with
 | none=>simp
 | some k=>simp
def fM (l:List Int)(n:Int):Bool:=(l.find? λx=>x==n).isSome
theorem Xf {s:Sl Int}(hs:short s)(n:Int)(h:Hp):Sm E TT ah 37 [.d (s.d aV),.d (u32 n)] h=some (bl (fM s.l n),h):=by
 rw [aN t117 v117];obtain ⟨g1,g2⟩ | ⟨k,p,g1,g2,g3⟩:=iI s.l (λx=>x==n)
 . simp [aa,KR,Xq hs,g2,fM,g1]
 . simp [aa,KR,Xq hs,g2,fM,g1]
end
section
variable {E:Calls'}
end
section
section
variable {E:Calls'}
def rJ:List V:=[(.d (.int .u64 0)),(.d (.str ⟨#[]⟩)),(.d (.int .u64 0)),(.d (.int .i64 0)),(.d (.slice true []))]
theorem ak1:TT 213=some (idxQ 5):=ai7
end
end
section
variable {E:Calls'}
theorem DZ {l:List Pol}{bs0:List Blk}{b:Nat}(hb:ai bs0 b=some (flat (l.map Pol.c))):Thin Pol.c 5 l bs0 b [] bs0 :=
 ⟨bp _,λ_ _ _=>rfl,by rw [hb]; simp⟩
theorem LQ {l m:List Pol}{bs0 bs:List Blk}{b:Nat}(h:Thin Pol.c 5 l bs0 b m bs)(hm:m.length=l.length):ai bs b=some (flat (m.map Pol.c)):=by
 have h1:=bu (cells:=Pol.c) (z:=5) (λ_=>rfl) l;rw [h.row,hm,ba (by rw [h1]; omega),List.append_nil]
end
section
variable {E:Calls'}
end
section
variable {E:Calls'}
end
section
def AR (x i:V)(h:Hp):Option (V×Hp):=match i,x with
 | .d (.int _ i),.d (.str s)=>if 0<=i then (match s.toList[i.toNat]? with | some b=>some (.d (.int .u8 b.toNat),h) | none=>none) else none
 | _,_=>none
section
variable {C:Calls'}{ev:X->V}{h:Hp}
@[simp] theorem YG {x i:X}:opE C (.idxS x i) ev h=AR (ev x) (ev i) h:=(rfl)
end
theorem AU {s:ByteArray}{k:Nat}{b:UInt8}{h:Hp}(hk:s.toList[k]?=some b):AR (.d (.str s)) (.d (.int .i64 k)) h=some (.d (.int .u8 b.toNat),h):=by
 simp [AR,hk]
theorem lU (s:ByteArray):s.toList.length=s.size:=by rw [bZ]; rfl
variable {E:Calls'}
def CF (b:UInt8):Bool:=decide ((b.toNat:Int)<33)||(decide ((b.toNat:Int)>126)||((b.toNat:Int)==42||(b.toNat:Int)==44))
def mi:List UInt8->Bool
 | []=>false
 | b::l=>CF b||mi l
def ko (t:Term):Bool:=!mi t.text.toList&&(if t.kind==4 then eqS t.text ⟨#[]⟩ else decide (1<=t.kind)&&(decide (t.kind<=3)&&(decide ((t.text.size:Int)>=1)&&decide ((t.text.size:Int)<=64))))
theorem bd9 (t:Term)(ht:t.text.size<=big):∀ (m i:Nat),i+m=t.text.size →
 Cd E TT ah (.loop [1,3] jB) [(1,.ptr 0 0),(3,.d (i64 i))] ⟨[.cells (t.c.map .d)],0⟩ =
  if mi (t.text.toList.drop i) then some (.ret,[(2,bl false)],⟨[.cells (t.c.map .d)],0⟩) else some (.exit 0,[(1,.ptr 0 0)],⟨[.cells (t.c.map .d)],0⟩):=by
 have hlt:t.text.size<2 ^ 62:=cf ht (by decide);have hsl:=lU t.text;intro m;have key:=ak (E:=E) (T:=TT) (val:=ah) [1,3] jB;generalize Cd E TT ah (.loop [1,3] jB)=W at key ⊢
 induction m with
 | zero =>
  intro i hi;rw [key,ba (by omega)];simp [jB,mi,show ¬ ((i:Int)<t.text.size) from by omega]
 | succ m ih =>
  intro i hi;have h1:i<t.text.toList.length:=by omega
  have hx:=λh=>AU (h:=h) (ab h1);have hw:=aA (show i<t.text.size by omega) hlt;have:=ih (i+1) (by omega);rw [key,aw h1];generalize t.text.toList[i]=b at *;have h0:((i:Int)<t.text.size):=by omega
  by_cases c1:(b.toNat:Int)<33
  . simp [jB,hx,c1,mi,CF,au,h0]
  . by_cases c2:(b.toNat:Int)>126
    . simp [jB,hx,c1,c2,mi,CF,au,h0]
    . by_cases c3:(b.toNat:Int)=42
      . simp [jB,hx,c3,mi,CF,au,h0]
      . by_cases c4:(b.toNat:Int)=44
        . simp [jB,hx,c4,mi,CF,au,h0]
        . have hb:CF b=false:=by simp [CF,c1,c2,c3,c4]
          simp [mi,hb,jB,hx,c1,c2,c3,c4,au,h0,hw];simpa using this
theorem bm7 (t:Term)(ht:t.text.size<=big)(h:Hp):Sm E TT ah 390 [ag t.c] h=some (bl (ko t),h):=by
 rw [aN df5 dx2];have k1:=bd9 (E:=E) t ht t.text.size 0 (by omega);simp at k1;simp [aa,Vh];rw [aj];simp [k1];cases hb:mi t.text.toList with
 | true=>simp [ko,hb]
 | false =>
  by_cases c0:t.kind=4
  . simp [ko,hb,c0]
  . by_cases c1:t.kind>=1<;>by_cases c2:t.kind<=3<;>by_cases c3:(t.text.size:Int)>=1<;>simp [ko,hb,c0,au,c1,c2,c3]
theorem dk9:TT 402=some (idxQ 2):=df8
theorem dk6:TT 388=some (anyQ 402):=df3
theorem dk5:TT 387=some idx1Q:=df1
theorem dj4:TT 371=some (anyQ 387):=de0
theorem bm6 (t:Term)(ht:t.text.size<=big)(h:Hp):Sm E TT ah 389 [ag t.c] h=some (bl (!ko t),h):=by
 rw [ax df4 dx1];simp [aa,Vg,bm7 t ht,V.under]
def bi (s:Sl Term):Bool:=decide ((s.l.length:Int)<=6)&&s.l.all ko
theorem bm3 (s:Sl Term)(hs:short s)(ht:∀ t∈s.l,t.text.size<=big)(h:Hp):Sm E TT ah 373 [.d (s.d Term.c)] h=some (bl (bi s),h):=by
 rw [aN de2 dw0];have hany:=gU (E:=E) (T:=TT) (val:=ah) Term.c (z:=2) dk9 dx5 dk6 dx0 (v:=.d (s.d Term.c)) (es:=s.l) (f:=389) (caps:=[]) (q:=λt=>!ko t) (h:=⟨[],0⟩) (RowIs.of (cells:=Term.c) (z:=2) (λ_=>rfl) _) hs.lt (λe he lo=>bm6 e (ht e he) _);by_cases hm:(s.l.length:Int)<=6
 . simp [aa,O1,hm,hany,au,bi,← uP]
 . simp [aa,O1,hm,au,bi]
theorem bm2 (s:Sl Term)(hs:short s)(ht:∀ t∈s.l,t.text.size<=big)(h:Hp):Sm E TT ah 372 [.d (s.d Term.c)] h=some (bl (!bi s),h):=by
 rw [ax de1 dv9];simp [aa,Ve,bm3 s hs ht,V.under]
theorem Ra (ls:List (Sl Term))(hl:ls.length<2 ^ 62)(hs:∀ s∈ls,short s/\∀ t∈s.l,t.text.size<=big)(a:V)(h:Hp)(ha:frz h a=some (.d (.slice false (ls.map λs=>[s.d Term.c])))):Sm E TT ah 345 [a] h=some (bl (ls.all bi),h):=by
 rw [aN dc7 du6];have hr:RowIs ([]:List Blk) (.d (.slice false (ls.map λs=>[s.d Term.c]))) 1 (ls.map λs=>[s.d Term.c]):=⟨by simp,.inl ⟨false,rfl⟩⟩;have hany:=IU (E:=E) (T:=TT) (val:=ah) (Sl.d Term.c) dk5 dw9 dj4 dv8 (es:=ls) (f:=372) (caps:=[]) (q:=λs=>!bi s) (h:=⟨[],0⟩) hr hl (λe he lo=>bm2 e (hs e he).1 (hs e he).2 _);simp [aa,Va,ha,hany,← uP,ownR,xy,pU]
end
section
def rE (mx:Bool)(l:List V)(h:Hp):Option (V×Hp):=match l with
 | []=>none
 | x::xs=>match gJ mx x xs with
  | some v=>some (v,h)
  | none=>none
def Jp (k:IntKind)(x:V)(h:Hp):Option (V×Hp):=match x with
 | .d (.int _ n)=>some (.d (.int k (k.wrap n)),h)
 | _=>none
section
variable {C:Calls'}{ev:X->V}{h:Hp}
@[simp] theorem Tg {mx:Bool}{a b:X}:opE C (.minmax mx [a,b]) ev h=if okV (ev a)&&(okV (ev b)&&true) then rE mx [ev a,ev b] h else none:=(rfl)
@[simp] theorem V7 {k:IntKind}{x:X}:opE C (.convI k x) ev h=Jp k (ev x) h:=(rfl)
@[simp] theorem RJ {k k':IntKind}{n:Int}:Jp k (.d (.int k' n)) h=some (.d (.int k (k.wrap n)),h):=(rfl)
@[simp] theorem Yq {k:IntKind}{a b:Int}:rE true [.d (.int k a),.d (.int k b)] h=some (.d (.int k (if b>a then b else a)),h):=by simp [rE,gJ]
@[simp] theorem Yp {k:IntKind}{a b:Int}:rE false [.d (.int k a),.d (.int k b)] h=some (.d (.int k (if b<a then b else a)),h):=by simp [rE,gJ]
end
section
variable {k k':IntKind}{a b:Int}
theorem MM (hb:0<=b):bQ .shl (.d (.int k a)) (.d (.int k' b))=some (.int k (k.wrap (a * 2 ^ (min b.toNat k.bits)))):=by simp [bQ,show ¬ b<0 by omega]
theorem lg (hb:0<=b):bQ .shr (.d (.int k a)) (.d (.int k' b))=some (.int k (a.fdiv (2 ^ (min b.toNat k.bits)))):=by simp [bQ,show ¬ b<0 by omega]
def yN (k:IntKind)(a b:Int):Int:=k.wrap ((BitVec.ofInt k.bits a &&& ~~~ BitVec.ofInt k.bits b).toNat)
theorem CG:bQ .andNot (.d (.int k a)) (.d (.int k b))=some (.int k (yN k a b)):=by simp [bQ,fH,yN]
end
variable {E:Calls'}
theorem Xt (n:Int)(h:Hp):Sm E TT ah 141 [.d (i64 n)] h=some (bl (decide (n>=1)&&decide (n<=65535)),h):=by
 rw [aN cx4 dp0];by_cases c1:n>=1<;>simp [aa,Oy,au,c1]
theorem bh6 (n:Int)(h:Hp):Sm E TT ah 146 [.d (u64 n)] h=some (bl (decide (n>=1)&&decide (n<=4611686018427387903)),h):=by
 rw [aN cx9 dp4];by_cases c1:n>=1<;>simp [aa,OA,au,c1]
def Kb (n:Int):Int:=wrap .u32 (wrap .u64 (4294967296-wrap .u64 (1 * 2 ^ (min (wrap .i64 (32-n)).toNat 64))))
theorem bm4 (n:Int)(h0:0<=n)(h1:n<=32)(h:Hp):Sm E TT ah 376 [.d (i64 n)] h=some (.d (u32 (Kb n)),h):=by
 rw [aN de5 dw3];have hw:wrap .i64 (32-n)=32-n:=wrap64 (by omega) (by omega);have hs:=MM (k:=.u64) (k':=.i64) (a:=1) (b:=32-n) (by omega);have e1:(if (0:Int)>n then 0 else n)=n:=if_neg (by omega);have e2:(if (32:Int)<n then 32 else n)=n:=if_neg (by omega);simp [aa,Vf,hw,hs,e1,e2,Kb,IntKind.bits]
def qY (c:Cidr):Bool:=decide (c.bits>=0)&&(decide (c.bits<=32)&&(yN .u32 c.addr (Kb c.bits)==0))
theorem bl8 (c:Cidr)(h:Hp):Sm E TT ah 347 [ag c.c] h=some (bl (qY c),h):=by
 rw [aN dc9 du8];by_cases c1:c.bits>=0
 . by_cases c2:c.bits<=32
   . simp +decide [aa,K5,c1,c2,qY,bm4 c.bits c1 c2,CG,ay,ae]
   . simp +decide [aa,K5,c1,c2,qY,ay,bM]
 . simp +decide [aa,K5,c1,qY,ay,bM]
end
section
theorem CR (s:ByteArray)(pos:Nat)(h:pos<s.size)(ha:¬ (s[pos]'h).toNat<128):128<=(Utf8.decode s pos).1:=by
 have e:s.get! (pos+0)=s[pos]'h:=by
  show s.get! pos=_;simp [ByteArray.get!,getElem!_pos,h];rfl
 simp only [Utf8.decode,e,ha,if_false]
 repeat' split
 all_goals first | (simp only [Utf8.runeError]; omega) | (rename_i hh; simp only [aq,br] at hh; dsimp only; omega) | (rename_i hh; simp only [aq,br] at hh; have:=hh.1; dsimp only; omega) | (dsimp only; omega)
def K6 (x:V)(h:Hp):Option (V×Hp):=match x with
 | .d (.str s)=>some (.ptr h.size 0,{ h with bs:=h.bs++[.iter s 0] })
 | _=>none
def uE (x:V)(h:Hp):Option (V×Hp):=match x with
 | .ptr b 0=>match h.bs[b]? with
  | some (.iter s pos) =>
   if pos<s.size then
    let (c,w):=Utf8.decode s pos
    some (.tup [.d (.bool true),.d (.int .i64 pos),.d (.int .i32 c)],⟨h.bs.set b (.iter s (pos+w)),min h.low b⟩)
   else some (.tup [.d (.bool false)],h)
  | _=>none
 | _=>none
section
variable {C:Calls'}{ev:X->V}{h:Hp}
@[simp] theorem V8 {x:X}:opE C (.range x) ev h=K6 (ev x) h:=(rfl)
@[simp] theorem YI {x:X}:opE C (.next x) ev h=uE (ev x) h:=(rfl)
@[simp] theorem ZE {s:ByteArray}:K6 (.d (.str s)) ⟨[],0⟩=some (.ptr 0 0,⟨[.iter s 0],0⟩):=(rfl)
end
theorem GD {s:ByteArray}{pos:Nat}(h:¬ pos<s.size):uE (.ptr 0 0) ⟨[.iter s pos],0⟩=some (.tup [bl false],⟨[.iter s pos],0⟩):=by simp [uE,h]
theorem Bn {s:ByteArray}{pos:Nat}{b:UInt8}(hb:s.toList[pos]?=some b)(ha:b.toNat<128):uE (.ptr 0 0) ⟨[.iter s pos],0⟩=some (.tup [bl true,.d (i64 pos),.d (.int .i32 b.toNat)],⟨[.iter s (pos+1)],0⟩):=by
 have hl:=lU s;have h:pos<s.size:=by rw [← hl]; exact (bw.1 hb).1
 have he:s[pos]'h=b:=by
  have:=(bw.1 hb).2;simp only [bZ] at this;exact this
 have hd:=decode_ascii s pos h (by rw [he]; exact ha);simp [uE,h,hd,he]
theorem GA {s:ByteArray}{pos:Nat}{b:UInt8}(hb:s.toList[pos]?=some b)(ha:¬ b.toNat<128):∃ (c:Nat) (q:Nat),128<=c/\uE (.ptr 0 0) ⟨[.iter s pos],0⟩=some (.tup [bl true,.d (i64 pos),.d (.int .i32 c)],⟨[.iter s q],0⟩):=by
 have hl:=lU s;have h:pos<s.size:=by rw [← hl]; exact (bw.1 hb).1
 have he:s[pos]'h=b:=by
  have:=(bw.1 hb).2;simp only [bZ] at this;exact this
 have hd:=CR s pos h (by rw [he]; exact ha);exact ⟨(Utf8.decode s pos).1,pos+(Utf8.decode s pos).2,hd,by simp [uE,h]⟩
end
section
end
section
variable {E:Calls'}
def A8 (n i c:Nat):Bool:=!((decide ((c:Int)>=97)&&decide ((c:Int)<=122))||((decide ((c:Int)>=48)&&decide ((c:Int)<=57))||(((c:Int)==45)&&!(((i:Int)==0)||((i:Int)+1==n)))))
def oM (n:Nat):Nat->List UInt8->Bool
 | _,[]=>false
 | i,b::l=>A8 n i b.toNat||oM n (i+1) l
def bU (s:ByteArray):Bool:=!oM s.size 0 s.toList&&(decide ((s.size:Int)>=1)&&decide ((s.size:Int)<=20))
theorem be1 (s:ByteArray)(i c:Nat)(bs bs':List Blk)(hn:uE (.ptr 0 0) ⟨bs,0⟩=some (.tup [bl true,.d (i64 i),.d (.int .i32 c)],⟨bs',0⟩))(hi:i<s.size)(hs:s.size<2 ^ 62)(W:EA->Hp->iN) :
 iP [0,7] W (Cd E TT ah nE [(0,.d (.str s)),(7,.ptr 0 0)] ⟨bs,0⟩)=(if A8 s.size i c then some (.ret,[(2,bl false)],⟨bs',0⟩) else W [(0,.d (.str s)),(7,.ptr 0 0)] ⟨bs',0⟩):=by
 have hw:=aA hi hs;have e0:∃ t,((i:Int)==0)=t:=⟨_,rfl⟩;obtain ⟨t0,e0⟩:=e0;have e1:∃ t,((i:Int)+1==s.size)=t:=⟨_,rfl⟩;obtain ⟨t1,e1⟩:=e1;by_cases c1:(c:Int)>=97<;>by_cases c2:(c:Int)<=122<;>by_cases c3:(c:Int)>=48<;>by_cases c4:(c:Int)<=57<;>by_cases c5:(c:Int)=45<;>first
  | (exfalso; omega)
  | (simp only [A8,c1,c2,c3,c4,c5,e0,e1]; cases t0<;>cases t1<;>simp [nE,hn,au,hw,e0,e1,c1,c2,c3,c4,c5])
theorem A9 {n i c:Nat}(h:128<=c):A8 n i c=true:=by
 have h1:¬ ((c:Int)<=122):=by omega
 have h2:¬ ((c:Int)<=57):=by omega
 have h3:¬ ((c:Int)=45):=by omega
 simp [A8,h1,h2,h3]
theorem bd5 (s:ByteArray)(hs:s.size<2 ^ 62):∀ (m i:Nat),i+m=s.size →
 ∃ q,Cd E TT ah (.loop [0,7] nE) [(0,.d (.str s)),(7,.ptr 0 0)] ⟨[.iter s i],0⟩ =
  if oM s.size i (s.toList.drop i) then some (.ret,[(2,bl false)],⟨[.iter s q],0⟩) else some (.exit 0,[(0,.d (.str s))],⟨[.iter s q],0⟩):=by
 have hsl:=lU s;intro m;have key:=ak (E:=E) (T:=TT) (val:=ah) [0,7] nE;have hk:dU [0,7] [(0,.d (.str s)),(7,.ptr 0 0)]=[(0,.d (.str s)),(7,.ptr 0 0)]:=rfl;have hR:=λi c bs bs' hn hi=>be1 (E:=E) s i c bs bs' hn hi hs;generalize Cd E TT ah (.loop [0,7] nE)=W at key ⊢
 induction m with
 | zero =>
  intro i hi;refine ⟨i,?_⟩;rw [key,ba (by omega)];simp [nE,oM,GD (show ¬ i<s.size by omega)]
 | succ m ih =>
  intro i hi;have h1:i<s.toList.length:=by omega
  have hb:=ab h1;rw [aw h1];obtain ⟨q,hq⟩:=ih (i+1) (by omega);generalize s.toList[i]=b at *;by_cases ha:b.toNat<128
  . refine ⟨if A8 s.size i b.toNat then i+1 else q,?_⟩;rw [key,hk,hR i b.toNat _ _ (Bn hb ha) (by omega) W];cases hl:A8 s.size i b.toNat with
    | true=>simp [oM,hl]
    | false=>simp [oM,hl,hq]
  . obtain ⟨c,q',hc,hn⟩:=GA hb ha;refine ⟨q',?_⟩;have hl:A8 s.size i b.toNat=true:=A9 (by omega);rw [key,hk,hR i c _ _ hn (by omega) W,A9 hc];simp [oM,hl]
theorem ME (s:ByteArray)(hs:s.size<=big)(h:Hp):Sm E TT ah 147 [.d (.str s)] h=some (bl (bU s),h):=by
 rw [aN cy0 dp5];obtain ⟨q,k1⟩:=bd5 (E:=E) s (cf hs (by decide)) s.size 0 (by omega);simp at k1;simp [aa,OB];rw [aj];simp [k1];cases hb:oM s.size 0 s.toList with
 | true=>simp [bU,hb]
 | false=>by_cases c1:(s.size:Int)>=1<;>simp [bU,hb,au,c1]
theorem bh0 (a b:ByteArray)(ha:a.size<=big)(hb:b.size<=big)(h:Hp):Sm E TT ah 140 [ag [.str a,.str b]] h=some (bl (bU a&&bU b),h):=by
 rw [aN cx3 do9];have h1:=ME (E:=E) a ha;have h2:=ME (E:=E) b hb;cases hl:bU a<;>simp [aa,Ox,h1,h2,hl,au]
end
section
variable {E:Calls'}
def tokN:List Int:=[0,0,0,0,0,0,0,0,0,0,0,0,0,0,0,0,0,0,0,0,0,0,0,0,0,0,0,0,0,0,0,0,0,1,0,1,1,1,1,1,0,0,1,1,0,1,1,0,1,1,1,1,1,1,1,1,1,1,0,0,0,0,0,0,0,0,0,0,0,0,0,0,0,0,0,0,0,0,0,0,0,0,0,0,0,0,0,0,0,0,0,0,0,0,1,1,1,1,1,1,1,1,1,1,1,1,1,1,1,1,1,1,1,1,1,1,1,1,1,1,1,1,1,0,1,0,1,0,0,0,0,0,0,0,0,0,0,0,0,0,0,0,0,0,0,0,0,0,0,0,0,0,0,0,0,0,0,0,0,0,0,0,0,0,0,0,0,0,0,0,0,0,0,0,0,0,0,0,0,0,0,0,0,0,0,0,0,0,0,0,0,0,0,0,0,0,0,0,0,0,0,0,0,0,0,0,0,0,0,0,0,0,0,0,0,0,0,0,0,0,0,0,0,0,0,0,0,0,0,0,0,0,0,0,0,0,0,0,0,0,0,0,0,0,0,0,0,0,0,0,0,0,0,0,0,0]
def tokL:List D:=tokN.map i64
theorem Cr:tokL.length=256:=rfl
theorem az6 (C:Calls'):aT C 300 q477.code [] ⟨[],0⟩=some (.ret,[(0,.ptr 0 0)],⟨[.cells (tokL.map .d),.iter ⟨#[97,98,99,100,101,102,103,104,105,106,107,108,109,110,111,112,113,114,115,116,117,118,119,120,121,122,48,49,50,51,52,53,54,55,56,57,33,35,36,37,38,39,42,43,45,46,94,95,96,124,126]⟩ 51],0⟩):=by kernel_rfl
theorem bm5 (h:Hp):Sm E TT ah 382 [] h=some (ag tokL,h):=by
 rw [aN df0 dw8];have h1:Cd E TT ah q477.code (jO 0 []) ⟨[],0⟩=_:=gH (k:=0) (az6 _);have hr:q477.res=[.cell 0 false 256]:=rfl;have hs:=bL Cr;have h2:Bd E TT ah q477 [] ⟨[],0⟩=some (ag tokL,⟨[.cells (tokL.map .d),.iter ⟨#[97,98,99,100,101,102,103,104,105,106,107,108,109,110,111,112,113,114,115,116,117,118,119,120,121,122,48,49,50,51,52,53,54,55,56,57,33,35,36,37,38,39,42,43,45,46,94,95,96,124,126]⟩ 51],0⟩):=by
  show fin q477.res (Cd E TT ah q477.code (jO 0 []) ⟨[],0⟩)=_;rw [h1,hr];generalize tokL=L at hs ⊢;simp [hs]
 simp only [List.mapM_nil,Option.pure_def,w9,h2,LW,JM,VH];simp
def LU (b:UInt8):Int:=tokN.getD b.toNat 0
def mY:List UInt8->Bool
 | []=>false
 | b::l=>LU b==0||mY l
def ll (s:ByteArray):Bool:=!mY s.toList&&(decide ((s.size:Int)>=1)&&decide ((s.size:Int)<=64))
theorem VA (b:UInt8):sub tokL b.toNat 1=some [i64 (LU b)]:=by
 have hb:b.toNat<256:=b.toNat_lt;have hl:tokN.length=256:=rfl;have e1:(tokN.drop b.toNat).take 1=[tokN[b.toNat]]:=by rw [aw (by omega)]; rfl
 rw [tokL,Pq,eT,if_pos (by omega),e1,LU,bo,ab (by omega)];rfl
theorem bd8 (s:ByteArray)(hs:s.size<2 ^ 62):∀ (m i:Nat),i+m=s.size →
 Cd E TT ah (.loop [0,3,4] nM) [(0,.d (.str s)),(3,.ptr 0 0),(4,.d (i64 i))] ⟨[.cells (tokL.map .d)],0⟩ =
  if mY (s.toList.drop i) then some (.ret,[(2,bl false)],⟨[.cells (tokL.map .d)],0⟩) else some (.exit 0,[(0,.d (.str s))],⟨[.cells (tokL.map .d)],0⟩):=by
 have hsl:=lU s;have htok:=VA;generalize tokL=TL at htok ⊢;intro m;have key:=ak (E:=E) (T:=TT) (val:=ah) [0,3,4] nM;generalize Cd E TT ah (.loop [0,3,4] nM)=W at key ⊢
 induction m with
 | zero =>
  intro i hi;rw [key,ba (by omega)];simp [nM,mY,show ¬ ((i:Int)<s.size) from by omega]
 | succ m ih =>
  intro i hi;have h1:i<s.toList.length:=by omega
  have hx:=λh=>AU (h:=h) (ab h1);have hw:=aA (show i<s.size by omega) hs;have:=ih (i+1) (by omega);rw [key,aw h1];generalize s.toList[i]=b at *;have h0:((i:Int)<s.size):=by omega
  have hb:b.toNat<256:=b.toNat_lt;have hix:∀ h,iB (some 256) 1 (.ptr 0 0) (.d (.int .u8 b.toNat)) h=some (.ptr 0 b.toNat,h):=λh=>by simp [iB]; omega
  by_cases c1:LU b=0
  . simp [nM,hx,hix,htok,c1,mY,h0]
  . have c2:(LU b==0)=false:=by simpa using c1
    simp [nM,hx,hix,htok,c2,mY,h0,hw];simpa using this
theorem bl9 (s:ByteArray)(hs:s.size<=big)(h:Hp):Sm E TT ah 355 [.d (.str s)] h=some (bl (ll s),h):=by
 rw [aN dd6 dv4];have k1:=bd8 (E:=E) s (cf hs (by decide)) s.size 0 (by omega);have h477:=bm5 (E:=E);have hl:=Cr;generalize hTL:tokL=TL at *;simp at k1;simp [aa,Vb,h477,hl];rw [aj];simp [k1];cases hb:mY s.toList with
 | true=>simp [ll,hb]
 | false=>by_cases c1:(s.size:Int)>=1<;>simp [ll,hb,au,c1]
end
section
def chg:List Int->Nat
 | x::y::l=>(if x=y then 0 else 1)+chg (y::l)
 | _=>0
theorem qg:∀ l:List Int,chg l<=l.length-1
 | []=>by simp [chg]
 | [_]=>by simp [chg]
 | x::y::l=>by
  have:=qg (y::l);simp only [chg,ch] at this ⊢;split<;>omega
theorem qW {zs:List Int}{i:Nat}(h:i+1<zs.length):chg (zs.drop i)=(if zs[i]=zs[i+1] then 0 else 1)+chg (zs.drop (i+1)):=by
 rw [aw (show i<zs.length by omega),aw h];simp only [chg]
def vJ (zs:List Int):Nat:=if zs=[] then 0 else 1+chg zs
def iv (kd:IntKind)(z:Int):V:=.d (.int kd z)
def Mr (bs:List Blk)(b:Nat)(cur:List V)(lo:Nat):Hp:=⟨bs.set b (.cells cur),lo⟩
section
variable {bs:List Blk}{b lo:Nat}{cur:List V}
theorem sH (hb:b<bs.length):ai (Mr bs b cur lo).bs b=some cur:=by simp [Mr,ai,hb]
theorem qN (hb:b<bs.length){k:Nat}{v:V}(hk:cur[k]?=some v):ldv (Mr bs b cur lo) (.ptr b k) 1 true=some (v,Mr bs b cur lo):=by
 obtain ⟨h1,h2⟩:=bw.1 hk;have hs:sub cur k 1=some [v]:=by
  rw [eT,if_pos (by omega),aw h1,h2]; rfl
 rw [aB,get_eq,sH hb];simp only [hs]; rfl
theorem IM (hb:b<bs.length){k:Nat}{x:D}(hk:k<cur.length):stv (Mr bs b cur lo) (.ptr b k) (.d x) 1=some (.undef,Mr bs b (cur.set k (.d x)) (min lo b)):=by
 have hp:put cur k [V.d x]=some (cur.set k (.d x)):=by
  unfold put;rw [if_pos (by simp only [ch,cj]; omega),List.set_eq_take_append_cons_drop,if_pos hk]; simp
 have hg:=sH (lo:=lo) (cur:=cur) hb;simp [stv,V.cells,storeAt,hg,hp];simp [Hp.set,Mr]
theorem gD {b o n z:Nat}{cap:Option Nat}{kd:IntKind}{i:Nat}{h:Hp}(hi:i<n):iB none z (.row b o n cap z) (.d (.int kd i)) h=some (.ptr b (o+i * z),h):=by
 simp [iB,hi]
end
section
variable {E:Calls'}{T:FuncId->Option QF}{val:FuncId->Bool}{kd:IntKind}
theorem RI {bs:List Blk}{b:Nat}(hb:b<bs.length){zs:List Int}{cap cap2:Option Nat}(hn:zs.length<2 ^ 62){k0:Nat}(hk0:1<=k0)(hk1:k0<zs.length):∀ (m i k:Nat) (cur:List V) (lo:Nat),k0+i+m=zs.length->1<=i->k<k0+i->cur.length=zs.length->(∀ j (hj:j<zs.length),k<=j->cur[j]?=some (iv kd zs[j])) →
 ∃ cur' lo',Cd E T val (.loop [0,3,4,5] (mD kd)) [(0,.row b 0 zs.length cap 1),(3,.d (i64 k)),(4,.row b k0 (zs.length-k0) cap2 1),(5,.d (i64 i))] (Mr bs b cur lo) =
  some (.exit 2,[(0,.row b 0 zs.length cap 1),(3,.d (i64 (k+chg (zs.drop (k0+i-1)):Nat)))],Mr bs b cur' lo')/\cur'.length=zs.length/\(lo'=lo\/lo'=min lo b):=by
 intro m;have key:=ak (E:=E) (T:=T) (val:=val) [0,3,4,5] (mD kd);generalize Cd E T val (.loop [0,3,4,5] (mD kd))=W at key ⊢
 induction m with
 | zero =>
  intro i k cur lo hi h1 hk hl hc;have h0:chg (zs.drop (k0+i-1))=0:=by
   have:=qg (zs.drop (k0+i-1));simp only [List.length_drop] at this;omega
  refine ⟨cur,lo,?_,hl,.inl rfl⟩;rw [key,h0];simp [mD,show ¬ ((i:Int)<((zs.length-k0:Nat):Int)) from by omega]
 | succ m ih =>
  intro i k cur lo hi h1 hk hl hc;have hlt:i<zs.length-k0:=by omega
  have e1:=hc (k0+i) (by omega) (by omega);have e0:=hc (k0+i-1) (by omega) (by omega);have hd:=qW (zs:=zs) (i:=k0+i-1) (by omega);have hs:k0+i-1+1=k0+i:=by omega
  simp only [hs] at hd;rw [hd];have hw:=aA (show i<zs.length by omega) hn;have hwk:=aA (show k<zs.length by omega) hn;have hwm:wrap .i64 ((i:Int)-1)=((i-1:Nat):Int):=by rw [wrap64]<;>omega
  have i1:=λh=>gD (b:=b) (o:=k0) (z:=1) (cap:=cap2) (kd:=.i64) (h:=h) hlt;have i0:=λh=>gD (b:=b) (o:=k0) (z:=1) (cap:=cap2) (kd:=.i64) (h:=h) (show i-1<zs.length-k0 by omega);have ik:=λh=>gD (b:=b) (o:=0) (z:=1) (cap:=cap) (kd:=.i64) (h:=h) (show k<zs.length by omega);simp only [Nat.mul_one,show k0+(i-1)=k0+i-1 by omega,Nat.zero_add] at i1 i0 ik;have l1:=qN (lo:=lo) hb e1;have l0:=qN (lo:=lo) hb e0;generalize zs[k0+i]'(by omega)=y at *;generalize zs[k0+i-1]'(by omega)=x at *;by_cases hxy:x=y
  . obtain ⟨cur',lo',k1,k2,k3⟩:=ih (i+1) k cur lo (by omega) (by omega) (by omega) hl hc;refine ⟨cur',lo',?_,k2,k3⟩;rw [key];simp only [hxy,if_true,Nat.zero_add];simp only [show k0+(i+1)-1=k0+i by omega] at k1;subst hxy;simp [mD,i1,i0,l1,l0,iv,hw,hwm,show ((i:Int)<((zs.length-k0:Nat):Int)) from by omega,-aB];simpa using k1
  . have st:=IM (lo:=lo) (x:=.int kd y) hb (show k<cur.length by omega);obtain ⟨cur',lo',k1,k2,k3⟩:=ih (i+1) (k+1) (cur.set k (.d (.int kd y))) (min lo b) (by omega) (by omega) (by omega) (by simpa using hl) (by
     intro j hj hkj;rw [ac (by omega)];exact hc j hj (by omega))
    refine ⟨cur',lo',?_,k2,by obtain k3 | k3:=k3<;>omega⟩;rw [key];simp only [hxy,if_false];simp only [show k0+(i+1)-1=k0+i by omega] at k1;have hyx:¬ y=x:=λh=>hxy h.symm;simp [mD,i1,i0,ik,l1,l0,st,iv,hw,hwk,hwm,hyx,show ((i:Int)<((zs.length-k0:Nat):Int)) from by omega,-aB,-aM];rw [show ((k:Int)+(1+(chg (zs.drop (k0+i)):Int)))=((k+1+chg (zs.drop (k0+i)):Nat):Int) by omega];simpa using k1
theorem yU {h:Hp}{ev:X->V}{b n:Nat}{cap:Option Nat}{x:X}{k:Nat}(hx:ev x=.d (i64 k))(hk:k<n)(h1:1<=k):eD h ev .sl 1 (.row b 0 n cap 1) (some x) none none=some (.row b k (n-k) (cap.map (· - k)) 1):=by
 simp only [eD,eu,hx];rw [if_pos (by omega)];simp only [Int.toNat_natCast];rw [if_pos ⟨by omega,by omega,trivial⟩,if_neg (by omega),if_pos hk]; simp
theorem MO {C:Calls'}{bs:List Blk}{b lo:Nat}{cur:List V}(hb:b<bs.length){n k:Nat}{cap:Option Nat}{e:EA}{x:X}{zero:V}(he:x.ea e=.row b k (n-k) cap 1)(hc:cur.length=n)(hk:k<n) :
 ∃ cur',cur'.length=n/\opE C (.clear 1 [zero] x) (X.ea e) (Mr bs b cur lo)=some (.undef,Mr bs b cur' (min lo b)):=by
 have hr:((List.replicate (n-k) [zero]).flatten).length=n-k:=by simp
 have hp:put cur k (List.replicate (n-k) [zero]).flatten=some (cur.take k++(List.replicate (n-k) [zero]).flatten++cur.drop (k+(n-k))):=by
  unfold put;rw [if_pos (by rw [hr]; omega),hr]
 refine ⟨cur.take k++(List.replicate (n-k) [zero]).flatten++cur.drop (k+(n-k)),by simp only [am,hr,List.length_take,List.length_drop]; omega,?_⟩;have hne:¬ (n-k) * 1=0:=by omega
 simp only [opE,he,if_true,get_eq,sH hb,if_neg hne,hp];simp [Hp.set,Mr]
theorem MQ {bs:List Blk}{b lo:Nat}(hb:b<bs.length){zs:List Int}{cap:Option Nat}(hn:zs.length<2 ^ 62):∀ (m k:Nat),k+m=zs.length->1<=k →
 ∃ cur' lo',(Cd E T val (.loop [0,3] (kG kd)) [(0,.row b 0 zs.length cap 1),(3,.d (i64 k))] (Mr bs b (zs.map (iv kd)) lo)=some (.ret,[(2,.row b 0 (k+chg (zs.drop (k-1))) cap 1)],Mr bs b cur' lo')/\cur'.length=zs.length/\lo'=min lo b ∨
  Cd E T val (.loop [0,3] (kG kd)) [(0,.row b 0 zs.length cap 1),(3,.d (i64 k))] (Mr bs b (zs.map (iv kd)) lo)=some (.exit 0,[(0,.row b 0 zs.length cap 1)],Mr bs b (zs.map (iv kd)) lo)/\k+chg (zs.drop (k-1))=zs.length):=by
 intro m;have key:=ak (E:=E) (T:=T) (val:=val) [0,3] (kG kd);generalize Cd E T val (.loop [0,3] (kG kd))=W at key ⊢
 induction m with
 | zero =>
  intro k hk h1;have h0:chg (zs.drop (k-1))=0:=by
   have:=qg (zs.drop (k-1));simp only [List.length_drop] at this;omega
  refine ⟨[],0,.inr ⟨?_,by omega⟩⟩;rw [key];simp [kG,show ¬ ((k:Int)<(zs.length:Int)) from by omega]
 | succ m ih =>
  intro k hk h1;have hlt:k<zs.length:=by omega
  have e1:(zs.map (iv kd))[k]?=some (iv kd zs[k]):=by simp [hlt]
  have e0:(zs.map (iv kd))[k-1]?=some (iv kd (zs[k-1]'(by omega))):=by rw [List.getElem?_map,ab (show k-1<zs.length by omega)]; rfl
  have hd:=qW (zs:=zs) (i:=k-1) (by omega);have hs:k-1+1=k:=by omega
  simp only [hs] at hd;have hw:=aA hlt hn;have hwm:wrap .i64 ((k:Int)-1)=((k-1:Nat):Int):=by rw [wrap64]<;>omega
  have i1:=λh=>gD (b:=b) (o:=0) (z:=1) (cap:=cap) (kd:=.i64) (h:=h) hlt;have i0:=λh=>gD (b:=b) (o:=0) (z:=1) (cap:=cap) (kd:=.i64) (h:=h) (show k-1<zs.length by omega);simp only [Nat.mul_one,Nat.zero_add] at i1 i0;have l1:=qN (lo:=lo) hb e1;have l0:=qN (lo:=lo) hb e0;have hin:=RI (E:=E) (T:=T) (val:=val) (kd:=kd) hb (zs:=zs) (cap:=cap) (cap2:=cap.map (· - k)) hn h1 hlt (zs.length-k-1) 1 k (zs.map (iv kd)) lo (by omega) (by omega) (by omega) (by simp) (λj hj _=>by simp [hj]);have hcl:=qg (zs.drop k);simp only [List.length_drop] at hcl;rw [hd];generalize zs[k]'(by omega)=y at *;generalize zs[k-1]'(by omega)=x at *;by_cases hxy:x=y
  . obtain ⟨cur',lo',k1,k2,k3⟩:=hin;simp only [show k+1-1=k by omega] at k1;have hK:k+chg (zs.drop k)<zs.length:=by omega
    generalize hKe:k+chg (zs.drop k)=K at *;obtain ⟨cur2,c1,c2⟩:=MO (C:=Sm E T val) (lo:=lo') hb (cur:=cur') (e:=[(56,.row b K (zs.length-K) (cap.map (· - K)) 1),(55,.d (i64 K)),(54,.row b 0 zs.length cap 1),(0,.row b 0 zs.length cap 1),(3,.d (i64 K))]) (x:=.t 56) (n:=zs.length) (k:=K) (cap:=cap.map (· - K)) (zero:=.d (.int kd 0)) (by simp) k2 hK;have sl1:=λh=>yU (h:=h) (ev:=X.ea [(27,.d (i64 k)),(26,.row b 0 zs.length cap 1),(25,.d (.bool true)),(24,iv kd x),(23,.ptr b (k-1)),(22,.d (i64 (k-1:Nat))),(21,.d (i64 k)),(20,.row b 0 zs.length cap 1),(19,iv kd y),(18,.ptr b k),(17,.d (i64 k)),(16,.row b 0 zs.length cap 1),(13,.d (.bool true)),(12,.d (i64 zs.length)),(11,.row b 0 zs.length cap 1),(10,.d (i64 k)),(0,.row b 0 zs.length cap 1),(3,.d (i64 k))]) (x:=.t 27) (b:=b) (n:=zs.length) (cap:=cap) (k:=k) (by simp) hlt h1;have sl2:=λh=>yU (h:=h) (ev:=X.ea [(55,.d (i64 K)),(54,.row b 0 zs.length cap 1),(0,.row b 0 zs.length cap 1),(3,.d (i64 K))]) (x:=.t 55) (b:=b) (n:=zs.length) (cap:=cap) (k:=K) (by simp) hK (by omega);have sl3:=λh=>rW (h:=h) (ev:=X.ea [(58,.d (i64 K)),(57,.row b 0 zs.length cap 1),(56,.row b K (zs.length-K) (cap.map (· - K)) 1),(55,.d (i64 K)),(54,.row b 0 zs.length cap 1),(0,.row b 0 zs.length cap 1),(3,.d (i64 K))]) (x:=.t 58) (b:=b) (z:=1) (len:=zs.length) (cap:=cap) (n:=K) (by simp) (by omega);refine ⟨cur2,min lo' b,.inl ⟨?_,c1,by obtain k3 | k3:=k3<;>omega⟩⟩;rw [key];simp only [hxy,if_true,Nat.zero_add]
    subst hxy;simp [iv] at sl1;simp [kG,i1,i0,l1,l0,iv,hwm,hlt,sl1,-aB];rw [aj];simp at k1;simp [k1,sl2];rw [c2];simp [sl3,hKe]
  . obtain ⟨cur',lo',hh⟩:=ih (k+1) (by omega) (by omega);simp only [show k+1-1=k by omega] at hh;refine ⟨cur',lo',?_⟩;rw [key];have hyx:¬ y=x:=λh=>hxy h.symm;have hadd:k+(1+chg (zs.drop k))=k+1+chg (zs.drop k):=by omega
    simp only [hxy,if_false,hadd];simp [kG,i1,i0,l1,l0,iv,hwm,hw,hlt,hyx,-aB];simpa using hh
theorem xG {id:FuncId}(ht:T id=some (cmpQ kd))(hv:val id=false){zs:List Int}{b:Nat}{cap:Option Nat}{h:Hp}(hb:ai h.bs b=some (zs.map (iv kd)))(hn:zs.length<2 ^ 62) :
 ∃ h',Sm E T val id [.row b 0 zs.length cap 1] h=some (.row b 0 (vJ zs) cap 1,h')/\(h'=h\/∃ cur,h'=⟨h.bs.set b (.cells cur),min h.low b⟩):=by
 have hbl:=aI hb;have hset:h.bs.set b (.cells (zs.map (iv kd)))=h.bs:=by
  apply List.ext_getElem?;intro i;by_cases hi:b=i
  . subst hi;rw [List.getElem?_set_self hbl];unfold ai at hb;split at hb
    . rename_i hh; cases hb; exact hh.symm
    . cases hb
  . rw [ac hi]
 have hM:(⟨h.bs,h.bs.length⟩:Hp)=Mr h.bs b (zs.map (iv kd)) h.bs.length:=by simp [Mr,hset]
 rw [ax ht hv,hM];by_cases h2:zs.length<2
 . refine ⟨h,?_,.inl rfl⟩;have:vJ zs=zs.length:=by
    match zs,h2 with
    | [],_=>rfl
    | [x],_=>rfl
    | _::_::_,h2=>simp at h2; omega
   simp [cmpQ,aa,show ((zs.length:Int)<2) from by omega,this,V.under,hbl];simp [Mr]
 . have hne:zs≠[]:=by rintro rfl; simp at h2
   obtain ⟨cur',lo',hh | hh⟩:=MQ (E:=E) (T:=T) (val:=val) (kd:=kd) (lo:=h.bs.length) (cap:=cap) hbl hn (zs.length-1) 1 (by omega) (by omega)
   . obtain ⟨k1,k2,k3⟩:=hh;have hlo:lo'=b:=by omega
     subst hlo;refine ⟨_,?_,.inr ⟨cur',rfl⟩⟩;simp at k1;simp [cmpQ,aa,show ¬ ((zs.length:Int)<2) from by omega];rw [aj];simp [k1,vJ,hne,V.under,hbl];simp [Mr,show ¬ (h.bs.length<=lo') from by omega]
   . obtain ⟨k1,k2⟩:=hh;refine ⟨h,?_,.inl rfl⟩;simp at k1 k2;simp [cmpQ,aa,show ¬ ((zs.length:Int)<2) from by omega];rw [aj];simp [k1,vJ,hne,V.under,hbl,k2];simp [Mr]
end
end
section
open Go.Sort Go.Shelf Go.RowKit
def fu (zs:List Int):List V:=zs.map λz=>.d (.int .i64 z)
def asInt:V->Option Int
 | .d (.int .i64 z)=>some z
 | _=>none
theorem CE {v:V}{z:Int}(h:asInt v=some z):v=.d (.int .i64 z):=by
 unfold asInt at h;split at h
 . cases h; rfl
 . cases h
theorem Ru {cs:List V}{zs:List Int}(h:cs.mapM asInt=some zs):cs=fu zs:=by
 induction cs generalizing zs with
 | nil=>simp at h; subst h; rfl
 | cons c cs ih =>
  simp only [List.mapM_cons,Option.pure_def,Option.bind_eq_bind,Option.bind_eq_some_iff] at h;obtain ⟨z,h1,zs',h2,h3⟩:=h;cases h3;rw [CE h1,ih h2]; rfl
def bD (zs:List Int):List Int:=zs.mergeSort λx y=>decide (x<=y)
def qb (args:List V)(h:Hp):Option (V×Hp):=match args with
 | [.d (.slice true [])]=>some (.tup [],h)
 | [.row b 0 n _ 1]=>if n=0 then some (.tup [],h) else match h.get b with
  | some cs=>match cs.mapM asInt with
   | some zs=>if zs.length=n/\n<=2 ^ 30 then some (.tup [],h.set b (fu (bD zs))) else none
   | none=>none
  | none=>none
 | _=>none
theorem Ib {args:List V}{h:Hp}{r:V}{h':Hp}(hm:qb args h=some (r,h')):LowOk h h':=by
 unfold qb at hm;split at hm
 . cases hm; exact LowOk.refl _
 . split at hm
   . cases hm; exact LowOk.refl _
   . split at hm
     . split at hm
       . split at hm
         . cases hm; exact LowOk.set _ _ _
         . cases hm
       . cases hm
     . cases hm
 . cases hm
variable {P:Program}{ρr:Ren}
theorem LB (Ly:Lays.n189 P ρr){B:Nat}{ρ:Rh}{h:Hp}{w:World}{args:List V}{vs:Array Value}{r:V}{h':Hp}(hR:Rel B ρ h w)(hv:VRs ρ (St ρ w) w args vs.toList)(hm:qb args h=some (r,h')) :
 Calls P (ρr.f 189) vs w (kZ B ρ h w r h'):=by
 have one:∀ {x:V},args=[x]->∃ u,vs=#[u]/\VR ρ (St ρ w) w x u:=by
  rintro x rfl;simp only [VRs] at hv;obtain ⟨u,us,h1,h2,rfl⟩:=hv;refine ⟨u,?_,h2⟩;have:vs.toList=(#[u]:Array Value).toList:=by simpa using h1
  exact Array.toList_inj.1 this
 have none_:∀ {u:Value} {p:Option Addr} {c:Nat},u=.slice p 0 c->r=.tup []->h'=h->vs=#[u]->Calls P (ρr.f 189) vs w (kZ B ρ h w r h'):=by
  rintro u p c rfl rfl rfl rfl;refine (Any.slices_Sort_int_none Ly p c w).mono ?_;rintro e w' ⟨rfl,rfl⟩;exact ⟨_,ρ,rfl,hR,Goes.refl _ _ _,by simp only [VRx,VR,VRs]; exact ⟨_,rfl,rfl⟩⟩
 unfold qb at hm;split at hm
 . obtain ⟨u,e1,h2⟩:=one rfl;simp only [VR,DR] at h2;obtain ⟨a,c,rfl,_⟩:=h2;cases hm;exact none_ rfl rfl rfl e1
 . rename_i b n cap;obtain ⟨u,e1,h2⟩:=one rfl;simp only [VR] at h2;obtain ⟨hb,c,rfl,hc1,hc2,_⟩:=h2;split at hm
   . rename_i hn;subst hn;cases hm;exact none_ rfl rfl rfl e1
   . rename_i hn;split at hm
     . rename_i cs hg;split at hm
       . rename_i zs hzs;split at hm
         . rename_i hlen;obtain ⟨hlen,hsmall⟩:=hlen;cases hm;have hcs:=Ru hzs;subst hcs;subst e1;have hne:fu zs≠[]:=λhh=>hn (by rw [← hlen]; have:=congrArg List.length hh; simpa [fu] using this);have hll:(fu zs).length=zs.length:=by simp [fu]
           obtain ⟨arr,el,fz,k1,k2,k3,k4⟩:=gV hR hg hne;obtain ⟨hbl,hbe⟩:=oK hg;have hcell:∀ j (hj:j<zs.length) (hj2:j<arr.size),arr[j]=Value.int .i64 zs[j]:=by
            intro j hj hj2;have:=(k4 j (by omega) hj2).1;simpa [fu,VR,DR] using this
           have hH:Holds (Value.int .i64) w (ρ b) 0 zs.toArray:=by
            intro j hj;have hj':j<zs.length:=by simpa using hj
            have hj2:j<arr.size:=by omega
            refine ⟨?_,by simpa using k3 j hj2⟩;have:zs.toArray[j]! = zs[j]:=by rw [getElem!_pos _ j hj]; simp
            rw [this];simp [World.cell?,k1,hj2,hcell j hj' hj2]
           have hlt:=(hR.lo b hb).2;subst hlen;refine (Any.slices_Sort_int Ly (ρ b) 0 c zs w hH hlt (by omega)).mono ?_;rintro e w' ⟨rfl,nn,os,rfl⟩;have hlive:h.bs[b].live=true:=by
            rw [hbe];cases hh:fu zs with
            | nil=>exact absurd hh hne
            | cons _ _=>rfl
           have hsl:(bD zs).length=zs.length:=List.length_mergeSort _
           let w1:=putRow (Value.int .i64) (Sort.ahead w nn) (ρ b) 0 (bD zs).toArray
           have hheap:w1.heap=w.heap.modify (ρ b) (onCells (putCells (Value.int .i64) 0 (bD zs).toArray)):=rfl;have hsz:w1.heap.size=w.heap.size:=by rw [hheap]; simp
           have hoth:∀ k,k≠ρ b->w1.heap[k]?=w.heap[k]?:=λk hk=>by
            rw [hheap,Array.getElem?_modify,if_neg (Ne.symm hk)]
           have hat:w1.heap[ρ b]?=some (.cells (putCells (Value.int .i64) 0 (bD zs).toArray arr) el fz):=by
            rw [hheap,Array.getElem?_modify,if_pos rfl,k1]; rfl
           have hps:(putCells (Value.int .i64) 0 (bD zs).toArray arr).size=arr.size:=by simp [putCells]
           have hown:∀ arr' e' fz',w.heap[ρ b]?=some (.cells arr' e' fz')->∃ arr'' fz'',w1.heap[ρ b]?=some (.cells arr'' e' fz'')/\arr''.size=arr'.size:=by
            intro arr' e' fz' hh;rw [k1] at hh;cases hh;exact ⟨_,_,hat,hps⟩
           have hbr:BR ρ w1 (ρ b) (.cells (fu (bD zs))):=by
            have hl2:(fu (bD zs)).length=zs.length:=by simp [fu,hsl]
            have hne2:fu (bD zs)≠[]:=λhh=>by
             rw [hh] at hl2; exact hn hl2.symm
            have core:∃ arr' e' fz',w1.heap[ρ b]?=some (.cells arr' e' fz')/\(fu (bD zs)).length<=arr'.size/\(∀ j,j<arr'.size->w1.frozen? ⟨ρ b,j,none⟩=false) ∧
             ∀ (j:Nat) (h1:j<(fu (bD zs)).length) (h2:j<arr'.size),VR ρ (St ρ w1) w1 (fu (bD zs))[j] arr'[j]/\arr'[j].oneCell'=true:=by
             refine ⟨_,_,_,hat,by rw [hps,hl2,← hll]; exact k2,λj hj=>?_,λj h1 h2=>?_⟩
             . have:=k3 j (by rw [← hps]; exact hj);rw [← this];exact frozen?_mapBlock (Sort.ahead w nn) (ρ b) _ _
             . have hj:j<(bD zs).length:=by rw [hsl]; omega
               have hv:(putCells (Value.int .i64) 0 (bD zs).toArray arr)[j]=Value.int .i64 (bD zs)[j]:=by
                simp only [putCells,Array.getElem_mapIdx];rw [if_pos ⟨Nat.zero_le _,by simpa using hj⟩];simp [getElem!_pos,hj]
               rw [hv];exact ⟨by simp [fu,VR,DR],rfl⟩
            revert core hne2
            cases fu (bD zs) with
            | nil=>intro hne2 _; exact absurd rfl hne2
            | cons x xs=>intro _ core; simpa only [BR] using core
           have q1:=rV hR hbl hlive hsz hoth hown rfl rfl rfl (.cells (fu (bD zs))) hbr (min h.low b);have q2:=kU hR (hR.live b hbl hlive) hsz hoth hown rfl rfl rfl;have hbel:Below w1.heap.size w1 (grow w1 os):=⟨rfl,rfl,rfl,by simp [grow],λk hk=>by simp [grow,Array.getElem?_append_left hk]⟩;obtain ⟨q3,q4⟩:=sM q1 hbel;exact ⟨_,ρ,rfl,q3,q2.trans q4,by simp only [VRx,VR,VRs]; exact ⟨_,rfl,rfl⟩⟩
         . cases hm
       . cases hm
     . cases hm
 . cases hm
end
section
def Inr (k:IntKind)(n:Int):Prop:=(Lit.int k n).wf=true
def Pod.wf (B:Nat)(p:Pod):Prop:=Inr .u64 p.uid/\p.ns.size<=B/\p.sa.size<=B/\Inr .i64 p.host/\Inr .u32 p.addr/\Inr .i64 p.port/\Inr .u64 p.service
def Svc.wf (B:Nat)(p:Svc):Prop:=Inr .u64 p.id/\p.ns.size<=B/\Inr .u32 p.addr/\Inr .i64 p.port/\Inr .u64 p.way
def Way.wf (B:Nat)(p:Way):Prop:=Inr .u64 p.id/\Inr .i64 p.node
def Term.wf (B:Nat)(p:Term):Prop:=Inr .i64 p.kind/\p.text.size<=B
def Cidr.wf (B:Nat)(p:Cidr):Prop:=Inr .u32 p.addr/\Inr .i64 p.bits
def Qo (B:Nat)(n:Int):Prop:=Inr .i64 n
def Sl.wf {α:Type}(B:Nat)(f:Nat->α->Prop)(s:Sl α):Prop:=fit B s/\∀ x∈s.l,f B x
def Source.wf (B:Nat)(p:Source):Prop:=p.names.wf B Term.wf/\p.spaces.wf B Term.wf/\p.nets.wf B Cidr.wf
def Target.wf (B:Nat)(p:Target):Prop:=p.ports.wf B Qo/\p.methods.wf B Term.wf/\p.paths.wf B Term.wf/\p.hosts.wf B Term.wf
def When.wf (B:Nat)(p:When):Prop:=p.head.size<=B/\p.terms.wf B Term.wf
def Rule.wf (B:Nat)(p:Rule):Prop:=p.frm.wf B Source.wf/\p.to.wf B Target.wf/\p.whn.wf B When.wf
def Pol.wf (B:Nat)(p:Pol):Prop:=Inr .u64 p.id/\p.ns.size<=B/\Inr .u64 p.service/\Inr .i64 p.deny/\p.rules.wf B Rule.wf
def Cfg.wf (B:Nat)(c:Cfg):Prop:=Inr .u64 c.epoch/\Inr .u64 c.next/\Inr .i64 c.hosts/\Inr .i64 c.ways/\c.pods.wf B Pod.wf/\c.services.wf B Svc.wf/\c.bound.wf B Way.wf/\c.policies.wf B Pol.wf
theorem Source.wf.fits {B:Nat}{s:Source}(h:s.wf B):s.fits B:=⟨h.1.1,h.2.1.1,h.2.2.1⟩
theorem Target.wf.fits {B:Nat}{s:Target}(h:s.wf B):s.fits B:=⟨h.1.1,h.2.1.1,h.2.2.1.1,h.2.2.2.1⟩
theorem When.wf.fits {B:Nat}{s:When}(h:s.wf B):s.fits B:=h.2.1
theorem Rule.wf.fits {B:Nat}{s:Rule}(h:s.wf B):s.fits B:=⟨⟨h.1.1,λx hx=>(h.1.2 x hx).fits⟩,⟨h.2.1.1,λx hx=>(h.2.1.2 x hx).fits⟩,h.2.2.1,λx hx=>(h.2.2.2 x hx).fits⟩
theorem Pol.wf.fits {B:Nat}{s:Pol}(h:s.wf B):s.fits B:=⟨h.2.2.2.2.1,λx hx=>(h.2.2.2.2.2 x hx).fits⟩
theorem Cfg.wf.fits {B:Nat}{c:Cfg}(h:c.wf B):c.fits B:=⟨h.2.2.2.2.1.1,h.2.2.2.2.2.1.1,h.2.2.2.2.2.2.1.1,h.2.2.2.2.2.2.2.1,λx hx=>(h.2.2.2.2.2.2.2.2 x hx).fits⟩
theorem fit.le {α:Type}{B B':Nat}{s:Sl α}(hB:B<=B')(h:fit B s):fit B' s:=⟨cg h.1 hB,h.2⟩
theorem Source.fits.le {B B':Nat}(hB:B<=B'){s:Source}(h:s.fits B):s.fits B':=⟨h.1.le hB,h.2.1.le hB,h.2.2.le hB⟩
theorem Target.fits.le {B B':Nat}(hB:B<=B'){s:Target}(h:s.fits B):s.fits B':=⟨h.1.le hB,h.2.1.le hB,h.2.2.1.le hB,h.2.2.2.le hB⟩
theorem When.fits.le {B B':Nat}(hB:B<=B'){s:When}(h:s.fits B):s.fits B':=fit.le hB h
theorem Rule.fits.le {B B':Nat}(hB:B<=B'){s:Rule}(h:s.fits B):s.fits B':=⟨⟨h.1.1.le hB,λx hx=>(h.1.2 x hx).le hB⟩,⟨h.2.1.1.le hB,λx hx=>(h.2.1.2 x hx).le hB⟩,h.2.2.1.le hB,λx hx=>When.fits.le hB (h.2.2.2 x hx)⟩
theorem Pol.fits.le {B B':Nat}(hB:B<=B'){s:Pol}(h:s.fits B):s.fits B':=⟨h.1.le hB,λx hx=>(h.2 x hx).le hB⟩
theorem Cfg.fits.le {B B':Nat}(hB:B<=B'){c:Cfg}(h:c.fits B):c.fits B':=⟨h.1.le hB,h.2.1.le hB,h.2.2.1.le hB,h.2.2.2.1.le hB,λx hx=>(h.2.2.2.2 x hx).le hB⟩
theorem Cfg.wf.ok {B:Nat}{c:Cfg}(h:c.wf B)(hB:B<=big):c.ok:=h.fits.le hB
end
section
noncomputable def E1:Calls':=λf args h=>match Nat.beq f 350 with
 | true=>qb args h
 | false=>Sm (λ_ _ _=>none) TT ah f args h
def dg5:List (Nat×QF):=[(294,K4),(306,UV),(352,cp1)]
def TP:FuncId->Option QF:=gM dg5
def pW (f:FuncId):Bool:=Nat.beq 294 f
theorem Tk:TP 294=some K4:=rfl
theorem Tj:TP 306=some (cloneQ 1 8 [(.d (.int .i64 0))]):=by kernel_rfl
theorem Tm:TP 352=some (cmpQ .i64):=by kernel_rfl
theorem cl6:TP 350=none:=rfl
theorem cl5:TP 345=none:=rfl
theorem cl7:TP 351=none:=rfl
theorem RN {args:List V}{h:Hp}:Sm E1 TP pW 350 args h=qb args h:=by rw [aL cl6]; rfl
theorem Jy {args:List V}{h:Hp}:Sm E1 TP pW 345 args h=Sm (λ_ _ _=>none) TT ah 345 args h:=by rw [aL cl5]; rfl
theorem Jz {args:List V}{h:Hp}:Sm E1 TP pW 351 args h=Sm (λ_ _ _=>none) TT ah 351 args h:=by rw [aL cl7]; rfl
variable {E:Calls'}
def ig (n:Int):Bool:=decide (n>=1)&&decide (n<=65535)
theorem dj8:TT 379=some (anyQ 401):=de7
theorem dk8:TT 401=some idx1Q:=df7
theorem dj9:TT 380=some not1Q:=de8
theorem dj0:TT 351=some (allQ 379 380):=dd3
theorem Rb (s:Sl Int)(hs:short s)(h:Hp):Sm E TT ah 351 [.d (i64 6),.d (s.d jU),.fn 141 []] h=some (bl (decide ((s.l.length:Int)<=6)&&s.l.all ig),h) :=
 Rc (cell:=λn=>i64 n) dk8 dx4 dj8 dw5 dj9 dw6 dj0 dv1 hs (λe he h=>Xt e h) h
def aZ (t:Target):Bool:=(bi t.methods&&(bi t.paths&&(bi t.hosts&&true)))&&(decide ((t.ports.l.length:Int)<=6)&&t.ports.l.all ig)&&((vJ (bD t.ports.l):Int)==(t.ports.l.length:Int))
theorem xq {T:FuncId->Option QF}{val:FuncId->Bool}{kd:IntKind}{id:FuncId}(ht:T id=some (cmpQ kd))(hv:val id=false)(h:Hp):Sm E T val id [.d (.slice true [])] h=some (.d (.slice true []),h):=by
 rw [ax ht hv];simp [cmpQ,aa,V.under]
theorem vU {h:Hp}{b n:Nat}{cap:Option Nat}{ds:List D}(hb:ai h.bs b=some (ds.map .d))(hn:n=ds.length):frz h (.row b 0 n cap 1)=some (.d (.slice false (ds.map λd=>[d]))):=by
 have h1:ai h.bs b=some (flat (ds.map λd=>[d])++[]):=by
  have hf:∀ l:List D,(l.map λd=>[d]).flatten=l:=by
   intro l
   induction l with
   | nil=>rfl
   | cons d l ih=>simp only [co,List.flatten_cons,ih]; rfl
  rw [hb,List.append_nil,flat,hf]
 have:=bz (h:=h) (k:=7) (b:=b) (n:=n) (cap:=cap) (z:=1) (es:=ds.map λd=>[d]) (rest:=[]) (by simp) (by simpa using hn) h1;simp only [frz,iY,this]
def rT (t:Target):Bool:=bi t.methods&&(bi t.paths&&(bi t.hosts&&true))
def kK (t:Target):Bool:=decide ((t.ports.l.length:Int)<=6)&&t.ports.l.all ig
theorem Q0 (t:Target)(ht:t.wf big)(b:Nat)(cap:Option Nat)(h:Hp)(hb:ai h.bs b=some [.d (t.methods.d Term.c),.d (t.paths.d Term.c),.d (t.hosts.d Term.c)]):Sm E TT ah 345 [.row b 0 3 cap 1] h=some (bl (rT t),h):=by
 refine Ra [t.methods,t.paths,t.hosts] (by simp) ?_ _ h (vU (ds:=[t.methods.d Term.c,t.paths.d Term.c,t.hosts.d Term.c]) hb rfl)
 . intro s hs;simp only [List.mem_cons,List.not_mem_nil,or_false] at hs;obtain rfl | rfl | rfl:=hs
   . exact ⟨ht.2.1.1,λx hx=>(ht.2.1.2 x hx).2⟩
   . exact ⟨ht.2.2.1.1,λx hx=>(ht.2.2.1.2 x hx).2⟩
   . exact ⟨ht.2.2.2.1,λx hx=>(ht.2.2.2.2 x hx).2⟩
theorem IR (t:Target)(ht:t.wf big)(hl:t.ports.l=[])(hnl:t.ports.nl=true)(h:Hp):Sm E1 TP pW 294 [ag t.c] h=some (bl (aZ t),h):=by
 have hp:t.ports.d jU=.slice true []:=by simp [Sl.d,hl,hnl]
 have c1:=λh=>iO (E:=E1) (T:=TP) (val:=pW) Tj rfl (by decide) (by decide) (nl:=true) (es:=[]) (by simp) (by simp) h;have c3:=λh=>xq (E:=E1) (T:=TP) (val:=pW) Tm rfl h;have c2:∀ h,qb [.d (.slice true [])] h=some (.tup [],h):=λ_=>rfl;have r1:=λb cap h hb=>Q0 (E:=λ_ _ _=>none) t ht b cap h hb;have a1:=λh=>Rb (E:=λ_ _ _=>none) t.ports ht.1.1 h;rw [← hp] at c1;have hlen:t.ports.l.length=0:=by rw [hl]; rfl
 rw [aN Tk rfl];have hT:aZ t=(rT t&&kK t&&true):=by simp [aZ,rT,kK,hl,vJ,bD]
 rw [hT];simp [aa,K4,c1,bH,RN,c2];cases hR:rT t<;>cases hP:kK t;all_goals
  simp only [hR] at r1;have a2:=hP;unfold kK at a2;simp only [a2] at a1;simp +decide [ay,ae,Jy,Jz,r1,a1,c3,aC,bM,hlen]
theorem Gl (l:List Int):flat (l.map jU)=fu l:=by
 simp only [flat,fu]
 induction l with
 | nil=>rfl
 | cons x l ih=>simp only [co,List.flatten_cons,List.map_append,ih]; rfl
theorem Gq (l:List Int):(fu l).mapM asInt=some l:=by
 induction l with
 | nil=>rfl
 | cons x l ih =>
  simp only [fu,co,List.mapM_cons] at ih ⊢;simp [ih,asInt]
theorem Ic (l:List Int):(bD l).length=l.length:=List.length_mergeSort _
theorem Cw (t:Target)(ht:t.wf big)(hl:t.ports.l=[])(hnl:t.ports.nl=false)(h:Hp):Sm E1 TP pW 294 [ag t.c] h=some (bl (aZ t),h):=by
 have hp:t.ports.d jU=.slice false []:=by simp [Sl.d,hl,hnl]
 have c1:=λh=>iO (E:=E1) (T:=TP) (val:=pW) Tj rfl (by decide) (by decide) (nl:=false) (es:=[]) (by simp) (by simp) h;have c3:=xG (E:=E1) (T:=TP) (val:=pW) Tm rfl (zs:=[]) (b:=1) (cap:=some 0) (h:=⟨[.cells (t.c.map .d),.cells [],.cells [.d (t.methods.d Term.c),.d (t.paths.d Term.c),.d (t.hosts.d Term.c)]],3⟩) (by simp) (by simp);have c2:∀ b c h,qb [.row b 0 0 c 1] h=some (.tup [],h):=λ_ _ _=>rfl;have r1:=λb cap h hb=>Q0 (E:=λ_ _ _=>none) t ht b cap h hb;have a1:=λh=>Rb (E:=λ_ _ _=>none) t.ports ht.1.1 h;rw [← hp] at c1;have hlen:t.ports.l.length=0:=by rw [hl]; rfl
 rw [aN Tk rfl];have hT:aZ t=(rT t&&kK t&&true):=by simp [aZ,rT,kK,hl,vJ,bD]
 rw [hT];obtain ⟨h',c3,c4⟩:=c3;simp [vJ] at c3;simp [aa,K4,c1,bH,RN,c2];cases hR:rT t<;>cases hP:kK t;all_goals
  simp only [hR] at r1;have a2:=hP;unfold kK at a2;simp only [a2] at a1;obtain rfl | ⟨cur,rfl⟩:=c4<;>first | (simp +decide [ay,ae,Jy,Jz,r1,a1,c3,aC,bM,hlen]; done) | (simp +decide [ay,ae,Jy,Jz,r1,a1,c3,aC,hlen]; rw [if_pos (vg (by rfl))]; simp)
theorem F9 (t:Target)(ht:t.wf big)(hl:t.ports.l≠[])(h:Hp):Sm E1 TP pW 294 [ag t.c] h=some (bl (aZ t),h):=by
 have hnl:t.ports.nl=false:=by
  cases hh:t.ports.nl with
  | false=>rfl
  | true=>exact absurd (ht.1.1.2 hh) hl
 have hsl:=Ic t.ports.l;have hne0:¬ t.ports.l.length=0:=by simpa using hl
 have hlb:t.ports.l.length<=big:=ht.1.1.1;have hp:t.ports.d jU=.slice false (t.ports.l.map jU):=by simp [Sl.d,hnl]
 have c1:∀ h,Sm E1 TP pW 306 [.d (t.ports.d jU)] h=some (.row (h.bs.length+1) 0 t.ports.l.length none 1,⟨h.bs++[.cells [],.cells (fu t.ports.l)],min h.low h.bs.length⟩):=by
  intro h;have:=iO (E:=E1) (T:=TP) (val:=pW) Tj rfl (by decide) (by decide) (nl:=false) (es:=t.ports.l.map jU) (by simp [jU]) (by simpa using hlb) h;rw [hp,this];have hf:=Gl t.ports.l
  revert hf hl
  cases t.ports.l with
  | nil=>intro hl; exact absurd rfl hl
  | cons x l =>
   intro _ hf;simp only [co] at hf;simp [bH,hf]
 have c2:∀ lo,qb [.row 2 0 t.ports.l.length none 1] ⟨[.cells (t.c.map .d),.cells [],.cells (fu t.ports.l)],lo⟩=some (.tup [],⟨[.cells (t.c.map .d),.cells [],.cells (fu (bD t.ports.l))],min lo 2⟩):=by
  intro lo;simp only [qb,if_neg hne0,get_eq,Gm,xS,Gq];rw [if_pos ⟨trivial,hlb⟩];rfl
 have c3:=xG (E:=E1) (T:=TP) (val:=pW) Tm rfl (zs:=bD t.ports.l) (b:=2) (cap:=none) (h:=⟨[.cells (t.c.map .d),.cells [],.cells (fu (bD t.ports.l)),.cells [.d (t.methods.d Term.c),.d (t.paths.d Term.c),.d (t.hosts.d Term.c)]],4⟩) (by simp; rfl) (by rw [hsl]; exact cf hlb (by decide));have r1:=λb cap h hb=>Q0 (E:=λ_ _ _=>none) t ht b cap h hb;have a1:=λh=>Rb (E:=λ_ _ _=>none) t.ports ht.1.1 h;rw [aN Tk rfl];have hT:aZ t=(rT t&&kK t&&((vJ (bD t.ports.l):Int)==(t.ports.l.length:Int))):=rfl;rw [hT];obtain ⟨h',c3,c4⟩:=c3;rw [hsl] at c3;generalize vJ (bD t.ports.l)=K at *;generalize fu (bD t.ports.l)=Z at *;generalize fu t.ports.l=Z0 at *;simp [aa,K4,c1,RN,c2];cases hR:rT t<;>cases hP:kK t;all_goals
  simp only [hR] at r1;have a2:=hP;unfold kK at a2;simp only [a2] at a1;obtain rfl | ⟨cur,rfl⟩:=c4<;>first | (simp +decide [ay,ae,Jy,Jz,r1,a1,c3,aC,bM]; done) | (simp +decide [ay,ae,Jy,Jz,r1,a1,c3,aC]; rw [if_pos (vg (by rfl))]; simp)
theorem MF (t:Target)(ht:t.wf big)(h:Hp):Sm E1 TP pW 294 [ag t.c] h=some (bl (aZ t),h):=by
 by_cases hl:t.ports.l=[]
 . cases hnl:t.ports.nl with
   | true=>exact IR t ht hl hnl h
   | false=>exact Cw t ht hl hnl h
 . exact F9 t ht hl h
end
section
variable {E:Calls'}
theorem dj5:TT 374=some (anyQ 391):=de3
theorem dk7:TT 391=some (idxQ 2):=df6
theorem dj6:TT 375=some (notQ 2):=de4
theorem di7:TT 346=some (allQ 374 375):=dc8
theorem di5:TT 343=some (anyQ 370):=dc5
theorem dj3:TT 370=some (idxQ 3):=dd9
theorem di6:TT 344=some (notQ 3):=dc6
theorem di1:TT 291=some (allQ 343 344):=db2
theorem di8:TT 348=some (anyQ 377):=dd0
theorem dj7:TT 377=some (idxQ 4):=de6
theorem di9:TT 349=some (notQ 4):=dd2
theorem di2:TT 293=some (allQ 348 349):=db4
theorem dj1:TT 353=some (anyQ 381):=dd4
theorem dk4:TT 381=some (idxQ 2):=de9
theorem dj2:TT 354=some (notQ 2):=dd5
theorem di3:TT 295=some (allQ 353 354):=db5
theorem dh9:TT 289=some (anyQ 342):=db0
theorem di4:TT 342=some (idxQ 3):=dc4
theorem di0:TT 290=some (notQ 3):=db1
theorem dh8:TT 230=some (allQ 289 290):=cz8
theorem cj8:TT 294=none:=by kernel_rfl
def mZ (s:Sl Cidr):Bool:=decide ((s.l.length:Int)<=6)&&s.l.all qY
theorem bl7 (s:Sl Cidr)(hs:short s)(h:Hp):Sm E TT ah 346 [.d (i64 6),.d (s.d Cidr.c),.fn 347 []] h=some (bl (mZ s),h) :=
 Ac (cells:=Cidr.c) dk7 dx3 dj5 dw1 dj6 dw2 di7 du7 (λ_=>rfl) hs (λe he h=>bl8 e h) h
def gL (s:Source):Bool:=(bi s.names&&(bi s.spaces&&true))&&mZ s.nets
theorem bl0 (s:Source)(hs:s.wf big)(h:Hp):Sm E TT ah 292 [ag s.c] h=some (bl (gL s),h):=by
 have r1:∀ b cap h,ai h.bs b=some [.d (s.names.d Term.c),.d (s.spaces.d Term.c)]->Sm E TT ah 345 [.row b 0 2 cap 1] h=some (bl ([s.names,s.spaces].all bi),h):=by
  intro b cap h hb;refine Ra [s.names,s.spaces] (by simp) ?_ _ h (vU (ds:=[s.names.d Term.c,s.spaces.d Term.c]) hb rfl);intro x hx;simp only [List.mem_cons,List.not_mem_nil,or_false] at hx;obtain rfl | rfl:=hx
  . exact ⟨hs.1.1,λx hx=>(hs.1.2 x hx).2⟩
  . exact ⟨hs.2.1.1,λx hx=>(hs.2.1.2 x hx).2⟩
 have a1:=λh=>bl7 (E:=E) s.nets hs.2.2.1 h;have hT:gL s=([s.names,s.spaces].all bi&&mZ s.nets):=rfl;rw [hT];generalize [s.names,s.spaces].all bi=A at *;generalize mZ s.nets=B at *;rw [aN db3 dt2];cases A<;>simp +decide [aa,U2,r1,a1,aC]
def kw (w:When):Bool:=ll w.head&&(bi w.terms&&true)&&decide ((w.terms.l.length:Int)>0)
theorem bl1 (w:When)(hw:w.wf big)(h:Hp):Sm E TT ah 296 [ag w.c] h=some (bl (kw w),h):=by
 have r1:∀ b cap h,ai h.bs b=some [.d (w.terms.d Term.c)]->Sm E TT ah 345 [.row b 0 1 cap 1] h=some (bl ([w.terms].all bi),h):=by
  intro b cap h hb;refine Ra [w.terms] (by simp) ?_ _ h (vU (ds:=[w.terms.d Term.c]) hb rfl);intro x hx;simp only [List.mem_cons,List.not_mem_nil,or_false] at hx;subst hx;exact ⟨hw.2.1,λx hx=>(hw.2.2 x hx).2⟩
 have a1:=λh=>bl9 (E:=E) w.head hw.1 h;have hT:kw w=(ll w.head&&[w.terms].all bi&&decide ((w.terms.l.length:Int)>0)):=rfl;rw [hT];generalize [w.terms].all bi=A at *;generalize ll w.head=B at *;rw [aN db6 dt5];cases B<;>cases A<;>simp +decide [aa,U3,r1,a1,aC]
def iw (r:Rule):Bool:=(decide ((r.frm.l.length:Int)<=3)&&r.frm.l.all gL)&&(decide ((r.to.l.length:Int)<=3)&&r.to.l.all aZ)&&(decide ((r.whn.l.length:Int)<=3)&&r.whn.l.all kw)
section
variable (h385:∀ t:Target,t.wf big->∀ h,E 294 [ag t.c] h=some (bl (aZ t),h))
include h385
theorem Xz (t:Target)(ht:t.wf big)(h:Hp):Sm E TT ah 294 [ag t.c] h=some (bl (aZ t),h):=by rw [aL cj8]; exact h385 t ht h
theorem bj8 (r:Rule)(hr:r.wf big)(h:Hp):Sm E TT ah 231 [ag r.c] h=some (bl (iw r),h):=by
 have k1:=λh=>Ac (E:=E) (T:=TT) (val:=ah) (cells:=Source.c) dj3 dv7 di5 du4 di6 du5 di1 dt1 (λ_=>rfl) (s:=r.frm) hr.1.1 (m:=3) (f:=292) (p:=gL) (λe he h=>bl0 e (hr.1.2 e he) h) h;have k2:=λh=>Ac (E:=E) (T:=TT) (val:=ah) (cells:=Target.c) dj7 dw4 di8 du9 di9 dv0 di2 dt3 (λ_=>rfl) (s:=r.to) hr.2.1.1 (m:=3) (f:=294) (p:=aZ) (λe he h=>Xz h385 e (hr.2.1.2 e he) h) h;have k3:=λh=>Ac (E:=E) (T:=TT) (val:=ah) (cells:=When.c) dk4 dw7 dj1 dv2 dj2 dv3 di3 dt4 (λ_=>rfl) (s:=r.whn) hr.2.2.1 (m:=3) (f:=296) (p:=kw) (λe he h=>bl1 e (hr.2.2.2 e he) h) h;unfold iw;generalize (decide ((r.frm.l.length:Int)<=3)&&r.frm.l.all gL)=A at *;generalize (decide ((r.to.l.length:Int)<=3)&&r.to.l.all aZ)=B at *;generalize (decide ((r.whn.l.length:Int)<=3)&&r.whn.l.all kw)=C at *;rw [aN cz9 dr3];cases A<;>cases B<;>simp +decide [aa,UI,k1,k2,k3]
def bT (p:Pol):Bool:=decide (p.id>=1)&&decide (p.id<=4611686018427387903)&&(eqS p.ns ⟨#[]⟩||bU p.ns)&&decide (p.service<=4611686018427387903)&&((p.deny==0)||(p.deny==1))&&(decide ((p.rules.l.length:Int)<=6)&&p.rules.l.all iw)
theorem Q5 (p:Pol)(hp:p.wf big)(h:Hp):Sm E TT ah 152 [ag p.c] h=some (bl (bT p),h):=by
 have k1:=λh=>Ac (E:=E) (T:=TT) (val:=ah) (cells:=Rule.c) di4 du3 dh9 ds9 di0 dt0 dh8 dr2 (λ_=>rfl) (s:=p.rules) hp.2.2.2.2.1 (m:=6) (f:=231) (p:=iw) (λe he h=>bj8 h385 e (hp.2.2.2.2.2 e he) h) h;have k2:=λh=>ME (E:=E) p.ns hp.2.1 h;unfold bT;generalize (decide ((p.rules.l.length:Int)<=6)&&p.rules.l.all iw)=A at *;generalize bU p.ns=B at *;rw [aN cw7 do4];by_cases c1:p.id>=1
 case neg=>simp +decide [aa,wN,c1]
 by_cases c2:p.id<=4611686018427387903
 case neg=>simp +decide [aa,wN,c1,c2]
 cases c3:eqS p.ns ⟨#[]⟩
 case false =>
  cases B
  case false=>simp +decide [aa,wN,c1,c2,c3,k2]
  by_cases c4:p.service<=4611686018427387903
  case neg=>simp +decide [aa,wN,c1,c2,c3,k2,c4]
  by_cases c5:p.deny=0
  case pos=>simp +decide [aa,wN,c1,c2,c3,k2,c4,c5,k1]
  by_cases c6:p.deny=1<;>simp +decide [aa,wN,c1,c2,c3,k2,c4,c5,c6,k1]
 case true =>
  by_cases c4:p.service<=4611686018427387903
  case neg=>simp +decide [aa,wN,c1,c2,c3,c4]
  by_cases c5:p.deny=0
  case pos=>simp +decide [aa,wN,c1,c2,c3,c4,c5,k1]
  by_cases c6:p.deny=1<;>simp +decide [aa,wN,c1,c2,c3,c4,c5,c6,k1]
end
end
