/- The document's puts: a service's, a way's, a policy's. -/
import Derived.Test.YtinmplbccmfheaaGreatXk
set_option maxRecDepth 100000
set_option linter.unusedVariables false
set_option linter.unusedSimpArgs false
namespace Go.Proofs.YtinmplbccmfheaaGreat
section
variable {E:Calls'}
theorem Acc.ownR {base:List Blk}{z:Nat}{acc:List (List D)}{bs:List Blk}{v:V}(h:Acc base z acc bs v)(hd:∀ e∈acc,∀ d∈e,∀ nl c cs,d≠.slice nl (c::cs))(lo:Nat):ownR ⟨bs,lo⟩ v=true:=by
 have hH:Hng true (KL base.length bs) bs v (.slice acc.isEmpty acc) 1:=by
  obtain ⟨rfl,rfl⟩ | ⟨h1,b,h2,rfl,h4⟩:=h.is
  . exact Hng.d λnl c cs hh=>by simp at hh
  . rw [show acc.isEmpty=false by cases acc with | nil=>exact absurd rfl h1 | cons _ _=>rfl];refine Hng.row (k:=0) ⟨h2,aK h4⟩ h4 ?_ h.wid rfl;have:∀ ds:List D,(∀ d∈ds,∀ nl c cs,d≠.slice nl (c::cs))->Hngs true (KL base.length bs) bs 0 (ds.map .d) ds:=by
     intro ds
     induction ds with
     | nil=>intro _; trivial
     | cons d ds ih=>intro hh; exact ⟨Hng.d (hh d (by simp)),ih λd hd=>hh d (by simp [hd])⟩
    exact this _ λd hdm=>by
     obtain ⟨e,he,hde⟩:=List.mem_flatten.1 hdm;exact hd e he d hde
 have:=(hH bs lo (λ_ _=>rfl) 8 (by omega)).2 rfl;obtain ⟨rfl,rfl⟩ | ⟨h1,b,h2,rfl,h4⟩:=h.is
 . exact this
 . exact this
end
section
variable {E:Calls'}
theorem ou {α β:Type}{f:α->β->Bool}:∀ {l:List α} {m:List β},l.length=m.length->all2 f l m=(l.zip m).all λx=>f x.1 x.2
 | [],[],_=>rfl
 | x::l,y::m,h=>by simp [all2,ou (f:=f) (l:=l) (m:=m) (by simpa using h)]
theorem x38:TX 13=some q38:=by kernel_rfl
theorem w38:aP 13=true:=by kernel_rfl
theorem U8 (a b:Cfg)(hc:a.ok)(hl:a.pods.l.length=b.pods.l.length):Cd E TX aP (.loop [2,3,5] AL) [(2,.ptr 0 0),(3,.ptr 1 0),(5,.d (i64 ((0:Nat):Int)))] ⟨[.cells (a.c.map .d),.cells (b.c.map .d)],0⟩=some (cond (all2 Pod.eqB a.pods.l b.pods.l) (.exit 0,[(2,.ptr 0 0),(3,.ptr 1 0)],⟨[.cells (a.c.map .d),.cells (b.c.map .d)],0⟩) (.ret,[(4,bl false)],⟨[.cells (a.c.map .d),.cells (b.c.map .d)],0⟩)):=by
 have hlen:=hc.1.lt;rw [ou hl];have hzl:(a.pods.l.zip b.pods.l).length=a.pods.l.length:=by simp; omega
 refine cZ (a.pods.l.zip b.pods.l) (λx=>Pod.eqB x.1 x.2) (λi=>[(2,.ptr 0 0),(3,.ptr 1 0),(5,.d (i64 i))]) _ _ _ (λi x hx hi W=>?_) (λW=>?_)
 . obtain ⟨x,y⟩:=x;obtain ⟨h1,h2⟩:=List.getElem?_zip_eq_some.1 hx;have hsx:=λh=>aA (z:=7) h h1 (cells:=Pod.c) rfl;have hsy:=λh=>aA (z:=7) h h2 (cells:=Pod.c) rfl;rw [hzl] at hi;have hw:=ax hi hlen;have h0:((i:Int)<a.pods.l.length):=by omega
   cases hA:Pod.eqB x y<;>simp [AL,hsx,hsy,h0,hw,hA]
 . simp [AL,hzl]
theorem U9 (a b:Cfg)(hc:a.ok)(hl:a.services.l.length=b.services.l.length):Cd E TX aP (.loop [2,3,6] AO) [(2,.ptr 0 0),(3,.ptr 1 0),(6,.d (i64 ((0:Nat):Int)))] ⟨[.cells (a.c.map .d),.cells (b.c.map .d)],0⟩=some (cond (all2 Svc.eqB a.services.l b.services.l) (.exit 2,[(2,.ptr 0 0),(3,.ptr 1 0)],⟨[.cells (a.c.map .d),.cells (b.c.map .d)],0⟩) (.ret,[(4,bl false)],⟨[.cells (a.c.map .d),.cells (b.c.map .d)],0⟩)):=by
 have hlen:=hc.2.1.lt;rw [ou hl];have hzl:(a.services.l.zip b.services.l).length=a.services.l.length:=by simp; omega
 refine cZ (a.services.l.zip b.services.l) (λx=>Svc.eqB x.1 x.2) (λi=>[(2,.ptr 0 0),(3,.ptr 1 0),(6,.d (i64 i))]) _ _ _ (λi x hx hi W=>?_) (λW=>?_)
 . obtain ⟨x,y⟩:=x;obtain ⟨h1,h2⟩:=List.getElem?_zip_eq_some.1 hx;have hsx:=λh=>aA (z:=5) h h1 (cells:=Svc.c) rfl;have hsy:=λh=>aA (z:=5) h h2 (cells:=Svc.c) rfl;rw [hzl] at hi;have hw:=ax hi hlen;have h0:((i:Int)<a.services.l.length):=by omega
   cases hA:Svc.eqB x y<;>simp [AO,hsx,hsy,h0,hw,hA]
 . simp [AO,hzl]
theorem Va (a b:Cfg)(hc:a.ok)(hl:a.bound.l.length=b.bound.l.length):Cd E TX aP (.loop [2,3,7] AP) [(2,.ptr 0 0),(3,.ptr 1 0),(7,.d (i64 ((0:Nat):Int)))] ⟨[.cells (a.c.map .d),.cells (b.c.map .d)],0⟩=some (cond (all2 Way.eqB a.bound.l b.bound.l) (.exit 4,[(2,.ptr 0 0),(3,.ptr 1 0)],⟨[.cells (a.c.map .d),.cells (b.c.map .d)],0⟩) (.ret,[(4,bl false)],⟨[.cells (a.c.map .d),.cells (b.c.map .d)],0⟩)):=by
 have hlen:=hc.2.2.1.lt;rw [ou hl];have hzl:(a.bound.l.zip b.bound.l).length=a.bound.l.length:=by simp; omega
 refine cZ (a.bound.l.zip b.bound.l) (λx=>Way.eqB x.1 x.2) (λi=>[(2,.ptr 0 0),(3,.ptr 1 0),(7,.d (i64 i))]) _ _ _ (λi x hx hi W=>?_) (λW=>?_)
 . obtain ⟨x,y⟩:=x;obtain ⟨h1,h2⟩:=List.getElem?_zip_eq_some.1 hx;have hsx:=λh=>aA (z:=2) h h1 (cells:=Way.c) rfl;have hsy:=λh=>aA (z:=2) h h2 (cells:=Way.c) rfl;rw [hzl] at hi;have hw:=ax hi hlen;have h0:((i:Int)<a.bound.l.length):=by omega
   cases hA:Way.eqB x y<;>simp [AP,hsx,hsy,h0,hw,hA]
 . simp [AP,hzl]
theorem Vb (hE:∀ x y:Pol,x.ok->∀ h,E 55 [ag x.c,ag y.c] h=some (bl (x.same y),h))(a b:Cfg)(hc:a.ok)(hl:a.policies.l.length=b.policies.l.length):Cd E TX aP (.loop [2,3,8] AQ) [(2,.ptr 0 0),(3,.ptr 1 0),(8,.d (i64 ((0:Nat):Int)))] ⟨[.cells (a.c.map .d),.cells (b.c.map .d)],0⟩=some (cond (all2 Pol.same a.policies.l b.policies.l) (.exit 6,[],⟨[.cells (a.c.map .d),.cells (b.c.map .d)],0⟩) (.ret,[(4,bl false)],⟨[.cells (a.c.map .d),.cells (b.c.map .d)],0⟩)):=by
 have hlen:=hc.2.2.2.1.lt;rw [ou hl];have hzl:(a.policies.l.zip b.policies.l).length=a.policies.l.length:=by simp; omega
 refine cZ (a.policies.l.zip b.policies.l) (λx=>Pol.same x.1 x.2) (λi=>[(2,.ptr 0 0),(3,.ptr 1 0),(8,.d (i64 i))]) _ _ _ (λi x hx hi W=>?_) (λW=>?_)
 . obtain ⟨x,y⟩:=x;obtain ⟨h1,h2⟩:=List.getElem?_zip_eq_some.1 hx;have hsx:=λh=>aA (z:=5) h h1 (cells:=Pol.c) rfl;have hsy:=λh=>aA (z:=5) h h2 (cells:=Pol.c) rfl;rw [hzl] at hi;have hw:=ax hi hlen;have h0:((i:Int)<a.policies.l.length):=by omega
   have hm:=cc h1;have hcall:=λh=>(bB (E:=E) (T:=TX) (val:=aP) (f:=55) (by kernel_rfl)).trans (hE x y (hc.2.2.2.2 x hm) h);cases hA:x.same y<;>rw [hA] at hcall<;>simp +decide [AQ,hsx,hsy,h0,hw,ai,aa,az,hcall]
 . simp [AQ,hzl]
theorem S38 (hE:∀ x y:Pol,x.ok->∀ h,E 55 [ag x.c,ag y.c] h=some (bl (x.same y),h))(a b:Cfg)(ha:a.ok)(h:Hp):Sm E TX aP 13 [a.v,b.v] h=some (bl (a.same b),h):=by
 rw [aU x38 w38];unfold Cfg.same;cases e1:(a.epoch==b.epoch)
 case false=>simp [af,q38,e1]
 cases e2:(a.next==b.next)
 case false=>simp [af,q38,e1,e2]
 cases e3:(a.hosts==b.hosts)
 case false=>simp [af,q38,e1,e2,e3]
 cases e4:(a.ways==b.ways)
 case false=>simp [af,q38,e1,e2,e3,e4]
 by_cases h1:a.pods.l.length=b.pods.l.length
 case neg =>
  have h1':¬ ((a.pods.l.length:Int)=b.pods.l.length):=by omega
  simp [af,q38,e1,e2,e3,e4,h1',iQ h1]
 by_cases h2:a.services.l.length=b.services.l.length
 case neg =>
  have h1':¬ ((a.services.l.length:Int)=b.services.l.length):=by omega
  simp [af,q38,e1,e2,e3,e4,h1,h1',iQ h2]
 by_cases h3:a.bound.l.length=b.bound.l.length
 case neg =>
  have h1':¬ ((a.bound.l.length:Int)=b.bound.l.length):=by omega
  simp [af,q38,e1,e2,e3,e4,h1,h2,h1',iQ h3]
 by_cases h4:a.policies.l.length=b.policies.l.length
 case neg =>
  have h1':¬ ((a.policies.l.length:Int)=b.policies.l.length):=by omega
  simp [af,q38,e1,e2,e3,e4,h1,h2,h3,h1',iQ h4]
 have k1:=U8 (E:=E) a b ha h1;have k2:=U9 (E:=E) a b ha h2;have k3:=Va (E:=E) a b ha h3;have k4:=Vb (E:=E) hE a b ha h4;simp at k1 k2 k3 k4;generalize all2 Pod.eqB a.pods.l b.pods.l=A1 at *;generalize all2 Svc.eqB a.services.l b.services.l=A2 at *;generalize all2 Way.eqB a.bound.l b.bound.l=A3 at *;generalize all2 Pol.same a.policies.l b.policies.l=A4 at *;simp [af,q38,e1,e2,e3,e4,h1,h2,h3,h4];rw [aj];cases A1
 case false=>simp [k1]
 simp [k1];rw [aj];cases A2
 case false=>simp [k2]
 simp [k2];rw [aj];cases A3
 case false=>simp [k3]
 simp [k3];rw [aj];cases A4<;>simp [k4]
end
section
variable {E:Calls'}
def Row1 (L M:Nat)(bs:List Blk)(z:Nat)(es:List (List D))(v:V):Prop :=
 (∀ e∈es,e.length=z)/\((es=[]/\v=.d (.slice true []))\/∃ b cap,L<=b/\b<M/\v=.row b 0 es.length cap z/\ah bs b=some (flat es)/\(cap=none/\es≠[]\/cap=some 0/\es=[]))
theorem Row1.on {L M z:Nat}{bs bs':List Blk}{es:List (List D)}{v:V}(h:Row1 L M bs z es v)(ho:∀ x,L<=x->x<M->bs'[x]?=bs[x]?):Row1 L M bs' z es v:=by
 refine ⟨h.1,?_⟩;obtain h | ⟨b,cap,h1,h2,h3,h4,h5⟩:=h.2
 . exact .inl h
 . refine .inr ⟨b,cap,h1,h2,h3,?_,h5⟩;rw [← h4]; unfold ah; rw [ho b h1 h2]
theorem Row1.cl {L M z:Nat}{bs:List Blk}{es:List (List D)}{v:V}(h:Row1 L M bs z es v):v.cells=some [v]:=by
 obtain ⟨_,rfl⟩ | ⟨b,cap,h1,h2,rfl,_⟩:=h.2<;>rfl
theorem Row1.nu {L M z:Nat}{bs:List Blk}{es:List (List D)}{v:V}(h:Row1 L M bs z es v):nu v=some v:=by
 obtain ⟨_,rfl⟩ | ⟨b,cap,h1,h2,rfl,_⟩:=h.2<;>rfl
theorem Row1.ok {L M z:Nat}{bs:List Blk}{es:List (List D)}{v:V}(h:Row1 L M bs z es v):okV v=true:=by
 obtain ⟨_,rfl⟩ | ⟨b,cap,h1,h2,rfl,_⟩:=h.2<;>rfl
theorem Jl {α:Type}{cells:α->List D}{z by_:Nat}(hz:∀ x,(cells x).length=z)(hz0:0<z)(hby:by_<=4096){s:Sl α}(hs:short s)(bs:List Blk) :
 ∃ v bs',(∀ lo,d9 ⟨bs++[.cells []],lo⟩ z by_ (.row bs.length 0 0 (some 0) z) (.d (s.d cells))=some (v,⟨bs',lo⟩))/\bs.length<=bs'.length/\(∀ x,x<bs.length->bs'[x]?=bs[x]?)/\Row1 bs.length bs'.length bs' z (s.l.map cells) v/\∀ k,k<=bs.length->v.under k=false:=by
 have hzz:z≠0:=by omega
 have hw:∀ e∈s.l.map cells,e.length=z:=λe he=>by obtain ⟨y,_,rfl⟩:=cb.1 he; exact hz y
 have hrc:∀ h,aH h (.d (s.d cells)) z=some (s.l.length,flat (s.l.map cells)):=λh=>by
  have hall:((s.l.map cells).all λe=>e.length==z)=true:=cj.2 λx hx=>by simp [hw x hx]
  simp only [aH,Sl.d,hall,if_true,flat,b9]
 by_cases h0:s.l.length=0
 . have hl:s.l=[]:=List.length_eq_zero_iff.1 h0;refine ⟨.row bs.length 0 0 (some 0) z,bs++[.cells []],λlo=>?_,by simp,λx hx=>aq hx,⟨hw,.inr ⟨bs.length,some 0,br _,by simp,by rw [hl]; rfl,by rw [hl]; simp,.inr ⟨rfl,by rw [hl]; rfl⟩⟩⟩,λk hk=>by simp [V.under]; omega⟩;simp only [d9,hrc,aI,if_pos h0];simp [hzz]
 . have hroom:roomy s.l.length by_=true:=by simp only [roomy,aE,bw]; exact ⟨hs.1,hby⟩
   have hne:s.l≠[]:=λh=>h0 (by rw [h]; rfl);refine ⟨.row (bs.length+1) 0 s.l.length none z,bs++[.cells [],.cells (flat (s.l.map cells))],λlo=>?_,by simp,λx hx=>aq hx,⟨hw,.inr ⟨bs.length+1,none,by omega,by simp,by simp,?_,.inl ⟨rfl,by simpa using hne⟩⟩⟩,λk hk=>by simp [V.under]; omega⟩
   . simp only [d9,hrc,aI,if_neg h0];simp [hzz,hroom,h0]
   . have:=jS (bs:=bs) (ys:=[.cells [],.cells (flat (s.l.map cells))]) (i:=1);rw [this];rfl
theorem Acc.row1 {base:List Blk}{z:Nat}{acc:List (List D)}{bs:List Blk}{v:V}(h:Acc base z acc bs v):Row1 base.length bs.length bs z acc v:=by
 refine ⟨h.wid,?_⟩;obtain h1 | ⟨h1,b,h2,h3,h4⟩:=h.is
 . exact .inl h1
 . exact .inr ⟨b,none,h2,aK h4,h3,h4,.inl ⟨rfl,h1⟩⟩
structure DoesE (E:Calls'):Prop where
 e35:∀ p:Pol,p.fits big->∀ h,E 17 [ag p.c] h=some (ag p.cp.c,h)
theorem L34 {T:FuncId->Option QF}{val:FuncId->Bool}(h35:T 17=none)(hE:DoesE E)(c:Cfg)(hc:c.ok)(base:List Blk)(n:Nat)(vs:List V)(hb:ah base n=some vs)(h8:sub vs 7 1=some [.d (c.policies.d Pol.c)])(lo:Nat):∃ bs' lo' v',Cd E T val (.loop [1,2,3,4] yf) [(1,.ptr n 0),(2,.ptr (n+1) 0),(3,.d (.slice true [])),(4,.d (i64 0))] ⟨base,lo⟩=some (.exit 0,[(1,.ptr n 0),(2,.ptr (n+1) 0),(3,v')],⟨bs',lo'⟩)/\Acc base 5 (c.policies.l.map λr=>r.cp.c) bs' v':=by
 have hlen:=hc.2.2.2.1.lt;have key:=xM (E:=E) (T:=T) (val:=val) (base:=base) (z:=5) (keep:=[1,2,3,4]) (body:=yf) c.policies.l.length (λi=>(c.policies.l.take i).map λr=>r.cp.c) (λi v=>[(1,.ptr n 0),(2,.ptr (n+1) 0),(3,v),(4,.d (i64 i))]) (λv=>(.exit 0,[(1,.ptr n 0),(2,.ptr (n+1) 0),(3,v)])) (λi hi bs lo v hA=>?_) (λbs lo v hA W=>?_) base lo _ (by simpa using Acc.nil base 5)
 . simpa using key
 . have hx:=ac hi;have hmem:=bj hi;have htk:c.policies.l.take (i+1)=c.policies.l.take i++[c.policies.l[i]]:=by rw [List.take_add_one,hx]; rfl
   generalize c.policies.l[i]=r at *;have hsx:=λh=>aA (z:=5) h hx (cells:=Pol.c) rfl;have hw:=ax hi hlen;have h0:((i:Int)<c.policies.l.length):=by omega
   have hnu:=hA.nu;have hg:=hA.get hb;have hcall:=λh=>(bB (E:=E) (val:=val) h35).trans (hE.e35 r (hc.2.2.2.2 r hmem) h);obtain ⟨v',bs',lo',ha,hA'⟩:=(hA.lay [.cells (r.cp.c.map .d)]).app (by decide) (by_:=64) (by decide) (e:=r.cp.c) rfl (by simp; have:=hc.2.2.2.1.1; omega) lo (r:=bs.length) (cap:=some 1) (by simp);refine ⟨bs',lo',v',by rw [htk,List.map_append]; exact hA',λW=>?_⟩;simp [yf,hg,h8,h0,hsx,hnu,hcall,aL,ha,hw,hA'.nu]
 . simp [yf,hA.get hb,h8]
def cq (c:Cfg)(v4 v5 v6 v7:V):List V:=[.d (u64 c.epoch),.d (u64 c.next),.d (i64 c.hosts),.d (i64 c.ways),v4,v5,v6,v7]
section
variable {c:Cfg}{a b d e x:V}
theorem cq4:put (cq c a b d e) 4 [x]=some (cq c x b d e):=(rfl)
theorem cq5:put (cq c a b d e) 5 [x]=some (cq c a x d e):=(rfl)
theorem cq6:put (cq c a b d e) 6 [x]=some (cq c a b x e):=(rfl)
theorem cq7:put (cq c a b d e) 7 [x]=some (cq c a b d x):=(rfl)
theorem cs4:sub (cq c a b d e) 4 1=some [a]:=(rfl)
theorem cs5:sub (cq c a b d e) 5 1=some [b]:=(rfl)
theorem cs6:sub (cq c a b d e) 6 1=some [d]:=(rfl)
theorem cs7:sub (cq c a b d e) 7 1=some [e]:=(rfl)
theorem cs8:sub (cq c a b d e) 0 8=some (cq c a b d e):=(rfl)
theorem cql:(cq c a b d e).length=8:=(rfl)
theorem cqz {z:List V}(hz:z.length=8):put z 0 (cq c a b d e)=some (cq c a b d e):=by simp [put,hz,cql]
end
theorem B34 {T:FuncId->Option QF}{val:FuncId->Bool}(h35:T 17=none)(hE:DoesE E)(c:Cfg)(hc:c.ok)(bs:List Blk):∃ bs' lo' v4 v5 v6 v7 L0 L1 L2 L3,
 Bd E T val q34 [c.v] ⟨bs,bs.length⟩=some (.agg (cq c v4 v5 v6 v7),⟨bs',lo'⟩)/\(∀ x,x<bs.length->bs'[x]?=bs[x]?)/\bs.length<=L0/\L0<=L1/\L1<=L2/\L2<=L3/\L3<=bs'.length ∧
 Row1 L0 L1 bs' 7 (c.pods.l.map Pod.c) v4/\Row1 L1 L2 bs' 5 (c.services.l.map Svc.c) v5/\Row1 L2 L3 bs' 2 (c.bound.l.map Way.c) v6/\Row1 L3 bs'.length bs' 5 (c.policies.l.map λr=>r.cp.c) v7 ∧
 v4≠.d (.slice true [])/\v5≠.d (.slice true [])/\v6≠.d (.slice true [])/\(c.policies.l=[]->v7=.d (.slice true []))/\v4.under bs.length=false:=by
 obtain ⟨v4,b4,a4,l4,k4,r4,u4⟩:=Jl (cells:=Pod.c) (z:=7) (by_:=72) (λ_=>rfl) (by decide) (by decide) hc.1 (bs++[.cells (c.c.map .d),.cells [.d (.int .u64 0),.d (.int .u64 0),.d (i64 0),.d (i64 0),.d (.slice true []),.d (.slice true []),.d (.slice true []),.d (.slice true [])]]);have n4:bs.length+2<=b4.length:=by simpa using l4
 let c4:=cq c v4 (.d (c.services.d Svc.c)) (.d (c.bound.d Way.c)) (.d (c.policies.d Pol.c))
 obtain ⟨v5,b5,a5,l5,k5,r5,u5⟩:=Jl (cells:=Svc.c) (z:=5) (by_:=48) (λ_=>rfl) (by decide) (by decide) hc.2.1 (b4.set bs.length (.cells (cq c v4 (.d (c.services.d Svc.c)) (.d (c.bound.d Way.c)) (.d (c.policies.d Pol.c)))));have n5:b4.length<=b5.length:=by simpa using l5
 obtain ⟨v6,b6,a6,l6,k6,r6,u6⟩:=Jl (cells:=Way.c) (z:=2) (by_:=16) (λ_=>rfl) (by decide) (by decide) hc.2.2.1 (b5.set bs.length (.cells (cq c v4 v5 (.d (c.bound.d Way.c)) (.d (c.policies.d Pol.c)))));have n6:b5.length<=b6.length:=by simpa using l6
 have g0:ah b4 bs.length=some (cq c (.d (c.pods.d Pod.c)) (.d (c.services.d Svc.c)) (.d (c.bound.d Way.c)) (.d (c.policies.d Pol.c))):=by
  have:ah (bs++[.cells (c.c.map .d),.cells [.d (.int .u64 0),.d (.int .u64 0),.d (i64 0),.d (i64 0),.d (.slice true []),.d (.slice true []),.d (.slice true []),.d (.slice true [])]]) bs.length=some (c.c.map .d):=by simp
  rw [show cq c (.d (c.pods.d Pod.c)) (.d (c.services.d Svc.c)) (.d (c.bound.d Way.c)) (.d (c.policies.d Pol.c))=c.c.map .d from rfl,← this];unfold ah; rw [k4 _ (by simp)]
 have gset:∀ (b:List Blk) (cs:List V),bs.length<b.length->ah (b.set bs.length (.cells cs)) bs.length=some cs:=λb cs h=>by simp [ah,h]
 have g1:=gset b4 (cq c v4 (.d (c.services.d Svc.c)) (.d (c.bound.d Way.c)) (.d (c.policies.d Pol.c))) (by omega);have g1':ah b5 bs.length=some (cq c v4 (.d (c.services.d Svc.c)) (.d (c.bound.d Way.c)) (.d (c.policies.d Pol.c))):=by rw [← g1]; unfold ah; rw [k5 _ (by simp; omega)]
 have g2:=gset b5 (cq c v4 v5 (.d (c.bound.d Way.c)) (.d (c.policies.d Pol.c))) (by omega);have g2':ah b6 bs.length=some (cq c v4 v5 (.d (c.bound.d Way.c)) (.d (c.policies.d Pol.c))):=by rw [← g2]; unfold ah; rw [k6 _ (by simp; omega)]
 have g3:=gset b6 (cq c v4 v5 v6 (.d (c.policies.d Pol.c))) (by omega);obtain ⟨b7,lo7,v7,a7,A7⟩:=L34 (val:=val) h35 hE c hc (b6.set bs.length (.cells (cq c v4 v5 v6 (.d (c.policies.d Pol.c))))) bs.length _ g3 rfl bs.length;have r7:=A7.row1;have n7:=A7.len;simp at n7 r7;have g3':=A7.get g3;have g4:=gset b7 (cq c v4 v5 v6 v7) (by omega);have gz:ah b7 (bs.length+1)=some [.d (.int .u64 0),.d (.int .u64 0),.d (i64 0),.d (i64 0),.d (.slice true []),.d (.slice true []),.d (.slice true []),.d (.slice true [])]:=by
  refine A7.get ?_;have h0:ah (bs++[.cells (c.c.map .d),.cells [.d (.int .u64 0),.d (.int .u64 0),.d (i64 0),.d (i64 0),.d (.slice true []),.d (.slice true []),.d (.slice true []),.d (.slice true [])]]) (bs.length+1)=some [.d (.int .u64 0),.d (.int .u64 0),.d (i64 0),.d (i64 0),.d (.slice true []),.d (.slice true []),.d (.slice true []),.d (.slice true [])]:=by simp
  rw [← h0]; unfold ah;rw [am (by omega),k6 _ (by simp; omega),am (by omega),k5 _ (by simp; omega),am (by omega),k4 _ (by simp)]
 have gz':ah (b7.set bs.length (.cells (cq c v4 v5 v6 v7))) (bs.length+1)=some [.d (.int .u64 0),.d (.int .u64 0),.d (i64 0),.d (i64 0),.d (.slice true []),.d (.slice true []),.d (.slice true []),.d (.slice true [])]:=by rw [← gz]; unfold ah; rw [am (by omega)]
 have gy:ah ((b7.set bs.length (.cells (cq c v4 v5 v6 v7))).set (bs.length+1) (.cells (cq c v4 v5 v6 v7))) (bs.length+1)=some (cq c v4 v5 v6 v7):=by
  have:bs.length+1<b7.length:=by omega
  simp [ah,this]
 have hold:∀ x,bs.length+2<=x\/x<bs.length->((b7.set bs.length (.cells (cq c v4 v5 v6 v7))).set (bs.length+1) (.cells (cq c v4 v5 v6 v7)))[x]?=b7[x]?:=λx hx=>by rw [am (by omega),am (by omega)]
 have h7:∀ x,x<b6.length->x≠bs.length->b7[x]?=b6[x]?:=λx hx hne=>by rw [A7.old x (by simpa using hx),am (Ne.symm hne)]
 have h6:∀ x,x<b5.length->x≠bs.length->b6[x]?=b5[x]?:=λx hx hne=>by rw [k6 x (by simpa using hx),am (Ne.symm hne)]
 have h5:∀ x,x<b4.length->x≠bs.length->b5[x]?=b4[x]?:=λx hx hne=>by rw [k5 x (by simpa using hx),am (Ne.symm hne)]
 refine ⟨(b7.set bs.length (.cells (cq c v4 v5 v6 v7))).set (bs.length+1) (.cells (cq c v4 v5 v6 v7)),min (min lo7 bs.length) (bs.length+1),v4,v5,v6,v7,bs.length+2,b4.length,b5.length,b6.length,?_,?_,by omega,n4,n5,n6,by simpa using n7,?_,?_,?_,?_,?_,?_,?_,?_,u4 bs.length (by simp)⟩
 . have q4:=a4 bs.length;have q5:=a5 bs.length;have q6:=a6 bs.length;have t4:=r4.cl; have t5:=r5.cl; have t6:=r6.cl; have t7:=r7.cl;have m4:=r4.nu; have m5:=r5.nu; have m6:=r6.nu; have m7:=r7.nu;simp at q4 q5 q6 a7;have hcv:c.v=.agg (cq c (.d (c.pods.d Pod.c)) (.d (c.services.d Svc.c)) (.d (c.bound.d Way.c)) (.d (c.policies.d Pol.c))):=rfl;simp [af,q34,q4,q5,q6,m4,m5,m6,m7,t4,t5,t6,t7,g0,g1,g1',g2,g2',g3,av g1,av g2,cq4,cq5,cq6,cs4,cs5,cs6,cql];rw [aj];simp [a7];simp [m7,t7,g3',cs8,cql,cqz,cq7,g4,gz',gy]
 . intro x hx;rw [hold x (.inr hx),h7 x (by omega) (by omega),h6 x (by omega) (by omega),h5 x (by omega) (by omega),k4 x (by simp; omega)];exact aq hx
 . exact (by simpa using r4:Row1 (bs.length+2) b4.length b4 7 _ v4).on λx h1 h2=>by rw [hold x (.inl h1),h7 x (by omega) (by omega),h6 x (by omega) (by omega),h5 x h2 (by omega)]
 . exact (by simpa using r5:Row1 b4.length b5.length b5 5 _ v5).on λx h1 h2=>by rw [hold x (.inl (by omega)),h7 x (by omega) (by omega),h6 x h2 (by omega)]
 . exact (by simpa using r6:Row1 b5.length b6.length b6 2 _ v6).on λx h1 h2=>by rw [hold x (.inl (by omega)),h7 x h2 (by omega)]
 . simpa using r7.on λx h1 h2=>hold x (.inl (by omega))
 . rintro rfl; exact absurd (u4 0 (by simp)) (by simp [V.under])
 . rintro rfl; exact absurd (u5 0 (by simp)) (by simp [V.under])
 . rintro rfl; exact absurd (u6 0 (by simp)) (by simp [V.under])
 . intro h0;obtain ⟨_,h⟩ | ⟨h,_⟩:=A7.is
   . exact h
   . exact absurd (by simp [h0]) h
end
section
variable {E:Calls'}
theorem yC {α:Type}{a b:List α}{o k:Nat}(h:o+k<=a.length):sub (a++b) o k=sub a o k:=by
 rw [eG,eG,if_pos (by simp; omega),if_pos h,List.drop_append_of_le_length (by omega),List.take_append_of_le_length (by simp; omega)]
theorem zO {α:Type}{a b:List α}{o k:Nat}:sub (a++b) (a.length+o) k=sub b o k:=by
 rw [eG,eG,aw,List.drop_append];by_cases h:o+k<=b.length
 . rw [if_pos (by omega),if_pos h,bb (show a.length<=a.length+o by omega)];simp
 . rw [if_neg (by omega),if_neg h]
theorem yB {z:Nat}:∀ {es:List (List D)} {i:Nat} {e:List D},(∀ e∈es,e.length=z)->es[i]?=some e->∀ {o k:Nat},o+k<=z->sub (flat es) (i * z+o) k=sub (e.map V.d) o k
 | x::es,0,e,hz,hi,o,k,h=>by
  simp at hi;subst hi;rw [flat_cons,Nat.zero_mul,Nat.zero_add,yC (by simp [hz x (by simp)]; omega)]
 | x::es,i+1,e,hz,hi,o,k,h=>by
  have hx:=hz x (by simp);have:(i+1) * z+o=(x.map V.d).length+(i * z+o):=by simp [hx,Nat.succ_mul]; omega
  rw [flat_cons,this,zO];exact yB (λe he=>hz e (by simp [he])) (by simpa using hi) h
theorem Row1.len {L M z:Nat}{bs:List Blk}{es:List (List D)}{v:V}(h:Row1 L M bs z es v)(hp:Hp):qO false v hp=some (.d (i64 es.length),hp):=by
 obtain ⟨rfl,rfl⟩ | ⟨b,cap,h1,h2,rfl,_⟩:=h.2<;>rfl
theorem Row1.at {L M z:Nat}{bs:List Blk}{es:List (List D)}{v:V}(h:Row1 L M bs z es v){i:Nat}{e:List D}(hi:es[i]?=some e) :
 ∃ b,L<=b/\b<M/\(∀ hp,eP none z v (.d (.int .i64 i)) hp=some (.ptr b (i * z),hp))/\ah bs b=some (flat es)/\(∀ o k,o+k<=z->sub (flat es) (i * z+o) k=sub (e.map V.d) o k)/\∀ k,k<=z->sub (flat es) (i * z) k=sub (e.map V.d) 0 k:=by
 have hlt:=(bx.1 hi).1;obtain ⟨rfl,rfl⟩ | ⟨b,cap,h1,h2,rfl,h3,_⟩:=h.2
 . simp at hlt
 . refine ⟨b,h1,h2,λhp=>?_,h3,λo k hk=>yB h.1 hi hk,λk hk=>by simpa using yB (o:=0) h.1 hi (by omega)⟩;simp only [eP];rw [if_pos ⟨by omega,by omega,trivial⟩];simp
theorem Acc.ret {bs bs':List Blk}{z lo lo':Nat}{acc:List (List D)}{v:V}(h:Acc bs z acc bs' v):∃ bs2 lo2,eU ⟨bs,lo⟩ (some (v,⟨bs',lo'⟩))=some (v,⟨bs2,lo2⟩)/\Acc bs z acc bs2 v:=by
 rw [ed];by_cases hc:bs.length<=lo'/\v.under bs.length=true
 . rw [if_pos hc];refine ⟨bs,lo,rfl,?_⟩;obtain ⟨rfl,rfl⟩ | ⟨h1,b,h2,rfl,h4⟩:=h.is
   . exact Acc.nil bs z
   . have:=hc.2;simp [V.under] at this;omega
 . rw [if_neg hc];exact ⟨_,_,rfl,h⟩
end
section
variable {E:Calls'}
theorem Acc.weak {bs ys bs':List Blk}{z:Nat}{acc:List (List D)}{v:V}(h:Acc (bs++ys) z acc bs' v):Acc bs z acc bs' v:=by
 have:=h.len;simp at this;refine ⟨by omega,λx hx=>by rw [h.old x (by simp; omega),aq hx],?_,h.wid⟩;obtain h1 | ⟨h1,b,h2,h3,h4⟩:=h.is
 . exact .inl h1
 . exact .inr ⟨h1,b,by simp at h2; omega,h3,h4⟩
end
section
variable {E:Calls'}
theorem Row1.datN {L M z:Nat}{bs:List Blk}{es:List (List D)}{v:V}(h:Row1 L M bs z es v)(hn:v≠.d (.slice true []))(lo k:Nat):dataV ⟨bs,lo⟩ (k+1) v=some (.slice false es):=by
 obtain ⟨_,rfl⟩ | ⟨b,cap,h1,h2,rfl,h3,_⟩:=h.2
 . exact absurd rfl hn
 . rw [iO h.1 rfl (rest:=[]) (by simpa using h3)]
theorem Row1.datE {L M z:Nat}{bs:List Blk}{es:List (List D)}{v:V}(h:Row1 L M bs z es v)(hn:es=[]->v=.d (.slice true []))(lo k:Nat):dataV ⟨bs,lo⟩ (k+1) v=some (.slice es.isEmpty es):=by
 obtain ⟨rfl,rfl⟩ | ⟨b,cap,h1,h2,rfl,h3,h4 | h4⟩:=h.2
 . rfl
 . rw [iO h.1 rfl (rest:=[]) (by simpa using h3)];cases es with
   | nil=>exact absurd rfl h4.2
   | cons _ _=>rfl
 . cases hn h4.2
def z8:List V:=[.d (.int .u64 0),.d (.int .u64 0),.d (i64 0),.d (i64 0),.d (.slice true []),.d (.slice true []),.d (.slice true []),.d (.slice true [])]
def Cfg.cp (c:Cfg):Cfg:={ c with pods:=ll c.pods,services:=ll c.services,bound:=ll c.bound,policies:=mr (c.policies.l.map Pol.cp) }
theorem zh {c:Cfg}{h:Hp}{v4 v5 v6 v7:V}{d4 d5 d6 d7:D}(h4:dataV h 8 v4=some d4)(h5:dataV h 8 v5=some d5)(h6:dataV h 8 v6=some d6)(h7:dataV h 8 v7=some d7) :
 fA h (cq c v4 v5 v6 v7)=some [u64 c.epoch,u64 c.next,i64 c.hosts,i64 c.ways,d4,d5,d6,d7]:=by
 simp only [cq,BM];simp [fA,h4,h5,h6,h7]
theorem Cfg.cp_c (c:Cfg):c.cp.c=[u64 c.epoch,u64 c.next,i64 c.hosts,i64 c.ways,.slice false (c.pods.l.map Pod.c),.slice false (c.services.l.map Svc.c),.slice false (c.bound.l.map Way.c),.slice (c.policies.l.map λr=>r.cp.c).isEmpty (c.policies.l.map λr=>r.cp.c)]:=by
 simp [Cfg.cp,Cfg.c,Sl.d,ll,mr,ck]
end
section
variable {E:Calls'}
theorem bW {bs:List Blk}{x:Nat}{cs cs0:List V}(h:ah bs x=some cs0):ah (bs.set x (.cells cs)) x=some cs:=by simp [ah,aK h]
theorem bV {bs:List Blk}{x y:Nat}{cs:List V}(h:y≠x):ah (bs.set y (.cells cs)) x=ah bs x:=by unfold ah; rw [am h]
theorem cs1 {c:Cfg}{a b d e:V}:sub (cq c a b d e) 1 1=some [.d (u64 c.next)]:=(rfl)
theorem Row1.app {L M z:Nat}{bs:List Blk}{es:List (List D)}{v:V}(h:Row1 L M bs z es v)(hz0:0<z){by_:Nat}(hby:by_<=4096)(hl:es.length<big){e:List D}(he:e.length=z){r:Nat}{cap:Option Nat}(hr:ah bs r=some (e.map .d))(hM:M<=bs.length) :
 ∃ v' bs',∃ F:Nat->Nat,(∀ lo,d9 ⟨bs,lo⟩ z by_ v (.row r 0 1 cap z)=some (v',⟨bs',F lo⟩))/\Row1 bs.length bs'.length bs' z (es++[e]) v'/\v'≠.d (.slice true [])/\(∀ x,x<bs.length->x<L\/M<=x->bs'[x]?=bs[x]?)/\bs.length<=bs'.length:=by
 have hrc:∀ lo,aH ⟨bs,lo⟩ (.row r 0 1 cap z) z=some (1,e.map .d):=λlo=>by
  have:sub (e.map V.d) 0 z=some (e.map V.d):=bN (by simpa using he);simp only [aH,if_true,get_eq,hr,Nat.one_mul,this,Option.map_some]
 have hroom:∀ n,n<=big->roomy n by_=true:=λn hn=>by simp only [roomy,aE,bw]; exact ⟨hn,hby⟩
 have hwid:∀ x∈es++[e],x.length=z:=λx hx=>by
  obtain h1 | h1:=List.mem_append.1 hx
  . exact h.1 x h1
  . simp at h1; rw [h1]; exact he
 have hfe:flat (es++[e])=flat es++e.map .d:=by rw [mq]; simp [flat]
 obtain ⟨rfl,rfl⟩ | ⟨b,cap',h1,h2,rfl,h3,⟨rfl,h4⟩ | ⟨rfl,rfl⟩⟩:=h.2
 . refine ⟨.row bs.length 0 1 none z,bs++[.cells (e.map .d)],id,λlo=>by simp only [d9,hrc,aI,if_neg (show ¬ (1=0) by decide),if_neg (show ¬ z=0 by omega),hroom 1 (by decide),if_true]; rfl,⟨hwid,.inr ⟨bs.length,none,br _,by simp,rfl,by simp [flat],.inl ⟨rfl,by simp⟩⟩⟩,by simp,λx hx _=>aq hx,by simp⟩
 . have hfl:=flat_len h.1;have hsub:sub (flat es) 0 (es.length * z)=some (flat es):=bN hfl;have hpos:0<(flat es).length:=by rw [hfl]; exact Nat.mul_pos (by cases es with | nil=>exact absurd rfl h4 | cons _ _=>simp) hz0
   have hbl:=aK h3;refine ⟨.row bs.length 0 (es.length+1) none z,bs.set b (.cells [])++[.cells (flat es++e.map .d)],λlo=>min lo b,λlo=>by simp only [d9,hrc,aI,ne_eq,not_true_eq_false,false_or,if_neg (show ¬ (1=0) by decide),if_neg (show ¬ z=0 by omega),get_eq,h3,hsub,hroom (es.length+1) (by omega),Bool.not_true,bo,if_false,hpos,and_self,if_true,Hp.size,Hp.alloc,Hp.set,List.length_set],⟨hwid,.inr ⟨bs.length,none,br _,by simp,by simp,?_,.inl ⟨rfl,by simp⟩⟩⟩,by simp,λx hx hx2=>?_,by simp⟩
   . have:ah (bs.set b (.cells [])++[.cells (flat es++e.map .d)]) (bs.set b (.cells [])).length=some (flat es++e.map .d):=by rw [dU]; rfl
     rw [List.length_set] at this;rw [hfe];exact this
   . rw [aq (by simpa using hx),am (by omega)]
 . have hsub:sub (flat []) 0 (0 * z)=some (flat []):=by simp
   refine ⟨.row bs.length 0 1 none z,bs++[.cells (e.map .d)],id,λlo=>by
    simp only [d9,hrc,aI,ne_eq,not_true_eq_false,false_or,if_neg (show ¬ (1=0) by decide),if_neg (show ¬ z=0 by omega),get_eq,h3,hsub,ch,hroom (0+1) (by decide),Bool.not_true,bo,if_false,show ¬ (0+1<=0) by omega,Hp.size,Hp.alloc]; rfl,⟨hwid,.inr ⟨bs.length,none,br _,by simp,rfl,by simp [flat],.inl ⟨rfl,by simp⟩⟩⟩,by simp,λx hx _=>aq hx,by simp⟩
end
section
variable {E:Calls'}
theorem b0 {ev:X->V}{d:Nat}:dL ev none d=some d:=rfl
end
section
variable {E:Calls'}
end
section
variable {E:Calls'}
end
section
end
section
theorem gN {α:Type}{B:Nat}{f:Nat->α->Prop}{s:Sl α}(h:s.wf B f):(ll s).wf B f:=⟨⟨h.1.1,λh=>by cases h⟩,h.2⟩
theorem sP {α β:Type}{B:Nat}{f:Nat->α->Prop}{g:Nat->β->Prop}{s:Sl α}{k:α->β}(h:s.wf B f)(hk:∀ x∈s.l,f B x->g B (k x)):(mr (s.l.map k)).wf B g :=
 ⟨⟨by simpa [mr] using h.1.1,λh=>by simpa [mr] using h⟩,λy hy=>by
  obtain ⟨x,hx,rfl⟩:=cb.1 (show y∈s.l.map k from hy);exact hk x hx (h.2 x hx)⟩
theorem Source.cp_wf {B:Nat}{s:Source}(h:s.wf B):s.cp.wf B:=⟨gN h.1,gN h.2.1,gN h.2.2⟩
theorem Target.cp_wf {B:Nat}{s:Target}(h:s.wf B):s.cp.wf B:=⟨gN h.1,gN h.2.1,gN h.2.2.1,gN h.2.2.2⟩
theorem When.cp_wf {B:Nat}{s:When}(h:s.wf B):s.cp.wf B:=⟨h.1,gN h.2⟩
theorem Rule.cp_wf {B:Nat}{s:Rule}(h:s.wf B):s.cp.wf B:=⟨sP h.1 λ_ _ h=>Source.cp_wf h,sP h.2.1 λ_ _ h=>Target.cp_wf h,sP h.2.2 λ_ _ h=>When.cp_wf h⟩
theorem Pol.cp_wf {B:Nat}{s:Pol}(h:s.wf B):s.cp.wf B:=⟨h.1,h.2.1,h.2.2.1,h.2.2.2.1,sP h.2.2.2.2 λ_ _ h=>Rule.cp_wf h⟩
theorem Cfg.cp_wf {B:Nat}{c:Cfg}(h:c.wf B):c.cp.wf B:=⟨h.1,h.2.1,h.2.2.1,h.2.2.2.1,gN h.2.2.2.2.1,gN h.2.2.2.2.2.1,gN h.2.2.2.2.2.2.1,sP h.2.2.2.2.2.2.2 λ_ _ h=>Pol.cp_wf h⟩
end
section
variable {E:Calls'}
noncomputable def EX1 (E:Calls'):Calls':=Sm E TX aP
end
section
theorem Source.cp_nf (s:Source):s.cp.nf=s.nf:=rfl
theorem Target.cp_nf (s:Target):s.cp.nf=s.nf:=rfl
theorem When.cp_nf (s:When):s.cp.nf=s.nf:=rfl
theorem Rule.cp_nf (r:Rule):r.cp.nf=r.nf:=by
 simp [Rule.cp,Rule.nf,Sl.nf,mr,ck,Source.cp_nf,Target.cp_nf,When.cp_nf]
theorem Pol.cp_nf (p:Pol):p.cp.nf=p.nf:=by
 simp [Pol.cp,Pol.nf,Sl.nf,mr,ck,Rule.cp_nf]
theorem Em (p:Pol):p.own.nf=p.nf:=Pol.same_iff.1 (own_same p)
theorem Cfg.cp_nf (c:Cfg):c.cp.nf=c.nf:=by
 simp [Cfg.cp,Cfg.nf,Sl.nf,ll,mr,ck,Pol.cp_nf]
theorem FR (c:Cfg):oU c.nf=oU c:=by
 have h:c.nf={ c with pods:=⟨false,c.pods.l⟩,services:=⟨false,c.services.l⟩,bound:=⟨false,c.bound.l⟩,policies:=⟨false,c.policies.l.map Pol.nf⟩ }:=by simp [Cfg.nf,Sl.nf]
 have hp:bP c.nf=bP c:=by
  rw [h];simp only [bP,List.any_map,List.map_map];have h2:((fG { c with pods:=⟨false,c.pods.l⟩,services:=⟨false,c.services.l⟩,bound:=⟨false,c.bound.l⟩,policies:=⟨false,c.policies.l.map Pol.nf⟩ }) ∘ Pol.nf)=fG c:=by
   funext p;simp only [Function.comp,fG,Ho];rfl
  rw [h2];rfl
 have hb:fF c.nf=fF c:=yM rfl rfl (by rw [h]);have h1:kw c.nf=kw c:=rfl;have h2:gV c.nf=gV c:=by rw [h]; rfl
 have h3:bU c.nf=bU c:=by rw [h]; rfl
 have h4:jN c.nf=jN c:=by rw [h]; rfl
 simp only [oU,hp,hb,h1,h2,h3,h4]
theorem JW {c d:Cfg}(h:c.nf=d.nf):oU c=oU d:=by rw [← FR c,← FR d,h]
theorem Df {c d:Cfg}(h:c.nf=d.nf):kg c=kg d:=by
 have h1:=congrArg (λx:Cfg=>x.pods.l.length) h;have h2:=congrArg (λx:Cfg=>x.services.l.length) h;have h3:=congrArg (λx:Cfg=>x.bound.l.length) h;have h4:=congrArg (λx:Cfg=>x.policies.l.length) h;simp [Cfg.nf,Sl.nf] at h1 h2 h3 h4;simp only [kg,h1,h2,h3,h4]
end
section
theorem QT {c d:Cfg}(h1:c.epoch=d.epoch)(h2:c.next=d.next)(h3:c.hosts=d.hosts)(h4:c.ways=d.ways)(h5:c.pods.l=d.pods.l)(h6:c.services.l=d.services.l)(h7:c.bound.l=d.bound.l)(h8:c.policies.l.map Pol.nf=d.policies.l.map Pol.nf):c.nf=d.nf:=by
 simp [Cfg.nf,Sl.nf,h1,h2,h3,h4,h5,h6,h7,h8]
end
section
variable {E:Calls'}
def bu2:List (Nat×QF):=[(6,q34)]
def TV:FuncId->Option QF:=kN bu2
def Pk (f:FuncId):Bool:=Nat.beq 6 f
theorem V34 (hE:DoesE E)(c:Cfg)(hc:c.ok)(h:Hp):Sm E TV Pk 6 [c.v] h=some (ag c.cp.c,h):=by
 obtain ⟨bs',lo',v4,v5,v6,v7,L0,L1,L2,L3,a,r1,r2,r3,r4,r5,r6,r7,r8,r9,r10,r11,r12,r13,r14,u4⟩:=B34 (T:=TV) (val:=Pk) (by kernel_rfl) hE c hc [];have hcv:[c.v].mapM (frz h)=some [c.v]:=by simp [Cfg.v]
 rw [aU (q:=q34) (by kernel_rfl) (by kernel_rfl),hcv,rG];have a':Bd E TV Pk q34 [c.v] ⟨[],0⟩=some (.agg (cq c v4 v5 v6 v7),⟨bs',lo'⟩):=a;rw [a',Ls,rZ,zh (r7.datN r11 lo' 7) (r8.datN r12 lo' 7) (r9.datN r13 lo' 7) (r10.datE (λh0=>r14 (by simpa using h0)) lo' 7),← Cfg.cp_c];simp [Cfg.v]
theorem zk {c d:Cfg}(h:c.nf=d.nf):bX c=bX d:=by
 simp only [bX,Df h,JW h,BJ h]
theorem Dq {T:FuncId->Option QF}{val:FuncId->Bool}{f:FuncId}{q:QF}(ht:T f=some q)(hv:val f=true){l m:List D}{b:Bool}(h0:∀ h,Sm E T val f [ag l,ag m] h=some (bl b,h)){a a':V}{h:Hp}(ha:frz h a=some (ag l))(ha':frz h a'=some (ag m)):Sm E T val f [a,a'] h=some (bl b,h):=by
 have h1:=h0 h;rw [aU ht hv] at h1 ⊢;simp only [List.mapM_cons,List.mapM_nil,Al,ha,ha',Option.pure_def,Option.bind_eq_bind,Option.bind_some,rG,E8] at h1 ⊢;cases hB:Bd E T val q [ag l,ag m] ⟨[],0⟩ with
 | none=>rw [hB] at h1; cases h1
 | some p =>
  obtain ⟨r,h'⟩:=p;rw [hB] at h1;simp only [Iw] at h1 ⊢;cases hr:frz h' r with
  | none=>rw [hr] at h1; cases h1
  | some r' =>
   rw [hr] at h1;have e1:r'=bl b:=by
    simp at h1; exact h1
   subst e1;have:=JC hr;subst this;simp [ownR,CG,mZ]
end
section
variable {E:Calls'}
theorem zK {cs:List V}{o:Nat}{y:V}(h:o<cs.length):∃ cs',put cs o [y]=some cs'/\cs'.length=cs.length/\∀ j,cs'[j]?=if j=o then some y else cs[j]?:=by
 refine ⟨cs.set o y,?_,by simp,λj=>?_⟩
 . simp only [put,List.length_singleton];rw [if_pos (by omega)]
   congr 1
   rw [List.set_eq_take_append_cons_drop,if_pos h];simp
 . rw [List.getElem?_set];by_cases hj:j=o
   . subst hj; simp [h]
   . rw [if_neg hj,if_neg (Ne.symm hj)]
theorem ve {cs:List V}{o:Nat}{y:V}(h:cs[o]?=some y):sub cs o 1=some [y]:=by
 obtain ⟨h1,rfl⟩:=bx.1 h;exact F9 h1
theorem iZ {T:FuncId->Option QF}{val:FuncId->Bool}{keep:List Nat}{body:QC}(n:Nat)(env:Nat->EA)(P:Nat->List Blk->Prop)(X:Ex×EA)
 (hr:∀ i,i<n->∀ bs lo,P i bs->∃ bs' lo',P (i+1) bs'/\∀ W:EA->Hp->fM,dK keep W (Cd E T val body (bT keep (env i)) ⟨bs,lo⟩)=W (env (i+1)) ⟨bs',lo'⟩)
 (he:∀ bs lo,P n bs->∀ W:EA->Hp->fM,dK keep W (Cd E T val body (bT keep (env n)) ⟨bs,lo⟩)=some (X.1,X.2,⟨bs,lo⟩)) (bs:List Blk) (lo:Nat) (h0:P 0 bs) :
 ∃ bs' lo',Cd E T val (.loop keep body) (env 0) ⟨bs,lo⟩=some (X.1,X.2,⟨bs',lo'⟩)/\P n bs':=by
 have:∀ (m i:Nat) (bs:List Blk) (lo:Nat),i+m=n->P i bs->∃ bs' lo',Cd E T val (.loop keep body) (env i) ⟨bs,lo⟩=some (X.1,X.2,⟨bs',lo'⟩)/\P n bs':=by
  intro m;have key:=ay (E:=E) (T:=T) (val:=val) keep body;generalize Cd E T val (.loop keep body)=W at key ⊢
  induction m with
  | zero =>
   intro i bs lo hi hP;rw [show i=n by omega] at hP ⊢;exact ⟨bs,lo,by rw [key,he bs lo hP W],hP⟩
  | succ m ih =>
   intro i bs lo hi hP;obtain ⟨bs',lo',h1,h2⟩:=hr i (by omega) bs lo hP;obtain ⟨bs2,lo2,h3,h4⟩:=ih (i+1) bs' lo' (by omega) h1;exact ⟨bs2,lo2,by rw [key,h2 W,h3],h4⟩
 exact this n 0 bs lo (by omega) h0
def Idc (z n:Nat)(cs:List V):Prop:=∀ i,i<n->∃ x,cs[i * z]?=some (.d (u64 x))
theorem Idc.put {z n o:Nat}{cs cs':List V}{x:Int}(h:Idc z n cs)(hc:∀ j,cs'[j]?=if j=o then some (.d (u64 x)) else cs[j]?):Idc z n cs':=λi hi=>by
 rw [hc];by_cases ho:i * z=o
 . rw [if_pos ho]; exact ⟨_,rfl⟩
 . rw [if_neg ho]; exact h i hi
def IdRow (K:Nat->Prop)(bs:List Blk)(z:Nat)(v:V):Prop:=(∃ nl,v=.d (.slice nl []))\/∃ b n cap cs,K b/\v=.row b 0 n cap z/\n<2 ^ 62/\ah bs b=some cs/\Idc z n cs
def Keeps (K:Nat->Prop)(bs bs':List Blk):Prop:=(∀ x,¬ K x->bs'[x]?=bs[x]?)/\∀ x cs,ah bs x=some cs->∃ cs',ah bs' x=some cs'/\cs'.length=cs.length
theorem Keeps.refl {K:Nat->Prop}{bs:List Blk}:Keeps K bs bs:=⟨λ_ _=>rfl,λx cs h=>⟨cs,h,rfl⟩⟩
theorem Keeps.trans {K:Nat->Prop}{a b c:List Blk}(h:Keeps K a b)(k:Keeps K b c):Keeps K a c:=⟨λx hx=>(k.1 x hx).trans (h.1 x hx),λx cs hc=>by
 obtain ⟨c1,h1,h2⟩:=h.2 x cs hc;obtain ⟨c2,h3,h4⟩:=k.2 x c1 h1;exact ⟨c2,h3,h4.trans h2⟩⟩
theorem Keeps.set {K:Nat->Prop}{x:Nat}{bs:List Blk}{cs cs0:List V}(h:K x)(h0:ah bs x=some cs0)(hl:cs.length=cs0.length):Keeps K bs (bs.set x (.cells cs)):=⟨λy hy=>am (by rintro rfl; exact hy h),λy c hc=>by
 by_cases hy:x=y
 . subst hy;rw [h0] at hc;cases hc;exact ⟨cs,bW h0,hl⟩
 . exact ⟨c,by rw [bV hy]; exact hc,rfl⟩⟩
theorem Keeps.get {K:Nat->Prop}{x:Nat}{bs bs':List Blk}{cs:List V}(h:Keeps K bs bs')(hx:¬ K x)(hg:ah bs x=some cs):ah bs' x=some cs:=by
 rw [← hg]; unfold ah; rw [h.1 x hx]
def RulOk (K:Nat->Prop)(b:Nat)(bs:List Blk)(r:V):Prop:=(∃ nl,r=.d (.slice nl []))\/∃ b' m cap cs,K b'/\b'≠b/\r=.row b' 0 m cap 3/\m<2 ^ 62/\ah bs b'=some cs/\m * 3<=cs.length
theorem RulOk.keep {K:Nat->Prop}{b:Nat}{bs bs':List Blk}{r:V}(h:RulOk K b bs r)(k:Keeps K bs bs'):RulOk K b bs' r:=by
 obtain h | ⟨b',m,cap,cs,h1,h2,h3,h4,h5,h6⟩:=h
 . exact .inl h
 . obtain ⟨cs',q1,q2⟩:=k.2 b' cs h5;exact .inr ⟨b',m,cap,cs',h1,h2,h3,h4,q1,by omega⟩
def PolRow (K:Nat->Prop)(bs:List Blk)(v:V):Prop:=(∃ nl,v=.d (.slice nl []))\/∃ b n cap cs,K b/\v=.row b 0 n cap 5/\n<2 ^ 62/\ah bs b=some cs/\Idc 5 n cs/\∀ i,i<n->∃ r,cs[i * 5+4]?=some r/\RulOk K b bs r
end
section
variable {E:Calls'}
def Tg (L M:Nat)(tag:Nat->Nat)(i:Nat):Nat->Prop:=λx=>L<=x/\x<M/\tag x=i
def Tg2 (L M:Nat)(tag:Nat->Nat):Nat->Prop:=λx=>L<=x/\x<M/\(tag x=7\/tag x=8)
theorem dW {bs bs':List Blk}{x:Nat}{cs:List V}(h:bs'[x]?=bs[x]?)(hg:ah bs x=some cs):ah bs' x=some cs:=by
 rw [← hg]; unfold ah; rw [h]
theorem IdRow.on {K:Nat->Prop}{bs bs':List Blk}{z:Nat}{v:V}(h:IdRow K bs z v)(k:∀ x,K x->bs'[x]?=bs[x]?):IdRow K bs' z v:=by
 obtain h | ⟨b,n,cap,cs,h1,h2,h3,h4,h5⟩:=h
 . exact .inl h
 . exact .inr ⟨b,n,cap,cs,h1,h2,h3,dW (k b h1) h4,h5⟩
theorem PolRow.on {K:Nat->Prop}{bs bs':List Blk}{v:V}(h:PolRow K bs v)(k:∀ x,K x->bs'[x]?=bs[x]?):PolRow K bs' v:=by
 obtain h | ⟨b,n,cap,cs,h1,h2,h3,h4,h5,h6⟩:=h
 . exact .inl h
 . refine .inr ⟨b,n,cap,cs,h1,h2,h3,dW (k b h1) h4,h5,λi hi=>?_⟩;obtain ⟨r,q1,q2⟩:=h6 i hi;refine ⟨r,q1,?_⟩;obtain q2 | ⟨b',m,cap',cs',e1,e2,e3,e4,e5,e6⟩:=q2
   . exact .inl q2
   . exact .inr ⟨b',m,cap',cs',e1,e2,e3,e4,dW (k b' e1) e5,e6⟩
structure Spoils (L0 M:Nat) (bs:List Blk) (cells:List V):Prop where
 len:cells.length=8
 low:L0<=M
 top:M<=bs.length
 is:∃ (tag:Nat->Nat) (v4 v5 v6 v7:V),sub cells 4 1=some [v4]/\sub cells 5 1=some [v5]/\sub cells 6 1=some [v6]/\sub cells 7 1=some [v7] ∧
  IdRow (Tg L0 M tag 4) bs 7 v4/\IdRow (Tg L0 M tag 5) bs 5 v5/\IdRow (Tg L0 M tag 6) bs 2 v6/\PolRow (Tg2 L0 M tag) bs v7
theorem Spoils.on {L0 M:Nat}{bs bs':List Blk}{cells:List V}(h:Spoils L0 M bs cells)(hl:M<=bs'.length)(k:∀ x,L0<=x->x<M->bs'[x]?=bs[x]?):Spoils L0 M bs' cells:=by
 obtain ⟨tag,v4,v5,v6,v7,s4,s5,s6,s7,r4,r5,r6,r7⟩:=h.is;exact ⟨h.len,h.low,hl,tag,v4,v5,v6,v7,s4,s5,s6,s7,r4.on λx hx=>k x hx.1 hx.2.1,r5.on λx hx=>k x hx.1 hx.2.1,r6.on λx hx=>k x hx.1 hx.2.1,r7.on λx hx=>k x hx.1 hx.2.1⟩
end
section
variable {E:Calls'}
end
section
variable {E:Calls'}{T:FuncId->Option QF}{val:FuncId->Bool}
theorem Acc.low {base:List Blk}{z:Nat}{acc:List (List D)}{bs bs':List Blk}{v v' x:V}{by_ lo lo':Nat}(h:Acc base z acc bs v)(ha:d9 ⟨bs,lo⟩ z by_ v x=some (v',⟨bs',lo'⟩))(hl:base.length<=lo):base.length<=lo':=by
 unfold d9 at ha;split at ha
 case h_2=>cases ha
 case h_1 m xs _ =>
  obtain ⟨_,rfl⟩ | ⟨h1,b,h2,rfl,h4⟩:=h.is
  . simp only [aI] at ha
    repeat' split at ha
    all_goals first
     | (cases ha; exact hl)
     | (simp [Hp.alloc] at ha; omega)
     | cases ha
  . simp only [aI] at ha
    repeat' split at ha
    all_goals first
     | (cases ha; done)
     | (cases ha; exact hl)
     | (simp [Hp.alloc,Hp.set] at ha; omega)
theorem GU {T:FuncId->Option QF}{val:FuncId->Bool}{keep:List Nat}{body:QC}{base:List Blk}{z:Nat}(n:Nat)(G:Nat->List (List D))(env:Nat->V->EA)(X:V->Ex×EA)
 (hr:∀ i,i<n->∀ bs lo v,Acc base z (G i) bs v->∃ bs' lo' v',Acc base z (G (i+1)) bs' v'/\(base.length<=lo->base.length<=lo')/\∀ W:EA->Hp->fM,dK keep W (Cd E T val body (bT keep (env i v)) ⟨bs,lo⟩)=W (env (i+1) v') ⟨bs',lo'⟩)
 (he:∀ bs lo v,Acc base z (G n) bs v->∀ W:EA->Hp->fM,dK keep W (Cd E T val body (bT keep (env n v)) ⟨bs,lo⟩)=some ((X v).1,(X v).2,⟨bs,lo⟩)) (bs:List Blk) (lo:Nat) (v:V) (h0:Acc base z (G 0) bs v) :
 ∃ bs' lo' v',Cd E T val (.loop keep body) (env 0 v) ⟨bs,lo⟩=some ((X v').1,(X v').2,⟨bs',lo'⟩)/\Acc base z (G n) bs' v'/\(base.length<=lo->base.length<=lo'):=by
 have:∀ (m i:Nat) (bs:List Blk) (lo:Nat) (v:V),i+m=n->Acc base z (G i) bs v->∃ bs' lo' v',Cd E T val (.loop keep body) (env i v) ⟨bs,lo⟩=some ((X v').1,(X v').2,⟨bs',lo'⟩)/\Acc base z (G n) bs' v'/\(base.length<=lo->base.length<=lo'):=by
  intro m;have key:=ay (E:=E) (T:=T) (val:=val) keep body;generalize Cd E T val (.loop keep body)=W at key ⊢
  induction m with
  | zero =>
   intro i bs lo v hi hP;rw [show i=n by omega] at hP ⊢;exact ⟨bs,lo,v,by rw [key,he bs lo v hP W],hP,id⟩
  | succ m ih =>
   intro i bs lo v hi hP;obtain ⟨bs',lo',v',h1,hl,h2⟩:=hr i (by omega) bs lo v hP;obtain ⟨bs2,lo2,v2,h3,h4,h5⟩:=ih (i+1) bs' lo' v' (by omega) h1;exact ⟨bs2,lo2,v2,by rw [key,h2 W,h3],h4,λh=>h5 (hl h)⟩
 exact this n 0 bs lo v (by omega) h0
theorem Acc.retL {bs bs':List Blk}{z lo lo':Nat}{acc:List (List D)}{v:V}(h:Acc bs z acc bs' v)(hl:bs.length<=lo'):∃ bs2 lo2,eU ⟨bs,lo⟩ (some (v,⟨bs',lo'⟩))=some (v,⟨bs2,lo2⟩)/\Acc bs z acc bs2 v/\(∀ k,k<=lo->k<=bs.length->k<=lo2):=by
 rw [ed];by_cases hc:bs.length<=lo'/\v.under bs.length=true
 . rw [if_pos hc];refine ⟨bs,lo,rfl,?_,λk h _=>h⟩;obtain ⟨rfl,rfl⟩ | ⟨h1,b,h2,rfl,h4⟩:=h.is
   . exact Acc.nil bs z
   . have:=hc.2;simp [V.under] at this;omega
 . rw [if_neg hc];exact ⟨_,_,rfl,h,λk h h'=>by show k<=min lo lo'; omega⟩
theorem am1 (Dk:T 111=some AJ)(Dp:val 111=false)(h231:∀ r:Rule,r.fits big->∀ h,Sm E T val 112 [ag r.c] h=some (ag r.own.c,h))(s:Sl Rule)(hs:short s)(hf:∀ r∈s.l,r.fits big)(bs:List Blk)(lo:Nat) :
 ∃ bs' lo' v,Sm E T val 111 [.d (s.d Rule.c),.fn 112 []] ⟨bs,lo⟩=some (v,⟨bs',lo'⟩)/\Acc bs 3 (s.l.map λr=>r.own.c) bs' v/\(∀ k,k<=lo->k<=bs.length->k<=lo'):=by
 have hlen:=hs.lt;have key:=GU (E:=E) (T:=T) (val:=val) (base:=bs) (z:=3) (keep:=[1,5,8,9,10]) (body:=wK) s.l.length (λi=>(s.l.take i).map λr=>r.own.c) (λi v=>[(1,.fn 112 []),(5,v),(8,.d (s.d Rule.c)),(9,.d (i64 s.l.length)),(10,.d (i64 i))]) (λv=>(.exit 0,[(5,v)])) (λi hi b1 lo v hA=>?_) (λb1 lo v hA W=>?_) bs bs.length _ (by simpa using Acc.nil bs 3)
 . obtain ⟨b2,lo2,v,k1,k2,kl⟩:=key;rw [List.take_length] at k2;obtain ⟨b3,lo3,k3,k4,k5⟩:=k2.retL (lo:=lo) (lo':=lo2) (kl (br _));refine ⟨b3,lo3,v,?_,k4,k5⟩;have hnu:=k2.nu;rw [aJ Dk Dp];simp at k1;simp [af,AJ];rw [aj];simp [k1];simp [hnu,bK,-ed];exact k3
 . have hx:=ac hi;have hmem:=bj hi;have htk:s.l.take (i+1)=s.l.take i++[s.l[i]]:=by rw [List.take_add_one,hx]; rfl
   generalize s.l[i]=r at *;have hsx:=λh=>aA (z:=3) h hx (cells:=Rule.c) rfl;have hw:=ax hi hlen;have h0:((i:Int)<s.l.length):=by omega
   have hnu:=hA.nu;have hcall:=λh=>h231 r (hf r hmem) h;obtain ⟨v',b2,lo2,ha,hA'⟩:=(hA.lay [.cells (r.c.map .d),.cells (r.own.c.map .d)]).app (by decide) (by_:=72) (by decide) (e:=r.own.c) rfl (by simp; have:=hs.1; omega) (min lo b1.length) (r:=b1.length+1) (cap:=some 1) (by
    have:=jS (bs:=b1) (ys:=[.cells (r.c.map .d),.cells (r.own.c.map .d)]) (i:=1);rw [this]; rfl)
   refine ⟨b2,lo2,v',by rw [htk,List.map_append]; exact hA',λhlo=>(hA.lay _).low ha (by have:=hA.len; omega),λW=>?_⟩;simp [wK,h0,hsx,hnu,hcall,aL,ha,hw,hA'.nu]
 . simp [wK]
def pq (p:Pol)(v:V):List V:=[.d (u64 p.id),.d (.str p.ns),.d (u64 p.service),.d (i64 p.deny),v]
theorem al9 (ES:T 73=some xY)(E5:val 73=false)(Dk:T 111=some AJ)(Dp:val 111=false)(h231:∀ r:Rule,r.fits big->∀ h,Sm E T val 112 [ag r.c] h=some (ag r.own.c,h))(p:Pol)(hp:p.fits big)(bs:List Blk)(lo:Nat) :
 ∃ bs' lo' v,Sm E T val 73 [ag p.c] ⟨bs,lo⟩=some (.agg (pq p v),⟨bs',lo'⟩)/\Acc bs 3 (p.rules.l.map λr=>r.own.c) bs' v/\(∀ k,k<=lo->k<=bs.length->k<=lo'):=by
 obtain ⟨b1,lo1,v,a,A,al⟩:=am1 Dk Dp h231 p.rules hp.1 hp.2 (bs++[.cells (p.c.map .d),.cells [.d (.int .u64 0),.d (.str ⟨#[]⟩),.d (.int .u64 0),.d (i64 0),.d (.slice true [])]]) bs.length;have A':=A.weak;have hl:=A.len;simp at hl;have g0:ah b1 bs.length=some (p.c.map .d):=A.get (by simp);have g1:ah b1 (bs.length+1)=some [.d (.int .u64 0),.d (.str ⟨#[]⟩),.d (.int .u64 0),.d (i64 0),.d (.slice true [])]:=A.get (by simp);have hnu:=A.nu;have hcl:=A.cl;have hp4:put (p.c.map V.d) 4 [v]=some (pq p v):=rfl;have g0s:ah (b1.set bs.length (.cells (pq p v))) bs.length=some (pq p v):=bW g0;have g1s:ah (b1.set bs.length (.cells (pq p v))) (bs.length+1)=some _:=(bV (by omega)).trans g1;have g1t:ah ((b1.set bs.length (.cells (pq p v))).set (bs.length+1) (.cells (pq p v))) (bs.length+1)=some (pq p v):=bW g1s;have hs5:sub (pq p v) 0 5=some (pq p v):=rfl;have hpl:(pq p v).length=5:=rfl;have hpz:∀ z:List V,z.length=5->put z 0 (pq p v)=some (pq p v):=λz hz=>by simp [put,hz,hpl]
 have A2:Acc bs 3 (p.rules.l.map λr=>r.own.c) ((b1.set bs.length (.cells (pq p v))).set (bs.length+1) (.cells (pq p v))) v:=by
  refine ⟨by simp; omega,λx hx=>by rw [am (by omega),am (by omega)]; exact A'.old x hx,?_,A.wid⟩;obtain h1 | ⟨h1,b,h2,h3,h4⟩:=A.is
  . exact .inl h1
  . simp at h2;exact .inr ⟨h1,b,by omega,h3,by rw [bV (by omega),bV (by omega)]; exact h4⟩
 have hB:∃ l,bs.length<=l/\Bd E T val xY [ag p.c] ⟨bs,bs.length⟩=some (.agg (pq p v),⟨(b1.set bs.length (.cells (pq p v))).set (bs.length+1) (.cells (pq p v)),l⟩):=by
  refine ⟨min (min lo1 bs.length) (bs.length+1),?_,?_⟩
  . have:=al bs.length (br _) (by simp);omega
  simp [af,xY,a,g0,g1,hnu,hcl,hp4,g0s,g1s,g1t,hs5,hpl,hpz]
 obtain ⟨l,hll,hB⟩:=hB;by_cases hc:bs.length<=l/\(V.agg (pq p v)).under bs.length=true
 . refine ⟨bs,lo,v,?_,?_,λk h _=>h⟩
   . rw [aJ ES E5];show eU ⟨bs,lo⟩ (Bd E T val xY [ag p.c] ⟨bs,bs.length⟩)=_;rw [hB,ed,if_pos hc]
   . obtain ⟨h1,h2⟩ | ⟨h1,b,h2,h3,h4⟩:=A2.is
     . rw [h1,h2]; exact Acc.nil bs 3
     . have:=hc.2;rw [h3] at this;simp [V.under,V.under.go,pq] at this;omega
 . refine ⟨_,min lo l,v,?_,A2,λk h h'=>by omega⟩;rw [aJ ES E5];show eU ⟨bs,lo⟩ (Bd E T val xY [ag p.c] ⟨bs,bs.length⟩)=_;rw [hB,ed,if_neg hc]
end
section
variable {E:Calls'}{T:FuncId->Option QF}{val:FuncId->Bool}
theorem mi {f:FuncId}{args:List V}{v:V}{bs bs2:List Blk}{lo2:Nat}(hc:Sm E T val f args ⟨bs,bs.length⟩=some (v,⟨bs2,lo2⟩))(hl:bs.length<=lo2)(hlen:bs.length<=bs2.length)(hold:∀ x,x<bs.length->bs2[x]?=bs[x]?)(lo:Nat)(xs:List X)(ev:X->V)(ha:xs.all (λx=>okV (ev x))=true)(hx:xs.map ev=args)(hf:ev (.c (.fn f []))=.fn f []) :
 dh (Sm E T val) (.call (.c (.fn f [])) xs) ev ⟨bs,lo⟩=some (v,⟨bs2,lo⟩,⟨true,false,[],[],bs.length,bs2.length,0⟩):=by
 rw [aa,if_pos ha,hf,hx,mh,List.append_nil,hc];simp only [if_pos hl];by_cases h:bs2.length=bs.length
 . have:bs2=bs:=by
    refine List.ext_getElem? λx=>?_;by_cases hx:x<bs.length
    . exact hold x hx
    . rw [bd (by omega),bd (by omega)]
   subst this;simp
 . rw [if_neg h]
theorem vV {α:Type}{cells:α->List D}{z b:Nat}{zero:List V}{id:FuncId}(ht:T id=some (cloneQ z b zero))(hv:val id=false)(hz0:0<z)(hb:b<=4096)(hz:∀ x,(cells x).length=z){s:Sl α}(hs:short s)(bs:List Blk) :
 ∃ v bs2,Sm E T val id [.d (s.d cells)] ⟨bs,bs.length⟩=some (v,⟨bs2,bs.length⟩)/\bs.length<=bs2.length/\(∀ x,x<bs.length->bs2[x]?=bs[x]?)/\Row1 bs.length bs2.length bs2 z (s.l.map cells) v:=by
 have hw:∀ e∈s.l.map cells,e.length=z:=λe he=>by obtain ⟨y,_,rfl⟩:=cb.1 he; exact hz y
 have key:=om (E:=E) (T:=T) (val:=val) ht hv hz0 hb (nl:=s.nl) hw (by simpa using hs.1) ⟨bs,bs.length⟩;have hd:s.d cells=.slice s.nl (s.l.map cells):=rfl;rw [hd,key];cases hnl:s.nl with
 | true =>
  have hl:=hs.2 hnl;refine ⟨.d (.slice true []),bs,by simp [bO],br _,λ_ _=>rfl,hw,.inl ⟨by rw [hl]; rfl,rfl⟩⟩
 | false =>
  cases hc:s.l.map cells with
  | nil=>exact ⟨.row bs.length 0 0 (some 0) z,bs++[.cells []],by simp [bO],by simp,λx hx=>aq hx,by simp,.inr ⟨bs.length,some 0,br _,by simp,rfl,by simp,.inr ⟨rfl,rfl⟩⟩⟩
  | cons e es =>
   refine ⟨.row (bs.length+1) 0 (es.length+1) none z,bs++[.cells [],.cells (flat (e::es))],by simp [bO],by simp,λx hx=>aq hx,by rw [← hc]; exact hw,.inr ⟨bs.length+1,none,by omega,by simp,rfl,?_,.inl ⟨rfl,by simp⟩⟩⟩;have:=jS (bs:=bs) (ys:=[.cells [],.cells (flat (e::es))]) (i:=1);rw [this]; rfl
theorem Row1.mono {L M M' z:Nat}{bs:List Blk}{es:List (List D)}{v:V}(h:Row1 L M bs z es v)(hm:M<=M'):Row1 L M' bs z es v:=by
 refine ⟨h.1,?_⟩;obtain h | ⟨b,cap,h1,h2,h3⟩:=h.2
 . exact .inl h
 . exact .inr ⟨b,cap,h1,by omega,h3⟩
def RulV (L M:Nat)(bs:List Blk)(p:Pol)(cs:List V):Prop:=∃ rv,cs=pq p rv/\Row1 L M bs 3 (p.rules.l.map λr=>r.own.c) rv/\(p.rules.l=[]->rv=.d (.slice true []))
theorem RulV.on {L M M':Nat}{bs bs':List Blk}{p:Pol}{cs:List V}(h:RulV L M bs p cs)(hm:M<=M')(ho:∀ x,L<=x->x<M->bs'[x]?=bs[x]?):RulV L M' bs' p cs:=by
 obtain ⟨rv,h1,h2,h3⟩:=h;exact ⟨rv,h1,(h2.on ho).mono hm,h3⟩
theorem zt {css:List (List V)}(h:∀ cs∈css,cs.length=5):css.flatten.length=css.length * 5:=by
 induction css with
 | nil=>rfl
 | cons c css ih=>simp [h c (by simp),ih λx hx=>h x (by simp [hx])]; omega
theorem O4 {a b:List (List V)}{c:List V}(ha:∀ cs∈a,cs.length=5)(hc:c.length=5):sub (a++c::b).flatten (a.length * 5) 5=some c:=by
 have hl:=zt ha;rw [List.flatten_append,List.flatten_cons,show a.length * 5=a.flatten.length+0 by omega,zO,yC (by omega)];exact bN hc
theorem Nc {a b:List (List V)}{c d:List V}(ha:∀ cs∈a,cs.length=5)(hc:c.length=5)(hd:d.length=5):put (a++c::b).flatten (a.length * 5) d=some (a++d::b).flatten:=by
 have hl:=zt ha;rw [List.flatten_append,List.flatten_cons,List.flatten_append,List.flatten_cons];simp only [put];rw [if_pos (by rw [aw,aw]; omega)]
 congr 1
 rw [← hl,List.take_left' rfl,show a.flatten.length+d.length=a.flatten.length+c.length by omega,← bh,List.drop_left' rfl,List.drop_left' rfl,List.append_assoc]
theorem IM (ES:T 73=some xY)(E5:val 73=false)(Dk:T 111=some AJ)(Dp:val 111=false)(h231:∀ r:Rule,r.fits big->∀ h,Sm E T val 112 [ag r.c] h=some (ag r.own.c,h))
 (l:List Pol) (hl:l.length<2 ^ 62) (hf:∀ p∈l,p.fits big) {n b Lq:Nat} {cap:Option Nat} {vs:List V} (hs7:sub vs 7 1=some [.row b 0 l.length cap 5]) (hn:n<Lq) (hb:b<Lq) (hnb:n≠b) (B0:List Blk) (lo:Nat) (hLq:Lq<=B0.length) (hg:ah B0 n=some vs) (hgb:ah B0 b=some (l.map λp=>p.c.map V.d).flatten) :
 ∃ bs' lo',Cd E T val (.loop [1,2,22,23,24] rE) [(1,.ptr n 0),(2,.ptr (n+1) 0),(22,.row b 0 l.length cap 5),(23,.d (i64 l.length)),(24,.d (i64 ((0:Nat):Int)))] ⟨B0,lo⟩=some (.exit 0,[(1,.ptr n 0),(2,.ptr (n+1) 0)],⟨bs',lo'⟩) ∧
  (∀ x,x<Lq->x≠b->bs'[x]?=B0[x]?)/\Lq<=bs'.length/\∃ css:List (List V),css.length=l.length/\ah bs' b=some css.flatten/\∀ (j:Nat) (p:Pol),l[j]?=some p->∃ cs,css[j]?=some cs/\RulV Lq bs'.length bs' p cs:=by
 obtain ⟨bs',lo',h1,h2,h3,css,h4,h5,h6⟩:=iZ (E:=E) (T:=T) (val:=val) (keep:=[1,2,22,23,24]) (body:=rE) l.length (λi=>[(1,.ptr n 0),(2,.ptr (n+1) 0),(22,.row b 0 l.length cap 5),(23,.d (i64 l.length)),(24,.d (i64 i))])
  (λi bs'=>(∀ x,x<Lq->x≠b->bs'[x]?=B0[x]?)/\Lq<=bs'.length/\∃ css:List (List V),css.length=i/\ah bs' b=some (css++(l.drop i).map λp=>p.c.map V.d).flatten/\∀ (j:Nat) (p:Pol),j<i->l[j]?=some p->∃ cs,css[j]?=some cs/\RulV Lq bs'.length bs' p cs) (.exit 0,[(1,.ptr n 0),(2,.ptr (n+1) 0)])
  (by
    intro i hi b1 lo1 ⟨q1,q2,css,q3,q4,q5⟩;have hx:=ac hi;have hmem:=bj hi;have hdr:l.drop i=l[i]::l.drop (i+1):=ba hi;rw [hdr] at q4;generalize l[i]=p at *;have hc5:∀ cs∈css,cs.length=5:=λcs hcs=>by
     obtain ⟨j,hj,rfl⟩:=List.getElem_of_mem hcs;have hjl:j<l.length:=by omega
     obtain ⟨cs',e1,rv,e2,_⟩:=q5 j _ (by omega) (ac hjl);rw [ac hj] at e1;cases e1;rw [e2]; rfl
    have hp5:(p.c.map V.d).length=5:=rfl;rw [cn] at q4;have hsub:=O4 (b:=(l.drop (i+1)).map λp=>p.c.map V.d) hc5 hp5;rw [q3] at hsub;have hw:=ax hi hl;have h0:((i:Int)<l.length):=by omega
    have hgn:ah b1 n=some vs:=dW (q1 n hn hnb) hg;have hix:∀ hp,eP none 5 (.row b 0 l.length cap 5) (.d (.int .i64 i)) hp=some (.ptr b (i * 5),hp):=λhp=>by
     simp only [eP];rw [if_pos ⟨by omega,by omega,trivial⟩];simp
    obtain ⟨b2,lo2,rv,a,A,al⟩:=al9 ES E5 Dk Dp h231 p (hf p hmem) (b1++[.cells (p.c.map .d)]) (b1++[Blk.cells (p.c.map .d)]).length;have hlo2:=al _ (br _) (br _);have hA1:=A.len;have hcall:=mi a hlo2 hA1 A.old;have hput:=Nc (b:=(l.drop (i+1)).map λp=>p.c.map V.d) (d:=pq p rv) hc5 hp5 rfl;rw [q3] at hput;have q4b:ah b2 b=some _:=A.get (av (ys:=[.cells (p.c.map .d)]) q4);simp at hA1;refine ⟨b2.set b (.cells (css++pq p rv::(l.drop (i+1)).map λp=>p.c.map V.d).flatten),min (min lo1 b1.length) b,⟨λx h1 h2=>?_,by simp; omega,css++[pq p rv],by simp [q3],?_,λj p' hj hp'=>?_⟩,λW=>?_⟩
    . rw [am (Ne.symm h2),A.old x (by simp; omega),aq (by omega),q1 x h1 h2]
    . rw [bW q4b]; simp
    . have hold:∀ x,Lq<=x->x<b1.length->(b2.set b (.cells (css++pq p rv::(l.drop (i+1)).map λp=>p.c.map V.d).flatten))[x]?=b1[x]?:=λx h1 h2=>by
       rw [am (by omega),A.old x (by simp; omega),aq h2]
      by_cases hji:j<i
      . obtain ⟨cs,e1,e2⟩:=q5 j p' hji hp';refine ⟨cs,by rw [aq (by omega)]; exact e1,e2.on (by simp; omega) hold⟩
      . have:j=i:=by omega
        subst this;rw [hx] at hp';cases hp';refine ⟨pq p rv,by rw [bm (by omega)]; simp [q3],rv,rfl,?_,λh0=>?_⟩
        . have hr:=A.row1;simp at hr;refine (⟨hr.1,?_⟩:Row1 Lq _ _ _ _ _);obtain hr2 | ⟨b',cap',f1,f2,f3,f4,f5⟩:=hr.2
          . exact .inl hr2
          . exact .inr ⟨b',cap',by omega,by simp; omega,f3,by rw [bV (by omega)]; exact f4,f5⟩
        . obtain ⟨_,h⟩ | ⟨h,_⟩:=A.is
          . exact h
          . exact absurd (by simp [h0]) h
    . generalize (css++(p.c.map V.d)::(l.drop (i+1)).map λp=>p.c.map V.d).flatten=F0 at *;generalize (css++pq p rv::(l.drop (i+1)).map λp=>p.c.map V.d).flatten=F1 at *;have hpl:(pq p rv).length=5:=rfl;simp at hcall;simp [rE,h0,hix,q4,hsub,hgn,av hgn,hs7,ai,az,hcall,q4b,hput,hpl,hw];rw [if_pos]
      . simp [hw]
      . simp [bz,List.range,List.range.loop,Tr.spares];omega)
  (by
    intro b1 lo1 ⟨q1,q2,css,q3,q4,q5⟩ W;simp [rE])
  B0 lo ⟨λ_ _ _=>rfl,hLq,[],rfl,by simpa using hgb,λj p hj=>by omega⟩
 refine ⟨bs',lo',h1,h2,h3,css,h4,by simpa using h5,λj p hp=>h6 j p (bx.1 hp).1 hp⟩
end
section
variable {E:Calls'}{T:FuncId->Option QF}{val:FuncId->Bool}
def IP (L M Lq Mq:Nat)(bs:List Blk)(l:List Pol)(v:V):Prop:=(l=[]/\v=.d (.slice true []))\/∃ b cap css,L<=b/\b<M/\v=.row b 0 l.length cap 5/\ah bs b=some (List.flatten css)/\css.length=l.length/\(cap=none/\l≠[]\/cap=some 0/\l=[])/\∀ (j:Nat) (p:Pol),l[j]?=some p->∃ cs,css[j]?=some cs/\RulV Lq Mq bs p cs
theorem GG (l:List Pol):flat (l.map Pol.c)=(l.map λp=>p.c.map V.d).flatten:=by
 simp [flat,List.map_flatten,ck]
theorem P90 (t90:T 19=some q90)(v90:val 19=false)(ZN:T 69=some (cloneQ 7 72 Qc))(aa4:val 69=false)(ZO:T 70=some (cloneQ 5 48 ZL))(aa5:val 70=false)(ZP:T 71=some (cloneQ 2 16 ab0))(aa6:val 71=false)(ZQ:T 72=some (cloneQ 5 64 YE))(aa7:val 72=false)
 (ES:T 73=some xY) (E5:val 73=false) (Dk:T 111=some AJ) (Dp:val 111=false) (h231:∀ r:Rule,r.fits big->∀ h,Sm E T val 112 [ag r.c] h=some (ag r.own.c,h)) (c:Cfg) (hc:c.ok) (bs:List Blk) (lo:Nat) :
 ∃ bs' lo' v4 v5 v6 v7 L1 L2 L3 Lq,Sm E T val 19 [c.v] ⟨bs,lo⟩=some (.agg (cq c v4 v5 v6 v7),⟨bs',lo'⟩)/\(∀ x,x<bs.length->bs'[x]?=bs[x]?)/\bs.length<=bs'.length/\bs.length<=L1/\L1<=L2/\L2<=L3/\L3<=Lq/\Lq<=bs'.length ∧
  Row1 bs.length L1 bs' 7 (c.pods.l.map Pod.c) v4/\Row1 L1 L2 bs' 5 (c.services.l.map Svc.c) v5/\Row1 L2 L3 bs' 2 (c.bound.l.map Way.c) v6/\IP L3 Lq Lq bs'.length bs' c.policies.l v7:=by
 obtain ⟨v4,b4,a4,l4,k4,r4⟩:=vV (E:=E) (cells:=Pod.c) (z:=7) (b:=72) (zero:=Qc) ZN aa4 (by decide) (by decide) (λ_=>rfl) hc.1 (bs++[.cells (c.c.map .d),.cells [.d (.int .u64 0),.d (.int .u64 0),.d (i64 0),.d (i64 0),.d (.slice true []),.d (.slice true []),.d (.slice true []),.d (.slice true [])]]);obtain ⟨v5,b5,a5,l5,k5,r5⟩:=vV (E:=E) (cells:=Svc.c) (z:=5) (b:=48) (zero:=ZL) ZO aa5 (by decide) (by decide) (λ_=>rfl) hc.2.1 b4;obtain ⟨v6,b6,a6,l6,k6,r6⟩:=vV (E:=E) (cells:=Way.c) (z:=2) (b:=16) (zero:=ab0) ZP aa6 (by decide) (by decide) (λ_=>rfl) hc.2.2.1 b5;obtain ⟨v7,b7,a7,l7,k7,r7⟩:=vV (E:=E) (cells:=Pol.c) (z:=5) (b:=64) (zero:=YE) ZQ aa7 (by decide) (by decide) (λ_=>rfl) hc.2.2.2.1 b6;have o4:=mi a4 (br _) l4 k4;have o5:=mi a5 (br _) l5 k5;have o6:=mi a6 (br _) l6 k6;have o7:=mi a7 (br _) l7 k7;simp only [aw,cg,ch] at l4 k4 r4;have g4:ah b4 bs.length=some (c.c.map .d):=dW (k4 _ (by omega)) (by simp);have g5:ah b5 bs.length=some (c.c.map .d):=dW (k5 _ (by omega)) g4;have g6:ah b6 bs.length=some (c.c.map .d):=dW (k6 _ (by omega)) g5;have g7:ah b7 bs.length=some (c.c.map .d):=dW (k7 _ (by omega)) g6
 have z4:ah b4 (bs.length+1)=some [.d (.int .u64 0),.d (.int .u64 0),.d (i64 0),.d (i64 0),.d (.slice true []),.d (.slice true []),.d (.slice true []),.d (.slice true [])]:=dW (k4 _ (by omega)) (by simp);have z7:=dW (k7 _ (by omega)) (dW (k6 _ (by omega)) (dW (k5 _ (by omega)) z4));have hcq:c.c.map V.d=cq c (.d (c.pods.d Pod.c)) (.d (c.services.d Svc.c)) (.d (c.bound.d Way.c)) (.d (c.policies.d Pol.c)):=rfl;have gs:∀ B,ah (b7.set bs.length (.cells B)) bs.length=some B:=λB=>bW g7;have u4:=r4.nu; have u5:=r5.nu; have u6:=r6.nu; have u7:=r7.nu;have ok4:=r4.ok; have ok5:=r5.ok; have ok6:=r6.ok; have ok7:=r7.ok;have t4:=r4.cl; have t5:=r5.cl; have t6:=r6.cl; have t7:=r7.cl;have vl7:=r7.len;simp only [b9] at vl7;obtain ⟨b8,lo8,hL,e1,e2,hP⟩:∃ b8 lo8,Cd E T val (.loop [1,2,22,23,24] rE) [(1,.ptr bs.length 0),(2,.ptr (bs.length+1) 0),(22,v7),(23,.d (i64 c.policies.l.length)),(24,.d (i64 0))] ⟨b7.set bs.length (.cells (cq c v4 v5 v6 v7)),bs.length⟩=some (.exit 0,[(1,.ptr bs.length 0),(2,.ptr (bs.length+1) 0)],⟨b8,lo8⟩) ∧
  (∀ x,x<b6.length->b8[x]?=(b7.set bs.length (.cells (cq c v4 v5 v6 v7)))[x]?)/\b7.length<=b8.length/\IP b6.length b7.length b7.length b8.length b8 c.policies.l v7:=by
  obtain ⟨h1,rfl⟩ | ⟨b,cap,h1,h2,rfl,h3,h4⟩:=r7.2
  . have hl0:c.policies.l=[]:=by simpa using h1
    refine ⟨_,bs.length,?_,λ_ _=>rfl,by simp,.inl ⟨hl0,rfl⟩⟩;rw [ay];simp [rE,hl0]
  . have hgb:ah (b7.set bs.length (.cells (cq c v4 v5 v6 (.row b 0 (c.policies.l.map Pol.c).length cap 5)))) b=some (c.policies.l.map λp=>p.c.map V.d).flatten:=by
     rw [bV (by omega),h3,GG]
    simp only [b9] at hgb ⊢;obtain ⟨b8,lo8,d1,d2,d3,css,d4,d5,d6⟩:=IM (E:=E) ES E5 Dk Dp h231 c.policies.l hc.2.2.2.1.lt hc.2.2.2.2 (n:=bs.length) (b:=b) (Lq:=b7.length) (cap:=cap) (vs:=cq c v4 v5 v6 (.row b 0 c.policies.l.length cap 5)) rfl (by omega) h2 (by omega) _ bs.length (by simp) (bW g7) hgb;refine ⟨b8,lo8,by simpa using d1,λx hx=>d2 x (by omega) (by omega),d3,.inr ⟨b,cap,css,h1,h2,rfl,d5,d4,by simpa using h4,d6⟩⟩
 have g8:ah b8 bs.length=some (cq c v4 v5 v6 v7):=dW (e1 _ (by omega)) (gs _);have z8':ah b8 (bs.length+1)=some [.d (.int .u64 0),.d (.int .u64 0),.d (i64 0),.d (i64 0),.d (.slice true []),.d (.slice true []),.d (.slice true []),.d (.slice true [])]:=dW (e1 _ (by omega)) ((bV (by omega)).trans z7);have z8s:ah (b8.set (bs.length+1) (.cells (cq c v4 v5 v6 v7))) (bs.length+1)=some (cq c v4 v5 v6 v7):=bW z8';have hh:∀ x,x<b6.length->x≠bs.length->x≠bs.length+1->(b8.set (bs.length+1) (.cells (cq c v4 v5 v6 v7)))[x]?=b6[x]?:=λx h1 h2 h3=>by
  rw [am (Ne.symm h3),e1 x h1,am (Ne.symm h2),k7 x h1]
 have g7q:=g7;rw [hcq] at g7q;have hB:Bd E T val q90 [c.v] ⟨bs,bs.length⟩=some (.agg (cq c v4 v5 v6 v7),⟨b8.set (bs.length+1) (.cells (cq c v4 v5 v6 v7)),min lo8 (bs.length+1)⟩):=by
  simp at o4;simp [af,q90,o4,o5,o6,o7,g4,g5,g6,g7q,gs,u4,u5,u6,u7,ok4,ok5,ok6,ok7,t4,t5,t6,t7,cq4,cq5,cq6,cq7,cql,ai,az];rw [if_pos]
  . simp [gs,cs7,vl7,u7];rw [aj];simp [hL];simp [g8,z8',z8s,cs8,cql,cqz]
  . simp [bz,List.range,List.range.loop,Tr.spares];omega
 have hwin:∀ x,bs.length+2<=x->x<b6.length->(b8.set (bs.length+1) (.cells (cq c v4 v5 v6 v7)))[x]?=b6[x]?:=λx h1 h2=>hh x h2 (by omega) (by omega);have m4:Row1 (bs.length+2) b4.length (b8.set (bs.length+1) (.cells (cq c v4 v5 v6 v7))) 7 (c.pods.l.map Pod.c) v4:=r4.on λx h1 h2=>by rw [hwin x h1 (by omega),k6 x (by omega),k5 x h2]
 have m5:=r5.on (bs':=b8.set (bs.length+1) (.cells (cq c v4 v5 v6 v7))) λx h1 h2=>by rw [hwin x (by omega) (by omega),k6 x h2]
 have m6:=r6.on (bs':=b8.set (bs.length+1) (.cells (cq c v4 v5 v6 v7))) λx h1 h2=>by rw [hwin x (by omega) h2]
 have m7:IP b6.length b7.length b7.length b8.length (b8.set (bs.length+1) (.cells (cq c v4 v5 v6 v7))) c.policies.l v7:=by
  obtain h | ⟨b,cap,css,h1,h2,h3,h4,h5,h6,h7⟩:=hP
  . exact .inl h
  . refine .inr ⟨b,cap,css,h1,h2,h3,(bV (by omega)).trans h4,h5,h6,λj p hj=>?_⟩;obtain ⟨cs,q1,q2⟩:=h7 j p hj;exact ⟨cs,q1,q2.on (br _) λx h1 h2=>am (by omega)⟩
 have m4':Row1 bs.length b4.length (b8.set (bs.length+1) (.cells (cq c v4 v5 v6 v7))) 7 (c.pods.l.map Pod.c) v4:=by
  refine ⟨m4.1,?_⟩;obtain h | ⟨b,cap,h1,h2⟩:=m4.2
  . exact .inl h
  . exact .inr ⟨b,cap,by omega,h2⟩
 have hl8:(b8.set (bs.length+1) (.cells (cq c v4 v5 v6 v7))).length=b8.length:=by simp
 have hold:∀ x,x<bs.length->(b8.set (bs.length+1) (.cells (cq c v4 v5 v6 v7)))[x]?=bs[x]?:=λx hx=>by
  rw [hh x (by omega) (by omega) (by omega),k6 x (by omega),k5 x (by omega),k4 x (by omega),aq hx]
 by_cases hcnd:bs.length<=min lo8 (bs.length+1)/\(V.agg (cq c v4 v5 v6 v7)).under bs.length=true
 . have hu:=hcnd.2;simp [V.under,V.under.go,cq] at hu;have row_nil:∀ {L M z:Nat} {es:List (List D)} {v:V} {b:List Blk},bs.length<=L->Row1 L M b z es v->v.under bs.length=true->es=[]/\v=.d (.slice true []):=λhL hr hv=>by
    obtain h | ⟨b,cap,h1,h2,rfl,_⟩:=hr.2
    . exact h
    . simp [V.under] at hv; omega
   obtain ⟨n4,w4⟩:=row_nil (br _) m4' hu.1;obtain ⟨n5,w5⟩:=row_nil (by omega) m5 hu.2.1;obtain ⟨n6,w6⟩:=row_nil (by omega) m6 hu.2.2.1;have n7:c.policies.l=[]/\v7=.d (.slice true []):=by
    obtain h | ⟨b,cap,css,h1,h2,h3,_⟩:=hP
    . exact h
    . have:=hu.2.2.2;rw [h3] at this;simp [V.under] at this;omega
   refine ⟨bs,lo,v4,v5,v6,v7,bs.length,bs.length,bs.length,bs.length,?_,λ_ _=>rfl,br _,br _,br _,br _,br _,br _,⟨m4.1,.inl ⟨n4,w4⟩⟩,⟨m5.1,.inl ⟨n5,w5⟩⟩,⟨m6.1,.inl ⟨n6,w6⟩⟩,.inl n7⟩;rw [aJ t90 v90];show eU ⟨bs,lo⟩ (Bd E T val q90 [c.v] ⟨bs,bs.length⟩)=_;rw [hB,ed,if_pos hcnd]
 . refine ⟨_,min lo (min lo8 (bs.length+1)),v4,v5,v6,v7,b4.length,b5.length,b6.length,b7.length,?_,hold,by omega,by omega,l5,l6,l7,by omega,m4',m5,m6,by rw [hl8]; exact m7⟩;rw [aJ t90 v90];show eU ⟨bs,lo⟩ (Bd E T val q90 [c.v] ⟨bs,bs.length⟩)=_;rw [hB,ed,if_neg hcnd]
end
