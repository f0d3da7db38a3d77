/- The document's Own, in memory of the caller's. -/
import Derived.Test.YtoecipeaknldaaaGreatXc
set_option maxRecDepth 100000
set_option linter.unusedVariables false
set_option linter.unusedSimpArgs false
namespace Go.Proofs.YtoecipeaknldaaaGreat
section
variable {E:Calls'}
def Row1 (L M:Nat)(bs:List Blk)(z:Nat)(es:List (List D))(v:V):Prop :=
 (∀ e∈es,e.length=z)/\((es=[]/\v=.d (.slice true []))\/∃ b cap,L<=b/\b<M/\v=.row b 0 es.length cap z/\ai bs b=some (flat es)/\(cap=none/\es≠[]\/cap=some 0/\es=[]))
theorem Row1.on {L M z:Nat}{bs bs':List Blk}{es:List (List D)}{v:V}(h:Row1 L M bs z es v)(ho:∀ x,L<=x->x<M->bs'[x]?=bs[x]?):Row1 L M bs' z es v:=by
 refine ⟨h.1,?_⟩;obtain h | ⟨b,cap,h1,h2,h3,h4,h5⟩:=h.2
 . exact .inl h
 . refine .inr ⟨b,cap,h1,h2,h3,?_,h5⟩;rw [← h4]; unfold ai; rw [ho b h1 h2]
theorem Row1.cl {L M z:Nat}{bs:List Blk}{es:List (List D)}{v:V}(h:Row1 L M bs z es v):v.cells=some [v]:=by
 obtain ⟨_,rfl⟩ | ⟨b,cap,h1,h2,rfl,_⟩:=h.2<;>rfl
theorem Row1.nu {L M z:Nat}{bs:List Blk}{es:List (List D)}{v:V}(h:Row1 L M bs z es v):nu v=some v:=by
 obtain ⟨_,rfl⟩ | ⟨b,cap,h1,h2,rfl,_⟩:=h.2<;>rfl
theorem Row1.ok {L M z:Nat}{bs:List Blk}{es:List (List D)}{v:V}(h:Row1 L M bs z es v):okV v=true:=by
 obtain ⟨_,rfl⟩ | ⟨b,cap,h1,h2,rfl,_⟩:=h.2<;>rfl
theorem Dx {α:Type}{cells:α->List D}{z by_:Nat}(hz:∀ x,(cells x).length=z)(hz0:0<z)(hby:by_<=4096){s:Sl α}(hs:short s)(bs:List Blk) :
 ∃ v bs',(∀ lo,fw ⟨bs++[.cells []],lo⟩ z by_ (.row bs.length 0 0 (some 0) z) (.d (s.d cells))=some (v,⟨bs',lo⟩))/\bs.length<=bs'.length/\(∀ x,x<bs.length->bs'[x]?=bs[x]?)/\Row1 bs.length bs'.length bs' z (s.l.map cells) v/\∀ k,k<=bs.length->v.under k=false:=by
 have hzz:z≠0:=by omega
 have hw:∀ e∈s.l.map cells,e.length=z:=λe he=>by obtain ⟨y,_,rfl⟩:=b9.1 he; exact hz y
 have hrc:∀ h,aO h (.d (s.d cells)) z=some (s.l.length,flat (s.l.map cells)):=λh=>by
  have hall:((s.l.map cells).all λe=>e.length==z)=true:=cj.2 λx hx=>by simp [hw x hx]
  simp only [aO,Sl.d,hall,if_true,flat,bx]
 by_cases h0:s.l.length=0
 . have hl:s.l=[]:=List.length_eq_zero_iff.1 h0;refine ⟨.row bs.length 0 0 (some 0) z,bs++[.cells []],λlo=>?_,by simp,λx hx=>al hx,⟨hw,.inr ⟨bs.length,some 0,bp _,by simp,by rw [hl]; rfl,by rw [hl]; simp,.inr ⟨rfl,by rw [hl]; rfl⟩⟩⟩,λk hk=>by simp [V.under]; omega⟩;simp only [fw,hrc,aI,if_pos h0];simp [hzz]
 . have hroom:roomy s.l.length by_=true:=by simp only [roomy,ao,br]; exact ⟨hs.1,hby⟩
   have hne:s.l≠[]:=λh=>h0 (by rw [h]; rfl);refine ⟨.row (bs.length+1) 0 s.l.length none z,bs++[.cells [],.cells (flat (s.l.map cells))],λlo=>?_,by simp,λx hx=>al hx,⟨hw,.inr ⟨bs.length+1,none,by omega,by simp,by simp,?_,.inl ⟨rfl,by simpa using hne⟩⟩⟩,λk hk=>by simp [V.under]; omega⟩
   . simp only [fw,hrc,aI,if_neg h0];simp [hzz,hroom,h0]
   . have:=iy (bs:=bs) (ys:=[.cells [],.cells (flat (s.l.map cells))]) (i:=1);rw [this];rfl
theorem Acc.row1 {base:List Blk}{z:Nat}{acc:List (List D)}{bs:List Blk}{v:V}(h:Acc base z acc bs v):Row1 base.length bs.length bs z acc v:=by
 refine ⟨h.wid,?_⟩;obtain h1 | ⟨h1,b,h2,h3,h4⟩:=h.is
 . exact .inl h1
 . exact .inr ⟨b,none,h2,aJ h4,h3,h4,.inl ⟨rfl,h1⟩⟩
structure DoesE (E:Calls'):Prop where
 e35:∀ p:Pol,p.fits big->∀ h,E 61 [ag p.c] h=some (ag p.cp.c,h)
theorem L34 {T:FuncId->Option QF}{val:FuncId->Bool}(h35:T 61=none)(hE:DoesE E)(c:Cfg)(hc:c.ok)(base:List Blk)(n:Nat)(vs:List V)(hb:ai base n=some vs)(h8:sub vs 7 1=some [.d (c.policies.d Pol.c)])(lo:Nat):∃ bs' lo' v',Cd E T val (.loop [1,2,3,4] uY) [(1,.ptr n 0),(2,.ptr (n+1) 0),(3,.d (.slice true [])),(4,.d (i64 0))] ⟨base,lo⟩=some (.exit 0,[(1,.ptr n 0),(2,.ptr (n+1) 0),(3,v')],⟨bs',lo'⟩)/\Acc base 5 (c.policies.l.map λr=>r.cp.c) bs' v':=by
 have hlen:=hc.2.2.2.1.lt;have key:=zI (E:=E) (T:=T) (val:=val) (base:=base) (z:=5) (keep:=[1,2,3,4]) (body:=uY) c.policies.l.length (λi=>(c.policies.l.take i).map λr=>r.cp.c) (λi v=>[(1,.ptr n 0),(2,.ptr (n+1) 0),(3,v),(4,.d (i64 i))]) (λv=>(.exit 0,[(1,.ptr n 0),(2,.ptr (n+1) 0),(3,v)])) (λi hi bs lo v hA=>?_) (λbs lo v hA W=>?_) base lo _ (by simpa using Acc.nil base 5)
 . simpa using key
 . have hx:=ab hi;have hmem:=bh hi;have htk:c.policies.l.take (i+1)=c.policies.l.take i++[c.policies.l[i]]:=by rw [List.take_add_one,hx]; rfl
   generalize c.policies.l[i]=r at *;have hsx:=λh=>av (z:=5) h hx (cells:=Pol.c) rfl;have hw:=ay hi hlen;have h0:((i:Int)<c.policies.l.length):=by omega
   have hnu:=hA.nu;have hg:=hA.get hb;have hcall:=λh=>(aU (E:=E) (val:=val) h35).trans (hE.e35 r (hc.2.2.2.2 r hmem) h);obtain ⟨v',bs',lo',ha,hA'⟩:=(hA.lay [.cells (r.cp.c.map .d)]).app (by decide) (by_:=64) (by decide) (e:=r.cp.c) rfl (by simp; have:=hc.2.2.2.1.1; omega) lo (r:=bs.length) (cap:=some 1) (by simp);refine ⟨bs',lo',v',by rw [htk,List.map_append]; exact hA',λW=>?_⟩;simp [uY,hg,h8,h0,hsx,hnu,hcall,aB,ha,hw,hA'.nu]
 . simp [uY,hA.get hb,h8]
def cq (c:Cfg)(v4 v5 v6 v7:V):List V:=[.d (u64 c.epoch),.d (u64 c.next),.d (i64 c.hosts),.d (i64 c.ways),v4,v5,v6,v7]
section
variable {c:Cfg}{a b d e x:V}
theorem cq4:put (cq c a b d e) 4 [x]=some (cq c x b d e):=(rfl)
theorem cq5:put (cq c a b d e) 5 [x]=some (cq c a x d e):=(rfl)
theorem cq6:put (cq c a b d e) 6 [x]=some (cq c a b x e):=(rfl)
theorem cq7:put (cq c a b d e) 7 [x]=some (cq c a b d x):=(rfl)
theorem cs4:sub (cq c a b d e) 4 1=some [a]:=(rfl)
theorem cs5:sub (cq c a b d e) 5 1=some [b]:=(rfl)
theorem cs6:sub (cq c a b d e) 6 1=some [d]:=(rfl)
theorem cs8:sub (cq c a b d e) 0 8=some (cq c a b d e):=(rfl)
theorem cql:(cq c a b d e).length=8:=(rfl)
theorem cqz {z:List V}(hz:z.length=8):put z 0 (cq c a b d e)=some (cq c a b d e):=by simp [put,hz,cql]
end
theorem B34 {T:FuncId->Option QF}{val:FuncId->Bool}(h35:T 61=none)(hE:DoesE E)(c:Cfg)(hc:c.ok)(bs:List Blk):∃ bs' lo' v4 v5 v6 v7 L0 L1 L2 L3,
 Bd E T val q34 [c.v] ⟨bs,bs.length⟩=some (.agg (cq c v4 v5 v6 v7),⟨bs',lo'⟩)/\(∀ x,x<bs.length->bs'[x]?=bs[x]?)/\bs.length<=L0/\L0<=L1/\L1<=L2/\L2<=L3/\L3<=bs'.length ∧
 Row1 L0 L1 bs' 7 (c.pods.l.map Pod.c) v4/\Row1 L1 L2 bs' 5 (c.services.l.map Svc.c) v5/\Row1 L2 L3 bs' 2 (c.bound.l.map Way.c) v6/\Row1 L3 bs'.length bs' 5 (c.policies.l.map λr=>r.cp.c) v7 ∧
 v4≠.d (.slice true [])/\v5≠.d (.slice true [])/\v6≠.d (.slice true [])/\(c.policies.l=[]->v7=.d (.slice true []))/\v4.under bs.length=false:=by
 obtain ⟨v4,b4,a4,l4,k4,r4,u4⟩:=Dx (cells:=Pod.c) (z:=7) (by_:=72) (λ_=>rfl) (by decide) (by decide) hc.1 (bs++[.cells (c.c.map .d),.cells [.d (.int .u64 0),.d (.int .u64 0),.d (i64 0),.d (i64 0),.d (.slice true []),.d (.slice true []),.d (.slice true []),.d (.slice true [])]]);have n4:bs.length+2<=b4.length:=by simpa using l4
 let c4:=cq c v4 (.d (c.services.d Svc.c)) (.d (c.bound.d Way.c)) (.d (c.policies.d Pol.c))
 obtain ⟨v5,b5,a5,l5,k5,r5,u5⟩:=Dx (cells:=Svc.c) (z:=5) (by_:=48) (λ_=>rfl) (by decide) (by decide) hc.2.1 (b4.set bs.length (.cells (cq c v4 (.d (c.services.d Svc.c)) (.d (c.bound.d Way.c)) (.d (c.policies.d Pol.c)))));have n5:b4.length<=b5.length:=by simpa using l5
 obtain ⟨v6,b6,a6,l6,k6,r6,u6⟩:=Dx (cells:=Way.c) (z:=2) (by_:=16) (λ_=>rfl) (by decide) (by decide) hc.2.2.1 (b5.set bs.length (.cells (cq c v4 v5 (.d (c.bound.d Way.c)) (.d (c.policies.d Pol.c)))));have n6:b5.length<=b6.length:=by simpa using l6
 have g0:ai b4 bs.length=some (cq c (.d (c.pods.d Pod.c)) (.d (c.services.d Svc.c)) (.d (c.bound.d Way.c)) (.d (c.policies.d Pol.c))):=by
  have:ai (bs++[.cells (c.c.map .d),.cells [.d (.int .u64 0),.d (.int .u64 0),.d (i64 0),.d (i64 0),.d (.slice true []),.d (.slice true []),.d (.slice true []),.d (.slice true [])]]) bs.length=some (c.c.map .d):=by simp
  rw [show cq c (.d (c.pods.d Pod.c)) (.d (c.services.d Svc.c)) (.d (c.bound.d Way.c)) (.d (c.policies.d Pol.c))=c.c.map .d from rfl,← this];unfold ai; rw [k4 _ (by simp)]
 have gset:∀ (b:List Blk) (cs:List V),bs.length<b.length->ai (b.set bs.length (.cells cs)) bs.length=some cs:=λb cs h=>by simp [ai,h]
 have g1:=gset b4 (cq c v4 (.d (c.services.d Svc.c)) (.d (c.bound.d Way.c)) (.d (c.policies.d Pol.c))) (by omega);have g1':ai b5 bs.length=some (cq c v4 (.d (c.services.d Svc.c)) (.d (c.bound.d Way.c)) (.d (c.policies.d Pol.c))):=by rw [← g1]; unfold ai; rw [k5 _ (by simp; omega)]
 have g2:=gset b5 (cq c v4 v5 (.d (c.bound.d Way.c)) (.d (c.policies.d Pol.c))) (by omega);have g2':ai b6 bs.length=some (cq c v4 v5 (.d (c.bound.d Way.c)) (.d (c.policies.d Pol.c))):=by rw [← g2]; unfold ai; rw [k6 _ (by simp; omega)]
 have g3:=gset b6 (cq c v4 v5 v6 (.d (c.policies.d Pol.c))) (by omega);obtain ⟨b7,lo7,v7,a7,A7⟩:=L34 (val:=val) h35 hE c hc (b6.set bs.length (.cells (cq c v4 v5 v6 (.d (c.policies.d Pol.c))))) bs.length _ g3 rfl bs.length;have r7:=A7.row1;have n7:=A7.len;simp at n7 r7;have g3':=A7.get g3;have g4:=gset b7 (cq c v4 v5 v6 v7) (by omega);have gz:ai b7 (bs.length+1)=some [.d (.int .u64 0),.d (.int .u64 0),.d (i64 0),.d (i64 0),.d (.slice true []),.d (.slice true []),.d (.slice true []),.d (.slice true [])]:=by
  refine A7.get ?_;have h0:ai (bs++[.cells (c.c.map .d),.cells [.d (.int .u64 0),.d (.int .u64 0),.d (i64 0),.d (i64 0),.d (.slice true []),.d (.slice true []),.d (.slice true []),.d (.slice true [])]]) (bs.length+1)=some [.d (.int .u64 0),.d (.int .u64 0),.d (i64 0),.d (i64 0),.d (.slice true []),.d (.slice true []),.d (.slice true []),.d (.slice true [])]:=by simp
  rw [← h0]; unfold ai;rw [ac (by omega),k6 _ (by simp; omega),ac (by omega),k5 _ (by simp; omega),ac (by omega),k4 _ (by simp)]
 have gz':ai (b7.set bs.length (.cells (cq c v4 v5 v6 v7))) (bs.length+1)=some [.d (.int .u64 0),.d (.int .u64 0),.d (i64 0),.d (i64 0),.d (.slice true []),.d (.slice true []),.d (.slice true []),.d (.slice true [])]:=by rw [← gz]; unfold ai; rw [ac (by omega)]
 have gy:ai ((b7.set bs.length (.cells (cq c v4 v5 v6 v7))).set (bs.length+1) (.cells (cq c v4 v5 v6 v7))) (bs.length+1)=some (cq c v4 v5 v6 v7):=by
  have:bs.length+1<b7.length:=by omega
  simp [ai,this]
 have hold:∀ x,bs.length+2<=x\/x<bs.length->((b7.set bs.length (.cells (cq c v4 v5 v6 v7))).set (bs.length+1) (.cells (cq c v4 v5 v6 v7)))[x]?=b7[x]?:=λx hx=>by rw [ac (by omega),ac (by omega)]
 have h7:∀ x,x<b6.length->x≠bs.length->b7[x]?=b6[x]?:=λx hx hne=>by rw [A7.old x (by simpa using hx),ac (Ne.symm hne)]
 have h6:∀ x,x<b5.length->x≠bs.length->b6[x]?=b5[x]?:=λx hx hne=>by rw [k6 x (by simpa using hx),ac (Ne.symm hne)]
 have h5:∀ x,x<b4.length->x≠bs.length->b5[x]?=b4[x]?:=λx hx hne=>by rw [k5 x (by simpa using hx),ac (Ne.symm hne)]
 refine ⟨(b7.set bs.length (.cells (cq c v4 v5 v6 v7))).set (bs.length+1) (.cells (cq c v4 v5 v6 v7)),min (min lo7 bs.length) (bs.length+1),v4,v5,v6,v7,bs.length+2,b4.length,b5.length,b6.length,?_,?_,by omega,n4,n5,n6,by simpa using n7,?_,?_,?_,?_,?_,?_,?_,?_,u4 bs.length (by simp)⟩
 . have q4:=a4 bs.length;have q5:=a5 bs.length;have q6:=a6 bs.length;have t4:=r4.cl; have t5:=r5.cl; have t6:=r6.cl; have t7:=r7.cl;have m4:=r4.nu; have m5:=r5.nu; have m6:=r6.nu; have m7:=r7.nu;simp at q4 q5 q6 a7;have hcv:c.v=.agg (cq c (.d (c.pods.d Pod.c)) (.d (c.services.d Svc.c)) (.d (c.bound.d Way.c)) (.d (c.policies.d Pol.c))):=rfl;simp [aa,q34,q4,q5,q6,m4,m5,m6,m7,t4,t5,t6,t7,g0,g1,g1',g2,g2',g3,aj g1,aj g2,cq4,cq5,cq6,cs4,cs5,cs6,cql];rw [au];simp [a7];simp [m7,t7,g3',cs8,cql,cqz,cq7,g4,gz',gy]
 . intro x hx;rw [hold x (.inr hx),h7 x (by omega) (by omega),h6 x (by omega) (by omega),h5 x (by omega) (by omega),k4 x (by simp; omega)];exact al hx
 . exact (by simpa using r4:Row1 (bs.length+2) b4.length b4 7 _ v4).on λx h1 h2=>by rw [hold x (.inl h1),h7 x (by omega) (by omega),h6 x (by omega) (by omega),h5 x h2 (by omega)]
 . exact (by simpa using r5:Row1 b4.length b5.length b5 5 _ v5).on λx h1 h2=>by rw [hold x (.inl (by omega)),h7 x (by omega) (by omega),h6 x h2 (by omega)]
 . exact (by simpa using r6:Row1 b5.length b6.length b6 2 _ v6).on λx h1 h2=>by rw [hold x (.inl (by omega)),h7 x h2 (by omega)]
 . simpa using r7.on λx h1 h2=>hold x (.inl (by omega))
 . rintro rfl; exact absurd (u4 0 (by simp)) (by simp [V.under])
 . rintro rfl; exact absurd (u5 0 (by simp)) (by simp [V.under])
 . rintro rfl; exact absurd (u6 0 (by simp)) (by simp [V.under])
 . intro h0;obtain ⟨_,h⟩ | ⟨h,_⟩:=A7.is
   . exact h
   . exact absurd (by simp [h0]) h
end
section
variable {E:Calls'}
theorem vC {α:Type}{a b:List α}{o k:Nat}(h:o+k<=a.length):sub (a++b) o k=sub a o k:=by
 rw [eT,eT,if_pos (by simp; omega),if_pos h,List.drop_append_of_le_length (by omega),List.take_append_of_le_length (by simp; omega)]
theorem wM {α:Type}{a b:List α}{o k:Nat}:sub (a++b) (a.length+o) k=sub b o k:=by
 rw [eT,eT,am,List.drop_append];by_cases h:o+k<=b.length
 . rw [if_pos (by omega),if_pos h,aq (show a.length<=a.length+o by omega)];simp
 . rw [if_neg (by omega),if_neg h]
theorem qQ {z:Nat}:∀ {es:List (List D)} {i:Nat} {e:List D},(∀ e∈es,e.length=z)->es[i]?=some e->∀ {o k:Nat},o+k<=z->sub (flat es) (i * z+o) k=sub (e.map V.d) o k
 | x::es,0,e,hz,hi,o,k,h=>by
  simp at hi;subst hi;rw [flat_cons,Nat.zero_mul,Nat.zero_add,vC (by simp [hz x (by simp)]; omega)]
 | x::es,i+1,e,hz,hi,o,k,h=>by
  have hx:=hz x (by simp);have:(i+1) * z+o=(x.map V.d).length+(i * z+o):=by simp [hx,Nat.succ_mul]; omega
  rw [flat_cons,this,wM];exact qQ (λe he=>hz e (by simp [he])) (by simpa using hi) h
theorem Row1.len {L M z:Nat}{bs:List Blk}{es:List (List D)}{v:V}(h:Row1 L M bs z es v)(hp:Hp):uO false v hp=some (.d (i64 es.length),hp):=by
 obtain ⟨rfl,rfl⟩ | ⟨b,cap,h1,h2,rfl,_⟩:=h.2<;>rfl
theorem Row1.at {L M z:Nat}{bs:List Blk}{es:List (List D)}{v:V}(h:Row1 L M bs z es v){i:Nat}{e:List D}(hi:es[i]?=some e) :
 ∃ b,L<=b/\b<M/\(∀ hp,cZ none z v (.d (.int .i64 i)) hp=some (.ptr b (i * z),hp))/\ai bs b=some (flat es)/\(∀ o k,o+k<=z->sub (flat es) (i * z+o) k=sub (e.map V.d) o k)/\∀ k,k<=z->sub (flat es) (i * z) k=sub (e.map V.d) 0 k:=by
 have hlt:=(bw.1 hi).1;obtain ⟨rfl,rfl⟩ | ⟨b,cap,h1,h2,rfl,h3,_⟩:=h.2
 . simp at hlt
 . refine ⟨b,h1,h2,λhp=>?_,h3,λo k hk=>qQ h.1 hi hk,λk hk=>by simpa using qQ (o:=0) h.1 hi (by omega)⟩;simp only [cZ];rw [if_pos ⟨by omega,by omega,trivial⟩];simp
theorem Acc.ret {bs bs':List Blk}{z lo lo':Nat}{acc:List (List D)}{v:V}(h:Acc bs z acc bs' v):∃ bs2 lo2,dY ⟨bs,lo⟩ (some (v,⟨bs',lo'⟩))=some (v,⟨bs2,lo2⟩)/\Acc bs z acc bs2 v:=by
 rw [eu];by_cases hc:bs.length<=lo'/\v.under bs.length=true
 . rw [if_pos hc];refine ⟨bs,lo,rfl,?_⟩;obtain ⟨rfl,rfl⟩ | ⟨h1,b,h2,rfl,h4⟩:=h.is
   . exact Acc.nil bs z
   . have:=hc.2;simp [V.under] at this;omega
 . rw [if_neg hc];exact ⟨_,_,rfl,h⟩
end
section
variable {E:Calls'}
end
section
variable {E:Calls'}
theorem Row1.datN {L M z:Nat}{bs:List Blk}{es:List (List D)}{v:V}(h:Row1 L M bs z es v)(hn:v≠.d (.slice true []))(lo k:Nat):dataV ⟨bs,lo⟩ (k+1) v=some (.slice false es):=by
 obtain ⟨_,rfl⟩ | ⟨b,cap,h1,h2,rfl,h3,_⟩:=h.2
 . exact absurd rfl hn
 . rw [eH h.1 rfl (rest:=[]) (by simpa using h3)]
theorem Row1.datE {L M z:Nat}{bs:List Blk}{es:List (List D)}{v:V}(h:Row1 L M bs z es v)(hn:es=[]->v=.d (.slice true []))(lo k:Nat):dataV ⟨bs,lo⟩ (k+1) v=some (.slice es.isEmpty es):=by
 obtain ⟨rfl,rfl⟩ | ⟨b,cap,h1,h2,rfl,h3,h4 | h4⟩:=h.2
 . rfl
 . rw [eH h.1 rfl (rest:=[]) (by simpa using h3)];cases es with
   | nil=>exact absurd rfl h4.2
   | cons _ _=>rfl
 . cases hn h4.2
def Cfg.cp (c:Cfg):Cfg:={ c with pods:=fT c.pods,services:=fT c.services,bound:=fT c.bound,policies:=bY (c.policies.l.map Pol.cp) }
theorem wh {c:Cfg}{h:Hp}{v4 v5 v6 v7:V}{d4 d5 d6 d7:D}(h4:dataV h 8 v4=some d4)(h5:dataV h 8 v5=some d5)(h6:dataV h 8 v6=some d6)(h7:dataV h 8 v7=some d7) :
 bP h (cq c v4 v5 v6 v7)=some [u64 c.epoch,u64 c.next,i64 c.hosts,i64 c.ways,d4,d5,d6,d7]:=by
 simp only [cq,y8];simp [bP,h4,h5,h6,h7]
theorem Cfg.cp_c (c:Cfg):c.cp.c=[u64 c.epoch,u64 c.next,i64 c.hosts,i64 c.ways,.slice false (c.pods.l.map Pod.c),.slice false (c.services.l.map Svc.c),.slice false (c.bound.l.map Way.c),.slice (c.policies.l.map λr=>r.cp.c).isEmpty (c.policies.l.map λr=>r.cp.c)]:=by
 simp [Cfg.cp,Cfg.c,Sl.d,fT,bY,ck]
end
section
variable {E:Calls'}
theorem aN {bs:List Blk}{x:Nat}{cs cs0:List V}(h:ai bs x=some cs0):ai (bs.set x (.cells cs)) x=some cs:=by simp [ai,aJ h]
theorem bi {bs:List Blk}{x y:Nat}{cs:List V}(h:y≠x):ai (bs.set y (.cells cs)) x=ai bs x:=by unfold ai; rw [ac h]
theorem cs1 {c:Cfg}{a b d e:V}:sub (cq c a b d e) 1 1=some [.d (u64 c.next)]:=(rfl)
theorem Row1.app {L M z:Nat}{bs:List Blk}{es:List (List D)}{v:V}(h:Row1 L M bs z es v)(hz0:0<z){by_:Nat}(hby:by_<=4096)(hl:es.length<big){e:List D}(he:e.length=z){r:Nat}{cap:Option Nat}(hr:ai bs r=some (e.map .d))(hM:M<=bs.length) :
 ∃ v' bs',∃ F:Nat->Nat,(∀ lo,fw ⟨bs,lo⟩ z by_ v (.row r 0 1 cap z)=some (v',⟨bs',F lo⟩))/\Row1 bs.length bs'.length bs' z (es++[e]) v'/\v'≠.d (.slice true [])/\(∀ x,x<bs.length->x<L\/M<=x->bs'[x]?=bs[x]?)/\bs.length<=bs'.length:=by
 have hrc:∀ lo,aO ⟨bs,lo⟩ (.row r 0 1 cap z) z=some (1,e.map .d):=λlo=>by
  have:sub (e.map V.d) 0 z=some (e.map V.d):=eB (by simpa using he);simp only [aO,if_true,get_eq,hr,Nat.one_mul,this,Option.map_some]
 have hroom:∀ n,n<=big->roomy n by_=true:=λn hn=>by simp only [roomy,ao,br]; exact ⟨hn,hby⟩
 have hwid:∀ x∈es++[e],x.length=z:=λx hx=>by
  obtain h1 | h1:=List.mem_append.1 hx
  . exact h.1 x h1
  . simp at h1; rw [h1]; exact he
 have hfe:flat (es++[e])=flat es++e.map .d:=by rw [kZ]; simp [flat]
 obtain ⟨rfl,rfl⟩ | ⟨b,cap',h1,h2,rfl,h3,⟨rfl,h4⟩ | ⟨rfl,rfl⟩⟩:=h.2
 . refine ⟨.row bs.length 0 1 none z,bs++[.cells (e.map .d)],id,λlo=>by simp only [fw,hrc,aI,if_neg (show ¬ (1=0) by decide),if_neg (show ¬ z=0 by omega),hroom 1 (by decide),if_true]; rfl,⟨hwid,.inr ⟨bs.length,none,bp _,by simp,rfl,by simp [flat],.inl ⟨rfl,by simp⟩⟩⟩,by simp,λx hx _=>al hx,by simp⟩
 . have hfl:=jV h.1;have hsub:sub (flat es) 0 (es.length * z)=some (flat es):=eB hfl;have hpos:0<(flat es).length:=by rw [hfl]; exact Nat.mul_pos (by cases es with | nil=>exact absurd rfl h4 | cons _ _=>simp) hz0
   have hbl:=aJ h3;refine ⟨.row bs.length 0 (es.length+1) none z,bs.set b (.cells [])++[.cells (flat es++e.map .d)],λlo=>min lo b,λlo=>by simp only [fw,hrc,aI,ne_eq,not_true_eq_false,false_or,if_neg (show ¬ (1=0) by decide),if_neg (show ¬ z=0 by omega),get_eq,h3,hsub,hroom (es.length+1) (by omega),Bool.not_true,bm,if_false,hpos,and_self,if_true,Hp.size,Hp.alloc,Hp.set,List.length_set],⟨hwid,.inr ⟨bs.length,none,bp _,by simp,by simp,?_,.inl ⟨rfl,by simp⟩⟩⟩,by simp,λx hx hx2=>?_,by simp⟩
   . have:ai (bs.set b (.cells [])++[.cells (flat es++e.map .d)]) (bs.set b (.cells [])).length=some (flat es++e.map .d):=by rw [cO]; rfl
     rw [List.length_set] at this;rw [hfe];exact this
   . rw [al (by simpa using hx),ac (by omega)]
 . have hsub:sub (flat []) 0 (0 * z)=some (flat []):=by simp
   refine ⟨.row bs.length 0 1 none z,bs++[.cells (e.map .d)],id,λlo=>by
    simp only [fw,hrc,aI,ne_eq,not_true_eq_false,false_or,if_neg (show ¬ (1=0) by decide),if_neg (show ¬ z=0 by omega),get_eq,h3,hsub,ch,hroom (0+1) (by decide),Bool.not_true,bm,if_false,show ¬ (0+1<=0) by omega,Hp.size,Hp.alloc]; rfl,⟨hwid,.inr ⟨bs.length,none,bp _,by simp,rfl,by simp [flat],.inl ⟨rfl,by simp⟩⟩⟩,by simp,λx hx _=>al hx,by simp⟩
end
section
variable {E:Calls'}
theorem b0 {ev:X->V}{d:Nat}:dK ev none d=some d:=rfl
end
section
variable {E:Calls'}
end
section
variable {E:Calls'}
end
section
end
section
theorem fE {α:Type}{B:Nat}{f:Nat->α->Prop}{s:Sl α}(h:s.wf B f):(fT s).wf B f:=⟨⟨h.1.1,λh=>by cases h⟩,h.2⟩
theorem qo {α β:Type}{B:Nat}{f:Nat->α->Prop}{g:Nat->β->Prop}{s:Sl α}{k:α->β}(h:s.wf B f)(hk:∀ x∈s.l,f B x->g B (k x)):(bY (s.l.map k)).wf B g :=
 ⟨⟨by simpa [bY] using h.1.1,λh=>by simpa [bY] using h⟩,λy hy=>by
  obtain ⟨x,hx,rfl⟩:=b9.1 (show y∈s.l.map k from hy);exact hk x hx (h.2 x hx)⟩
theorem Source.cp_wf {B:Nat}{s:Source}(h:s.wf B):s.cp.wf B:=⟨fE h.1,fE h.2.1,fE h.2.2⟩
theorem Target.cp_wf {B:Nat}{s:Target}(h:s.wf B):s.cp.wf B:=⟨fE h.1,fE h.2.1,fE h.2.2.1,fE h.2.2.2⟩
theorem When.cp_wf {B:Nat}{s:When}(h:s.wf B):s.cp.wf B:=⟨h.1,fE h.2⟩
theorem Rule.cp_wf {B:Nat}{s:Rule}(h:s.wf B):s.cp.wf B:=⟨qo h.1 λ_ _ h=>Source.cp_wf h,qo h.2.1 λ_ _ h=>Target.cp_wf h,qo h.2.2 λ_ _ h=>When.cp_wf h⟩
theorem Pol.cp_wf {B:Nat}{s:Pol}(h:s.wf B):s.cp.wf B:=⟨h.1,h.2.1,h.2.2.1,h.2.2.2.1,qo h.2.2.2.2 λ_ _ h=>Rule.cp_wf h⟩
theorem Cfg.cp_wf {B:Nat}{c:Cfg}(h:c.wf B):c.cp.wf B:=⟨h.1,h.2.1,h.2.2.1,h.2.2.2.1,fE h.2.2.2.2.1,fE h.2.2.2.2.2.1,fE h.2.2.2.2.2.2.1,qo h.2.2.2.2.2.2.2 λ_ _ h=>Pol.cp_wf h⟩
end
section
variable {E:Calls'}
noncomputable def EX1 (E:Calls'):Calls':=Sm E TX bW
end
section
theorem Source.cp_nf (s:Source):s.cp.nf=s.nf:=rfl
theorem Target.cp_nf (s:Target):s.cp.nf=s.nf:=rfl
theorem When.cp_nf (s:When):s.cp.nf=s.nf:=rfl
theorem Rule.cp_nf (r:Rule):r.cp.nf=r.nf:=by
 simp [Rule.cp,Rule.nf,Sl.nf,bY,ck,Source.cp_nf,Target.cp_nf,When.cp_nf]
theorem Pol.cp_nf (p:Pol):p.cp.nf=p.nf:=by
 simp [Pol.cp,Pol.nf,Sl.nf,bY,ck,Rule.cp_nf]
theorem BA (p:Pol):p.own.nf=p.nf:=Pol.same_iff.1 (own_same p)
theorem Cfg.cp_nf (c:Cfg):c.cp.nf=c.nf:=by
 simp [Cfg.cp,Cfg.nf,Sl.nf,fT,bY,ck,Pol.cp_nf]
theorem Cfg.own_nf (c:Cfg):c.own.nf=c.nf:=by
 simp [Cfg.own,Cfg.nf,Sl.nf,ck,BA]
end
section
theorem ME {c d:Cfg}(h1:c.epoch=d.epoch)(h2:c.next=d.next)(h3:c.hosts=d.hosts)(h4:c.ways=d.ways)(h5:c.pods.l=d.pods.l)(h6:c.services.l=d.services.l)(h7:c.bound.l=d.bound.l)(h8:c.policies.l.map Pol.nf=d.policies.l.map Pol.nf):c.nf=d.nf:=by
 simp [Cfg.nf,Sl.nf,h1,h2,h3,h4,h5,h6,h7,h8]
theorem own_epoch (c:Cfg)(e:Edt):(KR c.own e).1.epoch=c.epoch:=by
 unfold KR Mj
 repeat' first
  | rfl
  | split
end
section
variable {E:Calls'}
def VD:List (Nat×QF):=[(42,q34)]
def TVq:FuncId->Option QF:=iN VD
def De (f:FuncId):Bool:=Nat.beq 42 f
theorem V34 (hE:DoesE E)(c:Cfg)(hc:c.ok)(h:Hp):Sm E TVq De 42 [c.v] h=some (ag c.cp.c,h):=by
 obtain ⟨bs',lo',v4,v5,v6,v7,L0,L1,L2,L3,a,r1,r2,r3,r4,r5,r6,r7,r8,r9,r10,r11,r12,r13,r14,u4⟩:=B34 (T:=TVq) (val:=De) (by kernel_rfl) hE c hc [];have hcv:[c.v].mapM (frz h)=some [c.v]:=by simp [Cfg.v]
 rw [aQ (q:=q34) (by kernel_rfl) (by kernel_rfl),hcv,nD];have a':Bd E TVq De q34 [c.v] ⟨[],0⟩=some (.agg (cq c v4 v5 v6 v7),⟨bs',lo'⟩):=a;rw [a',Il,jW,wh (r7.datN r11 lo' 7) (r8.datN r12 lo' 7) (r9.datN r13 lo' 7) (r10.datE (λh0=>r14 (by simpa using h0)) lo' 7),← Cfg.cp_c];simp [Cfg.v]
theorem Ip {T:FuncId->Option QF}{val:FuncId->Bool}{f:FuncId}{q:QF}(ht:T f=some q)(hv:val f=true){l m:List D}{b:Bool}(h0:∀ h,Sm E T val f [ag l,ag m] h=some (bl b,h)){a a':V}{h:Hp}(ha:frz h a=some (ag l))(ha':frz h a'=some (ag m)):Sm E T val f [a,a'] h=some (bl b,h):=by
 have h1:=h0 h;rw [aQ ht hv] at h1 ⊢;simp only [List.mapM_cons,List.mapM_nil,oq,ha,ha',Option.pure_def,Option.bind_eq_bind,Option.bind_some,nD,vU] at h1 ⊢;cases hB:Bd E T val q [ag l,ag m] ⟨[],0⟩ with
 | none=>rw [hB] at h1; cases h1
 | some p =>
  obtain ⟨r,h'⟩:=p;rw [hB] at h1;simp only [yH] at h1 ⊢;cases hr:frz h' r with
  | none=>rw [hr] at h1; cases h1
  | some r' =>
   rw [hr] at h1;have e1:r'=bl b:=by
    simp at h1; exact h1
   subst e1;have:=uE hr;subst this;simp [ownR,xJ,mq]
end
section
variable {E:Calls'}
theorem GU {cs:List V}{o:Nat}{y:V}(h:o<cs.length):∃ cs',put cs o [y]=some cs'/\cs'.length=cs.length/\∀ j,cs'[j]?=if j=o then some y else cs[j]?:=by
 refine ⟨cs.set o y,?_,by simp,λj=>?_⟩
 . simp only [put,List.length_singleton];rw [if_pos (by omega)]
   congr 1
   rw [List.set_eq_take_append_cons_drop,if_pos h];simp
 . rw [List.getElem?_set];by_cases hj:j=o
   . subst hj; simp [h]
   . rw [if_neg hj,if_neg (Ne.symm hj)]
theorem BX {cs:List V}{o:Nat}{y:V}(h:cs[o]?=some y):sub cs o 1=some [y]:=by
 obtain ⟨h1,rfl⟩:=bw.1 h;exact KC h1
theorem qb {T:FuncId->Option QF}{val:FuncId->Bool}{keep:List Nat}{body:QC}(n:Nat)(env:Nat->EA)(P:Nat->List Blk->Prop)(X:Ex×EA)
 (hr:∀ i,i<n->∀ bs lo,P i bs->∃ bs' lo',P (i+1) bs'/\∀ W:EA->Hp->fu,dJ keep W (Cd E T val body (bN keep (env i)) ⟨bs,lo⟩)=W (env (i+1)) ⟨bs',lo'⟩)
 (he:∀ bs lo,P n bs->∀ W:EA->Hp->fu,dJ keep W (Cd E T val body (bN keep (env n)) ⟨bs,lo⟩)=some (X.1,X.2,⟨bs,lo⟩)) (bs:List Blk) (lo:Nat) (h0:P 0 bs) :
 ∃ bs' lo',Cd E T val (.loop keep body) (env 0) ⟨bs,lo⟩=some (X.1,X.2,⟨bs',lo'⟩)/\P n bs':=by
 have:∀ (m i:Nat) (bs:List Blk) (lo:Nat),i+m=n->P i bs->∃ bs' lo',Cd E T val (.loop keep body) (env i) ⟨bs,lo⟩=some (X.1,X.2,⟨bs',lo'⟩)/\P n bs':=by
  intro m;have key:=aF (E:=E) (T:=T) (val:=val) keep body;generalize Cd E T val (.loop keep body)=W at key ⊢
  induction m with
  | zero =>
   intro i bs lo hi hP;rw [show i=n by omega] at hP ⊢;exact ⟨bs,lo,by rw [key,he bs lo hP W],hP⟩
  | succ m ih =>
   intro i bs lo hi hP;obtain ⟨bs',lo',h1,h2⟩:=hr i (by omega) bs lo hP;obtain ⟨bs2,lo2,h3,h4⟩:=ih (i+1) bs' lo' (by omega) h1;exact ⟨bs2,lo2,by rw [key,h2 W,h3],h4⟩
 exact this n 0 bs lo (by omega) h0
def Idc (z n:Nat)(cs:List V):Prop:=∀ i,i<n->∃ x,cs[i * z]?=some (.d (u64 x))
theorem Idc.put {z n o:Nat}{cs cs':List V}{x:Int}(h:Idc z n cs)(hc:∀ j,cs'[j]?=if j=o then some (.d (u64 x)) else cs[j]?):Idc z n cs':=λi hi=>by
 rw [hc];by_cases ho:i * z=o
 . rw [if_pos ho]; exact ⟨_,rfl⟩
 . rw [if_neg ho]; exact h i hi
def IdRow (K:Nat->Prop)(bs:List Blk)(z:Nat)(v:V):Prop:=(∃ nl,v=.d (.slice nl []))\/∃ b n cap cs,K b/\v=.row b 0 n cap z/\n<2 ^ 62/\ai bs b=some cs/\Idc z n cs
def Keeps (K:Nat->Prop)(bs bs':List Blk):Prop:=(∀ x,¬ K x->bs'[x]?=bs[x]?)/\∀ x cs,ai bs x=some cs->∃ cs',ai bs' x=some cs'/\cs'.length=cs.length
theorem Keeps.refl {K:Nat->Prop}{bs:List Blk}:Keeps K bs bs:=⟨λ_ _=>rfl,λx cs h=>⟨cs,h,rfl⟩⟩
theorem Keeps.trans {K:Nat->Prop}{a b c:List Blk}(h:Keeps K a b)(k:Keeps K b c):Keeps K a c:=⟨λx hx=>(k.1 x hx).trans (h.1 x hx),λx cs hc=>by
 obtain ⟨c1,h1,h2⟩:=h.2 x cs hc;obtain ⟨c2,h3,h4⟩:=k.2 x c1 h1;exact ⟨c2,h3,h4.trans h2⟩⟩
theorem Keeps.set {K:Nat->Prop}{x:Nat}{bs:List Blk}{cs cs0:List V}(h:K x)(h0:ai bs x=some cs0)(hl:cs.length=cs0.length):Keeps K bs (bs.set x (.cells cs)):=⟨λy hy=>ac (by rintro rfl; exact hy h),λy c hc=>by
 by_cases hy:x=y
 . subst hy;rw [h0] at hc;cases hc;exact ⟨cs,aN h0,hl⟩
 . exact ⟨c,by rw [bi hy]; exact hc,rfl⟩⟩
theorem Keeps.get {K:Nat->Prop}{x:Nat}{bs bs':List Blk}{cs:List V}(h:Keeps K bs bs')(hx:¬ K x)(hg:ai bs x=some cs):ai bs' x=some cs:=by
 rw [← hg]; unfold ai; rw [h.1 x hx]
end
section
variable {E:Calls'}
def Tg (L M:Nat)(tag:Nat->Nat)(i:Nat):Nat->Prop:=λx=>L<=x/\x<M/\tag x=i
theorem aM {bs bs':List Blk}{x:Nat}{cs:List V}(h:bs'[x]?=bs[x]?)(hg:ai bs x=some cs):ai bs' x=some cs:=by
 rw [← hg]; unfold ai; rw [h]
theorem IdRow.on {K:Nat->Prop}{bs bs':List Blk}{z:Nat}{v:V}(h:IdRow K bs z v)(k:∀ x,K x->bs'[x]?=bs[x]?):IdRow K bs' z v:=by
 obtain h | ⟨b,n,cap,cs,h1,h2,h3,h4,h5⟩:=h
 . exact .inl h
 . exact .inr ⟨b,n,cap,cs,h1,h2,h3,aM (k b h1) h4,h5⟩
end
section
variable {E:Calls'}
end
section
variable {E:Calls'}{T:FuncId->Option QF}{val:FuncId->Bool}
theorem Acc.low {base:List Blk}{z:Nat}{acc:List (List D)}{bs bs':List Blk}{v v' x:V}{by_ lo lo':Nat}(h:Acc base z acc bs v)(ha:fw ⟨bs,lo⟩ z by_ v x=some (v',⟨bs',lo'⟩))(hl:base.length<=lo):base.length<=lo':=by
 unfold fw at ha;split at ha
 case h_2=>cases ha
 case h_1 m xs _ =>
  obtain ⟨_,rfl⟩ | ⟨h1,b,h2,rfl,h4⟩:=h.is
  . simp only [aI] at ha
    repeat' split at ha
    all_goals first
     | (cases ha; exact hl)
     | (simp [Hp.alloc] at ha; omega)
     | cases ha
  . simp only [aI] at ha
    repeat' split at ha
    all_goals first
     | (cases ha; done)
     | (cases ha; exact hl)
     | (simp [Hp.alloc,Hp.set] at ha; omega)
def pq (p:Pol)(v:V):List V:=[.d (u64 p.id),.d (.str p.ns),.d (u64 p.service),.d (i64 p.deny),v]
end
section
variable {E:Calls'}{T:FuncId->Option QF}{val:FuncId->Bool}
theorem fM {f:FuncId}{args:List V}{v:V}{bs bs2:List Blk}{lo2:Nat}(hc:Sm E T val f args ⟨bs,bs.length⟩=some (v,⟨bs2,lo2⟩))(hl:bs.length<=lo2)(hlen:bs.length<=bs2.length)(hold:∀ x,x<bs.length->bs2[x]?=bs[x]?)(lo:Nat)(xs:List X)(ev:X->V)(ha:xs.all (λx=>okV (ev x))=true)(hx:xs.map ev=args)(hf:ev (.c (.fn f []))=.fn f []) :
 cK (Sm E T val) (.call (.c (.fn f [])) xs) ev ⟨bs,lo⟩=some (v,⟨bs2,lo⟩,⟨true,false,[],[],bs.length,bs2.length,0⟩):=by
 rw [ae,if_pos ha,hf,hx,uo,List.append_nil,hc];simp only [if_pos hl];by_cases h:bs2.length=bs.length
 . have:bs2=bs:=by
    refine List.ext_getElem? λx=>?_;by_cases hx:x<bs.length
    . exact hold x hx
    . rw [aw (by omega),aw (by omega)]
   subst this;simp
 . rw [if_neg h]
theorem kE {α:Type}{cells:α->List D}{z b:Nat}{zero:List V}{id:FuncId}(ht:T id=some (cloneQ z b zero))(hv:val id=false)(hz0:0<z)(hb:b<=4096)(hz:∀ x,(cells x).length=z){s:Sl α}(hs:short s)(bs:List Blk) :
 ∃ v bs2,Sm E T val id [.d (s.d cells)] ⟨bs,bs.length⟩=some (v,⟨bs2,bs.length⟩)/\bs.length<=bs2.length/\(∀ x,x<bs.length->bs2[x]?=bs[x]?)/\Row1 bs.length bs2.length bs2 z (s.l.map cells) v:=by
 have hw:∀ e∈s.l.map cells,e.length=z:=λe he=>by obtain ⟨y,_,rfl⟩:=b9.1 he; exact hz y
 have key:=jT (E:=E) (T:=T) (val:=val) ht hv hz0 hb (nl:=s.nl) hw (by simpa using hs.1) ⟨bs,bs.length⟩;have hd:s.d cells=.slice s.nl (s.l.map cells):=rfl;rw [hd,key];cases hnl:s.nl with
 | true =>
  have hl:=hs.2 hnl;refine ⟨.d (.slice true []),bs,by simp [cloneR],bp _,λ_ _=>rfl,hw,.inl ⟨by rw [hl]; rfl,rfl⟩⟩
 | false =>
  cases hc:s.l.map cells with
  | nil=>exact ⟨.row bs.length 0 0 (some 0) z,bs++[.cells []],by simp [cloneR],by simp,λx hx=>al hx,by simp,.inr ⟨bs.length,some 0,bp _,by simp,rfl,by simp,.inr ⟨rfl,rfl⟩⟩⟩
  | cons e es =>
   refine ⟨.row (bs.length+1) 0 (es.length+1) none z,bs++[.cells [],.cells (flat (e::es))],by simp [cloneR],by simp,λx hx=>al hx,by rw [← hc]; exact hw,.inr ⟨bs.length+1,none,by omega,by simp,rfl,?_,.inl ⟨rfl,by simp⟩⟩⟩;have:=iy (bs:=bs) (ys:=[.cells [],.cells (flat (e::es))]) (i:=1);rw [this]; rfl
theorem Row1.mono {L M M' z:Nat}{bs:List Blk}{es:List (List D)}{v:V}(h:Row1 L M bs z es v)(hm:M<=M'):Row1 L M' bs z es v:=by
 refine ⟨h.1,?_⟩;obtain h | ⟨b,cap,h1,h2,h3⟩:=h.2
 . exact .inl h
 . exact .inr ⟨b,cap,h1,by omega,h3⟩
theorem wu {css:List (List V)}(h:∀ cs∈css,cs.length=5):css.flatten.length=css.length * 5:=by
 induction css with
 | nil=>rfl
 | cons c css ih=>simp [h c (by simp),ih λx hx=>h x (by simp [hx])]; omega
theorem KA {a b:List (List V)}{c:List V}(ha:∀ cs∈a,cs.length=5)(hc:c.length=5):sub (a++c::b).flatten (a.length * 5) 5=some c:=by
 have hl:=wu ha;rw [List.flatten_append,List.flatten_cons,show a.length * 5=a.flatten.length+0 by omega,wM,vC (by omega)];exact eB hc
theorem Jy {a b:List (List V)}{c d:List V}(ha:∀ cs∈a,cs.length=5)(hc:c.length=5)(hd:d.length=5):put (a++c::b).flatten (a.length * 5) d=some (a++d::b).flatten:=by
 have hl:=wu ha;rw [List.flatten_append,List.flatten_cons,List.flatten_append,List.flatten_cons];simp only [put];rw [if_pos (by rw [am,am]; omega)]
 congr 1
 rw [← hl,List.take_left' rfl,show a.flatten.length+d.length=a.flatten.length+c.length by omega,← be,List.drop_left' rfl,List.drop_left' rfl,List.append_assoc]
end
section
variable {E:Calls'}{T:FuncId->Option QF}{val:FuncId->Bool}
theorem DD (l:List Pol):flat (l.map Pol.c)=(l.map λp=>p.c.map V.d).flatten:=by
 simp [flat,List.map_flatten,ck]
end
namespace Vr
def RowIs (bs:List Blk)(v:V)(z:Nat)(es:List (List V)):Prop :=
 (∀ e∈es,e.length=z)/\((∃ nl,v=.d (.slice nl [])/\es=[])\/∃ b o cap cs,v=.row b o es.length cap z/\ai bs b=some cs/\sub cs o (es.length * z)=some es.flatten)
def flat (es:List (List V)):List V:=es.flatten
theorem flat_cons (e:List V)(es:List (List V)):flat (e::es)=e++flat es:=by simp [flat]
@[simp] theorem pV:flat []=[]:=rfl
theorem jV {z:Nat}{es:List (List V)}(hz:∀ e∈es,e.length=z):(flat es).length=es.length * z:=by
 simp only [flat,mP hz]
theorem RowIs.len {bs:List Blk}{v:V}{z:Nat}{es:List (List V)}(h:RowIs bs v z es)(hp:Hp):uO false v hp=some (.d (.int .i64 es.length),hp):=by
 obtain ⟨nl,rfl,he0⟩ | ⟨b,o,cap,cs,rfl,_⟩:=h.2<;>simp [*]
theorem RowIs.ok {bs:List Blk}{v:V}{z:Nat}{es:List (List V)}(h:RowIs bs v z es):nu v=some v:=by
 obtain ⟨nl,rfl,he0⟩ | ⟨b,o,cap,cs,rfl,_⟩:=h.2<;>simp
theorem RowIs.elem {bs:List Blk}{v:V}{z:Nat}{es:List (List V)}(h:RowIs bs v z es){i:Nat}(hi:i<es.length){l:Nat} :
 ∃ p,cZ none z v (.d (.int .i64 i)) ⟨bs,l⟩=some (p,⟨bs,l⟩)/\loadAt ⟨bs,l⟩ p z=some (es[i]):=by
 have hzi:=h.1 _ (bh hi);obtain ⟨nl,rfl,he0⟩ | ⟨b,o,cap,cs,rfl,h1,h2⟩:=h.2
 . subst he0; simp at hi
 . refine ⟨.ptr b (o+i * z),?_,?_⟩
   . simp only [cZ];rw [if_pos ⟨by omega,by omega,trivial⟩];simp
   . simp only [lL,get_eq,h1];rw [eT] at h2 ⊢;split at h2
     . rename_i hle;simp only [bd] at h2;have hiz:(i+1) * z<=es.length * z:=Nat.mul_le_mul_right z hi;rw [Nat.add_mul,Nat.one_mul] at hiz;rw [if_pos (by omega)]
       congr 1
       have hf:=kG (α:=V) (es:=es) (i:=i) (z:=z) h.1 hi;rw [← h2] at hf
       skip
       rw [← hf,List.drop_take,be,List.take_take,Nat.min_eq_left (by omega)]
     . cases h2
section
variable {E:Calls'}{T:FuncId->Option QF}{val:FuncId->Bool}
theorem RowIs.at {α:Type}{cells:α->List V}{bs:List Blk}{v:V}{z:Nat}{es:List α}(h:RowIs bs v z (es.map cells)){i:Nat}(hi:i<es.length){l:Nat} :
 ∃ p,cZ none z v (.d (.int .i64 i)) ⟨bs,l⟩=some (p,⟨bs,l⟩)/\loadAt ⟨bs,l⟩ p z=some (cells es[i]):=by
 have:=h.elem (i:=i) (by simpa using hi) (l:=l);simpa using this
structure Thin {α:Type} (cells:α->List V) (z:Nat) (es:List α) (bs0:List Blk) (b:Nat) (kept:List α) (bs:List Blk):Prop where
 len:bs0.length<=bs.length
 old:∀ x,x≠b->x<bs0.length->bs[x]?=bs0[x]?
 row:ai bs b=some (flat (kept.map cells)++(flat (es.map cells)).drop (kept.length * z))
section
variable {α:Type}{cells:α->List V}{z:Nat}(hz:∀ x,(cells x).length=z){es:List α}{bs0:List Blk}{b:Nat}
include hz
omit hz in
theorem Thin.lay {kept:List α}{bs:List Blk}(h:Thin cells z es bs0 b kept bs)(x:Blk):Thin cells z es bs0 b kept (bs++[x]):=by
 refine ⟨by simp; have:=h.len; omega,λy hy hlt=>?_,aj h.row⟩;rw [al (by have:=h.len; omega)];exact h.old y hy hlt
end
end
end Vr
namespace Vr
end Vr
namespace Vr
section
variable {E:Calls'}{T:FuncId->Option QF}{val:FuncId->Bool}
structure ArgIs (bs:List Blk) (a:V) (z:Nat) (nl:Bool) (es:List (List V)):Prop where
 nil:nl=true->a=.d (.slice true [])
 row:nl=false->∃ b cap rest,a=.row b 0 es.length cap z/\ai bs b=some (flat es++rest)
theorem ArgIs.lay {bs:List Blk}{a:V}{z:Nat}{nl:Bool}{es:List (List V)}(h:ArgIs bs a z nl es)(ys:List Blk):ArgIs (bs++ys) a z nl es:=⟨h.nil,λhn=>by
 obtain ⟨b,cap,rest,h1,h2⟩:=h.row hn;exact ⟨b,cap,rest,h1,aj h2⟩⟩
def cloneR (z:Nat)(nl:Bool)(es:List (List V))(bs:List Blk)(lo:Nat):V×Hp:=match nl,es with
 | true,_=>(.d (.slice true []),⟨bs,lo⟩)
 | false,[]=>(.row bs.length 0 0 (some 0) z,⟨bs++[.cells []],lo⟩)
 | false,e::es=>(.row (bs.length+1) 0 (es.length+1) none z,⟨bs++[.cells [],.cells (flat (e::es))],lo⟩)
theorem S_cloneA {z b:Nat}{zero:List V}{id:FuncId}{a:V}(ht:T id=some (cloneQ z b zero))(hv:val id=false)(hz0:0<z)(hb:b<=4096){nl:Bool}{es:List (List V)}(hz:∀ e∈es,e.length=z)(hlen:es.length<=big)(h:Hp)(ha:ArgIs h.bs a z nl es) :
 Sm E T val id [a] h=some ((cloneR z nl es h.bs h.low).1,⟨(cloneR z nl es h.bs h.low).2.bs,if nl then h.low else min h.low h.bs.length⟩):=by
 have hzz:z≠0:=by omega
 rw [aT ht hv];cases nl with
 | true =>
  obtain rfl:=ha.nil rfl;simp [cloneQ,aa,cloneR,V.under]
 | false =>
  obtain ⟨b0,cap,rest,rfl,h0⟩:=ha.row rfl;have hfl:=jV hz;have hr:roomy es.length b=true:=by
   simp only [roomy,ao,br];exact ⟨hlen,hb⟩
  have hrc:aO ⟨h.bs++[.cells []],h.bs.length⟩ (.row b0 0 es.length cap z) z=some (es.length,flat es):=by
   have hs:sub (flat es++rest) 0 (es.length * z)=some (flat es):=by rw [vC (by omega)]; exact eB hfl
   simp only [aO,if_true,get_eq,aj h0,hs,Option.map_some]
  cases es with
  | nil =>
   simp only [ch] at hrc hr ⊢;simp [cloneQ,aa,fw,hrc,aI,hzz,cloneR,V.under];try (intro hh; omega)
  | cons e es =>
   simp only [cg] at hrc hr ⊢;simp [cloneQ,aa,fw,hrc,aI,hzz,hr,cloneR,V.under];try (intro hh; omega)
end
end Vr
namespace Vr
section
variable {E:Calls'}{T:FuncId->Option QF}{val:FuncId->Bool}
theorem ArgIs.ok {bs:List Blk}{a:V}{z:Nat}{nl:Bool}{es:List (List V)}(h:ArgIs bs a z nl es):okV a=true/\nu a=some a:=by
 cases nl with
 | true=>rw [h.nil rfl]; exact ⟨rfl,rfl⟩
 | false=>obtain ⟨b,cap,_,h1,_⟩:=h.row rfl; rw [h1]; exact ⟨rfl,rfl⟩
end
end Vr
section
variable {E:Calls'}{T:FuncId->Option QF}{val:FuncId->Bool}
theorem Be {h:Hp}{k:Nat}{c:V}{d:D}(hd:dataV h k c=some d)(hn:∀ nl es,d≠.slice nl es):c=.d d:=by
 cases c with
 | d x=>rw [Cq] at hd; cases hd; rfl
 | row b o n cap z =>
  cases k with
  | zero=>simp [dataV] at hd
  | succ k =>
   obtain ⟨l,rfl⟩:=jF hd;exact absurd rfl (hn _ _)
 | _=>cases k<;>simp [dataV] at hd
theorem Bn {h:Hp}{r:V}{b:Bool}(hr:bZ h r=some (bl b)):r=bl b:=by
 cases r with
 | d x=>simpa using hr
 | row b' o n cap z =>
  exfalso;simp only [bZ] at hr;cases hd:dataV h 8 (.row b' o n cap z) with
  | none=>rw [hd] at hr; cases hr
  | some d =>
   rw [hd] at hr;obtain ⟨l,rfl⟩:=jF hd;cases hr
 | ptr b' o=>simp [bZ,dataV] at hr
 | eptr cs o=>simp [bZ,dataV] at hr
 | undef=>simp [bZ] at hr
 | fn f cs=>cases cs<;>simp [bZ] at hr
 | mfn f cs=>simp [bZ,dataV] at hr
 | agg cs =>
  simp only [bZ] at hr;split at hr<;>cases hr
 | tup vs=>simp [bZ,dataV] at hr
theorem sj {h:Hp}:∀ {cs:List V} {p:List D},bP h cs=some p->(∀ d∈p,∀ nl es,d≠.slice nl es)->cs=p.map .d
 | [],p,hc,_=>by simp at hc; subst hc; rfl
 | c::cs,p,hc,hp=>by
  simp only [bP,List.mapM_cons] at hc;cases h1:dataV h 8 c with
  | none=>rw [h1] at hc; cases hc
  | some d =>
   rw [h1] at hc;cases h2:cs.mapM (dataV h 8) with
   | none=>rw [h2] at hc; cases hc
   | some ds =>
    rw [h2] at hc;simp at hc;subst hc;rw [Be h1 (hp d (by simp)),sj (p:=ds) h2 λd hd=>hp d (by simp [hd])];rfl
theorem ww {h:Hp}{r:V}{p:List D}(hp:∀ d∈p,∀ nl es,d≠.slice nl es)(hr:bZ h r=some (ag p)):r=ag p:=by
 cases r with
 | d x=>simp at hr; cases hr
 | row b' o n cap z =>
  exfalso;simp only [bZ] at hr;cases hd:dataV h 8 (.row b' o n cap z) with
  | none=>rw [hd] at hr; cases hr
  | some d=>rw [hd] at hr; cases hr
 | ptr b' o=>simp [bZ,dataV] at hr
 | eptr cs o=>simp [bZ,dataV] at hr
 | undef=>simp [bZ] at hr; cases hr
 | fn f cs=>cases cs with
  | nil=>simp [bZ] at hr; cases hr
  | cons _ _=>simp [bZ] at hr
 | mfn f cs=>simp [bZ,dataV] at hr
 | agg cs =>
  rw [F9] at hr;cases hc:bP h cs with
  | none=>rw [hc] at hr; cases hr
  | some l =>
   rw [hc] at hr;have:l=p:=by
    have h2:ag l=ag p:=by simpa using hr
    have h3:l.map V.d=p.map V.d:=by
     have:=congrArg (λv=>match v with | V.agg cs=>cs | _=>[]) h2;exact this
    exact (List.map_inj_right (λa b h=>by cases h; rfl)).1 h3
   subst this;rw [sj hc hp];rfl
 | tup vs=>simp [bZ,dataV] at hr
theorem Eh {h:Hp}{p:List D}{b:Bool}(hp:∀ d∈p,∀ nl es,d≠.slice nl es):ownR h (.tup [ag p,bl b])=true:=by
 have h1:∀ d∈p,mq h 8 (.d d)=true:=λd hd=>by
  cases d with
  | slice nl es=>exact absurd rfl (hp _ hd nl es)
  | _=>rfl
 simp only [ownR,List.all_cons,List.all_nil,Bool.and_true,ao];refine ⟨?_,rfl⟩;show (p.map V.d).all (mq h 8)=true;rw [cj];intro v hv;obtain ⟨d,hd,rfl⟩:=b9.1 hv;exact h1 d hd
theorem AB {f:FuncId}{q:QF}(ht:T f=some q)(hv:val f=true){l p:List D}{x:D}{b:Bool}(hp:∀ d∈p,∀ nl es,d≠.slice nl es)(h0:∀ h,Sm E T val f [ag l,.d x] h=some (.tup [ag p,bl b],h)){a:V}{h:Hp}(ha:frz h a=some (ag l)):Sm E T val f [a,.d x] h=some (.tup [ag p,bl b],h):=by
 have h1:=h0 h;rw [aQ ht hv] at h1 ⊢;simp only [List.mapM_cons,List.mapM_nil,oq,xx,ha,Option.pure_def,Option.bind_eq_bind,Option.bind_some,nD,vU] at h1 ⊢;cases hB:Bd E T val q [ag l,.d x] ⟨[],0⟩ with
 | none=>rw [hB] at h1; cases h1
 | some o =>
  obtain ⟨r,h'⟩:=o;rw [hB] at h1;simp only [yH] at h1 ⊢;cases hr:frz h' r with
  | none=>rw [hr] at h1; cases h1
  | some r' =>
   rw [hr] at h1;have e1:r'=.tup [ag p,bl b]:=by
    simp at h1; exact h1
   subst e1;have hrr:r=.tup [ag p,bl b]:=by
    cases r with
    | tup vs =>
     rw [Ja] at hr;cases hm:vs.mapM (bZ h') with
     | none=>rw [hm] at hr; cases hr
     | some ws =>
      rw [hm] at hr;have hw:ws=[ag p,bl b]:=by simpa using hr
      subst hw
      match vs,hm with
      | [],hm=>simp at hm
      | [v1],hm =>
       simp only [List.mapM_cons,List.mapM_nil,Option.pure_def,Option.bind_eq_bind] at hm;cases q1:bZ h' v1<;>rw [q1] at hm<;>simp at hm
      | v1::v2::v3::t,hm =>
       simp only [List.mapM_cons,Option.pure_def,Option.bind_eq_bind] at hm;cases q1:bZ h' v1<;>cases q2:bZ h' v2<;>cases q3:bZ h' v3<;>cases q4:t.mapM (bZ h')<;>rw [q1] at hm<;>simp [q2,q3,q4] at hm
      | [v1,v2],hm =>
       simp only [List.mapM_cons,List.mapM_nil,Option.pure_def,Option.bind_eq_bind] at hm;cases q1:bZ h' v1 with
       | none=>rw [q1] at hm; simp at hm
       | some w1 =>
        cases q2:bZ h' v2 with
        | none=>rw [q1,q2] at hm; simp at hm
        | some w2 =>
         rw [q1,q2] at hm;simp at hm;obtain ⟨rfl,rfl⟩:=hm;rw [ww hp q1,Bn q2]
    | d y=>simp at hr
    | row b' o n cap z =>
     exfalso;simp only [frz,bZ] at hr;cases hd:dataV h' 8 (.row b' o n cap z) with
     | none=>rw [hd] at hr; cases hr
     | some d=>rw [hd] at hr; cases hr
    | ptr b' o=>simp [frz,bZ,dataV] at hr
    | eptr cs o=>simp [frz,bZ,dataV] at hr
    | undef=>simp [frz,bZ] at hr
    | fn f cs=>cases cs<;>simp [frz,bZ] at hr
    | mfn f cs=>simp [frz,bZ,dataV] at hr
    | agg cs =>
     exfalso;simp only [frz,bZ] at hr;split at hr<;>cases hr
   subst hrr;simp [Eh hp]
end
section
variable {E:Calls'}{T:FuncId->Option QF}{val:FuncId->Bool}
end
set_option maxHeartbeats 4000000
section
variable {E:Calls'}{T:FuncId->Option QF}{val:FuncId->Bool}
end
set_option maxHeartbeats 4000000
section
variable {E:Calls'}{T:FuncId->Option QF}{val:FuncId->Bool}
end
set_option maxHeartbeats 4000000
section
variable {E:Calls'}{T:FuncId->Option QF}{val:FuncId->Bool}
end
section
variable {E:Calls'}{T:FuncId->Option QF}{val:FuncId->Bool}
end
section
variable {E:Calls'}{T:FuncId->Option QF}{val:FuncId->Bool}
end
section
variable {E:Calls'}{T:FuncId->Option QF}{val:FuncId->Bool}
end
section
def RowG (K:Nat->Prop)(bs:List Blk)(z:Nat)(es:List (List V))(v:V):Prop:=(es=[]/\v=.d (.slice true []))\/∃ b cap rest,K b/\v=.row b 0 es.length cap z/\ai bs b=some (Vr.flat es++rest)
section
variable {K:Nat->Prop}{bs:List Blk}{z:Nat}{es:List (List V)}{v:V}
theorem RowG.on {K':Nat->Prop}{bs':List Blk}(h:RowG K bs z es v)(ho:∀ x,K x->K' x/\bs'[x]?=bs[x]?):RowG K' bs' z es v:=by
 obtain h | ⟨b,cap,rest,h1,h2,h3⟩:=h
 . exact .inl h
 . exact .inr ⟨b,cap,rest,(ho b h1).1,h2,aM (ho b h1).2 h3⟩
theorem RowG.okv (h:RowG K bs z es v):okV v=true/\nu v=some v/\v.cells=some [v]:=by
 obtain ⟨h1,rfl⟩ | ⟨b,cap,rest,h1,rfl,h3⟩:=h<;>exact ⟨rfl,rfl,rfl⟩
theorem RowG.ok2 (h:RowG K bs z es v):okV v=true/\nu v=some v:=⟨h.okv.1,h.okv.2.1⟩
end
def fD (bs bs':List Blk):Nat->Prop:=λx=>bs.length<=x/\x<bs'.length
section
variable {E:Calls'}
def Mq (p:Pod):List V:=p.c.map .d
def Ms (p:Svc):List V:=p.c.map .d
def Mt (p:Way):List V:=p.c.map .d
def IQ (x:Pol×V):List V:=pq x.1 x.2
variable {K:Nat->Prop}{bs:List Blk}{v:V}
end
end
section
def gu:V->Bool
 | .d _=>true
 | _=>false
def pM (x:Pol×V):Pol:={ x.1 with rules:=⟨gu x.2,x.1.rules.l.map Rule.own⟩ }
def tY (d:Cfg)(pl:List (Pol×V))(v4 v5 v6 v7:V):Cfg:={ d with pods:=⟨gu v4,d.pods.l⟩,services:=⟨gu v5,d.services.l⟩,bound:=⟨gu v6,d.bound.l⟩,policies:=⟨gu v7,pl.map pM⟩ }
structure OwnS (L0:Nat) (tag:Nat->Nat) (bs:List Blk) (d:Cfg) (pl:List (Pol×V)) (v4 v5 v6 v7:V):Prop where
 r4:RowG (Tg L0 bs.length tag 4) bs 7 (d.pods.l.map Mq) v4
 r5:RowG (Tg L0 bs.length tag 5) bs 5 (d.services.l.map Ms) v5
 r6:RowG (Tg L0 bs.length tag 6) bs 2 (d.bound.l.map Mt) v6
 r7:RowG (Tg L0 bs.length tag 7) bs 5 (pl.map IQ) v7
 r8:∀ x∈pl,RowG (Tg L0 bs.length tag 8) bs 3 (x.1.rules.l.map λr=>r.own.c.map V.d) x.2
 pol:d.policies.l=pl.map λx=>x.1.own
theorem RowG.step {L:Nat}{tag tag':Nat->Nat}{bs bs':List Blk}{i z:Nat}{es:List (List V)}{v:V}(h:RowG (Tg L bs.length tag i) bs z es v)(hi:i≠0)(hl:bs.length<=bs'.length)(ho:∀ x,L<=x->x<bs.length->tag x≠0->bs'[x]?=bs[x]?)(ht:∀ x,x<bs.length->tag' x=tag x):RowG (Tg L bs'.length tag' i) bs' z es v :=
 h.on λx hx=>⟨⟨hx.1,cd hx.2.1 hl,(ht x hx.2.1).trans hx.2.2⟩,ho x hx.1 hx.2.1 (by rw [hx.2.2]; exact hi)⟩
theorem OwnS.next {L0:Nat}{tag tag':Nat->Nat}{bs bs':List Blk}{d:Cfg}{pl:List (Pol×V)}{v4 v5 v6 v7:V}(S:OwnS L0 tag bs d pl v4 v5 v6 v7)(hl:bs.length<=bs'.length)(ho:∀ x,L0<=x->x<bs.length->tag x≠0->bs'[x]?=bs[x]?)(ht:∀ x,x<bs.length->tag' x=tag x):OwnS L0 tag' bs' d pl v4 v5 v6 v7 :=
 ⟨S.r4.step (by decide) hl ho ht,S.r5.step (by decide) hl ho ht,S.r6.step (by decide) hl ho ht,S.r7.step (by decide) hl ho ht,λx hx=>(S.r8 x hx).step (by decide) hl ho ht,S.pol⟩
theorem Hng.rowR {K:Nat->Prop}{bs:List Blk}{k b n z:Nat}{cap:Option Nat}{cs rest:List V}{es:List (List D)}(hKb:K b)(hb:ai bs b=some (cs++rest))(hcs:Hngs false K bs k cs es.flatten)(hz:∀ e∈es,e.length=z)(hn:n=es.length) :
 Hng false K bs (.row b 0 n cap z) (.slice false es) (k+1):=by
 intro bs' lo h j hj;cases j with
 | zero=>omega
 | succ j =>
  have hg:Hp.get ⟨bs',lo⟩ b=some (cs++rest):=by
   rw [get_eq]; exact aM (h b hKb) hb
  obtain ⟨m1,m2⟩:=Hngs.mapM (lo:=lo) h (show k<=j by omega) hcs;have hlen:cs.length=n * z:=by
   rw [hcs.len,hn,List.length_flatten];have:es.map List.length=List.replicate es.length z:=by
    rw [List.eq_replicate_iff];exact ⟨by simp,λx hx=>by obtain ⟨e,he,rfl⟩:=b9.1 hx; exact hz e he⟩
   rw [this]; simp
  have hs:sub (cs++rest) 0 (n * z)=some cs:=by
   rw [eT,if_pos (by rw [am,hlen]; omega),List.drop_zero,← hlen,List.take_left]
  refine ⟨?_,λhw=>by cases hw⟩;simp only [dataV,hg,hs,m1];rw [hn,lG es hz]
theorem RowG.nil {K:Nat->Prop}{bs:List Blk}{z:Nat}{es:List (List V)}{v:V}(h:RowG K bs z es v)(hv:gu v=true):es=[]:=by
 obtain ⟨h1,rfl⟩ | ⟨b,cap,rest,h1,rfl,h3⟩:=h
 . exact h1
 . cases hv
theorem RowG.nilT {K:Nat->Prop}{bs:List Blk}{z:Nat}{α:Type}{f:α->List V}{l:List α}{v:V}(h:RowG K bs z (l.map f) v)(hv:gu v=true):l=[]:=by simpa using h.nil hv
theorem RowG.hng {K:Nat->Prop}{bs:List Blk}{z:Nat}{es:List (List V)}{v:V}(h:RowG K bs z es v){ds:List (List D)}{k:Nat}(hcs:Hngs false K bs k es.flatten ds.flatten)(hz:∀ e∈ds,e.length=z)(hl:ds.length=es.length):Hng false K bs v (.slice (gu v) ds) (k+1):=by
 obtain ⟨h1,rfl⟩ | ⟨b,cap,rest,h1,rfl,h3⟩:=h
 . have:ds=[]:=List.length_eq_zero_iff.1 (by rw [hl,h1]; rfl);subst this;exact Hng.data
 . exact Hng.rowR h1 h3 hcs hz hl.symm
theorem MP {α:Type}(f:α->List D)(l:List α):(l.map λx=>(f x).map V.d).flatten=(l.map f).flatten.map V.d:=by
 simp [List.map_flatten,ck]
theorem RowG.hngD {K:Nat->Prop}{bs:List Blk}{z:Nat}{α:Type}{f:α->List D}{l:List α}{v:V}(h:RowG K bs z (l.map λx=>(f x).map V.d) v)(hz:∀ x,(f x).length=z):Hng false K bs v (.slice (gu v) (l.map f)) 1 :=
 h.hng (k:=0) (by rw [MP]; exact Hngs.data) (λe he=>by obtain ⟨x,_,rfl⟩:=b9.1 he; exact hz x) (by simp)
def TgA (L M:Nat)(tag:Nat->Nat):Nat->Prop:=λx=>L<=x/\x<M/\tag x≠0
theorem RowG.all {L:Nat}{tag:Nat->Nat}{bs:List Blk}{i z:Nat}{es:List (List V)}{v:V}(h:RowG (Tg L bs.length tag i) bs z es v)(hi:i≠0):RowG (TgA L bs.length tag) bs z es v :=
 h.on λx hx=>⟨⟨hx.1,hx.2.1,by rw [hx.2.2]; exact hi⟩,rfl⟩
section
variable {L0:Nat}{tag:Nat->Nat}{bs:List Blk}{d:Cfg}{pl:List (Pol×V)}{v4 v5 v6 v7:V}(S:OwnS L0 tag bs d pl v4 v5 v6 v7)
include S
theorem OwnS.hpol:∀ l:List (Pol×V),(∀ x∈l,x∈pl)->Hngs false (TgA L0 bs.length tag) bs 1 (l.map IQ).flatten (l.map λx=>(pM x).c).flatten
 | [],_=>trivial
 | x::l,h=>by
  have ih:=OwnS.hpol l λy hy=>h y (List.mem_cons_of_mem _ hy);have hr:=((S.r8 x (h x (by simp))).all (by decide)).hngD (f:=λr:Rule=>r.own.c) (λ_=>rfl);have he:(pM x).c=[u64 x.1.id,.str x.1.ns,u64 x.1.service,i64 x.1.deny,.slice (gu x.2) (x.1.rules.l.map λr=>r.own.c)]:=by
   simp [pM,Pol.c,Sl.d,ck]
  rw [cn,cn,List.flatten_cons,List.flatten_cons,he];exact Hngs.app ⟨Hng.data,Hng.data,Hng.data,Hng.data,hr,trivial⟩ ih
theorem OwnS.fz (bs2:List Blk)(lo2:Nat)(h:∀ x,L0<=x->x<bs.length->tag x≠0->bs2[x]?=bs[x]?):bP ⟨bs2,lo2⟩ (cq d v4 v5 v6 v7)=some (tY d pl v4 v5 v6 v7).c:=by
 have hK:∀ x,TgA L0 bs.length tag x->bs2[x]?=bs[x]?:=λx hx=>h x hx.1 hx.2.1 hx.2.2;have h4:=(((S.r4.all (by decide)).hngD (f:=Pod.c) (λ_=>rfl)) bs2 lo2 hK 8 (by decide)).1;have h5:=(((S.r5.all (by decide)).hngD (f:=Svc.c) (λ_=>rfl)) bs2 lo2 hK 8 (by decide)).1;have h6:=(((S.r6.all (by decide)).hngD (f:=Way.c) (λ_=>rfl)) bs2 lo2 hK 8 (by decide)).1;have h7:=(((S.r7.all (by decide)).hng (k:=1) (S.hpol pl λ_ h=>h) (λe he=>by obtain ⟨x,_,rfl⟩:=b9.1 he; rfl) (by simp)) bs2 lo2 hK 8 (by decide)).1;rw [wh h4 h5 h6 h7];simp [tY,Cfg.c,Sl.d,ck]
theorem OwnS.frz (bs2:List Blk)(lo2:Nat)(h:∀ x,L0<=x->x<bs.length->tag x≠0->bs2[x]?=bs[x]?):frz ⟨bs2,lo2⟩ (.agg (cq d v4 v5 v6 v7))=some (ag (tY d pl v4 v5 v6 v7).c):=by
 rw [jW,S.fz bs2 lo2 h]
theorem OwnS.nf:(tY d pl v4 v5 v6 v7).nf=d.nf:=by
 refine ME rfl rfl rfl rfl rfl rfl rfl ?_;simp [tY,S.pol,pM,Pol.nf,Pol.own,Sl.nf,ck]
theorem OwnS.ok (hd:d.ok):(tY d pl v4 v5 v6 v7).ok:=by
 refine ⟨⟨hd.1.1,S.r4.nilT⟩,⟨hd.2.1.1,S.r5.nilT⟩,⟨hd.2.2.1.1,S.r6.nilT⟩,⟨?_,λh=>?_⟩,λp hp=>?_⟩
 . have:=hd.2.2.2.1.1;rw [S.pol] at this;simpa [tY] using this
 . have:=S.r7.nilT h;simp [tY,this]
 . obtain ⟨x,hx,rfl⟩:=b9.1 hp;have hm:x.1.own∈d.policies.l:=by rw [S.pol]; exact List.mem_map_of_mem hx
   have hf:=hd.2.2.2.2 _ hm;exact ⟨⟨hf.1.1,λh=>by simp [pM,(S.r8 x hx).nilT h]⟩,hf.2⟩
theorem OwnS.wf {B:Nat}(hd:d.wf B):(tY d pl v4 v5 v6 v7).wf B:=by
 obtain ⟨h1,h2,h3,h4,h5,h6,h7,h8⟩:=hd;refine ⟨h1,h2,h3,h4,⟨⟨h5.1.1,S.r4.nilT⟩,h5.2⟩,⟨⟨h6.1.1,S.r5.nilT⟩,h6.2⟩,⟨⟨h7.1.1,S.r6.nilT⟩,h7.2⟩,⟨⟨?_,λh=>?_⟩,λp hp=>?_⟩⟩
 . have:=h8.1.1;rw [S.pol] at this;simpa [tY] using this
 . have:=S.r7.nilT h;simp [tY,this]
 . obtain ⟨x,hx,rfl⟩:=b9.1 hp;have hm:x.1.own∈d.policies.l:=by rw [S.pol]; exact List.mem_map_of_mem hx
   obtain ⟨f1,f2,f3,f4,f5⟩:=h8.2 _ hm;exact ⟨f1,f2,f3,f4,⟨f5.1.1,λh=>by simp [pM,(S.r8 x hx).nilT h]⟩,f5.2⟩
end
def MX (n:Nat)(tag:Nat->Nat)(i:Nat):Nat->Nat:=λx=>if x<n then tag x else i
theorem RowG.fresh {L0 n b i z:Nat}{tag:Nat->Nat}{bs0 b2:List Blk}{X:List V}{es:List (List V)}{r:V}(h:RowG (fD bs0 b2) b2 z es r)(hL:L0<=n)(hn:n<=bs0.length)(hb:b<n):RowG (Tg L0 (b2.set b (.cells X)).length (MX n tag i) i) (b2.set b (.cells X)) z es r :=
 h.on λx hx=>⟨⟨by have:=hx.1; omega,by simpa using hx.2,if_neg (by have:=hx.1; omega)⟩,ac (by have:=hx.1; omega)⟩
end
section
section
variable {E:Calls'}{T:FuncId->Option QF}{val:FuncId->Bool}
theorem wo {α:Type}(cells:α->List D)(l:List α):flat (l.map cells)=Vr.flat (l.map λx=>(cells x).map V.d):=by
 induction l with
 | nil=>rfl
 | cons x l ih =>
  rw [cn,flat_cons,ih];simp [Vr.flat]
theorem RowG.ret {bs m:List Blk}{z lo2:Nat}{es:List (List V)}{v:V}(h:RowG (fD bs m) m z es v)(hl:bs.length<=m.length)(ho:∀ x,x<bs.length->m[x]?=bs[x]?) :
 ∃ r bs',∃ F:Nat->Nat,(∀ lo,dY ⟨bs,lo⟩ (some (v,⟨m,lo2⟩))=some (r,⟨bs',F lo⟩))/\bs.length<=bs'.length/\(∀ x,x<bs.length->bs'[x]?=bs[x]?)/\RowG (fD bs bs') bs' z es r:=by
 by_cases hc:bs.length<=lo2/\v.under bs.length=true
 . refine ⟨v,bs,id,λlo=>by rw [eu]; exact if_pos hc,bp _,λ_ _=>rfl,?_⟩;obtain h | ⟨B,cap,rest,h1,rfl,h3⟩:=h
   . exact .inl h
   . have:=hc.2;have:=h1.1;simp [V.under] at *;omega
 . exact ⟨v,m,λlo=>min lo lo2,λlo=>by rw [eu]; exact if_neg hc,hl,ho,h⟩
end
end
section
section
variable {E:Calls'}{T:FuncId->Option QF}{val:FuncId->Bool}
theorem DZ {keep:List Nat}{body:QC}(n:Nat)(env:Nat->EA)(P:Nat->List Blk->Nat->Prop)(X:Ex×EA)
 (hr:∀ i,i<n->∀ bs lo,P i bs lo->∃ bs' lo',P (i+1) bs' lo'/\∀ W:EA->Hp->fu,dJ keep W (Cd E T val body (bN keep (env i)) ⟨bs,lo⟩)=W (env (i+1)) ⟨bs',lo'⟩)
 (he:∀ bs lo,P n bs lo->∀ W:EA->Hp->fu,dJ keep W (Cd E T val body (bN keep (env n)) ⟨bs,lo⟩)=some (X.1,X.2,⟨bs,lo⟩)) (bs:List Blk) (lo:Nat) (h0:P 0 bs lo) :
 ∃ bs' lo',Cd E T val (.loop keep body) (env 0) ⟨bs,lo⟩=some (X.1,X.2,⟨bs',lo'⟩)/\P n bs' lo':=by
 have:∀ (m i:Nat) (bs:List Blk) (lo:Nat),i+m=n->P i bs lo->∃ bs' lo',Cd E T val (.loop keep body) (env i) ⟨bs,lo⟩=some (X.1,X.2,⟨bs',lo'⟩)/\P n bs' lo':=by
  intro m;have key:=aF (E:=E) (T:=T) (val:=val) keep body;generalize Cd E T val (.loop keep body)=W at key ⊢
  induction m with
  | zero =>
   intro i bs lo hi hP;rw [show i=n by omega] at hP ⊢;exact ⟨bs,lo,by rw [key,he bs lo hP W],hP⟩
  | succ m ih =>
   intro i bs lo hi hP;obtain ⟨bs',lo',h1,h2⟩:=hr i (by omega) bs lo hP;obtain ⟨bs2,lo2,h3,h4⟩:=ih (i+1) bs' lo' (by omega) h1;exact ⟨bs2,lo2,by rw [key,h2 W,h3],h4⟩
 exact this n 0 bs lo (by omega) h0
end
end
section
variable {E:Calls'}
end
section
variable {E:Calls'}
def Udc (n:Nat)(cs:List V):Prop:=∀ i,i<n->∃ x,cs[i]?=some (.d (u32 x))
theorem Udc.put {n o:Nat}{cs cs':List V}{x:Int}(h:Udc n cs)(hc:∀ j,cs'[j]?=if j=o then some (.d (u32 x)) else cs[j]?):Udc n cs':=λi hi=>by
 rw [hc];by_cases ho:i=o
 . rw [if_pos ho]; exact ⟨_,rfl⟩
 . rw [if_neg ho]; exact h i hi
def URow (K:Nat->Prop)(bs:List Blk)(v:V):Prop:=(∃ nl,v=.d (.slice nl []))\/∃ b n cap cs,K b/\v=.row b 0 n cap 1/\n<2 ^ 62/\ai bs b=some cs/\Udc n cs
end
section
variable {E:Calls'}
theorem URow.on {K:Nat->Prop}{bs bs':List Blk}{v:V}(h:URow K bs v)(k:∀ x,K x->bs'[x]?=bs[x]?):URow K bs' v:=by
 obtain h | ⟨b,n,cap,cs,h1,h2,h3,h4,h5⟩:=h
 . exact .inl h
 . exact .inr ⟨b,n,cap,cs,h1,h2,h3,aM (k b h1) h4,h5⟩
end
section
theorem DC {α:Type}(f:α->List D)(l:List α):flat (l.map f)=Vr.flat (l.map λx=>(f x).map V.d):=by
 simp [flat,Vr.flat,List.map_flatten,ck]
theorem Row1.g {α:Type}{f:α->List D}{l:List α}{L M L0 i z:Nat}{tag:Nat->Nat}{bs:List Blk}{v:V}(h:Row1 L M bs z (l.map f) v)(hL:L0<=L)(hM:M<=bs.length)(ht:∀ x,L<=x->x<M->tag x=i):RowG (Tg L0 bs.length tag i) bs z (l.map λx=>(f x).map V.d) v:=by
 obtain ⟨h1,h2⟩ | ⟨b,cap,h1,h2,h3,h4,_⟩:=h.2
 . exact .inl ⟨by simpa using h1,h2⟩
 . exact .inr ⟨b,cap,[],⟨by omega,by omega,ht b h1 h2⟩,by simpa using h3,by rw [h4,DC,List.append_nil]⟩
theorem xu {z:Nat}:∀ {es:List (List V)} {rest:List V},(∀ e∈es,e.length=z)->∀ {i j:Nat} {e:List V},es[i]?=some e->j<z->(Vr.flat es++rest)[i * z+j]?=e[j]?
 | [],_,_,_,_,_,h,_=>by simp at h
 | a::es,rest,hz,0,j,e,h,hj=>by
  have:a=e:=by simpa using h
  subst this;have ha:=hz a (by simp);rw [Vr.flat_cons,List.append_assoc,al (by omega)]
  congr 1
  omega
 | a::es,rest,hz,i+1,j,e,h,hj=>by
  have ha:=hz a (by simp);have ih:=xu (es:=es) (rest:=rest) (λx hx=>hz x (by simp [hx])) (i:=i) (j:=j) (e:=e) (by simpa using h) hj;rw [Vr.flat_cons,List.append_assoc,bk (by rw [ha,Nat.add_mul]; omega),← ih]
  congr 1
  rw [ha,Nat.add_mul];omega
theorem RowG.idRow {α:Type}{f:α->List V}{l:List α}{K:Nat->Prop}{bs:List Blk}{z:Nat}{v:V}(h:RowG K bs z (l.map f) v)(hz:∀ x,(f x).length=z)(hz0:0<z)(hk:∀ x,∃ n,(f x)[0]?=some (.d (u64 n)))(hl:l.length<2 ^ 62):IdRow K bs z v:=by
 obtain ⟨h1,rfl⟩ | ⟨b,cap,rest,h1,rfl,h3⟩:=h
 . exact .inl ⟨true,rfl⟩
 . refine .inr ⟨b,l.length,cap,_,h1,by simp,hl,h3,λi hi=>?_⟩;obtain ⟨n,hn⟩:=hk l[i];refine ⟨n,?_⟩;have:=xu (rest:=rest) (es:=l.map f) (z:=z) (by simp; intro a _; exact hz a) (i:=i) (j:=0) (e:=f l[i]) (by simp [hi]) hz0;rw [← hn,← this];simp
theorem OwnS.none {L0:Nat}{tag:Nat->Nat}{bs:List Blk}{d:Cfg}{pl:List (Pol×V)}{v4 v5 v6 v7:V}(S:OwnS L0 tag bs d pl v4 v5 v6 v7){n:Nat}(hn:n<=L0)(h4:v4.under n=true)(h5:v5.under n=true)(h6:v6.under n=true)(h7:v7.under n=true)(L1:Nat)(tag1:Nat->Nat)(bs1:List Blk):OwnS L1 tag1 bs1 d pl v4 v5 v6 v7:=by
 have row:∀ {i z:Nat} {es:List (List V)} {v:V},RowG (Tg L0 bs.length tag i) bs z es v->v.under n=true->es=[]/\v=.d (.slice true []):=λh hu=>by
  obtain h | ⟨b,cap,rest,h1,rfl,h3⟩:=h
  . exact h
  . have:=h1.1;simp [V.under] at hu;omega
 have hpl:pl=[]:=by simpa using (row S.r7 h7).1
 exact ⟨.inl (row S.r4 h4),.inl (row S.r5 h5),.inl (row S.r6 h6),.inl (row S.r7 h7),by rw [hpl]; simp,S.pol⟩
theorem cs0 {c:Cfg}{a b d e:V}:sub (cq c a b d e) 0 1=some [.d (u64 c.epoch)]:=(rfl)
end
section
def cU (a:Int):List V:=[.d (u32 a)]
structure ViewS (L0:Nat) (tag:Nat->Nat) (bs:List Blk) (cov:List Int) (pods:List Pod) (svcs:List Svc) (ways:List Way) (pl:List (Pol×V)) (w1 w2 w3 w4 w5:V):Prop where
 r1:RowG (Tg L0 bs.length tag 3) bs 1 (cov.map cU) w1
 r2:RowG (Tg L0 bs.length tag 4) bs 7 (pods.map Mq) w2
 r3:RowG (Tg L0 bs.length tag 5) bs 5 (svcs.map Ms) w3
 r4:RowG (Tg L0 bs.length tag 6) bs 2 (ways.map Mt) w4
 r5:RowG (Tg L0 bs.length tag 7) bs 5 (pl.map IQ) w5
 r6:∀ x∈pl,RowG (Tg L0 bs.length tag 8) bs 3 (x.1.rules.l.map λr=>r.own.c.map V.d) x.2
theorem ViewS.none {L0:Nat}{tag:Nat->Nat}{bs:List Blk}{cov:List Int}{pods:List Pod}{svcs:List Svc}{ways:List Way}{pl:List (Pol×V)}{w1 w2 w3 w4 w5:V}(S:ViewS L0 tag bs cov pods svcs ways pl w1 w2 w3 w4 w5){n:Nat}(hn:n<=L0)(k1:w1.under n=true)(k2:w2.under n=true)(k3:w3.under n=true)(k4:w4.under n=true)(k5:w5.under n=true)(L1:Nat)(tag1:Nat->Nat)(bs1:List Blk):ViewS L1 tag1 bs1 cov pods svcs ways pl w1 w2 w3 w4 w5:=by
 have row:∀ {i z:Nat} {es:List (List V)} {v:V},RowG (Tg L0 bs.length tag i) bs z es v->v.under n=true->es=[]/\v=.d (.slice true []):=λh hu=>by
  obtain h | ⟨b,cap,rest,h1,rfl,h3⟩:=h
  . exact h
  . have:=h1.1;simp [V.under] at hu;omega
 have hpl:pl=[]:=by simpa using (row S.r5 k5).1
 exact ⟨.inl (row S.r1 k1),.inl (row S.r2 k2),.inl (row S.r3 k3),.inl (row S.r4 k4),.inl (row S.r5 k5),by rw [hpl]; simp⟩
theorem RowG.uRow {l:List Int}{K:Nat->Prop}{bs:List Blk}{v:V}(h:RowG K bs 1 (l.map cU) v)(hl:l.length<2 ^ 62):URow K bs v:=by
 obtain ⟨h1,rfl⟩ | ⟨b,cap,rest,h1,rfl,h3⟩:=h
 . exact .inl ⟨true,rfl⟩
 . refine .inr ⟨b,l.length,cap,_,h1,by simp,hl,h3,λi hi=>⟨l[i],?_⟩⟩;have:=xu (rest:=rest) (es:=l.map cU) (z:=1) (by simp [cU]) (i:=i) (j:=0) (e:=cU l[i]) (by simp [hi]) (by decide);simpa [cU] using this
def VwV (e:Int)(cov:List Int)(pods:List Pod)(svcs:List Svc)(ways:List Way)(pl:List (Pol×V))(w1 w2 w3 w4 w5:V):Vw:=⟨e,⟨gu w1,cov⟩,⟨gu w2,pods⟩,⟨gu w3,svcs⟩,⟨gu w4,ways⟩,⟨gu w5,pl.map pM⟩⟩
section
variable {L0:Nat}{tag:Nat->Nat}{bs:List Blk}{cov:List Int}{pods:List Pod}{svcs:List Svc}{ways:List Way}{pl:List (Pol×V)}{w1 w2 w3 w4 w5:V}(S:ViewS L0 tag bs cov pods svcs ways pl w1 w2 w3 w4 w5)
include S
theorem ViewS.hpol:∀ l:List (Pol×V),(∀ x∈l,x∈pl)->Hngs false (TgA L0 bs.length tag) bs 1 (l.map IQ).flatten (l.map λx=>(pM x).c).flatten
 | [],_=>trivial
 | x::l,h=>by
  have ih:=ViewS.hpol l λy hy=>h y (List.mem_cons_of_mem _ hy);have hr:=((S.r6 x (h x (by simp))).all (by decide)).hngD (f:=λr:Rule=>r.own.c) (λ_=>rfl);have he:(pM x).c=[u64 x.1.id,.str x.1.ns,u64 x.1.service,i64 x.1.deny,.slice (gu x.2) (x.1.rules.l.map λr=>r.own.c)]:=by
   simp [pM,Pol.c,Sl.d,ck]
  rw [cn,cn,List.flatten_cons,List.flatten_cons,he];exact Hngs.app ⟨Hng.data,Hng.data,Hng.data,Hng.data,hr,trivial⟩ ih
theorem ViewS.fz (e:Int)(bs2:List Blk)(lo2:Nat)(h:∀ x,L0<=x->x<bs.length->bs2[x]?=bs[x]?):bP ⟨bs2,lo2⟩ (ah e w1 w2 w3 w4 w5)=some (VwV e cov pods svcs ways pl w1 w2 w3 w4 w5).c:=by
 have hK:∀ x,TgA L0 bs.length tag x->bs2[x]?=bs[x]?:=λx hx=>h x hx.1 hx.2.1;have h1:=(((S.r1.all (by decide)).hngD (f:=bz) (λ_=>rfl)) bs2 lo2 hK 8 (by decide)).1;have h2:=(((S.r2.all (by decide)).hngD (f:=Pod.c) (λ_=>rfl)) bs2 lo2 hK 8 (by decide)).1;have h3:=(((S.r3.all (by decide)).hngD (f:=Svc.c) (λ_=>rfl)) bs2 lo2 hK 8 (by decide)).1;have h4:=(((S.r4.all (by decide)).hngD (f:=Way.c) (λ_=>rfl)) bs2 lo2 hK 8 (by decide)).1;have h5:=(((S.r5.all (by decide)).hng (k:=1) (S.hpol pl λ_ h=>h) (λe he=>by obtain ⟨x,_,rfl⟩:=b9.1 he; rfl) (by simp)) bs2 lo2 hK 8 (by decide)).1;simp only [ah,bP,List.mapM_cons,List.mapM_nil,h1,h2,h3,h4,h5];simp [VwV,Vw.c,Sl.d,ck]
end
theorem RowG.short {α:Type}{f:α->List V}{K:Nat->Prop}{bs:List Blk}{z:Nat}{l:List α}{v:V}(h:RowG K bs z (l.map f) v):gu v=true->l=[]:=λhn=>by
 obtain ⟨h1,_⟩ | ⟨b,cap,rest,_,rfl,_⟩:=h
 . simpa using h1
 . cases hn
theorem ViewS.ok {L0:Nat}{tag:Nat->Nat}{bs:List Blk}{cov:List Int}{pods:List Pod}{svcs:List Svc}{ways:List Way}{pl:List (Pol×V)}{w1 w2 w3 w4 w5:V}(S:ViewS L0 tag bs cov pods svcs ways pl w1 w2 w3 w4 w5)(e:Int)(h1:cov.length<=big)(h2:pods.length<=big)(h3:svcs.length<=big)(h4:ways.length<=big)(h5:pl.length<=big)(h6:∀ x∈pl,x.1.own.ok):(VwV e cov pods svcs ways pl w1 w2 w3 w4 w5).ok:=by
 refine ⟨⟨h1,λh=>S.r1.short h⟩,⟨h2,λh=>S.r2.short h⟩,⟨h3,λh=>S.r3.short h⟩,⟨h4,λh=>S.r4.short h⟩,⟨by simpa [VwV,Vw.cfg] using h5,λh=>by have:=S.r5.short h; simp [VwV,Vw.cfg,this]⟩,λp hp=>?_⟩;obtain ⟨x,hx,rfl⟩:=b9.1 (show p∈pl.map pM from hp);have:=h6 x hx;refine ⟨⟨by simpa [pM,Pol.own] using this.1.1,λh=>?_⟩,λr hr=>this.2 r hr⟩;have:=(S.r6 x hx).short h;simp [pM,this]
theorem ViewS.next {L0:Nat}{tag:Nat->Nat}{bs bs2:List Blk}{cov:List Int}{pods:List Pod}{svcs:List Svc}{ways:List Way}{pl:List (Pol×V)}{w1 w2 w3 w4 w5:V}(S:ViewS L0 tag bs cov pods svcs ways pl w1 w2 w3 w4 w5)(hl:bs.length<=bs2.length)(ho:∀ x,x<bs.length->bs2[x]?=bs[x]?):ViewS L0 tag bs2 cov pods svcs ways pl w1 w2 w3 w4 w5:=by
 have ho':∀ x,L0<=x->x<bs.length->tag x≠0->bs2[x]?=bs[x]?:=λx _ h _=>ho x h;exact ⟨S.r1.step (by decide) hl ho' λ_ _=>rfl,S.r2.step (by decide) hl ho' λ_ _=>rfl,S.r3.step (by decide) hl ho' λ_ _=>rfl,S.r4.step (by decide) hl ho' λ_ _=>rfl,S.r5.step (by decide) hl ho' λ_ _=>rfl,λx hx=>(S.r6 x hx).step (by decide) hl ho' λ_ _=>rfl⟩
end
section
section
variable {E:Calls'}{T:FuncId->Option QF}{val:FuncId->Bool}
theorem Nl (e:Int)(v w a b c d:V):put (ah e v a b c d) 1 [w]=some (ah e w a b c d):=rfl
theorem Nn (e:Int)(v w a b c d:V):put (ah e a v b c d) 2 [w]=some (ah e a w b c d):=rfl
theorem Np (e:Int)(v w a b c d:V):put (ah e a b v c d) 3 [w]=some (ah e a b w c d):=rfl
theorem Nq (e:Int)(v w a b c d:V):put (ah e a b c v d) 4 [w]=some (ah e a b c w d):=rfl
theorem Nr (e:Int)(v w a b c d:V):put (ah e a b c d v) 5 [w]=some (ah e a b c d w):=rfl
theorem H9 (e:Int)(v a b c d:V):sub (ah e v a b c d) 0 6=some (ah e v a b c d):=rfl
theorem GV (e:Int)(v a b c d:V):put [V.d (.int .u64 0),.d (.slice true []),.d (.slice true []),.d (.slice true []),.d (.slice true []),.d (.slice true [])] 0 (ah e v a b c d)=some (ah e v a b c d):=rfl
theorem Gq (e:Int)(v a b c d:V):(ah e v a b c d).length=6:=rfl
end
end
