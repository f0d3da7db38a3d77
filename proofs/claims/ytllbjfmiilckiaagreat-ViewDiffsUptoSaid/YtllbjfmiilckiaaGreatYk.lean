/- config.Own, by reference: its clones. -/
import Derived.Test.YtllbjfmiilckiaaGreatXo
set_option maxRecDepth 100000
set_option linter.unusedVariables false
set_option linter.unusedSimpArgs false
namespace Go.Proofs.YtllbjfmiilckiaaGreat
open IntKind (wrap)
section
variable {E:Calls'}{T:FuncId->Option QF}{val:FuncId->Bool}
theorem iB {f:FuncId}{args:List V}{v:V}{bs bs2:List Blk}{lo2:Nat}(hc:Sm E T val f args ⟨bs,bs.length⟩=some (v,⟨bs2,lo2⟩))(hl:bs.length<=lo2)(hlen:bs.length<=bs2.length)(hold:∀ x,x<bs.length->bs2[x]?=bs[x]?)(lo:Nat)(xs:List X)(ev:X->V)(ha:xs.all (λx=>okV (ev x))=true)(hx:xs.map ev=args)(hf:ev (.c (.fn f []))=.fn f []) :
 bZ (Sm E T val) (.call (.c (.fn f [])) xs) ev ⟨bs,lo⟩=some (v,⟨bs2,lo⟩,⟨true,false,[],[],bs.length,bs2.length,0⟩):=by
 rw [aa,if_pos ha,hf,hx,tH,List.append_nil,hc];simp only [if_pos hl];by_cases h:bs2.length=bs.length
 . have:bs2=bs:=by
    refine List.ext_getElem? λx=>?_;by_cases hx:x<bs.length
    . exact hold x hx
    . rw [bb (by omega),bb (by omega)]
   subst this;simp
 . rw [if_neg h]
theorem jQ {α:Type}{cells:α->List D}{z b:Nat}{zero:List V}{id:FuncId}(ht:T id=some (cloneQ z b zero))(hv:val id=false)(hz0:0<z)(hb:b<=4096)(hz:∀ x,(cells x).length=z){s:Sl α}(hs:short s)(bs:List Blk) :
 ∃ v bs2,Sm E T val id [.d (s.d cells)] ⟨bs,bs.length⟩=some (v,⟨bs2,bs.length⟩)/\bs.length<=bs2.length/\(∀ x,x<bs.length->bs2[x]?=bs[x]?)/\Row1 bs.length bs2.length bs2 z (s.l.map cells) v:=by
 have hw:∀ e∈s.l.map cells,e.length=z:=λe he=>by obtain ⟨y,_,rfl⟩:=ce.1 he; exact hz y
 have key:=lI (E:=E) (T:=T) (val:=val) ht hv hz0 hb (nl:=s.nl) hw (by simpa using hs.1) ⟨bs,bs.length⟩;have hd:s.d cells=.slice s.nl (s.l.map cells):=rfl;rw [hd,key];cases hnl:s.nl with
 | true =>
  have hl:=hs.2 hnl;refine ⟨.d (.slice true []),bs,by simp [bS],br _,λ_ _=>rfl,hw,.inl ⟨by rw [hl]; rfl,rfl⟩⟩
 | false =>
  cases hc:s.l.map cells with
  | nil=>exact ⟨.row bs.length 0 0 (some 0) z,bs++[.cells []],by simp [bS],by simp,λx hx=>am hx,by simp,.inr ⟨bs.length,some 0,br _,by simp,rfl,by simp,.inr ⟨rfl,rfl⟩⟩⟩
  | cons e es =>
   refine ⟨.row (bs.length+1) 0 (es.length+1) none z,bs++[.cells [],.cells (flat (e::es))],by simp [bS],by simp,λx hx=>am hx,by rw [← hc]; exact hw,.inr ⟨bs.length+1,none,by omega,by simp,rfl,?_,.inl ⟨rfl,by simp⟩⟩⟩;have:=fu (bs:=bs) (ys:=[.cells [],.cells (flat (e::es))]) (i:=1);rw [this]; rfl
theorem Row1.mono {L M M' z:Nat}{bs:List Blk}{es:List (List D)}{v:V}(h:Row1 L M bs z es v)(hm:M<=M'):Row1 L M' bs z es v:=by
 refine ⟨h.1,?_⟩;obtain h | ⟨b,cap,h1,h2,h3⟩:=h.2
 . exact .inl h
 . exact .inr ⟨b,cap,h1,by omega,h3⟩
theorem vU {css:List (List V)}(h:∀ cs∈css,cs.length=5):css.flatten.length=css.length * 5:=by
 induction css with
 | nil=>rfl
 | cons c css ih=>simp [h c (by simp),ih λx hx=>h x (by simp [hx])]; omega
theorem KI {a b:List (List V)}{c:List V}(ha:∀ cs∈a,cs.length=5)(hc:c.length=5):sub (a++c::b).flatten (a.length * 5) 5=some c:=by
 have hl:=vU ha;rw [List.flatten_append,List.flatten_cons,show a.length * 5=a.flatten.length+0 by omega,wB,Ae (by omega)];exact cO hc
theorem Jp {a b:List (List V)}{c d:List V}(ha:∀ cs∈a,cs.length=5)(hc:c.length=5)(hd:d.length=5):put (a++c::b).flatten (a.length * 5) d=some (a++d::b).flatten:=by
 have hl:=vU ha;rw [List.flatten_append,List.flatten_cons,List.flatten_append,List.flatten_cons];simp only [put];rw [if_pos (by rw [ao,ao]; omega)]
 congr 1
 rw [← hl,List.take_left' rfl,show a.flatten.length+d.length=a.flatten.length+c.length by omega,← bh,List.drop_left' rfl,List.drop_left' rfl,List.append_assoc]
end
section
variable {E:Calls'}{T:FuncId->Option QF}{val:FuncId->Bool}
theorem Du (l:List Pol):flat (l.map Pol.c)=(l.map λp=>p.c.map V.d).flatten:=by
 simp [flat,List.map_flatten,co]
end
namespace Vr
def flat (es:List (List V)):List V:=es.flatten
theorem flat_cons (e:List V)(es:List (List V)):flat (e::es)=e++flat es:=by simp [flat]
@[simp] theorem oH:flat []=[]:=rfl
theorem flat_len {z:Nat}{es:List (List V)}(hz:∀ e∈es,e.length=z):(flat es).length=es.length * z:=by
 simp only [flat,lU hz]
end Vr
namespace Vr
end Vr
namespace Vr
end Vr
namespace Vr
end Vr
section
variable {E:Calls'}{T:FuncId->Option QF}{val:FuncId->Bool}
end
section
variable {E:Calls'}{T:FuncId->Option QF}{val:FuncId->Bool}
end
set_option maxHeartbeats 4000000
section
variable {E:Calls'}{T:FuncId->Option QF}{val:FuncId->Bool}
end
set_option maxHeartbeats 4000000
section
variable {E:Calls'}{T:FuncId->Option QF}{val:FuncId->Bool}
end
set_option maxHeartbeats 4000000
section
variable {E:Calls'}{T:FuncId->Option QF}{val:FuncId->Bool}
end
section
variable {E:Calls'}{T:FuncId->Option QF}{val:FuncId->Bool}
end
section
variable {E:Calls'}{T:FuncId->Option QF}{val:FuncId->Bool}
end
section
variable {E:Calls'}{T:FuncId->Option QF}{val:FuncId->Bool}
end
section
def RowG (K:Nat->Prop)(bs:List Blk)(z:Nat)(es:List (List V))(v:V):Prop:=(es=[]/\v=.d (.slice true []))\/∃ b cap rest,K b/\v=.row b 0 es.length cap z/\ah bs b=some (Vr.flat es++rest)
section
variable {K:Nat->Prop}{bs:List Blk}{z:Nat}{es:List (List V)}{v:V}
theorem RowG.on {K':Nat->Prop}{bs':List Blk}(h:RowG K bs z es v)(ho:∀ x,K x->K' x/\bs'[x]?=bs[x]?):RowG K' bs' z es v:=by
 obtain h | ⟨b,cap,rest,h1,h2,h3⟩:=h
 . exact .inl h
 . exact .inr ⟨b,cap,rest,(ho b h1).1,h2,aS (ho b h1).2 h3⟩
theorem RowG.okv (h:RowG K bs z es v):okV v=true/\nu v=some v/\v.cells=some [v]:=by
 obtain ⟨h1,rfl⟩ | ⟨b,cap,rest,h1,rfl,h3⟩:=h<;>exact ⟨rfl,rfl,rfl⟩
end
def bI (bs bs':List Blk):Nat->Prop:=λx=>bs.length<=x/\x<bs'.length
section
variable {E:Calls'}
def Rt (p:Pod):List V:=p.c.map .d
def Ru (p:Svc):List V:=p.c.map .d
def Rv (p:Way):List V:=p.c.map .d
def ji (x:Pol×V):List V:=pq x.1 x.2
variable {K:Nat->Prop}{bs:List Blk}{v:V}
end
end
section
def iw:V->Bool
 | .d _=>true
 | _=>false
def ku (x:Pol×V):Pol:={ x.1 with rules:=⟨iw x.2,x.1.rules.l.map Rule.own⟩ }
def sS (d:Cfg)(pl:List (Pol×V))(v4 v5 v6 v7:V):Cfg:={ d with pods:=⟨iw v4,d.pods.l⟩,services:=⟨iw v5,d.services.l⟩,bound:=⟨iw v6,d.bound.l⟩,policies:=⟨iw v7,pl.map ku⟩ }
structure OwnS (L0:Nat) (tag:Nat->Nat) (bs:List Blk) (d:Cfg) (pl:List (Pol×V)) (v4 v5 v6 v7:V):Prop where
 r4:RowG (Tg L0 bs.length tag 4) bs 7 (d.pods.l.map Rt) v4
 r5:RowG (Tg L0 bs.length tag 5) bs 5 (d.services.l.map Ru) v5
 r6:RowG (Tg L0 bs.length tag 6) bs 2 (d.bound.l.map Rv) v6
 r7:RowG (Tg L0 bs.length tag 7) bs 5 (pl.map ji) v7
 r8:∀ x∈pl,RowG (Tg L0 bs.length tag 8) bs 3 (x.1.rules.l.map λr=>r.own.c.map V.d) x.2
 pol:d.policies.l=pl.map λx=>x.1.own
theorem RowG.step {L:Nat}{tag tag':Nat->Nat}{bs bs':List Blk}{i z:Nat}{es:List (List V)}{v:V}(h:RowG (Tg L bs.length tag i) bs z es v)(hi:i≠0)(hl:bs.length<=bs'.length)(ho:∀ x,L<=x->x<bs.length->tag x≠0->bs'[x]?=bs[x]?)(ht:∀ x,x<bs.length->tag' x=tag x):RowG (Tg L bs'.length tag' i) bs' z es v :=
 h.on λx hx=>⟨⟨hx.1,cg hx.2.1 hl,(ht x hx.2.1).trans hx.2.2⟩,ho x hx.1 hx.2.1 (by rw [hx.2.2]; exact hi)⟩
theorem OwnS.next {L0:Nat}{tag tag':Nat->Nat}{bs bs':List Blk}{d:Cfg}{pl:List (Pol×V)}{v4 v5 v6 v7:V}(S:OwnS L0 tag bs d pl v4 v5 v6 v7)(hl:bs.length<=bs'.length)(ho:∀ x,L0<=x->x<bs.length->tag x≠0->bs'[x]?=bs[x]?)(ht:∀ x,x<bs.length->tag' x=tag x):OwnS L0 tag' bs' d pl v4 v5 v6 v7 :=
 ⟨S.r4.step (by decide) hl ho ht,S.r5.step (by decide) hl ho ht,S.r6.step (by decide) hl ho ht,S.r7.step (by decide) hl ho ht,λx hx=>(S.r8 x hx).step (by decide) hl ho ht,S.pol⟩
theorem Hng.rowR {K:Nat->Prop}{bs:List Blk}{k b n z:Nat}{cap:Option Nat}{cs rest:List V}{es:List (List D)}(hKb:K b)(hb:ah bs b=some (cs++rest))(hcs:Hngs false K bs k cs es.flatten)(hz:∀ e∈es,e.length=z)(hn:n=es.length) :
 Hng false K bs (.row b 0 n cap z) (.slice false es) (k+1):=by
 intro bs' lo h j hj;cases j with
 | zero=>omega
 | succ j =>
  have hg:Hp.get ⟨bs',lo⟩ b=some (cs++rest):=by
   rw [get_eq]; exact aS (h b hKb) hb
  obtain ⟨m1,m2⟩:=Hngs.mapM (lo:=lo) h (show k<=j by omega) hcs;have hlen:cs.length=n * z:=by
   rw [hcs.len,hn,List.length_flatten];have:es.map List.length=List.replicate es.length z:=by
    rw [List.eq_replicate_iff];exact ⟨by simp,λx hx=>by obtain ⟨e,he,rfl⟩:=ce.1 hx; exact hz e he⟩
   rw [this]; simp
  have hs:sub (cs++rest) 0 (n * z)=some cs:=by
   rw [fJ,if_pos (by rw [ao,hlen]; omega),List.drop_zero,← hlen,List.take_left]
  refine ⟨?_,λhw=>by cases hw⟩;simp only [dataV,hg,hs,m1];rw [hn,kK es hz]
theorem RowG.nil {K:Nat->Prop}{bs:List Blk}{z:Nat}{es:List (List V)}{v:V}(h:RowG K bs z es v)(hv:iw v=true):es=[]:=by
 obtain ⟨h1,rfl⟩ | ⟨b,cap,rest,h1,rfl,h3⟩:=h
 . exact h1
 . cases hv
theorem RowG.nilT {K:Nat->Prop}{bs:List Blk}{z:Nat}{α:Type}{f:α->List V}{l:List α}{v:V}(h:RowG K bs z (l.map f) v)(hv:iw v=true):l=[]:=by simpa using h.nil hv
theorem RowG.hng {K:Nat->Prop}{bs:List Blk}{z:Nat}{es:List (List V)}{v:V}(h:RowG K bs z es v){ds:List (List D)}{k:Nat}(hcs:Hngs false K bs k es.flatten ds.flatten)(hz:∀ e∈ds,e.length=z)(hl:ds.length=es.length):Hng false K bs v (.slice (iw v) ds) (k+1):=by
 obtain ⟨h1,rfl⟩ | ⟨b,cap,rest,h1,rfl,h3⟩:=h
 . have:ds=[]:=List.length_eq_zero_iff.1 (by rw [hl,h1]; rfl);subst this;exact Hng.data
 . exact Hng.rowR h1 h3 hcs hz hl.symm
theorem Ng {α:Type}(f:α->List D)(l:List α):(l.map λx=>(f x).map V.d).flatten=(l.map f).flatten.map V.d:=by
 simp [List.map_flatten,co]
theorem RowG.hngD {K:Nat->Prop}{bs:List Blk}{z:Nat}{α:Type}{f:α->List D}{l:List α}{v:V}(h:RowG K bs z (l.map λx=>(f x).map V.d) v)(hz:∀ x,(f x).length=z):Hng false K bs v (.slice (iw v) (l.map f)) 1 :=
 h.hng (k:=0) (by rw [Ng]; exact Hngs.data) (λe he=>by obtain ⟨x,_,rfl⟩:=ce.1 he; exact hz x) (by simp)
def TgA (L M:Nat)(tag:Nat->Nat):Nat->Prop:=λx=>L<=x/\x<M/\tag x≠0
theorem RowG.all {L:Nat}{tag:Nat->Nat}{bs:List Blk}{i z:Nat}{es:List (List V)}{v:V}(h:RowG (Tg L bs.length tag i) bs z es v)(hi:i≠0):RowG (TgA L bs.length tag) bs z es v :=
 h.on λx hx=>⟨⟨hx.1,hx.2.1,by rw [hx.2.2]; exact hi⟩,rfl⟩
section
variable {L0:Nat}{tag:Nat->Nat}{bs:List Blk}{d:Cfg}{pl:List (Pol×V)}{v4 v5 v6 v7:V}(S:OwnS L0 tag bs d pl v4 v5 v6 v7)
include S
theorem OwnS.hpol:∀ l:List (Pol×V),(∀ x∈l,x∈pl)->Hngs false (TgA L0 bs.length tag) bs 1 (l.map ji).flatten (l.map λx=>(ku x).c).flatten
 | [],_=>trivial
 | x::l,h=>by
  have ih:=OwnS.hpol l λy hy=>h y (List.mem_cons_of_mem _ hy);have hr:=((S.r8 x (h x (by simp))).all (by decide)).hngD (f:=λr:Rule=>r.own.c) (λ_=>rfl);have he:(ku x).c=[u64 x.1.id,.str x.1.ns,u64 x.1.service,i64 x.1.deny,.slice (iw x.2) (x.1.rules.l.map λr=>r.own.c)]:=by
   simp [ku,Pol.c,Sl.d,co]
  rw [ct,ct,List.flatten_cons,List.flatten_cons,he];exact Hngs.app ⟨Hng.data,Hng.data,Hng.data,Hng.data,hr,trivial⟩ ih
theorem OwnS.fz (bs2:List Blk)(lo2:Nat)(h:∀ x,L0<=x->x<bs.length->tag x≠0->bs2[x]?=bs[x]?):bG ⟨bs2,lo2⟩ (cq d v4 v5 v6 v7)=some (sS d pl v4 v5 v6 v7).c:=by
 have hK:∀ x,TgA L0 bs.length tag x->bs2[x]?=bs[x]?:=λx hx=>h x hx.1 hx.2.1 hx.2.2;have h4:=(((S.r4.all (by decide)).hngD (f:=Pod.c) (λ_=>rfl)) bs2 lo2 hK 8 (by decide)).1;have h5:=(((S.r5.all (by decide)).hngD (f:=Svc.c) (λ_=>rfl)) bs2 lo2 hK 8 (by decide)).1;have h6:=(((S.r6.all (by decide)).hngD (f:=Way.c) (λ_=>rfl)) bs2 lo2 hK 8 (by decide)).1;have h7:=(((S.r7.all (by decide)).hng (k:=1) (S.hpol pl λ_ h=>h) (λe he=>by obtain ⟨x,_,rfl⟩:=ce.1 he; rfl) (by simp)) bs2 lo2 hK 8 (by decide)).1;rw [vR h4 h5 h6 h7];simp [sS,Cfg.c,Sl.d,co]
theorem OwnS.frz (bs2:List Blk)(lo2:Nat)(h:∀ x,L0<=x->x<bs.length->tag x≠0->bs2[x]?=bs[x]?):frz ⟨bs2,lo2⟩ (.agg (cq d v4 v5 v6 v7))=some (ag (sS d pl v4 v5 v6 v7).c):=by
 rw [jB,S.fz bs2 lo2 h]
theorem OwnS.nf:(sS d pl v4 v5 v6 v7).nf=d.nf:=by
 refine MQ rfl rfl rfl rfl rfl rfl rfl ?_;simp [sS,S.pol,ku,Pol.nf,Pol.own,Sl.nf,co]
theorem OwnS.ok (hd:d.ok):(sS d pl v4 v5 v6 v7).ok:=by
 refine ⟨⟨hd.1.1,S.r4.nilT⟩,⟨hd.2.1.1,S.r5.nilT⟩,⟨hd.2.2.1.1,S.r6.nilT⟩,⟨?_,λh=>?_⟩,λp hp=>?_⟩
 . have:=hd.2.2.2.1.1;rw [S.pol] at this;simpa [sS] using this
 . have:=S.r7.nilT h;simp [sS,this]
 . obtain ⟨x,hx,rfl⟩:=ce.1 hp;have hm:x.1.own∈d.policies.l:=by rw [S.pol]; exact List.mem_map_of_mem hx
   have hf:=hd.2.2.2.2 _ hm;exact ⟨⟨hf.1.1,λh=>by simp [ku,(S.r8 x hx).nilT h]⟩,hf.2⟩
theorem OwnS.wf {B:Nat}(hd:d.wf B):(sS d pl v4 v5 v6 v7).wf B:=by
 obtain ⟨h1,h2,h3,h4,h5,h6,h7,h8⟩:=hd;refine ⟨h1,h2,h3,h4,⟨⟨h5.1.1,S.r4.nilT⟩,h5.2⟩,⟨⟨h6.1.1,S.r5.nilT⟩,h6.2⟩,⟨⟨h7.1.1,S.r6.nilT⟩,h7.2⟩,⟨⟨?_,λh=>?_⟩,λp hp=>?_⟩⟩
 . have:=h8.1.1;rw [S.pol] at this;simpa [sS] using this
 . have:=S.r7.nilT h;simp [sS,this]
 . obtain ⟨x,hx,rfl⟩:=ce.1 hp;have hm:x.1.own∈d.policies.l:=by rw [S.pol]; exact List.mem_map_of_mem hx
   obtain ⟨f1,f2,f3,f4,f5⟩:=h8.2 _ hm;exact ⟨f1,f2,f3,f4,⟨f5.1.1,λh=>by simp [ku,(S.r8 x hx).nilT h]⟩,f5.2⟩
end
def Ns (n:Nat)(tag:Nat->Nat)(i:Nat):Nat->Nat:=λx=>if x<n then tag x else i
theorem RowG.fresh {L0 n b i z:Nat}{tag:Nat->Nat}{bs0 b2:List Blk}{X:List V}{es:List (List V)}{r:V}(h:RowG (bI bs0 b2) b2 z es r)(hL:L0<=n)(hn:n<=bs0.length)(hb:b<n):RowG (Tg L0 (b2.set b (.cells X)).length (Ns n tag i) i) (b2.set b (.cells X)) z es r :=
 h.on λx hx=>⟨⟨by have:=hx.1; omega,by simpa using hx.2,if_neg (by have:=hx.1; omega)⟩,ac (by have:=hx.1; omega)⟩
end
section
section
variable {E:Calls'}{T:FuncId->Option QF}{val:FuncId->Bool}
theorem Cj {α:Type}(cells:α->List D)(l:List α):flat (l.map cells)=Vr.flat (l.map λx=>(cells x).map V.d):=by
 induction l with
 | nil=>rfl
 | cons x l ih =>
  rw [ct,flat_cons,ih];simp [Vr.flat]
theorem RowG.ret {bs m:List Blk}{z lo2:Nat}{es:List (List V)}{v:V}(h:RowG (bI bs m) m z es v)(hl:bs.length<=m.length)(ho:∀ x,x<bs.length->m[x]?=bs[x]?) :
 ∃ r bs',∃ F:Nat->Nat,(∀ lo,dL ⟨bs,lo⟩ (some (v,⟨m,lo2⟩))=some (r,⟨bs',F lo⟩))/\bs.length<=bs'.length/\(∀ x,x<bs.length->bs'[x]?=bs[x]?)/\RowG (bI bs bs') bs' z es r:=by
 by_cases hc:bs.length<=lo2/\v.under bs.length=true
 . refine ⟨v,bs,id,λlo=>by rw [dn]; exact if_pos hc,br _,λ_ _=>rfl,?_⟩;obtain h | ⟨B,cap,rest,h1,rfl,h3⟩:=h
   . exact .inl h
   . have:=hc.2;have:=h1.1;simp [V.under] at *;omega
 . exact ⟨v,m,λlo=>min lo lo2,λlo=>by rw [dn]; exact if_neg hc,hl,ho,h⟩
theorem rR {α:Type}{cells:α->List D}{z b c1 c11 con sm any keep cl clos del idx g srt idf id:FuncId}{zero:List V}{key:α->Int}(tcl:T cl=some (cloneQ z b zero))(vcl:val cl=false)(tdel:T del=some (delQ z idx zero))(vdel:val del=false)(ti:T idx=some (idxQ z))(vi:val idx=false)
 (tn:T clos=some (notQ z)) (vn:val clos=false) (tk:T keep=some (keepQ cl clos del)) (vk:val keep=false) (t1:T c1=some (vpcQ z con c11 sm)) (v1:val c1=false) (t11:T c11=some (vpeQ z)) (v11:val c11=false) (ts:T sm=some (someQ any)) (vs:val sm=false) (ta:T any=some (anyQ idx)) (va:val any=false)
 (tid:T id=some (vputQ z b c1 keep g srt)) (vid:val id=false) {p:Nat} (hS:∀ {h:Hp} {B n k:Nat} {cap:Option Nat},0<n->Sm E T val srt [.row B 0 n cap z,.fn g [.ptr k 0]] h=fD ⟨z,p,g,idf⟩ [.row B 0 n cap z,.fn g [.ptr k 0]] h)
 (hS0:∀ v k,v=.d (.slice true [])\/(∃ B cap,v=.row B 0 0 cap z)->∀ h,Sm E T val srt [v,.fn g [.ptr k 0]] h=some (.tup [],h))
 (hz:∀ x,(cells x).length=z) (hz0:0<z) (hzero:zero.length=z) (hb:b<=4096) (hkey:∀ x,(cells x)[p]?=some (.int .u64 (key x))) {l fresh:Sl α} (hl:short l) (hf:short fresh) (hlf:l.l.length+fresh.l.length<=big) {gone:Sl Int}
 (hcon:∀ n h,Sm E T val con [.d (gone.d ak),.d (u64 n)] h=some (bl (bu gone.l n),h)) (hid:∀ e,e∈l.l\/e∈fresh.l->∀ h,Sm E T val idf [ag (cells e)] h=some (.d (u64 (key e)),h)) (hnd:(((l.l.filter (fA key fresh.l gone.l))++fresh.l).map key).Nodup) (bs:List Blk) :
 ∃ r bs',∃ F:Nat->Nat,(∀ lo,Sm E T val id [.d (l.d cells),.d (fresh.d cells),.d (gone.d ak),.fn idf []] ⟨bs,lo⟩=some (r,⟨bs',F lo⟩))/\bs.length<=bs'.length/\(∀ x,x<bs.length->bs'[x]?=bs[x]?)/\RowG (bI bs bs') bs' z ((bU key l.l fresh.l gone.l).map λx=>(cells x).map V.d) r:=by
 have g0:∀ (m:List Blk) (i:Nat) (cs:List V),(∀ x,x<bs.length+3->m[x]?=(bs++[Blk.cells [.d (fresh.d cells)],.cells [.d (gone.d ak)],.cells [.fn idf []]])[x]?)->i<3->([Blk.cells [.d (fresh.d cells)],.cells [.d (gone.d ak)],.cells [.fn idf []]])[i]?=some (.cells cs)->ah m (bs.length+i)=some cs:=λm i cs h hi hc=>by
  unfold ah;rw [h _ (by omega),bm (by omega),Nat.add_sub_cancel_left,hc]
 obtain ⟨r,bs1,lo1,k1,⟨k2,_⟩,k3,k4⟩:=BZ (E:=E) (T:=T) (val:=val) tcl vcl tdel vdel ti vi tn vn tk vk hz hz0 hzero hb hl (f:=c1) (caps:=[.ptr (bs.length+1) 0,.ptr (bs.length+2) 0,.ptr bs.length 0]) (q:=fA key fresh.l gone.l) (h:=⟨bs++[.cells [.d (fresh.d cells)],.cells [.d (gone.d ak)],.cells [.fn idf []]],bs.length⟩) λe he m lo hle ho=>by
  simp only [ao,ck,cm] at hle ho;exact Ri t1 v1 t11 v11 ts vs ta va ti vi hz hf hcon (λx hx=>hid x (by obtain rfl | hx:=hx; exact .inl he; exact .inr hx)) (g0 m 1 _ ho (by decide) rfl) (g0 m 2 _ ho (by decide) rfl) (g0 m 0 _ ho (by decide) rfl)
 simp only [ao,ck,cm] at k2 k3 k4;have hkl:=List.length_filter_le (fA key fresh.l gone.l) l.l;obtain ⟨v2,bs2,f,a1,a2,a3⟩:=Ff hz hz0 hb k4 fresh hf (by omega) k2;have a2':∀ x,x<bs.length+3->bs2[x]?=(bs++[Blk.cells [.d (fresh.d cells)],.cells [.d (gone.d ak)],.cells [.fn idf []]])[x]?:=λx hx=>(a2 x hx).trans (k3 x hx);have hb10:ah bs1 bs.length=some [.d (fresh.d cells)]:=g0 bs1 0 _ k3 (by decide) rfl;have hb2:ah bs2 (bs.length+2)=some [.fn idf []]:=g0 bs2 2 _ a2' (by decide) rfl;have hl2:bs.length+3<=bs2.length:=aB hb2;have hold:∀ x,x<bs.length->bs2[x]?=bs[x]?:=λx hx=>by rw [a2' x (by omega),am hx]
 have hnur:=k4.nu;have hPV:bU key l.l fresh.l gone.l=((l.l.filter (fA key fresh.l gone.l))++fresh.l).mergeSort λa b=>decide (key a<=key b):=rfl;generalize bU key l.l fresh.l gone.l=PV at *;generalize l.l.filter (fA key fresh.l gone.l)=K at *;have key:∃ v m lo2,Bd E T val (vputQ z b c1 keep g srt) [.d (l.d cells),.d (fresh.d cells),.d (gone.d ak),.fn idf []] ⟨bs,bs.length⟩=some (v,⟨m,lo2⟩)/\bs.length<=m.length/\(∀ x,x<bs.length->m[x]?=bs[x]?)/\RowG (bI bs m) m z (PV.map λx=>(cells x).map V.d) v:=by
  obtain ⟨g1,g2,rfl⟩ | ⟨g1,B,cap,rest,g2,rfl,g3⟩:=a3
  . have hP0:PV=[]:=by rw [hPV,g2,List.mergeSort_nil]
    have hsrt:=λh=>hS0 (.d (.slice true [])) (bs.length+2) (.inl rfl) h;refine ⟨.d (.slice true []),bs2,f lo1,?_,by omega,hold,.inl ⟨by rw [hP0]; rfl,rfl⟩⟩;simp [vputQ,ae,k1,hb10,hnur.1,hnur.2,a1,hsrt,bD]
  . obtain h0 | h0:=Nat.eq_zero_or_pos (K++fresh.l).length
    . have hKF:K++fresh.l=[]:=List.eq_nil_of_length_eq_zero h0;have hP0:PV=[]:=by rw [hPV,hKF,List.mergeSort_nil]
      have hsrt:=λh=>hS0 (.row B 0 0 cap z) (bs.length+2) (.inr ⟨B,cap,rfl⟩) h;rw [h0] at a1;rw [hKF] at g3;refine ⟨.row B 0 0 cap z,bs2,f lo1,?_,by omega,hold,.inr ⟨B,cap,rest,⟨by omega,aB g3⟩,by rw [hP0]; rfl,by rw [hP0]; exact g3⟩⟩;simp [vputQ,ae,k1,hb10,hnur.1,hnur.2,a1,hsrt,bD]
    . have hne:K++fresh.l≠[]:=List.length_pos_iff.1 h0;have hst:=λlo2=>Ez (g:=g) (idf:=idf) (p:=p) hz hkey (L:=K++fresh.l) hnd hne (by rw [ao]; simp only [big] at hlf; omega) (h:=⟨bs2,lo2⟩) (b:=B) (c:=bs.length+2) (cap:=cap) (rest:=rest) g3 hb2 (by omega);rw [← hPV] at hst;have hsm:∀ lo2,Sm E T val srt [.row B 0 (K++fresh.l).length cap z,.fn g [.ptr (bs.length+2) 0]] ⟨bs2,lo2⟩=some (.tup [],⟨bs2.set B (.cells (flat (PV.map cells)++rest)),min lo2 B⟩):=λlo2=>by
       rw [hS h0];exact hst lo2
      have hbl:=aB g3;have hpl:PV.length=(K++fresh.l).length:=by rw [hPV,List.length_mergeSort]
      refine ⟨.row B 0 (K++fresh.l).length cap z,bs2.set B (.cells (flat (PV.map cells)++rest)),min (f lo1) B,?_,by simp; omega,λx hx=>by rw [ac (by omega)]; exact hold x hx,.inr ⟨B,cap,rest,⟨by omega,by simpa using hbl⟩,by rw [b9,hpl],?_⟩⟩
      . generalize (K++fresh.l).length=N at *;simp [vputQ,ae,k1,hb10,hnur.1,hnur.2,a1,hsm,bD]
      . rw [← Cj]; exact aU g3
 obtain ⟨v,m,lo2,q1,q2,q3,q4⟩:=key;obtain ⟨r,bs',F,e1,e2⟩:=q4.ret (lo2:=lo2) q2 q3;refine ⟨r,bs',F,λlo=>?_,e2⟩;rw [aW tid vid];show dL ⟨bs,lo⟩ (Bd E T val (vputQ z b c1 keep g srt) [.d (l.d cells),.d (fresh.d cells),.d (gone.d ak),.fn idf []] ⟨bs,bs.length⟩)=_;rw [q1];exact e1 lo
end
end
section
section
variable {E:Calls'}{T:FuncId->Option QF}{val:FuncId->Bool}
theorem KeptP.rowG {α:Type}{cells:α->List D}{z n:Nat}{nl:Bool}{l:List α}{bs bs':List Blk}{v:V}{K:Nat->Prop}(h:KeptP cells z n nl l bs v)(ho:∀ x,x<bs.length->bs'[x]?=bs[x]?)(hK:∀ x,n<=x->x<bs.length->K x):RowG K bs' z (l.map λx=>(cells x).map V.d) v:=by
 obtain ⟨_,rfl,rfl⟩ | ⟨_,B,cap,rest,h1,rfl,h3,_⟩:=h
 . exact .inl ⟨rfl,rfl⟩
 . have hB:=aB h3;exact .inr ⟨B,cap,rest,hK B h1 hB,by rw [b9],by rw [← Cj]; exact aS (ho B hB) h3⟩
theorem Acc.rowG {base:List Blk}{acc:List Int}{bs:List Blk}{v:V}{K:Nat->Prop}(h:Acc base 1 (acc.map ak) bs v)(hK:∀ x,base.length<=x->x<bs.length->K x):RowG K bs 1 (acc.map λa=>(ak a).map V.d) v:=by
 obtain ⟨h1,rfl⟩ | ⟨_,b,h1,rfl,h3⟩:=h.is
 . exact .inl ⟨by rw [List.map_eq_nil_iff.1 h1]; rfl,rfl⟩
 . exact .inr ⟨b,none,[],hK b h1 (aB h3),by simp,by rw [h3,List.append_nil,Cj]⟩
theorem RowG.ret2T {bs m:List Blk}{z1 z2 lo2:Nat}{e1 e2:List (List V)}{v w:V}(h:RowG (bI bs m) m z1 e1 v)(h':RowG (bI bs m) m z2 e2 w)(hl:bs.length<=m.length)(ho:∀ x,x<bs.length->m[x]?=bs[x]?) :
 ∃ bs',∃ F:Nat->Nat,(∀ lo,dL ⟨bs,lo⟩ (some (.tup [v,w],⟨m,lo2⟩))=some (.tup [v,w],⟨bs',F lo⟩))/\bs.length<=bs'.length/\(∀ x,x<bs.length->bs'[x]?=bs[x]?)/\RowG (bI bs bs') bs' z1 e1 v/\RowG (bI bs bs') bs' z2 e2 w:=by
 have hn:∀ {z:Nat} {e:List (List V)} {x:V},RowG (bI bs m) m z e x->x.under bs.length=true->RowG (bI bs bs) bs z e x:=λh hu=>by
  obtain h | ⟨B,cap,rest,h1,rfl,h3⟩:=h
  . exact .inl h
  . have:=h1.1;simp [V.under] at hu;omega
 by_cases hc:bs.length<=lo2/\(V.tup [v,w]).under bs.length=true
 . have hu:=hc.2;simp [V.under,V.under.go] at hu;exact ⟨bs,id,λlo=>by rw [dn]; exact if_pos hc,br _,λ_ _=>rfl,hn h hu.1,hn h' hu.2⟩
 . exact ⟨m,λlo=>min lo lo2,λlo=>by rw [dn]; exact if_neg hc,hl,ho,h,h'⟩
theorem ou {α:Type}{cells:α->List D}{z b:Nat}{id c1 c11 c2 sm any idx keep cl clos del idf sf:FuncId}{zero:List V}{key:α->Int}{same:α->α->Bool}(tcl:T cl=some (cloneQ z b zero))(vcl:val cl=false)(tdel:T del=some (delQ z idx zero))(vdel:val del=false)(ti:T idx=some (idxQ z))(vi:val idx=false)
 (tn:T clos=some (notQ z)) (vn:val clos=false) (tk:T keep=some (keepQ cl clos del)) (vk:val keep=false) (t1:T c1=some (parcQ c11 sm)) (v1:val c1=false) (t11:T c11=some (parsQ z)) (v11:val c11=false) (t2:T c2=some (vpeQ z)) (v2:val c2=false) (ts:T sm=some (someQ any)) (vs:val sm=false) (ta:T any=some (anyQ idx)) (va:val any=false)
 (tid:T id=some (partsQ z keep c1 c2 sm zero)) (vid:val id=false)
 (hz:∀ x,(cells x).length=z) (hz0:0<z) (hzero:zero.length=z) (hb4:b<=4096) {l m:Sl α} (hl:short l) (hm:short m) (hlb:l.l.length<big)
 (hid:∀ e,e∈l.l\/e∈m.l->∀ h,Sm E T val idf [ag (cells e)] h=some (.d (u64 (key e)),h)) (hsf:∀ x∈m.l,∀ y∈l.l,∀ h,Sm E T val sf [ag (cells x),ag (cells y)] h=some (bl (same x y),h)) (bs:List Blk) :
 ∃ r g bs',∃ F:Nat->Nat,(∀ lo,Sm E T val id [.d (l.d cells),.d (m.d cells),.fn idf [],.fn sf []] ⟨bs,lo⟩=some (.tup [r,g],⟨bs',F lo⟩))/\bs.length<=bs'.length/\(∀ x,x<bs.length->bs'[x]?=bs[x]?) ∧
  RowG (bI bs bs') bs' z ((bC same l.l m.l).map λx=>(cells x).map V.d) r/\RowG (bI bs bs') bs' 1 ((bW key l.l m.l).map λa=>(ak a).map V.d) g:=by
 have g0:∀ (m:List Blk) (i:Nat) (cs:List V),(∀ x,x<bs.length+3->m[x]?=(bs++[Blk.cells [.d (l.d cells)],.cells [.fn idf []],.cells [.fn sf []]])[x]?)->i<3->([Blk.cells [.d (l.d cells)],.cells [.fn idf []],.cells [.fn sf []]])[i]?=some (.cells cs)->ah m (bs.length+i)=some cs:=λm i cs h hi hc=>by
  unfold ah;rw [h _ (by omega),bm (by omega),Nat.add_sub_cancel_left,hc]
 obtain ⟨r,bs1,lo1,k1,⟨k2,_⟩,k3,k4⟩:=BZ (E:=E) (T:=T) (val:=val) tcl vcl tdel vdel ti vi tn vn tk vk hz hz0 hzero hb4 hm (f:=c1) (caps:=[.ptr bs.length 0,.ptr (bs.length+2) 0]) (q:=λx=>!l.l.any λy=>same x y) (h:=⟨bs++[.cells [.d (l.d cells)],.cells [.fn idf []],.cells [.fn sf []]],bs.length⟩) λe he m' lo hle ho=>by
  simp only [ao,ck,cm] at hle ho;exact MB t1 v1 t11 v11 ts vs ta va ti vi hz hl (λy hy=>hsf e he y hy) (g0 m' 2 _ ho (by decide) rfl) (g0 m' 0 _ ho (by decide) rfl)
 simp only [ao,ck,cm] at k2 k3 k4;have hb0:ah bs1 bs.length=some [.d (l.d cells)]:=g0 bs1 0 _ k3 (by decide) rfl;have hb1:ah bs1 (bs.length+1)=some [.fn idf []]:=g0 bs1 1 _ k3 (by decide) rfl;have hnur:=k4.nu;obtain ⟨bs2,v',lo',q1,q2⟩:=Bo (E:=E) (zero:=zero) t2 v2 ts vs ta va ti vi hz hz0 hzero hl hm hlb hid hb1 hnur.1 l.l.length 0 [] bs1 _ lo1 (by omega) (br _) (Acc.nil bs1 1);have hog:([]:List Int)++((l.l.drop 0).filter λx=>!m.l.any λy=>key x==key y).map key=bW key l.l m.l:=rfl;rw [hog] at q2;have hnv:=q2.nu;have hlen:=q2.len;have hfr:(l.l.drop 0).filter (λx=>!m.l.any λy=>key x==key y)=(l.l.drop 0).filter (λx=>!m.l.any λy=>key x==key y):=rfl;have hold:∀ x,x<bs.length->bs2[x]?=bs[x]?:=λx hx=>by rw [q2.old x (by omega),k3 x (by omega),am hx]
 have R1:RowG (bI bs bs2) bs2 z ((bC same l.l m.l).map λx=>(cells x).map V.d) r:=k4.rowG q2.old λx h1 h2=>⟨by omega,by omega⟩;have R2:RowG (bI bs bs2) bs2 1 ((bW key l.l m.l).map λa=>(ak a).map V.d) v':=q2.rowG λx h1 h2=>⟨by omega,by omega⟩;obtain ⟨bs',F,e1,e2⟩:=R1.ret2T (lo2:=lo') R2 (by omega) hold;refine ⟨r,v',bs',F,λlo=>?_,e2⟩;rw [aW tid vid];have key:Bd E T val (partsQ z keep c1 c2 sm zero) [.d (l.d cells),.d (m.d cells),.fn idf [],.fn sf []] ⟨bs,bs.length⟩=some (.tup [r,v'],⟨bs2,lo'⟩):=by
  simp only [Int.natCast_zero,Int.ofNat_zero] at q1;simp [partsQ,ae,k1,hb0,hnur.1,hnur.2];rw [au];simp only [jC,kz];simp [hnur.1,hnur.2,q1,hnv]
 show dL ⟨bs,lo⟩ (Bd E T val (partsQ z keep c1 c2 sm zero) [.d (l.d cells),.d (m.d cells),.fn idf [],.fn sf []] ⟨bs,bs.length⟩)=_;rw [key];exact e1 lo
end
end
section
section
variable {E:Calls'}{T:FuncId->Option QF}{val:FuncId->Bool}
def RulR (L M:Nat)(bs:List Blk)(x:Pol×V):Prop:=Row1 L M bs 3 (x.1.rules.l.map λr=>r.own.c) x.2/\(x.1.rules.l=[]->x.2=.d (.slice true []))
theorem RulR.on {L M M':Nat}{bs bs':List Blk}{x:Pol×V}(h:RulR L M bs x)(hm:M<=M')(ho:∀ x,L<=x->x<M->bs'[x]?=bs[x]?):RulR L M' bs' x:=⟨(h.1.on ho).mono hm,h.2⟩
theorem FB {pl:List (Pol×V)}:∀ cs∈pl.map ji,cs.length=5:=λcs hcs=>by obtain ⟨x,_,rfl⟩:=ce.1 hcs; rfl
theorem DV {keep:List Nat}{body:QC}(n:Nat)(env:Nat->EA)(P:Nat->List Blk->Nat->Prop)(X:Ex×EA)
 (hr:∀ i,i<n->∀ bs lo,P i bs lo->∃ bs' lo',P (i+1) bs' lo'/\∀ W:EA->Hp->d9,bY keep W (Cd E T val body (bE keep (env i)) ⟨bs,lo⟩)=W (env (i+1)) ⟨bs',lo'⟩)
 (he:∀ bs lo,P n bs lo->∀ W:EA->Hp->d9,bY keep W (Cd E T val body (bE keep (env n)) ⟨bs,lo⟩)=some (X.1,X.2,⟨bs,lo⟩)) (bs:List Blk) (lo:Nat) (h0:P 0 bs lo) :
 ∃ bs' lo',Cd E T val (.loop keep body) (env 0) ⟨bs,lo⟩=some (X.1,X.2,⟨bs',lo'⟩)/\P n bs' lo':=by
 have:∀ (m i:Nat) (bs:List Blk) (lo:Nat),i+m=n->P i bs lo->∃ bs' lo',Cd E T val (.loop keep body) (env i) ⟨bs,lo⟩=some (X.1,X.2,⟨bs',lo'⟩)/\P n bs' lo':=by
  intro m;have key:=aC (E:=E) (T:=T) (val:=val) keep body;generalize Cd E T val (.loop keep body)=W at key ⊢
  induction m with
  | zero =>
   intro i bs lo hi hP;rw [show i=n by omega] at hP ⊢;exact ⟨bs,lo,by rw [key,he bs lo hP W],hP⟩
  | succ m ih =>
   intro i bs lo hi hP;obtain ⟨bs',lo',h1,h2⟩:=hr i (by omega) bs lo hP;obtain ⟨bs2,lo2,h3,h4⟩:=ih (i+1) bs' lo' (by omega) h1;exact ⟨bs2,lo2,by rw [key,h2 W,h3],h4⟩
 exact this n 0 bs lo (by omega) h0
theorem Qp (yc:T 130=some pK)(yj:val 130=false)(vL:T 203=some rP)(vM:val 203=false)(h231:∀ r:Rule,r.fits big->∀ h,Sm E T val 204 [ag r.c] h=some (ag r.own.c,h))
 (l:List Pol) (hl:l.length<2 ^ 62) (hf:∀ p∈l,p.fits big) {b Lq:Nat} {cap:Option Nat} (hb:b<Lq) (B0:List Blk) (lo:Nat) (hLq:Lq<=B0.length) (hgb:ah B0 b=some (l.map λp=>p.c.map V.d).flatten) {k:Nat} (hk:k<=b) (hkl:k<=lo) :
 ∃ bs' lo',∃ pl:List (Pol×V),Cd E T val (.loop [0,7,8,9] mJ) [(0,.row b 0 l.length cap 5),(7,.row b 0 l.length cap 5),(8,.d (i64 l.length)),(9,.d (i64 ((0:Nat):Int)))] ⟨B0,lo⟩=some (.exit 0,[(0,.row b 0 l.length cap 5)],⟨bs',lo'⟩) ∧
  (∀ x,x<Lq->x≠b->bs'[x]?=B0[x]?)/\Lq<=bs'.length/\pl.map Prod.fst=l/\ah bs' b=some (pl.map ji).flatten/\(∀ x∈pl,RulR Lq bs'.length bs' x)/\k<=lo':=by
 obtain ⟨bs',lo',h1,h2,h3,h7,pl,h4,h5,h6⟩:=DV (E:=E) (T:=T) (val:=val) (keep:=[0,7,8,9]) (body:=mJ) l.length (λi=>[(0,.row b 0 l.length cap 5),(7,.row b 0 l.length cap 5),(8,.d (i64 l.length)),(9,.d (i64 i))])
  (λi bs' lo'=>(∀ x,x<Lq->x≠b->bs'[x]?=B0[x]?)/\Lq<=bs'.length/\k<=lo'/\∃ pl:List (Pol×V),pl.map Prod.fst=l.take i/\ah bs' b=some (pl.map ji++(l.drop i).map λp=>p.c.map V.d).flatten/\∀ x∈pl,RulR Lq bs'.length bs' x) (.exit 0,[(0,.row b 0 l.length cap 5)])
  (by
    intro i hi b1 lo1 ⟨q1,q2,q6,pl,q3,q4,q5⟩;have hx:=ab hi;have hmem:=bj hi;have hdr:l.drop i=l[i]::l.drop (i+1):=aw hi;have htk:l.take (i+1)=l.take i++[l[i]]:=by rw [List.take_add_one,hx]; rfl
    have hpl:pl.length=i:=by
     have:=congrArg List.length q3;simp [List.length_take] at this;omega
    have hpm:(pl.map ji).length=i:=by simpa using hpl
    rw [hdr] at q4;rw [htk];generalize l[i]=p at *;have hp5:(p.c.map V.d).length=5:=rfl;rw [ct] at q4;have hsub:=KI (b:=(l.drop (i+1)).map λp=>p.c.map V.d) FB hp5 (a:=pl.map ji);rw [hpm] at hsub;have hw:=ay hi hl;have h0:((i:Int)<l.length):=by omega
    have hix:∀ hp,bg none 5 (.row b 0 l.length cap 5) (.d (.int .i64 i)) hp=some (.ptr b (i * 5),hp):=λhp=>by
     simp only [bg];rw [if_pos ⟨by omega,by omega,trivial⟩];simp
    obtain ⟨b2,lo2,rv,a,A,al⟩:=Ze yc yj vL vM h231 p (hf p hmem) (b1++[.cells (p.c.map .d)]) (min lo1 b1.length);have hA1:=A.len;have hput:=Jp (b:=(l.drop (i+1)).map λp=>p.c.map V.d) (d:=pq p rv) FB hp5 rfl (a:=pl.map ji);rw [hpm] at hput;have q4b:ah b2 b=some _:=A.get (aJ (ys:=[.cells (p.c.map .d)]) q4);simp at hA1;refine ⟨b2.set b (.cells (pl.map ji++pq p rv::(l.drop (i+1)).map λp=>p.c.map V.d).flatten),min lo2 b,⟨λx h1 h2=>?_,by simp; omega,by have:=al k (by omega) (by simp; omega); omega,pl++[(p,rv)],by simp [q3],?_,λx hxm=>?_⟩,λW=>?_⟩
    . rw [ac (Ne.symm h2),A.old x (by simp; omega),am (by omega),q1 x h1 h2]
    . rw [aU q4b]; simp [ji]
    . have hold:∀ x,Lq<=x->x<b1.length->(b2.set b (.cells (pl.map ji++pq p rv::(l.drop (i+1)).map λp=>p.c.map V.d).flatten))[x]?=b1[x]?:=λx h1 h2=>by
       rw [ac (by omega),A.old x (by simp; omega),am h2]
      obtain hxm | hxm:=List.mem_append.1 hxm
      . exact (q5 x hxm).on (by simp; omega) hold
      . simp at hxm;subst hxm;refine ⟨?_,λh0=>?_⟩
        . have hr:=A.row1;simp at hr;refine (⟨hr.1,?_⟩:Row1 Lq _ _ _ _ _);obtain hr2 | ⟨b',cap',f1,f2,f3,f4,f5⟩:=hr.2
          . exact .inl hr2
          . exact .inr ⟨b',cap',by omega,by simp; omega,f3,by rw [eQ (by omega)]; exact f4,f5⟩
        . obtain ⟨_,h⟩ | ⟨h,_⟩:=A.is
          . exact h
          . exact absurd (by simp at h0; simp [h0]) h
    . generalize (pl.map ji++(p.c.map V.d)::(l.drop (i+1)).map λp=>p.c.map V.d).flatten=F0 at *;generalize (pl.map ji++pq p rv::(l.drop (i+1)).map λp=>p.c.map V.d).flatten=F1 at *;have hpl5:(pq p rv).length=5:=rfl;have hz:put [V.d (.int .u64 0),.d (.str ⟨#[]⟩),.d (.int .u64 0),.d (.int .i64 0),.d (.slice true [])] 0 (p.c.map V.d)=some (p.c.map V.d):=rfl;simp [mJ,h0,hix,q4,hsub,a,q4b,hput,hpl5,hw,hz])
  (by
    intro b1 lo1 ⟨q1,q2,q6,pl,q3,q4,q5⟩ W;simp [mJ])
  B0 lo ⟨λ_ _ _=>rfl,hLq,hkl,[],by simp,by simpa using hgb,λx hx=>by cases hx⟩
 rw [List.take_length] at h4;rw [List.drop_length,List.map_nil,List.append_nil] at h5;exact ⟨bs',lo',pl,h1,h2,h3,h4,h5,h6,h7⟩
def OwnP (n:Nat)(bs:List Blk)(l:List Pol)(v:V):Prop:=∃ Lq,∃ pl:List (Pol×V),n<=Lq/\Lq<=bs.length/\pl.map Prod.fst=l/\RowG (λx=>n<=x/\x<Lq) bs 5 (pl.map ji) v/\∀ x∈pl,RulR Lq bs.length bs x
theorem OwnP.ret {bs m:List Blk}{lo2:Nat}{l:List Pol}{v:V}(h:OwnP bs.length m l v)(hlo:bs.length<=lo2)(hl:bs.length<=m.length)(ho:∀ x,x<bs.length->m[x]?=bs[x]?) :
 ∃ r bs',∃ F:Nat->Nat,(∀ lo,dL ⟨bs,lo⟩ (some (v,⟨m,lo2⟩))=some (r,⟨bs',F lo⟩))/\bs.length<=bs'.length/\(∀ x,x<bs.length->bs'[x]?=bs[x]?)/\OwnP bs.length bs' l r/\∀ lo,bs.length<=lo->bs.length<=F lo:=by
 by_cases hc:bs.length<=lo2/\v.under bs.length=true
 . refine ⟨v,bs,id,λlo=>by rw [dn]; exact if_pos hc,br _,λ_ _=>rfl,?_,λ_ h=>h⟩;obtain ⟨Lq,pl,h1,h2,h3,h4,h5⟩:=h;obtain ⟨h4,rfl⟩ | ⟨B,cap,rest,h4,rfl,h6⟩:=h4
   . have:pl=[]:=by simpa using h4
     subst this;exact ⟨bs.length,[],br _,br _,h3,.inl ⟨rfl,rfl⟩,λx hx=>by cases hx⟩
   . have:=hc.2;have:=h4.1;simp [V.under] at *;omega
 . exact ⟨v,m,λlo=>min lo lo2,λlo=>by rw [dn]; exact if_neg hc,hl,ho,h,λlo h=>by show bs.length<=min lo lo2; omega⟩
theorem EX (KM:T 52=some pM)(KS:val 52=false)(KN:T 129=some (cloneQ 5 64 Ef))(KT:val 129=false)(yc:T 130=some pK)(yj:val 130=false)(vL:T 203=some rP)(vM:val 203=false)(h231:∀ r:Rule,r.fits big->∀ h,Sm E T val 204 [ag r.c] h=some (ag r.own.c,h))
 {l:List Pol} (hl:l.length<=big) (hf:∀ p∈l,p.fits big) {bs:List Blk} {a:V} (ha:∃ v m,Sm E T val 129 [a] ⟨bs,bs.length⟩=some (v,⟨m,bs.length⟩)/\bs.length<=m.length/\(∀ x,x<bs.length->m[x]?=bs[x]?)/\Row1 bs.length m.length m 5 (l.map Pol.c) v) (hnu:nu a=some a) (hok:okV a=true) :
 ∃ r bs',∃ F:Nat->Nat,(∀ lo,Sm E T val 52 [a] ⟨bs,lo⟩=some (r,⟨bs',F lo⟩))/\bs.length<=bs'.length/\(∀ x,x<bs.length->bs'[x]?=bs[x]?)/\OwnP bs.length bs' l r/\∀ lo,bs.length<=lo->bs.length<=F lo:=by
 have hlt:l.length<2 ^ 62:=ch hl (by decide);obtain ⟨v,m,a1,a2,a3,a4⟩:=ha;have hvl:=a4.len;simp only [b9] at hvl;have hvn:=a4.nu;have out:∀ {v:V} {m:List Blk} {lo2:Nat},Bd E T val pM [a] ⟨bs,bs.length⟩=some (v,⟨m,lo2⟩)->OwnP bs.length m l v->bs.length<=lo2->bs.length<=m.length->(∀ x,x<bs.length->m[x]?=bs[x]?)->∃ r bs',∃ F:Nat->Nat,(∀ lo,Sm E T val 52 [a] ⟨bs,lo⟩=some (r,⟨bs',F lo⟩))/\bs.length<=bs'.length/\(∀ x,x<bs.length->bs'[x]?=bs[x]?)/\OwnP bs.length bs' l r/\∀ lo,bs.length<=lo->bs.length<=F lo:=λ{v m lo2} hB h1 h2 h3 h4=>by
  obtain ⟨r,bs',F,e1,e2⟩:=h1.ret h2 h3 h4;refine ⟨r,bs',F,λlo=>?_,e2⟩;rw [aW KM KS];show dL ⟨bs,lo⟩ (Bd E T val pM [a] ⟨bs,bs.length⟩)=_;rw [hB];exact e1 lo
 obtain ⟨h1,rfl⟩ | ⟨b,cap,h1,h2,rfl,h3,h4⟩:=a4.2
 . have hl0:l=[]:=by simpa using h1
   subst hl0;have hB:Bd E T val pM [a] ⟨bs,bs.length⟩=some (.d (.slice true []),⟨m,bs.length⟩):=by
    simp [ae,pM,hnu,hok,a1];rw [au];rw [aC];simp [mJ,bD]
   exact out hB ⟨m.length,[],a2,br _,rfl,.inl ⟨rfl,rfl⟩,λx hx=>by cases hx⟩ (br _) a2 a3
 . simp only [b9] at a1 hvl hvn ⊢;rw [Du] at h3;obtain ⟨m2,lo2,pl,d1,d2,d3,d4,d5,d6,d7⟩:=Qp (E:=E) yc yj vL vM h231 l hlt hf (b:=b) (Lq:=m.length) (cap:=cap) h2 m bs.length (br _) h3 (k:=bs.length) h1 (br _);have ez:((0:Nat):Int)=0:=rfl;rw [ez] at d1;have hB:Bd E T val pM [a] ⟨bs,bs.length⟩=some (.row b 0 l.length cap 5,⟨m2,lo2⟩):=by
    simp [ae,pM,hnu,hok,a1];rw [au];simp [d1,bD]
   have hpl:pl.length=l.length:=by rw [← d4]; simp
   exact out hB ⟨m.length,pl,a2,d3,d4,.inr ⟨b,cap,[],⟨h1,h2⟩,by simp [hpl],by rw [List.append_nil]; exact d5⟩,d6⟩ d7 (by omega) λx hx=>(d2 x (by omega) (by omega)).trans (a3 x hx)
end
end
section
variable {E:Calls'}
def WS:List (Nat×QF):=[(15,q69)]
def TSv:FuncId->Option QF:=gI WS
def iA (_:FuncId):Bool:=false
theorem QK {K:Nat->Prop}{p:Nat}{cells:List V}{v:V}(hp:¬ K p)(hs:sub cells 2 1=some [v])(bs:List Blk)(lo:Nat)(hg:ah bs p=some cells)(hv:IdRow K bs 7 v) :
 ∃ bs' lo',Cd E TSv iA (.loop [1,3] qE) [(1,.ptr p 0),(3,.d (i64 ((0:Nat):Int)))] ⟨bs,lo⟩=some (.exit 2,[(1,.ptr p 0)],⟨bs',lo'⟩)/\Keeps K bs bs'/\∀ b n cap,v=.row b 0 n cap 7->∀ x,x≠b->bs'[x]?=bs[x]?:=by
 obtain ⟨nl,rfl⟩ | ⟨b,n,cap,cs,hL,rfl,hn,hb,hi⟩:=hv
 . refine ⟨bs,lo,?_,Keeps.refl,λb n cap h=>by simp at h⟩;rw [aC];simp [qE,hg,hs]
 . obtain ⟨bs',lo',h1,h2,h3,h4⟩:=jE (E:=E) (T:=TSv) (val:=iA) (keep:=[1,3]) (body:=qE) n (λi=>[(1,.ptr p 0),(3,.d (i64 i))]) (λi bs'=>Keeps K bs bs'/\(∀ x,x≠b->bs'[x]?=bs[x]?)/\∃ cs',ah bs' b=some cs'/\Idc 7 n cs') (.exit 2,[(1,.ptr p 0)])
    (by
      intro i hlt bs1 lo1 ⟨hk,hx,cs1,hc1,hi1⟩;obtain ⟨x,hxx⟩:=hi1 i hlt;have hlen:=(bx.1 hxx).1;obtain ⟨cs2,q1,q2,q3⟩:=wu (y:=.d (u64 (wrap .u64 (x+1)))) hlen;have hgp:=hk.get hp hg;have hsx:=qV hxx;have hw:=ay hlt hn;have h0:((i:Int)<n):=by omega
      have hix:∀ hp,bg none 7 (.row b 0 n cap 7) (.d (.int .i64 i)) hp=some (.ptr b (i * 7),hp):=λhp=>by
       simp only [bg];rw [if_pos ⟨by omega,by omega,trivial⟩];simp
      refine ⟨bs1.set b (.cells cs2),min lo1 b,⟨hk.trans (Keeps.set hL hc1 q2),λy hy=>by rw [ac (Ne.symm hy),hx y hy],cs2,aU hc1,hi1.put q3⟩,λW=>?_⟩;simp [qE,hgp,hs,hix,hc1,hsx,q1,h0,hw,-jJ,-jK])
    (by
      intro bs1 lo1 ⟨hk,hx,cs1,hc1,hi1⟩ W;have hgp:=hk.get hp hg;simp [qE,hgp,hs])
    bs lo ⟨Keeps.refl,λ_ _=>rfl,cs,hb,hi⟩
   exact ⟨bs',lo',h1,h2,λb' n' cap' h=>by simp at h; obtain ⟨rfl,_⟩:=h; exact h3⟩
theorem QL {K:Nat->Prop}{p:Nat}{cells:List V}{v:V}(hp:¬ K p)(hs:sub cells 3 1=some [v])(bs:List Blk)(lo:Nat)(hg:ah bs p=some cells)(hv:IdRow K bs 5 v) :
 ∃ bs' lo',Cd E TSv iA (.loop [1,4] qF) [(1,.ptr p 0),(4,.d (i64 ((0:Nat):Int)))] ⟨bs,lo⟩=some (.exit 4,[(1,.ptr p 0)],⟨bs',lo'⟩)/\Keeps K bs bs'/\∀ b n cap,v=.row b 0 n cap 5->∀ x,x≠b->bs'[x]?=bs[x]?:=by
 obtain ⟨nl,rfl⟩ | ⟨b,n,cap,cs,hL,rfl,hn,hb,hi⟩:=hv
 . refine ⟨bs,lo,?_,Keeps.refl,λb n cap h=>by simp at h⟩;rw [aC];simp [qF,hg,hs]
 . obtain ⟨bs',lo',h1,h2,h3,h4⟩:=jE (E:=E) (T:=TSv) (val:=iA) (keep:=[1,4]) (body:=qF) n (λi=>[(1,.ptr p 0),(4,.d (i64 i))]) (λi bs'=>Keeps K bs bs'/\(∀ x,x≠b->bs'[x]?=bs[x]?)/\∃ cs',ah bs' b=some cs'/\Idc 5 n cs') (.exit 4,[(1,.ptr p 0)])
    (by
      intro i hlt bs1 lo1 ⟨hk,hx,cs1,hc1,hi1⟩;obtain ⟨x,hxx⟩:=hi1 i hlt;have hlen:=(bx.1 hxx).1;obtain ⟨cs2,q1,q2,q3⟩:=wu (y:=.d (u64 (wrap .u64 (x+1)))) hlen;have hgp:=hk.get hp hg;have hsx:=qV hxx;have hw:=ay hlt hn;have h0:((i:Int)<n):=by omega
      have hix:∀ hp,bg none 5 (.row b 0 n cap 5) (.d (.int .i64 i)) hp=some (.ptr b (i * 5),hp):=λhp=>by
       simp only [bg];rw [if_pos ⟨by omega,by omega,trivial⟩];simp
      refine ⟨bs1.set b (.cells cs2),min lo1 b,⟨hk.trans (Keeps.set hL hc1 q2),λy hy=>by rw [ac (Ne.symm hy),hx y hy],cs2,aU hc1,hi1.put q3⟩,λW=>?_⟩;simp [qF,hgp,hs,hix,hc1,hsx,q1,h0,hw,-jJ,-jK])
    (by
      intro bs1 lo1 ⟨hk,hx,cs1,hc1,hi1⟩ W;have hgp:=hk.get hp hg;simp [qF,hgp,hs])
    bs lo ⟨Keeps.refl,λ_ _=>rfl,cs,hb,hi⟩
   exact ⟨bs',lo',h1,h2,λb' n' cap' h=>by simp at h; obtain ⟨rfl,_⟩:=h; exact h3⟩
theorem QM {K:Nat->Prop}{p:Nat}{cells:List V}{v:V}(hp:¬ K p)(hs:sub cells 4 1=some [v])(bs:List Blk)(lo:Nat)(hg:ah bs p=some cells)(hv:IdRow K bs 2 v) :
 ∃ bs' lo',Cd E TSv iA (.loop [1,5] qG) [(1,.ptr p 0),(5,.d (i64 ((0:Nat):Int)))] ⟨bs,lo⟩=some (.exit 6,[(1,.ptr p 0)],⟨bs',lo'⟩)/\Keeps K bs bs'/\∀ b n cap,v=.row b 0 n cap 2->∀ x,x≠b->bs'[x]?=bs[x]?:=by
 obtain ⟨nl,rfl⟩ | ⟨b,n,cap,cs,hL,rfl,hn,hb,hi⟩:=hv
 . refine ⟨bs,lo,?_,Keeps.refl,λb n cap h=>by simp at h⟩;rw [aC];simp [qG,hg,hs]
 . obtain ⟨bs',lo',h1,h2,h3,h4⟩:=jE (E:=E) (T:=TSv) (val:=iA) (keep:=[1,5]) (body:=qG) n (λi=>[(1,.ptr p 0),(5,.d (i64 i))]) (λi bs'=>Keeps K bs bs'/\(∀ x,x≠b->bs'[x]?=bs[x]?)/\∃ cs',ah bs' b=some cs'/\Idc 2 n cs') (.exit 6,[(1,.ptr p 0)])
    (by
      intro i hlt bs1 lo1 ⟨hk,hx,cs1,hc1,hi1⟩;obtain ⟨x,hxx⟩:=hi1 i hlt;have hlen:=(bx.1 hxx).1;obtain ⟨cs2,q1,q2,q3⟩:=wu (y:=.d (u64 (wrap .u64 (x+1)))) hlen;have hgp:=hk.get hp hg;have hsx:=qV hxx;have hw:=ay hlt hn;have h0:((i:Int)<n):=by omega
      have hix:∀ hp,bg none 2 (.row b 0 n cap 2) (.d (.int .i64 i)) hp=some (.ptr b (i * 2),hp):=λhp=>by
       simp only [bg];rw [if_pos ⟨by omega,by omega,trivial⟩];simp
      refine ⟨bs1.set b (.cells cs2),min lo1 b,⟨hk.trans (Keeps.set hL hc1 q2),λy hy=>by rw [ac (Ne.symm hy),hx y hy],cs2,aU hc1,hi1.put q3⟩,λW=>?_⟩;simp [qG,hgp,hs,hix,hc1,hsx,q1,h0,hw,-jJ,-jK])
    (by
      intro bs1 lo1 ⟨hk,hx,cs1,hc1,hi1⟩ W;have hgp:=hk.get hp hg;simp [qG,hgp,hs])
    bs lo ⟨Keeps.refl,λ_ _=>rfl,cs,hb,hi⟩
   exact ⟨bs',lo',h1,h2,λb' n' cap' h=>by simp at h; obtain ⟨rfl,_⟩:=h; exact h3⟩
theorem QN {K:Nat->Prop}{p:Nat}{cells:List V}(hp:¬ K p){b n:Nat}{cap:Option Nat}(hs:sub cells 5 1=some [.row b 0 n cap 5])(bs:List Blk)(lo:Nat)(hg:ah bs p=some cells){cs:List V}(hb:ah bs b=some cs){i:Nat}(hi:i<n){r:V}(hr:cs[i * 5+4]?=some r)(ho:RulOk K b bs r) :
 ∃ bs' lo',Cd E TSv iA (.loop [1,6,7] qH) [(1,.ptr p 0),(6,.d (i64 i)),(7,.d (i64 ((0:Nat):Int)))] ⟨bs,lo⟩=some (.exit 10,[(1,.ptr p 0),(6,.d (i64 i))],⟨bs',lo'⟩)/\Keeps K bs bs'/\ah bs' b=some cs:=by
 have hix:∀ hp,bg none 5 (.row b 0 n cap 5) (.d (.int .i64 i)) hp=some (.ptr b (i * 5),hp):=λhp=>by
  simp only [bg];rw [if_pos ⟨by omega,by omega,trivial⟩];simp
 have hsr:=qV hr;obtain ⟨nl,rfl⟩ | ⟨b',m,cap',cs',hK,hne,rfl,hm,hb',hl⟩:=ho
 . refine ⟨bs,lo,?_,Keeps.refl,hb⟩;rw [aC];simp [qH,hg,hs,hix,hb,hsr]
 . obtain ⟨bs',lo',h1,h2,h3,_⟩:=jE (E:=E) (T:=TSv) (val:=iA) (keep:=[1,6,7]) (body:=qH) m (λj=>[(1,.ptr p 0),(6,.d (i64 i)),(7,.d (i64 j))]) (λj bs'=>Keeps K bs bs'/\ah bs' b=some cs/\∃ cs1,ah bs' b'=some cs1/\m * 3<=cs1.length) (.exit 10,[(1,.ptr p 0),(6,.d (i64 i))])
    (by
      intro j hlt bs1 lo1 ⟨hk,hx,cs1,hc1,hl1⟩;have hlen:j * 3+1<cs1.length:=by omega
      obtain ⟨cs2,q1,q2,q3⟩:=wu (y:=.d (.slice true [])) hlen;have hgp:=hk.get hp hg;have hw:=ay hlt hm;have h0:((j:Int)<m):=by omega
      have hjx:∀ hp,bg none 3 (.row b' 0 m cap' 3) (.d (.int .i64 j)) hp=some (.ptr b' (j * 3),hp):=λhp=>by
       simp only [bg];rw [if_pos ⟨by omega,by omega,trivial⟩];simp
      refine ⟨bs1.set b' (.cells cs2),min lo1 b',⟨hk.trans (Keeps.set hK hc1 q2),(eQ hne).trans hx,cs2,aU hc1,by omega⟩,λW=>?_⟩;simp [qH,hgp,hs,hix,hx,hsr,hjx,hc1,q1,h0,hw,-jJ,-jK])
    (by
      intro bs1 lo1 ⟨hk,hx,cs1,hc1,hl1⟩ W;have hgp:=hk.get hp hg;simp [qH,hgp,hs,hix,hx,hsr])
    bs lo ⟨Keeps.refl,hb,cs',hb',hl⟩
   exact ⟨bs',lo',h1,h2,h3⟩
theorem QO {K:Nat->Prop}{p:Nat}{cells:List V}{v:V}(hp:¬ K p)(hs:sub cells 5 1=some [v])(bs:List Blk)(lo:Nat)(hg:ah bs p=some cells)(hv:PolRow K bs v) :
 ∃ bs' lo',Cd E TSv iA (.loop [1,6] qI) [(1,.ptr p 0),(6,.d (i64 ((0:Nat):Int)))] ⟨bs,lo⟩=some (.exit 8,[],⟨bs',lo'⟩)/\Keeps K bs bs':=by
 obtain ⟨nl,rfl⟩ | ⟨b,n,cap,cs,hK,rfl,hn,hb,hi,hr⟩:=hv
 . refine ⟨bs,lo,?_,Keeps.refl⟩;rw [aC];simp [qI,hg,hs]
 . obtain ⟨bs',lo',h1,h2,_⟩:=jE (E:=E) (T:=TSv) (val:=iA) (keep:=[1,6]) (body:=qI) n (λi=>[(1,.ptr p 0),(6,.d (i64 i))]) (λi bs'=>Keeps K bs bs'/\∃ cs',ah bs' b=some cs'/\Idc 5 n cs'/\∀ i,i<n->∃ r,cs'[i * 5+4]?=some r/\RulOk K b bs' r) (.exit 8,[])
    (by
      intro i hlt bs1 lo1 ⟨hk,cs1,hc1,hi1,hr1⟩;obtain ⟨r,hrr,hro⟩:=hr1 i hlt;have hgp:=hk.get hp hg;obtain ⟨bs2,lo2,d1,d2,d3⟩:=QN (E:=E) hp (cap:=cap) hs bs1 lo1 hgp hc1 hlt hrr hro;obtain ⟨x,hxx⟩:=hi1 i hlt;have hlen:=(bx.1 hxx).1;obtain ⟨cs2,q1,q2,q3⟩:=wu (y:=.d (u64 (wrap .u64 (x+1)))) hlen;have hgp2:=d2.get hp hgp;have hsx:=qV hxx;have hw:=ay hlt hn;have h0:((i:Int)<n):=by omega
      have hix:∀ hp,bg none 5 (.row b 0 n cap 5) (.d (.int .i64 i)) hp=some (.ptr b (i * 5),hp):=λhp=>by
       simp only [bg];rw [if_pos ⟨by omega,by omega,trivial⟩];simp
      have hk2:=d2.trans (Keeps.set hK d3 q2);refine ⟨bs2.set b (.cells cs2),min lo2 b,⟨hk.trans hk2,cs2,aU d3,hi1.put q3,λj hj=>?_⟩,λW=>?_⟩
      . obtain ⟨r',e1,e2⟩:=hr1 j hj;refine ⟨r',?_,e2.keep hk2⟩;rw [q3,if_neg (by omega)];exact e1
      . simp at d1;simp [qI,hgp,hs,h0];rw [au];simp [d1,hgp2,hs,hix,d3,hsx,q1,hw,-jJ,-jK])
    (by
      intro bs1 lo1 ⟨hk,cs1,hc1,hi1,hr1⟩ W;have hgp:=hk.get hp hg;simp [qI,hgp,hs])
    bs lo ⟨Keeps.refl,cs,hb,hi,hr⟩
   exact ⟨bs',lo',h1,h2⟩
end
section
variable {E:Calls'}
def Udc (n:Nat)(cs:List V):Prop:=∀ i,i<n->∃ x,cs[i]?=some (.d (u32 x))
theorem Udc.put {n o:Nat}{cs cs':List V}{x:Int}(h:Udc n cs)(hc:∀ j,cs'[j]?=if j=o then some (.d (u32 x)) else cs[j]?):Udc n cs':=λi hi=>by
 rw [hc];by_cases ho:i=o
 . rw [if_pos ho]; exact ⟨_,rfl⟩
 . rw [if_neg ho]; exact h i hi
def URow (K:Nat->Prop)(bs:List Blk)(v:V):Prop:=(∃ nl,v=.d (.slice nl []))\/∃ b n cap cs,K b/\v=.row b 0 n cap 1/\n<2 ^ 62/\ah bs b=some cs/\Udc n cs
theorem QJ {K:Nat->Prop}{p:Nat}{cells:List V}{v:V}(hp:¬ K p)(hs:sub cells 1 1=some [v])(bs:List Blk)(lo:Nat)(hg:ah bs p=some cells)(hv:URow K bs v) :
 ∃ bs' lo',Cd E TSv iA (.loop [1,2] qC) [(1,.ptr p 0),(2,.d (i64 ((0:Nat):Int)))] ⟨bs,lo⟩=some (.exit 0,[(1,.ptr p 0)],⟨bs',lo'⟩)/\Keeps K bs bs'/\∀ b n cap,v=.row b 0 n cap 1->∀ x,x≠b->bs'[x]?=bs[x]?:=by
 obtain ⟨nl,rfl⟩ | ⟨b,n,cap,cs,hL,rfl,hn,hb,hi⟩:=hv
 . refine ⟨bs,lo,?_,Keeps.refl,λb n cap h=>by simp at h⟩;rw [aC];simp [qC,hg,hs]
 . obtain ⟨bs',lo',h1,h2,h3,h4⟩:=jE (E:=E) (T:=TSv) (val:=iA) (keep:=[1,2]) (body:=qC) n (λi=>[(1,.ptr p 0),(2,.d (i64 i))]) (λi bs'=>Keeps K bs bs'/\(∀ x,x≠b->bs'[x]?=bs[x]?)/\∃ cs',ah bs' b=some cs'/\Udc n cs') (.exit 0,[(1,.ptr p 0)])
    (by
      intro i hlt bs1 lo1 ⟨hk,hx,cs1,hc1,hi1⟩;obtain ⟨x,hxx⟩:=hi1 i hlt;have hlen:=(bx.1 hxx).1;obtain ⟨cs2,q1,q2,q3⟩:=wu (y:=.d (u32 (wrap .u32 (x+1)))) hlen;have hgp:=hk.get hp hg;have hsx:=qV hxx;have hw:=ay hlt hn;have h0:((i:Int)<n):=by omega
      have hix:∀ hp,bg none 1 (.row b 0 n cap 1) (.d (.int .i64 i)) hp=some (.ptr b i,hp):=λhp=>by
       simp only [bg];rw [if_pos ⟨by omega,by omega,trivial⟩];simp
      refine ⟨bs1.set b (.cells cs2),min lo1 b,⟨hk.trans (Keeps.set hL hc1 q2),λy hy=>by rw [ac (Ne.symm hy),hx y hy],cs2,aU hc1,hi1.put q3⟩,λW=>?_⟩;simp [qC,hgp,hs,hix,hc1,hsx,q1,h0,hw,-jJ,-jK])
    (by
      intro bs1 lo1 ⟨hk,hx,cs1,hc1,hi1⟩ W;have hgp:=hk.get hp hg;simp [qC,hgp,hs])
    bs lo ⟨Keeps.refl,λ_ _=>rfl,cs,hb,hi⟩
   exact ⟨bs',lo',h1,h2,λb' n' cap' h=>by simp at h; obtain ⟨rfl,_⟩:=h; exact h3⟩
end
section
variable {E:Calls'}
theorem URow.on {K:Nat->Prop}{bs bs':List Blk}{v:V}(h:URow K bs v)(k:∀ x,K x->bs'[x]?=bs[x]?):URow K bs' v:=by
 obtain h | ⟨b,n,cap,cs,h1,h2,h3,h4,h5⟩:=h
 . exact .inl h
 . exact .inr ⟨b,n,cap,cs,h1,h2,h3,aS (k b h1) h4,h5⟩
structure SpoilsV (L0 M:Nat) (bs:List Blk) (cells:List V):Prop where
 len:cells.length=6
 low:L0<=M
 top:M<=bs.length
 is:∃ (tag:Nat->Nat) (v3 v4 v5 v6 v7:V),sub cells 1 1=some [v3]/\sub cells 2 1=some [v4]/\sub cells 3 1=some [v5]/\sub cells 4 1=some [v6]/\sub cells 5 1=some [v7] ∧
  URow (Tg L0 M tag 3) bs v3/\IdRow (Tg L0 M tag 4) bs 7 v4/\IdRow (Tg L0 M tag 5) bs 5 v5/\IdRow (Tg L0 M tag 6) bs 2 v6/\PolRow (Tg2 L0 M tag) bs v7
theorem s69:TSv 15=some q69:=by kernel_rfl
theorem r69:iA 15=false:=rfl
theorem S69 {L0 M:Nat}{bs:List Blk}{cells:List V}(h:SpoilsV L0 M bs cells):∃ bs',∃ F:Nat->Nat,(∀ lo,Sm E TSv iA 15 [.agg cells] ⟨bs,lo⟩=some (.tup [],⟨bs',F lo⟩))/\∀ x,x<L0->bs'[x]?=bs[x]?:=by
 obtain ⟨tag,v3,v4,v5,v6,v7,s3,s4,s5,s6,s7,r3,r4,r5,r6,r7⟩:=h.is;have hM:=h.top;have hL0:=h.low;have hg:ah (bs++[.cells cells]) bs.length=some cells:=by simp
 have nn:∀ i,¬ Tg L0 M tag i bs.length:=λi h=>by have:=h.2.1; omega
 have n7:¬ Tg2 L0 M tag bs.length:=λh=>by have:=h.2.1; omega
 have la:∀ x,x<bs.length->(bs++[Blk.cells cells])[x]?=bs[x]?:=λx hx=>am hx;have st:∀ {i j:Nat} {b b':List Blk},i≠j->Keeps (Tg L0 M tag i) b b'->∀ x,Tg L0 M tag j x->b'[x]?=b[x]?:=λhij k x h1=>k.1 x λh2=>hij (h2.2.2.symm.trans h1.2.2);have st2:∀ {i:Nat} {b b':List Blk},i≠7->i≠8->Keeps (Tg L0 M tag i) b b'->∀ x,Tg2 L0 M tag x->b'[x]?=b[x]?:=λh7 h8 k x h1=>k.1 x λh2=>by
  have:=h1.2.2; have:=h2.2.2; omega
 obtain ⟨b0,lo0,a0,k0,_⟩:=QJ (E:=E) (nn 3) s3 _ bs.length hg (r3.on λx h1=>la x (by have:=h1.2.1; omega));have g0:=k0.get (nn 3) hg;obtain ⟨b1,lo1,a1,k1,_⟩:=QK (E:=E) (nn 4) s4 b0 lo0 g0 (r4.on λx h1=>(st (by decide) k0 x h1).trans (la x (by have:=h1.2.1; omega)));have g1:=k1.get (nn 4) g0;obtain ⟨b2,lo2,a2,k2,_⟩:=QL (E:=E) (nn 5) s5 b1 lo1 g1 (r5.on λx h1=>(st (by decide) k1 x h1).trans ((st (by decide) k0 x h1).trans (la x (by have:=h1.2.1; omega))));have g2:=k2.get (nn 5) g1;obtain ⟨b3,lo3,a3,k3,_⟩:=QM (E:=E) (nn 6) s6 b2 lo2 g2 (r6.on λx h1=>(st (by decide) k2 x h1).trans ((st (by decide) k1 x h1).trans ((st (by decide) k0 x h1).trans (la x (by have:=h1.2.1; omega)))));have g3:=k3.get (nn 6) g2;obtain ⟨b4,lo4,a4,k4⟩:=QO (E:=E) n7 s7 b3 lo3 g3 (r7.on λx h1=>(st2 (by decide) (by decide) k3 x h1).trans ((st2 (by decide) (by decide) k2 x h1).trans ((st2 (by decide) (by decide) k1 x h1).trans ((st2 (by decide) (by decide) k0 x h1).trans (la x (by have:=h1.2.1; omega))))));have hold:∀ x,x<L0->b4[x]?=bs[x]?:=λx hx=>by
  rw [k4.1 x (λh=>by have:=h.1; omega),k3.1 x (λh=>by have:=h.1; omega),k2.1 x (λh=>by have:=h.1; omega),k1.1 x (λh=>by have:=h.1; omega),k0.1 x (λh=>by have:=h.1; omega),am (by omega)]
 have hB:Bd E TSv iA q69 [.agg cells] ⟨bs,bs.length⟩=some (.tup [],⟨b4,lo4⟩):=by
  simp at a0 a1 a2 a3 a4;simp [ae,q69];rw [au];simp [a0];rw [au];simp [a1];rw [au];simp [a2];rw [au];simp [a3];rw [au];simp [a4,bD]
 by_cases hc:bs.length<=lo4/\(V.tup []).under bs.length=true
 . refine ⟨bs,id,λlo=>?_,λ_ _=>rfl⟩;rw [aW s69 r69];show dL ⟨bs,lo⟩ (Bd E TSv iA q69 [.agg cells] ⟨bs,bs.length⟩)=_;rw [hB,dn,if_pos hc];rfl
 . refine ⟨b4,λlo=>min lo lo4,λlo=>?_,hold⟩;rw [aW s69 r69];show dL ⟨bs,lo⟩ (Bd E TSv iA q69 [.agg cells] ⟨bs,bs.length⟩)=_;rw [hB,dn,if_neg hc]
end
section
theorem Dt {α:Type}(f:α->List D)(l:List α):flat (l.map f)=Vr.flat (l.map λx=>(f x).map V.d):=by
 simp [flat,Vr.flat,List.map_flatten,co]
theorem Row1.g {α:Type}{f:α->List D}{l:List α}{L M L0 i z:Nat}{tag:Nat->Nat}{bs:List Blk}{v:V}(h:Row1 L M bs z (l.map f) v)(hL:L0<=L)(hM:M<=bs.length)(ht:∀ x,L<=x->x<M->tag x=i):RowG (Tg L0 bs.length tag i) bs z (l.map λx=>(f x).map V.d) v:=by
 obtain ⟨h1,h2⟩ | ⟨b,cap,h1,h2,h3,h4,_⟩:=h.2
 . exact .inl ⟨by simpa using h1,h2⟩
 . exact .inr ⟨b,cap,[],⟨by omega,by omega,ht b h1 h2⟩,by simpa using h3,by rw [h4,Dt,List.append_nil]⟩
theorem kN {z:Nat}:∀ {es:List (List V)} {rest:List V},(∀ e∈es,e.length=z)->∀ {i j:Nat} {e:List V},es[i]?=some e->j<z->(Vr.flat es++rest)[i * z+j]?=e[j]?
 | [],_,_,_,_,_,h,_=>by simp at h
 | a::es,rest,hz,0,j,e,h,hj=>by
  have:a=e:=by simpa using h
  subst this;have ha:=hz a (by simp);rw [Vr.flat_cons,List.append_assoc,am (by omega)]
  congr 1
  omega
 | a::es,rest,hz,i+1,j,e,h,hj=>by
  have ha:=hz a (by simp);have ih:=kN (es:=es) (rest:=rest) (λx hx=>hz x (by simp [hx])) (i:=i) (j:=j) (e:=e) (by simpa using h) hj;rw [Vr.flat_cons,List.append_assoc,bm (by rw [ha,Nat.add_mul]; omega),← ih]
  congr 1
  rw [ha,Nat.add_mul];omega
theorem RowG.idRow {α:Type}{f:α->List V}{l:List α}{K:Nat->Prop}{bs:List Blk}{z:Nat}{v:V}(h:RowG K bs z (l.map f) v)(hz:∀ x,(f x).length=z)(hz0:0<z)(hk:∀ x,∃ n,(f x)[0]?=some (.d (u64 n)))(hl:l.length<2 ^ 62):IdRow K bs z v:=by
 obtain ⟨h1,rfl⟩ | ⟨b,cap,rest,h1,rfl,h3⟩:=h
 . exact .inl ⟨true,rfl⟩
 . refine .inr ⟨b,l.length,cap,_,h1,by simp,hl,h3,λi hi=>?_⟩;obtain ⟨n,hn⟩:=hk l[i];refine ⟨n,?_⟩;have:=kN (rest:=rest) (es:=l.map f) (z:=z) (by simp; intro a _; exact hz a) (i:=i) (j:=0) (e:=f l[i]) (by simp [hi]) hz0;rw [← hn,← this];simp
theorem OwnS.spoils {L0:Nat}{tag:Nat->Nat}{bs:List Blk}{d:Cfg}{pl:List (Pol×V)}{v4 v5 v6 v7:V}(S:OwnS L0 tag bs d pl v4 v5 v6 v7)(hd:d.ok)(hL:L0<=bs.length):Spoils L0 bs.length bs (cq d v4 v5 v6 v7):=by
 have hpll:pl.length=d.policies.l.length:=by rw [S.pol]; simp
 refine ⟨rfl,hL,br _,tag,v4,v5,v6,v7,rfl,rfl,rfl,rfl,S.r4.idRow (λ_=>rfl) (by decide) (λx=>⟨x.uid,rfl⟩) hd.1.lt,S.r5.idRow (λ_=>rfl) (by decide) (λx=>⟨x.id,rfl⟩) hd.2.1.lt,S.r6.idRow (λ_=>rfl) (by decide) (λx=>⟨x.id,rfl⟩) hd.2.2.1.lt,?_⟩;obtain ⟨h1,h2⟩ | ⟨b,cap,rest,h1,h2,h3⟩:=S.r7
 . exact .inl ⟨true,h2⟩
 . have hcl:∀ e∈pl.map ji,e.length=5:=λe he=>by obtain ⟨x,_,rfl⟩:=ce.1 he; rfl
   refine .inr ⟨b,pl.length,cap,_,⟨h1.1,h1.2.1,.inl h1.2.2⟩,by simpa using h2,by rw [hpll]; exact hd.2.2.2.1.lt,h3,λi hi=>?_,λi hi=>?_⟩
   . have:=kN (rest:=rest) hcl (i:=i) (j:=0) (e:=ji pl[i]) (by simp [hi]) (by decide);have h2:(ji pl[i])[0]?=some (.d (u64 pl[i].1.id)):=rfl;exact ⟨pl[i].1.id,by rw [← h2,← this]; simp⟩
   . have:=kN (rest:=rest) hcl (i:=i) (j:=4) (e:=ji pl[i]) (by simp [hi]) (by decide);have hm:=bj hi;generalize pl[i]=x at *;refine ⟨x.2,this,?_⟩;have ho:x.1.own∈d.policies.l:=by rw [S.pol]; exact List.mem_map_of_mem hm
     have hf:=(hd.2.2.2.2 _ ho).1.1;simp only [Pol.own,b9] at hf;obtain ⟨q1,q2⟩ | ⟨b',cap',rest',q1,q2,q3⟩:=S.r8 x hm
     . exact .inl ⟨true,q2⟩
     . refine .inr ⟨b',x.1.rules.l.length,cap',_,⟨q1.1,q1.2.1,.inr q1.2.2⟩,?_,by simpa using q2,ch hf (by decide),q3,?_⟩
       . rintro rfl;have e1:=q1.2.2;have e2:=h1.2.2;omega
       . rw [ao,Vr.flat_len (z:=3) (by intro e he; obtain ⟨r,_,rfl⟩:=ce.1 he; rfl)];simp
theorem OwnS.none {L0:Nat}{tag:Nat->Nat}{bs:List Blk}{d:Cfg}{pl:List (Pol×V)}{v4 v5 v6 v7:V}(S:OwnS L0 tag bs d pl v4 v5 v6 v7){n:Nat}(hn:n<=L0)(h4:v4.under n=true)(h5:v5.under n=true)(h6:v6.under n=true)(h7:v7.under n=true)(L1:Nat)(tag1:Nat->Nat)(bs1:List Blk):OwnS L1 tag1 bs1 d pl v4 v5 v6 v7:=by
 have row:∀ {i z:Nat} {es:List (List V)} {v:V},RowG (Tg L0 bs.length tag i) bs z es v->v.under n=true->es=[]/\v=.d (.slice true []):=λh hu=>by
  obtain h | ⟨b,cap,rest,h1,rfl,h3⟩:=h
  . exact h
  . have:=h1.1;simp [V.under] at hu;omega
 have hpl:pl=[]:=by simpa using (row S.r7 h7).1
 exact ⟨.inl (row S.r4 h4),.inl (row S.r5 h5),.inl (row S.r6 h6),.inl (row S.r7 h7),by rw [hpl]; simp,S.pol⟩
theorem cs0 {c:Cfg}{a b d e:V}:sub (cq c a b d e) 0 1=some [.d (u64 c.epoch)]:=(rfl)
end
section
def cU (a:Int):List V:=[.d (u32 a)]
structure ViewS (L0:Nat) (tag:Nat->Nat) (bs:List Blk) (cov:List Int) (pods:List Pod) (svcs:List Svc) (ways:List Way) (pl:List (Pol×V)) (w1 w2 w3 w4 w5:V):Prop where
 r1:RowG (Tg L0 bs.length tag 3) bs 1 (cov.map cU) w1
 r2:RowG (Tg L0 bs.length tag 4) bs 7 (pods.map Rt) w2
 r3:RowG (Tg L0 bs.length tag 5) bs 5 (svcs.map Ru) w3
 r4:RowG (Tg L0 bs.length tag 6) bs 2 (ways.map Rv) w4
 r5:RowG (Tg L0 bs.length tag 7) bs 5 (pl.map ji) w5
 r6:∀ x∈pl,RowG (Tg L0 bs.length tag 8) bs 3 (x.1.rules.l.map λr=>r.own.c.map V.d) x.2
theorem ViewS.none {L0:Nat}{tag:Nat->Nat}{bs:List Blk}{cov:List Int}{pods:List Pod}{svcs:List Svc}{ways:List Way}{pl:List (Pol×V)}{w1 w2 w3 w4 w5:V}(S:ViewS L0 tag bs cov pods svcs ways pl w1 w2 w3 w4 w5){n:Nat}(hn:n<=L0)(k1:w1.under n=true)(k2:w2.under n=true)(k3:w3.under n=true)(k4:w4.under n=true)(k5:w5.under n=true)(L1:Nat)(tag1:Nat->Nat)(bs1:List Blk):ViewS L1 tag1 bs1 cov pods svcs ways pl w1 w2 w3 w4 w5:=by
 have row:∀ {i z:Nat} {es:List (List V)} {v:V},RowG (Tg L0 bs.length tag i) bs z es v->v.under n=true->es=[]/\v=.d (.slice true []):=λh hu=>by
  obtain h | ⟨b,cap,rest,h1,rfl,h3⟩:=h
  . exact h
  . have:=h1.1;simp [V.under] at hu;omega
 have hpl:pl=[]:=by simpa using (row S.r5 k5).1
 exact ⟨.inl (row S.r1 k1),.inl (row S.r2 k2),.inl (row S.r3 k3),.inl (row S.r4 k4),.inl (row S.r5 k5),by rw [hpl]; simp⟩
theorem RowG.uRow {l:List Int}{K:Nat->Prop}{bs:List Blk}{v:V}(h:RowG K bs 1 (l.map cU) v)(hl:l.length<2 ^ 62):URow K bs v:=by
 obtain ⟨h1,rfl⟩ | ⟨b,cap,rest,h1,rfl,h3⟩:=h
 . exact .inl ⟨true,rfl⟩
 . refine .inr ⟨b,l.length,cap,_,h1,by simp,hl,h3,λi hi=>⟨l[i],?_⟩⟩;have:=kN (rest:=rest) (es:=l.map cU) (z:=1) (by simp [cU]) (i:=i) (j:=0) (e:=cU l[i]) (by simp [hi]) (by decide);simpa [cU] using this
theorem ViewS.spoils {L0:Nat}{tag:Nat->Nat}{bs:List Blk}{cov:List Int}{pods:List Pod}{svcs:List Svc}{ways:List Way}{pl:List (Pol×V)}{w1 w2 w3 w4 w5:V}(S:ViewS L0 tag bs cov pods svcs ways pl w1 w2 w3 w4 w5)(e:Int)(hL:L0<=bs.length)(h1:cov.length<2 ^ 62)(h2:pods.length<2 ^ 62)(h3:svcs.length<2 ^ 62)(h4:ways.length<2 ^ 62)(h5:pl.length<2 ^ 62)(h6:∀ x∈pl,x.1.rules.l.length<2 ^ 62):SpoilsV L0 bs.length bs (az e w1 w2 w3 w4 w5):=by
 refine ⟨rfl,hL,br _,tag,w1,w2,w3,w4,w5,rfl,rfl,rfl,rfl,rfl,S.r1.uRow h1,S.r2.idRow (λ_=>rfl) (by decide) (λx=>⟨x.uid,rfl⟩) h2,S.r3.idRow (λ_=>rfl) (by decide) (λx=>⟨x.id,rfl⟩) h3,S.r4.idRow (λ_=>rfl) (by decide) (λx=>⟨x.id,rfl⟩) h4,?_⟩;obtain ⟨q1,q2⟩ | ⟨b,cap,rest,q1,q2,q3⟩:=S.r5
 . exact .inl ⟨true,q2⟩
 . have hcl:∀ e∈pl.map ji,e.length=5:=λe he=>by obtain ⟨x,_,rfl⟩:=ce.1 he; rfl
   refine .inr ⟨b,pl.length,cap,_,⟨q1.1,q1.2.1,.inl q1.2.2⟩,by simpa using q2,h5,q3,λi hi=>?_,λi hi=>?_⟩
   . have:=kN (rest:=rest) hcl (i:=i) (j:=0) (e:=ji pl[i]) (by simp [hi]) (by decide);have h2:(ji pl[i])[0]?=some (.d (u64 pl[i].1.id)):=rfl;exact ⟨pl[i].1.id,by rw [← h2,← this]; simp⟩
   . have:=kN (rest:=rest) hcl (i:=i) (j:=4) (e:=ji pl[i]) (by simp [hi]) (by decide);have hm:=bj hi;generalize pl[i]=x at *;refine ⟨x.2,this,?_⟩;obtain ⟨p1,p2⟩ | ⟨b',cap',rest',p1,p2,p3⟩:=S.r6 x hm
     . exact .inl ⟨true,p2⟩
     . refine .inr ⟨b',x.1.rules.l.length,cap',_,⟨p1.1,p1.2.1,.inr p1.2.2⟩,?_,by simpa using p2,h6 x hm,p3,?_⟩
       . rintro rfl;have e1:=p1.2.2;have e2:=q1.2.2;omega
       . rw [ao,Vr.flat_len (z:=3) (by intro e he; obtain ⟨r,_,rfl⟩:=ce.1 he; rfl)];simp
def VwV (e:Int)(cov:List Int)(pods:List Pod)(svcs:List Svc)(ways:List Way)(pl:List (Pol×V))(w1 w2 w3 w4 w5:V):Vw:=⟨e,⟨iw w1,cov⟩,⟨iw w2,pods⟩,⟨iw w3,svcs⟩,⟨iw w4,ways⟩,⟨iw w5,pl.map ku⟩⟩
section
variable {L0:Nat}{tag:Nat->Nat}{bs:List Blk}{cov:List Int}{pods:List Pod}{svcs:List Svc}{ways:List Way}{pl:List (Pol×V)}{w1 w2 w3 w4 w5:V}(S:ViewS L0 tag bs cov pods svcs ways pl w1 w2 w3 w4 w5)
include S
theorem ViewS.hpol:∀ l:List (Pol×V),(∀ x∈l,x∈pl)->Hngs false (TgA L0 bs.length tag) bs 1 (l.map ji).flatten (l.map λx=>(ku x).c).flatten
 | [],_=>trivial
 | x::l,h=>by
  have ih:=ViewS.hpol l λy hy=>h y (List.mem_cons_of_mem _ hy);have hr:=((S.r6 x (h x (by simp))).all (by decide)).hngD (f:=λr:Rule=>r.own.c) (λ_=>rfl);have he:(ku x).c=[u64 x.1.id,.str x.1.ns,u64 x.1.service,i64 x.1.deny,.slice (iw x.2) (x.1.rules.l.map λr=>r.own.c)]:=by
   simp [ku,Pol.c,Sl.d,co]
  rw [ct,ct,List.flatten_cons,List.flatten_cons,he];exact Hngs.app ⟨Hng.data,Hng.data,Hng.data,Hng.data,hr,trivial⟩ ih
theorem ViewS.fz (e:Int)(bs2:List Blk)(lo2:Nat)(h:∀ x,L0<=x->x<bs.length->bs2[x]?=bs[x]?):bG ⟨bs2,lo2⟩ (az e w1 w2 w3 w4 w5)=some (VwV e cov pods svcs ways pl w1 w2 w3 w4 w5).c:=by
 have hK:∀ x,TgA L0 bs.length tag x->bs2[x]?=bs[x]?:=λx hx=>h x hx.1 hx.2.1;have h1:=(((S.r1.all (by decide)).hngD (f:=bP) (λ_=>rfl)) bs2 lo2 hK 8 (by decide)).1;have h2:=(((S.r2.all (by decide)).hngD (f:=Pod.c) (λ_=>rfl)) bs2 lo2 hK 8 (by decide)).1;have h3:=(((S.r3.all (by decide)).hngD (f:=Svc.c) (λ_=>rfl)) bs2 lo2 hK 8 (by decide)).1;have h4:=(((S.r4.all (by decide)).hngD (f:=Way.c) (λ_=>rfl)) bs2 lo2 hK 8 (by decide)).1;have h5:=(((S.r5.all (by decide)).hng (k:=1) (S.hpol pl λ_ h=>h) (λe he=>by obtain ⟨x,_,rfl⟩:=ce.1 he; rfl) (by simp)) bs2 lo2 hK 8 (by decide)).1;simp only [az,bG,List.mapM_cons,List.mapM_nil,h1,h2,h3,h4,h5];simp [VwV,Vw.c,Sl.d,co]
end
theorem RowG.short {α:Type}{f:α->List V}{K:Nat->Prop}{bs:List Blk}{z:Nat}{l:List α}{v:V}(h:RowG K bs z (l.map f) v):iw v=true->l=[]:=λhn=>by
 obtain ⟨h1,_⟩ | ⟨b,cap,rest,_,rfl,_⟩:=h
 . simpa using h1
 . cases hn
theorem ViewS.ok {L0:Nat}{tag:Nat->Nat}{bs:List Blk}{cov:List Int}{pods:List Pod}{svcs:List Svc}{ways:List Way}{pl:List (Pol×V)}{w1 w2 w3 w4 w5:V}(S:ViewS L0 tag bs cov pods svcs ways pl w1 w2 w3 w4 w5)(e:Int)(h1:cov.length<=big)(h2:pods.length<=big)(h3:svcs.length<=big)(h4:ways.length<=big)(h5:pl.length<=big)(h6:∀ x∈pl,x.1.own.ok):(VwV e cov pods svcs ways pl w1 w2 w3 w4 w5).ok:=by
 refine ⟨⟨h1,λh=>S.r1.short h⟩,⟨h2,λh=>S.r2.short h⟩,⟨h3,λh=>S.r3.short h⟩,⟨h4,λh=>S.r4.short h⟩,⟨by simpa [VwV,Vw.cfg] using h5,λh=>by have:=S.r5.short h; simp [VwV,Vw.cfg,this]⟩,λp hp=>?_⟩;obtain ⟨x,hx,rfl⟩:=ce.1 (show p∈pl.map ku from hp);have:=h6 x hx;refine ⟨⟨by simpa [ku,Pol.own] using this.1.1,λh=>?_⟩,λr hr=>this.2 r hr⟩;have:=(S.r6 x hx).short h;simp [ku,this]
theorem ViewS.next {L0:Nat}{tag:Nat->Nat}{bs bs2:List Blk}{cov:List Int}{pods:List Pod}{svcs:List Svc}{ways:List Way}{pl:List (Pol×V)}{w1 w2 w3 w4 w5:V}(S:ViewS L0 tag bs cov pods svcs ways pl w1 w2 w3 w4 w5)(hl:bs.length<=bs2.length)(ho:∀ x,x<bs.length->bs2[x]?=bs[x]?):ViewS L0 tag bs2 cov pods svcs ways pl w1 w2 w3 w4 w5:=by
 have ho':∀ x,L0<=x->x<bs.length->tag x≠0->bs2[x]?=bs[x]?:=λx _ h _=>ho x h;exact ⟨S.r1.step (by decide) hl ho' λ_ _=>rfl,S.r2.step (by decide) hl ho' λ_ _=>rfl,S.r3.step (by decide) hl ho' λ_ _=>rfl,S.r4.step (by decide) hl ho' λ_ _=>rfl,S.r5.step (by decide) hl ho' λ_ _=>rfl,λx hx=>(S.r6 x hx).step (by decide) hl ho' λ_ _=>rfl⟩
end
