/- Regions whose order is open: the run. -/
import Derived.Test.YtllbjfmiilckiaaGreatPf
set_option linter.unusedVariables false
set_option linter.unusedSimpArgs false
namespace Go.Proofs.YtllbjfmiilckiaaGreat
section
open Go.RowKit
def pG (acc:List (List Nat))(o:Oper):List Nat:=ded ((o.after.toList.filter (Region.binds .any ·)).flatMap λe=>e.on::acc.getD e.on [])
theorem Jc {l:List Nat}{x:Nat}:x∈ded l↔x∈l:=by
 induction l with
 | nil=>simp [ded]
 | cons y l ih =>
  have:ded (y::l)=if (ded l).contains y then ded l else y::ded l:=rfl
  rw [this];split
  . rename_i h;rw [ih,List.mem_cons];constructor
    . exact .inr
    . rintro (rfl | h1)
      . exact ih.1 (by simpa using h)
      . exact h1
  . simp [ih]
theorem nK:∀ (l:List Oper) (acc:List (List Nat)),∃ more,l.foldl (λacc o=>acc++[pG acc o]) acc=acc++more/\more.length=l.length/\∀ i (hi:i<l.length),more[i]?=some (pG (acc++more.take i) l[i])
 | [],acc=>⟨[],by simp,rfl,λi hi=>absurd hi (Nat.not_lt_zero _)⟩
 | o::l,acc=>by
  obtain ⟨more,h1,h2,h3⟩:=nK l (acc++[pG acc o]);refine ⟨pG acc o::more,by simp only [List.foldl_cons,h1]; simp,by simp [h2],λi hi=>?_⟩;cases i with
  | zero=>simp
  | succ i =>
   have:=h3 i (by simpa using hi);simpa [List.append_assoc] using this
section
variable {ops:Array Oper}
theorem GL (hord:∀ i o,ops[i]?=some o->∀ e∈o.after,Region.binds .any e=true->e.on<i){i:Nat}{o:Oper}(hi:ops[i]?=some o):(dz ops).getD i []=pG (dz ops) o:=by
 obtain ⟨more,h1,h2,h3⟩:=nK ops.toList [];have hp:dz ops=more:=by simpa [dz,pG] using h1
 obtain ⟨hlt,hget⟩:=Array.getElem?_eq_some_iff.1 hi;have h4:=h3 i (by simpa using hlt);have h5:ops.toList[i]'(by simpa using hlt)=o:=by simpa using hget
 rw [h5] at h4;rw [hp];rw [bp,h4];simp only [List.nil_append,Option.getD_some,pG];have:∀ l:List _,(∀ e∈l,Region.binds .any e=true->e.on<i)->(l.filter (Region.binds .any ·)).flatMap (λe=>e.on::(more.take i).getD e.on [])=(l.filter (Region.binds .any ·)).flatMap λe=>e.on::more.getD e.on []:=by
  intro l hl
  induction l with
  | nil=>rfl
  | cons x xs ih =>
   have ih:=ih λe he=>hl e (List.mem_cons_of_mem _ he);by_cases hb:Region.binds .any x=true
   . have hx:=hl x (by simp) hb;simp only [List.filter_cons,hb,if_true,List.flatMap_cons,ih]
     congr 2
     simp [bp,List.getElem?_take,hx]
   . simp only [List.filter_cons,hb]; exact ih
 exact congrArg ded (this _ λe he=>hord i o hi e (by simpa using he))
theorem qA (hord:∀ i o,ops[i]?=some o->∀ e∈o.after,Region.binds .any e=true->e.on<i){i:Nat}{o:Oper}(hi:ops[i]?=some o){j:Nat} :
 j∈(dz ops).getD i []↔∃ e∈o.after,Region.binds .any e=true/\(j=e.on\/j∈(dz ops).getD e.on []):=by
 rw [GL hord hi,pG,Jc,List.mem_flatMap];constructor
 . rintro ⟨e,he,hj⟩;rw [List.mem_filter] at he;exact ⟨e,by simpa using he.1,he.2,by simpa using hj⟩
 . rintro ⟨e,he,hb,hj⟩;exact ⟨e,List.mem_filter.2 ⟨by simpa using he,hb⟩,by simpa using hj⟩
theorem zJ (hord:∀ i o,ops[i]?=some o->∀ e∈o.after,Region.binds .any e=true->e.on<i):∀ (n i:Nat),i<n->∀ j∈(dz ops).getD i [],j<i
 | 0,i,hi,_,_=>absurd hi (Nat.not_lt_zero _)
 | n+1,i,hi,j,hj=>by
  cases ho:ops[i]? with
  | none =>
   exfalso;obtain ⟨more,h1,h2,h3⟩:=nK ops.toList [];have hp:dz ops=more:=by simpa [dz,pG] using h1
   have:ops.size<=i:=by simpa using ho
   rw [hp,bp,bb (by rw [h2]; simpa using this)] at hj;simp at hj
  | some o =>
   obtain ⟨e,he,hb,hj⟩:=(qA hord ho).1 hj;have:=hord i o ho e he hb;obtain rfl | hj:=hj
   . exact this
   . exact Nat.lt_trans (zJ hord n e.on (by omega) j hj) this
end
structure Drw (P:Program) (C:Calls') (ops:Array Oper) (os:List RO) (pr:Nat->Nat->Prop) (E:Nat->Env) (H:Nat->Hp) (S:Nat->Stp):Prop where
 len:os.length=ops.size
 comp:∀ k (hk:k<os.length) o,ops[k]?=some o->q9 P ops o=some os[k]
 step:∀ k (hk:k<os.length),stepD C os[k] (E k) (H k)=some (S k)/\E (k+1)=gu (E k) os[k].d (S k).v/\H (k+1)=(S k).h'
 st:∀ k,k<=os.length->Stands (E k) (H k)
 plt:∀ k j,pr k j->j<k
 pto:∀ k o,ops[k]?=some o->∀ j,pr k j->∃ e∈o.after,Region.binds .any e=true/\(j=e.on\/pr e.on j)
 pin:∀ k o,ops[k]?=some o->∀ e∈o.after,Region.binds .any e=true->pr k e.on
 apart:∀ i j,i<os.length->j<os.length->i≠j->¬ pr i j->¬ pr j i->(S i).t.spares (S j).t=true
 dst:∀ i j (hi:i<os.length) (hj:j<os.length) d,os[j].d=some d->(i≠j->os[i].d≠some d)/\(d∈rF os[i]->pr i j\/pr j i)
section
variable {P:Program}{C:Calls'}{ops:Array Oper}{os:List RO}{pr:Nat->Nat->Prop}{E:Nat->Env}{H:Nat->Hp}{S:Nat->Stp}
theorem Drw.tr (hC:aQ P C)(D:Drw P C ops os pr E H S){k:Nat}(hk:k<os.length):TrOk (H k) (H (k+1)) (S k).t:=by
 obtain ⟨h1,h2,h3⟩:=D.step k hk;rw [h3]; exact Hr hC h1
theorem Drw.mono (hC:aQ P C)(D:Drw P C ops os pr E H S){k:Nat}:∀ d,k+d<=os.length->(H k).bs.length<=(H (k+d)).bs.length
 | 0,_=>br _
 | d+1,hd=>cj (D.mono hC d (by omega)) (D.tr hC (k:=k+d) (by omega)).le
theorem Drw.le (hC:aQ P C)(D:Drw P C ops os pr E H S){k j:Nat}(hkj:k<=j)(hj:j<=os.length):(H k).bs.length<=(H j).bs.length:=by
 have:=D.mono hC (k:=k) (j-k) (by omega)
 rwa [show k+(j-k)=j from by omega] at this
def vz (H:Nat->Hp)(k b:Nat):Prop:=(H (k+1)).bs[b]?≠(H k).bs[b]?
theorem Drw.ord (hC:aQ P C)(D:Drw P C ops os pr E H S){k i b:Nat}(hk:k<os.length)(hi:i<os.length)(hne:k≠i)(hc:vz H k b)(hl:(S i).t.looks b):pr i k\/pr k i:=by
 apply Classical.byContradiction;intro hno;have ti:=D.tr hC hi;exact EC (D.tr hC hk) ti.call ti.big (D.apart k i hk hi hne (λq=>hno (.inr q)) λq=>hno (.inl q)) hc hl
theorem Drw.later_looks (hC:aQ P C)(D:Drw P C ops os pr E H S){k i b:Nat}(hk:k<i)(hi:i<os.length)(hc:vz H k b)(hc2:vz H i b):(S i).t.looks b:=by
 have ti:=D.tr hC hi;obtain q | q | q:=ti.chg b hc2
 . exact .inl (ti.wr b q)
 . exfalso;have l1:=D.le hC (k:=k+1) (j:=i) (by omega) (by omega);have l0:=(D.tr hC (k:=k) (by omega)).le;have:=ti.lo;apply hc;rw [bb (by omega),bb (by omega)]
 . exact .inr ⟨ti.big q.1,q.2.2.1⟩
theorem Drw.ord2 (hC:aQ P C)(D:Drw P C ops os pr E H S){k i b:Nat}(hk:k<os.length)(hi:i<os.length)(hne:k≠i)(hc:vz H k b)(hc2:vz H i b):pr i k\/pr k i:=by
 obtain h1 | h1:=Nat.lt_or_gt_of_ne hne
 . exact D.ord hC hk hi hne hc (D.later_looks hC h1 hi hc hc2)
 . exact (D.ord hC hi hk (Ne.symm hne) hc2 (D.later_looks hC h1 hk hc2 hc)).symm
def isD (os:List RO)(t k:Nat):Prop:=∃ o,os[k]?=some o/\o.d=some t
structure Mid (P:Program) (C:Calls') (os:List RO) (pr:Nat->Nat->Prop) (E:Nat->Env) (H:Nat->Hp) (B:Nat) (ρ0:Rh) (w0:World) (a0:Act) (lst:Nat->Prop) (a:Act) (w:World) (ρ:Rh) (hS:Hp) (eS:Env):Prop where
 rel:Rel B ρ hS w
 goes:Goes B ρ0 w0 ρ w
 er:ER ρ w eS a.tmps
 defers:a.defers=a0.defers
 len:hS.bs.length=(H os.length).bs.length
 elen:eS.length=(E 0).length
 down:∀ k j,k<os.length->lst k->pr k j->lst j
 env:∀ t j,j<=os.length->(∀ k,k<j->isD os t k->lst k)->(∀ k,j<=k->k<os.length->isD os t k->¬ lst k)->eS.getD t .undef=(E j).getD t .undef
 mem:∀ b j,j<=os.length->(∀ k,k<j->vz H k b->lst k)->(∀ k,j<=k->k<os.length->vz H k b->¬ lst k)->hS.bs.getD b (.cells [])=(H j).bs.getD b (.cells [])
 num:∀ b,ρ.N b->b<(H 0).bs.length\/∃ k,k<os.length/\lst k/\(H k).bs.length<=b/\b<(H (k+1)).bs.length
 gs:∀ b,ρ.G b->b<(H 0).bs.length
theorem zT (e:Env)(d:Option Nat)(v:V):(gu e d v).length=e.length:=by cases d<;>simp [gu]
theorem Drw.elen (D:Drw P C ops os pr E H S):∀ k,k<=os.length->(E k).length=(E 0).length
 | 0,_=>rfl
 | k+1,hk=>by rw [(D.step k (by omega)).2.1,zT]; exact D.elen k (by omega)
theorem uQ {e:Env}{d:Option Nat}{v:V}{t:Nat}(h:d≠some t):(gu e d v).getD t .undef=e.getD t .undef:=by
 cases d with
 | none=>rfl
 | some d =>
  have:d≠t:=λe=>h (by rw [e]);simp [gu,bp,List.getElem?_set,this]
theorem Kw {e e2:Env}{v:V}{t:Nat}(hl:e.length=e2.length):(gu e (some t) v).getD t .undef=(gu e2 (some t) v).getD t .undef:=by
 simp only [gu,bp,List.getElem?_set];by_cases h:t<e.length
 . simp [h,show t<e2.length from by omega]
 . simp [h,show ¬ t<e2.length from by omega]
theorem Mid.slots (D:Drw P C ops os pr E H S){B:Nat}{ρ0 ρ:Rh}{w0 w:World}{a0 a:Act}{lst:Nat->Prop}{hS:Hp}{eS:Env}(M:Mid P C os pr E H B ρ0 w0 a0 lst a w ρ hS eS){i:Nat}(hi:i<os.length)(hnl:¬ lst i)(hpre:∀ j,pr i j->lst j)
 {t:Nat} (ht:t∈rF os[i]):eS.getD t .undef=(E i).getD t .undef:=by
 have key:∀ k,k<os.length->isD os t k->pr i k\/pr k i:=by
  rintro k hk ⟨o,ho,hd⟩;have:os[k]=o:=by rw [ab hk] at ho; exact cv ho
  exact (D.dst i k hi hk t (by rw [this]; exact hd)).2 ht
 refine M.env t i (by omega) (λk hk hd=>?_) λk hk hkn hd hlk=>?_
 . obtain q | q:=key k (by omega) hd
   . exact hpre k q
   . have:=D.plt _ _ q; omega
 . obtain q | q:=key k hkn hd
   . have:=D.plt _ _ q; omega
   . exact hnl (M.down k i hkn hlk q)
theorem Mid.blocks (hC:aQ P C)(D:Drw P C ops os pr E H S){B:Nat}{ρ0 ρ:Rh}{w0 w:World}{a0 a:Act}{lst:Nat->Prop}{hS:Hp}{eS:Env}(M:Mid P C os pr E H B ρ0 w0 a0 lst a w ρ hS eS){i:Nat}(hi:i<os.length)(hnl:¬ lst i)(hpre:∀ j,pr i j->lst j)
 {b:Nat} (hb:(S i).t.looks b):hS.bs.getD b (.cells [])=(H i).bs.getD b (.cells []):=by
 refine M.mem b i (by omega) (λk hk hd=>?_) λk hk hkn hd hlk=>?_
 . obtain q | q:=D.ord hC (by omega) hi (by omega) hd hb
   . exact hpre k q
   . have:=D.plt _ _ q; omega
 . have hne:k≠i:=by rintro rfl; exact hnl hlk
   obtain q | q:=D.ord hC hkn hi hne hd hb
   . have:=D.plt _ _ q; omega
   . exact hnl (M.down k i hkn hlk q)
theorem Mid.next (hC:aQ P C)(D:Drw P C ops os pr E H S){B:Nat}{ρ0 ρ ρ':Rh}{w0 w w':World}{a0 a a':Act}{lst lst':Nat->Prop}{hS hS':Hp}{eS:Env}(M:Mid P C os pr E H B ρ0 w0 a0 lst a w ρ hS eS){i:Nat}(hi:i<os.length)(hnl:¬ lst i)(hpre:∀ j,pr i j->lst j)
 (hl:∀ k,lst' k↔(lst k\/k=i)) (hR:Rel B ρ' hS' w') (hG:Goes B ρ w ρ' w') (hE:ER ρ' w' (gu eS os[i].d (S i).v) a'.tmps) (hd:a'.defers=a.defers) (hlen:hS'.bs.length=hS.bs.length)
 (h1:∀ b,vz H i b->hS'.bs.getD b (.cells [])=(H (i+1)).bs.getD b (.cells [])) (h2:∀ b,¬ vz H i b->hS'.bs.getD b (.cells [])=hS.bs.getD b (.cells []))
 (hN:∀ b,ρ'.N b->ρ.N b\/((H i).bs.length<=b/\b<(H (i+1)).bs.length)):Mid P C os pr E H B ρ0 w0 a0 lst' a' w' ρ' hS' (gu eS os[i].d (S i).v) where
 rel:=hR
 goes:=M.goes.trans hG
 er:=hE
 defers:=hd.trans M.defers
 len:=hlen.trans M.len
 elen:=by rw [zT]; exact M.elen
 down k j hk hlk hp:=by
  obtain q | rfl:=(hl k).1 hlk
  . exact (hl j).2 (.inl (M.down k j hk q hp))
  . exact (hl j).2 (.inl (hpre j hp))
 env t:=by
  refine yQ (chg:=isD os t) (val:=λj=>(E j).getD t .undef) hi hl hnl (λk hk hn=>?_) (M.env t) (λhc=>?_) λhn=>?_
  . rw [(D.step k hk).2.1];exact uQ λq=>hn ⟨os[k],ab hk,q⟩
  . obtain ⟨o,ho,hdt⟩:=hc;have he:os[i]=o:=by rw [ab hi] at ho; exact cv ho
    refine ⟨?_,λk hik hkn hck hlk=>?_⟩
    . rw [(D.step i hi).2.1,he,hdt];exact Kw (by rw [M.elen,D.elen i (by omega)])
    . obtain ⟨o2,ho2,hdt2⟩:=hck;have he2:os[k]=o2:=by rw [ab hkn] at ho2; exact cv ho2
      exact (D.dst k i hkn hi t (by rw [he]; exact hdt)).1 (by omega) (by rw [he2]; exact hdt2)
  . exact uQ λq=>hn ⟨os[i],ab hi,q⟩
 mem b:=by
  refine yQ (chg:=λk=>vz H k b) (val:=λj=>(H j).bs.getD b (.cells [])) hi hl hnl (λk hk hn=>?_) (M.mem b) (λhc=>⟨h1 b hc,λk hik hkn hck hlk=>?_⟩) λhn=>h2 b hn
  . have:(H (k+1)).bs[b]?=(H k).bs[b]?:=Classical.byContradiction hn;simp only [bp,this]
  . obtain q | q:=D.ord2 hC hkn hi (by omega) hck hc
    . have:=D.plt _ _ q; omega
    . exact hnl (M.down k i hkn hlk q)
 num b hb:=by
  obtain q | q:=hN b hb
  . obtain p | ⟨k,p1,p2,p3⟩:=M.num b q
    . exact .inl p
    . exact .inr ⟨k,p1,(hl k).2 (.inl p2),p3⟩
  . exact .inr ⟨i,hi,(hl i).2 (.inr rfl),q⟩
 gs b hb:=M.gs b (by rw [← hG.ext.g]; exact hb)
end
end
section
open Go.RowKit
theorem getD_some {l:List Blk}{b:Nat}(hb:b<l.length):l[b]?=some (l.getD b (.cells [])):=by
 rw [bp,ab hb]; rfl
theorem rW {l l':List Blk}{b:Nat}(h:l[b]?=l'[b]?):l.getD b (.cells [])=l'.getD b (.cells []):=by
 simp only [bp,h]
section
variable {P:Program}{C:Calls'}{ops:Array Oper}{os:List RO}{pr:Nat->Nat->Prop}{E:Nat->Env}{H:Nat->Hp}{S:Nat->Stp}
theorem Ht (hC:aQ P C)(D:Drw P C ops os pr E H S){B:Nat}{ρ0 ρ:Rh}{w0 w:World}{a0 a:Act}{lst lst':Nat->Prop}{hS:Hp}{eS:Env}(M:Mid P C os pr E H B ρ0 w0 a0 lst a w ρ hS eS){i:Nat}(hi:i<os.length)(hnl:¬ lst i)(hpre:∀ j,pr i j->lst j)
 (hl:∀ k,lst' k↔(lst k\/k=i)) {K:Act->World->Prop} {Q:Exit->Act->World->Prop} (hK:∀ a' w' ρ' hS' eS',Mid P C os pr E H B ρ0 w0 a0 lst' a' w' ρ' hS' eS'->K a' w'):wpOp P ops Q i K a w:=by
 have hio:i<ops.size:=by rw [← D.len]; exact hi
 have ho:ops[i]?=some ops[i]:=Array.getElem?_eq_getElem hio;generalize ops[i]=o at ho;have hro:=D.comp i hi o ho;obtain ⟨hr,hdst,hg⟩:=lS hro;obtain ⟨hs,hE1,hH1⟩:=D.step i hi;have hslot:∀ s want,os[i].g=some (s,want)->eS.getD s .undef=(E i).getD s .undef:=λs want hgs=>M.slots D hi hnl hpre (by simp [rF,hgs]);unfold wpOp;simp only [ho];obtain ⟨hop,hgd⟩ | ⟨hv,hh',ht,j,want,hgj,hcase⟩:=mq hs
 ·
   have hw:Region.wanted o (yielded ops a.tmps)=true:=by
    obtain ⟨hg1,hg2⟩ | ⟨j,want,p,s,hg1,hp,hps,hg2⟩:=hg
    . simp [Region.wanted,hg1]
    . obtain hgd | ⟨s',want',hgd,hval⟩:=hgd
      . rw [hg2] at hgd; cases hgd
      . rw [hg2] at hgd;cases hgd;have hy:=lC hp hps M.er ((hslot s want hg2).trans hval);simp [Region.wanted,hg1,hy]
   rw [if_pos hw];obtain ⟨tok,_,hview⟩:=uB hC hop;rw [← hH1] at tok hview;have hle:=tok.le;have hTle:(H (i+1)).bs.length<=hS.bs.length:=by rw [M.len]; exact D.le hC (by omega) (by omega)
   generalize hm:(H i).bs.length=m at *
   let hV:Hp:=⟨(List.range m).map λb=>if (S i).t.call=true\/b∈(S i).t.nd then (H i).bs.getD b (.cells []) else .cells [],m⟩
   have hVl:hV.bs.length=m:=by simp [hV]
   have hVg:∀ b,b<m->hV.bs[b]?=some (if (S i).t.call=true\/b∈(S i).t.nd then (H i).bs.getD b (.cells []) else .cells []):=λb hb=>by
    simp only [hV,List.getElem?_map,List.getElem?_range hb,Option.map_some]
   have hVK:∀ b,b<m->((S i).t.call=true\/b∈(S i).t.nd)->hV.bs[b]?=(H i).bs[b]?:=λb hb hk=>by
    rw [hVg b hb,if_pos hk,getD_some (by omega)]
   obtain ⟨h1,hm1,hlen1,hnew1,hold1⟩:=hview hV hVl rfl hVK;have hlook:∀ b,b<m->((S i).t.call=true\/b∈(S i).t.nd)->(S i).t.looks b:=λb hb hk=>by
    obtain hk | hk:=hk
    . exact .inr ⟨hk,by rw [tok.lo]; omega⟩
    . exact .inl hk
   have hSK:∀ b,b<m->((S i).t.call=true\/b∈(S i).t.nd)->hS.bs.getD b (.cells [])=(H i).bs.getD b (.cells []):=λb hb hk=>M.blocks hC D hi hnl hpre (hlook b hb hk)
   let eM:Env:=eS.map λx=>if x.under m=true then x else .undef
   have hMget:∀ s,eM.getD s .undef=if (eS.getD s .undef).under m=true then eS.getD s .undef else .undef:=λs=>by
    simp only [eM,bp,List.getElem?_map];cases eS[s]? with
    | none=>simp
    | some x=>simp
   have hcongr:opM C os[i].r eM hV=opM C os[i].r (E i) hV:=Ea λx hx=>by
    cases x with
    | c v=>rfl
    | t s =>
     have hsee:s∈rF os[i]:=by
      simp only [rF,List.mem_append,List.mem_filterMap];exact .inl ⟨.t s,hx,rfl⟩
     have:=M.slots D hi hnl hpre hsee;have hu:=(D.st i (by omega)).env s;rw [hm] at hu;simp only [X.ev];rw [hMget,this,if_pos hu]
   have hRv:Rel B (viewρ ρ m λb=>(S i).t.call=true\/b∈(S i).t.nd) hV w:=by
    refine Ic M.rel hVl (by omega) (λb hb hk=>?_) (λb hb hk=>?_) λb blk hb hk hblk=>?_
    . rw [hVK b hb hk,getD_some (l:=(H i).bs) (by omega),getD_some (l:=hS.bs) (by omega),hSK b hb hk]
    . rw [hVg b hb,if_neg hk]
    . rw [hVK b hb hk] at hblk;have:=(D.st i (by omega)).blk hblk;rw [hm] at this;exact this
   have hEv:ER (viewρ ρ m λb=>(S i).t.call=true\/b∈(S i).t.nd) w eM a.tmps:=by
    refine ⟨by simp only [eM,b9]; exact M.er.1,λs=>?_⟩;rw [hMget];split
    . rename_i hu; exact CX (M.er.2 s) hu
    . simp only [VR]
   refine .inl (GI hC hRv hEv hr (hcongr.trans hm1) λv ρ1 w1 k1 k2 k3=>?_)
   let hS':Hp:=⟨(List.range hS.bs.length).map λb=>if (m<=b/\b<h1.bs.length)\/(((S i).t.call=true\/b∈(S i).t.nd)/\b<m) then h1.bs.getD b (.cells []) else hS.bs.getD b (.cells []),0⟩
   have hlen':hS'.bs.length=hS.bs.length:=by simp [hS']
   have hget':∀ b,b<hS.bs.length->hS'.bs[b]?=some (if (m<=b/\b<h1.bs.length)\/(((S i).t.call=true\/b∈(S i).t.nd)/\b<m) then h1.bs.getD b (.cells []) else hS.bs.getD b (.cells [])):=λb hb=>by
    simp only [hS',List.getElem?_map,List.getElem?_range hb,Option.map_some]
   have hnew:∀ b,((m<=b/\b<h1.bs.length)\/(((S i).t.call=true\/b∈(S i).t.nd)/\b<m))->hS'.bs[b]?=h1.bs[b]?:=λb hb=>by
    have hb1:b<h1.bs.length:=by obtain q | q:=hb<;>omega
    rw [hget' b (by omega),if_pos hb,getD_some hb1]
   have hold:∀ b,¬ ((m<=b/\b<h1.bs.length)\/(((S i).t.call=true\/b∈(S i).t.nd)/\b<m))->hS'.bs[b]?=hS.bs[b]?:=λb hb=>by
    obtain q | q:=cr b hS.bs.length
    . rw [hget' b q,if_neg hb,getD_some q]
    . rw [bb q,bb (by omega)]
   have h0m:(H 0).bs.length<=m:=by rw [← hm]; exact D.le hC (by omega) (by omega)
   obtain ⟨q1,q2,q3,q4⟩:=Fh (hS':=hS') M.rel k1 k2 (by omega) (by omega) hlen' (λb hb1 hb2=>⟨λhN=>by
    obtain p | ⟨k,p1,p2,p3,p4⟩:=M.num b hN
    . omega
    . obtain z | z | z:=Nat.lt_trichotomy k i
      . have:=D.le hC (k:=k+1) (j:=i) (by omega) (by omega); omega
      . subst z; exact hnl p2
      . have:=D.le hC (k:=i+1) (j:=k) (by omega) (by omega); omega,λhG=>by
    have:=M.gs b hG; omega⟩) hnew hold
   refine hK _ _ _ hS' _ (M.next hC D hi hnl hpre hl q1 q2 ?_ (put_defers _ _) hlen' (λb hc=>?_) (λb hn=>?_) λb hb=>?_)
   . rw [hdst]; exact si (M.er.ext q2.ext) (q4 k3) o.dst
   . by_cases hset:(m<=b/\b<h1.bs.length)\/(((S i).t.call=true\/b∈(S i).t.nd)/\b<m)
     . refine rW ((hnew b hset).trans (hnew1 b ?_));obtain q | q:=hset
       . exact .inl q.1
       . exact .inr q.1
     . exfalso;apply hc;obtain q | q:=cr b m
       . exact hold1 b q λhk=>hset (.inr ⟨hk,q⟩)
       . have:h1.bs.length<=b:=Nat.le_of_not_lt λq2=>hset (.inl ⟨q,q2⟩);rw [bb (by omega),bb (by omega)]
   . have hsame:(H (i+1)).bs[b]?=(H i).bs[b]?:=Classical.byContradiction hn;by_cases hset:(m<=b/\b<h1.bs.length)\/(((S i).t.call=true\/b∈(S i).t.nd)/\b<m)
     . obtain q | q:=hset
       . exfalso;rw [bb (l:=(H i).bs) (by omega),ab (by omega)] at hsame;cases hsame
       . rw [hSK b q.2 q.1];exact rW (((hnew b (.inr q)).trans (hnew1 b (.inr q.1))).trans hsame)
     . exact rW (hold b hset)
   . obtain q | q:=q3 b hb
     . exact .inl q
     . exact .inr ⟨by omega,by omega⟩
 ·
   have hw:¬ Region.wanted o (yielded ops a.tmps)=true:=by
    obtain ⟨hg1,hg2⟩ | ⟨j',want',p,s,hg1,hp,hps,hg2⟩:=hg
    . rw [hg2] at hgj; cases hgj
    . rw [hg2] at hgj;cases hgj;obtain ⟨b,hb,hne⟩ | hb:=hcase
      . have hy:=lC hp hps M.er ((hslot j want hg2).trans hb);simp [Region.wanted,hg1,hy,hne]
      . have hy:=qh hp hps M.er ((hslot j want hg2).trans hb);simp [Region.wanted,hg1,hy]
   rw [if_neg hw];have hHH:H (i+1)=H i:=by rw [hH1,hh']
   refine hK _ _ ρ hS _ (M.next hC D hi hnl hpre hl M.rel (Goes.refl _ _ _) ?_ (put_defers _ _) rfl (λb hc=>?_) (λ_ _=>rfl) λb hb=>.inl hb)
   . rw [hv,hdst]; exact xU M.er o.dst
   . exact absurd (by rw [hHH]) hc
theorem rz {p q:Nat->Bool}{x:Nat}(h:∀ y,q y=true->p y=true)(hp:p x=true)(hq:q x=false):∀ {l:List Nat},x∈l->(l.filter q).length<(l.filter p).length
 | y::l,hx=>by
  have hle:∀ l:List Nat,(l.filter q).length<=(l.filter p).length:=λl=>by
   induction l with
   | nil=>simp
   | cons z l ih =>
    by_cases hz:q z=true
    . simp [List.filter_cons,hz,h z hz,ih]
    . by_cases hz2:p z=true
      . simp [List.filter_cons,hz,hz2]; omega
      . simp [List.filter_cons,hz,hz2,ih]
  obtain rfl | hx:=List.mem_cons.1 hx
  . simp [List.filter_cons,hp,hq]; exact Nat.lt_succ_of_le (hle l)
  . have ih:=rz h hp hq hx;by_cases hz:q y=true
    . simp [List.filter_cons,hz,h y hz,ih]
    . by_cases hz2:p y=true
      . simp [List.filter_cons,hz,hz2]; omega
      . simp [List.filter_cons,hz,hz2,ih]
theorem MG (hC:aQ P C)(D:Drw P C ops os pr E H S){B:Nat}{ρ0:Rh}{w0:World}{a0:Act}{Q:Exit->Act->World->Prop}
 (hQ:∀ (lst:Nat->Prop) a w ρ hS eS,(∀ k,k<os.length->lst k)->Mid P C os pr E H B ρ0 w0 a0 lst a w ρ hS eS->Q .normal a w) :
 ∀ (fuel:Nat) (listed:Array Bool) (a:Act) (w:World) (ρ:Rh) (hS:Hp) (eS:Env),listed.size=os.length->Mid P C os pr E H B ρ0 w0 a0 (λk=>listed.getD k false=true) a w ρ hS eS->((List.range os.length).filter λk=>!listed.getD k false).length<=fuel->wpAny P .any ops Q fuel listed a w:=by
 have hready:∀ (listed:Array Bool),listed.size=os.length->∀ i,i∈Region.ready .any ops listed->i<os.length/\listed.getD i false=false/\∃ o,ops[i]?=some o/\∀ e∈o.after,Region.binds .any e=true->listed.getD e.on false=true:=by
  intro listed hsz i hi;obtain ⟨h1,o,h2,h3⟩:=mem_ready.1 hi;have hlt:i<os.length:=by rw [D.len]; exact (Array.getElem?_eq_some_iff.1 h2).1
  refine ⟨hlt,?_,o,h2,h3⟩;simp only [Array.getD_eq_getD_getElem?,Array.getElem?_eq_getElem (show i<listed.size from by omega),Option.getD_some] at h1 ⊢;exact h1
 have hall:∀ (listed:Array Bool),listed.size=os.length->Region.ready .any ops listed=[]->∀ n k,k<n->k<os.length->listed.getD k false=true:=by
  intro listed hsz hnil n
  induction n with
  | zero=>intro k hk; exact absurd hk (Nat.not_lt_zero _)
  | succ n ih =>
   intro k hk hkl;apply Classical.byContradiction;intro hno;have hlt:k<ops.size:=by rw [← D.len]; exact hkl
   have:k∈Region.ready .any ops listed:=mem_ready.2 ⟨by
    simp only [Array.getD_eq_getD_getElem?,Array.getElem?_eq_getElem (show k<listed.size from by omega),Option.getD_some] at hno ⊢;simpa using hno,ops[k],Array.getElem?_eq_getElem hlt,λe he hb=>by
     have hp:=D.pin k _ (Array.getElem?_eq_getElem hlt) e he hb;have:=D.plt _ _ hp;exact ih e.on (by omega) (by omega)⟩
   rw [hnil] at this;cases this
 intro fuel
 induction fuel with
 | zero =>
  intro listed a w ρ hS eS hsz M hle;have hnil:Region.ready .any ops listed=[]:=by
   cases hr:Region.ready .any ops listed with
   | nil=>rfl
   | cons i is =>
    obtain ⟨h1,h2,_⟩:=hready listed hsz i (by rw [hr]; simp);have:i∈(List.range os.length).filter λk=>!listed.getD k false:=List.mem_filter.2 ⟨List.mem_range.2 h1,by rw [h2]; rfl⟩;have h0:=List.eq_nil_of_length_eq_zero (Nat.le_zero.1 hle);rw [h0] at this;cases this
  exact ⟨hnil,hQ _ a w ρ hS eS (λk hk=>hall listed hsz hnil (k+1) k (by omega) hk) M⟩
 | succ fuel ih =>
  intro listed a w ρ hS eS hsz M hle;refine ⟨λhnil=>hQ _ a w ρ hS eS (λk hk=>hall listed hsz hnil (k+1) k (by omega) hk) M,λi hi=>?_⟩;obtain ⟨h1,h2,o,h3,h4⟩:=hready listed hsz i hi;have hget:∀ k,(listed.setIfInBounds i true).getD k false=true↔(listed.getD k false=true\/k=i):=by
   intro k;simp only [Array.getD_eq_getD_getElem?,Array.getElem?_setIfInBounds];by_cases e:i=k
   . subst e; simp [show i<listed.size from by omega]
   . have:¬ k=i:=λq=>e q.symm;simp [e,this]
  refine Ht hC D M h1 (by rw [h2]; simp) (λj hj=>?_) hget λa' w' ρ' hS' eS' M'=>ih _ a' w' ρ' hS' eS' (by simpa using hsz) M' ?_
  . obtain ⟨e,he,hb,hj⟩:=D.pto i o h3 j hj;have:=h4 e he hb;obtain rfl | hj:=hj
    . exact this
    . exact M.down e.on j (by have:=D.plt _ _ (D.pin i o h3 e he hb); omega) this hj
  . have:=rz (p:=λk=>!listed.getD k false) (q:=λk=>!(listed.setIfInBounds i true).getD k false) (x:=i) (λy hy=>by
     simp only [Bool.not_eq_true'] at hy ⊢;cases hq:listed.getD y false with
     | false=>rfl
     | true=>rw [(hget y).2 (.inl hq)] at hy; cases hy) (by simp [h2]) (by simp [(hget i).2 (.inr rfl)]) (List.mem_range.2 h1)
    omega
end
end
section
open Go.RowKit
theorem Jk {B:Nat}{ρ:Rh}{h h':Hp}{w:World}(hR:Rel B ρ h w)(hle:h.bs.length<=h'.bs.length)(hs:∀ b,b<h.bs.length->h'.bs[b]?=h.bs[b]?)(hd:∀ b,h.bs.length<=b->b<h'.bs.length->h'.bs[b]?=some (.cells [])):Rel B ρ h' w:=by
 have key:∀ i (hi:i<h'.bs.length),(∃ hi':i<h.bs.length,h'.bs[i]=h.bs[i])\/h'.bs[i]=.cells []:=by
  intro i hi;obtain q | q:=cr i h.bs.length
  . have:=hs i q;rw [ab hi,ab q] at this;exact .inl ⟨q,cv this⟩
  . have:=hd i q hi;rw [ab hi] at this;exact .inr (cv this)
 refine ⟨λi hi=>cg (hR.dom i hi) hle,hR.ln,λi hi hl=>?_,hR.lo,hR.base,hR.inj,λi hi=>?_,hR.xB,λc hc=>⟨(hR.gB c hc).1,cg (hR.gB c hc).2 hle⟩⟩
 . obtain ⟨q,e⟩ | e:=key i hi
   . exact hR.live i q (by rw [← e]; exact hl)
   . rw [e] at hl; simp [Blk.live] at hl
 . obtain ⟨q,e⟩ | e:=key i hi
   . rw [e]; exact hR.mem i q
   . rw [e]; simp only [BR]
theorem IU {P:Program}(hmix:P.follows .mixedOrders=true){C:Calls'}(hC:aQ P C):wH P C:=by
 intro B id ops os e h ρ w a e' h' Q hos hdr ho hR hE hQ;refine wp_region_any hmix ?_;show wpAny P .any ops Q ops.size (Array.replicate ops.size false) a w.drew;have hR:Rel B ρ h w.drew:=hR.same rfl;have hE':ER ρ w.drew e a.tmps:=hE.ext (Goes.drew (B:=B) w).ext;obtain ⟨hlen,hcomp⟩:=mapM_some hos;have hlen':os.length=ops.size:=by simpa using hlen
 unfold tT at hdr;simp only [aq] at hdr;obtain ⟨hd1,hd2⟩:=hdr;have hord:∀ i o,ops[i]?=some o->∀ e∈o.after,Region.binds .any e=true->e.on<i:=by
  intro i o hio x hx hb;have:=cn.1 hd1 (o,i) (List.mem_zipIdx_iff_getElem?.2 (by simpa using hio));have:=cn.1 this x (by simpa using hx);simpa [hb] using this
 have hx:∃ l,lq C os e h=some (l,e',h')/\qm (dz ops) l=true:=by
  unfold uE at ho;split at ho
  . rename_i l e1 h1 hrun;split at ho
    . rename_i hap;cases ho;exact ⟨l,hrun,hap⟩
    . cases ho
  . cases ho
 obtain ⟨l,hrun,hap⟩:=hx;obtain ⟨E,H,rfl,rfl,rfl,rfl,hll,hsteps⟩:=zP hrun
 let S:Nat->Stp:=λk=>(l[k]?).getD ⟨H 0,.undef,H 0,aM (H 0)⟩
 have hS:∀ k (hk:k<os.length),l[k]?=some (S k)/\stepD C os[k] (E k) (H k)=some (S k)/\E (k+1)=gu (E k) os[k].d (S k).v/\H (k+1)=(S k).h':=by
  intro k hk;obtain ⟨s,p1,p2,p3,p4⟩:=hsteps k hk;have:S k=s:=by simp only [S,p1]; rfl
  rw [this]; exact ⟨p1,p2,p3,p4⟩
 have hco:∀ k (hk:k<os.length) o,ops[k]?=some o->q9 P ops o=some os[k]:=by
  intro k hk o hko;obtain ⟨q1,q2⟩:=Array.getElem?_eq_some_iff.1 hko;have:=hcomp k (by simpa using q1) hk;simpa [q2] using this
 have hst:∀ k,k<=os.length->Stands (E k) (H k):=by
  intro k
  induction k with
  | zero=>intro _; exact ⟨B,ρ,w.drew,a.tmps,hR,hE'⟩
  | succ k ih =>
   intro hk;obtain ⟨_,p2,p3,p4⟩:=hS k (by omega);have hlt:k<ops.size:=by omega
   rw [p3,p4];exact (ih (by omega)).stepD hC (hco k (by omega) _ (Array.getElem?_eq_getElem hlt)) p2
 have D:Drw P C ops os (λi j=>j∈(dz ops).getD i []) E H S:=by
  refine ⟨hlen',hco,λk hk=>(hS k hk).2,hst,λk j hj=>zJ hord (k+1) k (by omega) j hj,λk o hko j hj=>(qA hord hko).1 hj,λk o hko x hx hb=>(qA hord hko).2 ⟨x,hx,hb,.inl rfl⟩,λi j hi hj hne n1 n2=>?_,λi j hi hj d hd=>?_⟩
  . have:=cn.1 hap i (List.mem_range.2 (by omega));have:=cn.1 this j (List.mem_range.2 (by omega));rw [(hS i hi).1,(hS j hj).1] at this;have c1:((dz ops).getD i []).contains j=false:=by
     cases hq:((dz ops).getD i []).contains j with
     | false=>rfl
     | true=>exact absurd (by simpa using hq) n1
    have c2:((dz ops).getD j []).contains i=false:=by
     cases hq:((dz ops).getD j []).contains i with
     | false=>rfl
     | true=>exact absurd (by simpa using hq) n2
    rw [c1,c2] at this;simpa [hne] using this
  . have:=cn.1 hd2 i (List.mem_range.2 hi);have:=cn.1 this j (List.mem_range.2 hj);rw [ab hi,ab hj] at this;simp only [hd,aq] at this;obtain ⟨t1,t2⟩:=this;refine ⟨λhne=>?_,λhsee=>?_⟩
    . obtain q | q:=Bool.or_eq_true_iff.1 t1
      . exact absurd (by simpa using q) hne
      . simpa using q
    . obtain q | q:=Bool.or_eq_true_iff.1 t2
      . obtain q | q:=Bool.or_eq_true_iff.1 q
        . have hcon:(rF os[i]).contains d=true:=by simpa using hsee
          rw [hcon] at q; cases q
        . simp only [aq] at q;exact .inl (by simpa using q.2)
      . simp only [aq] at q;exact .inr (by simpa using q.2)
 have hT:=D.le hC (k:=0) (j:=os.length) (by omega) (by omega)
 let hS0:Hp:=⟨(List.range (H os.length).bs.length).map λb=>(H 0).bs.getD b (.cells []),0⟩
 have hl0:hS0.bs.length=(H os.length).bs.length:=by simp [hS0]
 have hg0:∀ b,b<(H os.length).bs.length->hS0.bs[b]?=some ((H 0).bs.getD b (.cells [])):=λb hb=>by
  simp only [hS0,List.getElem?_map,List.getElem?_range hb,Option.map_some]
 have hR0:Rel B ρ hS0 w.drew:=Jk hR (by omega) (λb hb=>by rw [hg0 b (by omega),getD_some hb]) λb hb hb2=>by
  rw [hg0 b (by omega),bp,bb hb]; rfl
 have hf:∀ k,¬ (Array.replicate ops.size false).getD k false=true:=λk=>by
  simp only [Array.getD_eq_getD_getElem?,Array.getElem?_replicate];split<;>simp
 have M:Mid P C os (λi j=>j∈(dz ops).getD i []) E H B ρ w.drew a (λk=>(Array.replicate ops.size false).getD k false=true) a w.drew ρ hS0 (E 0):=by
  refine ⟨hR0,Goes.refl _ _ _,hE',rfl,hl0,rfl,λk j hk hlk _=>absurd hlk (hf k),λt j hj ha _=>?_,λb j hj ha _=>?_,λb hb=>.inl (hR.dom b hb),λb hb=>(hR.gB b hb).2⟩
  . have:∀ d,d<=j->(E d).getD t .undef=(E 0).getD t .undef:=by
     intro d
     induction d with
     | zero=>intro _; rfl
     | succ d ih =>
      intro hd;rw [← ih (by omega),(D.step d (by omega)).2.1];exact uQ λq=>hf d (ha d (by omega) ⟨os[d],ab (by omega),q⟩)
    exact (this j (br _)).symm
  . have:∀ d,d<=j->(H d).bs[b]?=(H 0).bs[b]?:=by
     intro d
     induction d with
     | zero=>intro _; rfl
     | succ d ih =>
      intro hd;rw [← ih (by omega)];exact Classical.byContradiction λq=>hf d (ha d (by omega) q)
    rw [rW (this j (br _))];obtain q | q:=cr b (H os.length).bs.length
    . have:=hg0 b q;rw [bp,this]; rfl
    . simp only [bp];rw [bb (by omega),bb (by omega)]
 refine MG hC D (λlst a' w' ρ' hS' eS' hall M'=>?_) ops.size (Array.replicate ops.size false) a w.drew ρ hS0 (E 0) (by simp [hlen']) M ?_
 . have hb:hS'.bs=(H os.length).bs:=List.ext_getElem? λb=>by
    have:=M'.mem b os.length (br _) (λk hk _=>hall k hk) λk h1 h2=>by omega
    obtain q | q:=cr b (H os.length).bs.length
    . rw [getD_some (l:=hS'.bs) (by rw [M'.len]; exact q),getD_some q,this]
    . rw [bb q,bb (by rw [M'.len]; exact q)]
   refine hQ a' w' ⟨ρ',M'.rel.bs hb.symm,(Goes.drew w).trans M'.goes,⟨?_,λi=>?_⟩,M'.defers⟩
   . rw [D.elen os.length (br _),← M'.elen]; exact M'.er.1
   . rw [← M'.env i os.length (br _) (λk hk _=>hall k hk) λk h1 h2=>by omega];exact M'.er.2 i
 . rw [← hlen'];exact cj (List.length_filter_le _ _) (by simp)
theorem reads {P:Program}(hmix:P.follows .mixedOrders=true){E:Calls'}(hE:aQ P E){F:FuncId->Option RF}(val:FuncId->Bool)(hT:Ca P F)(k:Nat):aQ P (vI E F val k) :=
 Hm hE val hT (λ_ hC=>IU hmix hC) k
end
section
theorem AL {P:Program}:∀ (c:Code) {rc:RC},comp P c=some rc->rc.strip=rc:=by
 intro c
 induction c with
 | scope b ih=>intro rc h; exact ih h
 | region id ops draw =>
  intro rc h;simp only [comp] at h;replace h:=af h; obtain ⟨os,hos,h⟩:=h;split at h
  . split at h
    . cases h; rfl
    . cases h
  . cases h; rfl
 | seq x y ihx ihy =>
  intro rc h;simp only [comp] at h;replace h:=af h; obtain ⟨a,ha,h⟩:=h;replace h:=af h; obtain ⟨b,hb,h⟩:=h;cases h;simp only [RC.strip,ihx ha,ihy hb]
 | cond x t f iht ihf =>
  intro rc h;simp only [comp] at h;replace h:=af h; obtain ⟨x',hx,h⟩:=h;replace h:=af h; obtain ⟨a,ha,h⟩:=h;replace h:=af h; obtain ⟨b,hb,h⟩:=h;cases h;simp only [RC.strip,iht ha,ihf hb]
 | block i b ih =>
  intro rc h;simp only [comp] at h;replace h:=af h; obtain ⟨a,ha,h⟩:=h;cases h;simp only [RC.strip,ih ha]
 | loop b ih =>
  intro rc h;simp only [comp] at h;replace h:=af h; obtain ⟨a,ha,h⟩:=h;cases h;simp only [RC.strip,ih ha]
 | skip=>intro rc h; simp [comp] at h; subst h; rfl
 | label l=>intro rc h; simp [comp] at h; subst h; rfl
 | ret=>intro rc h; simp [comp] at h; subst h; rfl
 | exit i=>intro rc h; simp [comp] at h; subst h; rfl
 | goto l=>intro rc h; simp [comp] at h
 | refuse s=>intro rc h; simp [comp] at h
 | rangeFunc f ps x y=>intro rc h; simp [comp] at h
theorem Po (P:Program):Ca P (BB P):=by
 intro f rf h;unfold BB at h;replace h:=af h; obtain ⟨fn,hf,h⟩:=h;replace h:=af h; obtain ⟨b,hb,h⟩:=h;replace h:=af h; obtain ⟨c,hc,h⟩:=h;replace h:=af h; obtain ⟨res,hr,h⟩:=h;split at h
 . cases h
 . rename_i hn;cases h;exact ⟨fn,b,hf,hb,by rw [AL b hc]; exact hc,rfl,hr,hn⟩
end
section
inductive QC where
 | skip
 | ret (keep:List Nat)
 | exit (i:Nat) (keep:List Nat)
 | reg (pr:Option (List (List Nat))) (os:List RO)
 | seq (a b:QC)
 | cond (c:X) (a b:QC)
 | block (i:Nat) (b:QC)
 | loop (keep:List Nat) (b:QC)
structure QF where
 ntmps:Nat
 res:List RV
 code:QC
abbrev EA:=List (Nat×V)
def EA.get:EA->Nat->V
 | [],_=>.undef
 | (j,v)::l,i=>if j=i then v else EA.get l i
def X.ea (a:EA):X->V
 | .t i=>a.get i
 | .c v=>v
def bO (e:EA)(d:Option Nat)(v:V):EA :=
 match d with
 | some i=>(i,v)::e
 | none=>e
def bE (l:List Nat)(e:EA):EA:=l.map λi=>(i,e.get i)
def okV:V->Bool
 | .undef=>false
 | _=>true
def nu:V->Option V
 | .undef=>none
 | v=>some v
def aN (ev:X->V):List V->List (Nat×Nat×X)->Option (List V)
 | cs,[]=>some cs
 | cs,(o,n,x)::ps=>match (ev x).cells with
  | some xs=>if xs.length=n then (match put cs o xs with | some cs'=>aN ev cs' ps | none=>none) else none
  | none=>none
def dH (ev:X->V)(x:Option X)(dft:Nat):Option Nat :=
 match x with
 | none=>some dft
 | some x=>match ev x with
  | .d (.int _ n)=>if 0<=n then some n.toNat else none
  | _=>none
def dU (hp:Hp)(ev:X->V)(k:SK)(z:Nat)(x:V)(lo hi mx:Option X):Option V :=
 match k,x with
 | .sl,.d (.slice nl es)=>match dH ev lo 0,dH ev hi es.length,mx with
  | some l,some h,none=>if l<=h/\h<=es.length/\(es.headD (List.replicate z .nilp)).length=z then some (.d (.slice nl ((es.take h).drop l))) else none
  | _,_,_=>none
 | .sl,.row b o len cap z'=>match dH ev lo 0,dH ev hi len,mx with
  | some l,some h,none =>
   if l<=h/\h<=len/\z'=z then
    (if l=0 then some (.row b o h cap z)
    else if l<len then some (.row b (o+l * z) (h-l) (cap.map (· - l)) z)
    else some (.d (.slice false [])))
   else none
  | some l,some h,some m=>match dH ev (some m) 0 with
   | some m=>if l<=h/\h<=m/\m<=len/\z'=z/\(l=0\/l<m)/\hi.isSome=true then some (.row b (o+l * z) (h-l) (some (m-l)) z) else none
   | none=>none
  | _,_,_=>none
 | .st,.d (.str s)=>match dH ev lo 0,dH ev hi s.size,mx with
  | some l,some h,none=>if l<=h/\h<=s.size then some (.d (.str (s.extract l h))) else none
  | _,_,_=>none
 | .ar n,.ptr b o=>match dH ev lo 0,dH ev hi n,mx with
  | some l,some h,none=>if l<=h/\h<=n/\l<n/\0<n * z then match hp.get b with
   | some cs=>if o+n * z<=cs.length/\n<=2 ^ 40 then some (.row b (o+l * z) (h-l) (some (n-l)) z) else none
   | none=>none
   else none
  | _,_,_=>none
 | _,_=>none
def opE (C:Calls')(r:R)(ev:X->V)(h:Hp):Option (V×Hp) :=
 match r with
 | .mov x=>(nu (ev x)).map (·,h)
 | .pick c a b=>match ev c with
  | .d (.bool t)=>(nu (if t then ev a else ev b)).map (·,h)
  | _=>none
 | .new z=>some (.ptr h.size 0,h.alloc z)
 | .box x=>match (ev x).cells with
  | some cs=>some (.ptr h.size 0,h.alloc cs)
  | none=>none
 | .build zero ps=>match aN ev zero ps with
  | some cs=>some (.agg cs,h)
  | none=>none
 | .buildS z n zero ps=>match aN ev (List.replicate n zero).flatten ps with
  | some cs=>some (.row h.size 0 n (some n) z,h.alloc cs)
  | none=>none
 | .load sc n a=>match loadAt h (ev a) n with
  | some cs=>(mk sc cs).map (·,h)
  | none=>none
 | .store n a x=>match (ev x).cells with
  | some xs=>if xs.length=n/\0<n then (storeAt h (ev a) xs).map (.undef,·) else none
  | none=>none
 | .nilchk x=>match ev x with
  | .ptr b o=>some (.ptr b o,h)
  | .eptr cs o=>some (.eptr cs o,h)
  | .fn f cs=>some (.fn f cs,h)
  | .mfn f cs=>some (.mfn f cs,h)
  | _=>none
 | .bin op x y=>one (dP op (ev x) (ev y)) h
 | .eq k neg x y=>match fQ k (ev x) (ev y) with
  | some b=>some (.d (.bool (b != neg)),h)
  | none=>none
 | .un op x=>one (unD op (ev x)) h
 | .convI k x=>match ev x with
  | .d (.int _ n)=>some (.d (.int k (k.wrap n)),h)
  | _=>none
 | .convBS x=>match ev x with
  | .d (.str _)=>none
  | v=>match aP h v 1 with
   | some (_,cs)=>match cs.mapM (λv=>match v with | .d (.int .u8 n)=>some (UInt8.ofNat n.toNat) | _=>none) with
    | some l=>some (.d (.str ⟨l.toArray⟩),h)
    | none=>none
   | none=>none
 | .convSB x=>match ev x with
  | .d (.str s)=>if s.size<=2 ^ 40 then some (.row h.size 0 s.size none 1,h.alloc (s.toList.map λb=>.d (.int .u8 b.toNat))) else none
  | _=>none
 | .convSS x=>match ev x with
  | .d (.str s)=>some (.d (.str s),h)
  | _=>none
 | .fldA x off=>match ev x with
  | .ptr b o=>some (.ptr b (o+off),h)
  | .eptr cs o=>some (.eptr cs (o+off),h)
  | _=>none
 | .fld sc x off n=>match ev x with
  | .agg cs=>match sub cs off n with
   | some l=>(mk sc l).map (·,h)
   | none=>none
  | _=>none
 | .idxA arr z x i=>match ev i,arr,ev x with
  | .d (.int _ i),none,.d (.slice _ es)=>if 0<=i then (match es[i.toNat]? with | some c=>if c.length=z then some (.eptr c 0,h) else none | none=>none) else none
  | .d (.int _ i),none,.row b o len _ z'=>if 0<=i/\i<len/\z'=z then some (.ptr b (o+i.toNat * z),h) else none
  | .d (.int _ i),some n,.ptr b o=>if 0<=i/\i<n then some (.ptr b (o+i.toNat * z),h) else none
  | .d (.int _ i),some n,.eptr cs o=>if 0<=i/\i<n then some (.eptr cs (o+i.toNat * z),h) else none
  | _,_,_=>none
 | .idx sc n z x i=>match ev i,ev x with
  | .d (.int _ i),.agg cs=>if 0<=i/\i<n then (match sub cs (i.toNat * z) z with | some l=>(mk sc l).map (·,h) | none=>none) else none
  | _,_=>none
 | .idxS x i=>match ev i,ev x with
  | .d (.int _ i),.d (.str s)=>if 0<=i then (match s.toList[i.toNat]? with | some b=>some (.d (.int .u8 b.toNat),h) | none=>none) else none
  | _,_=>none
 | .slc k z x lo hi mx=>(dU h ev k z (ev x) lo hi mx).map (·,h)
 | .mkfn f caps=>if caps.all (λx=>okV (ev x))=true then some (.fn f (caps.map ev),h) else none
 | .mkmv f caps=>if caps.all (λx=>okV (ev x))=true then some (.mfn f (caps.map ev),h) else none
 | .mksl z bytes zero len cap=>match ev len,ev cap with
  | .d (.int .i64 l),.d (.int .i64 c)=>if 0<=l/\l<=c/\c<=2 ^ 30/\bytes<=2 ^ 12 then some (.row h.size 0 l.toNat (some c.toNat) z,h.alloc (List.replicate c.toNat zero).flatten) else none
  | _,_=>none
 | .ext x i=>match ev x with
  | .tup vs=>vs[i]?.map (·,h)
  | _=>none
 | .call f args=>if args.all (λx=>okV (ev x))=true then gK C (ev f) (args.map ev) h else none
 | .app z bytes s x=>match aP h (ev x) z with
  | some (m,xs)=>aK h z bytes (ev s) m xs
  | none=>none
 | .len st x=>match (ev x).len st with
  | some n=>some (.d (.int .i64 n),h)
  | none=>none
 | .copy z a b=>match aP h (ev b) z,ev a with
  | some (m,xs),.row b o len _ z'=>if z'=z then (match h.get b with
   | some cs=>if min m len * z=0 then some (.d (.int .i64 (min m len:Nat)),h) else (match put cs o (xs.take (min m len * z)) with | some cs'=>some (.d (.int .i64 (min m len:Nat)),h.set b cs') | none=>none)
   | none=>none) else none
  | _,_=>none
 | .clear z zero a=>match ev a with
  | .row b o len _ z'=>if z'=z then (match h.get b with
   | some cs=>if len * z=0 then some (.undef,h) else (match put cs o (List.replicate len zero).flatten with | some cs'=>some (.undef,h.set b cs') | none=>none)
   | none=>none) else none
  | .d (.slice _ [])=>some (.undef,h)
  | _=>none
 | .minmax mx xs=>if xs.all (λx=>okV (ev x))=true then match xs.map ev with
  | []=>none
  | v::vs=>match fT mx v vs with
   | some v=>some (v,h)
   | none=>none
  else none
 | .range x=>match ev x with
  | .d (.str s)=>some (.ptr h.size 0,{ h with bs:=h.bs++[.iter s 0] })
  | _=>none
 | .next x=>match ev x with
  | .ptr b 0=>match h.bs[b]? with
   | some (.iter s pos) =>
    if pos<s.size then
     let (c,w):=Utf8.decode s pos
     some (.tup [.d (.bool true),.d (.int .i64 pos),.d (.int .i32 c)],⟨h.bs.set b (.iter s (pos+w)),min h.low b⟩)
    else some (.tup [.d (.bool false)],h)
   | _=>none
  | _=>none
def zt (ev:X->V):R->List Nat
 | .load _ _ a | .convBS a=>(ev a).blk
 | .store _ a _=>(ev a).blk
 | .app _ _ s x=>(ev s).blk++(ev x).blk
 | .copy _ a b=>(ev a).blk++(ev b).blk
 | .clear _ _ a=>(ev a).blk
 | .next x=>(ev x).blk
 | .slc _ _ x _ _ _=>(ev x).blk
 | _=>[]
def uY (ev:X->V):R->List Nat
 | .store _ a _=>(ev a).blk
 | .app _ _ s _=>(ev s).blk
 | .copy _ a _=>(ev a).blk
 | .clear _ _ a=>(ev a).blk
 | .next x=>(ev x).blk
 | _=>[]
def bZ (C:Calls')(r:R)(ev:X->V)(h:Hp):Option (V×Hp×Tr) :=
 match r with
 | .call f args=>if args.all (λx=>okV (ev x))=true then match gK C (ev f) (args.map ev) ⟨h.bs,h.bs.length⟩ with
  | some (v,h')=>if h.bs.length<=h'.low then
   (if h'.bs.length=h.bs.length then some (v,h,⟨true,false,[],[],h.bs.length,h.bs.length,0⟩)
   else some (v,⟨h'.bs,h.low⟩,⟨true,false,[],[],h.bs.length,h'.bs.length,0⟩))
   else some (v,⟨h'.bs,min h.low h'.low⟩,⟨true,true,[],[],h.bs.length,h'.bs.length,⟨h'.low,uu h.bs h'.bs⟩⟩)
  | none=>none
  else none
 | r=>match opE C r ev h with
  | some (v,h')=>some (v,h',⟨false,false,zt ev r,uY ev r,h.bs.length,h'.bs.length,0⟩)
  | none=>none
def fO (C:Calls'):List RO->EA->Hp->Option (EA×Hp)
 | [],e,h=>some (e,h)
 | o::os,e,h =>
  match o.g with
  | none=>match opE C o.r (X.ea e) h with
   | some (v,h')=>fO C os (bO e o.d v) h'
   | none=>none
  | some (j,want)=>match e.get j with
   | .d (.bool t) =>
    if t=want then (match opE C o.r (X.ea e) h with
     | some (v,h')=>fO C os (bO e o.d v) h'
     | none=>none)
    else fO C os (bO e o.d (.tup [])) h
   | .tup []=>fO C os (bO e o.d (.tup [])) h
   | _=>none
def eZ (C:Calls'):List RO->EA->Hp->Option (List Tr×EA×Hp)
 | [],e,h=>some ([],e,h)
 | o::os,e,h =>
  match o.g with
  | none=>match bZ C o.r (X.ea e) h with
   | some (v,h',t)=>match eZ C os (bO e o.d v) h' with
    | some (l,e',h'')=>some (t::l,e',h'')
    | none=>none
   | none=>none
  | some (j,want)=>match e.get j with
   | .d (.bool t) =>
    if t=want then (match bZ C o.r (X.ea e) h with
     | some (v,h',t)=>match eZ C os (bO e o.d v) h' with
      | some (l,e',h'')=>some (t::l,e',h'')
      | none=>none
     | none=>none)
    else (match eZ C os (bO e o.d (.tup [])) h with
     | some (l,e',h'')=>some (aM h::l,e',h'')
     | none=>none)
   | .tup []=>match eZ C os (bO e o.d (.tup [])) h with
    | some (l,e',h'')=>some (aM h::l,e',h'')
    | none=>none
   | _=>none
def aG (pr:List (List Nat))(l:List Tr):Bool :=
 (List.range l.length).all λi=>(List.range l.length).all λj =>
  i==j||(pr.getD i []).contains j||(pr.getD j []).contains i ||
  match l[i]?,l[j]? with
  | some s,some t=>s.spares t
  | _,_=>false
def aA (C:Calls')(pr:List (List Nat))(os:List RO)(e:EA)(h:Hp):Option (EA×Hp) :=
 match eZ C os e h with
 | some (l,e',h')=>if aG pr l=true then some (e',h') else none
 | none=>none
abbrev d9:=Option (Ex×EA×Hp)
def dx (o:d9)(k:EA->Hp->d9):d9 :=
 match o with
 | some (.normal,e,h)=>k e h
 | r=>r
def leave (i:Nat)(o:d9):d9 :=
 match o with
 | some (.exit j,e,h)=>if j=i then some (.normal,e,h) else some (.exit j,e,h)
 | r=>r
def lead (o:Option (EA×Hp)):d9 :=
 match o with
 | some (e,h)=>some (.normal,e,h)
 | none=>none
def fork (v:V)(a b:d9):d9 :=
 match v with
 | .d (.bool true)=>a
 | .d (.bool false)=>b
 | _=>none
def aV (C:Calls'):Nat->QC->EA->Hp->d9
 | 0,_,_,_=>none
 | n+1,c,e,h=>match c with
  | .skip=>some (.normal,e,h)
  | .ret keep=>some (.ret,bE keep e,h)
  | .exit i keep=>some (.exit i,bE keep e,h)
  | .reg none os=>lead (fO C os e h)
  | .reg (some pr) os=>lead (aA C pr os e h)
  | .seq a b=>dx (aV C n a e h) λe h=>aV C n b e h
  | .cond c a b=>fork (c.ea e) (aV C n a e h) (aV C n b e h)
  | .block i b=>leave i (aV C n b e h)
  | .loop keep b=>dx (aV C n b (bE keep e) h) λe h=>aV C n (.loop keep b) e h
def lG (h:Hp)(e:EA):List RV->Option (List V)
 | []=>some []
 | .tmp t::l=>match nu (e.get t),lG h e l with
  | some v,some vs=>some (v::vs)
  | _,_=>none
 | .cell t sc n::l=>match loadAt h (e.get t) n with
  | some cs=>match mk sc cs,lG h e l with
   | some v,some vs=>some (v::vs)
   | _,_=>none
  | none=>none
def jg:Nat->List V->EA
 | _,[]=>[]
 | i,v::l=>(i,v)::jg (i+1) l
def done (q:QF)(o:d9):Option (V×Hp) :=
 match o with
 | some (.normal,e,h) | some (.ret,e,h)=>match lG h e q.res with
  | some vs=>some (bD vs,h)
  | none=>none
 | _=>none
def jh (C:Calls')(n:Nat)(q:QF)(args:List V)(h:Hp):Option (V×Hp):=done q (aV C n q.code (jg 0 args) h)
def ng (args:List V)(h:Hp)(as1:Option (List V))(body:List V->Option (V×Hp)):Option (V×Hp) :=
 match as1 with
 | none=>none
 | some as1=>match body as1 with
  | none=>none
  | some (r,h')=>match frz h' r with
   | none=>none
   | some r'=>if args.all dY=true\/ownR h' r=true then some (r',h) else none
def dL (h:Hp)(o:Option (V×Hp)):Option (V×Hp) :=
 match o with
 | none=>none
 | some (r,h')=>if h.bs.length<=h'.low/\r.under h.bs.length=true then some (r,h) else some (r,⟨h'.bs,min h.low h'.low⟩)
def dM (E:Calls')(T:FuncId->Option QF)(val:FuncId->Bool):Nat->Calls'
 | 0=>λ_ _ _=>none
 | k+1=>λf args h=>match T f with
  | none=>E f args h
  | some q=>if val f=true then ng args h (args.mapM (frz h)) λas1=>jh (dM E T val k) k q as1 ⟨[],0⟩
   else dL h (jh (dM E T val k) k q args ⟨h.bs,h.bs.length⟩)
def R.isCall:R->Bool
 | .call _ _=>true
 | _=>false
def R.reads:R->Bool
 | .load _ _ _ | .convBS _ | .store _ _ _ | .app _ _ _ _ | .copy _ _ _ | .clear _ _ _ | .next _=>true
 | .slc _ _ _ _ _ _=>true
 | _=>false
def R.lays:R->Bool
 | .new _ | .box _ | .buildS _ _ _ _ | .convSB _ | .mksl _ _ _ _ _ | .range _=>true
 | _=>false
def R.writes:R->Bool
 | .store _ _ _ | .app _ _ _ _ | .copy _ _ _ | .clear _ _ _ | .next _=>true
 | _=>false
def R.free (r:R):Bool:=!r.reads&&!r.lays&&!r.writes
def R.still (r:R):Bool:=!r.lays&&!r.writes
def Bn (a b:R):Bool:=a.free||b.free||(a.still&&b.still)||(a.lays&&b.lays)
def Cc (pr:List (List Nat))(os:List RO):Bool :=
 os.all (λo=>!o.r.isCall)&&(List.range os.length).all λi=>(List.range os.length).all λj=>i==j||(pr.getD i []).contains j||(pr.getD j []).contains i ||
  match os[i]?,os[j]? with
  | some a,some b=>Bn a.r b.r
  | _,_=>false
def RC.quiet:RC->RC
 | .reg (some pr) os=>if Cc pr os=true then .reg none os else .reg (some pr) os
 | .seq a b=>.seq a.quiet b.quiet
 | .cond c a b=>.cond c a.quiet b.quiet
 | .block i b=>.block i b.quiet
 | .loop d b=>.loop d b.quiet
 | c=>c
def QC.toRC:QC->RC
 | .skip=>.skip
 | .ret _=>.ret
 | .exit i _=>.exit i
 | .reg pr os=>.reg pr os
 | .seq a b=>.seq a.toRC b.toRC
 | .cond c a b=>.cond c a.toRC b.toRC
 | .block i b=>.block i b.toRC
 | .loop _ b=>.loop [] b.toRC
def QF.toRF (q:QF):RF:=⟨q.ntmps,q.res,q.code.toRC⟩
def RF.quiet (rf:RF):RF:=⟨rf.ntmps,rf.res,rf.code.quiet⟩
def X.fits (n:Nat):X->Bool
 | .t i=>i<n
 | .c _=>true
def RO.fits (n:Nat)(o:RO):Bool:=(match o.d with | some d=>decide (d<n) | none=>true)&&(match o.g with | some (j,_)=>decide (j<n) | none=>true)&&o.r.xs.all (X.fits n)
def QC.fits (n:Nat):QC->Bool
 | .reg _ os=>os.all (RO.fits n)
 | .seq a b=>a.fits n&&b.fits n
 | .cond c a b=>c.fits n&&a.fits n&&b.fits n
 | .block _ b=>b.fits n
 | .loop _ b=>b.fits n
 | _=>true
def RV.slot:RV->Nat
 | .tmp t=>t
 | .cell t _ _=>t
def QF.fits (q:QF):Bool:=q.code.fits q.ntmps&&q.res.all λv=>decide (v.slot<q.ntmps)
def uni (a b:List Nat):List Nat:=b.foldl (λl x=>if l.contains x then l else x::l) a
def VJ:X->List Nat
 | .t i=>[i]
 | .c _=>[]
def Ul (o:RO)(after:List Nat):List Nat :=
 uni (match o.d with | some d=>after.filter (λx=>!(x==d)) | none=>after) (rF o)
def K8:List (Nat×List Nat)->Nat->List Nat
 | [],_=>[]
 | (j,l)::ex,i=>if j==i then l else K8 ex i
def live (ret:List Nat):RC->List (Nat×List Nat)->List Nat->List Nat
 | .skip,_,a=>a
 | .ret,_,_=>ret
 | .exit i,ex,_=>K8 ex i
 | .reg _ os,_,a=>os.foldr Ul a
 | .seq x y,ex,a=>live ret x ex (live ret y ex a)
 | .cond c x y,ex,a=>uni (uni (live ret x ex a) (live ret y ex a)) (VJ c)
 | .block i b,ex,a=>live ret b ((i,a)::ex) a
 | .loop _ b,ex,_=>live ret b ex (live ret b ex (live ret b ex []))
end
section
theorem xn {v w:V}(h:nu v=some w):v=w/\v≠.undef:=by
 cases v<;>simp [nu] at h<;>exact ⟨h,by simp⟩
theorem Nu {v:V}(h:okV v=true):v≠.undef:=by
 intro hv; subst hv; cases h
theorem oz {l:List X}{ev ev':X->V}(hx:∀ x∈l,ev x=.undef\/ev x=ev' x)(h:l.all (λx=>okV (ev x))=true):l.map ev=l.map ev':=by
 apply List.map_congr_left;intro x hm;obtain h1 | h1:=hx x hm
 . exact absurd h1 (Nu (cn.1 h x hm))
 . exact h1
theorem qx {ev:X->V}{e:Env}:∀ {ps:List (Nat×Nat×X)} {cs r:List V},(∀ p∈ps,ev p.2.2=.undef\/ev p.2.2=p.2.2.ev e)->aN ev cs ps=some r->fills e cs ps=some r
 | [],cs,r,_,h=>h
 | (o,n,x)::ps,cs,r,hx,h=>by
  simp only [aN] at h;simp only [fills];obtain h1 | h1:=hx (o,n,x) (by simp)
  . simp only at h1;simp [h1,V.cells] at h
  . simp only at h1;rw [h1] at h;cases hc:(x.ev e).cells with
    | none=>simp [hc] at h
    | some xs =>
     simp only [hc] at h ⊢;split at h
     . rename_i hl;rw [if_pos hl];cases hp:put cs o xs with
       | none=>simp [hp] at h
       | some cs' =>
        simp only [hp] at h ⊢;exact qx (λp hp=>hx p (List.mem_cons_of_mem _ hp)) h
     . cases h
theorem qp {ev:X->V}{e:Env}{x:Option X}{dft n:Nat}(hx:∀ y∈x.toList,ev y=.undef\/ev y=y.ev e)(h:dH ev x dft=some n):bound e x dft=some n:=by
 cases x with
 | none=>exact h
 | some x =>
  obtain h1 | h1:=hx x (by simp)
  . simp [dH,h1] at h
  . simp only [dH,h1] at h; exact h
theorem Ev {hp:Hp}{ev:X->V}{e:Env}{k:SK}{z:Nat}{x:V}{lo hi mx:Option X}{r:V}(hx:∀ y∈lo.toList++hi.toList++mx.toList,ev y=.undef\/ev y=y.ev e)
 (h:dU hp ev k z x lo hi mx=some r):dA hp e k z x lo hi mx=some r:=by
 have hlo:∀ {d n},dH ev lo d=some n->bound e lo d=some n:=λh=>qp (λy hy=>hx y (by simp [hy])) h;have hhi:∀ {d n},dH ev hi d=some n->bound e hi d=some n:=λh=>qp (λy hy=>hx y (by simp [hy])) h;have hmx:∀ {m:X} {d n},mx=some m->dH ev (some m) d=some n->bound e (some m) d=some n:=λq h=>qp (λy hy=>hx y (by simp at hy; simp [q,hy])) h;unfold dU at h;unfold dA;split at h<;>try dsimp only at h ⊢
 . split at h
   . rename_i _ _ e1 e2;rw [hlo e1,hhi e2]; exact h
   . cases h
 . split at h
   . rename_i _ _ e1 e2;rw [hlo e1,hhi e2]; exact h
   . rename_i _ _ _ e1 e2;split at h
     . rename_i e3;rw [hlo e1,hhi e2]; simp only [hmx rfl e3]; exact h
     . cases h
   . cases h
 . split at h
   . rename_i _ _ e1 e2;rw [hlo e1,hhi e2]; exact h
   . cases h
 . split at h
   . rename_i _ _ e1 e2;rw [hlo e1,hhi e2]; exact h
   . cases h
 . cases h
theorem Iz {op:BinOp}{y:V}:dP op .undef y=none:=by cases op<;>simp [dP]
theorem IA {op:BinOp}{x:V}:dP op x .undef=none:=by cases op<;>cases x<;>simp [dP]
theorem Ia {q:EQ}{y:V}:fQ q .undef y=none:=by cases q<;>simp [fQ]
theorem Ib {q:EQ}{x:V}:fQ q x .undef=none:=by cases q<;>cases x<;>simp [fQ]
theorem iK {h:Hp}{xs:List V}:storeAt h .undef xs=none:=rfl
theorem iJ {h:Hp}{z:Nat}:aP h .undef z=none:=rfl
theorem gm {h:Hp}{z b m:Nat}{xs:List V}:aK h z b .undef m xs=none:=rfl
theorem xq {C:Calls'}{r:R}{ev:X->V}{e:Env}{h:Hp}{y:V×Hp}(hx:∀ x∈r.xs,ev x=.undef\/ev x=x.ev e)(hm:opE C r ev h=some y):opM C r e h=some y:=by
 cases r with
 | mov x =>
  obtain h1 | h1:=hx x (by simp [R.xs])
  . simp [opE,h1,nu] at hm
  . simp only [opE,opM,h1] at hm ⊢;cases hn:nu (x.ev e) with
    | none=>simp [hn] at hm
    | some v=>simp [hn] at hm; rw [(xn hn).1]; exact congrArg some hm
 | pick c a b =>
  obtain h1 | h1:=hx c (by simp [R.xs])
  . simp [opE,h1] at hm
  . simp only [opE,opM,h1] at hm ⊢;split at hm
    . rename_i t ht;rw [ht];dsimp only;have key:∀ z,z∈[a,b]->∀ v,nu (ev z)=some v->z.ev e=v:=by
       intro z hz v hv;obtain ⟨q1,q2⟩:=xn hv;rcases hx z (by simp only [R.xs]; exact List.mem_cons_of_mem _ hz) with h2 | h2
       . exact absurd h2 q2
       . rw [← h2,q1]
      cases t
      . simp only [bo,if_false] at hm ⊢;cases hn:nu (ev b) with
        | none=>simp [hn] at hm
        | some v=>simp [hn] at hm; rw [key b (by simp) v hn]; exact congrArg some hm
      . simp only [if_true] at hm ⊢;cases hn:nu (ev a) with
        | none=>simp [hn] at hm
        | some v=>simp [hn] at hm; rw [key a (by simp) v hn]; exact congrArg some hm
    . cases hm
 | new z=>exact hm
 | box x =>
  obtain h1 | h1:=hx x (by simp [R.xs])
  . simp [opE,h1,V.cells] at hm
  . simp only [opE,opM,h1] at hm ⊢; exact hm
 | build zero ps =>
  simp only [opE,opM] at hm ⊢;split at hm
  . rename_i e1;rw [qx (λp hp=>hx _ (by simp only [R.xs]; exact ce.2 ⟨p,hp,rfl⟩)) e1]; exact hm
  . cases hm
 | buildS z n zero ps =>
  simp only [opE,opM] at hm ⊢;split at hm
  . rename_i e1;rw [qx (λp hp=>hx _ (by simp only [R.xs]; exact ce.2 ⟨p,hp,rfl⟩)) e1]; exact hm
  . cases hm
 | mkfn f caps =>
  simp only [opE,opM] at hm ⊢;split at hm
  . rename_i e1;rw [← oz (ev':=(·.ev e)) (λx hm=>hx x (by simpa [R.xs] using hm)) e1]; exact hm
  . cases hm
 | mkmv f caps =>
  simp only [opE,opM] at hm ⊢;split at hm
  . rename_i e1;rw [← oz (ev':=(·.ev e)) (λx hm=>hx x (by simpa [R.xs] using hm)) e1]; exact hm
  . cases hm
 | call f args =>
  simp only [opE,opM] at hm ⊢;split at hm
  . rename_i e1;rw [← oz (ev':=(·.ev e)) (λx hm=>hx x (by simp [R.xs,hm])) e1];obtain h1 | h1:=hx f (by simp [R.xs])
    . simp [h1,gK] at hm
    . rw [← h1]; exact hm
  . cases hm
 | minmax mx xs =>
  simp only [opE] at hm;split at hm
  . rename_i e1;rw [oz (ev':=(·.ev e)) (λx hm=>hx x (by simpa [R.xs] using hm)) e1] at hm;cases xs with
    | nil=>cases hm
    | cons x xs=>exact hm
  . cases hm
 | slc k z x lo hi mx =>
  simp only [opE,opM] at hm ⊢;obtain h1 | h1:=hx x (by simp [R.xs])
  . rw [h1] at hm;cases k<;>simp [dU] at hm
  . rw [h1] at hm;cases hs:dU h ev k z (x.ev e) lo hi mx with
    | none=>rw [hs] at hm; simp at hm
    | some r =>
     rw [hs] at hm;rw [Ev (e:=e) (λy hy=>hx y (by simp only [R.xs,List.append_assoc] at hy ⊢; simp only [List.mem_append] at hy ⊢; exact .inr hy)) hs];exact hm
 | _ =>
  simp only [R.xs,List.mem_cons,List.not_mem_nil,or_false,forall_eq_or_imp,forall_eq] at hx;simp only [opE,opM] at hm ⊢;first
  | (obtain ⟨h1 | h1,h2 | h2⟩:=hx<;>rw [h1,h2] at hm<;>first
      | exact hm
      | (exfalso; simp [Iz,IA,Ia,Ib,one] at hm; done)
      | (exfalso; revert hm; simp [loadAt,iK,V.cells,one,iJ,gm]; done)
      | (exfalso; revert hm; split<;>simp [iK,gm]; done)
      | (exfalso; revert hm; split<;>split<;>simp [iK,gm]; done)
      | (exfalso; revert hm; (repeat' split)<;>simp_all [iK,gm]; done))
  | (obtain h1 | h1:=hx<;>rw [h1] at hm<;>first
      | exact hm
      | (exfalso; revert hm; simp [loadAt,storeAt,unD,fQ,V.cells,V.len,one,aP,aK]; done)
      | (exfalso; revert hm; (repeat' split)<;>simp_all [unD,V.len,iJ]; done))
end
section
def Sub (n:Nat)(a:EA)(e:Env):Prop:=n<=e.length/\∀ i,a.get i=.undef\/a.get i=e.getD i .undef
theorem Sub.x {n:Nat}{a:EA}{e:Env}(h:Sub n a e)(x:X):x.ea a=.undef\/x.ea a=x.ev e:=by
 cases x with
 | c v=>exact .inr rfl
 | t i =>
  exact h.2 i
theorem Sub.set {n:Nat}{a:EA}{e:Env}(h:Sub n a e){d:Option Nat}(hd:∀ i,d=some i->i<n)(v:V):Sub n (bO a d v) (gu e d v):=by
 cases d with
 | none=>exact h
 | some j =>
  have hj:=hd j rfl;refine ⟨by simp only [gu,List.length_set]; exact h.1,λi=>?_⟩;simp only [bO,gu,EA.get];by_cases hij:j=i
  . subst hij;rw [if_pos rfl];exact .inr (by rw [bp,List.getElem?_set_self (by have:=h.1; omega)]; rfl)
  . rw [if_neg hij];obtain h1 | h2:=h.2 i
    . exact .inl h1
    . exact .inr (by rw [h2,bp,bp,ac hij])
theorem oL:∀ (l:List Nat) (e:EA) (i:Nat),(bE l e).get i=if i∈l then e.get i else .undef
 | [],e,i=>by simp [bE,EA.get]
 | j::l,e,i=>by
  have ih:=oL l e i;simp only [bE] at ih;simp only [bE,ct,EA.get,ih];by_cases hij:j=i
  . subst hij; simp
  . have hij':¬ i=j:=λh=>hij h.symm;simp [hij,hij']
theorem Sub.keep {n:Nat}{a:EA}{e:Env}(h:Sub n a e)(l:List Nat):Sub n (bE l a) e:=by
 refine ⟨h.1,λi=>?_⟩;rw [oL];split
 . exact h.2 i
 . exact .inl rfl
def wW (n:Nat)(keep:List Nat):List Nat:=(List.range n).filter λi=>!keep.contains i
theorem zo:∀ (l:List Nat) (e:Env) (i:Nat),i ∉ l->(mask l e).getD i .undef=e.getD i .undef/\(mask l e).length=e.length
 | [],e,i,_=>⟨rfl,rfl⟩
 | j::l,e,i,h=>by
  simp only [List.mem_cons,not_or] at h;have ih:=zo l (e.set j .undef) i h.2;simp only [mask] at ih;simp only [mask,List.foldl_cons];refine ⟨ih.1.trans ?_,ih.2.trans (by simp)⟩;rw [bp,bp,ac (λq=>h.1 q.symm)]
theorem zq:∀ (l:List Nat) (e:Env),(mask l e).length=e.length
 | [],e=>rfl
 | j::l,e=>by
  have ih:=zq l (e.set j .undef);simp only [mask] at ih;simp only [mask,List.foldl_cons];exact ih.trans (by simp)
theorem Sub.mask {n:Nat}{a:EA}{e:Env}(h:Sub n a e)(l:List Nat):Sub n (bE l a) (mask (wW n l) e):=by
 refine ⟨by rw [zq]; exact h.1,λi=>?_⟩;rw [oL];split
 . rename_i hi;obtain h1 | h2:=h.2 i
   . exact .inl h1
   . refine .inr ?_;rw [h2];refine ((zo (wW n l) e i ?_).1).symm;simp [wW,hi]
 . exact .inl rfl
theorem RO.fits_d {n:Nat}{o:RO}(h:o.fits n=true):∀ i,o.d=some i->i<n:=by
 intro i hi;simp only [RO.fits,hi,aq,bw] at h;exact h.1.1
theorem mH {C:Calls'}{n:Nat}:∀ {os:List RO} {a:EA} {e:Env} {h:Hp} {a':EA} {h':Hp},os.all (RO.fits n)=true->Sub n a e->fO C os a h=some (a',h')->∃ e',jF C os e h=some (e',h')/\Sub n a' e'
 | [],a,e,h,a',h',_,hs,hm=>by simp only [fO] at hm; cases hm; exact ⟨e,rfl,hs⟩
 | o::os,a,e,h,a',h',hf,hs,hm=>by
  simp only [List.all_cons,aq] at hf;have hd:=RO.fits_d hf.1;have hx:∀ x∈o.r.xs,x.ea a=.undef\/x.ea a=x.ev e:=λx _=>hs.x x;simp only [fO] at hm;simp only [jF];split at hm
  . rename_i hg;simp only [hg];split at hm
    . rename_i v h1 ho;rw [xq hx ho];exact mH hf.2 (hs.set hd v) hm
    . cases hm
  . rename_i j want hg;simp only [hg];have hj:=hs.2 j;split at hm
    . rename_i t ht;have hj2:e.getD j .undef=.d (.bool t):=by rw [ht] at hj; obtain q | q:=hj; (· cases q); exact q.symm
      simp only [hj2];split at hm
      . rename_i htw;rw [if_pos htw];split at hm
        . rename_i v h1 ho;rw [xq hx ho];exact mH hf.2 (hs.set hd v) hm
        . cases hm
      . rename_i htw;rw [if_neg htw];exact mH hf.2 (hs.set hd _) hm
    . rename_i ht;have hj2:e.getD j .undef=.tup []:=by rw [ht] at hj; obtain q | q:=hj; (· cases q); exact q.symm
      simp only [hj2];exact mH hf.2 (hs.set hd _) hm
    . cases hm
theorem zx {ev:X->V}{e:Env}{r:R}(C:Calls'){h:Hp}{y:V×Hp}(hx:∀ x∈r.xs,ev x=.undef\/ev x=x.ev e)(hm:opE C r ev h=some y):zt ev r=fM e r/\uY ev r=dI e r:=by
 cases r<;>first
 | exact ⟨rfl,rfl⟩
 | (simp only [R.xs,List.mem_cons,List.not_mem_nil,or_false,forall_eq_or_imp,forall_eq] at hx
    obtain ⟨h1 | h1,h2 | h2⟩:=hx<;>simp only [zt,fM,uY,dI,h1,h2,and_self]<;>first
     | done
     | (exfalso; revert hm; simp only [opE,h1,h2]; simp [iK,V.cells,iJ,gm]; done)
     | (exfalso; revert hm; simp only [opE,h1,h2]; split<;>simp [iK,V.cells,iJ,gm]; done)
     | (exfalso; revert hm; simp only [opE,h1,h2]; split<;>split<;>simp_all [iK,V.cells,iJ,gm]; done))
 | (simp only [R.xs,List.mem_cons,List.not_mem_nil,or_false,forall_eq_or_imp,forall_eq] at hx
    obtain h1 | h1:=hx<;>simp only [zt,fM,uY,dI,h1,and_self] <;>
     (exfalso; revert hm; simp [opE,h1,loadAt,iJ]; done))
 | (rename_i k z x lo hi mx
    obtain h1 | h1:=hx x (by simp [R.xs])
    . exfalso; revert hm; cases k<;>simp [opE,h1,dU]
    . simp only [zt,fM,uY,dI,h1,and_self])
theorem Cv {C:Calls'}{r:R}{ev:X->V}{e:Env}{h:Hp}{y:V×Hp×Tr}(hx:∀ x∈r.xs,ev x=.undef\/ev x=x.ev e)(hm:bZ C r ev h=some y):opD C r e h=some y:=by
 cases r with
 | call f args =>
  simp only [bZ] at hm;simp only [opD];split at hm
  . rename_i e1;rw [← oz (ev':=(·.ev e)) (λx hm=>hx x (by simp [R.xs,hm])) e1];obtain h1 | h1:=hx f (by simp [R.xs])
    . simp [h1,gK] at hm
    . rw [← h1]; exact hm
  . cases hm
 | _ =>
  simp only [bZ] at hm;simp only [opD];split at hm
  . rename_i ho;rw [xq hx ho,← (zx C hx ho).1,← (zx C hx ho).2];exact hm
  . cases hm
theorem xM {C:Calls'}{n:Nat}:∀ {os:List RO} {a:EA} {e:Env} {h:Hp} {l:List Tr} {a':EA} {h':Hp},os.all (RO.fits n)=true->Sub n a e->eZ C os a h=some (l,a',h') →
 ∃ l' e',lq C os e h=some (l',e',h')/\l'.map (·.t)=l/\Sub n a' e'
 | [],a,e,h,l,a',h',_,hs,hm=>by simp only [eZ] at hm; cases hm; exact ⟨[],e,rfl,rfl,hs⟩
 | o::os,a,e,h,l,a',h',hf,hs,hm=>by
  simp only [List.all_cons,aq] at hf;have hd:=RO.fits_d hf.1;have hx:∀ x∈o.r.xs,x.ea a=.undef\/x.ea a=x.ev e:=λx _=>hs.x x;simp only [eZ] at hm;simp only [lq,stepD];have go:∀ {v h1 t},bZ C o.r (X.ea a) h=some (v,h1,t)->(match eZ C os (bO a o.d v) h1 with
   | some (l,e',h'')=>some (t::l,e',h'')
   | none=>none)=some (l,a',h')->∃ l' e',(match lq C os (gu e o.d v) h1 with
   | some (l,e',h')=>some (Stp.mk h v h1 t::l,e',h')
   | none=>none)=some (l',e',h')/\l'.map (·.t)=l/\Sub n a' e':=by
   intro v h1 t _ hm;split at hm
   . rename_i l1 e1 h2 hr;cases hm;obtain ⟨l',e',k1,k2,k3⟩:=xM hf.2 (hs.set hd v) hr;exact ⟨_,e',by rw [k1],by simp [k2],k3⟩
   . cases hm
  have skip:(match eZ C os (bO a o.d (.tup [])) h with
   | some (l,e',h'')=>some (aM h::l,e',h'')
   | none=>none)=some (l,a',h')->∃ l' e',(match lq C os (gu e o.d (.tup [])) h with
   | some (l,e',h')=>some (Stp.mk h (.tup []) h (aM h)::l,e',h')
   | none=>none)=some (l',e',h')/\l'.map (·.t)=l/\Sub n a' e':=by
   intro hm;split at hm
   . rename_i l1 e1 h2 hr;cases hm;obtain ⟨l',e',k1,k2,k3⟩:=xM hf.2 (hs.set hd _) hr;exact ⟨_,e',by rw [k1],by simp [k2],k3⟩
   . cases hm
  split at hm
  . rename_i hg;simp only [hg];split at hm
    . rename_i v h1 t ho;rw [Cv hx ho];exact go ho hm
    . cases hm
  . rename_i j want hg;simp only [hg];have hj:=hs.2 j;split at hm
    . rename_i t ht;have hj2:e.getD j .undef=.d (.bool t):=by rw [ht] at hj; obtain q | q:=hj; (· cases q); exact q.symm
      simp only [hj2];split at hm
      . rename_i htw;rw [if_pos htw];split at hm
        . rename_i v h1 t ho;rw [Cv hx ho];exact go ho hm
        . cases hm
      . rename_i htw;rw [if_neg htw];exact skip hm
    . rename_i ht;have hj2:e.getD j .undef=.tup []:=by rw [ht] at hj; obtain q | q:=hj; (· cases q); exact q.symm
      simp only [hj2];exact skip hm
    . cases hm
def Tr.le (t t':Tr):Prop:=t'.call=t.call/\t'.big=t.big/\t'.nd=t.nd/\t'.wr=t.wr/\t'.lo=t.lo/\t'.hi=t.hi/\t'.bl.n=t.bl.n/\∀ b,t.bl.kp.contains b=true->t'.bl.kp.contains b=true
theorem Tr.le.refl (t:Tr):t.le t:=⟨rfl,rfl,rfl,rfl,rfl,rfl,rfl,λ_ h=>h⟩
theorem Tr.le.spares {t t' u u':Tr}(h:t.le t')(k:u.le u')(hs:t.spares u=true):t'.spares u'=true:=by
 obtain ⟨a1,a2,a3,a4,a5,a6,a7,a8⟩:=h;obtain ⟨b1,b2,b3,b4,b5,b6,b7,b8⟩:=k;unfold Tr.spares at hs ⊢;have hc:t'.calm=t.calm:=by simp only [Tr.calm,a2,a4,a5,a6]
 have hst:u'.still=u.still:=by simp only [Tr.still,b1,b2,b3,b4,b5,b6]
 rw [a2,b2,hc,hst,b1,b3,a4,a5,a6,b5,a7];split at hs
 . rename_i hbg;rw [if_pos hbg];simp only [Bool.or_eq_true] at hs ⊢;obtain ((hs | hs) | hs) | hs:=hs
   . exact .inl (.inl (.inl hs))
   . exact .inl (.inl (.inr hs))
   . refine .inl (.inr ?_);simp only [aq] at hs ⊢;refine ⟨hs.1,?_⟩;rw [cn] at hs ⊢;intro b hb;have:=hs.2 b hb;simp only [Bool.or_eq_true] at this ⊢;exact this.imp id (a8 b)
   . exact .inr hs
 . rename_i hbg;rw [if_neg hbg];exact hs
def TrsLe:List Tr->List Tr->Prop
 | [],[]=>True
 | t::l,t'::l'=>t.le t'/\TrsLe l l'
 | _,_=>False
theorem TrsLe.len:∀ {l l':List Tr},TrsLe l l'->l.length=l'.length
 | [],[],_=>rfl
 | _::_,_::_,h=>by simp [TrsLe.len h.2]
 | [],_::_,h=>h.elim
 | _::_,[],h=>h.elim
theorem TrsLe.get:∀ {l l':List Tr},TrsLe l l'->∀ {i:Nat} {s:Tr},l[i]?=some s->∃ s',l'[i]?=some s'/\s.le s'
 | _::_,t'::_,h,0,s,hs=>by
  simp only [List.getElem?_cons_zero,bd] at hs;subst hs;exact ⟨t',rfl,h.1⟩
 | _::_,_::_,h,i+1,s,hs=>by
  simp only [List.getElem?_cons_succ] at hs ⊢;exact TrsLe.get h.2 hs
 | [],[],_,_,_,hs=>by simp at hs
 | [],_::_,h,_,_,_=>h.elim
 | _::_,[],h,_,_,_=>h.elim
theorem TrsLe.apart {pr:List (List Nat)}{l l':List Tr}(h:TrsLe l l')(ha:aG pr l=true):aG pr l'=true:=by
 unfold aG at ha ⊢;rw [← h.len];simp only [cn,List.mem_range] at ha ⊢;intro i hi j hj;have:=ha i hi j hj;simp only [Bool.or_eq_true] at this ⊢;obtain hh | hh:=this
 . exact .inl hh
 . refine .inr ?_;rw [ab hi,ab hj] at hh;simp only at hh;obtain ⟨s,hs,ms⟩:=h.get (ab hi);obtain ⟨t,ht,mt⟩:=h.get (ab hj);rw [hs,ht];exact ms.spares mt hh
def Tr.drop (t:Tr):Tr:=⟨t.call,t.big,t.nd,t.wr,t.lo,t.hi,⟨t.bl.n,[]⟩⟩
theorem Tr.drop_le (t:Tr):t.drop.le t:=⟨rfl,rfl,rfl,rfl,rfl,rfl,rfl,λb hb=>by cases hb⟩
theorem drop_le:∀ l:List Tr,TrsLe (l.map Tr.drop) l
 | []=>trivial
 | t::l=>⟨t.drop_le,drop_le l⟩
theorem sZ {pr:List (List Nat)}{l:List Tr}(h:aG pr (l.map Tr.drop)=true):aG pr l=true:=(drop_le l).apart h
theorem Ay (pr:List (List Nat))(l:List Stp):aG pr (l.map (·.t))=qm pr l:=by
 simp only [aG,qm,b9]
 congr 1; funext i; congr 1; funext j; congr 1
 simp only [List.getElem?_map];cases l[i]?<;>cases l[j]?<;>rfl
theorem GJ {C:Calls'}{n:Nat}{pr:List (List Nat)}{os:List RO}{a:EA}{e:Env}{h:Hp}{a':EA}{h':Hp}(hf:os.all (RO.fits n)=true)(hs:Sub n a e)(hm:aA C pr os a h=some (a',h')) :
 ∃ e',uE C pr os e h=some (e',h')/\Sub n a' e':=by
 unfold aA at hm;split at hm
 . rename_i l a1 h1 hr;split at hm
   . rename_i hap;cases hm;obtain ⟨l',e',k1,k2,k3⟩:=xM hf hs hr;refine ⟨e',?_,k3⟩;unfold uE;rw [k1];subst k2;rw [Ay] at hap;simp only [hap,if_true]
   . cases hm
 . cases hm
def kindOk (r:R)(t:Tr):Prop:=t.call=false/\t.big=false/\(r.reads=false->t.nd=[])/\(r.writes=false->t.wr=[])/\(r.lays=false->r.writes=false->t.lo=t.hi)
theorem GH {C:Calls'}{r:R}{e:Env}{h:Hp}{v:V}{h':Hp}(hc:r.isCall=false)(h1:r.lays=false)(h2:r.writes=false)(hm:opM C r e h=some (v,h')):h'=h:=by
 cases r<;>simp [R.isCall,R.lays,R.writes] at hc h1 h2<;>simp only [opM,one] at hm;all_goals first
 | (cases hm; rfl)
 | (simp only [bk,cy] at hm; obtain ⟨_,_,_,rfl⟩:=hm; rfl)
 | (split at hm<;>first | (cases hm; rfl) | (simp only [bk,cy] at hm; obtain ⟨_,_,_,rfl⟩:=hm; rfl))
 | ((repeat' split at hm)<;>first | (cases hm; rfl) | cases hm | (simp only [bk,cy] at hm; obtain ⟨_,_,_,rfl⟩:=hm; rfl))
theorem zB {C:Calls'}{r:R}{e:Env}{h:Hp}{v:V}{h':Hp}(hc:r.isCall=false)(hm:opM C r e h=some (v,h')):∃ t,opD C r e h=some (v,h',t)/\kindOk r t:=by
 have hs:=GH (C:=C) (e:=e) (h:=h) (v:=v) (h':=h') hc;cases r with
 | call f args=>simp [R.isCall] at hc
 | _ =>
  refine ⟨_,by simp only [opD,hm]; rfl,rfl,rfl,?_,?_,λh1 h2=>by rw [hs h1 h2 hm]⟩<;>intro q<;>first | rfl | (simp [R.reads,R.writes] at q; done)
theorem yK {C:Calls'}:∀ {os:List RO} {e:Env} {h:Hp} {e':Env} {h':Hp},os.all (λo=>!o.r.isCall)=true->jF C os e h=some (e',h') →
 ∃ l,lq C os e h=some (l,e',h')/\l.length=os.length/\∀ (i:Nat) (s:Stp) (o:RO),l[i]?=some s->os[i]?=some o->kindOk o.r s.t
 | [],e,h,e',h',_,hm=>by simp only [jF] at hm; cases hm; exact ⟨[],rfl,rfl,λi s o h1=>by simp at h1⟩
 | o::os,e,h,e',h',hc,hm=>by
  simp only [List.all_cons,aq,Bool.not_eq_true'] at hc;simp only [jF] at hm;simp only [lq,stepD];have hn:kindOk o.r (aM h):=⟨rfl,rfl,λ_=>rfl,λ_=>rfl,λ_ _=>rfl⟩;have fin:∀ {v:V} {h1:Hp} {t:Tr},kindOk o.r t->jF C os (gu e o.d v) h1=some (e',h')->∃ l,(match lq C os (gu e o.d v) h1 with
   | some (l,e',h')=>some (Stp.mk h v h1 t::l,e',h')
   | none=>none)=some (l,e',h')/\l.length=(o::os).length/\∀ (i:Nat) (s:Stp) (o':RO),l[i]?=some s->(o::os)[i]?=some o'->kindOk o'.r s.t:=by
   intro v h1 t hk hm;obtain ⟨l,k1,k2,k3⟩:=yK hc.2 hm;refine ⟨_::l,by rw [k1],by simp [k2],λi s o' q1 q2=>?_⟩;cases i with
   | zero=>simp at q1 q2; subst q1 q2; exact hk
   | succ i=>exact k3 i s o' (by simpa using q1) (by simpa using q2)
  split at hm
  . rename_i j want hg;simp only [hg];split at hm
    . rename_i t ht;split at hm
      . rename_i htw;rw [if_pos htw];split at hm
        . rename_i v h1 ho;obtain ⟨t,k1,k2⟩:=zB hc.1 ho;rw [k1];exact fin k2 hm
        . cases hm
      . rename_i htw;rw [if_neg htw];exact fin hn hm
    . rename_i ht;exact fin hn hm
    . cases hm
  . rename_i hg;simp only [hg];split at hm
    . rename_i v h1 ho;obtain ⟨t,k1,k2⟩:=zB hc.1 ho;rw [k1];exact fin k2 hm
    . cases hm
theorem zI {a b:R}{s t:Tr}(hs:kindOk a s)(ht:kindOk b t)(hp:Bn a b=true):s.spares t=true:=by
 obtain ⟨s1,s2,s3,s4,s5⟩:=hs;obtain ⟨t1,t2,t3,t4,t5⟩:=ht;simp only [Tr.spares,s2,t2,t1,Bool.or_self,bo,if_false,cn];intro x hx;simp only [Bn,R.free,R.still,Bool.or_eq_true,aq,Bool.not_eq_true'] at hp;obtain ((⟨⟨p1,p2⟩,p3⟩ | ⟨⟨p1,p2⟩,p3⟩) | ⟨⟨p1,p2⟩,⟨p3,p4⟩⟩) | ⟨p1,p2⟩:=hp
 . rw [s4 p3,s5 p2 p3]; simp; omega
 . rw [t3 p1] at hx; cases hx
 . rw [s4 p2,s5 p1 p2]; simp; omega
 . rw [t3 (by cases b<;>simp [R.lays,R.reads] at p2 ⊢)] at hx; cases hx
theorem FC {C:Calls'}{pr:List (List Nat)}{os:List RO}{e:Env}{h:Hp}{e':Env}{h':Hp}(hc:Cc pr os=true)(hm:jF C os e h=some (e',h')):uE C pr os e h=some (e',h'):=by
 simp only [Cc,aq] at hc;obtain ⟨l,k1,k2,k3⟩:=yK hc.1 hm;unfold uE;rw [k1];have:qm pr l=true:=by
  simp only [qm,cn,List.mem_range];intro i hi j hj;have:=cn.1 (cn.1 hc.2 i (List.mem_range.2 (by omega))) j (List.mem_range.2 (by omega));simp only [Bool.or_eq_true] at this ⊢;refine this.imp id λq=>?_;rw [ab (show i<os.length by omega),ab (show j<os.length by omega)] at q;rw [ab hi,ab hj];exact zI (k3 i _ _ (ab hi) (ab (show i<os.length by omega))) (k3 j _ _ (ab hj) (ab (show j<os.length by omega))) q
 simp only [this,if_true]
end
