/- ConfigAgain: plain facts. -/
import Derived.Test.YtllbjfmiilckiaaGreatMd
import Derived.KernelRfl
import Derived.Sort.Defs
import Derived.Sort.LotC
import Derived.Sort.LotA
import Derived.Sort.LotD2
import Derived.Sort.LotD3
import Derived.Sort.LotB
import Derived.Sort.LotD1
set_option maxRecDepth 100000
set_option linter.unusedVariables false
set_option linter.unusedSimpArgs false
namespace Go.Proofs.YtllbjfmiilckiaaGreat
section
theorem zO {α:Type}{key:α->Int}:∀ {l m:List α},l.Pairwise (λa b=>key a<key b)->m.Pairwise (λa b=>key a<key b)->(∀ x,x∈l↔x∈m)->l=m
 | [],[],_,_,_=>rfl
 | [],b::m,_,_,h=>by have:=(h b).2 (by simp); simp at this
 | a::l,[],_,_,h=>by have:=(h a).1 (by simp); simp at this
 | a::l,b::m,h1,h2,h=>by
  obtain ⟨p1,p2⟩:=List.pairwise_cons.1 h1;obtain ⟨q1,q2⟩:=List.pairwise_cons.1 h2;have hab:a=b:=by
   obtain e | e:=List.mem_cons.1 ((h a).1 (by simp))
   . exact e
   . obtain e2 | e2:=List.mem_cons.1 ((h b).2 (by simp))
     . exact e2.symm
     . have:=q1 a e; have:=p1 b e2; omega
  subst hab;have:=zO p2 q2 λx=>⟨λhx=>by
   obtain e | e:=List.mem_cons.1 ((h x).1 (List.mem_cons_of_mem _ hx))
   . subst e; have:=p1 x hx; omega
   . exact e,λhx=>by
   obtain e | e:=List.mem_cons.1 ((h x).2 (List.mem_cons_of_mem _ hx))
   . subst e; have:=q1 x hx; omega
   . exact e⟩
  rw [this]
theorem Pol.own_same (p:Pol):Pol.same p.own p=true:=by
 have:all2 Rule.same (p.rules.l.map Rule.own) p.rules.l=true:=by
  rw [yz]; exact dE Rule.same_refl _
 simp [Pol.same,Pol.own,this]
theorem Cfg.same_refl (a:Cfg):a.same a=true:=by
 simp [Cfg.same,dE (λ_=>Pod.eqB_iff.2 rfl),dE (λ_=>Svc.eqB_iff.2 rfl),dE (λ_=>Way.eqB_iff.2 rfl),dE Pol.same_refl]
end
section
end
section
structure Scp where
 node:Int
 addrs:Sl Int
theorem hasT_iff {l:List Int}{n:Int}:bu l n=true↔n∈l:=by
 simp [bu,List.find?_isSome]
end
section
def mD (l:List Int)(most:Int):Bool:=(aZ l&&decide ((l.length:Int)<=most))&&!bu l 0
def bM (p:Pod):Bool:=decide ((p.ns.size:Int)>64)||(decide ((p.sa.size:Int)>64)||(decide (p.host<0)||(decide (p.host>9)||(decide (p.port<0)||decide (p.port>65535)))))
def dK (p:Svc):Bool:=decide ((p.ns.size:Int)>64)||(decide (p.port<0)||decide (p.port>65535))
def dZ (p:Way):Bool:=decide (p.node<0)||decide (p.node>9)
def kG {α:Type}(key:α->Int)(l:List α)(most:Int):Bool:=aZ (l.map key)&&decide ((l.length:Int)<=most)
def Jg (v:Vw):Bool:=v.pods.l.any bM||(v.services.l.any dK||v.bound.l.any dZ)
def qf (v:Vw):Bool:=!Jg v&&(kG Pod.uid v.pods.l 16&&(kG Svc.id v.services.l 6&&(kG Way.id v.bound.l 4&&kG Pol.id v.policies.l 12)))
def aT (v:Vw):Bool:=decide (v.epoch<=4611686018427387903)&&(mD v.covers.l 38&&(qf v&&!v.policies.l.any λp=>!df p))
end
section
def Scp.c (x:Scp):List D:=[i64 x.node,x.addrs.d bP]
@[simp] theorem Scp.len {x:Scp}:x.c.length=2:=(rfl)
@[simp] theorem Scp.all {x:Scp}:sub x.c 0 2=some x.c:=(rfl)
@[simp] theorem Scp.s0_1 {x:Scp}:sub x.c 0 1=some [i64 x.node]:=(rfl)
@[simp] theorem Scp.s1_1 {x:Scp}:sub x.c 1 1=some [x.addrs.d bP]:=(rfl)
theorem uk {bs ys:List Blk}:ah (bs++ys) (bs.length+1)=ah ys 1:=by
 unfold ah; rw [bm (by omega)]; simp
end
section
theorem RowIs.lay {bs:List Blk}{v:V}{z:Nat}{es:List (List D)}(h:RowIs bs v z es)(ys:List Blk):RowIs (bs++ys) v z es:=by
 refine ⟨h.1,?_⟩;obtain h1 | ⟨b,o,cap,cs,h1,h2,h3⟩:=h.2
 . exact .inl h1
 . exact .inr ⟨b,o,cap,cs,h1,aJ h2,h3⟩
section
variable {E:Calls'}(h45:∀ c:Cfg,c.ok->∀ n h,E 79 [c.v,.d (u64 n)] h=some (.tup (match bp8 c n with | some w=>[w.v,bl true] | none=>[way0.v,bl false]),h))
 (h117:∀ s:Sl Int,short s->∀ n h,E 77 [.d (s.d bP),.d (u32 n)] h=some (bl (bu s.l n),h))
 (h52:∀ (p:Pol) (x:Pod) h,E 99 [p.v,x.v] h=some (bl (Nk p x.ns x.service),h))
variable {c:Cfg}{s:Scp}
def az (e:Int)(v1 v2 v3 v4 v5:V):List V:=[.d (u64 e),v1,v2,v3,v4,v5]
end
end
section
abbrev Scp.v (x:Scp):V:=ag x.c
section
variable {E:Calls'}
theorem Gd {s:Sl Int}{i:Nat}(hi:i<s.l.length){kd:IntKind}{h:Hp}:bg none 1 (.d (s.d bP)) (.d (.int kd i)) h=some (.eptr (bP s.l[i]) 0,h) :=
 oJ (cells:=bP) (λ_=>rfl) hi
variable (h117:∀ s:Sl Int,short s->∀ n h,E 77 [.d (s.d bP),.d (u32 n)] h=some (bl (bu s.l n),h))
include h117
end
end
section
open Go.Sort (swp)
end
section
open Go.Sort (swp ltInt insInner insOuter insertionSort)
end
section
open Go.Sort (swp ltInt siftDown heapBuild heapPop heapSort)
@[simp] theorem Xy {k:IntKind}{a b:Int}:dP .mul (.d (.int k a)) (.d (.int k b))=some (.int k (k.wrap (a * b))):=by simp [dP,fI]
end
section
open Go.Sort (swp ltInt siftDown heapBuild heapPop heapSort reverseLoop reverseRange)
end
section
open Go.Sort (swp ltInt order2 median medianAdjacent choosePivot Hint)
end
section
open Go.Sort (swp ltInt order2 median medianAdjacent choosePivot Hint)
end
section
open Go.Sort (swp ltInt scanUp scanDown partLoop partEqLoop partition partitionEqual)
end
section
open Go.Sort (swp ltInt scanUp scanDown partLoop partEqLoop partition partitionEqual scanUp_spec scanDown_spec partLoop_eq partEqLoop_eq)
end
section
open Go.Sort (swp ltInt scanSorted shiftDown shiftUp partialIns partialInsertionSort)
end
section
open Go.Sort (swp ltInt PermIn permIn_trans permIn_refl swp_permIn)
end
section
open Go.Sort (swp ltInt PermIn permIn_trans permIn_refl)
end
section
open Go.Sort (swp ltInt PermIn SortedIn Below SWO permIn_trans permIn_refl partition partitionEqual partialInsertionSort choosePivot reverseRange round_eq round_part partition_holds partitionEqual_holds Hint)
end
section
open Go.Sort (swp ltInt PermIn SortedIn Below SWO permIn_trans permIn_refl partialInsertionSort choosePivot reverseRange partialInsertionSort_holds choosePivot_holds reverseRange_holds insertionSort_holds heapSort_holds insertionSort heapSort Hint)
end
section
open Go.Sort (ltInt PermIn SortedIn sorted_unique_holds)
end
section
abbrev ai:V:=.d (.slice true [])
end
section
theorem ul {bs bs':List Blk}{x:Nat}{cs:List V}(h:ah bs x=some cs)(ho:bs'[x]?=bs[x]?):ah bs' x=some cs:=by
 unfold ah at h ⊢; rw [ho]; exact h
end
section
end
section
def vw0:Vw:=⟨0,⟨true,[]⟩,⟨true,[]⟩,⟨true,[]⟩,⟨true,[]⟩,⟨true,[]⟩⟩
end
section
end
section
def ak (n:Int):List D:=[u64 n]
section
variable {E:Calls'}{T:FuncId->Option QF}{val:FuncId->Bool}
def KeptP {α:Type}(cells:α->List D)(z n:Nat)(nl:Bool)(l:List α)(bs:List Blk)(v:V):Prop :=
 (nl=true/\l=[]/\v=.d (.slice true []))\/(nl=false/\∃ B cap rest,n<=B/\v=.row B 0 l.length cap z/\ah bs B=some (flat (l.map cells)++rest)/\((cap=some 0/\l=[])\/(cap=none/\0<(flat (l.map cells)++rest).length)))
theorem KeptP.nu {α:Type}{cells:α->List D}{z n:Nat}{nl:Bool}{l:List α}{bs:List Blk}{v:V}(h:KeptP cells z n nl l bs v):Go.Proofs.YtllbjfmiilckiaaGreat.nu v=some v/\okV v=true:=by
 obtain ⟨_,_,rfl⟩ | ⟨_,B,cap,rest,_,rfl,_⟩:=h<;>exact ⟨rfl,rfl⟩
theorem BZ {α:Type}{cells:α->List D}{z b cl clos del idx id:Nat}{zero:List V}(tcl:T cl=some (cloneQ z b zero))(vcl:val cl=false)(tdel:T del=some (delQ z idx zero))(vdel:val del=false)(tidx:T idx=some (idxQ z))(vidx:val idx=false)
 (tc:T clos=some (notQ z)) (vc:val clos=false) (tid:T id=some (keepQ cl clos del)) (vid:val id=false) (hz:∀ x,(cells x).length=z) (hz0:0<z) (hzero:zero.length=z) (hb:b<=4096) {s:Sl α} (hs:short s) {f:FuncId} {caps:List V} {q:α->Bool} {h:Hp}
 (hq:∀ e∈s.l,∀ bs lo,h.bs.length<=bs.length->(∀ x,x<h.bs.length->bs[x]?=h.bs[x]?)->Sm E T val f (ag (cells e)::caps) ⟨bs,lo⟩=some (bl (q e),⟨bs,lo⟩)) :
 ∃ r bs' lo',Sm E T val id [.d (s.d cells),.fn f caps] h=some (r,⟨bs',lo'⟩)/\(h.bs.length<=bs'.length/\∀ c,c<=h.bs.length->c<=h.low->c<=lo')/\(∀ x,x<h.bs.length->bs'[x]?=h.bs[x]?)/\KeptP cells z h.bs.length s.nl (s.l.filter q) bs' r:=by
 obtain ⟨bs,lo0⟩:=h;simp only at hq ⊢;obtain ⟨nl,l⟩:=s;simp only at hq ⊢;have hcl:=lI (E:=E) (T:=T) (val:=val) tcl vcl hz0 hb (nl:=nl) (es:=l.map cells) (by simp; intro a _; exact hz a) (by simpa using hs.1) ⟨bs++[.cells [.fn f caps]],bs.length⟩;have hlen:l.length<2 ^ 62:=hs.lt;have hout:∀ {r:V} {bs':List Blk} {lo':Nat},r.under bs.length=false->dL ⟨bs,lo0⟩ (some (r,⟨bs',lo'⟩))=some (r,⟨bs',min lo0 lo'⟩):=λhu=>by
  rw [dn,if_neg (λhh=>by rw [hu] at hh; cases hh.2)]
 have hun:∀ {B o n z:Nat} {cap:Option Nat},bs.length<=B->V.under bs.length (.row B o n cap z)=false:=λh=>by simp [V.under]; omega
 rw [aW tid vid];cases nl with
 | true =>
  have hl:=hs.2 rfl;simp at hl;subst hl;have h1:=nz (E:=E) (T:=T) (val:=val) cells (es:=[]) (z:=z) (idx:=idx) (zero:=zero) tidx vidx tdel vdel (v:=.d (.slice true [])) (f:=clos) (caps:=[.ptr bs.length 0]) (q:=λ_=>false) (h:=⟨bs++[.cells [.fn f caps]],bs.length⟩) ⟨by simp,.inl ⟨true,rfl⟩⟩ (by simp) (by simp) (by simp);simp [bS] at hcl;refine ⟨.d (.slice true []),bs,lo0,?_,⟨br _,λ_ _ h=>h⟩,λ_ _=>rfl,.inl ⟨rfl,by simp,rfl⟩⟩;simp [ae,keepQ,Sl.d,hcl,h1,V.under,bD]
 | false =>
  cases hll:l with
  | nil =>
   subst hll;have h1:=λlo=>nz (E:=E) (T:=T) (val:=val) cells (es:=[]) (z:=z) (idx:=idx) (zero:=zero) tidx vidx tdel vdel (v:=.row (bs.length+1) 0 0 (some 0) z) (f:=clos) (caps:=[.ptr bs.length 0]) (q:=λ_=>false) (h:=⟨bs++[.cells [.fn f caps],.cells []],lo⟩) ⟨by simp,.inr ⟨bs.length+1,0,some 0,[],rfl,by unfold ah; rw [bm (by omega)]; simp,by simp [fJ]⟩⟩ (by simp) (by simp) (by simp);simp [bS] at hcl;refine ⟨.row (bs.length+1) 0 0 (some 0) z,bs++[.cells [.fn f caps],.cells []],min lo0 bs.length,?_,⟨by simp,λc h1 h2=>by show _<=min lo0 bs.length; omega⟩,λx hx=>by rw [am hx],.inr ⟨rfl,bs.length+1,some 0,[],by omega,rfl,by unfold ah; rw [bm (by omega)]; simp,.inl ⟨rfl,rfl⟩⟩⟩;refine Eq.trans ?_ (hout (lo':=bs.length) (hun (by omega)))
   congr 1
   simp [ae,keepQ,Sl.d,hcl,h1,bD]
  | cons p l' =>
   have hne:l≠[]:=by rw [hll]; simp
   have hLz:0<l.length * z:=Nat.mul_pos (List.length_pos_iff.2 hne) hz0;rw [← hll];have hc2:bS z false (l.map cells) (bs++[.cells [.fn f caps]]) bs.length=(.row (bs.length+2) 0 l.length none z,⟨bs++[.cells [.fn f caps],.cells [],.cells (flat (l.map cells))],bs.length⟩):=by
    rw [hll]; simp [bS]
   rw [hc2] at hcl;simp at hcl;have hbF:ah (bs++[.cells [.fn f caps],.cells [],.cells (flat (l.map cells))]) (bs.length+2)=some (flat (l.map cells)):=by unfold ah; rw [bm (by omega)]; simp
   have hold:∀ x,x<bs.length->(bs++[Blk.cells [.fn f caps],.cells [],.cells (flat (l.map cells))])[x]?=bs[x]?:=λx hx=>by rw [am hx]
   have hcall:∀ e∈l,∀ bs2 lo2,bs.length+3<=bs2.length->(∀ x,x≠bs.length+2->x<bs.length+3->bs2[x]?=(bs++[.cells [.fn f caps],.cells [],.cells (flat (l.map cells))])[x]?)->Sm E T val clos (.agg ((cells e).map .d)::[.ptr bs.length 0]) ⟨bs2,lo2⟩=some (.d (.bool (!q e)),⟨bs2,lo2⟩):=by
    intro e he bs2 lo2 hle ho;refine Mx tc vc (hz e) (f:=f) (caps:=caps) (p:=q e) ?_ λys lo=>?_
    . have:=ho bs.length (by omega) (by omega);simp only [ah];rw [this,bm (by omega)]; simp
    . refine hq e he _ lo (by simp; omega) λx hx=>?_;simp only;rw [am (by omega),ho x (by omega) (by omega)];exact hold x hx
   have hnn:(l.filter λe=>!(!q e))=l.filter q:=by simp
   by_cases hqq:∃ e∈l,(!q e)=true
   . obtain ⟨bs',lo',rest,k1,k2,k3,k4,k5,k6⟩:=Av (E:=E) (T:=T) (val:=val) hz hz0 hzero tidx vidx tdel vdel (es:=l) (b:=bs.length+2) (cap:=none) (f:=clos) (caps:=[.ptr bs.length 0]) (q:=λe=>!q e) (h:=⟨bs++[.cells [.fn f caps],.cells [],.cells (flat (l.map cells))],bs.length⟩) hbF hlen (λe he bs2 lo2 a b=>hcall e he bs2 lo2 (by simpa using a) (λx h1 h2=>b x h1 (by simp; omega))) hqq;rw [hnn] at k1 k4;refine ⟨.row (bs.length+2) 0 (l.filter q).length none z,bs',min lo0 lo',?_,⟨by simp at k2; omega,λc h1 h2=>by have:=k5.2 c (by omega) h1; show _<=min lo0 lo'; omega⟩,λx hx=>by rw [k3 x (by omega) (by simp; omega)]; exact hold x hx,.inr ⟨rfl,bs.length+2,none,rest,by omega,rfl,k4,.inr ⟨rfl,by rw [ao,bV hz,k6,hnn,← Nat.add_mul,Nat.add_sub_cancel' (List.length_filter_le _ _)]; exact hLz⟩⟩⟩;refine Eq.trans ?_ (hout (lo':=lo') (hun (by omega)))
     congr 1
     simp [ae,keepQ,Sl.d,hcl,k1,bD]
   . have hall:∀ e∈l,(!q e)=false:=by
      intro e he;cases hh:(!q e) with
      | false=>rfl
      | true=>exact absurd ⟨e,he,hh⟩ hqq
     have hK:l.filter q=l:=List.filter_eq_self.2 λe he=>by have:=hall e he; simpa using this
     have h1:=nz (E:=E) (T:=T) (val:=val) cells (es:=l) (z:=z) (idx:=idx) (zero:=zero) tidx vidx tdel vdel (v:=.row (bs.length+2) 0 l.length none z) (f:=clos) (caps:=[.ptr bs.length 0]) (q:=λe=>!q e) (h:=⟨bs++[.cells [.fn f caps],.cells [],.cells (flat (l.map cells))],bs.length⟩)
      ⟨by simp; intro a _; exact hz a,.inr ⟨bs.length+2,0,none,_,by simp,hbF,by
       rw [fJ,if_pos (by rw [bV hz]; simp),List.drop_zero,b9,← bV hz,List.take_length]; rfl⟩⟩ hlen (λe he lo2=>hcall e he _ lo2 (by simp) λ_ _ _=>rfl) hall
     rw [hK];refine ⟨.row (bs.length+2) 0 l.length none z,bs++[.cells [.fn f caps],.cells [],.cells (flat (l.map cells))],min lo0 bs.length,?_,⟨by simp,λc h1 h2=>by show _<=min lo0 bs.length; omega⟩,hold,.inr ⟨rfl,bs.length+2,none,[],by omega,rfl,by rw [hbF]; simp,.inr ⟨rfl,by rw [List.append_nil,bV hz]; exact hLz⟩⟩⟩;refine Eq.trans ?_ (hout (lo':=bs.length) (hun (by omega)))
     congr 1
     simp [ae,keepQ,Sl.d,hcl,h1,bD]
theorem Ff {α:Type}{cells:α->List D}{z b:Nat}(hz:∀ x,(cells x).length=z)(hz0:0<z)(hb:b<=4096){n:Nat}{nl:Bool}{K:List α}{bs:List Blk}{v:V}(hk:KeptP cells z n nl K bs v)(fr:Sl α)(hfr:fit big fr)(hlen:K.length+fr.l.length<=big)(hn:n<=bs.length) :
 ∃ (v':V) (bs':List Blk) (f:Nat->Nat),(∀ lo,fH ⟨bs,lo⟩ z b v (.d (fr.d cells))=some (v',⟨bs',f lo⟩))/\(∀ y,y<n->bs'[y]?=bs[y]?) ∧
  ((nl=true/\K++fr.l=[]/\v'=.d (.slice true []))\/((nl&&fr.l.isEmpty)=false/\∃ B cap rest,n<=B/\v'=.row B 0 (K++fr.l).length cap z/\ah bs' B=some (flat ((K++fr.l).map cells)++rest))):=by
 have hall:((fr.l.map cells).all λe=>e.length==z)=true:=cn.2 λx hx=>by
  obtain ⟨y,_,rfl⟩:=ce.1 hx;simp [hz y]
 have hrc:∀ lo,aP ⟨bs,lo⟩ (.d (fr.d cells)) z=some (fr.l.length,flat (fr.l.map cells)):=λlo=>by
  simp only [Sl.d,aP,hall,if_true,flat,b9]
 have hroom:∀ n,n<=big->roomy n b=true:=λn hn=>by simp only [roomy,aq,bw]; exact ⟨hn,hb⟩
 have hzz:¬ z=0:=by omega
 have hfl:=bV hz fr.l;obtain h0 | h0:=Nat.eq_zero_or_pos fr.l.length
 . have hf0:fr.l=[]:=List.eq_nil_of_length_eq_zero h0;obtain ⟨h1,h2,rfl⟩ | ⟨h1,B,cap,rest,h2,rfl,h3,h4⟩:=hk
   . refine ⟨.d (.slice true []),bs,λlo=>lo,λlo=>by simp only [fH,hrc,h0,aK,if_true],λ_ _=>rfl,.inl ⟨h1,by rw [h2,hf0]; rfl,rfl⟩⟩
   . refine ⟨.row B 0 K.length cap z,bs,λlo=>lo,λlo=>by simp only [fH,hrc,h0,aK,ne_eq,not_true_eq_false,false_or,if_neg hzz,if_true],λ_ _=>rfl,.inr ⟨by simp [h1],B,cap,rest,h2,by rw [hf0,List.append_nil],by rw [hf0,List.append_nil]; exact h3⟩⟩
 . have hm0:¬ fr.l.length=0:=by omega
   have hne:fr.l≠[]:=List.length_pos_iff.1 h0;have hie:fr.l.isEmpty=false:=by cases hc:fr.l with | nil=>exact absurd hc hne | cons _ _=>rfl
   have hcat:flat ((K++fr.l).map cells)=flat (K.map cells)++flat (fr.l.map cells):=by rw [List.map_append,ky]
   have hcat2:flat (K.map cells++fr.l.map cells)=flat (K.map cells)++flat (fr.l.map cells):=ky _ _;have hKl:=bV hz K;obtain ⟨h1,h2,rfl⟩ | ⟨h1,B,cap,rest,h2,rfl,h3,h4⟩:=hk
   . subst h2;refine ⟨.row bs.length 0 fr.l.length none z,bs++[.cells (flat (fr.l.map cells))],λlo=>lo,λlo=>by simp only [fH,hrc,aK,if_neg hm0,if_neg hzz,hroom fr.l.length (by simpa using hlen),if_true]; rfl,λy hy=>by rw [am (by omega)],.inr ⟨by simp [hie],bs.length,none,[],hn,rfl,by simp [eF]⟩⟩
   . have hBl:=aB h3;have hs:sub (flat (K.map cells)++rest) 0 (K.length * z)=some (flat (K.map cells)):=by
      rw [fJ,if_pos (by rw [ao,hKl]; omega),List.drop_zero,← hKl,List.take_left]
     obtain ⟨rfl,rfl⟩ | ⟨rfl,h5⟩:=h4
     . simp only [List.map_nil,oH,List.nil_append,cm,Nat.zero_mul] at h3 hs hlen;refine ⟨.row bs.length 0 (0+fr.l.length) none z,bs++[.cells ([]++flat (fr.l.map cells))],λlo=>lo,λlo=>by simp only [fH,hrc,aK,ne_eq,not_true_eq_false,false_or,if_neg hm0,if_neg hzz,get_eq,h3,cm,Nat.zero_mul,hs,hroom (0+fr.l.length) (by omega),Bool.not_true,bo,if_false,if_neg (show ¬ (0+fr.l.length<=0) by omega)]; rfl,λy hy=>by rw [am (by omega)],.inr ⟨by simp [hie],bs.length,none,[],hn,by simp,by simp [eF]⟩⟩
     . by_cases hfit:0+(K.length+fr.l.length) * z<=(flat (K.map cells)++rest).length
       . have hno:¬ (True/\(flat (K.map cells)).length=(flat (K.map cells)++rest).length/\0<(flat (K.map cells)++rest).length):=by
          have:0<fr.l.length * z:=Nat.mul_pos h0 hz0;rw [Nat.add_mul] at hfit;rw [hKl];omega
         have hput:put (flat (K.map cells)++rest) (0+K.length * z) (flat (fr.l.map cells))=some (flat (K.map cells)++flat (fr.l.map cells)++rest.drop (fr.l.length * z)):=by
          rw [Nat.add_mul] at hfit;unfold put;rw [if_pos (by rw [hfl]; omega),Nat.zero_add,← hKl,List.take_left,List.drop_append,ba (by omega),Nat.add_sub_cancel_left,hfl];simp
         refine ⟨.row B 0 (K.length+fr.l.length) none z,bs.set B (.cells (flat (K.map cells)++flat (fr.l.map cells)++rest.drop (fr.l.length * z))),λlo=>min lo B,λlo=>by simp only [fH,hrc,aK,ne_eq,not_true_eq_false,false_or,if_neg hm0,if_neg hzz,get_eq,h3,hs,hroom (K.length+fr.l.length) (by omega),Bool.not_true,bo,if_false,if_neg hno,if_pos hfit,hput]; rfl,λy hy=>by rw [ac (by omega)],.inr ⟨by simp [hie],B,none,rest.drop (fr.l.length * z),h2,by simp,by simp [ah,hBl,hcat2]⟩⟩
       . refine ⟨.row bs.length 0 (K.length+fr.l.length) none z,bs.set B (.cells [])++[.cells (flat (K.map cells)++flat (fr.l.map cells))],λlo=>min lo B,λlo=>?_,λy hy=>by rw [am (by simp; omega),ac (by omega)],.inr ⟨by simp [hie],bs.length,none,[],hn,by simp,?_⟩⟩
         . by_cases hfull:(flat (K.map cells)).length=(flat (K.map cells)++rest).length
           . simp only [fH,hrc,aK,ne_eq,not_true_eq_false,false_or,if_neg hm0,if_neg hzz,get_eq,h3,hs,hroom (K.length+fr.l.length) (by omega),Bool.not_true,bo,if_false,if_pos (show True/\(flat (K.map cells)).length=(flat (K.map cells)++rest).length/\0<(flat (K.map cells)++rest).length from ⟨trivial,hfull,h5⟩),Hp.size,Hp.alloc,Hp.set,List.length_set]
           . simp only [fH,hrc,aK,ne_eq,not_true_eq_false,false_or,if_neg hm0,if_neg hzz,get_eq,h3,hs,hroom (K.length+fr.l.length) (by omega),Bool.not_true,bo,if_false,if_neg (show ¬ (True/\(flat (K.map cells)).length=(flat (K.map cells)++rest).length/\0<(flat (K.map cells)++rest).length) from λhh=>hfull hh.2.1),if_neg hfit,if_pos (show True/\0<(flat (K.map cells)++rest).length from ⟨trivial,h5⟩),Hp.size,Hp.alloc,Hp.set,List.length_set]
         . have:=eF (bs:=bs.set B (.cells [])) (ys:=[.cells (flat (K.map cells)++flat (fr.l.map cells))]);rw [List.length_set] at this;rw [this,hcat,List.append_nil]; rfl
def fA {α:Type}(key:α->Int)(fresh:List α)(gone:List Int)(e:α):Bool:=!bu gone (key e)&&!fresh.any λy=>key e==key y
def bU {α:Type}(key:α->Int)(l fresh:List α)(gone:List Int):List α:=((l.filter (fA key fresh gone))++fresh).mergeSort λa b=>decide (key a<=key b)
theorem KX {α:Type}{cells:α->List D}{z c idf:FuncId}{key:α->Int}(ht:T c=some (vpeQ z))(hv:val c=false){x y:α}(hx:(cells x).length=z)(hy:(cells y).length=z)(hid:∀ e,e=x\/e=y->∀ h,Sm E T val idf [ag (cells e)] h=some (.d (u64 (key e)),h)){p r:Nat}{h:Hp}(hp:ah h.bs p=some [.fn idf []])(hr:ah h.bs r=some ((cells x).map .d)) :
 Sm E T val c [ag (cells y),.ptr p 0,.ptr r 0] h=some (bl (key x==key y),h):=by
 rw [aW ht hv];have hsx:=rG hx;have hsy:=rG hy;have h1:=hid x (.inl rfl);have h2:=hid y (.inr rfl);simp [vpeQ,ae,aA,aa,aM,aF,Tr.mute,aJ hp,aJ hr,h1,h2,hsx,hsy,V.under]
theorem Ri {α:Type}{cells:α->List D}{z c c11 con sm any idx idf:FuncId}{key:α->Int}(ht:T c=some (vpcQ z con c11 sm))(hv:val c=false)(ht1:T c11=some (vpeQ z))(hv1:val c11=false)(ts:T sm=some (someQ any))(vs:val sm=false)(ta:T any=some (anyQ idx))(va:val any=false)(ti:T idx=some (idxQ z))(vi:val idx=false)
 (hz:∀ x,(cells x).length=z) {fresh:Sl α} (hs:short fresh) {gone:Sl Int} (hcon:∀ n h,Sm E T val con [.d (gone.d ak),.d (u64 n)] h=some (bl (bu gone.l n),h)) {x:α} (hid:∀ e,e=x\/e∈fresh.l->∀ h,Sm E T val idf [ag (cells e)] h=some (.d (u64 (key e)),h))
 {p r f:Nat} {h:Hp} (hr:ah h.bs r=some [.d (gone.d ak)]) (hp:ah h.bs p=some [.fn idf []]) (hf:ah h.bs f=some [.d (fresh.d cells)]) :
 Sm E T val c [ag (cells x),.ptr r 0,.ptr p 0,.ptr f 0] h=some (bl (fA key fresh.l gone.l x),h):=by
 have hsx:=rG (hz x);have h1:=hid x (.inl rfl);have hcl:∀ y∈fresh.l,∀ lo,Sm E T val c11 (.agg ((cells y).map .d)::[.ptr p 0,.ptr h.bs.length 0]) ⟨h.bs++[.cells ((cells x).map .d)],lo⟩=some (.d (.bool (key x==key y)),⟨h.bs++[.cells ((cells x).map .d)],lo⟩):=λy hy lo =>
  KX ht1 hv1 (hz x) (hz y) (λe he=>hid e (by obtain rfl | rfl:=he; exact .inl rfl; exact .inr hy)) (aJ hp) (by rw [eF]; rfl)
 have hsm:∀ lo,Sm E T val sm [.d (fresh.d cells),.fn c11 [.ptr p 0,.ptr h.bs.length 0]] ⟨h.bs++[.cells ((cells x).map .d)],lo⟩=some (bl (fresh.l.any λy=>key x==key y),⟨h.bs++[.cells ((cells x).map .d)],lo⟩):=λlo =>
  lJ ts vs rfl rfl (mY cells ti vi ta va (h:=⟨h.bs++[.cells ((cells x).map .d)],(h.bs++[Blk.cells ((cells x).map .d)]).length⟩) (RowIs.of hz _) hs.lt λe he lo=>hcl e he lo)
 rw [aW ht hv];unfold fA;cases hg:bu gone.l (key x)<;>simp [vpcQ,ae,aA,aa,aM,aF,Tr.mute,aj,aJ hp,aJ hr,aJ hf,h1,hsx,hcon,hg,hsm,V.under]
theorem Mt {α:Type}{cells:α->List D}{z c con idf:FuncId}{key:α->Int}(ht:T c=some (apacQ z con))(hv:val c=false){x:α}(hx:(cells x).length=z){gone:Sl Int}(hcon:∀ n h,Sm E T val con [.d (gone.d ak),.d (u64 n)] h=some (bl (bu gone.l n),h))(hid:∀ h,Sm E T val idf [ag (cells x)] h=some (.d (u64 (key x)),h)){p r:Nat}{h:Hp}(hr:ah h.bs r=some [.d (gone.d ak)])(hp:ah h.bs p=some [.fn idf []]) :
 Sm E T val c [ag (cells x),.ptr r 0,.ptr p 0] h=some (bl (bu gone.l (key x)),h):=by
 have hsx:=rG hx;rw [aW ht hv];simp [apacQ,ae,aA,aa,aM,aF,Tr.mute,aJ hp,aJ hr,hid,hsx,hcon,V.under]
def ja {α:Type}(key:α->Int)(gone:List Int)(most:Int)(l:List α):Bool:=(aZ gone&&decide ((gone.length:Int)<=most))&&!l.any λx=>bu gone (key x)
theorem wM {α:Type}{cells:α->List D}{z c con clo ris slf sm any idx idf:FuncId}{key:α->Int}(ht:T c=some (aparQ ris slf clo sm))(hv:val c=true)(tc:T clo=some (apacQ z con))(vc:val clo=false)(ts:T sm=some (someQ any))(vs:val sm=false)(ta:T any=some (anyQ idx))(va:val any=false)(ti:T idx=some (idxQ z))(vi:val idx=false)
 (hz:∀ x,(cells x).length=z) {gone:Sl Int} {most:Int} (hris:∀ h,Sm E T val ris [.d (gone.d ak),.d (i64 most),.fn slf []] h=some (bl (aZ gone.l&&decide ((gone.l.length:Int)<=most)),h)) (hcon:∀ n h,Sm E T val con [.d (gone.d ak),.d (u64 n)] h=some (bl (bu gone.l n),h))
 {l:Sl α} (hl:short l) (hid:∀ e∈l.l,∀ h,Sm E T val idf [ag (cells e)] h=some (.d (u64 (key e)),h)) (h:Hp) :
 Sm E T val c [.d (gone.d ak),.d (i64 most),.d (l.d cells),.fn idf []] h=some (bl (ja key gone.l most l.l),h):=by
 have hfr:frz h (.fn idf [])=some (.fn idf []):=rfl;have hpf:dY (.fn idf [])=true:=rfl;have hsm:∀ lo,Sm E T val sm [.d (l.d cells),.fn clo [.ptr 0 0,.ptr 1 0]] ⟨[.cells [.d (gone.d ak)],.cells [.fn idf []]],lo⟩=some (bl (l.l.any λx=>bu gone.l (key x)),⟨[.cells [.d (gone.d ak)],.cells [.fn idf []]],lo⟩):=λlo =>
  lJ ts vs rfl rfl (mY cells ti vi ta va (h:=⟨[.cells [.d (gone.d ak)],.cells [.fn idf []]],2⟩) (RowIs.of hz _) hl.lt λe he lo=>Mt tc vc (hz e) hcon (hid e he) (by simp) (by simp))
 rw [aY ht hv];unfold ja;cases hr:(aZ gone.l&&decide ((gone.l.length:Int)<=most))<;>simp [aparQ,ae,hfr,hris,hr,hsm,aj,hpf]
theorem Er {α:Type}{cells:α->List D}{z:Nat}(hz:∀ x,(cells x).length=z){s:Sl α}(hs:s.l.length<2 ^ 62){most:Int}{f:FuncId}{g:α->Int}(hf:∀ e∈s.l,∀ h,Sm E T val f [ag (cells e)] h=some (.d (u64 (g e)),h)):∀ (m i:Nat),i+m=s.l.length->1<=i →
 Cd E T val (.loop [0,1,2,9,10] (uO z)) [(0,.d (s.d cells)),(1,.d (i64 most)),(2,.fn f []),(9,.d (i64 s.l.length)),(10,.d (i64 i))] ⟨[],0⟩ =
  if aZ ((s.l.map g).drop (i-1)) then some (.exit 0,[(0,.d (s.d cells)),(1,.d (i64 most))],⟨[],0⟩) else some (.ret,[(6,bl false)],⟨[],0⟩):=by
 intro m;have key:=aC (E:=E) (T:=T) (val:=val) [0,1,2,9,10] (uO z);generalize Cd E T val (.loop [0,1,2,9,10] (uO z))=W at key ⊢
 induction m with
 | zero =>
  intro i hi h1;rw [key,og (by simp; omega)];simp [uO,show ¬ ((i:Int)<s.l.length) from by omega]
 | succ m ih =>
  intro i hi h1;have hlt:i<s.l.length:=by omega
  have hd:=mh (l:=s.l.map g) (i:=i-1) (by simp; omega);have hs1:i-1+1=i:=by omega
  simp only [hs1,List.getElem_map] at hd;have hp1:=λh=>oJ (cells:=cells) hz hlt (kd:=.i64) (h:=h);have hp0:=λh=>oJ (cells:=cells) hz (show i-1<s.l.length by omega) (kd:=.i64) (h:=h);have c1:=hf _ (bj hlt);have c0:=hf _ (bj (show i-1<s.l.length by omega));have hw:=ay hlt hs;have hwm:IntKind.wrap .i64 ((i:Int)-1)=((i-1:Nat):Int):=by rw [wrap64]<;>omega
  have hpos:0<i:=h1;have hih:=ih (i+1) (by omega) (by omega);simp only [show i+1-1=i by omega] at hih;rw [key,hd];generalize s.l[i]=y at *;generalize s.l[i-1]=x at *;have hsx:=cO (hz x);have hsy:=cO (hz y);by_cases hg:g x<g y
  . simp +decide [uO,hp1,hp0,hsx,hsy,hwm,hw,hpos,c0,c1,hlt,hg,aA,aa,aM,show ¬ (g x>=g y) from by omega];simpa using hih
  . simp +decide [uO,hp1,hp0,hsx,hsy,hwm,hw,hpos,c0,c1,hlt,hg,aA,aa,aM,show g x>=g y from by omega]
theorem wN {α:Type}{cells:α->List D}{z:Nat}{id:FuncId}(ht:T id=some (rsgQ z))(hv:val id=true)(hz:∀ x,(cells x).length=z){s:Sl α}(hs:s.l.length<2 ^ 62){most:Int}{f:FuncId}{g:α->Int}(hf:∀ e∈s.l,∀ h,Sm E T val f [ag (cells e)] h=some (.d (u64 (g e)),h))(h:Hp) :
 Sm E T val id [.d (s.d cells),.d (i64 most),.fn f []] h=some (bl (kG g s.l most),h):=by
 rw [aY ht hv];unfold kG;have hfr:frz h (.fn f [])=some (.fn f []):=rfl;have key:=aC (E:=E) (T:=T) (val:=val) [0,1,2,9,10] (uO z);have hl:=Er (E:=E) (T:=T) (val:=val) hz hs (most:=most) hf;simp [ae,rsgQ,hfr];rw [au];simp only [jC,kz];simp;generalize Cd E T val (.loop [0,1,2,9,10] (uO z))=W at key hl ⊢;by_cases h0:s.l=[]
 . rw [key];simp [uO,h0,aZ,dY]
 . have hpos:0<s.l.length:=List.length_pos_iff.2 h0;have h1:=hl (s.l.length-1) 1 (by omega) (by omega);simp at h1;rw [key];have hw:=ay hpos hs;simp at hw;simp +decide [uO,aA,aM,hpos,hw,h1];cases aZ (s.l.map g)<;>simp [dY]
end
end
section
structure Dlt where
 epoch:Int
 covers:Sl Int
 pods:Sl Pod
 services:Sl Svc
 bound:Sl Way
 policies:Sl Pol
 gonePods:Sl Int
 goneServices:Sl Int
 goneBound:Sl Int
 gonePolicies:Sl Int
def Dlt.c (x:Dlt):List D:=[u64 x.epoch,x.covers.d bP,x.pods.d Pod.c,x.services.d Svc.c,x.bound.d Way.c,x.policies.d Pol.c,x.gonePods.d ak,x.goneServices.d ak,x.goneBound.d ak,x.gonePolicies.d ak]
abbrev Dlt.v (x:Dlt):V:=ag x.c
def Dlt.vw (x:Dlt):Vw:=⟨x.epoch,x.covers,x.pods,x.services,x.bound,x.policies⟩
abbrev Dlt.ok (x:Dlt):Prop:=x.vw.ok/\short x.gonePods/\short x.goneServices/\short x.goneBound/\short x.gonePolicies
structure Psh where
 life:Int
 inc:Int
 seq:Int
 upon:Int
 delta:Dlt
def Psh.c (x:Psh):List D:=u64 x.life::u64 x.inc::u64 x.seq::u64 x.upon::x.delta.c
structure Idx where
 node:Int
 inc:Int
 asked:Int
 addrs:Sl Int
 since:Int
 life:Int
 seq:Int
 view:Vw
 high:Int
def Idx.c (x:Idx):List D:=i64 x.node::u64 x.inc::u64 x.asked::x.addrs.d bP::u64 x.since::u64 x.life::u64 x.seq::(x.view.c++[u64 x.high])
abbrev Idx.v (x:Idx):V:=ag x.c
structure Ack where
 life:Int
 inc:Int
 seq:Int
 ok:Int
def Ack.c (x:Ack):List D:=[u64 x.life,u64 x.inc,u64 x.seq,i64 x.ok]
structure Sbs where
 inc:Int
 seq:Int
 addrs:Sl Int
def Sbs.c (x:Sbs):List D:=[u64 x.inc,u64 x.seq,x.addrs.d bP]
@[simp] theorem Ack.len {x:Ack}:x.c.length=4:=(rfl)
@[simp] theorem Ack.all {x:Ack}:sub x.c 0 4=some x.c:=(rfl)
@[simp] theorem Sbs.len {x:Sbs}:x.c.length=3:=(rfl)
@[simp] theorem Sbs.all {x:Sbs}:sub x.c 0 3=some x.c:=(rfl)
@[simp] theorem Dlt.len {x:Dlt}:x.c.length=10:=(rfl)
@[simp] theorem Psh.len {x:Psh}:x.c.length=14:=(rfl)
@[simp] theorem Idx.len {x:Idx}:x.c.length=14:=(rfl)
@[simp] theorem Dlt.s0_10 {x:Dlt}:sub x.c 0 10=some x.c:=(rfl)
@[simp] theorem Dlt.s0_1 {x:Dlt}:sub x.c 0 1=some [u64 x.epoch]:=(rfl)
@[simp] theorem Dlt.s1_1 {x:Dlt}:sub x.c 1 1=some [x.covers.d bP]:=(rfl)
@[simp] theorem Dlt.s2_1 {x:Dlt}:sub x.c 2 1=some [x.pods.d Pod.c]:=(rfl)
@[simp] theorem Dlt.s3_1 {x:Dlt}:sub x.c 3 1=some [x.services.d Svc.c]:=(rfl)
@[simp] theorem Dlt.s4_1 {x:Dlt}:sub x.c 4 1=some [x.bound.d Way.c]:=(rfl)
@[simp] theorem Dlt.s5_1 {x:Dlt}:sub x.c 5 1=some [x.policies.d Pol.c]:=(rfl)
@[simp] theorem Dlt.s6_1 {x:Dlt}:sub x.c 6 1=some [x.gonePods.d ak]:=(rfl)
@[simp] theorem Dlt.s7_1 {x:Dlt}:sub x.c 7 1=some [x.goneServices.d ak]:=(rfl)
@[simp] theorem Dlt.s8_1 {x:Dlt}:sub x.c 8 1=some [x.goneBound.d ak]:=(rfl)
@[simp] theorem Dlt.s9_1 {x:Dlt}:sub x.c 9 1=some [x.gonePolicies.d ak]:=(rfl)
@[simp] theorem Psh.s0_14 {x:Psh}:sub x.c 0 14=some x.c:=(rfl)
@[simp] theorem Psh.s0_1 {x:Psh}:sub x.c 0 1=some [u64 x.life]:=(rfl)
@[simp] theorem Psh.s1_1 {x:Psh}:sub x.c 1 1=some [u64 x.inc]:=(rfl)
@[simp] theorem Psh.s2_1 {x:Psh}:sub x.c 2 1=some [u64 x.seq]:=(rfl)
@[simp] theorem Psh.s3_1 {x:Psh}:sub x.c 3 1=some [u64 x.upon]:=(rfl)
@[simp] theorem Psh.s4_10 {x:Psh}:sub x.c 4 10=some x.delta.c:=(rfl)
@[simp] theorem Psh.s4_1 {x:Psh}:sub x.c 4 1=some [u64 x.delta.epoch]:=(rfl)
@[simp] theorem Idx.s0_14 {x:Idx}:sub x.c 0 14=some x.c:=(rfl)
@[simp] theorem Idx.s0_1 {x:Idx}:sub x.c 0 1=some [i64 x.node]:=(rfl)
@[simp] theorem Idx.s1_1 {x:Idx}:sub x.c 1 1=some [u64 x.inc]:=(rfl)
@[simp] theorem Idx.s2_1 {x:Idx}:sub x.c 2 1=some [u64 x.asked]:=(rfl)
@[simp] theorem Idx.s3_1 {x:Idx}:sub x.c 3 1=some [x.addrs.d bP]:=(rfl)
@[simp] theorem Idx.s4_1 {x:Idx}:sub x.c 4 1=some [u64 x.since]:=(rfl)
@[simp] theorem Idx.s5_1 {x:Idx}:sub x.c 5 1=some [u64 x.life]:=(rfl)
@[simp] theorem Idx.s6_1 {x:Idx}:sub x.c 6 1=some [u64 x.seq]:=(rfl)
@[simp] theorem Idx.s7_6 {x:Idx}:sub x.c 7 6=some x.view.c:=(rfl)
@[simp] theorem Idx.s7_1 {x:Idx}:sub x.c 7 1=some [u64 x.view.epoch]:=(rfl)
@[simp] theorem Idx.s13_1 {x:Idx}:sub x.c 13 1=some [u64 x.high]:=(rfl)
def uU:List V:=[(.d (.int .u64 0)),(.d (.str ⟨#[]⟩)),(.d (.int .u32 0)),(.d (.int .i64 0)),(.d (.int .u64 0))]
def uX:List V:=[(.d (.int .u64 0)),(.d (.int .i64 0))]
def be7:List (Nat×QF):=[(5,q17),(19,q79),(10,q82),(12,Br),(30,q81),(31,ap4),(32,ap5),(33,ap6),(34,ap7),(37,as7),(39,as8),(41,as9),(43,at0),(124,aw0),(126,aw1),(127,aw2),(128,aw3),(122,OA),(123,OB),(125,JN),(202,OC),(8,q75),(27,rO),(81,NY),(91,NZ),(108,UY),(115,UZ),(171,Oj),(178,Ol),(185,Oy),(188,Ot),(100,NS),(102,NT),(169,NU),(253,Ox),(106,zL),(107,GR),(109,JM),(116,Om),(110,as3),(111,as4),(112,as5),(113,as6),(38,N7),(40,N8),(42,N9),(44,Oa),(114,Jt),(186,JK),(187,JL),(35,Ei),(120,au5),(121,Oq),(196,aw4),(197,OE),(198,aw5),(199,OG),(200,aw6),(201,OH),(264,aw9),(265,ax0),(266,ax1)]
def TI:FuncId->Option QF:=gI be7
def aR (f:FuncId):Bool:=[5,19,10,12,30,31,32,33,34,37,39,41,43,122,123,125,202,8,27,106,107,109,116,110,111,112,113,38,40,42,44,114,186,187,35,120,121,196,197,198,199,200,201,264,265,266].any λn=>Nat.beq n f
theorem i17:TI 5=some (q17):=by kernel_rfl
theorem j17:aR 5=true:=by kernel_rfl
theorem i79:TI 19=some (q79):=by kernel_rfl
theorem j79:aR 19=true:=by kernel_rfl
theorem i82:TI 10=some (q82):=by kernel_rfl
theorem j82:aR 10=true:=by kernel_rfl
theorem i164:TI 12=some (Br):=by kernel_rfl
theorem ag7:aR 12=true:=by kernel_rfl
theorem i81:TI 30=some (eql1Q (.sc (.i .u32))):=by kernel_rfl
theorem j81:aR 30=true:=by kernel_rfl
theorem i173:TI 31=some (eqlQ 7 (.agg [(.i .u64),.s,.s,(.i .i64),(.i .u32),(.i .i64),(.i .u64)])):=by kernel_rfl
theorem ah2:aR 31=true:=by kernel_rfl
theorem ac6:TI 32=some (eqlQ 5 (.agg [(.i .u64),.s,(.i .u32),(.i .i64),(.i .u64)])):=by kernel_rfl
theorem ah3:aR 32=true:=by kernel_rfl
theorem i175:TI 33=some (eqlQ 2 (.agg [(.i .u64),(.i .i64)])):=by kernel_rfl
theorem ah4:aR 33=true:=by kernel_rfl
theorem ac7:TI 34=some (eqfQ 5 [(.d (.int .u64 0)),(.d (.str ⟨#[]⟩)),(.d (.int .u64 0)),(.d (.int .i64 0)),(.d (.slice true []))]):=by kernel_rfl
theorem ah5:aR 34=true:=by kernel_rfl
theorem ae1:TI 37=some (aparQ 122 123 124 91):=by kernel_rfl
theorem ai7:aR 37=true:=by kernel_rfl
theorem ae2:TI 39=some (aparQ 122 123 126 81):=by kernel_rfl
theorem ai8:aR 39=true:=by kernel_rfl
theorem ae3:TI 41=some (aparQ 122 123 127 108):=by kernel_rfl
theorem ai9:aR 41=true:=by kernel_rfl
theorem ae4:TI 43=some (aparQ 122 123 128 115):=by kernel_rfl
theorem aj0:aR 43=true:=by kernel_rfl
theorem af0:TI 124=some (apacQ 7 125):=by kernel_rfl
theorem aj6:aR 124=false:=by kernel_rfl
theorem af1:TI 126=some (apacQ 5 125):=by kernel_rfl
theorem aj7:aR 126=false:=by kernel_rfl
theorem af2:TI 127=some (apacQ 2 125):=by kernel_rfl
theorem aj8:aR 127=false:=by kernel_rfl
theorem af3:TI 128=some (apacQ 5 125):=by kernel_rfl
theorem aj9:aR 128=false:=by kernel_rfl
theorem ae8:TI 122=some (OA):=by kernel_rfl
theorem aj4:aR 122=true:=by kernel_rfl
theorem ae9:TI 123=some (OB):=by kernel_rfl
theorem aj5:aR 123=true:=by kernel_rfl
theorem ae5:TI 125=some (JN):=by kernel_rfl
theorem aj1:aR 125=true:=by kernel_rfl
theorem af4:TI 202=some (OC):=by kernel_rfl
theorem ak0:aR 202=true:=by kernel_rfl
theorem i75:TI 8=some (q75):=by kernel_rfl
theorem j75:aR 8=true:=by kernel_rfl
theorem i162:TI 27=some (rO):=by kernel_rfl
theorem ag6:aR 27=true:=by kernel_rfl
theorem TF:TI 81=some (someQ 171):=by kernel_rfl
theorem Ua:aR 81=false:=by kernel_rfl
theorem i143:TI 91=some (someQ 178):=by kernel_rfl
theorem Ub:aR 91=false:=by kernel_rfl
theorem TJ:TI 108=some (someQ 185):=by kernel_rfl
theorem Ue:aR 108=false:=by kernel_rfl
theorem TK:TI 115=some (someQ 188):=by kernel_rfl
theorem Uf:aR 115=false:=by kernel_rfl
theorem TG:TI 171=some (anyQ 102):=by kernel_rfl
theorem Uc:aR 171=false:=by kernel_rfl
theorem TH:TI 178=some (anyQ 100):=by kernel_rfl
theorem Ud:aR 178=false:=by kernel_rfl
theorem TQ:TI 185=some (anyQ 169):=by kernel_rfl
theorem Ui:aR 185=false:=by kernel_rfl
theorem TM:TI 188=some (anyQ 253):=by kernel_rfl
theorem Ug:aR 188=false:=by kernel_rfl
theorem TD:TI 100=some (idxQ 7):=by kernel_rfl
theorem TY:aR 100=false:=by kernel_rfl
theorem TE:TI 102=some (idxQ 5):=by kernel_rfl
theorem TZ:aR 102=false:=by kernel_rfl
theorem i109:TI 169=some (idxQ 2):=by kernel_rfl
theorem T9:aR 169=false:=by kernel_rfl
theorem TN:TI 253=some (idxQ 5):=by kernel_rfl
theorem Uh:aR 253=false:=by kernel_rfl
theorem ad2:TI 106=some (zL):=by kernel_rfl
theorem ah9:aR 106=true:=by kernel_rfl
theorem ad3:TI 107=some (GR):=by kernel_rfl
theorem ai0:aR 107=true:=by kernel_rfl
theorem ad4:TI 109=some (JM):=by kernel_rfl
theorem ai1:aR 109=true:=by kernel_rfl
theorem ad9:TI 116=some (Om):=by kernel_rfl
theorem ai6:aR 116=true:=by kernel_rfl
theorem ad5:TI 110=some (rsgQ 7):=by kernel_rfl
theorem ai2:aR 110=true:=by kernel_rfl
theorem ad6:TI 111=some (rsgQ 5):=by kernel_rfl
theorem ai3:aR 111=true:=by kernel_rfl
theorem ad7:TI 112=some (rsgQ 2):=by kernel_rfl
theorem ai4:aR 112=true:=by kernel_rfl
theorem ad8:TI 113=some (rsgQ 5):=by kernel_rfl
theorem ai5:aR 113=true:=by kernel_rfl
theorem ac3:TI 38=some (N7):=by kernel_rfl
theorem ag8:aR 38=true:=by kernel_rfl
theorem i168:TI 40=some (N8):=by kernel_rfl
theorem ag9:aR 40=true:=by kernel_rfl
theorem ac4:TI 42=some (N9):=by kernel_rfl
theorem ah0:aR 42=true:=by kernel_rfl
theorem ac5:TI 44=some (Oa):=by kernel_rfl
theorem ah1:aR 44=true:=by kernel_rfl
theorem i154:TI 114=some (Jt):=by kernel_rfl
theorem ag5:aR 114=true:=by kernel_rfl
theorem ac9:TI 186=some (JK):=by kernel_rfl
theorem ah7:aR 186=true:=by kernel_rfl
theorem ad1:TI 187=some (JL):=by kernel_rfl
theorem ah8:aR 187=true:=by kernel_rfl
theorem ac8:TI 35=some (Ei):=by kernel_rfl
theorem ah6:aR 35=true:=by kernel_rfl
theorem ae6:TI 120=some (eqfQ 3 [(.d (.slice true [])),(.d (.slice true [])),(.d (.slice true []))]):=by kernel_rfl
theorem aj2:aR 120=true:=by kernel_rfl
theorem ae7:TI 121=some (Oq):=by kernel_rfl
theorem aj3:aR 121=true:=by kernel_rfl
theorem af5:TI 196=some (eqfQ 3 [(.d (.slice true [])),(.d (.slice true [])),(.d (.slice true []))]):=by kernel_rfl
theorem ak1:aR 196=true:=by kernel_rfl
theorem af6:TI 197=some (OE):=by kernel_rfl
theorem ak2:aR 197=true:=by kernel_rfl
theorem af7:TI 198=some (eqfQ 4 [(.d (.slice true [])),(.d (.slice true [])),(.d (.slice true [])),(.d (.slice true []))]):=by kernel_rfl
theorem ak3:aR 198=true:=by kernel_rfl
theorem af8:TI 199=some (OG):=by kernel_rfl
theorem ak4:aR 199=true:=by kernel_rfl
theorem af9:TI 200=some (eqfQ 2 [(.d (.str ⟨#[]⟩)),(.d (.slice true []))]):=by kernel_rfl
theorem ak5:aR 200=true:=by kernel_rfl
theorem ag0:TI 201=some (OH):=by kernel_rfl
theorem ak6:aR 201=true:=by kernel_rfl
theorem ag1:TI 264=some (eqlQ 2 (.agg [(.i .i64),.s])):=by kernel_rfl
theorem ak7:aR 264=true:=by kernel_rfl
theorem ag2:TI 265=some (eqlQ 2 (.agg [(.i .u32),(.i .i64)])):=by kernel_rfl
theorem ak8:aR 265=true:=by kernel_rfl
theorem ag3:TI 266=some (eql1Q (.sc (.i .i64))):=by kernel_rfl
theorem ak9:aR 266=true:=by kernel_rfl
theorem i117:TI 77=none:=by kernel_rfl
theorem ae0:TI 117=none:=by kernel_rfl
theorem i70:TI 4=none:=by kernel_rfl
end
section
section
variable {E:Calls'}(h113:∀ p:Pol,p.ok->∀ h,E 130 [ag p.c] h=some (ag p.own.c,h))
include h113
def Vw.own (v:Vw):Vw:={ v with policies:=⟨v.policies.nl,v.policies.l.map Pol.own⟩ }
end
section
variable {E:Calls'}
theorem YK (a:Int)(h:Hp):Sm E TI aR 123 [.d (u64 a)] h=some (.d (u64 a),h):=by
 rw [aY ae9 aj5];simp [ae,OB]
theorem Gf {s:Sl Int}{i:Nat}(hi:i<s.l.length){kd:IntKind}{h:Hp}:bg none 1 (.d (s.d ak)) (.d (.int kd i)) h=some (.eptr (ak s.l[i]) 0,h) :=
 oJ (cells:=ak) (λ_=>rfl) hi
theorem YZ {s:Sl Int}(hs:s.l.length<2 ^ 62)(most:Int):∀ (m i:Nat),i+m=s.l.length->1<=i →
 Cd E TI aR (.loop [0,1,2,9,10] gZ) [(0,.d (s.d ak)),(1,.d (i64 most)),(2,.fn 123 []),(9,.d (i64 s.l.length)),(10,.d (i64 i))] ⟨[],0⟩ =
  if aZ (s.l.drop (i-1)) then some (.exit 0,[(0,.d (s.d ak)),(1,.d (i64 most))],⟨[],0⟩) else some (.ret,[(6,bl false)],⟨[],0⟩):=by
 intro m;have key:=aC (E:=E) (T:=TI) (val:=aR) [0,1,2,9,10] gZ;generalize Cd E TI aR (.loop [0,1,2,9,10] gZ)=W at key ⊢
 induction m with
 | zero =>
  intro i hi h1;rw [key,og (by omega)];simp [gZ,show ¬ ((i:Int)<s.l.length) from by omega]
 | succ m ih =>
  intro i hi h1;have hlt:i<s.l.length:=by omega
  have hd:=mh (l:=s.l) (i:=i-1) (by omega);have hs1:i-1+1=i:=by omega
  simp only [hs1] at hd;have hp1:=λh=>Gf hlt (kd:=.i64) (h:=h);have hp0:=λh=>Gf (show i-1<s.l.length by omega) (kd:=.i64) (h:=h);have c1:=YK (E:=E);have hw:=ay hlt hs;have hwm:IntKind.wrap .i64 ((i:Int)-1)=((i-1:Nat):Int):=by rw [wrap64]<;>omega
  have hpos:0<i:=h1;have hih:=ih (i+1) (by omega) (by omega);simp only [show i+1-1=i by omega] at hih;rw [key,hd];generalize s.l[i]=y at *;generalize s.l[i-1]=x at *;by_cases hg:x<y
  . simp +decide [gZ,hp1,hp0,ak,hwm,hw,hpos,c1,hlt,hg,aA,aa,aM,show ¬ (x>=y) from by omega];simpa using hih
  . simp +decide [gZ,hp1,hp0,ak,hwm,hw,hpos,c1,hlt,hg,aA,aa,aM,show x>=y from by omega]
theorem Iu {s:Sl Int}(hs:s.l.length<2 ^ 62)(most:Int)(h:Hp):Sm E TI aR 122 [.d (s.d ak),.d (i64 most),.fn 123 []] h=some (bl (aZ s.l&&decide ((s.l.length:Int)<=most)),h):=by
 rw [aY ae8 aj4];have hfr:frz h (.fn 123 [])=some (.fn 123 []):=rfl;have key:=aC (E:=E) (T:=TI) (val:=aR) [0,1,2,9,10] gZ;have hl:=YZ (E:=E) hs most;simp [ae,OA,hfr];rw [au];simp only [jC,kz];simp;generalize Cd E TI aR (.loop [0,1,2,9,10] gZ)=W at key hl ⊢;by_cases h0:s.l=[]
 . rw [key];simp [gZ,h0,aZ,dY]
 . have hpos:0<s.l.length:=List.length_pos_iff.2 h0;have h1:=hl (s.l.length-1) 1 (by omega) (by omega);simp at h1;rw [key];have hw:=ay hpos hs;simp at hw;simp +decide [gZ,aA,aM,hpos,hw,h1];cases aZ s.l<;>simp [dY]
theorem Y0 {s:Sl Int}(hs:short s)(n:Int)(h:Hp):∀ (m i:Nat),i+m=s.l.length →
 Cd E TI aR (.loop [0,1,7,8] kY) [(0,.d (s.d ak)),(1,.d (u64 n)),(7,.d (i64 s.l.length)),(8,.d (i64 i))] h =
  match (s.l.drop i).findIdx? (λx=>x==n) with
  | some k=>some (.ret,[(4,.d (i64 (i+k:Nat)))],h)
  | none=>some (.exit 0,[],h):=by
 have hlt:=hs.lt;intro m;have key:=aC (E:=E) (T:=TI) (val:=aR) [0,1,7,8] kY;generalize Cd E TI aR (.loop [0,1,7,8] kY)=W at key ⊢
 induction m with
 | zero =>
  intro i hi;have h0:s.l.drop i=[]:=ba (by omega);rw [key];simp [kY,h0,show ¬ ((i:Int)<s.l.length) from by omega]
 | succ m ih =>
  intro i hi;have h1:i<s.l.length:=by omega
  have hx:=λh=>av (z:=1) h (ab h1) (cells:=ak) rfl;have hw:=ay h1 hlt;have:=ih (i+1) (by omega);rw [key,aw h1];generalize s.l[i]=x at *;by_cases hq:x=n
  . simp [kY,hx,hq,ak,List.findIdx?_cons,show ((i:Int)<s.l.length) from by omega]
  . have hq':(x==n)=false:=by simpa using hq
    have hq2:¬ n=x:=λh=>hq h.symm;simp [kY,hx,hq',hq,hq2,ak,hw,List.findIdx?_cons,show ((i:Int)<s.l.length) from by omega];rw [show ((i:Int)+1)=((i+1:Nat):Int) from by omega,this];cases hfi:(s.l.drop (i+1)).findIdx? (λp=>p==n) with
    | none=>rfl
    | some k=>simp; omega
theorem Qo {s:Sl Int}(hs:short s)(n:Int)(h:Hp):Sm E TI aR 202 [.d (s.d ak),.d (u64 n)] h=some (.d (i64 (gp s.l λx=>x==n)),h):=by
 rw [aY af4 ak0];have k1:=λh=>Y0 (E:=E) hs n h s.l.length 0 (by omega);simp at k1;simp [ae,OC];rw [au];simp [k1,gp];cases s.l.findIdx? (λx=>x==n) with
 | none=>simp
 | some k=>simp
theorem EU {s:Sl Int}(hs:short s)(n:Int)(h:Hp):Sm E TI aR 125 [.d (s.d ak),.d (u64 n)] h=some (bl (bu s.l n),h):=by
 rw [aY ae5 aj1];obtain ⟨g1,g2⟩ | ⟨k,p,g1,g2,g3⟩:=gH s.l (λx=>x==n)
 . simp [ae,JN,Qo hs,g2,bu,g1]
 . simp [ae,JN,Qo hs,g2,bu,g1]
theorem Io (p:Pod)(h:Hp):Sm E TI aR 38 [ag p.c] h=some (.d (u64 p.uid),h):=by rw [aY ac3 ag8]; simp [ae,N7]
theorem Ip (p:Svc)(h:Hp):Sm E TI aR 40 [ag p.c] h=some (.d (u64 p.id),h):=by rw [aY i168 ag9]; simp [ae,N8]
theorem Iq (p:Way)(h:Hp):Sm E TI aR 42 [ag p.c] h=some (.d (u64 p.id),h):=by rw [aY ac4 ah0]; simp [ae,N9]
theorem Ir (p:Pol)(h:Hp):Sm E TI aR 44 [ag p.c] h=some (.d (u64 p.id),h):=by rw [aY ac5 ah1]; simp [ae,Oa]
theorem YF (p:Pod)(h:Hp):Sm E TI aR 106 [ag p.c] h=some (bl (bM p),h):=by
 rw [aY ad2 ah9];unfold bM;by_cases a1:(p.ns.size:Int)>64
 case pos=>simp +decide [ae,zL,a1]
 by_cases a2:(p.sa.size:Int)>64
 case pos=>simp +decide [ae,zL,a1,a2]
 by_cases a3:p.host<0
 case pos=>simp +decide [ae,zL,a1,a2,a3]
 by_cases a4:p.host>9
 case pos=>simp +decide [ae,zL,a1,a2,a3,a4]
 by_cases a5:p.port<0
 case pos=>simp +decide [ae,zL,a1,a2,a3,a4,a5]
 simp +decide [ae,zL,a1,a2,a3,a4,a5]
theorem YG (p:Svc)(h:Hp):Sm E TI aR 107 [ag p.c] h=some (bl (dK p),h):=by
 rw [aY ad3 ai0];unfold dK;by_cases a1:(p.ns.size:Int)>64
 case pos=>simp +decide [ae,GR,a1]
 by_cases a2:p.port<0
 case pos=>simp +decide [ae,GR,a1,a2]
 simp +decide [ae,GR,a1,a2]
theorem YH (p:Way)(h:Hp):Sm E TI aR 109 [ag p.c] h=some (bl (dZ p),h):=by
 rw [aY ad4 ai1];unfold dZ;by_cases a1:p.node<0
 case pos=>simp +decide [ae,JM,a1]
 simp +decide [ae,JM,a1]
theorem C9 (s t:Sl Term)(hs:short s)(h:Hp):Sm E TI aR 264 [.d (s.d Term.c),.d (t.d Term.c)] h=some (bl (all2 Term.eqB s.l t.l),h) :=
 yx (z:=2) (λ_=>rfl) (by decide) ag1 ak7 hs.lt (λx y h=>FY) h
theorem YO (s t:Sl Cidr)(hs:short s)(h:Hp):Sm E TI aR 265 [.d (s.d Cidr.c),.d (t.d Cidr.c)] h=some (bl (all2 Cidr.eqB s.l t.l),h) :=
 yx (z:=2) (λ_=>rfl) (by decide) ag2 ak8 hs.lt (λx y h=>FX) h
theorem YP (s t:Sl Int)(hs:short s)(h:Hp):Sm E TI aR 266 [.d (s.d gq),.d (t.d gq)] h=some (bl (all2 (λx y:Int=>x==y) s.l t.l),h) :=
 E9 (cell:=λn=>i64 n) ag3 ak9 hs.lt (λx y h=>K7) h
theorem YL (a b:Source)(ha:a.fits big)(h:Hp):Sm E TI aR 197 [ag a.c,ag b.c] h=some (bl (a.same b),h):=by
 have n1:=λh=>C9 (E:=E) a.names b.names ha.1 h;have n2:=λh=>C9 (E:=E) a.spaces b.spaces ha.2.1 h;have n3:=λh=>YO (E:=E) a.nets b.nets ha.2.2 h;rw [aY af6 ak2];unfold Source.same;generalize all2 Term.eqB a.names.l b.names.l=A1 at *;generalize all2 Term.eqB a.spaces.l b.spaces.l=A2 at *;generalize all2 Cidr.eqB a.nets.l b.nets.l=A3 at *;cases A1<;>cases A2<;>simp +decide [ae,OE,n1,n2,n3,aA,aa,aM,aj]
theorem YM (a b:Target)(ha:a.fits big)(h:Hp):Sm E TI aR 199 [ag a.c,ag b.c] h=some (bl (a.same b),h):=by
 have n0:=λh=>YP (E:=E) a.ports b.ports ha.1 h;have n1:=λh=>C9 (E:=E) a.methods b.methods ha.2.1 h;have n2:=λh=>C9 (E:=E) a.paths b.paths ha.2.2.1 h;have n3:=λh=>C9 (E:=E) a.hosts b.hosts ha.2.2.2 h;rw [aY af8 ak4];unfold Target.same;generalize all2 (λx y:Int=>x==y) a.ports.l b.ports.l=A0 at *;generalize all2 Term.eqB a.methods.l b.methods.l=A1 at *;generalize all2 Term.eqB a.paths.l b.paths.l=A2 at *;generalize all2 Term.eqB a.hosts.l b.hosts.l=A3 at *;cases A0<;>cases A1<;>cases A2<;>simp +decide [ae,OG,n0,n1,n2,n3,aA,aa,aM,aj]
theorem YN (a b:When)(ha:a.fits big)(h:Hp):Sm E TI aR 201 [ag a.c,ag b.c] h=some (bl (a.same b),h):=by
 have n1:=λh=>C9 (E:=E) a.terms b.terms ha h;rw [aY ag0 ak6];unfold When.same;generalize all2 Term.eqB a.terms.l b.terms.l=A1 at *;cases e1:eqS a.head b.head<;>simp +decide [ae,OH,n1,e1,aA,aa,aM,aj]
theorem YJ (a b:Rule)(ha:a.fits big)(h:Hp):Sm E TI aR 121 [ag a.c,ag b.c] h=some (bl (a.same b),h):=by
 have n1:=λh=>yw (E:=E) (T:=TI) (val:=aR) (cells:=Source.c) (z:=3) (λ_=>rfl) (by decide) rfl (f:=197) (p:=Source.same) af5 ak1 (s:=a.frm) (t:=b.frm) ha.1.1.lt (λx hx y _ h=>YL x y (ha.1.2 x hx) h) h;have n2:=λh=>yw (E:=E) (T:=TI) (val:=aR) (cells:=Target.c) (z:=4) (λ_=>rfl) (by decide) rfl (f:=199) (p:=Target.same) af7 ak3 (s:=a.to) (t:=b.to) ha.2.1.1.lt (λx hx y _ h=>YM x y (ha.2.1.2 x hx) h) h;have n3:=λh=>yw (E:=E) (T:=TI) (val:=aR) (cells:=When.c) (z:=2) (λ_=>rfl) (by decide) rfl (f:=201) (p:=When.same) af9 ak5 (s:=a.whn) (t:=b.whn) ha.2.2.1.lt (λx hx y _ h=>YN x y (ha.2.2.2 x hx) h) h;rw [aY ae7 aj3];unfold Rule.same;generalize all2 Source.same a.frm.l b.frm.l=A1 at *;generalize all2 Target.same a.to.l b.to.l=A2 at *;generalize all2 When.same a.whn.l b.whn.l=A3 at *;cases A1<;>cases A2<;>simp +decide [ae,Oq,n1,n2,n3,aA,aa,aM,aj]
theorem Qn (a b:Pol)(ha:a.fits big)(h:Hp):Sm E TI aR 35 [ag a.c,ag b.c] h=some (bl (a.same b),h):=by
 have n1:=λh=>yw (E:=E) (T:=TI) (val:=aR) (cells:=Rule.c) (z:=3) (λ_=>rfl) (by decide) rfl (f:=121) (p:=Rule.same) ae6 aj2 (s:=a.rules) (t:=b.rules) ha.1.lt (λx hx y _ h=>YJ x y (ha.2 x hx) h) h;rw [aY ac8 ah6];unfold Pol.same;generalize all2 Rule.same a.rules.l b.rules.l=A1 at *;cases e1:(a.id==b.id)
 case false=>simp +decide [ae,Ei,n1,e1,aA,aa,aM,aj]
 cases e2:eqS a.ns b.ns
 case false=>simp +decide [ae,Ei,n1,e1,e2,aA,aa,aM,aj]
 cases e3:(a.service==b.service)
 case false=>simp +decide [ae,Ei,n1,e1,e2,e3,aA,aa,aM,aj]
 cases e4:(a.deny==b.deny)<;>simp +decide [ae,Ei,n1,e1,e2,e3,e4,aA,aa,aM,aj]
theorem YE (a:Int)(h:Hp):Sm E TI aR 187 [.d (u32 a)] h=some (.d (u32 a),h):=by
 rw [aY ad1 ah8];simp [ae,JL]
theorem Q3 {s:Sl Int}(hs:s.l.length<2 ^ 62)(most:Int):∀ (m i:Nat),i+m=s.l.length->1<=i →
 Cd E TI aR (.loop [0,1,2,9,10] gY) [(0,.d (s.d bP)),(1,.d (i64 most)),(2,.fn 187 []),(9,.d (i64 s.l.length)),(10,.d (i64 i))] ⟨[],0⟩ =
  if aZ (s.l.drop (i-1)) then some (.exit 0,[(0,.d (s.d bP)),(1,.d (i64 most))],⟨[],0⟩) else some (.ret,[(6,bl false)],⟨[],0⟩):=by
 intro m;have key:=aC (E:=E) (T:=TI) (val:=aR) [0,1,2,9,10] gY;generalize Cd E TI aR (.loop [0,1,2,9,10] gY)=W at key ⊢
 induction m with
 | zero =>
  intro i hi h1;rw [key,og (by omega)];simp [gY,show ¬ ((i:Int)<s.l.length) from by omega]
 | succ m ih =>
  intro i hi h1;have hlt:i<s.l.length:=by omega
  have hd:=mh (l:=s.l) (i:=i-1) (by omega);have hs1:i-1+1=i:=by omega
  simp only [hs1] at hd;have hp1:=λh=>Gd hlt (kd:=.i64) (h:=h);have hp0:=λh=>Gd (show i-1<s.l.length by omega) (kd:=.i64) (h:=h);have c1:=YE (E:=E);have hw:=ay hlt hs;have hwm:IntKind.wrap .i64 ((i:Int)-1)=((i-1:Nat):Int):=by rw [wrap64]<;>omega
  have hpos:0<i:=h1;have hih:=ih (i+1) (by omega) (by omega);simp only [show i+1-1=i by omega] at hih;rw [key,hd];generalize s.l[i]=y at *;generalize s.l[i-1]=x at *;by_cases hg:x<y
  . simp +decide [gY,hp1,hp0,bP,hwm,hw,hpos,c1,hlt,hg,aA,aa,aM,show ¬ (x>=y) from by omega];simpa using hih
  . simp +decide [gY,hp1,hp0,bP,hwm,hw,hpos,c1,hlt,hg,aA,aa,aM,show x>=y from by omega]
theorem YD {s:Sl Int}(hs:s.l.length<2 ^ 62)(most:Int)(h:Hp):Sm E TI aR 186 [.d (s.d bP),.d (i64 most),.fn 187 []] h=some (bl (aZ s.l&&decide ((s.l.length:Int)<=most)),h):=by
 rw [aY ac9 ah7];have hfr:frz h (.fn 187 [])=some (.fn 187 []):=rfl;have key:=aC (E:=E) (T:=TI) (val:=aR) [0,1,2,9,10] gY;have hl:=Q3 (E:=E) hs most;simp [ae,JK,hfr];rw [au];simp only [jC,kz];simp;generalize Cd E TI aR (.loop [0,1,2,9,10] gY)=W at key hl ⊢;by_cases h0:s.l=[]
 . rw [key];simp [gY,h0,aZ,dY]
 . have hpos:0<s.l.length:=List.length_pos_iff.2 h0;have h1:=hl (s.l.length-1) 1 (by omega) (by omega);simp at h1;rw [key];have hw:=ay hpos hs;simp at hw;simp +decide [gY,aA,aM,hpos,hw,h1];cases aZ s.l<;>simp [dY]
variable (h117:∀ s:Sl Int,short s->∀ n h,E 77 [.d (s.d bP),.d (u32 n)] h=some (bl (bu s.l n),h))
include h117 in
theorem YB {s:Sl Int}(hs:short s)(most:Int)(h:Hp):Sm E TI aR 114 [.d (s.d bP),.d (i64 most)] h=some (bl (mD s.l most),h):=by
 have m:∀ h,Sm E TI aR 77 [.d (s.d bP),.d (u32 0)] h=some (bl (bu s.l 0),h):=λh=>by rw [aO i117]; exact h117 _ hs 0 h
 rw [aY i154 ag5];cases e:(aZ s.l&&decide ((s.l.length:Int)<=most))<;>simp +decide [ae,Jt,YD hs.lt most,m,e,mD,aA,aa,aM,aj]
variable (h263:∀ p:Pol,p.wf big->∀ h,E 117 [ag p.c] h=some (bl (df p),h))
include h263 in
theorem YI (p:Pol)(hw:p.wf big)(h:Hp):Sm E TI aR 116 [ag p.c] h=some (bl (!df p),h):=by
 have m:∀ h,Sm E TI aR 117 [ag p.c] h=some (bl (df p),h):=λh=>by rw [aO ae0]; exact h263 p hw h
 rw [aY ad9 ai6];simp +decide [ae,Om,m]
include h117 h263 in
theorem Qm (v:Vw)(hv:v.ok)(hw:∀ p∈v.policies.l,p.wf big)(h:Hp):Sm E TI aR 27 [.d (u64 v.epoch),.d (v.covers.d bP),.d (v.pods.d Pod.c),.d (v.services.d Svc.c),.d (v.bound.d Way.c),.d (v.policies.d Pol.c)] h=some (bl (aT v),h):=by
 have k1:∀ h,Sm E TI aR 114 [.d (v.covers.d bP),.d (i64 38)] h=some (bl (mD v.covers.l 38),h):=λh=>YB h117 hv.1 38 h;have a1:∀ h,Sm E TI aR 91 [.d (v.pods.d Pod.c),.fn 106 []] h=some (bl (v.pods.l.any bM),h):=λh =>
  lJ i143 Ub rfl rfl (mY Pod.c (z:=7) TD TY TH Ud (RowIs.of (cells:=Pod.c) (λ_=>rfl) _) hv.2.1.lt λe he lo=>YF e _)
 have a2:∀ h,Sm E TI aR 81 [.d (v.services.d Svc.c),.fn 107 []] h=some (bl (v.services.l.any dK),h):=λh =>
  lJ TF Ua rfl rfl (mY Svc.c (z:=5) TE TZ TG Uc (RowIs.of (cells:=Svc.c) (λ_=>rfl) _) hv.2.2.1.lt λe he lo=>YG e _)
 have a3:∀ h,Sm E TI aR 108 [.d (v.bound.d Way.c),.fn 109 []] h=some (bl (v.bound.l.any dZ),h):=λh =>
  lJ TJ Ue rfl rfl (mY Way.c (z:=2) i109 T9 TQ Ui (RowIs.of (cells:=Way.c) (λ_=>rfl) _) hv.2.2.2.1.lt λe he lo=>YH e _)
 have a4:∀ h,Sm E TI aR 115 [.d (v.policies.d Pol.c),.fn 116 []] h=some (bl (v.policies.l.any λp=>!df p),h):=λh =>
  lJ TK Uf rfl rfl (mY Pol.c (z:=5) TN Uh TM Ug (RowIs.of (cells:=Pol.c) (λ_=>rfl) _) hv.2.2.2.2.1.lt λe he lo=>YI h263 e (hw e he) _)
 have b1:=λh=>wN (E:=E) ad5 ai2 (s:=v.pods) (cells:=Pod.c) (most:=16) (λ_=>rfl) hv.2.1.lt (λe _ h=>Io e h) h;have b2:=λh=>wN (E:=E) ad6 ai3 (s:=v.services) (cells:=Svc.c) (most:=6) (λ_=>rfl) hv.2.2.1.lt (λe _ h=>Ip e h) h;have b3:=λh=>wN (E:=E) ad7 ai4 (s:=v.bound) (cells:=Way.c) (most:=4) (λ_=>rfl) hv.2.2.2.1.lt (λe _ h=>Iq e h) h;have b4:=λh=>wN (E:=E) ad8 ai5 (s:=v.policies) (cells:=Pol.c) (most:=12) (λ_=>rfl) hv.2.2.2.2.1.lt (λe _ h=>Ir e h) h;unfold aT qf Jg;generalize mD v.covers.l 38=C at *;generalize v.pods.l.any bM=A1 at *;generalize v.services.l.any dK=A2 at *;generalize v.bound.l.any dZ=A3 at *;generalize (v.policies.l.any λp=>!df p)=A4 at *;generalize kG Pod.uid v.pods.l 16=B1 at *;generalize kG Svc.id v.services.l 6=B2 at *;generalize kG Way.id v.bound.l 4=B3 at *;generalize kG Pol.id v.policies.l 12=B4 at *;rw [aY i162 ag6];have hodd:∃ o,(A1||(A2||A3))=o:=⟨_,rfl⟩;obtain ⟨o,ho⟩:=hodd;by_cases m1:v.epoch<=4611686018427387903
 . cases A1<;>cases A2<;>cases A3<;>simp at ho<;>subst ho<;>first
    | (cases C<;>simp +decide [ae,rO,a1,a2,a3,a4,k1,m1]; done)
    | (cases B1
       case false=>cases C<;>simp +decide [ae,rO,a1,a2,a3,a4,b1,k1,m1]
       cases B2
       case false=>cases C<;>simp +decide [ae,rO,a1,a2,a3,a4,b1,b2,k1,m1]
       cases B3
       case false=>cases C<;>simp +decide [ae,rO,a1,a2,a3,a4,b1,b2,b3,k1,m1]
       cases B4<;>cases C<;>simp +decide [ae,rO,a1,a2,a3,a4,b1,b2,b3,b4,k1,m1])
 . cases A1<;>cases A2<;>cases A3<;>first
    | (simp +decide [ae,rO,a1,a2,a3,a4,m1]; done)
    | (cases B1
       case false=>simp +decide [ae,rO,a1,a2,a3,a4,b1,m1]
       cases B2
       case false=>simp +decide [ae,rO,a1,a2,a3,a4,b1,b2,m1]
       cases B3
       case false=>simp +decide [ae,rO,a1,a2,a3,a4,b1,b2,b3,m1]
       simp +decide [ae,rO,a1,a2,a3,a4,b1,b2,b3,b4,m1])
include h117 h263 in
theorem I75 (v:Vw)(hv:v.ok)(hw:∀ p∈v.policies.l,p.wf big)(h:Hp):Sm E TI aR 8 [v.v] h=some (bl (aT v),h):=by
 have k2:=λh=>Qm h117 h263 v hv hw h;rw [aY i75 j75];simp +decide [ae,q75,k2]
def dw (d:Dlt):Bool:=(ja Pod.uid d.gonePods.l 16 d.pods.l&&(ja Svc.id d.goneServices.l 6 d.services.l&&(ja Way.id d.goneBound.l 4 d.bound.l&&ja Pol.id d.gonePolicies.l 12 d.policies.l)))&&aT d.vw
include h117 h263 in
theorem YC (d:Dlt)(hd:d.ok)(hw:∀ p∈d.policies.l,p.wf big)(h:Hp):Sm E TI aR 12 [d.v] h=some (bl (dw d),h):=by
 have k2:=λh=>Qm h117 h263 d.vw hd.1 hw h;obtain ⟨hv,g1,g2,g3,g4⟩:=hd;have c1:=λn h=>EU (E:=E) g1 n h;have c2:=λn h=>EU (E:=E) g2 n h;have c3:=λn h=>EU (E:=E) g3 n h;have c4:=λn h=>EU (E:=E) g4 n h;have n1:=λh=>wM (E:=E) (T:=TI) (val:=aR) (cells:=Pod.c) (z:=7) (key:=Pod.uid) (idf:=38) ae1 ai7 af0 aj6 i143 Ub TH Ud TD TY (λ_=>rfl) (gone:=d.gonePods) (most:=16) (λh=>Iu g1.lt 16 h) c1 (l:=d.pods) hv.2.1 (λe _ h=>Io e h) h;have n2:=λh=>wM (E:=E) (T:=TI) (val:=aR) (cells:=Svc.c) (z:=5) (key:=Svc.id) (idf:=40) ae2 ai8 af1 aj7 TF Ua TG Uc TE TZ (λ_=>rfl) (gone:=d.goneServices) (most:=6) (λh=>Iu g2.lt 6 h) c2 (l:=d.services) hv.2.2.1 (λe _ h=>Ip e h) h;have n3:=λh=>wM (E:=E) (T:=TI) (val:=aR) (cells:=Way.c) (z:=2) (key:=Way.id) (idf:=42) ae3 ai9 af2 aj8 TJ Ue TQ Ui i109 T9 (λ_=>rfl) (gone:=d.goneBound) (most:=4) (λh=>Iu g3.lt 4 h) c3 (l:=d.bound) hv.2.2.2.1 (λe _ h=>Iq e h) h;have n4:=λh=>wM (E:=E) (T:=TI) (val:=aR) (cells:=Pol.c) (z:=5) (key:=Pol.id) (idf:=44) ae4 aj0 af3 aj9 TK Uf TM Ug TN Uh (λ_=>rfl) (gone:=d.gonePolicies) (most:=12) (λh=>Iu g4.lt 12 h) c4 (l:=d.policies) hv.2.2.2.2.1 (λe _ h=>Ir e h) h;simp only [Dlt.vw] at k2;unfold dw;simp only [Dlt.vw];generalize ja Pod.uid d.gonePods.l 16 d.pods.l=A1 at *;generalize ja Svc.id d.goneServices.l 6 d.services.l=A2 at *
 generalize ja Way.id d.goneBound.l 4 d.bound.l=A3 at *;generalize ja Pol.id d.gonePolicies.l 12 d.policies.l=A4 at *;generalize aT _=M at *;rw [aY i164 ag7];cases A1
 case false=>simp +decide [ae,Br,n1]
 cases A2
 case false=>simp +decide [ae,Br,n1,n2]
 cases A3
 case false=>simp +decide [ae,Br,n1,n2,n3]
 cases A4
 case false=>simp +decide [ae,Br,n1,n2,n3,n4]
 simp +decide [ae,Br,n1,n2,n3,n4,k2]
def Vw.same (a b:Vw):Bool:=a.epoch==b.epoch&&(all2 (λx y:Int=>x==y) a.covers.l b.covers.l&&(all2 Pod.eqB a.pods.l b.pods.l&&(all2 Svc.eqB a.services.l b.services.l&&(all2 Way.eqB a.bound.l b.bound.l&&all2 Pol.same a.policies.l b.policies.l))))
theorem I81 (s t:Sl Int)(hs:s.l.length<2 ^ 62)(h:Hp):Sm E TI aR 30 [.d (s.d bP),.d (t.d bP)] h=some (bl (all2 (λx y:Int=>x==y) s.l t.l),h) :=
 E9 (cell:=λn=>u32 n) i81 j81 hs (λx y h=>K7) h
theorem I82 (a b:Vw)(ha:a.ok)(h:Hp):Sm E TI aR 10 [a.v,b.v] h=some (bl (a.same b),h):=by
 have n0:=λh=>I81 (E:=E) a.covers b.covers ha.1.lt h;have n1:=λh=>yx (E:=E) (T:=TI) (val:=aR) (cells:=Pod.c) (z:=7) (λ_=>rfl) (by decide) (p:=Pod.eqB) i173 ah2 (s:=a.pods) (t:=b.pods) ha.2.1.lt (λx y h=>IW) h;have n2:=λh=>yx (E:=E) (T:=TI) (val:=aR) (cells:=Svc.c) (z:=5) (λ_=>rfl) (by decide) (p:=Svc.eqB) ac6 ah3 (s:=a.services) (t:=b.services) ha.2.2.1.lt (λx y h=>IX) h;have n3:=λh=>yx (E:=E) (T:=TI) (val:=aR) (cells:=Way.c) (z:=2) (λ_=>rfl) (by decide) (p:=Way.eqB) i175 ah4 (s:=a.bound) (t:=b.bound) ha.2.2.2.1.lt (λx y h=>IY) h;have n4:=λh=>yw (E:=E) (T:=TI) (val:=aR) (cells:=Pol.c) (z:=5) (λ_=>rfl) (by decide) rfl (f:=35) (p:=Pol.same) ac7 ah5 (s:=a.policies) (t:=b.policies) ha.2.2.2.2.1.lt (λx hx y _ h=>Qn x y (ha.2.2.2.2.2 x hx) h) h;rw [aY i82 j82];unfold Vw.same;generalize all2 (λx y:Int=>x==y) a.covers.l b.covers.l=A0 at *;generalize all2 Pod.eqB a.pods.l b.pods.l=A1 at *;generalize all2 Svc.eqB a.services.l b.services.l=A2 at *;generalize all2 Way.eqB a.bound.l b.bound.l=A3 at *;generalize all2 Pol.same a.policies.l b.policies.l=A4 at *;cases e1:(a.epoch==b.epoch)
 case false=>simp +decide [ae,q82,e1]
 cases A0
 case false=>simp +decide [ae,q82,e1,n0]
 cases A1
 case false=>simp +decide [ae,q82,e1,n0,n1]
 cases A2
 case false=>simp +decide [ae,q82,e1,n0,n1,n2]
 cases A3
 case false=>simp +decide [ae,q82,e1,n0,n1,n2,n3]
 simp +decide [ae,q82,e1,n0,n1,n2,n3,n4]
end
end
section
theorem aL {α:Type}{key:α->Int}{l:List α}{n:Int}(h:kG key l n=true):(l.map key).Nodup/\(l.length:Int)<=n:=by
 simp only [kG,aq,bw] at h;exact ⟨(mi h.1).imp λh=>by omega,h.2⟩
theorem jI {α:Type}{key:α->Int}{l fresh:List α}{gone:List Int}(h1:(l.map key).Nodup)(h2:(fresh.map key).Nodup):(((l.filter (fA key fresh gone))++fresh).map key).Nodup:=by
 rw [List.map_append,List.nodup_append];refine ⟨List.Pairwise.sublist (List.Sublist.map key List.filter_sublist) h1,h2,?_⟩;intro a ha b hb hab;obtain ⟨e,he,rfl⟩:=ce.1 ha;obtain ⟨f,hf,rfl⟩:=ce.1 hb;have:=(List.mem_filter.1 he).2;simp only [fA,aq,Bool.not_eq_true',List.any_eq_false] at this;have h3:=this.2 f hf;simp [hab] at h3
theorem uH {α:Type}{key:α->Int}{l fresh:List α}{gone:List Int}{e:α}(h:e∈bU key l fresh gone):e∈l\/e∈fresh:=by
 have:=(List.mergeSort_perm _ _).mem_iff.1 h;obtain h | h:=List.mem_append.1 this
 . exact .inl (List.mem_filter.1 h).1
 . exact .inr h
theorem eO {α:Type}{key:α->Int}{l fresh:List α}{gone:List Int}:(bU key l fresh gone).length<=l.length+fresh.length:=by
 have:=List.length_filter_le (fA key fresh gone) l;rw [bU,List.length_mergeSort,ao];omega
theorem iO {v:Vw}(h:aT v=true):kG Pod.uid v.pods.l 16=true/\kG Svc.id v.services.l 6=true/\kG Way.id v.bound.l 4=true/\kG Pol.id v.policies.l 12=true:=by
 simp only [aT,qf,aq] at h;exact h.2.2.1.2
end
section
theorem dh {α β:Type}{f:α->α->Bool}{g:α->β}(h:∀ x y,f x y=true↔g x=g y):∀ {l m:List α},all2 f l m=true↔l.map g=m.map g
 | [],[]=>by simp [all2]
 | [],y::m=>by simp [all2]
 | x::l,[]=>by simp [all2]
 | x::l,y::m=>by
  have ih:=dh (f:=f) (g:=g) h (l:=l) (m:=m);simp only [all2,aq,ct,List.cons.injEq];rw [h x y,ih]
def Sl.nf {α:Type}(f:α->α)(s:Sl α):Sl α:=⟨false,s.l.map f⟩
theorem Sl.nf_iff {α:Type}{f:α->α}{s t:Sl α}:s.nf f=t.nf f↔s.l.map f=t.l.map f:=by
 simp [Sl.nf]
def Source.nf (s:Source):Source:=⟨s.names.nf id,s.spaces.nf id,s.nets.nf id⟩
def Target.nf (s:Target):Target:=⟨s.ports.nf id,s.methods.nf id,s.paths.nf id,s.hosts.nf id⟩
def When.nf (s:When):When:=⟨s.head,s.terms.nf id⟩
def Rule.nf (s:Rule):Rule:=⟨s.frm.nf Source.nf,s.to.nf Target.nf,s.whn.nf When.nf⟩
def Pol.nf (s:Pol):Pol:={ s with rules:=s.rules.nf Rule.nf }
theorem qW {l m:List Term}:all2 Term.eqB l m=true↔l.map id=m.map id:=dh (f:=Term.eqB) (g:=id) λ_ _=>Term.eqB_iff
theorem Dm {l m:List Cidr}:all2 Cidr.eqB l m=true↔l.map id=m.map id:=dh (f:=Cidr.eqB) (g:=id) λ_ _=>Cidr.eqB_iff
theorem y8 {l m:List Int}:all2 (λx y:Int=>x==y) l m=true↔l.map id=m.map id:=dh (f:=λx y:Int=>x==y) (g:=id) λ_ _=>by simp
theorem Source.same_iff {a b:Source}:a.same b=true↔a.nf=b.nf:=by
 simp only [Source.same,aq,qW,Dm,Source.nf,Source.mk.injEq,Sl.nf_iff]
theorem Target.same_iff {a b:Target}:a.same b=true↔a.nf=b.nf:=by
 simp only [Target.same,aq,qW,y8,Target.nf,Target.mk.injEq,Sl.nf_iff];constructor
 . rintro ⟨h1,h2,h3,h4⟩; exact ⟨h4,h1,h2,h3⟩
 . rintro ⟨h4,h1,h2,h3⟩; exact ⟨h1,h2,h3,h4⟩
theorem When.same_iff {a b:When}:a.same b=true↔a.nf=b.nf:=by
 simp only [When.same,aq,qW,eqS_iff,When.nf,When.mk.injEq,Sl.nf_iff]
theorem Rule.same_iff {a b:Rule}:a.same b=true↔a.nf=b.nf:=by
 simp only [Rule.same,aq,dh (λx y=>Source.same_iff (a:=x) (b:=y)),dh (λx y=>Target.same_iff (a:=x) (b:=y)),dh (λx y=>When.same_iff (a:=x) (b:=y)),Rule.nf,Rule.mk.injEq,Sl.nf_iff]
theorem Pol.same_iff {a b:Pol}:a.same b=true↔a.nf=b.nf:=by
 simp only [Pol.same,aq,beq_iff_eq,eqS_iff,dh (λx y=>Rule.same_iff (a:=x) (b:=y)),Pol.nf,Pol.mk.injEq,Sl.nf_iff]
theorem wO {α:Type}{p:α->Bool}{f:α->α}(h:∀ x,p (f x)=p x)(s:Sl α):(s.nf f).l.all p=s.l.all p:=by
 simp only [Sl.nf,List.all_map]
 congr 1
 funext x;exact h x
theorem mr (s:Sl Term):bf (s.nf id)=bf s:=by simp [bf,Sl.nf]
theorem xV (s:Source):cK s.nf=cK s:=by
 simp only [cK,Source.nf,mr];simp [mF,Sl.nf]
theorem yg (s:Target):bq s.nf=bq s:=by
 simp only [bq,Target.nf,mr];simp [Sl.nf]
theorem BS (s:When):fZ s.nf=fZ s:=by
 simp only [fZ,When.nf,mr];simp [Sl.nf]
theorem BC (s:Rule):eX s.nf=eX s:=by
 simp only [eX,Rule.nf,wO xV,wO yg,wO BS];simp [Sl.nf]
theorem Ee (p:Pol):df p.nf=df p:=by
 simp only [df,Pol.nf,wO BC];simp only [Sl.nf,b9];rfl
end
section
section
variable {α:Type}{key:α->Int}
def bC (same:α->α->Bool)(a b:List α):List α:=b.filter λx=>!a.any λy=>same x y
def bW (key:α->Int)(a b:List α):List Int:=(a.filter λx=>!b.any λy=>key x==key y).map key
theorem Eh {l fresh:List α}{gone:List Int}(h1:(l.map key).Nodup)(h2:(fresh.map key).Nodup):((bU key l fresh gone).map key).Pairwise (·<·):=by
 have hn:=jI (gone:=gone) h1 h2;have hp:(bU key l fresh gone).Perm ((l.filter (fA key fresh gone))++fresh):=List.mergeSort_perm _ _;have hn2:((bU key l fresh gone).map key).Nodup:=(hp.map key).nodup_iff.2 hn;have hs:=List.pairwise_mergeSort (le:=λ(a b:α)=>decide (key a<=key b)) (by intro a b c h1 h2; simp at *; omega) (by intro a b; simp; omega) ((l.filter (fA key fresh gone))++fresh);have hs2:((bU key l fresh gone).map key).Pairwise (·<=·):=by
  rw [List.pairwise_map];exact hs.imp λh=>by simpa using h
 refine (hs2.and hn2).imp λ⟨h,h'⟩=>?_;have:_≠_:=h';omega
end
end
section
theorem Pol.own_nf (p:Pol):p.own.nf=p.nf:=Pol.same_iff.1 (own_same p)
def Vw.nf (v:Vw):Vw:=⟨v.epoch,v.covers.nf id,v.pods.nf id,v.services.nf id,v.bound.nf id,v.policies.nf Pol.nf⟩
theorem Vw.same_iff {a b:Vw}:a.same b=true↔a.nf=b.nf:=by
 simp only [Vw.same,aq,beq_iff_eq,y8,dh (g:=id) (λx y=>Pod.eqB_iff (x:=x) (y:=y)),dh (g:=id) (λx y=>Svc.eqB_iff (x:=x) (y:=y)),dh (g:=id) (λx y=>Way.eqB_iff (x:=x) (y:=y)),dh (λx y=>Pol.same_iff (a:=x) (b:=y)),Vw.nf,Vw.mk.injEq,Sl.nf_iff]
theorem kJ (v:Vw):aT v.nf=aT v:=by
 have h1:(v.policies.l.map Pol.nf).any (λp=>!df p)=v.policies.l.any λp=>!df p:=by
  rw [List.any_map]; congr 1; funext p; simp [Ee]
 have h2:(v.policies.l.map Pol.nf).map Pol.id=v.policies.l.map Pol.id:=by rw [List.map_map]; rfl
 simp only [aT,Vw.nf,Sl.nf,qf,Jg,kG,h1,h2,List.map_id,b9]
end
section
section
variable {α:Type}{key:α->Int}{f:α->α}
theorem zK (hf:∀ x,key (f x)=key x)(l fresh:List α)(gone:List Int):(bU key l fresh gone).map f=bU key (l.map f) (fresh.map f) gone:=by
 have h1:∀ x,fA key (fresh.map f) gone (f x)=fA key fresh gone x:=λx=>by
  simp only [fA,hf,List.any_map]
  congr 2
  congr 1
  funext y;simp [hf]
 unfold bU;rw [List.map_mergeSort (s:=λa b=>decide (key a<=key b)) (λa _ b _=>by simp [hf]),List.map_append,List.filter_map]
 congr 3
 congr 1
 funext x;exact (h1 x).symm
theorem uf {same:α->α->Bool}(hs:∀ x y,same (f x) (f y)=same x y)(a b:List α):(bC same a b).map f=bC same (a.map f) (b.map f):=by
 unfold bC;rw [List.filter_map]
 congr 2
 funext x;simp [List.any_map,co,hs]
theorem Dx (hf:∀ x,key (f x)=key x)(a b:List α):bW key (a.map f) (b.map f)=bW key a b:=by
 unfold bW;rw [List.filter_map,List.map_map];have h1:(λx=>!(b.map f).any λy=>key x==key y) ∘ f=λx=>!b.any λy=>key x==key y:=by
  funext x;simp [List.any_map,co,hf]
 rw [h1];exact List.map_congr_left λx _=>hf x
end
theorem Source.nf_nf (s:Source):s.nf.nf=s.nf:=by simp [Source.nf,Sl.nf]
theorem Target.nf_nf (s:Target):s.nf.nf=s.nf:=by simp [Target.nf,Sl.nf]
theorem When.nf_nf (s:When):s.nf.nf=s.nf:=by simp [When.nf,Sl.nf]
theorem Rule.nf_nf (s:Rule):s.nf.nf=s.nf:=by
 simp only [Rule.nf,Sl.nf,List.map_map,co,Source.nf_nf,Target.nf_nf,When.nf_nf]
theorem Pol.nf_nf (s:Pol):s.nf.nf=s.nf:=by
 simp only [Pol.nf,Sl.nf,List.map_map,co,Rule.nf_nf]
theorem Pol.same_nf (a b:Pol):Pol.same a.nf b.nf=a.same b:=by
 rw [Bool.eq_iff_iff,Pol.same_iff,Pol.same_iff,Pol.nf_nf,Pol.nf_nf]
end
