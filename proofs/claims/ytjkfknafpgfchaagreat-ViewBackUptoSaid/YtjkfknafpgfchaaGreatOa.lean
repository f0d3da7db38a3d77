/- view.Of: what a node has to know; plain facts. -/
import Derived.Test.YtjkfknafpgfchaaGreatSa
import Derived.Test.YtjkfknafpgfchaaGreatWo
import Derived.Test.YtjkfknafpgfchaaGreatSx
import Derived.Test.YtjkfknafpgfchaaGreatQt
import Derived.Test.YtjkfknafpgfchaaGreatMa
import Derived.Test.YtjkfknafpgfchaaGreatCp
import Derived.Sort.Defs
import Derived.Test.YtjkfknafpgfchaaGreatF6
import Derived.KernelRfl
import Derived.Test.YtjkfknafpgfchaaGreatWa
import Derived.Sort.LotC
import Derived.Sort.LotA
import Derived.Sort.LotD2
import Derived.Sort.LotD3
import Derived.Sort.LotB
import Derived.Sort.LotD1
set_option maxRecDepth 100000
set_option linter.unusedVariables false
set_option linter.unusedSimpArgs false
namespace Go.Proofs.YtjkfknafpgfchaaGreat
section
structure Scp where
 node:Int
 addrs:Sl Int
theorem xn {l:List Int} {n:Int}:iI l n = true ↔ n ∈ l:=by
 simp [iI,List.find?_isSome]
end
section
def cmpL:List Int -> List Int
 | []=>[]
 | [x]=>[x]
 | x :: y :: l=>if x = y then cmpL (y :: l) else x :: cmpL (y :: l)
def jh (l:List Int) (most:Int):Bool:=(bH l && decide ((l.length:Int) <= most)) && !iI l 0
theorem nk:∀ {l:List Int},l.Pairwise (· < ·) -> bH l = true
 | [],_=>rfl
 | [x],_=>rfl
 | x :: y :: l,h=>by
  obtain ⟨h1,h2⟩:=List.pairwise_cons.1 h;simp only [bH,Bool.and_eq_true,decide_eq_true_eq];exact ⟨h1 y (by simp),nk h2⟩
def jy (p:Pod):Bool:=decide ((p.ns.size:Int) > 64) || (decide ((p.sa.size:Int) > 64) || (decide (p.host < 0) || (decide (p.host > 9) || (decide (p.port < 0) || decide (p.port > 65535)))))
def jA (p:Svc):Bool:=decide ((p.ns.size:Int) > 64) || (decide (p.port < 0) || decide (p.port > 65535))
def jC (p:Way):Bool:=decide (p.node < 0) || decide (p.node > 9)
def eO {α:Type} (key:α -> Int) (l:List α) (most:Int):Bool:=bH (l.map key) && decide ((l.length:Int) <= most)
def zT (v:Vw):Bool:=v.pods.l.any jy || (v.services.l.any jA || v.bound.l.any jC)
def jv (v:Vw):Bool:=!zT v && (eO Pod.uid v.pods.l 16 && (eO Svc.id v.services.l 6 && (eO Way.id v.bound.l 4 && eO Pol.id v.policies.l 12)))
def aW (v:Vw):Bool:=decide (v.epoch <= 4611686018427387903) && (jh v.covers.l 38 && (jv v && !v.policies.l.any fun p=>!aS p))
end
section
section
variable {E:Calls'} {T:FuncId -> Option QF} {val:FuncId -> Bool}
theorem QD {id:FuncId} {z:Nat} (ht:T id = some (notQ z)) (hv:val id = false) {c:List D} (hc:c.length = z) {f:FuncId} {caps:List V} {x:Nat} {p:Bool} {h:Hp} (hp:ah h.bs x = some [.fn f caps])
 (hf:∀ ys lo,Sm E T val f (ag c :: caps) ⟨h.bs ++ ys,lo⟩ = some (bl p,⟨h.bs ++ ys,lo⟩)):Sm E T val id [ag c,.ptr x 0] h = some (bl (!p),h):=by
 rw [aB ht hv];have hs:=qH hc;simp [notQ,af,au hp,hf,hs,V.under]
def KeptR {α:Type} (cells:α -> List D) (z n:Nat) (nl:Bool) (l:List α) (bs:List Blk) (v:V):Prop :=
 (nl = true /\ l = [] /\ v = .d (.slice true [])) \/ (nl = false /\ ∃ B cap rest,n <= B /\ v = .row B 0 l.length cap z /\ ah bs B = some (flat (l.map cells) ++ rest))
theorem KeptR.dat {α:Type} {cells:α -> List D} {z n:Nat} {nl:Bool} {l:List α} {bs:List Blk} {v:V} (hz:∀ x,(cells x).length = z) (h:KeptR cells z n nl l bs v) (lo k:Nat):dataV ⟨bs,lo⟩ (k + 1) v = some (.slice nl (l.map cells)):=by
 rcases h with ⟨rfl,rfl,rfl⟩ | ⟨rfl,B,cap,rest,_,rfl,h⟩
 · rfl
 · exact dI (by simp; intro a _; exact hz a) (by simp) h
theorem KeptR.like {α:Type} {cells:α -> List D} {z n:Nat} {nl:Bool} {l:List α} {bs bs':List Blk} {v:V} (h:KeptR cells z n nl l bs v) (ho:∀ x cs,n <= x -> ah bs x = some cs -> ah bs' x = some cs):KeptR cells z n nl l bs' v:=by
 rcases h with ⟨h1,h2,h3⟩ | ⟨h1,B,cap,rest,h2,h3,h4⟩
 · exact .inl ⟨h1,h2,h3⟩
 · exact .inr ⟨h1,B,cap,rest,h2,h3,ho B _ h2 h4⟩
theorem KeptR.nu {α:Type} {cells:α -> List D} {z n:Nat} {nl:Bool} {l:List α} {bs:List Blk} {v:V} (h:KeptR cells z n nl l bs v):Go.Proofs.YtjkfknafpgfchaaGreat.nu v = some v /\ okV v = true:=by
 rcases h with ⟨_,_,rfl⟩ | ⟨_,B,cap,rest,_,rfl,_⟩ <;> exact ⟨rfl,rfl⟩
end
end
section
open Go.Sort (swp)
def zsV (kd:IntKind) (d:Array Int):List V:=d.toList.map (iv kd)
abbrev Mz (kd:IntKind) (bs:List Blk) (b:Nat) (d:Array Int) (lo:Nat):Hp:=Mr bs b (zsV kd d) lo
def Kz (b lo:Nat) (d:Array Int) (lo':Nat) (d':Array Int):Prop:=(lo' <= b) \/ (d' = d /\ lo' = lo)
theorem Kz.refl {b lo:Nat} {d:Array Int}:Kz b lo d lo d:=.inr ⟨rfl,rfl⟩
theorem Kz.trans {b lo lo' lo'':Nat} {d d' d'':Array Int} (h:Kz b lo d lo' d') (k:Kz b lo' d' lo'' d''):Kz b lo d lo'' d'':=by
 rcases k with k | ⟨rfl,rfl⟩
 · exact .inl k
 · exact h
end
section
open Go.Sort (swp ltInt insInner insOuter insertionSort)
end
section
open Go.Sort (swp ltInt siftDown heapBuild heapPop heapSort)
@[simp] theorem BG {k:IntKind} {a b:Int}:bJ .mul (.d (.int k a)) (.d (.int k b)) = some (.int k (k.wrap (a * b))):=by simp [bJ,dU]
end
section
open Go.Sort (swp ltInt siftDown heapBuild heapPop heapSort reverseLoop reverseRange)
end
section
open Go.Sort (swp ltInt order2 median medianAdjacent choosePivot Hint)
def Ks (c lo s lo' s':Nat):Prop:=(lo' = lo /\ s' = s) \/ lo' = min lo c
theorem Ks.trans {c lo s lo' s' lo'' s'':Nat} (h:Ks c lo s lo' s') (k:Ks c lo' s' lo'' s''):Ks c lo s lo'' s'':=by
 unfold Ks at *;rcases h with ⟨rfl,rfl⟩ | rfl <;> rcases k with ⟨rfl,rfl⟩ | rfl
 · exact .inl ⟨rfl,rfl⟩
 · exact .inr rfl
 · exact .inr rfl
 · exact .inr (by omega)
end
section
open Go.Sort (swp ltInt order2 median medianAdjacent choosePivot Hint)
end
section
open Go.Sort (swp ltInt scanUp scanDown partLoop partEqLoop partition partitionEqual)
end
section
open Go.Sort (swp ltInt scanUp scanDown partLoop partEqLoop partition partitionEqual scanUp_spec scanDown_spec partLoop_eq partEqLoop_eq)
end
section
open Go.Sort (swp ltInt scanSorted shiftDown shiftUp partialIns partialInsertionSort)
end
section
open Go.Sort (swp ltInt PermIn permIn_trans permIn_refl swp_permIn)
end
section
open Go.Sort (swp ltInt PermIn permIn_trans permIn_refl)
end
section
open Go.Sort (swp ltInt PermIn SortedIn Below SWO permIn_trans permIn_refl partition partitionEqual partialInsertionSort choosePivot reverseRange round_eq round_part partition_holds partitionEqual_holds Hint)
def Kq (b lo:Nat) (d:Array Int) (ys:List Blk) (lo':Nat) (d':Array Int):Prop:=lo' <= b \/ (d' = d /\ ys = [] /\ lo' = lo)
theorem Kq.of {b lo lo':Nat} {d d':Array Int} (h:Kz b lo d lo' d'):Kq b lo d [] lo' d':=by
 rcases h with h | ⟨h1,h2⟩
 · exact .inl h
 · exact .inr ⟨h1,rfl,h2⟩
theorem Kq.trans {b lo lo' lo'':Nat} {d d' d'':Array Int} {ys zs:List Blk} (h:Kq b lo d ys lo' d') (k:Kq b lo' d' zs lo'' d''):Kq b lo d (ys ++ zs) lo'' d'':=by
 rcases k with k | ⟨rfl,rfl,rfl⟩
 · exact .inl k
 · rcases h with h | ⟨rfl,rfl,rfl⟩
   · exact .inl h
   · exact .inr ⟨rfl,rfl,rfl⟩
end
section
open Go.Sort (swp ltInt PermIn SortedIn Below SWO permIn_trans permIn_refl partialInsertionSort choosePivot reverseRange partialInsertionSort_holds choosePivot_holds reverseRange_holds insertionSort_holds heapSort_holds insertionSort heapSort Hint)
end
section
open Go.Sort (ltInt PermIn SortedIn sorted_unique_holds)
end
section
def Scp.c (x:Scp):List D:=[i64 x.node,x.addrs.d di]
@[simp] theorem Scp.len {x:Scp}:x.c.length = 2:=(rfl)
@[simp] theorem Scp.all {x:Scp}:sub x.c 0 2 = some x.c:=(rfl)
@[simp] theorem Scp.s0_1 {x:Scp}:sub x.c 0 1 = some [i64 x.node]:=(rfl)
@[simp] theorem Scp.s1_1 {x:Scp}:sub x.c 1 1 = some [x.addrs.d di]:=(rfl)
structure OfE (c:Cfg) (s:Scp) (bs:List Blk):Prop where
 b0:ah bs 0 = some (c.c.map .d)
 b1:ah bs 1 = some (s.c.map .d)
 b3:ah bs 3 = some [.fn 67 [.ptr 1 0]]
 b4:ah bs 4 = some [.fn 68 [.ptr 1 0]]
 b5:ah bs 5 = some [.fn 70 [.ptr 0 0,.ptr 3 0]]
 b6:ah bs 6 = some [.fn 72 [.ptr 0 0]]
 b7:ah bs 7 = some [.fn 75 [.ptr 1 0,.ptr 6 0,.ptr 5 0]]
theorem OfE.lay {c:Cfg} {s:Scp} {bs:List Blk} (h:OfE c s bs) (ys:List Blk):OfE c s (bs ++ ys) :=
 ⟨au h.b0,au h.b1,au h.b3,au h.b4,au h.b5,au h.b6,au h.b7⟩
theorem OfE.like {c:Cfg} {s:Scp} {bs bs':List Blk} (h:OfE c s bs) (ho:∀ x,x < 8 -> bs'[x]? = bs[x]?):OfE c s bs':=by
 have g:∀ x cs,x < 8 -> ah bs x = some cs -> ah bs' x = some cs:=fun x cs hx hg=>by
  unfold ah at hg ⊢; rw [ho x hx]; exact hg
 exact ⟨g _ _ (by decide) h.b0,g _ _ (by decide) h.b1,g _ _ (by decide) h.b3,g _ _ (by decide) h.b4,g _ _ (by decide) h.b5,g _ _ (by decide) h.b6,g _ _ (by decide) h.b7⟩
end
section
theorem RowIs.lay {bs:List Blk} {v:V} {z:Nat} {es:List (List D)} (h:RowIs bs v z es) (ys:List Blk):RowIs (bs ++ ys) v z es:=by
 refine ⟨h.1,?_⟩;rcases h.2 with h1 | ⟨b,o,cap,cs,h1,h2,h3⟩
 · exact .inl h1
 · exact .inr ⟨b,o,cap,cs,h1,au h2,h3⟩
section
variable {E:Calls'} (h45:∀ c:Cfg,c.ok -> ∀ n h,E 71 [c.v,.d (u64 n)] h = some (.tup (match wayT c n with | some w=>[w.v,bl true] | none=>[way0.v,bl false]),h))
 (h117:∀ s:Sl Int,short s -> ∀ n h,E 69 [.d (s.d di),.d (u32 n)] h = some (bl (iI s.l n),h))
 (h52:∀ (p:Pol) (x:Pod) h,E 91 [p.v,x.v] h = some (bl (Gp p x.ns x.service),h))
variable {c:Cfg} {s:Scp}
def nP (e:Int) (v1 v2 v3 v4 v5:V):List V:=[.d (u64 e),v1,v2,v3,v4,v5]
end
end
section
abbrev Scp.v (x:Scp):V:=ag x.c
section
variable {E:Calls'}
theorem Gs {s:Sl Int} {i:Nat} (hi:i < s.l.length) {kd:IntKind} {h:Hp}:fP none 1 (.d (s.d di)) (.d (.int kd i)) h = some (.eptr (di s.l[i]) 0,h) :=
 ol (cells:=di) (fun _=>rfl) hi
variable (h117:∀ s:Sl Int,short s -> ∀ n h,E 69 [.d (s.d di),.d (u32 n)] h = some (bl (iI s.l n),h))
include h117
end
end
section
abbrev eB:V:=.d (.slice true [])
def tJ (l:List Int):List V:=l.map fun n=>.d (u32 n)
def CvR (D:Nat) (nl:Bool) (acc:List Int) (bs:List Blk) (v:V):Prop :=
 (nl = true /\ acc = [] /\ v = eB) \/ (nl = false /\ ∃ b cap,8 <= b /\ b ≠ D /\ v = .row b 0 acc.length cap 1 /\ ((cap = none /\ acc ≠ []) \/ (cap = some 0 /\ acc = [])) /\ ah bs b = some (tJ acc))
structure Cv (c:Cfg) (s:Scp) (D:Nat) (nl:Bool) (acc:List Int) (bs:List Blk) (v:V):Prop where
 env:OfE c s bs
 b2:ah bs 2 = some [.d (.int .u64 0),eB,eB,eB,eB,eB]
 d8:8 <= D
 d0:ah bs D = some (nP c.epoch v eB eB eB eB)
 is:CvR D nl acc bs v
end
section
theorem CvR.nu {D:Nat} {nl:Bool} {acc:List Int} {bs:List Blk} {v:V} (h:CvR D nl acc bs v):Go.Proofs.YtjkfknafpgfchaaGreat.nu v = some v:=by
 rcases h with ⟨_,_,rfl⟩ | ⟨_,b,cap,_,_,rfl,_⟩ <;> rfl
theorem OfE.len {c:Cfg} {s:Scp} {bs:List Blk} (h:OfE c s bs):7 < bs.length:=aP h.b7
theorem iT {bs bs':List Blk} {x:Nat} {cs:List V} (h:ah bs x = some cs) (ho:bs'[x]? = bs[x]?):ah bs' x = some cs:=by
 unfold ah at h ⊢; rw [ho]; exact h
theorem Cv.lay {c:Cfg} {s:Scp} {D:Nat} {nl:Bool} {acc:List Int} {bs:List Blk} {v:V} (h:Cv c s D nl acc bs v) (ys:List Blk):Cv c s D nl acc (bs ++ ys) v :=
 ⟨h.env.lay ys,au h.b2,h.d8,au h.d0,by
  rcases h.is with h | ⟨h1,b,cap,h2,h3,h4,h5,h6⟩
  · exact .inl h
  · exact .inr ⟨h1,b,cap,h2,h3,h4,h5,au h6⟩⟩
theorem Cv.app {c:Cfg} {s:Scp} {D:Nat} {nl:Bool} {acc:List Int} {bs:List Blk} {v:V} (h:Cv c s D nl acc bs v) {n:Int} (hl:acc.length < big) {r:Nat} (hr:ah bs r = some [.d (u32 n)]) :
 ∃ v' bs',∃ f:Nat -> Nat,(∀ lo,dZ ⟨bs,lo⟩ 1 4 v (.row r 0 1 (some 1) 1) = some (v',⟨bs',f lo⟩)) /\ bs.length <= bs'.length /\ nu v' = some v' /\ v'.cells = some [v'] /\ ah bs' D = some (nP c.epoch v eB eB eB eB) ∧
  Cv c s D false (acc ++ [n]) (bs'.set D (.cells (nP c.epoch v' eB eB eB eB))) v':=by
 have hrc:∀ lo,aF ⟨bs,lo⟩ (.row r 0 1 (some 1) 1) 1 = some (1,[.d (u32 n)]):=by
  intro lo;simp only [aF,if_true,get_eq,hr];rfl
 have hroom:∀ n,n <= big -> roomy n 4 = true:=fun n hn=>by simp only [roomy,Bool.and_eq_true,decide_eq_true_eq]; exact ⟨hn,by decide⟩
 have h7:=h.env.len;have hD:=aP h.d0;have hd8:=h.d8;have hset:∀ {bs':List Blk} {v':V},bs.length <= bs'.length -> ah (bs'.set D (.cells (nP c.epoch v' eB eB eB eB))) D = some (nP c.epoch v' eB eB eB eB):=fun hle=>by
  unfold ah; rw [List.getElem?_set_self (by omega)]
 rcases h.is with ⟨h1,rfl,rfl⟩ | ⟨h1,b,cap,h2,h3,rfl,h4,h5⟩
 · refine ⟨.row bs.length 0 1 none 1,bs ++ [.cells [.d (u32 n)]],fun lo=>lo,fun lo=>by simp only [dZ,hrc,aC,if_neg (show ¬ (1 = 0) by decide),hroom 1 (by decide),if_true]; rfl,by simp,rfl,rfl,au h.d0,?_,?_,hd8,hset (by simp),.inr ⟨rfl,bs.length,none,by omega,by omega,rfl,.inl ⟨rfl,by simp⟩,?_⟩⟩
   · exact h.env.like fun x hx=>by rw [List.getElem?_set_ne (by omega),List.getElem?_append_left (by omega)]
   · exact iT h.b2 (by rw [List.getElem?_set_ne (by omega),List.getElem?_append_left (by omega)])
   · unfold ah; rw [List.getElem?_set_ne (by omega),List.getElem?_append_right (by omega)]; simp [tJ]
 · have hsub:sub (tJ acc) 0 (acc.length * 1) = some (tJ acc):=bB (by simp [tJ]);have hbl:=aP h5;obtain ⟨bs',hlen,hA,hold,hnew⟩:∃ bs':List Blk,bs'.length = bs.length + 1 /\ (∃ f:Nat -> Nat,∀ lo,dZ ⟨bs,lo⟩ 1 4 (.row b 0 acc.length cap 1) (.row r 0 1 (some 1) 1) = some (.row bs.length 0 (acc.length + 1) none 1,⟨bs',f lo⟩)) /\ (∀ x,x ≠ b -> x < bs.length -> bs'[x]? = bs[x]?) /\ bs'[bs.length]? = some (.cells (tJ acc ++ [.d (u32 n)])):=by
    by_cases h0:acc = []
    · subst h0;refine ⟨bs ++ [.cells [.d (u32 n)]],by simp,?_,fun x _ hx=>by rw [List.getElem?_append_left hx],by simp [tJ]⟩;have hb5:ah bs b = some []:=h5;rcases h4 with ⟨_,hh⟩ | ⟨rfl,_⟩
      · exact absurd rfl hh
      · exact ⟨fun lo=>lo,fun lo=>by simp [dZ,hrc,aC,hroom 1 (by decide),get_eq,hb5,gP,Hp.size,Hp.alloc]⟩
    · have hcn:cap = none:=by
       rcases h4 with ⟨h,_⟩ | ⟨_,h⟩
       · exact h
       · exact absurd h h0
      subst hcn;have hpos:0 < (tJ acc).length:=by simp [tJ]; exact List.length_pos_iff.2 h0
      refine ⟨bs.set b (.cells []) ++ [.cells (tJ acc ++ [.d (u32 n)])],by simp,⟨fun lo=>min lo b,fun lo=>by simp only [dZ,hrc,aC,ne_eq,not_true_eq_false,false_or,if_neg (show ¬ (1 = 0) by decide),get_eq,h5,hsub,hroom (acc.length + 1) (by omega),Bool.not_true,Bool.false_eq_true,if_false,hpos,and_self,if_true,Hp.size,Hp.alloc,Hp.set,List.length_set]⟩,fun x hx hl=>?_,?_⟩
      · rw [List.getElem?_append_left (by simpa using hl),List.getElem?_set_ne (by omega)]
      · rw [List.getElem?_append_right (by simp)]; simp
   obtain ⟨f,hA⟩:=hA;refine ⟨_,bs',f,hA,by omega,rfl,rfl,iT h.d0 (hold _ (by omega) hD),?_,?_,hd8,hset (by omega),.inr ⟨rfl,bs.length,none,by omega,by omega,by simp,.inl ⟨rfl,by simp⟩,?_⟩⟩
   · exact h.env.like fun x hx=>by rw [List.getElem?_set_ne (by omega),hold x (by omega) (by omega)]
   · exact iT h.b2 (by rw [List.getElem?_set_ne (by omega),hold 2 (by omega) (by omega)])
   · unfold ah; rw [List.getElem?_set_ne (by omega),hnew]; simp [tJ]
end
section
structure OfH (E:Calls'):Prop where
 h41:∀ c:Cfg,c.wf 1048576 -> c.wf big -> ∀ h,E 64 [c.v] h = some (bl (QR c),h)
 h45:∀ c:Cfg,c.ok -> ∀ n h,E 71 [c.v,.d (u64 n)] h = some (.tup (match wayT c n with | some w=>[w.v,bl true] | none=>[way0.v,bl false]),h)
 h52:∀ (p:Pol) (x:Pod) h,E 91 [p.v,x.v] h = some (bl (Gp p x.ns x.service),h)
 h90:∀ c:Cfg,c.ok -> ∀ h,E 66 [c.v] h = some (c.own.v,h)
 h117:∀ s:Sl Int,short s -> ∀ n h,E 69 [.d (s.d di),.d (u32 n)] h = some (bl (iI s.l n),h)
 h136:∀ (bs:List Blk) (b lo n:Nat) (cap:Option Nat),b < bs.length -> ∀ d:Array Int,d.size = n -> n < 2 ^ 59 -> ∃ ys lo',E 76 [.row b 0 n cap 1] (Mz .u32 bs b d lo) = some (.tup [],Mr (bs ++ ys) b ((dx d.toList).map (iv .u32)) lo')
 h136n:∀ h,E 76 [eB] h = some (.tup [],h)
 h137:∀ (zs:List Int) (b lo:Nat) (cap:Option Nat) (bs:List Blk),b < bs.length -> zs.length < 2 ^ 62 -> ∃ cur lo',E 77 [.row b 0 zs.length cap 1] (Mr bs b (zs.map (iv .u32)) lo) = some (.row b 0 (cmpL zs).length cap 1,Mr bs b cur lo') /\ cur.take (cmpL zs).length = (cmpL zs).map (iv .u32)
 h137n:∀ h,E 77 [eB] h = some (eB,h)
def Kp {α:Type} (cells:α -> List D) (z D:Nat) (nl:Bool) (l:List α) (bs:List Blk) (v:V):Prop :=
 (nl = true /\ l = [] /\ v = eB) \/ (nl = false /\ ∃ B cap rest,8 <= B /\ B ≠ D /\ v = .row B 0 l.length cap z /\ ah bs B = some (flat (l.map cells) ++ rest))
theorem Kp.kept {α:Type} {cells:α -> List D} {z D:Nat} {nl:Bool} {l:List α} {bs:List Blk} {v:V} (h:Kp cells z D nl l bs v):KeptR cells z 8 nl l bs v:=by
 rcases h with h | ⟨h1,B,cap,rest,h2,_,h3,h4⟩
 · exact .inl h
 · exact .inr ⟨h1,B,cap,rest,h2,h3,h4⟩
theorem Kp.like {α:Type} {cells:α -> List D} {z D:Nat} {nl:Bool} {l:List α} {bs bs':List Blk} {v:V} (h:Kp cells z D nl l bs v) (ho:∀ x,8 <= x -> x ≠ D -> x < bs.length -> bs'[x]? = bs[x]?):Kp cells z D nl l bs' v:=by
 rcases h with h | ⟨h1,B,cap,rest,h2,h3,h4,h5⟩
 · exact .inl h
 · exact .inr ⟨h1,B,cap,rest,h2,h3,h4,iT h5 (ho B h2 h3 (aP h5))⟩
theorem Kp.of {α:Type} {cells:α -> List D} {z D n:Nat} {nl:Bool} {l:List α} {bs:List Blk} {v:V} (h:KeptR cells z n nl l bs v) (h8:8 <= n) (hD:D < n):Kp cells z D nl l bs v:=by
 rcases h with h | ⟨h1,B,cap,rest,h2,h3,h4⟩
 · exact .inl h
 · exact .inr ⟨h1,B,cap,rest,by omega,by omega,h3,h4⟩
theorem KeptR.cells {α:Type} {cells:α -> List D} {z n:Nat} {nl:Bool} {l:List α} {bs:List Blk} {v:V} (h:KeptR cells z n nl l bs v):v.cells = some [v]:=by
 rcases h with ⟨_,_,rfl⟩ | ⟨_,B,cap,rest,_,rfl,_⟩ <;> rfl
structure Vst (c:Cfg) (s:Scp) (D:Nat) (bs:List Blk) (v1 v2 v3 v4 v5:V):Prop where
 env:OfE c s bs
 b2:ah bs 2 = some [.d (.int .u64 0),eB,eB,eB,eB,eB]
 d8:8 <= D
 d0:ah bs D = some (nP c.epoch v1 v2 v3 v4 v5)
section
variable {c:Cfg} {s:Scp} {D:Nat} {bs:List Blk} {v1 v2 v3 v4 v5:V}
theorem Vst.grow (h:Vst c s D bs v1 v2 v3 v4 v5) {bs':List Blk} (ho:∀ x,x < bs.length -> bs'[x]? = bs[x]?):Vst c s D bs' v1 v2 v3 v4 v5 :=
 ⟨h.env.like fun x hx=>ho x (by have:=h.env.len; omega),iT h.b2 (ho 2 (by have:=h.env.len; omega)),h.d8,iT h.d0 (ho D (aP h.d0))⟩
theorem Vst.put (h:Vst c s D bs v1 v2 v3 v4 v5) (w1 w2 w3 w4 w5:V):Vst c s D (bs.set D (.cells (nP c.epoch w1 w2 w3 w4 w5))) w1 w2 w3 w4 w5:=by
 have h8:=h.d8;refine ⟨h.env.like fun x hx=>by rw [List.getElem?_set_ne (by omega)],iT h.b2 (by rw [List.getElem?_set_ne (by omega)]),h8,?_⟩;unfold ah; rw [List.getElem?_set_self (aP h.d0)]
theorem Kp.step {α:Type} {cells:α -> List Go.Proofs.YtjkfknafpgfchaaGreat.D} {z:Nat} {nl:Bool} {l:List α} {v:V} (h:Kp cells z D nl l bs v) {bs':List Blk} (ho:∀ x,x < bs.length -> bs'[x]? = bs[x]?) (b:Blk):Kp cells z D nl l (bs'.set D b) v :=
 h.like fun x _ h2 h3=>by rw [List.getElem?_set_ne (by omega),ho x h3]
variable {E:Calls'} (H:OfH E)
include H
end
end
section
def vw0:Vw:=⟨0,⟨true,[]⟩,⟨true,[]⟩,⟨true,[]⟩,⟨true,[]⟩,⟨true,[]⟩⟩
end
section
end
end Go.Proofs.YtjkfknafpgfchaaGreat
