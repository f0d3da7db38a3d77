/- view.Of: its closures. -/
import Derived.Test.YtmahnnnccohccaaGreatOa
import Derived.Test.YtmahnnnccohccaaGreatF64
import Derived.KernelRfl
import Derived.Test.YtmahnnnccohccaaGreatCp
import Derived.Test.YtmahnnnccohccaaGreatTa
import Derived.Test.YtmahnnnccohccaaGreatQt
import Derived.Test.YtmahnnnccohccaaGreatVa
set_option maxRecDepth 100000
set_option linter.unusedVariables false
set_option linter.unusedSimpArgs false
namespace Go.Proofs.YtmahnnnccohccaaGreat
def Scp.c (x:Scp):List D:=[i64 x.node,x.addrs.d u32C]
@[simp] theorem Scp.len {x:Scp}:x.c.length = 2:=(rfl)
@[simp] theorem Scp.all {x:Scp}:sub x.c 0 2 = some x.c:=(rfl)
@[simp] theorem Scp.s0_1 {x:Scp}:sub x.c 0 1 = some [i64 x.node]:=(rfl)
@[simp] theorem Scp.s1_1 {x:Scp}:sub x.c 1 1 = some [x.addrs.d u32C]:=(rfl)
structure OfE (c:Cfg) (s:Scp) (bs:List Blk):Prop where
 b0:getB bs 0 = some (c.c.map .d)
 b1:getB bs 1 = some (s.c.map .d)
 b3:getB bs 3 = some [.fn 147 [.ptr 1 0]]
 b4:getB bs 4 = some [.fn 148 [.ptr 1 0]]
 b5:getB bs 5 = some [.fn 149 [.ptr 0 0,.ptr 3 0]]
 b6:getB bs 6 = some [.fn 150 [.ptr 0 0]]
 b7:getB bs 7 = some [.fn 153 [.ptr 1 0,.ptr 6 0,.ptr 5 0]]
theorem OfE.lay {c:Cfg} {s:Scp} {bs:List Blk} (h:OfE c s bs) (ys:List Blk):OfE c s (bs ++ ys) :=
 ⟨getB_of h.b0,getB_of h.b1,getB_of h.b3,getB_of h.b4,getB_of h.b5,getB_of h.b6,getB_of h.b7⟩
theorem OfE.like {c:Cfg} {s:Scp} {bs bs':List Blk} (h:OfE c s bs) (ho:∀ x,x < 8 -> bs'[x]? = bs[x]?):OfE c s bs':=by
 have g:∀ x cs,x < 8 -> getB bs x = some cs -> getB bs' x = some cs:=fun x cs hx hg=>by
  unfold getB at hg ⊢; rw [ho x hx]; exact hg
 exact ⟨g _ _ (by decide) h.b0,g _ _ (by decide) h.b1,g _ _ (by decide) h.b3,g _ _ (by decide) h.b4,g _ _ (by decide) h.b5,g _ _ (by decide) h.b6,g _ _ (by decide) h.b7⟩
section
variable {E:Calls'} (h45:∀ c:Cfg,c.ok -> ∀ n h,E 123 [c.v,.d (u64 n)] h = some (.tup (match wayT c n with | some w=>[w.v,bl true] | none=>[way0.v,bl false]),h))
 (h117:∀ s:Sl Int,short s -> ∀ n h,E 137 [.d (s.d u32C),.d (u32 n)] h = some (bl (hasT s.l n),h))
 (h52:∀ (p:Pol) (x:Pod) h,E 170 [p.v,x.v] h = some (bl (holdsT p x.ns x.service),h))
variable {c:Cfg} {s:Scp}
end
end Go.Proofs.YtmahnnnccohccaaGreat
namespace Go.Proofs.YtmahnnnccohccaaGreat
theorem RowIs.lay {bs:List Blk} {v:V} {z:Nat} {es:List (List D)} (h:RowIs bs v z es) (ys:List Blk):RowIs (bs ++ ys) v z es:=by
 refine ⟨h.1,?_⟩
 rcases h.2 with h1 | ⟨b,o,cap,cs,h1,h2,h3⟩
 · exact .inl h1
 · exact .inr ⟨b,o,cap,cs,h1,getB_of h2,h3⟩
section
variable {E:Calls'} (h45:∀ c:Cfg,c.ok -> ∀ n h,E 123 [c.v,.d (u64 n)] h = some (.tup (match wayT c n with | some w=>[w.v,bl true] | none=>[way0.v,bl false]),h))
 (h117:∀ s:Sl Int,short s -> ∀ n h,E 137 [.d (s.d u32C),.d (u32 n)] h = some (bl (hasT s.l n),h))
 (h52:∀ (p:Pol) (x:Pod) h,E 170 [p.v,x.v] h = some (bl (holdsT p x.ns x.service),h))
variable {c:Cfg} {s:Scp}
def vcells (e:Int) (v1 v2 v3 v4 v5:V):List V:=[.d (u64 e),v1,v2,v3,v4,v5]
end
end Go.Proofs.YtmahnnnccohccaaGreat
namespace Go.Proofs.YtmahnnnccohccaaGreat
abbrev Scp.v (x:Scp):V:=ag x.c
section
variable {E:Calls'}
theorem ix_u32 {s:Sl Int} {i:Nat} (hi:i < s.l.length) {kd:IntKind} {h:Hp}:idxv none 1 (.d (s.d u32C)) (.d (.int kd i)) h = some (.eptr (u32C s.l[i]) 0,h) :=
 ix_data (cells:=u32C) (fun _=>rfl) hi
variable (h117:∀ s:Sl Int,short s -> ∀ n h,E 137 [.d (s.d u32C),.d (u32 n)] h = some (bl (hasT s.l n),h))
include h117
end
end Go.Proofs.YtmahnnnccohccaaGreat
namespace Go.Proofs.YtmahnnnccohccaaGreat
abbrev nilV:V:=.d (.slice true [])
def u32s (l:List Int):List V:=l.map fun n=>.d (u32 n)
def CvR (D:Nat) (nl:Bool) (acc:List Int) (bs:List Blk) (v:V):Prop :=
 (nl = true /\ acc = [] /\ v = nilV) \/ (nl = false /\ ∃ b cap,8 <= b /\ b ≠ D /\ v = .row b 0 acc.length cap 1 /\ ((cap = none /\ acc ≠ []) \/ (cap = some 0 /\ acc = [])) /\ getB bs b = some (u32s acc))
structure Cv (c:Cfg) (s:Scp) (D:Nat) (nl:Bool) (acc:List Int) (bs:List Blk) (v:V):Prop where
 env:OfE c s bs
 b2:getB bs 2 = some [.d (.int .u64 0),nilV,nilV,nilV,nilV,nilV]
 d8:8 <= D
 d0:getB bs D = some (vcells c.epoch v nilV nilV nilV nilV)
 is:CvR D nl acc bs v
end Go.Proofs.YtmahnnnccohccaaGreat
namespace Go.Proofs.YtmahnnnccohccaaGreat
theorem CvR.nu {D:Nat} {nl:Bool} {acc:List Int} {bs:List Blk} {v:V} (h:CvR D nl acc bs v):Go.Proofs.YtmahnnnccohccaaGreat.nu v = some v:=by
 rcases h with ⟨_,_,rfl⟩ | ⟨_,b,cap,_,_,rfl,_⟩ <;> rfl
theorem OfE.len {c:Cfg} {s:Scp} {bs:List Blk} (h:OfE c s bs):7 < bs.length:=getB_len h.b7
theorem getB_old {bs bs':List Blk} {x:Nat} {cs:List V} (h:getB bs x = some cs) (ho:bs'[x]? = bs[x]?):getB bs' x = some cs:=by
 unfold getB at h ⊢; rw [ho]; exact h
theorem Cv.lay {c:Cfg} {s:Scp} {D:Nat} {nl:Bool} {acc:List Int} {bs:List Blk} {v:V} (h:Cv c s D nl acc bs v) (ys:List Blk):Cv c s D nl acc (bs ++ ys) v :=
 ⟨h.env.lay ys,getB_of h.b2,h.d8,getB_of h.d0,by
  rcases h.is with h | ⟨h1,b,cap,h2,h3,h4,h5,h6⟩
  · exact .inl h
  · exact .inr ⟨h1,b,cap,h2,h3,h4,h5,getB_of h6⟩⟩
theorem Cv.app {c:Cfg} {s:Scp} {D:Nat} {nl:Bool} {acc:List Int} {bs:List Blk} {v:V} (h:Cv c s D nl acc bs v) {n:Int} (hl:acc.length < big) {r:Nat} (hr:getB bs r = some [.d (u32 n)]) :
 ∃ v' bs',∃ f:Nat -> Nat,(∀ lo,appv ⟨bs,lo⟩ 1 4 v (.row r 0 1 (some 1) 1) = some (v',⟨bs',f lo⟩)) /\ bs.length <= bs'.length /\ nu v' = some v' /\ v'.cells = some [v'] /\ getB bs' D = some (vcells c.epoch v nilV nilV nilV nilV) ∧
  Cv c s D false (acc ++ [n]) (bs'.set D (.cells (vcells c.epoch v' nilV nilV nilV nilV))) v':=by
 have hrc:∀ lo,rowCells ⟨bs,lo⟩ (.row r 0 1 (some 1) 1) 1 = some (1,[.d (u32 n)]):=by
  intro lo
  simp only [rowCells,if_true,get_eq,hr]
  rfl
 have hroom:∀ n,n <= big -> roomy n 4 = true:=fun n hn=>by simp only [roomy,Bool.and_eq_true,decide_eq_true_eq]; exact ⟨hn,by decide⟩
 have h7:=h.env.len
 have hD:=getB_len h.d0
 have hd8:=h.d8
 have hset:∀ {bs':List Blk} {v':V},bs.length <= bs'.length -> getB (bs'.set D (.cells (vcells c.epoch v' nilV nilV nilV nilV))) D = some (vcells c.epoch v' nilV nilV nilV nilV):=fun hle=>by
  unfold getB; rw [List.getElem?_set_self (by omega)]
 rcases h.is with ⟨h1,rfl,rfl⟩ | ⟨h1,b,cap,h2,h3,rfl,h4,h5⟩
 · refine ⟨.row bs.length 0 1 none 1,bs ++ [.cells [.d (u32 n)]],fun lo=>lo,fun lo=>by simp only [appv,hrc,appendAt,if_neg (show ¬ (1 = 0) by decide),hroom 1 (by decide),if_true]; rfl,by simp,rfl,rfl,getB_of h.d0,?_,?_,hd8,hset (by simp),.inr ⟨rfl,bs.length,none,by omega,by omega,rfl,.inl ⟨rfl,by simp⟩,?_⟩⟩
   · exact h.env.like fun x hx=>by rw [List.getElem?_set_ne (by omega),List.getElem?_append_left (by omega)]
   · exact getB_old h.b2 (by rw [List.getElem?_set_ne (by omega),List.getElem?_append_left (by omega)])
   · unfold getB; rw [List.getElem?_set_ne (by omega),List.getElem?_append_right (by omega)]; simp [u32s]
 · have hsub:sub (u32s acc) 0 (acc.length * 1) = some (u32s acc):=sub_all (by simp [u32s])
   have hbl:=getB_len h5
   obtain ⟨bs',hlen,hA,hold,hnew⟩:∃ bs':List Blk,bs'.length = bs.length + 1 /\ (∃ f:Nat -> Nat,∀ lo,appv ⟨bs,lo⟩ 1 4 (.row b 0 acc.length cap 1) (.row r 0 1 (some 1) 1) = some (.row bs.length 0 (acc.length + 1) none 1,⟨bs',f lo⟩)) /\ (∀ x,x ≠ b -> x < bs.length -> bs'[x]? = bs[x]?) /\ bs'[bs.length]? = some (.cells (u32s acc ++ [.d (u32 n)])):=by
    by_cases h0:acc = []
    · subst h0
      refine ⟨bs ++ [.cells [.d (u32 n)]],by simp,?_,fun x _ hx=>by rw [List.getElem?_append_left hx],by simp [u32s]⟩
      have hb5:getB bs b = some []:=h5
      rcases h4 with ⟨_,hh⟩ | ⟨rfl,_⟩
      · exact absurd rfl hh
      · exact ⟨fun lo=>lo,fun lo=>by simp [appv,hrc,appendAt,hroom 1 (by decide),get_eq,hb5,sub_eq,Hp.size,Hp.alloc]⟩
    · have hcn:cap = none:=by
       rcases h4 with ⟨h,_⟩ | ⟨_,h⟩
       · exact h
       · exact absurd h h0
      subst hcn
      have hpos:0 < (u32s acc).length:=by simp [u32s]; exact List.length_pos_iff.2 h0
      refine ⟨bs.set b (.cells []) ++ [.cells (u32s acc ++ [.d (u32 n)])],by simp,⟨fun lo=>min lo b,fun lo=>by simp only [appv,hrc,appendAt,ne_eq,not_true_eq_false,false_or,if_neg (show ¬ (1 = 0) by decide),get_eq,h5,hsub,hroom (acc.length + 1) (by omega),Bool.not_true,Bool.false_eq_true,if_false,hpos,and_self,if_true,Hp.size,Hp.alloc,Hp.set,List.length_set]⟩,fun x hx hl=>?_,?_⟩
      · rw [List.getElem?_append_left (by simpa using hl),List.getElem?_set_ne (by omega)]
      · rw [List.getElem?_append_right (by simp)]; simp
   obtain ⟨f,hA⟩:=hA
   refine ⟨_,bs',f,hA,by omega,rfl,rfl,getB_old h.d0 (hold _ (by omega) hD),?_,?_,hd8,hset (by omega),.inr ⟨rfl,bs.length,none,by omega,by omega,by simp,.inl ⟨rfl,by simp⟩,?_⟩⟩
   · exact h.env.like fun x hx=>by rw [List.getElem?_set_ne (by omega),hold x (by omega) (by omega)]
   · exact getB_old h.b2 (by rw [List.getElem?_set_ne (by omega),hold 2 (by omega) (by omega)])
   · unfold getB; rw [List.getElem?_set_ne (by omega),hnew]; simp [u32s]
section
variable {E:Calls'} (h45:∀ c:Cfg,c.ok -> ∀ n h,E 123 [c.v,.d (u64 n)] h = some (.tup (match wayT c n with | some w=>[w.v,bl true] | none=>[way0.v,bl false]),h))
include h45
end
end Go.Proofs.YtmahnnnccohccaaGreat
namespace Go.Proofs.YtmahnnnccohccaaGreat
structure OfH (E:Calls'):Prop where
 h41:∀ c:Cfg,c.wf 1048576 -> c.wf big -> ∀ h,E 91 [c.v] h = some (bl (cfgMay c),h)
 h45:∀ c:Cfg,c.ok -> ∀ n h,E 123 [c.v,.d (u64 n)] h = some (.tup (match wayT c n with | some w=>[w.v,bl true] | none=>[way0.v,bl false]),h)
 h52:∀ (p:Pol) (x:Pod) h,E 170 [p.v,x.v] h = some (bl (holdsT p x.ns x.service),h)
 h90:∀ c:Cfg,c.ok -> ∀ h,E 96 [c.v] h = some (c.own.v,h)
 h117:∀ s:Sl Int,short s -> ∀ n h,E 137 [.d (s.d u32C),.d (u32 n)] h = some (bl (hasT s.l n),h)
 h136:∀ (bs:List Blk) (b lo n:Nat) (cap:Option Nat),b < bs.length -> ∀ d:Array Int,d.size = n -> n < 2 ^ 59 -> ∃ ys lo',E 155 [.row b 0 n cap 1] (Mz .u32 bs b d lo) = some (.tup [],Mr (bs ++ ys) b ((sortZ d.toList).map (iv .u32)) lo')
 h136n:∀ h,E 155 [nilV] h = some (.tup [],h)
 h137:∀ (zs:List Int) (b lo:Nat) (cap:Option Nat) (bs:List Blk),b < bs.length -> zs.length < 2 ^ 62 -> ∃ cur lo',E 156 [.row b 0 zs.length cap 1] (Mr bs b (zs.map (iv .u32)) lo) = some (.row b 0 (cmpL zs).length cap 1,Mr bs b cur lo') /\ cur.take (cmpL zs).length = (cmpL zs).map (iv .u32)
 h137n:∀ h,E 156 [nilV] h = some (nilV,h)
def Kp {α:Type} (cells:α -> List D) (z D:Nat) (nl:Bool) (l:List α) (bs:List Blk) (v:V):Prop :=
 (nl = true /\ l = [] /\ v = nilV) \/ (nl = false /\ ∃ B cap rest,8 <= B /\ B ≠ D /\ v = .row B 0 l.length cap z /\ getB bs B = some (flat (l.map cells) ++ rest))
theorem Kp.kept {α:Type} {cells:α -> List D} {z D:Nat} {nl:Bool} {l:List α} {bs:List Blk} {v:V} (h:Kp cells z D nl l bs v):KeptR cells z 8 nl l bs v:=by
 rcases h with h | ⟨h1,B,cap,rest,h2,_,h3,h4⟩
 · exact .inl h
 · exact .inr ⟨h1,B,cap,rest,h2,h3,h4⟩
theorem Kp.like {α:Type} {cells:α -> List D} {z D:Nat} {nl:Bool} {l:List α} {bs bs':List Blk} {v:V} (h:Kp cells z D nl l bs v) (ho:∀ x,8 <= x -> x ≠ D -> x < bs.length -> bs'[x]? = bs[x]?):Kp cells z D nl l bs' v:=by
 rcases h with h | ⟨h1,B,cap,rest,h2,h3,h4,h5⟩
 · exact .inl h
 · exact .inr ⟨h1,B,cap,rest,h2,h3,h4,getB_old h5 (ho B h2 h3 (getB_len h5))⟩
theorem Kp.of {α:Type} {cells:α -> List D} {z D n:Nat} {nl:Bool} {l:List α} {bs:List Blk} {v:V} (h:KeptR cells z n nl l bs v) (h8:8 <= n) (hD:D < n):Kp cells z D nl l bs v:=by
 rcases h with h | ⟨h1,B,cap,rest,h2,h3,h4⟩
 · exact .inl h
 · exact .inr ⟨h1,B,cap,rest,by omega,by omega,h3,h4⟩
theorem KeptR.cells {α:Type} {cells:α -> List D} {z n:Nat} {nl:Bool} {l:List α} {bs:List Blk} {v:V} (h:KeptR cells z n nl l bs v):v.cells = some [v]:=by
 rcases h with ⟨_,_,rfl⟩ | ⟨_,B,cap,rest,_,rfl,_⟩ <;> rfl
structure Vst (c:Cfg) (s:Scp) (D:Nat) (bs:List Blk) (v1 v2 v3 v4 v5:V):Prop where
 env:OfE c s bs
 b2:getB bs 2 = some [.d (.int .u64 0),nilV,nilV,nilV,nilV,nilV]
 d8:8 <= D
 d0:getB bs D = some (vcells c.epoch v1 v2 v3 v4 v5)
section
variable {c:Cfg} {s:Scp} {D:Nat} {bs:List Blk} {v1 v2 v3 v4 v5:V}
theorem Vst.grow (h:Vst c s D bs v1 v2 v3 v4 v5) {bs':List Blk} (ho:∀ x,x < bs.length -> bs'[x]? = bs[x]?):Vst c s D bs' v1 v2 v3 v4 v5 :=
 ⟨h.env.like fun x hx=>ho x (by have:=h.env.len; omega),getB_old h.b2 (ho 2 (by have:=h.env.len; omega)),h.d8,getB_old h.d0 (ho D (getB_len h.d0))⟩
theorem Vst.put (h:Vst c s D bs v1 v2 v3 v4 v5) (w1 w2 w3 w4 w5:V):Vst c s D (bs.set D (.cells (vcells c.epoch w1 w2 w3 w4 w5))) w1 w2 w3 w4 w5:=by
 have h8:=h.d8
 refine ⟨h.env.like fun x hx=>by rw [List.getElem?_set_ne (by omega)],getB_old h.b2 (by rw [List.getElem?_set_ne (by omega)]),h8,?_⟩
 unfold getB; rw [List.getElem?_set_self (getB_len h.d0)]
variable {E:Calls'} (H:OfH E)
include H
end
end Go.Proofs.YtmahnnnccohccaaGreat
namespace Go.Proofs.YtmahnnnccohccaaGreat
def vw0:Vw:=⟨0,⟨true,[]⟩,⟨true,[]⟩,⟨true,[]⟩,⟨true,[]⟩,⟨true,[]⟩⟩
end Go.Proofs.YtmahnnnccohccaaGreat
namespace Go.Proofs.YtmahnnnccohccaaGreat
section
variable {E:Calls'} {T:FuncId -> Option QF} {val:FuncId -> Bool}
end
section
variable {E:Calls'}
variable (h154:∀ s:Sl Int,short s -> ∀ (most:Int) h,E 176 [.d (s.d u32C),.d (i64 most)] h = some (bl (coversT s.l most),h))
 (h263:∀ p:Pol,p.wf big -> ∀ h,E 378 [ag p.c] h = some (bl (polMay p),h))
end
end Go.Proofs.YtmahnnnccohccaaGreat
