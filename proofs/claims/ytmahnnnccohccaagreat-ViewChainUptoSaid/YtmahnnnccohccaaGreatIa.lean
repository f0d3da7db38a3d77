/- view.put, view.apart, view.rising at uint64, at any width. -/
import Derived.Test.YtmahnnnccohccaaGreatQt
import Derived.Test.YtmahnnnccohccaaGreatOa
import Derived.Test.YtmahnnnccohccaaGreatWo
import Derived.Test.YtmahnnnccohccaaGreatOd
import Derived.Test.YtmahnnnccohccaaGreatWa
import Derived.Test.YtmahnnnccohccaaGreatF64
import Derived.Test.YtmahnnnccohccaaGreatF7
import Derived.Test.YtmahnnnccohccaaGreatF6
import Derived.KernelRfl
set_option maxRecDepth 100000
set_option linter.unusedVariables false
set_option linter.unusedSimpArgs false
namespace Go.Proofs.YtmahnnnccohccaaGreat
def u64C (n:Int):List D:=[u64 n]
section
variable {E:Calls'} {T:FuncId -> Option QF} {val:FuncId -> Bool}
def KeptP {α:Type} (cells:α -> List D) (z n:Nat) (nl:Bool) (l:List α) (bs:List Blk) (v:V):Prop :=
 (nl = true /\ l = [] /\ v = .d (.slice true [])) \/ (nl = false /\ ∃ B cap rest,n <= B /\ v = .row B 0 l.length cap z /\ getB bs B = some (flat (l.map cells) ++ rest) /\ ((cap = some 0 /\ l = []) \/ (cap = none /\ 0 < (flat (l.map cells) ++ rest).length)))
theorem KeptP.nu {α:Type} {cells:α -> List D} {z n:Nat} {nl:Bool} {l:List α} {bs:List Blk} {v:V} (h:KeptP cells z n nl l bs v):Go.Proofs.YtmahnnnccohccaaGreat.nu v = some v /\ okV v = true:=by
 rcases h with ⟨_,_,rfl⟩ | ⟨_,B,cap,rest,_,rfl,_⟩ <;> exact ⟨rfl,rfl⟩
theorem S_keepP {α:Type} {cells:α -> List D} {z b cl clos del idx id:Nat} {zero:List V} (tcl:T cl = some (cloneQ z b zero)) (vcl:val cl = false) (tdel:T del = some (delQ z idx zero)) (vdel:val del = false) (tidx:T idx = some (idxQ z)) (vidx:val idx = false)
 (tc:T clos = some (notQ z)) (vc:val clos = false) (tid:T id = some (keepQ cl clos del)) (vid:val id = false) (hz:∀ x,(cells x).length = z) (hz0:0 < z) (hzero:zero.length = z) (hb:b <= 4096) {s:Sl α} (hs:short s) {f:FuncId} {caps:List V} {q:α -> Bool} {h:Hp}
 (hq:∀ e ∈ s.l,∀ bs lo,h.bs.length <= bs.length -> (∀ x,x < h.bs.length -> bs[x]? = h.bs[x]?) -> Sm E T val f (ag (cells e) :: caps) ⟨bs,lo⟩ = some (bl (q e),⟨bs,lo⟩)) :
 ∃ r bs' lo',Sm E T val id [.d (s.d cells),.fn f caps] h = some (r,⟨bs',lo'⟩) /\ h.bs.length <= bs'.length /\ (∀ x,x < h.bs.length -> bs'[x]? = h.bs[x]?) /\ KeptP cells z h.bs.length s.nl (s.l.filter q) bs' r:=by
 obtain ⟨bs,lo0⟩:=h
 simp only at hq ⊢
 obtain ⟨nl,l⟩:=s
 simp only at hq ⊢
 have hcl:=S_cloneR (E:=E) (T:=T) (val:=val) tcl vcl hz0 hb (nl:=nl) (es:=l.map cells) (by simp; intro a _; exact hz a) (by simpa using hs.1) ⟨bs ++ [.cells [.fn f caps]],bs.length⟩
 have hlen:l.length < 2 ^ 62:=hs.lt
 have hout:∀ {r:V} {bs':List Blk} {lo':Nat},r.under bs.length = false -> byRef ⟨bs,lo0⟩ (some (r,⟨bs',lo'⟩)) = some (r,⟨bs',min lo0 lo'⟩):=fun hu=>by
  rw [byRef_s,if_neg (fun hh=>by rw [hu] at hh; cases hh.2)]
 have hun:∀ {B o n z:Nat} {cap:Option Nat},bs.length <= B -> V.under bs.length (.row B o n cap z) = false:=fun h=>by simp [V.under]; omega
 rw [Sm_ref tid vid]
 cases nl with
 | true =>
  have hl:=hs.2 rfl
  simp at hl
  subst hl
  have h1:=S_del_none (E:=E) (T:=T) (val:=val) cells (es:=[]) (z:=z) (idx:=idx) (zero:=zero) tidx vidx tdel vdel (v:=.d (.slice true [])) (f:=clos) (caps:=[.ptr bs.length 0]) (q:=fun _=>false) (h:=⟨bs ++ [.cells [.fn f caps]],bs.length⟩) ⟨by simp,.inl ⟨true,rfl⟩⟩ (by simp) (by simp) (by simp)
  simp [cloneR] at hcl
  refine ⟨.d (.slice true []),bs,lo0,?_,Nat.le_refl _,fun _ _=>rfl,.inl ⟨rfl,by simp,rfl⟩⟩
  simp [Bd_mk,keepQ,Sl.d,hcl,h1,V.under,tupOf]
 | false =>
  cases hll:l with
  | nil =>
   subst hll
   have h1:=fun lo=>S_del_none (E:=E) (T:=T) (val:=val) cells (es:=[]) (z:=z) (idx:=idx) (zero:=zero) tidx vidx tdel vdel (v:=.row (bs.length + 1) 0 0 (some 0) z) (f:=clos) (caps:=[.ptr bs.length 0]) (q:=fun _=>false) (h:=⟨bs ++ [.cells [.fn f caps],.cells []],lo⟩) ⟨by simp,.inr ⟨bs.length + 1,0,some 0,[],rfl,by unfold getB; rw [List.getElem?_append_right (by omega)]; simp,by simp [sub_eq]⟩⟩ (by simp) (by simp) (by simp)
   simp [cloneR] at hcl
   refine ⟨.row (bs.length + 1) 0 0 (some 0) z,bs ++ [.cells [.fn f caps],.cells []],min lo0 bs.length,?_,by simp,fun x hx=>by rw [List.getElem?_append_left hx],.inr ⟨rfl,bs.length + 1,some 0,[],by omega,rfl,by unfold getB; rw [List.getElem?_append_right (by omega)]; simp,.inl ⟨rfl,rfl⟩⟩⟩
   refine Eq.trans ?_ (hout (lo':=bs.length) (hun (by omega)))
   congr 1
   simp [Bd_mk,keepQ,Sl.d,hcl,h1,tupOf]
  | cons p l' =>
   have hne:l ≠ []:=by rw [hll]; simp
   have hLz:0 < l.length * z:=Nat.mul_pos (List.length_pos_iff.2 hne) hz0
   rw [← hll]
   have hc2:cloneR z false (l.map cells) (bs ++ [.cells [.fn f caps]]) bs.length = (.row (bs.length + 2) 0 l.length none z,⟨bs ++ [.cells [.fn f caps],.cells [],.cells (flat (l.map cells))],bs.length⟩):=by
    rw [hll]; simp [cloneR]
   rw [hc2] at hcl
   simp at hcl
   have hbF:getB (bs ++ [.cells [.fn f caps],.cells [],.cells (flat (l.map cells))]) (bs.length + 2) = some (flat (l.map cells)):=by unfold getB; rw [List.getElem?_append_right (by omega)]; simp
   have hold:∀ x,x < bs.length -> (bs ++ [Blk.cells [.fn f caps],.cells [],.cells (flat (l.map cells))])[x]? = bs[x]?:=fun x hx=>by rw [List.getElem?_append_left hx]
   have hcall:∀ e ∈ l,∀ bs2 lo2,bs.length + 3 <= bs2.length -> (∀ x,x ≠ bs.length + 2 -> x < bs.length + 3 -> bs2[x]? = (bs ++ [.cells [.fn f caps],.cells [],.cells (flat (l.map cells))])[x]?) -> Sm E T val clos (.agg ((cells e).map .d) :: [.ptr bs.length 0]) ⟨bs2,lo2⟩ = some (.d (.bool (!q e)),⟨bs2,lo2⟩):=by
    intro e he bs2 lo2 hle ho
    refine S_notC tc vc (hz e) (f:=f) (caps:=caps) (p:=q e) ?_ fun ys lo=>?_
    · have:=ho bs.length (by omega) (by omega)
      simp only [getB]
      rw [this,List.getElem?_append_right (by omega)]; simp
    · refine hq e he _ lo (by simp; omega) fun x hx=>?_
      simp only
      rw [List.getElem?_append_left (by omega),ho x (by omega) (by omega)]
      exact hold x hx
   have hnn:(l.filter fun e=>!(!q e)) = l.filter q:=by simp
   by_cases hqq:∃ e ∈ l,(!q e) = true
   · obtain ⟨bs',lo',rest,k1,k2,k3,k4,k5,k6⟩:=S_del_some (E:=E) (T:=T) (val:=val) hz hz0 hzero tidx vidx tdel vdel (es:=l) (b:=bs.length + 2) (cap:=none) (f:=clos) (caps:=[.ptr bs.length 0]) (q:=fun e=>!q e) (h:=⟨bs ++ [.cells [.fn f caps],.cells [],.cells (flat (l.map cells))],bs.length⟩) hbF hlen (fun e he bs2 lo2 a b=>hcall e he bs2 lo2 (by simpa using a) (fun x h1 h2=>b x h1 (by simp; omega))) hqq
     rw [hnn] at k1 k4
     refine ⟨.row (bs.length + 2) 0 (l.filter q).length none z,bs',min lo0 lo',?_,by simp at k2; omega,fun x hx=>by rw [k3 x (by omega) (by simp; omega)]; exact hold x hx,.inr ⟨rfl,bs.length + 2,none,rest,by omega,rfl,k4,.inr ⟨rfl,by rw [List.length_append,flatT_len hz,k6,hnn,← Nat.add_mul,Nat.add_sub_cancel' (List.length_filter_le _ _)]; exact hLz⟩⟩⟩
     refine Eq.trans ?_ (hout (lo':=lo') (hun (by omega)))
     congr 1
     simp [Bd_mk,keepQ,Sl.d,hcl,k1,tupOf]
   · have hall:∀ e ∈ l,(!q e) = false:=by
      intro e he
      cases hh:(!q e) with
      | false=>rfl
      | true=>exact absurd ⟨e,he,hh⟩ hqq
     have hK:l.filter q = l:=List.filter_eq_self.2 fun e he=>by have:=hall e he; simpa using this
     have h1:=S_del_none (E:=E) (T:=T) (val:=val) cells (es:=l) (z:=z) (idx:=idx) (zero:=zero) tidx vidx tdel vdel (v:=.row (bs.length + 2) 0 l.length none z) (f:=clos) (caps:=[.ptr bs.length 0]) (q:=fun e=>!q e) (h:=⟨bs ++ [.cells [.fn f caps],.cells [],.cells (flat (l.map cells))],bs.length⟩)
      ⟨by simp; intro a _; exact hz a,.inr ⟨bs.length + 2,0,none,_,by simp,hbF,by
       rw [sub_eq,if_pos (by rw [flatT_len hz]; simp),List.drop_zero,List.length_map,← flatT_len hz,List.take_length]; rfl⟩⟩ hlen (fun e he lo2=>hcall e he _ lo2 (by simp) fun _ _ _=>rfl) hall
     rw [hK]
     refine ⟨.row (bs.length + 2) 0 l.length none z,bs ++ [.cells [.fn f caps],.cells [],.cells (flat (l.map cells))],min lo0 bs.length,?_,by simp,hold,.inr ⟨rfl,bs.length + 2,none,[],by omega,rfl,by rw [hbF]; simp,.inr ⟨rfl,by rw [List.append_nil,flatT_len hz]; exact hLz⟩⟩⟩
     refine Eq.trans ?_ (hout (lo':=bs.length) (hun (by omega)))
     congr 1
     simp [Bd_mk,keepQ,Sl.d,hcl,h1,tupOf]
theorem app_kept {α:Type} {cells:α -> List D} {z b:Nat} (hz:∀ x,(cells x).length = z) (hz0:0 < z) (hb:b <= 4096) {n:Nat} {nl:Bool} {K:List α} {bs:List Blk} {v:V} (hk:KeptP cells z n nl K bs v) (fr:Sl α) (hfr:fit big fr) (hlen:K.length + fr.l.length <= big) (hn:n <= bs.length) :
 ∃ (v':V) (bs':List Blk) (f:Nat -> Nat),(∀ lo,appv ⟨bs,lo⟩ z b v (.d (fr.d cells)) = some (v',⟨bs',f lo⟩)) /\ (∀ y,y < n -> bs'[y]? = bs[y]?) ∧
  ((nl = true /\ K ++ fr.l = [] /\ v' = .d (.slice true [])) \/ ((nl && fr.l.isEmpty) = false /\ ∃ B cap rest,n <= B /\ v' = .row B 0 (K ++ fr.l).length cap z /\ getB bs' B = some (flat ((K ++ fr.l).map cells) ++ rest))):=by
 have hall:((fr.l.map cells).all fun e=>e.length == z) = true:=List.all_eq_true.2 fun x hx=>by
  obtain ⟨y,_,rfl⟩:=List.mem_map.1 hx
  simp [hz y]
 have hrc:∀ lo,rowCells ⟨bs,lo⟩ (.d (fr.d cells)) z = some (fr.l.length,flat (fr.l.map cells)):=fun lo=>by
  simp only [Sl.d,rowCells,hall,if_true,flat,List.length_map]
 have hroom:∀ n,n <= big -> roomy n b = true:=fun n hn=>by simp only [roomy,Bool.and_eq_true,decide_eq_true_eq]; exact ⟨hn,hb⟩
 have hzz:¬ z = 0:=by omega
 have hfl:=flatT_len hz fr.l
 rcases Nat.eq_zero_or_pos fr.l.length with h0 | h0
 · have hf0:fr.l = []:=List.eq_nil_of_length_eq_zero h0
   rcases hk with ⟨h1,h2,rfl⟩ | ⟨h1,B,cap,rest,h2,rfl,h3,h4⟩
   · refine ⟨.d (.slice true []),bs,fun lo=>lo,fun lo=>by simp only [appv,hrc,h0,appendAt,if_true],fun _ _=>rfl,.inl ⟨h1,by rw [h2,hf0]; rfl,rfl⟩⟩
   · refine ⟨.row B 0 K.length cap z,bs,fun lo=>lo,fun lo=>by simp only [appv,hrc,h0,appendAt,ne_eq,not_true_eq_false,false_or,if_neg hzz,if_true],fun _ _=>rfl,.inr ⟨by simp [h1],B,cap,rest,h2,by rw [hf0,List.append_nil],by rw [hf0,List.append_nil]; exact h3⟩⟩
 · have hm0:¬ fr.l.length = 0:=by omega
   have hne:fr.l ≠ []:=List.length_pos_iff.1 h0
   have hie:fr.l.isEmpty = false:=by cases hc:fr.l with | nil=>exact absurd hc hne | cons _ _=>rfl
   have hcat:flat ((K ++ fr.l).map cells) = flat (K.map cells) ++ flat (fr.l.map cells):=by rw [List.map_append,flat_app]
   have hcat2:flat (K.map cells ++ fr.l.map cells) = flat (K.map cells) ++ flat (fr.l.map cells):=flat_app _ _
   have hKl:=flatT_len hz K
   rcases hk with ⟨h1,h2,rfl⟩ | ⟨h1,B,cap,rest,h2,rfl,h3,h4⟩
   · subst h2
     refine ⟨.row bs.length 0 fr.l.length none z,bs ++ [.cells (flat (fr.l.map cells))],fun lo=>lo,fun lo=>by simp only [appv,hrc,appendAt,if_neg hm0,if_neg hzz,hroom fr.l.length (by simpa using hlen),if_true]; rfl,fun y hy=>by rw [List.getElem?_append_left (by omega)],.inr ⟨by simp [hie],bs.length,none,[],hn,rfl,by simp [getB_at]⟩⟩
   · have hBl:=getB_len h3
     have hs:sub (flat (K.map cells) ++ rest) 0 (K.length * z) = some (flat (K.map cells)):=by
      rw [sub_eq,if_pos (by rw [List.length_append,hKl]; omega),List.drop_zero,← hKl,List.take_left]
     rcases h4 with ⟨rfl,rfl⟩ | ⟨rfl,h5⟩
     · simp only [List.map_nil,flat_nil,List.nil_append,List.length_nil,Nat.zero_mul] at h3 hs hlen
       refine ⟨.row bs.length 0 (0 + fr.l.length) none z,bs ++ [.cells ([] ++ flat (fr.l.map cells))],fun lo=>lo,fun lo=>by simp only [appv,hrc,appendAt,ne_eq,not_true_eq_false,false_or,if_neg hm0,if_neg hzz,get_eq,h3,List.length_nil,Nat.zero_mul,hs,hroom (0 + fr.l.length) (by omega),Bool.not_true,Bool.false_eq_true,if_false,if_neg (show ¬ (0 + fr.l.length <= 0) by omega)]; rfl,fun y hy=>by rw [List.getElem?_append_left (by omega)],.inr ⟨by simp [hie],bs.length,none,[],hn,by simp,by simp [getB_at]⟩⟩
     · by_cases hfit:0 + (K.length + fr.l.length) * z <= (flat (K.map cells) ++ rest).length
       · have hno:¬ (True /\ (flat (K.map cells)).length = (flat (K.map cells) ++ rest).length /\ 0 < (flat (K.map cells) ++ rest).length):=by
          have:0 < fr.l.length * z:=Nat.mul_pos h0 hz0
          rw [Nat.add_mul] at hfit
          rw [hKl]
          omega
         have hput:put (flat (K.map cells) ++ rest) (0 + K.length * z) (flat (fr.l.map cells)) = some (flat (K.map cells) ++ flat (fr.l.map cells) ++ rest.drop (fr.l.length * z)):=by
          rw [Nat.add_mul] at hfit
          unfold put
          rw [if_pos (by rw [hfl]; omega),Nat.zero_add,← hKl,List.take_left,List.drop_append,List.drop_eq_nil_of_le (by omega),Nat.add_sub_cancel_left,hfl]
          simp
         refine ⟨.row B 0 (K.length + fr.l.length) none z,bs.set B (.cells (flat (K.map cells) ++ flat (fr.l.map cells) ++ rest.drop (fr.l.length * z))),fun lo=>min lo B,fun lo=>by simp only [appv,hrc,appendAt,ne_eq,not_true_eq_false,false_or,if_neg hm0,if_neg hzz,get_eq,h3,hs,hroom (K.length + fr.l.length) (by omega),Bool.not_true,Bool.false_eq_true,if_false,if_neg hno,if_pos hfit,hput]; rfl,fun y hy=>by rw [List.getElem?_set_ne (by omega)],.inr ⟨by simp [hie],B,none,rest.drop (fr.l.length * z),h2,by simp,by simp [getB,hBl,hcat2]⟩⟩
       · refine ⟨.row bs.length 0 (K.length + fr.l.length) none z,bs.set B (.cells []) ++ [.cells (flat (K.map cells) ++ flat (fr.l.map cells))],fun lo=>min lo B,fun lo=>?_,fun y hy=>by rw [List.getElem?_append_left (by simp; omega),List.getElem?_set_ne (by omega)],.inr ⟨by simp [hie],bs.length,none,[],hn,by simp,?_⟩⟩
         · by_cases hfull:(flat (K.map cells)).length = (flat (K.map cells) ++ rest).length
           · simp only [appv,hrc,appendAt,ne_eq,not_true_eq_false,false_or,if_neg hm0,if_neg hzz,get_eq,h3,hs,hroom (K.length + fr.l.length) (by omega),Bool.not_true,Bool.false_eq_true,if_false,if_pos (show True /\ (flat (K.map cells)).length = (flat (K.map cells) ++ rest).length /\ 0 < (flat (K.map cells) ++ rest).length from ⟨trivial,hfull,h5⟩),Hp.size,Hp.alloc,Hp.set,List.length_set]
           · simp only [appv,hrc,appendAt,ne_eq,not_true_eq_false,false_or,if_neg hm0,if_neg hzz,get_eq,h3,hs,hroom (K.length + fr.l.length) (by omega),Bool.not_true,Bool.false_eq_true,if_false,if_neg (show ¬ (True /\ (flat (K.map cells)).length = (flat (K.map cells) ++ rest).length /\ 0 < (flat (K.map cells) ++ rest).length) from fun hh=>hfull hh.2.1),if_neg hfit,if_pos (show True /\ 0 < (flat (K.map cells) ++ rest).length from ⟨trivial,h5⟩),Hp.size,Hp.alloc,Hp.set,List.length_set]
         · have:=getB_at (bs:=bs.set B (.cells [])) (ys:=[.cells (flat (K.map cells) ++ flat (fr.l.map cells))])
           rw [List.length_set] at this
           rw [this,hcat,List.append_nil]; rfl
def putIn {α:Type} (key:α -> Int) (fresh:List α) (gone:List Int) (e:α):Bool:=!hasT gone (key e) && !fresh.any fun y=>key e == key y
def putV {α:Type} (key:α -> Int) (l fresh:List α) (gone:List Int):List α:=((l.filter (putIn key fresh gone)) ++ fresh).mergeSort fun a b=>decide (key a <= key b)
theorem S_vpe {α:Type} {cells:α -> List D} {z c idf:FuncId} {key:α -> Int} (ht:T c = some (vpeQ z)) (hv:val c = false) {x y:α} (hx:(cells x).length = z) (hy:(cells y).length = z) (hid:∀ e,e = x \/ e = y -> ∀ h,Sm E T val idf [ag (cells e)] h = some (.d (u64 (key e)),h)) {p r:Nat} {h:Hp} (hp:getB h.bs p = some [.fn idf []]) (hr:getB h.bs r = some ((cells x).map .d)) :
 Sm E T val c [ag (cells y),.ptr p 0,.ptr r 0] h = some (bl (key x == key y),h):=by
 rw [Sm_ref ht hv]
 have hsx:=sub_c hx
 have hsy:=sub_c hy
 have h1:=hid x (.inl rfl)
 have h2:=hid y (.inr rfl)
 simp [vpeQ,Bd_mk,openA,opDE_call,noTr,apartT_mute,Tr.mute,getB_of hp,getB_of hr,h1,h2,hsx,hsy,V.under]
theorem S_vpc {α:Type} {cells:α -> List D} {z c c11 con sm any idx idf:FuncId} {key:α -> Int} (ht:T c = some (vpcQ z con c11 sm)) (hv:val c = false) (ht1:T c11 = some (vpeQ z)) (hv1:val c11 = false) (ts:T sm = some (someQ any)) (vs:val sm = false) (ta:T any = some (anyQ idx)) (va:val any = false) (ti:T idx = some (idxQ z)) (vi:val idx = false)
 (hz:∀ x,(cells x).length = z) {fresh:Sl α} (hs:short fresh) {gone:Sl Int} (hcon:∀ n h,Sm E T val con [.d (gone.d u64C),.d (u64 n)] h = some (bl (hasT gone.l n),h)) {x:α} (hid:∀ e,e = x \/ e ∈ fresh.l -> ∀ h,Sm E T val idf [ag (cells e)] h = some (.d (u64 (key e)),h))
 {p r f:Nat} {h:Hp} (hr:getB h.bs r = some [.d (gone.d u64C)]) (hp:getB h.bs p = some [.fn idf []]) (hf:getB h.bs f = some [.d (fresh.d cells)]) :
 Sm E T val c [ag (cells x),.ptr r 0,.ptr p 0,.ptr f 0] h = some (bl (putIn key fresh.l gone.l x),h):=by
 have hsx:=sub_c (hz x)
 have h1:=hid x (.inl rfl)
 have hcl:∀ y ∈ fresh.l,∀ lo,Sm E T val c11 (.agg ((cells y).map .d) :: [.ptr p 0,.ptr h.bs.length 0]) ⟨h.bs ++ [.cells ((cells x).map .d)],lo⟩ = some (.d (.bool (key x == key y)),⟨h.bs ++ [.cells ((cells x).map .d)],lo⟩):=fun y hy lo =>
  S_vpe ht1 hv1 (hz x) (hz y) (fun e he=>hid e (by rcases he with rfl | rfl; exact .inl rfl; exact .inr hy)) (getB_of hp) (by rw [getB_at]; rfl)
 have hsm:∀ lo,Sm E T val sm [.d (fresh.d cells),.fn c11 [.ptr p 0,.ptr h.bs.length 0]] ⟨h.bs ++ [.cells ((cells x).map .d)],lo⟩ = some (bl (fresh.l.any fun y=>key x == key y),⟨h.bs ++ [.cells ((cells x).map .d)],lo⟩):=fun lo =>
  S_some ts vs rfl rfl (S_any cells ti vi ta va (h:=⟨h.bs ++ [.cells ((cells x).map .d)],(h.bs ++ [Blk.cells ((cells x).map .d)]).length⟩) (RowIs.of hz _) hs.lt fun e he lo=>hcl e he lo)
 rw [Sm_ref ht hv]
 unfold putIn
 cases hg:hasT gone.l (key x) <;> simp [vpcQ,Bd_mk,openA,opDE_call,noTr,apartT_mute,Tr.mute,opsA_if,getB_of hp,getB_of hr,getB_of hf,h1,hsx,hcon,hg,hsm,V.under]
theorem S_vput {α:Type} {cells:α -> List D} {z b c1 c11 con sm any keep cl clos del idx g srt idf id:FuncId} {zero:List V} {key:α -> Int} (tcl:T cl = some (cloneQ z b zero)) (vcl:val cl = false) (tdel:T del = some (delQ z idx zero)) (vdel:val del = false) (ti:T idx = some (idxQ z)) (vi:val idx = false)
 (tn:T clos = some (notQ z)) (vn:val clos = false) (tk:T keep = some (keepQ cl clos del)) (vk:val keep = false) (t1:T c1 = some (vpcQ z con c11 sm)) (v1:val c1 = false) (t11:T c11 = some (vpeQ z)) (v11:val c11 = false) (ts:T sm = some (someQ any)) (vs:val sm = false) (ta:T any = some (anyQ idx)) (va:val any = false)
 (tid:T id = some (vputQ z b c1 keep g srt)) (vid:val id = true) {p:Nat} (hS:∀ {h:Hp} {B n:Nat} {cap:Option Nat},0 < n -> Sm E T val srt [.row B 0 n cap z,.fn g [.ptr 2 0]] h = sortFE ⟨z,p,g,idf⟩ [.row B 0 n cap z,.fn g [.ptr 2 0]] h)
 (hS0:∀ v,v = .d (.slice true []) \/ (∃ B cap,v = .row B 0 0 cap z) -> ∀ h,Sm E T val srt [v,.fn g [.ptr 2 0]] h = some (.tup [],h))
 (hz:∀ x,(cells x).length = z) (hz0:0 < z) (hzero:zero.length = z) (hb:b <= 4096) (hkey:∀ x,(cells x)[p]? = some (.int .u64 (key x))) {l fresh:Sl α} (hl:short l) (hf:short fresh) (hlf:l.l.length + fresh.l.length <= big) {gone:Sl Int}
 (hcon:∀ n h,Sm E T val con [.d (gone.d u64C),.d (u64 n)] h = some (bl (hasT gone.l n),h)) (hid:∀ e,e ∈ l.l \/ e ∈ fresh.l -> ∀ h,Sm E T val idf [ag (cells e)] h = some (.d (u64 (key e)),h)) (hnd:(((l.l.filter (putIn key fresh.l gone.l)) ++ fresh.l).map key).Nodup) :
 ∃ nl,(nl = true -> putV key l.l fresh.l gone.l = []) /\ ∀ h,Sm E T val id [.d (l.d cells),.d (fresh.d cells),.d (gone.d u64C),.fn idf []] h = some (.d (.slice nl ((putV key l.l fresh.l gone.l).map cells)),h):=by
 have hfr:∀ h,frz h (.fn idf []) = some (.fn idf []):=fun _=>rfl
 have hpf:pureV (.fn idf []) = true:=rfl
 obtain ⟨r,bs1,lo1,k1,k2,k3,k4⟩:=S_keepP (E:=E) (T:=T) (val:=val) tcl vcl tdel vdel ti vi tn vn tk vk hz hz0 hzero hb hl (f:=c1) (caps:=[.ptr 1 0,.ptr 2 0,.ptr 0 0]) (q:=putIn key fresh.l gone.l) (h:=⟨[.cells [.d (fresh.d cells)],.cells [.d (gone.d u64C)],.cells [.fn idf []]],0⟩) fun e he bs lo hle ho=>by
  simp only [List.length_cons,List.length_nil] at hle ho
  refine S_vpc t1 v1 t11 v11 ts vs ta va ti vi hz hf hcon (fun x hx=>hid x (by rcases hx with rfl | hx; exact .inl he; exact .inr hx)) ?_ ?_ ?_
  · simp only [getB]; rw [ho 1 (by decide)]; rfl
  · simp only [getB]; rw [ho 2 (by decide)]; rfl
  · simp only [getB]; rw [ho 0 (by decide)]; rfl
 simp only [List.length_cons,List.length_nil] at k2 k3 k4
 have hkl:=List.length_filter_le (putIn key fresh.l gone.l) l.l
 obtain ⟨v2,bs2,f,a1,a2,a3⟩:=app_kept hz hz0 hb k4 fresh hf (by omega) k2
 have hb10:getB bs1 0 = some [.d (fresh.d cells)]:=by simp only [getB]; rw [k3 0 (by decide)]; rfl
 have hb2:getB bs2 2 = some [.fn idf []]:=by simp only [getB]; rw [a2 2 (by decide),k3 2 (by decide)]; rfl
 have hnur:=k4.nu
 have hPV:putV key l.l fresh.l gone.l = ((l.l.filter (putIn key fresh.l gone.l)) ++ fresh.l).mergeSort fun a b=>decide (key a <= key b):=rfl
 generalize putV key l.l fresh.l gone.l = PV at *
 generalize l.l.filter (putIn key fresh.l gone.l) = K at *
 rcases a3 with ⟨g1,g2,rfl⟩ | ⟨g1,B,cap,rest,g2,rfl,g3⟩
 · have hP0:PV = []:=by rw [hPV,g2,List.mergeSort_nil]
   have hsrt:=fun h=>hS0 (.d (.slice true [])) (.inl rfl) h
   refine ⟨true,fun _=>hP0,fun h=>?_⟩
   rw [Sm_v tid vid]
   simp [vputQ,Bd_mk,hfr,k1,hb10,hnur.1,hnur.2,a1,hsrt,hP0,hpf]
 · rcases Nat.eq_zero_or_pos (K ++ fresh.l).length with h0 | h0
   · have hKF:K ++ fresh.l = []:=List.eq_nil_of_length_eq_zero h0
     have hP0:PV = []:=by rw [hPV,hKF,List.mergeSort_nil]
     have hsrt:=fun h=>hS0 (.row B 0 0 cap z) (.inr ⟨B,cap,rfl⟩) h
     rw [h0] at a1
     rw [hKF] at g3
     have hdv:=fun lo2=>dataV_row (h:=⟨bs2,lo2⟩) (k:=7) (b:=B) (n:=0) (cap:=cap) (z:=z) (es:=[]) (rest:=rest) (by simp) rfl (by simpa using g3)
     refine ⟨false,(fun hh=>by cases hh),fun h=>?_⟩
     rw [Sm_v tid vid]
     simp [vputQ,Bd_mk,hfr,k1,hb10,hnur.1,hnur.2,a1,hsrt,hP0,hpf,hdv]
   · have hne:K ++ fresh.l ≠ []:=List.length_pos_iff.1 h0
     have hst:=fun lo2=>sortFE_at (g:=g) (idf:=idf) (p:=p) hz hkey (L:=K ++ fresh.l) hnd hne (by rw [List.length_append]; simp only [big] at hlf; omega) (h:=⟨bs2,lo2⟩) (b:=B) (c:=2) (cap:=cap) (rest:=rest) g3 hb2 (by omega)
     rw [← hPV] at hst
     have hsm:∀ lo2,Sm E T val srt [.row B 0 (K ++ fresh.l).length cap z,.fn g [.ptr 2 0]] ⟨bs2,lo2⟩ = some (.tup [],⟨bs2.set B (.cells (flat (PV.map cells) ++ rest)),min lo2 B⟩):=fun lo2=>by
      rw [hS h0]
      exact hst lo2
     have hbl:=getB_len g3
     have hpl:PV.length = (K ++ fresh.l).length:=by rw [hPV,List.length_mergeSort]
     have hwp:∀ e ∈ PV.map cells,e.length = z:=by simp; intro a _; exact hz a
     have hdv:=fun lo2=>dataV_row (h:=⟨bs2.set B (.cells (flat (PV.map cells) ++ rest)),lo2⟩) (k:=7) (b:=B) (n:=(K ++ fresh.l).length) (cap:=cap) (z:=z) (es:=PV.map cells) (rest:=rest) hwp (by simp [hpl]) (by simp [getB,hbl])
     generalize (K ++ fresh.l).length = N at *
     refine ⟨false,(fun hh=>by cases hh),fun h=>?_⟩
     rw [Sm_v tid vid]
     simp [vputQ,Bd_mk,hfr,k1,hb10,hnur.1,hnur.2,a1,hsm,hdv,hpf]
theorem S_apac {α:Type} {cells:α -> List D} {z c con idf:FuncId} {key:α -> Int} (ht:T c = some (apacQ z con)) (hv:val c = false) {x:α} (hx:(cells x).length = z) {gone:Sl Int} (hcon:∀ n h,Sm E T val con [.d (gone.d u64C),.d (u64 n)] h = some (bl (hasT gone.l n),h)) (hid:∀ h,Sm E T val idf [ag (cells x)] h = some (.d (u64 (key x)),h)) {p r:Nat} {h:Hp} (hr:getB h.bs r = some [.d (gone.d u64C)]) (hp:getB h.bs p = some [.fn idf []]) :
 Sm E T val c [ag (cells x),.ptr r 0,.ptr p 0] h = some (bl (hasT gone.l (key x)),h):=by
 have hsx:=sub_c hx
 rw [Sm_ref ht hv]
 simp [apacQ,Bd_mk,openA,opDE_call,noTr,apartT_mute,Tr.mute,getB_of hp,getB_of hr,hid,hsx,hcon,V.under]
def apartN {α:Type} (key:α -> Int) (gone:List Int) (most:Int) (l:List α):Bool:=(risesL gone && decide ((gone.length:Int) <= most)) && !l.any fun x=>hasT gone (key x)
theorem S_apar {α:Type} {cells:α -> List D} {z c con clo ris slf sm any idx idf:FuncId} {key:α -> Int} (ht:T c = some (aparQ ris slf clo sm)) (hv:val c = true) (tc:T clo = some (apacQ z con)) (vc:val clo = false) (ts:T sm = some (someQ any)) (vs:val sm = false) (ta:T any = some (anyQ idx)) (va:val any = false) (ti:T idx = some (idxQ z)) (vi:val idx = false)
 (hz:∀ x,(cells x).length = z) {gone:Sl Int} {most:Int} (hris:∀ h,Sm E T val ris [.d (gone.d u64C),.d (i64 most),.fn slf []] h = some (bl (risesL gone.l && decide ((gone.l.length:Int) <= most)),h)) (hcon:∀ n h,Sm E T val con [.d (gone.d u64C),.d (u64 n)] h = some (bl (hasT gone.l n),h))
 {l:Sl α} (hl:short l) (hid:∀ e ∈ l.l,∀ h,Sm E T val idf [ag (cells e)] h = some (.d (u64 (key e)),h)) (h:Hp) :
 Sm E T val c [.d (gone.d u64C),.d (i64 most),.d (l.d cells),.fn idf []] h = some (bl (apartN key gone.l most l.l),h):=by
 have hfr:frz h (.fn idf []) = some (.fn idf []):=rfl
 have hpf:pureV (.fn idf []) = true:=rfl
 have hsm:∀ lo,Sm E T val sm [.d (l.d cells),.fn clo [.ptr 0 0,.ptr 1 0]] ⟨[.cells [.d (gone.d u64C)],.cells [.fn idf []]],lo⟩ = some (bl (l.l.any fun x=>hasT gone.l (key x)),⟨[.cells [.d (gone.d u64C)],.cells [.fn idf []]],lo⟩):=fun lo =>
  S_some ts vs rfl rfl (S_any cells ti vi ta va (h:=⟨[.cells [.d (gone.d u64C)],.cells [.fn idf []]],2⟩) (RowIs.of hz _) hl.lt fun e he lo=>S_apac tc vc (hz e) hcon (hid e he) (by simp) (by simp))
 rw [Sm_v ht hv]
 unfold apartN
 cases hr:(risesL gone.l && decide ((gone.l.length:Int) <= most)) <;> simp [aparQ,Bd_mk,hfr,hris,hr,hsm,opsA_if,hpf]
theorem rsg_loopB {α:Type} {cells:α -> List D} {z:Nat} (hz:∀ x,(cells x).length = z) {s:Sl α} (hs:s.l.length < 2 ^ 62) {most:Int} {f:FuncId} {g:α -> Int} (hf:∀ e ∈ s.l,∀ h,Sm E T val f [ag (cells e)] h = some (.d (u64 (g e)),h)):∀ (m i:Nat),i + m = s.l.length -> 1 <= i →
 Cd E T val (.loop [0,1,2,9,10] (rsgB z)) [(0,.d (s.d cells)),(1,.d (i64 most)),(2,.fn f []),(9,.d (i64 s.l.length)),(10,.d (i64 i))] ⟨[],0⟩ =
  if risesL ((s.l.map g).drop (i - 1)) then some (.exit 0,[(0,.d (s.d cells)),(1,.d (i64 most))],⟨[],0⟩) else some (.ret,[(6,bl false)],⟨[],0⟩):=by
 intro m
 have key:=Cd_round (E:=E) (T:=T) (val:=val) [0,1,2,9,10] (rsgB z)
 generalize Cd E T val (.loop [0,1,2,9,10] (rsgB z)) = W at key ⊢
 induction m with
 | zero =>
  intro i hi h1
  rw [key,risesL_end (by simp; omega)]
  simp [rsgB,show ¬ ((i:Int) < s.l.length) from by omega]
 | succ m ih =>
  intro i hi h1
  have hlt:i < s.l.length:=by omega
  have hd:=risesL_drop (l:=s.l.map g) (i:=i - 1) (by simp; omega)
  have hs1:i - 1 + 1 = i:=by omega
  simp only [hs1,List.getElem_map] at hd
  have hp1:=fun h=>ix_data (cells:=cells) hz hlt (kd:=.i64) (h:=h)
  have hp0:=fun h=>ix_data (cells:=cells) hz (show i - 1 < s.l.length by omega) (kd:=.i64) (h:=h)
  have c1:=hf _ (List.getElem_mem hlt)
  have c0:=hf _ (List.getElem_mem (show i - 1 < s.l.length by omega))
  have hw:=int_next hlt hs
  have hwm:IntKind.wrap .i64 ((i:Int) - 1) = ((i - 1:Nat):Int):=by rw [wrap64] <;> omega
  have hpos:0 < i:=h1
  have hih:=ih (i + 1) (by omega) (by omega)
  simp only [show i + 1 - 1 = i by omega] at hih
  rw [key,hd]
  generalize s.l[i] = y at *
  generalize s.l[i - 1] = x at *
  have hsx:=sub_all (hz x)
  have hsy:=sub_all (hz y)
  by_cases hg:g x < g y
  · simp (decide:=true) [rsgB,hp1,hp0,hsx,hsy,hwm,hw,hpos,c0,c1,hlt,hg,openA,opDE_call,noTr,show ¬ (g x >= g y) from by omega]
    simpa using hih
  · simp (decide:=true) [rsgB,hp1,hp0,hsx,hsy,hwm,hw,hpos,c0,c1,hlt,hg,openA,opDE_call,noTr,show g x >= g y from by omega]
theorem S_rsgB {α:Type} {cells:α -> List D} {z:Nat} {id:FuncId} (ht:T id = some (rsgQ z)) (hv:val id = true) (hz:∀ x,(cells x).length = z) {s:Sl α} (hs:s.l.length < 2 ^ 62) {most:Int} {f:FuncId} {g:α -> Int} (hf:∀ e ∈ s.l,∀ h,Sm E T val f [ag (cells e)] h = some (.d (u64 (g e)),h)) (h:Hp) :
 Sm E T val id [.d (s.d cells),.d (i64 most),.fn f []] h = some (bl (risK g s.l most),h):=by
 rw [Sm_v ht hv]
 unfold risK
 have hfr:frz h (.fn f []) = some (.fn f []):=rfl
 have key:=Cd_round (E:=E) (T:=T) (val:=val) [0,1,2,9,10] (rsgB z)
 have hl:=rsg_loopB (E:=E) (T:=T) (val:=val) hz hs (most:=most) hf
 simp [Bd_mk,rsgQ,hfr]
 rw [Cd_keep]
 simp only [keepA_cons,keepA_nil]
 simp
 generalize Cd E T val (.loop [0,1,2,9,10] (rsgB z)) = W at key hl ⊢
 by_cases h0:s.l = []
 · rw [key]
   simp [rsgB,h0,risesL,pureV]
 · have hpos:0 < s.l.length:=List.length_pos_iff.2 h0
   have h1:=hl (s.l.length - 1) 1 (by omega) (by omega)
   simp at h1
   rw [key]
   have hw:=int_next hpos hs
   simp at hw
   simp (decide:=true) [rsgB,openA,noTr,hpos,hw,h1]
   cases risesL (s.l.map g) <;> simp [pureV]
end
end Go.Proofs.YtmahnnnccohccaaGreat
namespace Go.Proofs.YtmahnnnccohccaaGreat
structure Dlt where
 epoch:Int
 covers:Sl Int
 pods:Sl Pod
 services:Sl Svc
 bound:Sl Way
 policies:Sl Pol
 gonePods:Sl Int
 goneServices:Sl Int
 goneBound:Sl Int
 gonePolicies:Sl Int
def Dlt.c (x:Dlt):List D:=[u64 x.epoch,x.covers.d u32C,x.pods.d Pod.c,x.services.d Svc.c,x.bound.d Way.c,x.policies.d Pol.c,x.gonePods.d u64C,x.goneServices.d u64C,x.goneBound.d u64C,x.gonePolicies.d u64C]
abbrev Dlt.v (x:Dlt):V:=ag x.c
def Dlt.vw (x:Dlt):Vw:=⟨x.epoch,x.covers,x.pods,x.services,x.bound,x.policies⟩
abbrev Dlt.ok (x:Dlt):Prop:=x.vw.ok /\ short x.gonePods /\ short x.goneServices /\ short x.goneBound /\ short x.gonePolicies
structure Psh where
 life:Int
 inc:Int
 seq:Int
 upon:Int
 delta:Dlt
def Psh.c (x:Psh):List D:=u64 x.life :: u64 x.inc :: u64 x.seq :: u64 x.upon :: x.delta.c
structure Idx where
 node:Int
 inc:Int
 asked:Int
 addrs:Sl Int
 since:Int
 life:Int
 seq:Int
 view:Vw
 high:Int
def Idx.c (x:Idx):List D:=i64 x.node :: u64 x.inc :: u64 x.asked :: x.addrs.d u32C :: u64 x.since :: u64 x.life :: u64 x.seq :: (x.view.c ++ [u64 x.high])
abbrev Idx.v (x:Idx):V:=ag x.c
structure Ack where
 life:Int
 inc:Int
 seq:Int
 ok:Int
def Ack.c (x:Ack):List D:=[u64 x.life,u64 x.inc,u64 x.seq,i64 x.ok]
structure Sbs where
 inc:Int
 seq:Int
 addrs:Sl Int
def Sbs.c (x:Sbs):List D:=[u64 x.inc,u64 x.seq,x.addrs.d u32C]
@[simp] theorem Ack.len {x:Ack}:x.c.length = 4:=(rfl)
@[simp] theorem Ack.all {x:Ack}:sub x.c 0 4 = some x.c:=(rfl)
@[simp] theorem Sbs.len {x:Sbs}:x.c.length = 3:=(rfl)
@[simp] theorem Sbs.all {x:Sbs}:sub x.c 0 3 = some x.c:=(rfl)
@[simp] theorem Dlt.len {x:Dlt}:x.c.length = 10:=(rfl)
@[simp] theorem Psh.len {x:Psh}:x.c.length = 14:=(rfl)
@[simp] theorem Idx.len {x:Idx}:x.c.length = 14:=(rfl)
@[simp] theorem Dlt.s0_10 {x:Dlt}:sub x.c 0 10 = some x.c:=(rfl)
@[simp] theorem Dlt.s0_1 {x:Dlt}:sub x.c 0 1 = some [u64 x.epoch]:=(rfl)
@[simp] theorem Dlt.s1_1 {x:Dlt}:sub x.c 1 1 = some [x.covers.d u32C]:=(rfl)
@[simp] theorem Dlt.s2_1 {x:Dlt}:sub x.c 2 1 = some [x.pods.d Pod.c]:=(rfl)
@[simp] theorem Dlt.s3_1 {x:Dlt}:sub x.c 3 1 = some [x.services.d Svc.c]:=(rfl)
@[simp] theorem Dlt.s4_1 {x:Dlt}:sub x.c 4 1 = some [x.bound.d Way.c]:=(rfl)
@[simp] theorem Dlt.s5_1 {x:Dlt}:sub x.c 5 1 = some [x.policies.d Pol.c]:=(rfl)
@[simp] theorem Dlt.s6_1 {x:Dlt}:sub x.c 6 1 = some [x.gonePods.d u64C]:=(rfl)
@[simp] theorem Dlt.s7_1 {x:Dlt}:sub x.c 7 1 = some [x.goneServices.d u64C]:=(rfl)
@[simp] theorem Dlt.s8_1 {x:Dlt}:sub x.c 8 1 = some [x.goneBound.d u64C]:=(rfl)
@[simp] theorem Dlt.s9_1 {x:Dlt}:sub x.c 9 1 = some [x.gonePolicies.d u64C]:=(rfl)
@[simp] theorem Psh.s0_14 {x:Psh}:sub x.c 0 14 = some x.c:=(rfl)
@[simp] theorem Psh.s0_1 {x:Psh}:sub x.c 0 1 = some [u64 x.life]:=(rfl)
@[simp] theorem Psh.s1_1 {x:Psh}:sub x.c 1 1 = some [u64 x.inc]:=(rfl)
@[simp] theorem Psh.s2_1 {x:Psh}:sub x.c 2 1 = some [u64 x.seq]:=(rfl)
@[simp] theorem Psh.s3_1 {x:Psh}:sub x.c 3 1 = some [u64 x.upon]:=(rfl)
@[simp] theorem Psh.s4_10 {x:Psh}:sub x.c 4 10 = some x.delta.c:=(rfl)
@[simp] theorem Psh.s4_1 {x:Psh}:sub x.c 4 1 = some [u64 x.delta.epoch]:=(rfl)
@[simp] theorem Idx.s0_14 {x:Idx}:sub x.c 0 14 = some x.c:=(rfl)
@[simp] theorem Idx.s0_1 {x:Idx}:sub x.c 0 1 = some [i64 x.node]:=(rfl)
@[simp] theorem Idx.s1_1 {x:Idx}:sub x.c 1 1 = some [u64 x.inc]:=(rfl)
@[simp] theorem Idx.s2_1 {x:Idx}:sub x.c 2 1 = some [u64 x.asked]:=(rfl)
@[simp] theorem Idx.s3_1 {x:Idx}:sub x.c 3 1 = some [x.addrs.d u32C]:=(rfl)
@[simp] theorem Idx.s4_1 {x:Idx}:sub x.c 4 1 = some [u64 x.since]:=(rfl)
@[simp] theorem Idx.s5_1 {x:Idx}:sub x.c 5 1 = some [u64 x.life]:=(rfl)
@[simp] theorem Idx.s6_1 {x:Idx}:sub x.c 6 1 = some [u64 x.seq]:=(rfl)
@[simp] theorem Idx.s7_6 {x:Idx}:sub x.c 7 6 = some x.view.c:=(rfl)
@[simp] theorem Idx.s7_1 {x:Idx}:sub x.c 7 1 = some [u64 x.view.epoch]:=(rfl)
@[simp] theorem Idx.s13_1 {x:Idx}:sub x.c 13 1 = some [u64 x.high]:=(rfl)
def svcIZ:List V:=[(.d (.int .u64 0)),(.d (.str ⟨#[]⟩)),(.d (.int .u32 0)),(.d (.int .i64 0)),(.d (.int .u64 0))]
def wayIZ:List V:=[(.d (.int .u64 0)),(.d (.int .i64 0))]
def tabB:List (Nat × QF):=[(189,q155),(66,q163),(154,q135),(208,q106),(209,q186),(210,q187),(244,q188)]
def TB:FuncId -> Option QF:=lookT tabB
def valB (f:FuncId):Bool:=[189,66,154,208,209,210].any fun n=>Nat.beq n f
theorem b155:TB 189 = some (q155):=by kernel_rfl
theorem d155:valB 189 = true:=by kernel_rfl
theorem b188:TB 244 = some (cloneQ 5 64 pol0V):=by kernel_rfl
theorem d188:valB 244 = false:=by kernel_rfl
theorem b113:TB 245 = none:=by kernel_rfl
def tabI:List (Nat × QF):=[(41,q15),(18,q17),(21,q18),(40,q19),(69,q79),(59,q80),(60,q82),(64,q164),(111,q76),(134,q77),(145,q125),(133,q81),(194,q173),(195,q174),(196,q175),(197,q176),(190,q165),(191,q167),(192,q169),(193,q171),(352,q268),(358,q274),(362,q278),(366,q282),(354,q270),(359,q275),(363,q279),(367,q283),(201,q264),(202,q265),(203,q266),(204,q267),(383,q345),(384,q346),(385,q347),(386,q348),(381,q343),(382,q344),(353,q269),(456,q349),(62,q75),(198,q162),(151,q132),(162,q143),(343,q255),(347,q261),(321,q239),(327,q245),(449,q340),(415,q292),(263,q100),(265,q103),(279,q109),(448,q339),(370,q253),(371,q254),(372,q256),(377,q262),(373,q257),(374,q258),(375,q259),(376,q260),(178,q166),(181,q168),(184,q170),(187,q172),(157,q138),(160,q141),(164,q145),(167,q148),(281,q105),(325,q243),(328,q246),(330,q248),(208,q106),(209,q186),(210,q187),(244,q188),(324,q242),(326,q244),(329,q247),(331,q249),(154,q135),(176,q154),(334,q250),(335,q251),(188,q177),(350,q286),(351,q287),(450,q355),(451,q356),(452,q357),(453,q358),(454,q359),(455,q360),(497,q420),(498,q421),(499,q422)]
def TI:FuncId -> Option QF:=lookT tabI
def valI (f:FuncId):Bool:=[41,18,21,40,69,59,60,64,133,194,195,196,197,190,191,192,193,201,202,203,204,381,382,353,456,62,198,370,371,372,377,373,374,375,376,178,181,184,187,154,176,334,335,188,350,351,450,451,452,453,454,455,497,498,499].any fun n=>Nat.beq n f
theorem i80:TI 59 = some (q80):=by kernel_rfl
theorem j80:valI 59 = true:=by kernel_rfl
theorem i82:TI 60 = some (q82):=by kernel_rfl
theorem j82:valI 60 = true:=by kernel_rfl
theorem i164:TI 64 = some (q164):=by kernel_rfl
theorem j164:valI 64 = true:=by kernel_rfl
theorem i81:TI 133 = some (eql1Q (.sc (.i .u32))):=by kernel_rfl
theorem j81:valI 133 = true:=by kernel_rfl
theorem i173:TI 194 = some (eqlQ 7 (.agg [(.i .u64),.s,.s,(.i .i64),(.i .u32),(.i .i64),(.i .u64)])):=by kernel_rfl
theorem j173:valI 194 = true:=by kernel_rfl
theorem i174:TI 195 = some (eqlQ 5 (.agg [(.i .u64),.s,(.i .u32),(.i .i64),(.i .u64)])):=by kernel_rfl
theorem j174:valI 195 = true:=by kernel_rfl
theorem i175:TI 196 = some (eqlQ 2 (.agg [(.i .u64),(.i .i64)])):=by kernel_rfl
theorem j175:valI 196 = true:=by kernel_rfl
theorem i176:TI 197 = some (eqfQ 5 [(.d (.int .u64 0)),(.d (.str ⟨#[]⟩)),(.d (.int .u64 0)),(.d (.int .i64 0)),(.d (.slice true []))]):=by kernel_rfl
theorem j176:valI 197 = true:=by kernel_rfl
theorem i165:TI 190 = some (vputQ 7 72 352 157 356 355):=by kernel_rfl
theorem j165:valI 190 = true:=by kernel_rfl
theorem i167:TI 191 = some (vputQ 5 48 358 160 361 360):=by kernel_rfl
theorem j167:valI 191 = true:=by kernel_rfl
theorem i169:TI 192 = some (vputQ 2 16 362 164 365 364):=by kernel_rfl
theorem j169:valI 192 = true:=by kernel_rfl
theorem i171:TI 193 = some (vputQ 5 64 366 167 369 368):=by kernel_rfl
theorem j171:valI 193 = true:=by kernel_rfl
theorem i268:TI 352 = some (vpcQ 7 353 354 162):=by kernel_rfl
theorem j268:valI 352 = false:=by kernel_rfl
theorem i274:TI 358 = some (vpcQ 5 353 359 151):=by kernel_rfl
theorem j274:valI 358 = false:=by kernel_rfl
theorem i278:TI 362 = some (vpcQ 2 353 363 343):=by kernel_rfl
theorem j278:valI 362 = false:=by kernel_rfl
theorem i282:TI 366 = some (vpcQ 5 353 367 347):=by kernel_rfl
theorem j282:valI 366 = false:=by kernel_rfl
theorem i270:TI 354 = some (vpeQ 7):=by kernel_rfl
theorem j270:valI 354 = false:=by kernel_rfl
theorem i275:TI 359 = some (vpeQ 5):=by kernel_rfl
theorem j275:valI 359 = false:=by kernel_rfl
theorem i279:TI 363 = some (vpeQ 2):=by kernel_rfl
theorem j279:valI 363 = false:=by kernel_rfl
theorem i283:TI 367 = some (vpeQ 5):=by kernel_rfl
theorem j283:valI 367 = false:=by kernel_rfl
theorem i264:TI 201 = some (aparQ 381 382 383 162):=by kernel_rfl
theorem j264:valI 201 = true:=by kernel_rfl
theorem i265:TI 202 = some (aparQ 381 382 384 151):=by kernel_rfl
theorem j265:valI 202 = true:=by kernel_rfl
theorem i266:TI 203 = some (aparQ 381 382 385 343):=by kernel_rfl
theorem j266:valI 203 = true:=by kernel_rfl
theorem i267:TI 204 = some (aparQ 381 382 386 347):=by kernel_rfl
theorem j267:valI 204 = true:=by kernel_rfl
theorem i345:TI 383 = some (apacQ 7 353):=by kernel_rfl
theorem j345:valI 383 = false:=by kernel_rfl
theorem i346:TI 384 = some (apacQ 5 353):=by kernel_rfl
theorem j346:valI 384 = false:=by kernel_rfl
theorem i347:TI 385 = some (apacQ 2 353):=by kernel_rfl
theorem j347:valI 385 = false:=by kernel_rfl
theorem i348:TI 386 = some (apacQ 5 353):=by kernel_rfl
theorem j348:valI 386 = false:=by kernel_rfl
theorem i343:TI 381 = some (q343):=by kernel_rfl
theorem j343:valI 381 = true:=by kernel_rfl
theorem i344:TI 382 = some (q344):=by kernel_rfl
theorem j344:valI 382 = true:=by kernel_rfl
theorem i269:TI 353 = some (q269):=by kernel_rfl
theorem j269:valI 353 = true:=by kernel_rfl
theorem i349:TI 456 = some (q349):=by kernel_rfl
theorem j349:valI 456 = true:=by kernel_rfl
theorem i75:TI 62 = some (q75):=by kernel_rfl
theorem j75:valI 62 = true:=by kernel_rfl
theorem i162:TI 198 = some (q162):=by kernel_rfl
theorem j162:valI 198 = true:=by kernel_rfl
theorem i132:TI 151 = some (someQ 321):=by kernel_rfl
theorem j132:valI 151 = false:=by kernel_rfl
theorem i143:TI 162 = some (someQ 327):=by kernel_rfl
theorem j143:valI 162 = false:=by kernel_rfl
theorem i255:TI 343 = some (someQ 449):=by kernel_rfl
theorem j255:valI 343 = false:=by kernel_rfl
theorem i261:TI 347 = some (someQ 415):=by kernel_rfl
theorem j261:valI 347 = false:=by kernel_rfl
theorem i239:TI 321 = some (anyQ 265):=by kernel_rfl
theorem j239:valI 321 = false:=by kernel_rfl
theorem i245:TI 327 = some (anyQ 263):=by kernel_rfl
theorem j245:valI 327 = false:=by kernel_rfl
theorem i340:TI 449 = some (anyQ 279):=by kernel_rfl
theorem j340:valI 449 = false:=by kernel_rfl
theorem i292:TI 415 = some (anyQ 448):=by kernel_rfl
theorem j292:valI 415 = false:=by kernel_rfl
theorem i100:TI 263 = some (idxQ 7):=by kernel_rfl
theorem j100:valI 263 = false:=by kernel_rfl
theorem i103:TI 265 = some (idxQ 5):=by kernel_rfl
theorem j103:valI 265 = false:=by kernel_rfl
theorem i109:TI 279 = some (idxQ 2):=by kernel_rfl
theorem j109:valI 279 = false:=by kernel_rfl
theorem i339:TI 448 = some (idxQ 5):=by kernel_rfl
theorem j339:valI 448 = false:=by kernel_rfl
theorem i253:TI 370 = some (q253):=by kernel_rfl
theorem j253:valI 370 = true:=by kernel_rfl
theorem i254:TI 371 = some (q254):=by kernel_rfl
theorem j254:valI 371 = true:=by kernel_rfl
theorem i256:TI 372 = some (q256):=by kernel_rfl
theorem j256:valI 372 = true:=by kernel_rfl
theorem i262:TI 377 = some (q262):=by kernel_rfl
theorem j262:valI 377 = true:=by kernel_rfl
theorem i257:TI 373 = some (rsgQ 7):=by kernel_rfl
theorem j257:valI 373 = true:=by kernel_rfl
theorem i258:TI 374 = some (rsgQ 5):=by kernel_rfl
theorem j258:valI 374 = true:=by kernel_rfl
theorem i259:TI 375 = some (rsgQ 2):=by kernel_rfl
theorem j259:valI 375 = true:=by kernel_rfl
theorem i260:TI 376 = some (rsgQ 5):=by kernel_rfl
theorem j260:valI 376 = true:=by kernel_rfl
theorem i166:TI 178 = some (q166):=by kernel_rfl
theorem j166:valI 178 = true:=by kernel_rfl
theorem i168:TI 181 = some (q168):=by kernel_rfl
theorem j168:valI 181 = true:=by kernel_rfl
theorem i170:TI 184 = some (q170):=by kernel_rfl
theorem j170:valI 184 = true:=by kernel_rfl
theorem i172:TI 187 = some (q172):=by kernel_rfl
theorem j172:valI 187 = true:=by kernel_rfl
theorem i138:TI 157 = some (keepQ 208 324 281):=by kernel_rfl
theorem j138:valI 157 = false:=by kernel_rfl
theorem i141:TI 160 = some (keepQ 209 326 325):=by kernel_rfl
theorem j141:valI 160 = false:=by kernel_rfl
theorem i145:TI 164 = some (keepQ 210 329 328):=by kernel_rfl
theorem j145:valI 164 = false:=by kernel_rfl
theorem i148:TI 167 = some (keepQ 244 331 330):=by kernel_rfl
theorem j148:valI 167 = false:=by kernel_rfl
theorem i105:TI 281 = some (delQ 7 263 pod0V):=by kernel_rfl
theorem j105:valI 281 = false:=by kernel_rfl
theorem i243:TI 325 = some (delQ 5 265 svcIZ):=by kernel_rfl
theorem j243:valI 325 = false:=by kernel_rfl
theorem i246:TI 328 = some (delQ 2 279 wayIZ):=by kernel_rfl
theorem j246:valI 328 = false:=by kernel_rfl
theorem i248:TI 330 = some (delQ 5 448 pol0V):=by kernel_rfl
theorem j248:valI 330 = false:=by kernel_rfl
theorem i106:TI 208 = some (cloneQ 7 72 pod0V):=by kernel_rfl
theorem j106:valI 208 = false:=by kernel_rfl
theorem i186:TI 209 = some (cloneQ 5 48 svcIZ):=by kernel_rfl
theorem j186:valI 209 = false:=by kernel_rfl
theorem i187:TI 210 = some (cloneQ 2 16 wayIZ):=by kernel_rfl
theorem j187:valI 210 = false:=by kernel_rfl
theorem i188:TI 244 = some (cloneQ 5 64 pol0V):=by kernel_rfl
theorem j188:valI 244 = false:=by kernel_rfl
theorem i242:TI 324 = some (notQ 7):=by kernel_rfl
theorem j242:valI 324 = false:=by kernel_rfl
theorem i244:TI 326 = some (notQ 5):=by kernel_rfl
theorem j244:valI 326 = false:=by kernel_rfl
theorem i247:TI 329 = some (notQ 2):=by kernel_rfl
theorem j247:valI 329 = false:=by kernel_rfl
theorem i249:TI 331 = some (notQ 5):=by kernel_rfl
theorem j249:valI 331 = false:=by kernel_rfl
theorem i135:TI 154 = some (cloneQ 1 4 [(.d (.int .u32 0))]):=by kernel_rfl
theorem j135:valI 154 = true:=by kernel_rfl
theorem i154:TI 176 = some (q154):=by kernel_rfl
theorem j154:valI 176 = true:=by kernel_rfl
theorem i250:TI 334 = some (q250):=by kernel_rfl
theorem j250:valI 334 = true:=by kernel_rfl
theorem i251:TI 335 = some (q251):=by kernel_rfl
theorem j251:valI 335 = true:=by kernel_rfl
theorem i177:TI 188 = some (q177):=by kernel_rfl
theorem j177:valI 188 = true:=by kernel_rfl
theorem i286:TI 350 = some (eqfQ 3 [(.d (.slice true [])),(.d (.slice true [])),(.d (.slice true []))]):=by kernel_rfl
theorem j286:valI 350 = true:=by kernel_rfl
theorem i287:TI 351 = some (q287):=by kernel_rfl
theorem j287:valI 351 = true:=by kernel_rfl
theorem i355:TI 450 = some (eqfQ 3 [(.d (.slice true [])),(.d (.slice true [])),(.d (.slice true []))]):=by kernel_rfl
theorem j355:valI 450 = true:=by kernel_rfl
theorem i356:TI 451 = some (q356):=by kernel_rfl
theorem j356:valI 451 = true:=by kernel_rfl
theorem i357:TI 452 = some (eqfQ 4 [(.d (.slice true [])),(.d (.slice true [])),(.d (.slice true [])),(.d (.slice true []))]):=by kernel_rfl
theorem j357:valI 452 = true:=by kernel_rfl
theorem i358:TI 453 = some (q358):=by kernel_rfl
theorem j358:valI 453 = true:=by kernel_rfl
theorem i359:TI 454 = some (eqfQ 2 [(.d (.str ⟨#[]⟩)),(.d (.slice true []))]):=by kernel_rfl
theorem j359:valI 454 = true:=by kernel_rfl
theorem i360:TI 455 = some (q360):=by kernel_rfl
theorem j360:valI 455 = true:=by kernel_rfl
theorem i420:TI 497 = some (eqlQ 2 (.agg [(.i .i64),.s])):=by kernel_rfl
theorem j420:valI 497 = true:=by kernel_rfl
theorem i421:TI 498 = some (eqlQ 2 (.agg [(.i .u32),(.i .i64)])):=by kernel_rfl
theorem j421:valI 498 = true:=by kernel_rfl
theorem i422:TI 499 = some (eql1Q (.sc (.i .i64))):=by kernel_rfl
theorem j422:valI 499 = true:=by kernel_rfl
theorem i155:TI 189 = none:=by kernel_rfl
theorem i117:TI 137 = none:=by kernel_rfl
theorem i263:TI 378 = none:=by kernel_rfl
theorem i271:TI 355 = none:=by kernel_rfl
theorem i276:TI 360 = none:=by kernel_rfl
theorem i280:TI 364 = none:=by kernel_rfl
theorem i284:TI 368 = none:=by kernel_rfl
end Go.Proofs.YtmahnnnccohccaaGreat
namespace Go.Proofs.YtmahnnnccohccaaGreat
section
variable {E:Calls'} {T:FuncId -> Option QF} {val:FuncId -> Bool}
theorem own_loop {l:List Pol} (hl:l.length < 2 ^ 62) (hf:∀ p ∈ l,∀ h,Sm E T val 245 [ag p.c] h = some (ag p.own.c,h)) {bs0:List Blk} {b:Nat} (hb0:b < bs0.length) {cap:Option Nat}:∀ (m i:Nat) (kept:List Pol) (bs:List Blk) (lo:Nat),i + m = l.length -> kept.length = i -> Thin Pol.c 5 l bs0 b kept bs →
 ∃ bs' lo',Cd E T val (.loop [0,7,8,9] q155_b0) [(0,.row b 0 l.length cap 5),(7,.row b 0 l.length cap 5),(8,.d (i64 l.length)),(9,.d (i64 i))] ⟨bs,lo⟩ = some (.exit 0,[(0,.row b 0 l.length cap 5)],⟨bs',lo'⟩) ∧
  Thin Pol.c 5 l bs0 b (kept ++ (l.drop i).map Pol.own) bs':=by
 intro m
 have key:=Cd_round (E:=E) (T:=T) (val:=val) [0,7,8,9] q155_b0
 generalize Cd E T val (.loop [0,7,8,9] q155_b0) = W at key ⊢
 induction m with
 | zero =>
  intro i kept bs lo hi hk ht
  have h0:l.drop i = []:=List.drop_eq_nil_of_le (by omega)
  refine ⟨bs,lo,?_,by simpa [h0] using ht⟩
  rw [key]
  simp [q155_b0,show ¬ ((i:Int) < l.length) from by omega]
 | succ m ih =>
  intro i kept bs lo hi hk ht
  have hlt:i < l.length:=by omega
  have hd:l.drop i = l[i] :: l.drop (i + 1):=List.drop_eq_getElem_cons hlt
  have hcz:∀ x:Pol,(Pol.c x).length = 5:=fun _=>rfl
  have hread:=ht.read hcz (j:=i) (by omega) hlt
  have hrow:=ht.row
  have hcall:=hf _ (List.getElem_mem hlt)
  generalize l[i] = x at *
  have hix:∀ bs lo,idxv none 5 (.row b 0 l.length cap 5) (.d (.int .i64 i)) ⟨bs,lo⟩ = some (.ptr b (i * 5),⟨bs,lo⟩):=by
   intro bs lo; simp only [idxv]; rw [if_pos ⟨by omega,by omega,trivial⟩]; simp
  have hw:=int_next hlt hl
  have hput:put pol0V 0 (x.c.map V.d) = some (x.c.map .d):=rfl
  have ht1:=ht.lay (.cells (x.c.map .d))
  obtain ⟨cs,hcs,ht2⟩:=ht1.keep hcz (e:=x.own) (by omega)
  rw [hk] at hcs
  have hrow1:=ht1.row
  rw [hk] at hrow hread hrow1
  have hset:∀ lo,Hp.set ⟨bs ++ [Blk.cells (x.c.map V.d)],lo⟩ b cs = ⟨(bs ++ [Blk.cells (x.c.map V.d)]).set b (Blk.cells cs),min lo b⟩:=fun _=>rfl
  obtain ⟨bs',lo',k1,k2⟩:=ih (i + 1) (kept ++ [x.own]) _ (min (min lo bs.length) b) (by omega) (by simp; omega) ht2
  refine ⟨bs',lo',?_,by simpa [hd] using k2⟩
  generalize hB:(bs ++ [Blk.cells (x.c.map .d)]).set b (Blk.cells cs) = B at *
  rw [key]
  simp [q155_b0,hix,ldv,hrow,hread,hput,hcall,hw,hrow1,hcs,hset,show ((i:Int) < l.length) from by omega]
  simpa using k1
end
section
variable {E:Calls'} (h113:∀ p:Pol,p.ok -> ∀ h,E 245 [ag p.c] h = some (ag p.own.c,h))
include h113
theorem B155 {s:Sl Pol} (hs:short s) (hf:∀ p ∈ s.l,p.ok) (h:Hp):Sm E TB valB 189 [.d (s.d Pol.c)] h = some (.d (Sl.d Pol.c ⟨s.nl,s.l.map Pol.own⟩),h):=by
 have m:∀ p ∈ s.l,∀ h,Sm E TB valB 245 [ag p.c] h = some (ag p.own.c,h):=fun p hp h=>by rw [Sm_ext b113]; exact h113 p (hf p hp) h
 obtain ⟨nl,l⟩:=s
 simp only at m hf
 have hlt:l.length < 2 ^ 62:=hs.lt
 rw [Sm_v b155 d155]
 have key:=Cd_round (E:=E) (T:=TB) (val:=valB) [0,7,8,9] q155_b0
 have hc:=S_cloneR (E:=E) (T:=TB) (val:=valB) b188 d188 (z:=5) (by decide) (by decide) (nl:=nl) (es:=l.map Pol.c) (by simp) (by simpa using hs.1) ⟨[],0⟩
 cases nl with
 | true =>
  have hl:=hs.2 rfl
  simp at hl
  subst hl
  simp [cloneR] at hc
  simp [Bd_mk,q155,Sl.d,hc]
  rw [Cd_keep]
  rw [key]
  simp [q155_b0]
 | false =>
  cases l with
  | nil =>
   simp [cloneR] at hc
   simp [Bd_mk,q155,Sl.d,hc]
   rw [Cd_keep]
   rw [key]
   have hdv:=dataV_row (h:=⟨[.cells []],0⟩) (k:=7) (b:=0) (n:=0) (cap:=some 0) (es:=[]) (z:=5) (rest:=[]) (by simp) rfl rfl
   simp [q155_b0,hdv]
  | cons p l =>
   simp only [List.map_cons,cloneR] at hc
   rw [← List.map_cons] at hc
   generalize hes:p :: l = es at *
   obtain ⟨bs',lo',k1,k2⟩:=own_loop (E:=E) (T:=TB) (val:=valB) (l:=es) hlt m (bs0:=[.cells [],.cells (flat (es.map Pol.c))]) (b:=1) (by simp) (cap:=none) es.length 0 [] [.cells [],.cells (flat (es.map Pol.c))] 0 (by omega) rfl (thin_start (by simp [getB]))
   have hel:l.length + 1 = es.length:=by rw [← hes]; rfl
   have hg:=thin_end (by simpa using k2) (by simp)
   have hdv:=dataV_row (h:=⟨bs',lo'⟩) (k:=7) (b:=1) (n:=es.length) (cap:=none) (es:=(es.map Pol.own).map Pol.c) (z:=5) (rest:=[]) (by simp) (by simp) (by simpa using hg)
   simp [hel] at hc k1
   simp at hdv
   simp [Bd_mk,q155,Sl.d,hc]
   rw [Cd_keep]
   simp [k1,hdv]
def Vw.own (v:Vw):Vw:={ v with policies:=⟨v.policies.nl,v.policies.l.map Pol.own⟩ }
end
section
variable {E:Calls'}
theorem I344 (a:Int) (h:Hp):Sm E TI valI 382 [.d (u64 a)] h = some (.d (u64 a),h):=by
 rw [Sm_v i344 j344]
 simp [Bd_mk,q344]
theorem ix_u64 {s:Sl Int} {i:Nat} (hi:i < s.l.length) {kd:IntKind} {h:Hp}:idxv none 1 (.d (s.d u64C)) (.d (.int kd i)) h = some (.eptr (u64C s.l[i]) 0,h) :=
 ix_data (cells:=u64C) (fun _=>rfl) hi
theorem L343 {s:Sl Int} (hs:s.l.length < 2 ^ 62) (most:Int):∀ (m i:Nat),i + m = s.l.length -> 1 <= i →
 Cd E TI valI (.loop [0,1,2,9,10] q343_b0) [(0,.d (s.d u64C)),(1,.d (i64 most)),(2,.fn 382 []),(9,.d (i64 s.l.length)),(10,.d (i64 i))] ⟨[],0⟩ =
  if risesL (s.l.drop (i - 1)) then some (.exit 0,[(0,.d (s.d u64C)),(1,.d (i64 most))],⟨[],0⟩) else some (.ret,[(6,bl false)],⟨[],0⟩):=by
 intro m
 have key:=Cd_round (E:=E) (T:=TI) (val:=valI) [0,1,2,9,10] q343_b0
 generalize Cd E TI valI (.loop [0,1,2,9,10] q343_b0) = W at key ⊢
 induction m with
 | zero =>
  intro i hi h1
  rw [key,risesL_end (by omega)]
  simp [q343_b0,show ¬ ((i:Int) < s.l.length) from by omega]
 | succ m ih =>
  intro i hi h1
  have hlt:i < s.l.length:=by omega
  have hd:=risesL_drop (l:=s.l) (i:=i - 1) (by omega)
  have hs1:i - 1 + 1 = i:=by omega
  simp only [hs1] at hd
  have hp1:=fun h=>ix_u64 hlt (kd:=.i64) (h:=h)
  have hp0:=fun h=>ix_u64 (show i - 1 < s.l.length by omega) (kd:=.i64) (h:=h)
  have c1:=I344 (E:=E)
  have hw:=int_next hlt hs
  have hwm:IntKind.wrap .i64 ((i:Int) - 1) = ((i - 1:Nat):Int):=by rw [wrap64] <;> omega
  have hpos:0 < i:=h1
  have hih:=ih (i + 1) (by omega) (by omega)
  simp only [show i + 1 - 1 = i by omega] at hih
  rw [key,hd]
  generalize s.l[i] = y at *
  generalize s.l[i - 1] = x at *
  by_cases hg:x < y
  · simp (decide:=true) [q343_b0,hp1,hp0,u64C,hwm,hw,hpos,c1,hlt,hg,openA,opDE_call,noTr,show ¬ (x >= y) from by omega]
    simpa using hih
  · simp (decide:=true) [q343_b0,hp1,hp0,u64C,hwm,hw,hpos,c1,hlt,hg,openA,opDE_call,noTr,show x >= y from by omega]
theorem I343 {s:Sl Int} (hs:s.l.length < 2 ^ 62) (most:Int) (h:Hp):Sm E TI valI 381 [.d (s.d u64C),.d (i64 most),.fn 382 []] h = some (bl (risesL s.l && decide ((s.l.length:Int) <= most)),h):=by
 rw [Sm_v i343 j343]
 have hfr:frz h (.fn 382 []) = some (.fn 382 []):=rfl
 have key:=Cd_round (E:=E) (T:=TI) (val:=valI) [0,1,2,9,10] q343_b0
 have hl:=L343 (E:=E) hs most
 simp [Bd_mk,q343,hfr]
 rw [Cd_keep]
 simp only [keepA_cons,keepA_nil]
 simp
 generalize Cd E TI valI (.loop [0,1,2,9,10] q343_b0) = W at key hl ⊢
 by_cases h0:s.l = []
 · rw [key]
   simp [q343_b0,h0,risesL,pureV]
 · have hpos:0 < s.l.length:=List.length_pos_iff.2 h0
   have h1:=hl (s.l.length - 1) 1 (by omega) (by omega)
   simp at h1
   rw [key]
   have hw:=int_next hpos hs
   simp at hw
   simp (decide:=true) [q343_b0,openA,noTr,hpos,hw,h1]
   cases risesL s.l <;> simp [pureV]
theorem L349 {s:Sl Int} (hs:short s) (n:Int) (h:Hp):∀ (m i:Nat),i + m = s.l.length →
 Cd E TI valI (.loop [0,1,7,8] q349_b0) [(0,.d (s.d u64C)),(1,.d (u64 n)),(7,.d (i64 s.l.length)),(8,.d (i64 i))] h =
  match (s.l.drop i).findIdx? (fun x=>x == n) with
  | some k=>some (.ret,[(4,.d (i64 (i + k:Nat)))],h)
  | none=>some (.exit 0,[],h):=by
 have hlt:=hs.lt
 intro m
 have key:=Cd_round (E:=E) (T:=TI) (val:=valI) [0,1,7,8] q349_b0
 generalize Cd E TI valI (.loop [0,1,7,8] q349_b0) = W at key ⊢
 induction m with
 | zero =>
  intro i hi
  have h0:s.l.drop i = []:=List.drop_eq_nil_of_le (by omega)
  rw [key]
  simp [q349_b0,h0,show ¬ ((i:Int) < s.l.length) from by omega]
 | succ m ih =>
  intro i hi
  have h1:i < s.l.length:=by omega
  have hx:=fun h=>idxv_sl (z:=1) h (List.getElem?_eq_getElem h1) (cells:=u64C) rfl
  have hw:=int_next h1 hlt
  have:=ih (i + 1) (by omega)
  rw [key,List.drop_eq_getElem_cons h1]
  generalize s.l[i] = x at *
  by_cases hq:x = n
  · simp [q349_b0,hx,hq,u64C,List.findIdx?_cons,show ((i:Int) < s.l.length) from by omega]
  · have hq':(x == n) = false:=by simpa using hq
    have hq2:¬ n = x:=fun h=>hq h.symm
    simp [q349_b0,hx,hq',hq,hq2,u64C,hw,List.findIdx?_cons,show ((i:Int) < s.l.length) from by omega]
    rw [show ((i:Int) + 1) = ((i + 1:Nat):Int) from by omega,this]
    cases hfi:(s.l.drop (i + 1)).findIdx? (fun p=>p == n) with
    | none=>rfl
    | some k=>simp; omega
theorem I349 {s:Sl Int} (hs:short s) (n:Int) (h:Hp):Sm E TI valI 456 [.d (s.d u64C),.d (u64 n)] h = some (.d (i64 (idxI s.l fun x=>x == n)),h):=by
 rw [Sm_v i349 j349]
 have k1:=fun h=>L349 (E:=E) hs n h s.l.length 0 (by omega)
 simp at k1
 simp [Bd_mk,q349]
 rw [Cd_keep]
 simp [k1,idxI]
 cases s.l.findIdx? (fun x=>x == n) with
 | none=>simp
 | some k=>simp
theorem I269 {s:Sl Int} (hs:short s) (n:Int) (h:Hp):Sm E TI valI 353 [.d (s.d u64C),.d (u64 n)] h = some (bl (hasT s.l n),h):=by
 rw [Sm_v i269 j269]
 rcases idx_cases s.l (fun x=>x == n) with ⟨g1,g2⟩ | ⟨k,p,g1,g2,g3⟩
 · simp [Bd_mk,q269,I349 hs,g2,hasT,g1]
 · simp [Bd_mk,q269,I349 hs,g2,hasT,g1]
theorem I166 (p:Pod) (h:Hp):Sm E TI valI 178 [ag p.c] h = some (.d (u64 p.uid),h):=by rw [Sm_v i166 j166]; simp [Bd_mk,q166]
theorem I168 (p:Svc) (h:Hp):Sm E TI valI 181 [ag p.c] h = some (.d (u64 p.id),h):=by rw [Sm_v i168 j168]; simp [Bd_mk,q168]
theorem I170 (p:Way) (h:Hp):Sm E TI valI 184 [ag p.c] h = some (.d (u64 p.id),h):=by rw [Sm_v i170 j170]; simp [Bd_mk,q170]
theorem I172 (p:Pol) (h:Hp):Sm E TI valI 187 [ag p.c] h = some (.d (u64 p.id),h):=by rw [Sm_v i172 j172]; simp [Bd_mk,q172]
theorem I253 (p:Pod) (h:Hp):Sm E TI valI 370 [ag p.c] h = some (bl (vpodBad p),h):=by
 rw [Sm_v i253 j253]
 unfold vpodBad
 by_cases a1:(p.ns.size:Int) > 64
 case pos=>simp (decide:=true) [Bd_mk,q253,a1]
 by_cases a2:(p.sa.size:Int) > 64
 case pos=>simp (decide:=true) [Bd_mk,q253,a1,a2]
 by_cases a3:p.host < 0
 case pos=>simp (decide:=true) [Bd_mk,q253,a1,a2,a3]
 by_cases a4:p.host > 9
 case pos=>simp (decide:=true) [Bd_mk,q253,a1,a2,a3,a4]
 by_cases a5:p.port < 0
 case pos=>simp (decide:=true) [Bd_mk,q253,a1,a2,a3,a4,a5]
 simp (decide:=true) [Bd_mk,q253,a1,a2,a3,a4,a5]
theorem I254 (p:Svc) (h:Hp):Sm E TI valI 371 [ag p.c] h = some (bl (vsvcBad p),h):=by
 rw [Sm_v i254 j254]
 unfold vsvcBad
 by_cases a1:(p.ns.size:Int) > 64
 case pos=>simp (decide:=true) [Bd_mk,q254,a1]
 by_cases a2:p.port < 0
 case pos=>simp (decide:=true) [Bd_mk,q254,a1,a2]
 simp (decide:=true) [Bd_mk,q254,a1,a2]
theorem I256 (p:Way) (h:Hp):Sm E TI valI 372 [ag p.c] h = some (bl (vwayBad p),h):=by
 rw [Sm_v i256 j256]
 unfold vwayBad
 by_cases a1:p.node < 0
 case pos=>simp (decide:=true) [Bd_mk,q256,a1]
 simp (decide:=true) [Bd_mk,q256,a1]
theorem I420 (s t:Sl Term) (hs:short s) (h:Hp):Sm E TI valI 497 [.d (s.d Term.c),.d (t.d Term.c)] h = some (bl (all2 Term.eqB s.l t.l),h) :=
 S_eql (z:=2) (fun _=>rfl) (by decide) i420 j420 hs.lt (fun x y h=>eqv_term) h
theorem I421 (s t:Sl Cidr) (hs:short s) (h:Hp):Sm E TI valI 498 [.d (s.d Cidr.c),.d (t.d Cidr.c)] h = some (bl (all2 Cidr.eqB s.l t.l),h) :=
 S_eql (z:=2) (fun _=>rfl) (by decide) i421 j421 hs.lt (fun x y h=>eqv_cidr) h
theorem I422 (s t:Sl Int) (hs:short s) (h:Hp):Sm E TI valI 499 [.d (s.d intC),.d (t.d intC)] h = some (bl (all2 (fun x y:Int=>x == y) s.l t.l),h) :=
 S_eql1 (cell:=fun n=>i64 n) i422 j422 hs.lt (fun x y h=>eqv_i) h
theorem I356 (a b:Source) (ha:a.fits big) (h:Hp):Sm E TI valI 451 [ag a.c,ag b.c] h = some (bl (a.same b),h):=by
 have n1:=fun h=>I420 (E:=E) a.names b.names ha.1 h
 have n2:=fun h=>I420 (E:=E) a.spaces b.spaces ha.2.1 h
 have n3:=fun h=>I421 (E:=E) a.nets b.nets ha.2.2 h
 rw [Sm_v i356 j356]
 unfold Source.same
 generalize all2 Term.eqB a.names.l b.names.l = A1 at *
 generalize all2 Term.eqB a.spaces.l b.spaces.l = A2 at *
 generalize all2 Cidr.eqB a.nets.l b.nets.l = A3 at *
 cases A1 <;> cases A2 <;> simp (decide:=true) [Bd_mk,q356,n1,n2,n3,openA,opDE_call,noTr,opsA_if]
theorem I358 (a b:Target) (ha:a.fits big) (h:Hp):Sm E TI valI 453 [ag a.c,ag b.c] h = some (bl (a.same b),h):=by
 have n0:=fun h=>I422 (E:=E) a.ports b.ports ha.1 h
 have n1:=fun h=>I420 (E:=E) a.methods b.methods ha.2.1 h
 have n2:=fun h=>I420 (E:=E) a.paths b.paths ha.2.2.1 h
 have n3:=fun h=>I420 (E:=E) a.hosts b.hosts ha.2.2.2 h
 rw [Sm_v i358 j358]
 unfold Target.same
 generalize all2 (fun x y:Int=>x == y) a.ports.l b.ports.l = A0 at *
 generalize all2 Term.eqB a.methods.l b.methods.l = A1 at *
 generalize all2 Term.eqB a.paths.l b.paths.l = A2 at *
 generalize all2 Term.eqB a.hosts.l b.hosts.l = A3 at *
 cases A0 <;> cases A1 <;> cases A2 <;> simp (decide:=true) [Bd_mk,q358,n0,n1,n2,n3,openA,opDE_call,noTr,opsA_if]
theorem I360 (a b:When) (ha:a.fits big) (h:Hp):Sm E TI valI 455 [ag a.c,ag b.c] h = some (bl (a.same b),h):=by
 have n1:=fun h=>I420 (E:=E) a.terms b.terms ha h
 rw [Sm_v i360 j360]
 unfold When.same
 generalize all2 Term.eqB a.terms.l b.terms.l = A1 at *
 cases e1:eqS a.head b.head <;> simp (decide:=true) [Bd_mk,q360,n1,e1,openA,opDE_call,noTr,opsA_if]
theorem I287 (a b:Rule) (ha:a.fits big) (h:Hp):Sm E TI valI 351 [ag a.c,ag b.c] h = some (bl (a.same b),h):=by
 have n1:=fun h=>S_eqf (E:=E) (T:=TI) (val:=valI) (cells:=Source.c) (z:=3) (fun _=>rfl) (by decide) rfl (f:=451) (p:=Source.same) i355 j355 (s:=a.frm) (t:=b.frm) ha.1.1.lt (fun x hx y _ h=>I356 x y (ha.1.2 x hx) h) h
 have n2:=fun h=>S_eqf (E:=E) (T:=TI) (val:=valI) (cells:=Target.c) (z:=4) (fun _=>rfl) (by decide) rfl (f:=453) (p:=Target.same) i357 j357 (s:=a.to) (t:=b.to) ha.2.1.1.lt (fun x hx y _ h=>I358 x y (ha.2.1.2 x hx) h) h
 have n3:=fun h=>S_eqf (E:=E) (T:=TI) (val:=valI) (cells:=When.c) (z:=2) (fun _=>rfl) (by decide) rfl (f:=455) (p:=When.same) i359 j359 (s:=a.whn) (t:=b.whn) ha.2.2.1.lt (fun x hx y _ h=>I360 x y (ha.2.2.2 x hx) h) h
 rw [Sm_v i287 j287]
 unfold Rule.same
 generalize all2 Source.same a.frm.l b.frm.l = A1 at *
 generalize all2 Target.same a.to.l b.to.l = A2 at *
 generalize all2 When.same a.whn.l b.whn.l = A3 at *
 cases A1 <;> cases A2 <;> simp (decide:=true) [Bd_mk,q287,n1,n2,n3,openA,opDE_call,noTr,opsA_if]
theorem I177 (a b:Pol) (ha:a.fits big) (h:Hp):Sm E TI valI 188 [ag a.c,ag b.c] h = some (bl (a.same b),h):=by
 have n1:=fun h=>S_eqf (E:=E) (T:=TI) (val:=valI) (cells:=Rule.c) (z:=3) (fun _=>rfl) (by decide) rfl (f:=351) (p:=Rule.same) i286 j286 (s:=a.rules) (t:=b.rules) ha.1.lt (fun x hx y _ h=>I287 x y (ha.2 x hx) h) h
 rw [Sm_v i177 j177]
 unfold Pol.same
 generalize all2 Rule.same a.rules.l b.rules.l = A1 at *
 cases e1:(a.id == b.id)
 case false=>simp (decide:=true) [Bd_mk,q177,n1,e1,openA,opDE_call,noTr,opsA_if]
 cases e2:eqS a.ns b.ns
 case false=>simp (decide:=true) [Bd_mk,q177,n1,e1,e2,openA,opDE_call,noTr,opsA_if]
 cases e3:(a.service == b.service)
 case false=>simp (decide:=true) [Bd_mk,q177,n1,e1,e2,e3,openA,opDE_call,noTr,opsA_if]
 cases e4:(a.deny == b.deny) <;> simp (decide:=true) [Bd_mk,q177,n1,e1,e2,e3,e4,openA,opDE_call,noTr,opsA_if]
theorem I251 (a:Int) (h:Hp):Sm E TI valI 335 [.d (u32 a)] h = some (.d (u32 a),h):=by
 rw [Sm_v i251 j251]
 simp [Bd_mk,q251]
theorem LI250 {s:Sl Int} (hs:s.l.length < 2 ^ 62) (most:Int):∀ (m i:Nat),i + m = s.l.length -> 1 <= i →
 Cd E TI valI (.loop [0,1,2,9,10] q250_b0) [(0,.d (s.d u32C)),(1,.d (i64 most)),(2,.fn 335 []),(9,.d (i64 s.l.length)),(10,.d (i64 i))] ⟨[],0⟩ =
  if risesL (s.l.drop (i - 1)) then some (.exit 0,[(0,.d (s.d u32C)),(1,.d (i64 most))],⟨[],0⟩) else some (.ret,[(6,bl false)],⟨[],0⟩):=by
 intro m
 have key:=Cd_round (E:=E) (T:=TI) (val:=valI) [0,1,2,9,10] q250_b0
 generalize Cd E TI valI (.loop [0,1,2,9,10] q250_b0) = W at key ⊢
 induction m with
 | zero =>
  intro i hi h1
  rw [key,risesL_end (by omega)]
  simp [q250_b0,show ¬ ((i:Int) < s.l.length) from by omega]
 | succ m ih =>
  intro i hi h1
  have hlt:i < s.l.length:=by omega
  have hd:=risesL_drop (l:=s.l) (i:=i - 1) (by omega)
  have hs1:i - 1 + 1 = i:=by omega
  simp only [hs1] at hd
  have hp1:=fun h=>ix_u32 hlt (kd:=.i64) (h:=h)
  have hp0:=fun h=>ix_u32 (show i - 1 < s.l.length by omega) (kd:=.i64) (h:=h)
  have c1:=I251 (E:=E)
  have hw:=int_next hlt hs
  have hwm:IntKind.wrap .i64 ((i:Int) - 1) = ((i - 1:Nat):Int):=by rw [wrap64] <;> omega
  have hpos:0 < i:=h1
  have hih:=ih (i + 1) (by omega) (by omega)
  simp only [show i + 1 - 1 = i by omega] at hih
  rw [key,hd]
  generalize s.l[i] = y at *
  generalize s.l[i - 1] = x at *
  by_cases hg:x < y
  · simp (decide:=true) [q250_b0,hp1,hp0,u32C,hwm,hw,hpos,c1,hlt,hg,openA,opDE_call,noTr,show ¬ (x >= y) from by omega]
    simpa using hih
  · simp (decide:=true) [q250_b0,hp1,hp0,u32C,hwm,hw,hpos,c1,hlt,hg,openA,opDE_call,noTr,show x >= y from by omega]
theorem I250 {s:Sl Int} (hs:s.l.length < 2 ^ 62) (most:Int) (h:Hp):Sm E TI valI 334 [.d (s.d u32C),.d (i64 most),.fn 335 []] h = some (bl (risesL s.l && decide ((s.l.length:Int) <= most)),h):=by
 rw [Sm_v i250 j250]
 have hfr:frz h (.fn 335 []) = some (.fn 335 []):=rfl
 have key:=Cd_round (E:=E) (T:=TI) (val:=valI) [0,1,2,9,10] q250_b0
 have hl:=LI250 (E:=E) hs most
 simp [Bd_mk,q250,hfr]
 rw [Cd_keep]
 simp only [keepA_cons,keepA_nil]
 simp
 generalize Cd E TI valI (.loop [0,1,2,9,10] q250_b0) = W at key hl ⊢
 by_cases h0:s.l = []
 · rw [key]
   simp [q250_b0,h0,risesL,pureV]
 · have hpos:0 < s.l.length:=List.length_pos_iff.2 h0
   have h1:=hl (s.l.length - 1) 1 (by omega) (by omega)
   simp at h1
   rw [key]
   have hw:=int_next hpos hs
   simp at hw
   simp (decide:=true) [q250_b0,openA,noTr,hpos,hw,h1]
   cases risesL s.l <;> simp [pureV]
variable (h117:∀ s:Sl Int,short s -> ∀ n h,E 137 [.d (s.d u32C),.d (u32 n)] h = some (bl (hasT s.l n),h))
include h117 in
theorem I154 {s:Sl Int} (hs:short s) (most:Int) (h:Hp):Sm E TI valI 176 [.d (s.d u32C),.d (i64 most)] h = some (bl (coversT s.l most),h):=by
 have m:∀ h,Sm E TI valI 137 [.d (s.d u32C),.d (u32 0)] h = some (bl (hasT s.l 0),h):=fun h=>by rw [Sm_ext i117]; exact h117 _ hs 0 h
 rw [Sm_v i154 j154]
 cases e:(risesL s.l && decide ((s.l.length:Int) <= most)) <;> simp (decide:=true) [Bd_mk,q154,I250 hs.lt most,m,e,coversT,openA,opDE_call,noTr,opsA_if]
variable (h263:∀ p:Pol,p.wf big -> ∀ h,E 378 [ag p.c] h = some (bl (polMay p),h))
include h263 in
theorem I262 (p:Pol) (hw:p.wf big) (h:Hp):Sm E TI valI 377 [ag p.c] h = some (bl (!polMay p),h):=by
 have m:∀ h,Sm E TI valI 378 [ag p.c] h = some (bl (polMay p),h):=fun h=>by rw [Sm_ext i263]; exact h263 p hw h
 rw [Sm_v i262 j262]
 simp (decide:=true) [Bd_mk,q262,m]
include h117 h263 in
theorem I162 (v:Vw) (hv:v.ok) (hw:∀ p ∈ v.policies.l,p.wf big) (h:Hp):Sm E TI valI 198 [.d (u64 v.epoch),.d (v.covers.d u32C),.d (v.pods.d Pod.c),.d (v.services.d Svc.c),.d (v.bound.d Way.c),.d (v.policies.d Pol.c)] h = some (bl (vwMay v),h):=by
 have k1:∀ h,Sm E TI valI 176 [.d (v.covers.d u32C),.d (i64 38)] h = some (bl (coversT v.covers.l 38),h):=fun h=>I154 h117 hv.1 38 h
 have a1:∀ h,Sm E TI valI 162 [.d (v.pods.d Pod.c),.fn 370 []] h = some (bl (v.pods.l.any vpodBad),h):=fun h =>
  S_some i143 j143 rfl rfl (S_any Pod.c (z:=7) i100 j100 i245 j245 (RowIs.of (cells:=Pod.c) (fun _=>rfl) _) hv.2.1.lt fun e he lo=>I253 e _)
 have a2:∀ h,Sm E TI valI 151 [.d (v.services.d Svc.c),.fn 371 []] h = some (bl (v.services.l.any vsvcBad),h):=fun h =>
  S_some i132 j132 rfl rfl (S_any Svc.c (z:=5) i103 j103 i239 j239 (RowIs.of (cells:=Svc.c) (fun _=>rfl) _) hv.2.2.1.lt fun e he lo=>I254 e _)
 have a3:∀ h,Sm E TI valI 343 [.d (v.bound.d Way.c),.fn 372 []] h = some (bl (v.bound.l.any vwayBad),h):=fun h =>
  S_some i255 j255 rfl rfl (S_any Way.c (z:=2) i109 j109 i340 j340 (RowIs.of (cells:=Way.c) (fun _=>rfl) _) hv.2.2.2.1.lt fun e he lo=>I256 e _)
 have a4:∀ h,Sm E TI valI 347 [.d (v.policies.d Pol.c),.fn 377 []] h = some (bl (v.policies.l.any fun p=>!polMay p),h):=fun h =>
  S_some i261 j261 rfl rfl (S_any Pol.c (z:=5) i339 j339 i292 j292 (RowIs.of (cells:=Pol.c) (fun _=>rfl) _) hv.2.2.2.2.1.lt fun e he lo=>I262 h263 e (hw e he) _)
 have b1:=fun h=>S_rsgB (E:=E) i257 j257 (s:=v.pods) (cells:=Pod.c) (most:=16) (fun _=>rfl) hv.2.1.lt (fun e _ h=>I166 e h) h
 have b2:=fun h=>S_rsgB (E:=E) i258 j258 (s:=v.services) (cells:=Svc.c) (most:=6) (fun _=>rfl) hv.2.2.1.lt (fun e _ h=>I168 e h) h
 have b3:=fun h=>S_rsgB (E:=E) i259 j259 (s:=v.bound) (cells:=Way.c) (most:=4) (fun _=>rfl) hv.2.2.2.1.lt (fun e _ h=>I170 e h) h
 have b4:=fun h=>S_rsgB (E:=E) i260 j260 (s:=v.policies) (cells:=Pol.c) (most:=12) (fun _=>rfl) hv.2.2.2.2.1.lt (fun e _ h=>I172 e h) h
 unfold vwMay thingsT oddT
 generalize coversT v.covers.l 38 = C at *
 generalize v.pods.l.any vpodBad = A1 at *
 generalize v.services.l.any vsvcBad = A2 at *
 generalize v.bound.l.any vwayBad = A3 at *
 generalize (v.policies.l.any fun p=>!polMay p) = A4 at *
 generalize risK Pod.uid v.pods.l 16 = B1 at *
 generalize risK Svc.id v.services.l 6 = B2 at *
 generalize risK Way.id v.bound.l 4 = B3 at *
 generalize risK Pol.id v.policies.l 12 = B4 at *
 rw [Sm_v i162 j162]
 have hodd:∃ o,(A1 || (A2 || A3)) = o:=⟨_,rfl⟩
 obtain ⟨o,ho⟩:=hodd
 by_cases m1:v.epoch <= 4611686018427387903
 · cases A1 <;> cases A2 <;> cases A3 <;> simp at ho <;> subst ho <;> first
    | (cases C <;> simp (decide:=true) [Bd_mk,q162,a1,a2,a3,a4,k1,m1]; done)
    | (cases B1
       case false=>cases C <;> simp (decide:=true) [Bd_mk,q162,a1,a2,a3,a4,b1,k1,m1]
       cases B2
       case false=>cases C <;> simp (decide:=true) [Bd_mk,q162,a1,a2,a3,a4,b1,b2,k1,m1]
       cases B3
       case false=>cases C <;> simp (decide:=true) [Bd_mk,q162,a1,a2,a3,a4,b1,b2,b3,k1,m1]
       cases B4 <;> cases C <;> simp (decide:=true) [Bd_mk,q162,a1,a2,a3,a4,b1,b2,b3,b4,k1,m1])
 · cases A1 <;> cases A2 <;> cases A3 <;> first
    | (simp (decide:=true) [Bd_mk,q162,a1,a2,a3,a4,m1]; done)
    | (cases B1
       case false=>simp (decide:=true) [Bd_mk,q162,a1,a2,a3,a4,b1,m1]
       cases B2
       case false=>simp (decide:=true) [Bd_mk,q162,a1,a2,a3,a4,b1,b2,m1]
       cases B3
       case false=>simp (decide:=true) [Bd_mk,q162,a1,a2,a3,a4,b1,b2,b3,m1]
       simp (decide:=true) [Bd_mk,q162,a1,a2,a3,a4,b1,b2,b3,b4,m1])
include h117 h263 in
theorem I75 (v:Vw) (hv:v.ok) (hw:∀ p ∈ v.policies.l,p.wf big) (h:Hp):Sm E TI valI 62 [v.v] h = some (bl (vwMay v),h):=by
 have k2:=fun h=>I162 h117 h263 v hv hw h
 rw [Sm_v i75 j75]
 simp (decide:=true) [Bd_mk,q75,k2]
def dltMay (d:Dlt):Bool:=(apartN Pod.uid d.gonePods.l 16 d.pods.l && (apartN Svc.id d.goneServices.l 6 d.services.l && (apartN Way.id d.goneBound.l 4 d.bound.l && apartN Pol.id d.gonePolicies.l 12 d.policies.l))) && vwMay d.vw
include h117 h263 in
theorem I164 (d:Dlt) (hd:d.ok) (hw:∀ p ∈ d.policies.l,p.wf big) (h:Hp):Sm E TI valI 64 [d.v] h = some (bl (dltMay d),h):=by
 have k2:=fun h=>I162 h117 h263 d.vw hd.1 hw h
 obtain ⟨hv,g1,g2,g3,g4⟩:=hd
 have c1:=fun n h=>I269 (E:=E) g1 n h
 have c2:=fun n h=>I269 (E:=E) g2 n h
 have c3:=fun n h=>I269 (E:=E) g3 n h
 have c4:=fun n h=>I269 (E:=E) g4 n h
 have n1:=fun h=>S_apar (E:=E) (T:=TI) (val:=valI) (cells:=Pod.c) (z:=7) (key:=Pod.uid) (idf:=178) i264 j264 i345 j345 i143 j143 i245 j245 i100 j100 (fun _=>rfl) (gone:=d.gonePods) (most:=16) (fun h=>I343 g1.lt 16 h) c1 (l:=d.pods) hv.2.1 (fun e _ h=>I166 e h) h
 have n2:=fun h=>S_apar (E:=E) (T:=TI) (val:=valI) (cells:=Svc.c) (z:=5) (key:=Svc.id) (idf:=181) i265 j265 i346 j346 i132 j132 i239 j239 i103 j103 (fun _=>rfl) (gone:=d.goneServices) (most:=6) (fun h=>I343 g2.lt 6 h) c2 (l:=d.services) hv.2.2.1 (fun e _ h=>I168 e h) h
 have n3:=fun h=>S_apar (E:=E) (T:=TI) (val:=valI) (cells:=Way.c) (z:=2) (key:=Way.id) (idf:=184) i266 j266 i347 j347 i255 j255 i340 j340 i109 j109 (fun _=>rfl) (gone:=d.goneBound) (most:=4) (fun h=>I343 g3.lt 4 h) c3 (l:=d.bound) hv.2.2.2.1 (fun e _ h=>I170 e h) h
 have n4:=fun h=>S_apar (E:=E) (T:=TI) (val:=valI) (cells:=Pol.c) (z:=5) (key:=Pol.id) (idf:=187) i267 j267 i348 j348 i261 j261 i292 j292 i339 j339 (fun _=>rfl) (gone:=d.gonePolicies) (most:=12) (fun h=>I343 g4.lt 12 h) c4 (l:=d.policies) hv.2.2.2.2.1 (fun e _ h=>I172 e h) h
 simp only [Dlt.vw] at k2
 unfold dltMay
 simp only [Dlt.vw]
 generalize apartN Pod.uid d.gonePods.l 16 d.pods.l = A1 at *
 generalize apartN Svc.id d.goneServices.l 6 d.services.l = A2 at *
 generalize apartN Way.id d.goneBound.l 4 d.bound.l = A3 at *
 generalize apartN Pol.id d.gonePolicies.l 12 d.policies.l = A4 at *
 generalize vwMay _ = M at *
 rw [Sm_v i164 j164]
 cases A1
 case false=>simp (decide:=true) [Bd_mk,q164,n1]
 cases A2
 case false=>simp (decide:=true) [Bd_mk,q164,n1,n2]
 cases A3
 case false=>simp (decide:=true) [Bd_mk,q164,n1,n2,n3]
 cases A4
 case false=>simp (decide:=true) [Bd_mk,q164,n1,n2,n3,n4]
 simp (decide:=true) [Bd_mk,q164,n1,n2,n3,n4,k2]
def Vw.same (a b:Vw):Bool:=a.epoch == b.epoch && (all2 (fun x y:Int=>x == y) a.covers.l b.covers.l && (all2 Pod.eqB a.pods.l b.pods.l && (all2 Svc.eqB a.services.l b.services.l && (all2 Way.eqB a.bound.l b.bound.l && all2 Pol.same a.policies.l b.policies.l))))
theorem I81 (s t:Sl Int) (hs:s.l.length < 2 ^ 62) (h:Hp):Sm E TI valI 133 [.d (s.d u32C),.d (t.d u32C)] h = some (bl (all2 (fun x y:Int=>x == y) s.l t.l),h) :=
 S_eql1 (cell:=fun n=>u32 n) i81 j81 hs (fun x y h=>eqv_i) h
theorem I82 (a b:Vw) (ha:a.ok) (h:Hp):Sm E TI valI 60 [a.v,b.v] h = some (bl (a.same b),h):=by
 have n0:=fun h=>I81 (E:=E) a.covers b.covers ha.1.lt h
 have n1:=fun h=>S_eql (E:=E) (T:=TI) (val:=valI) (cells:=Pod.c) (z:=7) (fun _=>rfl) (by decide) (p:=Pod.eqB) i173 j173 (s:=a.pods) (t:=b.pods) ha.2.1.lt (fun x y h=>eqv_pod) h
 have n2:=fun h=>S_eql (E:=E) (T:=TI) (val:=valI) (cells:=Svc.c) (z:=5) (fun _=>rfl) (by decide) (p:=Svc.eqB) i174 j174 (s:=a.services) (t:=b.services) ha.2.2.1.lt (fun x y h=>eqv_svc) h
 have n3:=fun h=>S_eql (E:=E) (T:=TI) (val:=valI) (cells:=Way.c) (z:=2) (fun _=>rfl) (by decide) (p:=Way.eqB) i175 j175 (s:=a.bound) (t:=b.bound) ha.2.2.2.1.lt (fun x y h=>eqv_way) h
 have n4:=fun h=>S_eqf (E:=E) (T:=TI) (val:=valI) (cells:=Pol.c) (z:=5) (fun _=>rfl) (by decide) rfl (f:=188) (p:=Pol.same) i176 j176 (s:=a.policies) (t:=b.policies) ha.2.2.2.2.1.lt (fun x hx y _ h=>I177 x y (ha.2.2.2.2.2 x hx) h) h
 rw [Sm_v i82 j82]
 unfold Vw.same
 generalize all2 (fun x y:Int=>x == y) a.covers.l b.covers.l = A0 at *
 generalize all2 Pod.eqB a.pods.l b.pods.l = A1 at *
 generalize all2 Svc.eqB a.services.l b.services.l = A2 at *
 generalize all2 Way.eqB a.bound.l b.bound.l = A3 at *
 generalize all2 Pol.same a.policies.l b.policies.l = A4 at *
 cases e1:(a.epoch == b.epoch)
 case false=>simp (decide:=true) [Bd_mk,q82,e1]
 cases A0
 case false=>simp (decide:=true) [Bd_mk,q82,e1,n0]
 cases A1
 case false=>simp (decide:=true) [Bd_mk,q82,e1,n0,n1]
 cases A2
 case false=>simp (decide:=true) [Bd_mk,q82,e1,n0,n1,n2]
 cases A3
 case false=>simp (decide:=true) [Bd_mk,q82,e1,n0,n1,n2,n3]
 simp (decide:=true) [Bd_mk,q82,e1,n0,n1,n2,n3,n4]
end
end Go.Proofs.YtmahnnnccohccaaGreat
namespace Go.Proofs.YtmahnnnccohccaaGreat
theorem risK_nodup {α:Type} {key:α -> Int} {l:List α} {n:Int} (h:risK key l n = true):(l.map key).Nodup /\ (l.length:Int) <= n:=by
 simp only [risK,Bool.and_eq_true,decide_eq_true_eq] at h
 exact ⟨(risesL_pair h.1).imp fun h=>by omega,h.2⟩
theorem putV_nodup {α:Type} {key:α -> Int} {l fresh:List α} {gone:List Int} (h1:(l.map key).Nodup) (h2:(fresh.map key).Nodup):(((l.filter (putIn key fresh gone)) ++ fresh).map key).Nodup:=by
 rw [List.map_append,List.nodup_append]
 refine ⟨List.Pairwise.sublist (List.Sublist.map key List.filter_sublist) h1,h2,?_⟩
 intro a ha b hb hab
 obtain ⟨e,he,rfl⟩:=List.mem_map.1 ha
 obtain ⟨f,hf,rfl⟩:=List.mem_map.1 hb
 have:=(List.mem_filter.1 he).2
 simp only [putIn,Bool.and_eq_true,Bool.not_eq_true',List.any_eq_false] at this
 have h3:=this.2 f hf
 simp [hab] at h3
theorem putV_mem {α:Type} {key:α -> Int} {l fresh:List α} {gone:List Int} {e:α} (h:e ∈ putV key l fresh gone):e ∈ l \/ e ∈ fresh:=by
 have:=(List.mergeSort_perm _ _).mem_iff.1 h
 rcases List.mem_append.1 this with h | h
 · exact .inl (List.mem_filter.1 h).1
 · exact .inr h
theorem putV_len {α:Type} {key:α -> Int} {l fresh:List α} {gone:List Int}:(putV key l fresh gone).length <= l.length + fresh.length:=by
 have:=List.length_filter_le (putIn key fresh gone) l
 rw [putV,List.length_mergeSort,List.length_append]
 omega
structure PutH (E:Calls'):Prop where
 h117:∀ s:Sl Int,short s -> ∀ n h,E 137 [.d (s.d u32C),.d (u32 n)] h = some (bl (hasT s.l n),h)
 h263:∀ p:Pol,p.wf big -> ∀ h,E 378 [ag p.c] h = some (bl (polMay p),h)
 h155:∀ s:Sl Pol,short s -> (∀ p ∈ s.l,p.ok) -> ∀ h,E 189 [.d (s.d Pol.c)] h = some (.d (Sl.d Pol.c ⟨s.nl,s.l.map Pol.own⟩),h)
 h271:∀ {h:Hp} {B n:Nat} {cap:Option Nat},0 < n -> E 355 [.row B 0 n cap 7,.fn 356 [.ptr 2 0]] h = sortFE ⟨7,0,356,178⟩ [.row B 0 n cap 7,.fn 356 [.ptr 2 0]] h
 h276:∀ {h:Hp} {B n:Nat} {cap:Option Nat},0 < n -> E 360 [.row B 0 n cap 5,.fn 361 [.ptr 2 0]] h = sortFE ⟨5,0,361,181⟩ [.row B 0 n cap 5,.fn 361 [.ptr 2 0]] h
 h280:∀ {h:Hp} {B n:Nat} {cap:Option Nat},0 < n -> E 364 [.row B 0 n cap 2,.fn 365 [.ptr 2 0]] h = sortFE ⟨2,0,365,184⟩ [.row B 0 n cap 2,.fn 365 [.ptr 2 0]] h
 h284:∀ {h:Hp} {B n:Nat} {cap:Option Nat},0 < n -> E 368 [.row B 0 n cap 5,.fn 369 [.ptr 2 0]] h = sortFE ⟨5,0,369,187⟩ [.row B 0 n cap 5,.fn 369 [.ptr 2 0]] h
 n271:∀ v,v = .d (.slice true []) \/ (∃ B cap,v = .row B 0 0 cap 7) -> ∀ h,E 355 [v,.fn 356 [.ptr 2 0]] h = some (.tup [],h)
 n276:∀ v,v = .d (.slice true []) \/ (∃ B cap,v = .row B 0 0 cap 5) -> ∀ h,E 360 [v,.fn 361 [.ptr 2 0]] h = some (.tup [],h)
 n280:∀ v,v = .d (.slice true []) \/ (∃ B cap,v = .row B 0 0 cap 2) -> ∀ h,E 364 [v,.fn 365 [.ptr 2 0]] h = some (.tup [],h)
 n284:∀ v,v = .d (.slice true []) \/ (∃ B cap,v = .row B 0 0 cap 5) -> ∀ h,E 368 [v,.fn 369 [.ptr 2 0]] h = some (.tup [],h)
theorem may_ris {v:Vw} (h:vwMay v = true):risK Pod.uid v.pods.l 16 = true /\ risK Svc.id v.services.l 6 = true /\ risK Way.id v.bound.l 4 = true /\ risK Pol.id v.policies.l 12 = true:=by
 simp only [vwMay,thingsT,Bool.and_eq_true] at h
 exact h.2.2.1.2
section
variable {E:Calls'} (H:PutH E)
include H
theorem I80 (v:Vw) (hv:v.ok) (hw:∀ p ∈ v.policies.l,p.wf big) (d:Dlt) (hd:d.ok) (hwd:∀ p ∈ d.policies.l,p.wf big) (m1:vwMay v = true) (m2:dltMay d = true) :
 ∃ n1 n2 n3 n4,∀ x:Vw,x = ⟨d.epoch,d.covers,⟨n1,putV Pod.uid v.pods.l d.pods.l d.gonePods.l⟩,⟨n2,putV Svc.id v.services.l d.services.l d.goneServices.l⟩,⟨n3,putV Way.id v.bound.l d.bound.l d.goneBound.l⟩,⟨n4,(putV Pol.id v.policies.l d.policies.l d.gonePolicies.l).map Pol.own⟩⟩ →
  x.ok /\ (∀ p ∈ x.policies.l,p.wf big) /\ ∀ h,Sm E TI valI 59 [v.v,d.v] h = some (if vwMay x then .tup [x.v,.d (i64 0)] else .tup [vw0.v,.d (i64 1)],h):=by
 have k1:=fun h=>I75 H.h117 H.h263 v hv hw h
 have k2:=fun h=>I164 H.h117 H.h263 d hd hwd h
 have md:vwMay d.vw = true:=by
  simp only [dltMay,Bool.and_eq_true] at m2
  exact m2.2
 obtain ⟨r1,r2,r3,r4⟩:=may_ris m1
 obtain ⟨s1,s2,s3,s4⟩:=may_ris md
 have hbig:(32:Nat) <= big:=by decide
 have a1:=risK_nodup r1; have a2:=risK_nodup r2; have a3:=risK_nodup r3; have a4:=risK_nodup r4
 have b1:=risK_nodup s1; have b2:=risK_nodup s2; have b3:=risK_nodup s3; have b4:=risK_nodup s4
 simp only [Dlt.vw] at b1 b2 b3 b4
 obtain ⟨hdv,g1,g2,g3,g4⟩:=hd
 have hok:∀ {x:Pol},x.wf big -> x.ok:=fun h=>h.fits
 obtain ⟨n1,f1,c1⟩:=S_vput (E:=E) (T:=TI) (val:=valI) (cells:=Pod.c) (key:=Pod.uid) (z:=7) (b:=72) (p:=0) (idf:=178) (g:=356) (srt:=355) i106 j106 i105 j105 i100 j100 i242 j242 i138 j138 i268 j268 i270 j270 i143 j143 i245 j245 i165 j165
  (fun hn=>by rw [Sm_ext i271]; exact H.h271 hn) (fun v hv h=>by rw [Sm_ext i271]; exact H.n271 v hv h) (fun _=>rfl) (by decide) rfl (by decide) (fun _=>rfl) (l:=v.pods) (fresh:=d.pods) hv.2.1 hdv.2.1 (by omega) (gone:=d.gonePods) (fun n h=>I269 g1 n h) (fun e _ h=>I166 e h) (putV_nodup a1.1 b1.1)
 obtain ⟨n2,f2,c2⟩:=S_vput (E:=E) (T:=TI) (val:=valI) (cells:=Svc.c) (key:=Svc.id) (z:=5) (b:=48) (p:=0) (idf:=181) (g:=361) (srt:=360) i186 j186 i243 j243 i103 j103 i244 j244 i141 j141 i274 j274 i275 j275 i132 j132 i239 j239 i167 j167
  (fun hn=>by rw [Sm_ext i276]; exact H.h276 hn) (fun v hv h=>by rw [Sm_ext i276]; exact H.n276 v hv h) (fun _=>rfl) (by decide) rfl (by decide) (fun _=>rfl) (l:=v.services) (fresh:=d.services) hv.2.2.1 hdv.2.2.1 (by omega) (gone:=d.goneServices) (fun n h=>I269 g2 n h) (fun e _ h=>I168 e h) (putV_nodup a2.1 b2.1)
 obtain ⟨n3,f3,c3⟩:=S_vput (E:=E) (T:=TI) (val:=valI) (cells:=Way.c) (key:=Way.id) (z:=2) (b:=16) (p:=0) (idf:=184) (g:=365) (srt:=364) i187 j187 i246 j246 i109 j109 i247 j247 i145 j145 i278 j278 i279 j279 i255 j255 i340 j340 i169 j169
  (fun hn=>by rw [Sm_ext i280]; exact H.h280 hn) (fun v hv h=>by rw [Sm_ext i280]; exact H.n280 v hv h) (fun _=>rfl) (by decide) rfl (by decide) (fun _=>rfl) (l:=v.bound) (fresh:=d.bound) hv.2.2.2.1 hdv.2.2.2.1 (by omega) (gone:=d.goneBound) (fun n h=>I269 g3 n h) (fun e _ h=>I170 e h) (putV_nodup a3.1 b3.1)
 obtain ⟨n4,f4,c4⟩:=S_vput (E:=E) (T:=TI) (val:=valI) (cells:=Pol.c) (key:=Pol.id) (z:=5) (b:=64) (p:=0) (idf:=187) (g:=369) (srt:=368) i188 j188 i248 j248 i339 j339 i249 j249 i148 j148 i282 j282 i283 j283 i261 j261 i292 j292 i171 j171
  (fun hn=>by rw [Sm_ext i284]; exact H.h284 hn) (fun v hv h=>by rw [Sm_ext i284]; exact H.n284 v hv h) (fun _=>rfl) (by decide) rfl (by decide) (fun _=>rfl) (l:=v.policies) (fresh:=d.policies) hv.2.2.2.2.1 hdv.2.2.2.2.1 (by omega) (gone:=d.gonePolicies) (fun n h=>I269 g4 n h) (fun e _ h=>I172 e h) (putV_nodup a4.1 b4.1)
 have q1:=putV_len (key:=Pod.uid) (l:=v.pods.l) (fresh:=d.pods.l) (gone:=d.gonePods.l)
 have q2:=putV_len (key:=Svc.id) (l:=v.services.l) (fresh:=d.services.l) (gone:=d.goneServices.l)
 have q3:=putV_len (key:=Way.id) (l:=v.bound.l) (fresh:=d.bound.l) (gone:=d.goneBound.l)
 have q4:=putV_len (key:=Pol.id) (l:=v.policies.l) (fresh:=d.policies.l) (gone:=d.gonePolicies.l)
 have w4:∀ p ∈ putV Pol.id v.policies.l d.policies.l d.gonePolicies.l,p.wf big:=fun p hp=>by
  rcases putV_mem hp with h | h
  · exact hw p h
  · exact hwd p h
 refine ⟨n1,n2,n3,n4,?_⟩
 generalize putV Pod.uid v.pods.l d.pods.l d.gonePods.l = P1 at *
 generalize putV Svc.id v.services.l d.services.l d.goneServices.l = P2 at *
 generalize putV Way.id v.bound.l d.bound.l d.goneBound.l = P3 at *
 generalize putV Pol.id v.policies.l d.policies.l d.gonePolicies.l = P4 at *
 rintro x rfl
 have hwo:∀ p ∈ P4.map Pol.own,p.wf big:=fun p hp=>by
  obtain ⟨q,hq,rfl⟩:=List.mem_map.1 hp
  exact Pol.own_wf (w4 q hq)
 have hx:Vw.ok ⟨d.epoch,d.covers,⟨n1,P1⟩,⟨n2,P2⟩,⟨n3,P3⟩,⟨n4,P4.map Pol.own⟩⟩ :=
  ⟨hdv.1,⟨by show P1.length <= big; omega,f1⟩,⟨by show P2.length <= big; omega,f2⟩,⟨by show P3.length <= big; omega,f3⟩,⟨by show (P4.map Pol.own).length <= big; rw [List.length_map]; omega,fun h=>by show P4.map Pol.own = []; rw [f4 h]; rfl⟩,fun p hp=>hok (hwo p hp)⟩
 refine ⟨hx,hwo,fun h=>?_⟩
 have k155:∀ h,Sm E TI valI 189 [.d (.slice n4 (P4.map Pol.c))] h = some (.d (.slice n4 ((P4.map Pol.own).map Pol.c)),h):=fun h=>by
  rw [Sm_ext i155]
  exact H.h155 ⟨n4,P4⟩ ⟨by show P4.length <= big; omega,f4⟩ (fun p hp=>hok (w4 p hp)) h
 have k135:=fun h=>S_cloneV (E:=E) (T:=TI) (val:=valI) (cells:=u32C) i135 j135 (by decide) (by decide) (fun _=>rfl) hdv.1 h
 have e1:d.vw.covers = d.covers:=rfl
 rw [e1] at k135
 have k75:∀ h,Sm E TI valI 62 [.agg [.d (u64 d.epoch),.d (d.covers.d u32C),.d (.slice n1 (P1.map Pod.c)),.d (.slice n2 (P2.map Svc.c)),.d (.slice n3 (P3.map Way.c)),.d (.slice n4 ((P4.map Pol.own).map Pol.c))]] h = some (bl (vwMay ⟨d.epoch,d.covers,⟨n1,P1⟩,⟨n2,P2⟩,⟨n3,P3⟩,⟨n4,P4.map Pol.own⟩⟩),h):=fun h=>I75 H.h117 H.h263 _ hx hwo h
 have hv0:ag [u64 0,.slice true [],.slice true [],.slice true [],.slice true [],.slice true []] = vw0.v:=rfl
 have hvx:ag [u64 d.epoch,d.covers.d u32C,.slice n1 (P1.map Pod.c),.slice n2 (P2.map Svc.c),.slice n3 (P3.map Way.c),.slice n4 ((P4.map Pol.own).map Pol.c)] = Vw.v ⟨d.epoch,d.covers,⟨n1,P1⟩,⟨n2,P2⟩,⟨n3,P3⟩,⟨n4,P4.map Pol.own⟩⟩:=rfl
 rw [← hvx]
 generalize vwMay _ = M at k75 ⊢
 clear hx hwo hvx w4
 generalize P4.map Pol.own = Q4 at *
 rw [Sm_v i80 j80]
 have hfn:∀ n caps,V.fn n caps = V.fn n caps:=fun _ _=>rfl
 cases M <;> simp (decide:=true) [Bd_mk,q80,fillsE,k1,k2,m1,m2,k135,c1,c2,c3,c4,k155,k75,openA,opDE_call,noTr] <;> first | rfl | done
end
end Go.Proofs.YtmahnnnccohccaaGreat
