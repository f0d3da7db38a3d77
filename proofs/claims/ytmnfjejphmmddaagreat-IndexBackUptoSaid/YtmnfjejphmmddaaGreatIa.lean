/- view.put, view.apart, view.rising at uint64, at any width. -/
import Derived.Test.YtmnfjejphmmddaaGreatQt
import Derived.Test.YtmnfjejphmmddaaGreatOa
import Derived.Test.YtmnfjejphmmddaaGreatWo
import Derived.Test.YtmnfjejphmmddaaGreatOd
import Derived.Test.YtmnfjejphmmddaaGreatWa
import Derived.Test.YtmnfjejphmmddaaGreatF64
import Derived.Test.YtmnfjejphmmddaaGreatF7
import Derived.Test.YtmnfjejphmmddaaGreatF6
import Derived.KernelRfl
set_option maxRecDepth 100000
set_option linter.unusedVariables false
set_option linter.unusedSimpArgs false
namespace Go.Proofs.YtmnfjejphmmddaaGreat
def u64C (n:Int):List D:=[u64 n]
section
variable {E:Calls'} {T:FuncId -> Option QF} {val:FuncId -> Bool}
def KeptP {α:Type} (cells:α -> List D) (z n:Nat) (nl:Bool) (l:List α) (bs:List Blk) (v:V):Prop :=
 (nl = true /\ l = [] /\ v = .d (.slice true [])) \/ (nl = false /\ ∃ B cap rest,n <= B /\ v = .row B 0 l.length cap z /\ getB bs B = some (flat (l.map cells) ++ rest) /\ ((cap = some 0 /\ l = []) \/ (cap = none /\ 0 < (flat (l.map cells) ++ rest).length)))
theorem KeptP.nu {α:Type} {cells:α -> List D} {z n:Nat} {nl:Bool} {l:List α} {bs:List Blk} {v:V} (h:KeptP cells z n nl l bs v):Go.Proofs.YtmnfjejphmmddaaGreat.nu v = some v /\ okV v = true:=by
 rcases h with ⟨_,_,rfl⟩ | ⟨_,B,cap,rest,_,rfl,_⟩ <;> exact ⟨rfl,rfl⟩
theorem S_keepP {α:Type} {cells:α -> List D} {z b cl clos del idx id:Nat} {zero:List V} (tcl:T cl = some (cloneQ z b zero)) (vcl:val cl = false) (tdel:T del = some (delQ z idx zero)) (vdel:val del = false) (tidx:T idx = some (idxQ z)) (vidx:val idx = false)
 (tc:T clos = some (notQ z)) (vc:val clos = false) (tid:T id = some (keepQ cl clos del)) (vid:val id = false) (hz:∀ x,(cells x).length = z) (hz0:0 < z) (hzero:zero.length = z) (hb:b <= 4096) {s:Sl α} (hs:short s) {f:FuncId} {caps:List V} {q:α -> Bool} {h:Hp}
 (hq:∀ e ∈ s.l,∀ bs lo,h.bs.length <= bs.length -> (∀ x,x < h.bs.length -> bs[x]? = h.bs[x]?) -> Sm E T val f (ag (cells e) :: caps) ⟨bs,lo⟩ = some (bl (q e),⟨bs,lo⟩)) :
 ∃ r bs' lo',Sm E T val id [.d (s.d cells),.fn f caps] h = some (r,⟨bs',lo'⟩) /\ h.bs.length <= bs'.length /\ (∀ x,x < h.bs.length -> bs'[x]? = h.bs[x]?) /\ KeptP cells z h.bs.length s.nl (s.l.filter q) bs' r:=by
 obtain ⟨bs,lo0⟩:=h
 simp only at hq ⊢
 obtain ⟨nl,l⟩:=s
 simp only at hq ⊢
 have hcl:=S_cloneR (E:=E) (T:=T) (val:=val) tcl vcl hz0 hb (nl:=nl) (es:=l.map cells) (by simp; intro a _; exact hz a) (by simpa using hs.1) ⟨bs ++ [.cells [.fn f caps]],bs.length⟩
 have hlen:l.length < 2 ^ 62:=hs.lt
 have hout:∀ {r:V} {bs':List Blk} {lo':Nat},r.under bs.length = false -> byRef ⟨bs,lo0⟩ (some (r,⟨bs',lo'⟩)) = some (r,⟨bs',min lo0 lo'⟩):=fun hu=>by
  rw [byRef_s,if_neg (fun hh=>by rw [hu] at hh; cases hh.2)]
 have hun:∀ {B o n z:Nat} {cap:Option Nat},bs.length <= B -> V.under bs.length (.row B o n cap z) = false:=fun h=>by simp [V.under]; omega
 rw [Sm_ref tid vid]
 cases nl with
 | true =>
  have hl:=hs.2 rfl
  simp at hl
  subst hl
  have h1:=S_del_none (E:=E) (T:=T) (val:=val) cells (es:=[]) (z:=z) (idx:=idx) (zero:=zero) tidx vidx tdel vdel (v:=.d (.slice true [])) (f:=clos) (caps:=[.ptr bs.length 0]) (q:=fun _=>false) (h:=⟨bs ++ [.cells [.fn f caps]],bs.length⟩) ⟨by simp,.inl ⟨true,rfl⟩⟩ (by simp) (by simp) (by simp)
  simp [cloneR] at hcl
  refine ⟨.d (.slice true []),bs,lo0,?_,Nat.le_refl _,fun _ _=>rfl,.inl ⟨rfl,by simp,rfl⟩⟩
  simp [Bd_mk,keepQ,Sl.d,hcl,h1,V.under,tupOf]
 | false =>
  cases hll:l with
  | nil =>
   subst hll
   have h1:=fun lo=>S_del_none (E:=E) (T:=T) (val:=val) cells (es:=[]) (z:=z) (idx:=idx) (zero:=zero) tidx vidx tdel vdel (v:=.row (bs.length + 1) 0 0 (some 0) z) (f:=clos) (caps:=[.ptr bs.length 0]) (q:=fun _=>false) (h:=⟨bs ++ [.cells [.fn f caps],.cells []],lo⟩) ⟨by simp,.inr ⟨bs.length + 1,0,some 0,[],rfl,by unfold getB; rw [List.getElem?_append_right (by omega)]; simp,by simp [sub_eq]⟩⟩ (by simp) (by simp) (by simp)
   simp [cloneR] at hcl
   refine ⟨.row (bs.length + 1) 0 0 (some 0) z,bs ++ [.cells [.fn f caps],.cells []],min lo0 bs.length,?_,by simp,fun x hx=>by rw [List.getElem?_append_left hx],.inr ⟨rfl,bs.length + 1,some 0,[],by omega,rfl,by unfold getB; rw [List.getElem?_append_right (by omega)]; simp,.inl ⟨rfl,rfl⟩⟩⟩
   refine Eq.trans ?_ (hout (lo':=bs.length) (hun (by omega)))
   congr 1
   simp [Bd_mk,keepQ,Sl.d,hcl,h1,tupOf]
  | cons p l' =>
   have hne:l ≠ []:=by rw [hll]; simp
   have hLz:0 < l.length * z:=Nat.mul_pos (List.length_pos_iff.2 hne) hz0
   rw [← hll]
   have hc2:cloneR z false (l.map cells) (bs ++ [.cells [.fn f caps]]) bs.length = (.row (bs.length + 2) 0 l.length none z,⟨bs ++ [.cells [.fn f caps],.cells [],.cells (flat (l.map cells))],bs.length⟩):=by
    rw [hll]; simp [cloneR]
   rw [hc2] at hcl
   simp at hcl
   have hbF:getB (bs ++ [.cells [.fn f caps],.cells [],.cells (flat (l.map cells))]) (bs.length + 2) = some (flat (l.map cells)):=by unfold getB; rw [List.getElem?_append_right (by omega)]; simp
   have hold:∀ x,x < bs.length -> (bs ++ [Blk.cells [.fn f caps],.cells [],.cells (flat (l.map cells))])[x]? = bs[x]?:=fun x hx=>by rw [List.getElem?_append_left hx]
   have hcall:∀ e ∈ l,∀ bs2 lo2,bs.length + 3 <= bs2.length -> (∀ x,x ≠ bs.length + 2 -> x < bs.length + 3 -> bs2[x]? = (bs ++ [.cells [.fn f caps],.cells [],.cells (flat (l.map cells))])[x]?) -> Sm E T val clos (.agg ((cells e).map .d) :: [.ptr bs.length 0]) ⟨bs2,lo2⟩ = some (.d (.bool (!q e)),⟨bs2,lo2⟩):=by
    intro e he bs2 lo2 hle ho
    refine S_notC tc vc (hz e) (f:=f) (caps:=caps) (p:=q e) ?_ fun ys lo=>?_
    · have:=ho bs.length (by omega) (by omega)
      simp only [getB]
      rw [this,List.getElem?_append_right (by omega)]; simp
    · refine hq e he _ lo (by simp; omega) fun x hx=>?_
      simp only
      rw [List.getElem?_append_left (by omega),ho x (by omega) (by omega)]
      exact hold x hx
   have hnn:(l.filter fun e=>!(!q e)) = l.filter q:=by simp
   by_cases hqq:∃ e ∈ l,(!q e) = true
   · obtain ⟨bs',lo',rest,k1,k2,k3,k4,k5,k6⟩:=S_del_some (E:=E) (T:=T) (val:=val) hz hz0 hzero tidx vidx tdel vdel (es:=l) (b:=bs.length + 2) (cap:=none) (f:=clos) (caps:=[.ptr bs.length 0]) (q:=fun e=>!q e) (h:=⟨bs ++ [.cells [.fn f caps],.cells [],.cells (flat (l.map cells))],bs.length⟩) hbF hlen (fun e he bs2 lo2 a b=>hcall e he bs2 lo2 (by simpa using a) (fun x h1 h2=>b x h1 (by simp; omega))) hqq
     rw [hnn] at k1 k4
     refine ⟨.row (bs.length + 2) 0 (l.filter q).length none z,bs',min lo0 lo',?_,by simp at k2; omega,fun x hx=>by rw [k3 x (by omega) (by simp; omega)]; exact hold x hx,.inr ⟨rfl,bs.length + 2,none,rest,by omega,rfl,k4,.inr ⟨rfl,by rw [List.length_append,flatT_len hz,k6,hnn,← Nat.add_mul,Nat.add_sub_cancel' (List.length_filter_le _ _)]; exact hLz⟩⟩⟩
     refine Eq.trans ?_ (hout (lo':=lo') (hun (by omega)))
     congr 1
     simp [Bd_mk,keepQ,Sl.d,hcl,k1,tupOf]
   · have hall:∀ e ∈ l,(!q e) = false:=by
      intro e he
      cases hh:(!q e) with
      | false=>rfl
      | true=>exact absurd ⟨e,he,hh⟩ hqq
     have hK:l.filter q = l:=List.filter_eq_self.2 fun e he=>by have:=hall e he; simpa using this
     have h1:=S_del_none (E:=E) (T:=T) (val:=val) cells (es:=l) (z:=z) (idx:=idx) (zero:=zero) tidx vidx tdel vdel (v:=.row (bs.length + 2) 0 l.length none z) (f:=clos) (caps:=[.ptr bs.length 0]) (q:=fun e=>!q e) (h:=⟨bs ++ [.cells [.fn f caps],.cells [],.cells (flat (l.map cells))],bs.length⟩)
      ⟨by simp; intro a _; exact hz a,.inr ⟨bs.length + 2,0,none,_,by simp,hbF,by
       rw [sub_eq,if_pos (by rw [flatT_len hz]; simp),List.drop_zero,List.length_map,← flatT_len hz,List.take_length]; rfl⟩⟩ hlen (fun e he lo2=>hcall e he _ lo2 (by simp) fun _ _ _=>rfl) hall
     rw [hK]
     refine ⟨.row (bs.length + 2) 0 l.length none z,bs ++ [.cells [.fn f caps],.cells [],.cells (flat (l.map cells))],min lo0 bs.length,?_,by simp,hold,.inr ⟨rfl,bs.length + 2,none,[],by omega,rfl,by rw [hbF]; simp,.inr ⟨rfl,by rw [List.append_nil,flatT_len hz]; exact hLz⟩⟩⟩
     refine Eq.trans ?_ (hout (lo':=bs.length) (hun (by omega)))
     congr 1
     simp [Bd_mk,keepQ,Sl.d,hcl,h1,tupOf]
theorem app_kept {α:Type} {cells:α -> List D} {z b:Nat} (hz:∀ x,(cells x).length = z) (hz0:0 < z) (hb:b <= 4096) {n:Nat} {nl:Bool} {K:List α} {bs:List Blk} {v:V} (hk:KeptP cells z n nl K bs v) (fr:Sl α) (hfr:fit big fr) (hlen:K.length + fr.l.length <= big) (hn:n <= bs.length) :
 ∃ (v':V) (bs':List Blk) (f:Nat -> Nat),(∀ lo,appv ⟨bs,lo⟩ z b v (.d (fr.d cells)) = some (v',⟨bs',f lo⟩)) /\ (∀ y,y < n -> bs'[y]? = bs[y]?) ∧
  ((nl = true /\ K ++ fr.l = [] /\ v' = .d (.slice true [])) \/ ((nl && fr.l.isEmpty) = false /\ ∃ B cap rest,n <= B /\ v' = .row B 0 (K ++ fr.l).length cap z /\ getB bs' B = some (flat ((K ++ fr.l).map cells) ++ rest))):=by
 have hall:((fr.l.map cells).all fun e=>e.length == z) = true:=List.all_eq_true.2 fun x hx=>by
  obtain ⟨y,_,rfl⟩:=List.mem_map.1 hx
  simp [hz y]
 have hrc:∀ lo,rowCells ⟨bs,lo⟩ (.d (fr.d cells)) z = some (fr.l.length,flat (fr.l.map cells)):=fun lo=>by
  simp only [Sl.d,rowCells,hall,if_true,flat,List.length_map]
 have hroom:∀ n,n <= big -> roomy n b = true:=fun n hn=>by simp only [roomy,Bool.and_eq_true,decide_eq_true_eq]; exact ⟨hn,hb⟩
 have hzz:¬ z = 0:=by omega
 have hfl:=flatT_len hz fr.l
 rcases Nat.eq_zero_or_pos fr.l.length with h0 | h0
 · have hf0:fr.l = []:=List.eq_nil_of_length_eq_zero h0
   rcases hk with ⟨h1,h2,rfl⟩ | ⟨h1,B,cap,rest,h2,rfl,h3,h4⟩
   · refine ⟨.d (.slice true []),bs,fun lo=>lo,fun lo=>by simp only [appv,hrc,h0,appendAt,if_true],fun _ _=>rfl,.inl ⟨h1,by rw [h2,hf0]; rfl,rfl⟩⟩
   · refine ⟨.row B 0 K.length cap z,bs,fun lo=>lo,fun lo=>by simp only [appv,hrc,h0,appendAt,ne_eq,not_true_eq_false,false_or,if_neg hzz,if_true],fun _ _=>rfl,.inr ⟨by simp [h1],B,cap,rest,h2,by rw [hf0,List.append_nil],by rw [hf0,List.append_nil]; exact h3⟩⟩
 · have hm0:¬ fr.l.length = 0:=by omega
   have hne:fr.l ≠ []:=List.length_pos_iff.1 h0
   have hie:fr.l.isEmpty = false:=by cases hc:fr.l with | nil=>exact absurd hc hne | cons _ _=>rfl
   have hcat:flat ((K ++ fr.l).map cells) = flat (K.map cells) ++ flat (fr.l.map cells):=by rw [List.map_append,flat_app]
   have hcat2:flat (K.map cells ++ fr.l.map cells) = flat (K.map cells) ++ flat (fr.l.map cells):=flat_app _ _
   have hKl:=flatT_len hz K
   rcases hk with ⟨h1,h2,rfl⟩ | ⟨h1,B,cap,rest,h2,rfl,h3,h4⟩
   · subst h2
     refine ⟨.row bs.length 0 fr.l.length none z,bs ++ [.cells (flat (fr.l.map cells))],fun lo=>lo,fun lo=>by simp only [appv,hrc,appendAt,if_neg hm0,if_neg hzz,hroom fr.l.length (by simpa using hlen),if_true]; rfl,fun y hy=>by rw [List.getElem?_append_left (by omega)],.inr ⟨by simp [hie],bs.length,none,[],hn,rfl,by simp [getB_at]⟩⟩
   · have hBl:=getB_len h3
     have hs:sub (flat (K.map cells) ++ rest) 0 (K.length * z) = some (flat (K.map cells)):=by
      rw [sub_eq,if_pos (by rw [List.length_append,hKl]; omega),List.drop_zero,← hKl,List.take_left]
     rcases h4 with ⟨rfl,rfl⟩ | ⟨rfl,h5⟩
     · simp only [List.map_nil,flat_nil,List.nil_append,List.length_nil,Nat.zero_mul] at h3 hs hlen
       refine ⟨.row bs.length 0 (0 + fr.l.length) none z,bs ++ [.cells ([] ++ flat (fr.l.map cells))],fun lo=>lo,fun lo=>by simp only [appv,hrc,appendAt,ne_eq,not_true_eq_false,false_or,if_neg hm0,if_neg hzz,get_eq,h3,List.length_nil,Nat.zero_mul,hs,hroom (0 + fr.l.length) (by omega),Bool.not_true,Bool.false_eq_true,if_false,if_neg (show ¬ (0 + fr.l.length <= 0) by omega)]; rfl,fun y hy=>by rw [List.getElem?_append_left (by omega)],.inr ⟨by simp [hie],bs.length,none,[],hn,by simp,by simp [getB_at]⟩⟩
     · by_cases hfit:0 + (K.length + fr.l.length) * z <= (flat (K.map cells) ++ rest).length
       · have hno:¬ (True /\ (flat (K.map cells)).length = (flat (K.map cells) ++ rest).length /\ 0 < (flat (K.map cells) ++ rest).length):=by
          have:0 < fr.l.length * z:=Nat.mul_pos h0 hz0
          rw [Nat.add_mul] at hfit
          rw [hKl]
          omega
         have hput:put (flat (K.map cells) ++ rest) (0 + K.length * z) (flat (fr.l.map cells)) = some (flat (K.map cells) ++ flat (fr.l.map cells) ++ rest.drop (fr.l.length * z)):=by
          rw [Nat.add_mul] at hfit
          unfold put
          rw [if_pos (by rw [hfl]; omega),Nat.zero_add,← hKl,List.take_left,List.drop_append,List.drop_eq_nil_of_le (by omega),Nat.add_sub_cancel_left,hfl]
          simp
         refine ⟨.row B 0 (K.length + fr.l.length) none z,bs.set B (.cells (flat (K.map cells) ++ flat (fr.l.map cells) ++ rest.drop (fr.l.length * z))),fun lo=>min lo B,fun lo=>by simp only [appv,hrc,appendAt,ne_eq,not_true_eq_false,false_or,if_neg hm0,if_neg hzz,get_eq,h3,hs,hroom (K.length + fr.l.length) (by omega),Bool.not_true,Bool.false_eq_true,if_false,if_neg hno,if_pos hfit,hput]; rfl,fun y hy=>by rw [List.getElem?_set_ne (by omega)],.inr ⟨by simp [hie],B,none,rest.drop (fr.l.length * z),h2,by simp,by simp [getB,hBl,hcat2]⟩⟩
       · refine ⟨.row bs.length 0 (K.length + fr.l.length) none z,bs.set B (.cells []) ++ [.cells (flat (K.map cells) ++ flat (fr.l.map cells))],fun lo=>min lo B,fun lo=>?_,fun y hy=>by rw [List.getElem?_append_left (by simp; omega),List.getElem?_set_ne (by omega)],.inr ⟨by simp [hie],bs.length,none,[],hn,by simp,?_⟩⟩
         · by_cases hfull:(flat (K.map cells)).length = (flat (K.map cells) ++ rest).length
           · simp only [appv,hrc,appendAt,ne_eq,not_true_eq_false,false_or,if_neg hm0,if_neg hzz,get_eq,h3,hs,hroom (K.length + fr.l.length) (by omega),Bool.not_true,Bool.false_eq_true,if_false,if_pos (show True /\ (flat (K.map cells)).length = (flat (K.map cells) ++ rest).length /\ 0 < (flat (K.map cells) ++ rest).length from ⟨trivial,hfull,h5⟩),Hp.size,Hp.alloc,Hp.set,List.length_set]
           · simp only [appv,hrc,appendAt,ne_eq,not_true_eq_false,false_or,if_neg hm0,if_neg hzz,get_eq,h3,hs,hroom (K.length + fr.l.length) (by omega),Bool.not_true,Bool.false_eq_true,if_false,if_neg (show ¬ (True /\ (flat (K.map cells)).length = (flat (K.map cells) ++ rest).length /\ 0 < (flat (K.map cells) ++ rest).length) from fun hh=>hfull hh.2.1),if_neg hfit,if_pos (show True /\ 0 < (flat (K.map cells) ++ rest).length from ⟨trivial,h5⟩),Hp.size,Hp.alloc,Hp.set,List.length_set]
         · have:=getB_at (bs:=bs.set B (.cells [])) (ys:=[.cells (flat (K.map cells) ++ flat (fr.l.map cells))])
           rw [List.length_set] at this
           rw [this,hcat,List.append_nil]; rfl
def putIn {α:Type} (key:α -> Int) (fresh:List α) (gone:List Int) (e:α):Bool:=!hasT gone (key e) && !fresh.any fun y=>key e == key y
def putV {α:Type} (key:α -> Int) (l fresh:List α) (gone:List Int):List α:=((l.filter (putIn key fresh gone)) ++ fresh).mergeSort fun a b=>decide (key a <= key b)
theorem S_vpe {α:Type} {cells:α -> List D} {z c idf:FuncId} {key:α -> Int} (ht:T c = some (vpeQ z)) (hv:val c = false) {x y:α} (hx:(cells x).length = z) (hy:(cells y).length = z) (hid:∀ e,e = x \/ e = y -> ∀ h,Sm E T val idf [ag (cells e)] h = some (.d (u64 (key e)),h)) {p r:Nat} {h:Hp} (hp:getB h.bs p = some [.fn idf []]) (hr:getB h.bs r = some ((cells x).map .d)) :
 Sm E T val c [ag (cells y),.ptr p 0,.ptr r 0] h = some (bl (key x == key y),h):=by
 rw [Sm_ref ht hv]
 have hsx:=sub_c hx
 have hsy:=sub_c hy
 have h1:=hid x (.inl rfl)
 have h2:=hid y (.inr rfl)
 simp [vpeQ,Bd_mk,openA,opDE_call,noTr,apartT_mute,Tr.mute,getB_of hp,getB_of hr,h1,h2,hsx,hsy,V.under]
theorem S_vpc {α:Type} {cells:α -> List D} {z c c11 con sm any idx idf:FuncId} {key:α -> Int} (ht:T c = some (vpcQ z con c11 sm)) (hv:val c = false) (ht1:T c11 = some (vpeQ z)) (hv1:val c11 = false) (ts:T sm = some (someQ any)) (vs:val sm = false) (ta:T any = some (anyQ idx)) (va:val any = false) (ti:T idx = some (idxQ z)) (vi:val idx = false)
 (hz:∀ x,(cells x).length = z) {fresh:Sl α} (hs:short fresh) {gone:Sl Int} (hcon:∀ n h,Sm E T val con [.d (gone.d u64C),.d (u64 n)] h = some (bl (hasT gone.l n),h)) {x:α} (hid:∀ e,e = x \/ e ∈ fresh.l -> ∀ h,Sm E T val idf [ag (cells e)] h = some (.d (u64 (key e)),h))
 {p r f:Nat} {h:Hp} (hr:getB h.bs r = some [.d (gone.d u64C)]) (hp:getB h.bs p = some [.fn idf []]) (hf:getB h.bs f = some [.d (fresh.d cells)]) :
 Sm E T val c [ag (cells x),.ptr r 0,.ptr p 0,.ptr f 0] h = some (bl (putIn key fresh.l gone.l x),h):=by
 have hsx:=sub_c (hz x)
 have h1:=hid x (.inl rfl)
 have hcl:∀ y ∈ fresh.l,∀ lo,Sm E T val c11 (.agg ((cells y).map .d) :: [.ptr p 0,.ptr h.bs.length 0]) ⟨h.bs ++ [.cells ((cells x).map .d)],lo⟩ = some (.d (.bool (key x == key y)),⟨h.bs ++ [.cells ((cells x).map .d)],lo⟩):=fun y hy lo =>
  S_vpe ht1 hv1 (hz x) (hz y) (fun e he=>hid e (by rcases he with rfl | rfl; exact .inl rfl; exact .inr hy)) (getB_of hp) (by rw [getB_at]; rfl)
 have hsm:∀ lo,Sm E T val sm [.d (fresh.d cells),.fn c11 [.ptr p 0,.ptr h.bs.length 0]] ⟨h.bs ++ [.cells ((cells x).map .d)],lo⟩ = some (bl (fresh.l.any fun y=>key x == key y),⟨h.bs ++ [.cells ((cells x).map .d)],lo⟩):=fun lo =>
  S_some ts vs rfl rfl (S_any cells ti vi ta va (h:=⟨h.bs ++ [.cells ((cells x).map .d)],(h.bs ++ [Blk.cells ((cells x).map .d)]).length⟩) (RowIs.of hz _) hs.lt fun e he lo=>hcl e he lo)
 rw [Sm_ref ht hv]
 unfold putIn
 cases hg:hasT gone.l (key x) <;> simp [vpcQ,Bd_mk,openA,opDE_call,noTr,apartT_mute,Tr.mute,opsA_if,getB_of hp,getB_of hr,getB_of hf,h1,hsx,hcon,hg,hsm,V.under]
theorem S_vput {α:Type} {cells:α -> List D} {z b c1 c11 con sm any keep cl clos del idx g srt idf id:FuncId} {zero:List V} {key:α -> Int} (tcl:T cl = some (cloneQ z b zero)) (vcl:val cl = false) (tdel:T del = some (delQ z idx zero)) (vdel:val del = false) (ti:T idx = some (idxQ z)) (vi:val idx = false)
 (tn:T clos = some (notQ z)) (vn:val clos = false) (tk:T keep = some (keepQ cl clos del)) (vk:val keep = false) (t1:T c1 = some (vpcQ z con c11 sm)) (v1:val c1 = false) (t11:T c11 = some (vpeQ z)) (v11:val c11 = false) (ts:T sm = some (someQ any)) (vs:val sm = false) (ta:T any = some (anyQ idx)) (va:val any = false)
 (tid:T id = some (vputQ z b c1 keep g srt)) (vid:val id = true) {p:Nat} (hS:∀ {h:Hp} {B n:Nat} {cap:Option Nat},0 < n -> Sm E T val srt [.row B 0 n cap z,.fn g [.ptr 2 0]] h = sortFE ⟨z,p,g,idf⟩ [.row B 0 n cap z,.fn g [.ptr 2 0]] h)
 (hS0:∀ v,v = .d (.slice true []) \/ (∃ B cap,v = .row B 0 0 cap z) -> ∀ h,Sm E T val srt [v,.fn g [.ptr 2 0]] h = some (.tup [],h))
 (hz:∀ x,(cells x).length = z) (hz0:0 < z) (hzero:zero.length = z) (hb:b <= 4096) (hkey:∀ x,(cells x)[p]? = some (.int .u64 (key x))) {l fresh:Sl α} (hl:short l) (hf:short fresh) (hlf:l.l.length + fresh.l.length <= big) {gone:Sl Int}
 (hcon:∀ n h,Sm E T val con [.d (gone.d u64C),.d (u64 n)] h = some (bl (hasT gone.l n),h)) (hid:∀ e,e ∈ l.l \/ e ∈ fresh.l -> ∀ h,Sm E T val idf [ag (cells e)] h = some (.d (u64 (key e)),h)) (hnd:(((l.l.filter (putIn key fresh.l gone.l)) ++ fresh.l).map key).Nodup) :
 ∃ nl,(nl = true -> putV key l.l fresh.l gone.l = []) /\ ∀ h,Sm E T val id [.d (l.d cells),.d (fresh.d cells),.d (gone.d u64C),.fn idf []] h = some (.d (.slice nl ((putV key l.l fresh.l gone.l).map cells)),h):=by
 have hfr:∀ h,frz h (.fn idf []) = some (.fn idf []):=fun _=>rfl
 have hpf:pureV (.fn idf []) = true:=rfl
 obtain ⟨r,bs1,lo1,k1,k2,k3,k4⟩:=S_keepP (E:=E) (T:=T) (val:=val) tcl vcl tdel vdel ti vi tn vn tk vk hz hz0 hzero hb hl (f:=c1) (caps:=[.ptr 1 0,.ptr 2 0,.ptr 0 0]) (q:=putIn key fresh.l gone.l) (h:=⟨[.cells [.d (fresh.d cells)],.cells [.d (gone.d u64C)],.cells [.fn idf []]],0⟩) fun e he bs lo hle ho=>by
  simp only [List.length_cons,List.length_nil] at hle ho
  refine S_vpc t1 v1 t11 v11 ts vs ta va ti vi hz hf hcon (fun x hx=>hid x (by rcases hx with rfl | hx; exact .inl he; exact .inr hx)) ?_ ?_ ?_
  · simp only [getB]; rw [ho 1 (by decide)]; rfl
  · simp only [getB]; rw [ho 2 (by decide)]; rfl
  · simp only [getB]; rw [ho 0 (by decide)]; rfl
 simp only [List.length_cons,List.length_nil] at k2 k3 k4
 have hkl:=List.length_filter_le (putIn key fresh.l gone.l) l.l
 obtain ⟨v2,bs2,f,a1,a2,a3⟩:=app_kept hz hz0 hb k4 fresh hf (by omega) k2
 have hb10:getB bs1 0 = some [.d (fresh.d cells)]:=by simp only [getB]; rw [k3 0 (by decide)]; rfl
 have hb2:getB bs2 2 = some [.fn idf []]:=by simp only [getB]; rw [a2 2 (by decide),k3 2 (by decide)]; rfl
 have hnur:=k4.nu
 have hPV:putV key l.l fresh.l gone.l = ((l.l.filter (putIn key fresh.l gone.l)) ++ fresh.l).mergeSort fun a b=>decide (key a <= key b):=rfl
 generalize putV key l.l fresh.l gone.l = PV at *
 generalize l.l.filter (putIn key fresh.l gone.l) = K at *
 rcases a3 with ⟨g1,g2,rfl⟩ | ⟨g1,B,cap,rest,g2,rfl,g3⟩
 · have hP0:PV = []:=by rw [hPV,g2,List.mergeSort_nil]
   have hsrt:=fun h=>hS0 (.d (.slice true [])) (.inl rfl) h
   refine ⟨true,fun _=>hP0,fun h=>?_⟩
   rw [Sm_v tid vid]
   simp [vputQ,Bd_mk,hfr,k1,hb10,hnur.1,hnur.2,a1,hsrt,hP0,hpf]
 · rcases Nat.eq_zero_or_pos (K ++ fresh.l).length with h0 | h0
   · have hKF:K ++ fresh.l = []:=List.eq_nil_of_length_eq_zero h0
     have hP0:PV = []:=by rw [hPV,hKF,List.mergeSort_nil]
     have hsrt:=fun h=>hS0 (.row B 0 0 cap z) (.inr ⟨B,cap,rfl⟩) h
     rw [h0] at a1
     rw [hKF] at g3
     have hdv:=fun lo2=>dataV_row (h:=⟨bs2,lo2⟩) (k:=7) (b:=B) (n:=0) (cap:=cap) (z:=z) (es:=[]) (rest:=rest) (by simp) rfl (by simpa using g3)
     refine ⟨false,(fun hh=>by cases hh),fun h=>?_⟩
     rw [Sm_v tid vid]
     simp [vputQ,Bd_mk,hfr,k1,hb10,hnur.1,hnur.2,a1,hsrt,hP0,hpf,hdv]
   · have hne:K ++ fresh.l ≠ []:=List.length_pos_iff.1 h0
     have hst:=fun lo2=>sortFE_at (g:=g) (idf:=idf) (p:=p) hz hkey (L:=K ++ fresh.l) hnd hne (by rw [List.length_append]; simp only [big] at hlf; omega) (h:=⟨bs2,lo2⟩) (b:=B) (c:=2) (cap:=cap) (rest:=rest) g3 hb2 (by omega)
     rw [← hPV] at hst
     have hsm:∀ lo2,Sm E T val srt [.row B 0 (K ++ fresh.l).length cap z,.fn g [.ptr 2 0]] ⟨bs2,lo2⟩ = some (.tup [],⟨bs2.set B (.cells (flat (PV.map cells) ++ rest)),min lo2 B⟩):=fun lo2=>by
      rw [hS h0]
      exact hst lo2
     have hbl:=getB_len g3
     have hpl:PV.length = (K ++ fresh.l).length:=by rw [hPV,List.length_mergeSort]
     have hwp:∀ e ∈ PV.map cells,e.length = z:=by simp; intro a _; exact hz a
     have hdv:=fun lo2=>dataV_row (h:=⟨bs2.set B (.cells (flat (PV.map cells) ++ rest)),lo2⟩) (k:=7) (b:=B) (n:=(K ++ fresh.l).length) (cap:=cap) (z:=z) (es:=PV.map cells) (rest:=rest) hwp (by simp [hpl]) (by simp [getB,hbl])
     generalize (K ++ fresh.l).length = N at *
     refine ⟨false,(fun hh=>by cases hh),fun h=>?_⟩
     rw [Sm_v tid vid]
     simp [vputQ,Bd_mk,hfr,k1,hb10,hnur.1,hnur.2,a1,hsm,hdv,hpf]
theorem S_apac {α:Type} {cells:α -> List D} {z c con idf:FuncId} {key:α -> Int} (ht:T c = some (apacQ z con)) (hv:val c = false) {x:α} (hx:(cells x).length = z) {gone:Sl Int} (hcon:∀ n h,Sm E T val con [.d (gone.d u64C),.d (u64 n)] h = some (bl (hasT gone.l n),h)) (hid:∀ h,Sm E T val idf [ag (cells x)] h = some (.d (u64 (key x)),h)) {p r:Nat} {h:Hp} (hr:getB h.bs r = some [.d (gone.d u64C)]) (hp:getB h.bs p = some [.fn idf []]) :
 Sm E T val c [ag (cells x),.ptr r 0,.ptr p 0] h = some (bl (hasT gone.l (key x)),h):=by
 have hsx:=sub_c hx
 rw [Sm_ref ht hv]
 simp [apacQ,Bd_mk,openA,opDE_call,noTr,apartT_mute,Tr.mute,getB_of hp,getB_of hr,hid,hsx,hcon,V.under]
def apartN {α:Type} (key:α -> Int) (gone:List Int) (most:Int) (l:List α):Bool:=(risesL gone && decide ((gone.length:Int) <= most)) && !l.any fun x=>hasT gone (key x)
theorem S_apar {α:Type} {cells:α -> List D} {z c con clo ris slf sm any idx idf:FuncId} {key:α -> Int} (ht:T c = some (aparQ ris slf clo sm)) (hv:val c = true) (tc:T clo = some (apacQ z con)) (vc:val clo = false) (ts:T sm = some (someQ any)) (vs:val sm = false) (ta:T any = some (anyQ idx)) (va:val any = false) (ti:T idx = some (idxQ z)) (vi:val idx = false)
 (hz:∀ x,(cells x).length = z) {gone:Sl Int} {most:Int} (hris:∀ h,Sm E T val ris [.d (gone.d u64C),.d (i64 most),.fn slf []] h = some (bl (risesL gone.l && decide ((gone.l.length:Int) <= most)),h)) (hcon:∀ n h,Sm E T val con [.d (gone.d u64C),.d (u64 n)] h = some (bl (hasT gone.l n),h))
 {l:Sl α} (hl:short l) (hid:∀ e ∈ l.l,∀ h,Sm E T val idf [ag (cells e)] h = some (.d (u64 (key e)),h)) (h:Hp) :
 Sm E T val c [.d (gone.d u64C),.d (i64 most),.d (l.d cells),.fn idf []] h = some (bl (apartN key gone.l most l.l),h):=by
 have hfr:frz h (.fn idf []) = some (.fn idf []):=rfl
 have hpf:pureV (.fn idf []) = true:=rfl
 have hsm:∀ lo,Sm E T val sm [.d (l.d cells),.fn clo [.ptr 0 0,.ptr 1 0]] ⟨[.cells [.d (gone.d u64C)],.cells [.fn idf []]],lo⟩ = some (bl (l.l.any fun x=>hasT gone.l (key x)),⟨[.cells [.d (gone.d u64C)],.cells [.fn idf []]],lo⟩):=fun lo =>
  S_some ts vs rfl rfl (S_any cells ti vi ta va (h:=⟨[.cells [.d (gone.d u64C)],.cells [.fn idf []]],2⟩) (RowIs.of hz _) hl.lt fun e he lo=>S_apac tc vc (hz e) hcon (hid e he) (by simp) (by simp))
 rw [Sm_v ht hv]
 unfold apartN
 cases hr:(risesL gone.l && decide ((gone.l.length:Int) <= most)) <;> simp [aparQ,Bd_mk,hfr,hris,hr,hsm,opsA_if,hpf]
theorem rsg_loopB {α:Type} {cells:α -> List D} {z:Nat} (hz:∀ x,(cells x).length = z) {s:Sl α} (hs:s.l.length < 2 ^ 62) {most:Int} {f:FuncId} {g:α -> Int} (hf:∀ e ∈ s.l,∀ h,Sm E T val f [ag (cells e)] h = some (.d (u64 (g e)),h)):∀ (m i:Nat),i + m = s.l.length -> 1 <= i →
 Cd E T val (.loop [0,1,2,9,10] (rsgB z)) [(0,.d (s.d cells)),(1,.d (i64 most)),(2,.fn f []),(9,.d (i64 s.l.length)),(10,.d (i64 i))] ⟨[],0⟩ =
  if risesL ((s.l.map g).drop (i - 1)) then some (.exit 0,[(0,.d (s.d cells)),(1,.d (i64 most))],⟨[],0⟩) else some (.ret,[(6,bl false)],⟨[],0⟩):=by
 intro m
 have key:=Cd_round (E:=E) (T:=T) (val:=val) [0,1,2,9,10] (rsgB z)
 generalize Cd E T val (.loop [0,1,2,9,10] (rsgB z)) = W at key ⊢
 induction m with
 | zero =>
  intro i hi h1
  rw [key,risesL_end (by simp; omega)]
  simp [rsgB,show ¬ ((i:Int) < s.l.length) from by omega]
 | succ m ih =>
  intro i hi h1
  have hlt:i < s.l.length:=by omega
  have hd:=risesL_drop (l:=s.l.map g) (i:=i - 1) (by simp; omega)
  have hs1:i - 1 + 1 = i:=by omega
  simp only [hs1,List.getElem_map] at hd
  have hp1:=fun h=>ix_data (cells:=cells) hz hlt (kd:=.i64) (h:=h)
  have hp0:=fun h=>ix_data (cells:=cells) hz (show i - 1 < s.l.length by omega) (kd:=.i64) (h:=h)
  have c1:=hf _ (List.getElem_mem hlt)
  have c0:=hf _ (List.getElem_mem (show i - 1 < s.l.length by omega))
  have hw:=int_next hlt hs
  have hwm:IntKind.wrap .i64 ((i:Int) - 1) = ((i - 1:Nat):Int):=by rw [wrap64] <;> omega
  have hpos:0 < i:=h1
  have hih:=ih (i + 1) (by omega) (by omega)
  simp only [show i + 1 - 1 = i by omega] at hih
  rw [key,hd]
  generalize s.l[i] = y at *
  generalize s.l[i - 1] = x at *
  have hsx:=sub_all (hz x)
  have hsy:=sub_all (hz y)
  by_cases hg:g x < g y
  · simp (decide:=true) [rsgB,hp1,hp0,hsx,hsy,hwm,hw,hpos,c0,c1,hlt,hg,openA,opDE_call,noTr,show ¬ (g x >= g y) from by omega]
    simpa using hih
  · simp (decide:=true) [rsgB,hp1,hp0,hsx,hsy,hwm,hw,hpos,c0,c1,hlt,hg,openA,opDE_call,noTr,show g x >= g y from by omega]
theorem S_rsgB {α:Type} {cells:α -> List D} {z:Nat} {id:FuncId} (ht:T id = some (rsgQ z)) (hv:val id = true) (hz:∀ x,(cells x).length = z) {s:Sl α} (hs:s.l.length < 2 ^ 62) {most:Int} {f:FuncId} {g:α -> Int} (hf:∀ e ∈ s.l,∀ h,Sm E T val f [ag (cells e)] h = some (.d (u64 (g e)),h)) (h:Hp) :
 Sm E T val id [.d (s.d cells),.d (i64 most),.fn f []] h = some (bl (risK g s.l most),h):=by
 rw [Sm_v ht hv]
 unfold risK
 have hfr:frz h (.fn f []) = some (.fn f []):=rfl
 have key:=Cd_round (E:=E) (T:=T) (val:=val) [0,1,2,9,10] (rsgB z)
 have hl:=rsg_loopB (E:=E) (T:=T) (val:=val) hz hs (most:=most) hf
 simp [Bd_mk,rsgQ,hfr]
 rw [Cd_keep]
 simp only [keepA_cons,keepA_nil]
 simp
 generalize Cd E T val (.loop [0,1,2,9,10] (rsgB z)) = W at key hl ⊢
 by_cases h0:s.l = []
 · rw [key]
   simp [rsgB,h0,risesL,pureV]
 · have hpos:0 < s.l.length:=List.length_pos_iff.2 h0
   have h1:=hl (s.l.length - 1) 1 (by omega) (by omega)
   simp at h1
   rw [key]
   have hw:=int_next hpos hs
   simp at hw
   simp (decide:=true) [rsgB,openA,noTr,hpos,hw,h1]
   cases risesL (s.l.map g) <;> simp [pureV]
end
end Go.Proofs.YtmnfjejphmmddaaGreat
namespace Go.Proofs.YtmnfjejphmmddaaGreat
structure Dlt where
 epoch:Int
 covers:Sl Int
 pods:Sl Pod
 services:Sl Svc
 bound:Sl Way
 policies:Sl Pol
 gonePods:Sl Int
 goneServices:Sl Int
 goneBound:Sl Int
 gonePolicies:Sl Int
def Dlt.c (x:Dlt):List D:=[u64 x.epoch,x.covers.d u32C,x.pods.d Pod.c,x.services.d Svc.c,x.bound.d Way.c,x.policies.d Pol.c,x.gonePods.d u64C,x.goneServices.d u64C,x.goneBound.d u64C,x.gonePolicies.d u64C]
abbrev Dlt.v (x:Dlt):V:=ag x.c
def Dlt.vw (x:Dlt):Vw:=⟨x.epoch,x.covers,x.pods,x.services,x.bound,x.policies⟩
abbrev Dlt.ok (x:Dlt):Prop:=x.vw.ok /\ short x.gonePods /\ short x.goneServices /\ short x.goneBound /\ short x.gonePolicies
structure Psh where
 life:Int
 inc:Int
 seq:Int
 upon:Int
 delta:Dlt
def Psh.c (x:Psh):List D:=u64 x.life :: u64 x.inc :: u64 x.seq :: u64 x.upon :: x.delta.c
structure Idx where
 node:Int
 inc:Int
 asked:Int
 addrs:Sl Int
 since:Int
 life:Int
 seq:Int
 view:Vw
 high:Int
def Idx.c (x:Idx):List D:=i64 x.node :: u64 x.inc :: u64 x.asked :: x.addrs.d u32C :: u64 x.since :: u64 x.life :: u64 x.seq :: (x.view.c ++ [u64 x.high])
abbrev Idx.v (x:Idx):V:=ag x.c
structure Ack where
 life:Int
 inc:Int
 seq:Int
 ok:Int
def Ack.c (x:Ack):List D:=[u64 x.life,u64 x.inc,u64 x.seq,i64 x.ok]
structure Sbs where
 inc:Int
 seq:Int
 addrs:Sl Int
def Sbs.c (x:Sbs):List D:=[u64 x.inc,u64 x.seq,x.addrs.d u32C]
def idx0:Idx:=⟨0,0,0,⟨true,[]⟩,0,0,0,vw0,0⟩
@[simp] theorem Ack.len {x:Ack}:x.c.length = 4:=(rfl)
@[simp] theorem Ack.all {x:Ack}:sub x.c 0 4 = some x.c:=(rfl)
@[simp] theorem Sbs.len {x:Sbs}:x.c.length = 3:=(rfl)
@[simp] theorem Sbs.all {x:Sbs}:sub x.c 0 3 = some x.c:=(rfl)
@[simp] theorem Dlt.len {x:Dlt}:x.c.length = 10:=(rfl)
@[simp] theorem Psh.len {x:Psh}:x.c.length = 14:=(rfl)
@[simp] theorem Idx.len {x:Idx}:x.c.length = 14:=(rfl)
@[simp] theorem Dlt.s0_10 {x:Dlt}:sub x.c 0 10 = some x.c:=(rfl)
@[simp] theorem Dlt.s0_1 {x:Dlt}:sub x.c 0 1 = some [u64 x.epoch]:=(rfl)
@[simp] theorem Dlt.s1_1 {x:Dlt}:sub x.c 1 1 = some [x.covers.d u32C]:=(rfl)
@[simp] theorem Dlt.s2_1 {x:Dlt}:sub x.c 2 1 = some [x.pods.d Pod.c]:=(rfl)
@[simp] theorem Dlt.s3_1 {x:Dlt}:sub x.c 3 1 = some [x.services.d Svc.c]:=(rfl)
@[simp] theorem Dlt.s4_1 {x:Dlt}:sub x.c 4 1 = some [x.bound.d Way.c]:=(rfl)
@[simp] theorem Dlt.s5_1 {x:Dlt}:sub x.c 5 1 = some [x.policies.d Pol.c]:=(rfl)
@[simp] theorem Dlt.s6_1 {x:Dlt}:sub x.c 6 1 = some [x.gonePods.d u64C]:=(rfl)
@[simp] theorem Dlt.s7_1 {x:Dlt}:sub x.c 7 1 = some [x.goneServices.d u64C]:=(rfl)
@[simp] theorem Dlt.s8_1 {x:Dlt}:sub x.c 8 1 = some [x.goneBound.d u64C]:=(rfl)
@[simp] theorem Dlt.s9_1 {x:Dlt}:sub x.c 9 1 = some [x.gonePolicies.d u64C]:=(rfl)
@[simp] theorem Psh.s0_14 {x:Psh}:sub x.c 0 14 = some x.c:=(rfl)
@[simp] theorem Psh.s0_1 {x:Psh}:sub x.c 0 1 = some [u64 x.life]:=(rfl)
@[simp] theorem Psh.s1_1 {x:Psh}:sub x.c 1 1 = some [u64 x.inc]:=(rfl)
@[simp] theorem Psh.s2_1 {x:Psh}:sub x.c 2 1 = some [u64 x.seq]:=(rfl)
@[simp] theorem Psh.s3_1 {x:Psh}:sub x.c 3 1 = some [u64 x.upon]:=(rfl)
@[simp] theorem Psh.s4_10 {x:Psh}:sub x.c 4 10 = some x.delta.c:=(rfl)
@[simp] theorem Psh.s4_1 {x:Psh}:sub x.c 4 1 = some [u64 x.delta.epoch]:=(rfl)
@[simp] theorem Idx.s0_14 {x:Idx}:sub x.c 0 14 = some x.c:=(rfl)
@[simp] theorem Idx.s0_1 {x:Idx}:sub x.c 0 1 = some [i64 x.node]:=(rfl)
@[simp] theorem Idx.s1_1 {x:Idx}:sub x.c 1 1 = some [u64 x.inc]:=(rfl)
@[simp] theorem Idx.s2_1 {x:Idx}:sub x.c 2 1 = some [u64 x.asked]:=(rfl)
@[simp] theorem Idx.s3_1 {x:Idx}:sub x.c 3 1 = some [x.addrs.d u32C]:=(rfl)
@[simp] theorem Idx.s4_1 {x:Idx}:sub x.c 4 1 = some [u64 x.since]:=(rfl)
@[simp] theorem Idx.s5_1 {x:Idx}:sub x.c 5 1 = some [u64 x.life]:=(rfl)
@[simp] theorem Idx.s6_1 {x:Idx}:sub x.c 6 1 = some [u64 x.seq]:=(rfl)
@[simp] theorem Idx.s7_6 {x:Idx}:sub x.c 7 6 = some x.view.c:=(rfl)
@[simp] theorem Idx.s7_1 {x:Idx}:sub x.c 7 1 = some [u64 x.view.epoch]:=(rfl)
@[simp] theorem Idx.s13_1 {x:Idx}:sub x.c 13 1 = some [u64 x.high]:=(rfl)
def svcIZ:List V:=[(.d (.int .u64 0)),(.d (.str ⟨#[]⟩)),(.d (.int .u32 0)),(.d (.int .i64 0)),(.d (.int .u64 0))]
def wayIZ:List V:=[(.d (.int .u64 0)),(.d (.int .i64 0))]
def tabB:List (Nat × QF):=[(155,q155),(163,q163),(135,q135),(106,q106),(186,q186),(187,q187),(188,q188)]
def TB:FuncId -> Option QF:=lookT tabB
def valB (f:FuncId):Bool:=[155,163,135,106,186,187].any fun n=>Nat.beq n f
theorem b155:TB 155 = some (q155):=by kernel_rfl
theorem d155:valB 155 = true:=by kernel_rfl
theorem b163:TB 163 = some (q163):=by kernel_rfl
theorem d163:valB 163 = true:=by kernel_rfl
theorem b135:TB 135 = some (cloneQ 1 4 [(.d (.int .u32 0))]):=by kernel_rfl
theorem d135:valB 135 = true:=by kernel_rfl
theorem b106:TB 106 = some (cloneQ 7 72 pod0V):=by kernel_rfl
theorem d106:valB 106 = true:=by kernel_rfl
theorem b186:TB 186 = some (cloneQ 5 48 svcIZ):=by kernel_rfl
theorem d186:valB 186 = true:=by kernel_rfl
theorem b187:TB 187 = some (cloneQ 2 16 wayIZ):=by kernel_rfl
theorem d187:valB 187 = true:=by kernel_rfl
theorem b188:TB 188 = some (cloneQ 5 64 pol0V):=by kernel_rfl
theorem d188:valB 188 = false:=by kernel_rfl
theorem b113:TB 113 = none:=by kernel_rfl
def tabI:List (Nat × QF):=[(3,q3),(15,q15),(17,q17),(18,q18),(19,q19),(79,q79),(80,q80),(82,q82),(164,q164),(76,q76),(77,q77),(125,q125),(81,q81),(173,q173),(174,q174),(175,q175),(176,q176),(165,q165),(167,q167),(169,q169),(171,q171),(268,q268),(274,q274),(278,q278),(282,q282),(270,q270),(275,q275),(279,q279),(283,q283),(264,q264),(265,q265),(266,q266),(267,q267),(345,q345),(346,q346),(347,q347),(348,q348),(343,q343),(344,q344),(269,q269),(349,q349),(75,q75),(162,q162),(132,q132),(143,q143),(255,q255),(261,q261),(239,q239),(245,q245),(340,q340),(292,q292),(100,q100),(103,q103),(109,q109),(339,q339),(253,q253),(254,q254),(256,q256),(262,q262),(257,q257),(258,q258),(259,q259),(260,q260),(166,q166),(168,q168),(170,q170),(172,q172),(138,q138),(141,q141),(145,q145),(148,q148),(105,q105),(243,q243),(246,q246),(248,q248),(106,q106),(186,q186),(187,q187),(188,q188),(242,q242),(244,q244),(247,q247),(249,q249),(135,q135),(154,q154),(250,q250),(251,q251),(177,q177),(286,q286),(287,q287),(355,q355),(356,q356),(357,q357),(358,q358),(359,q359),(360,q360),(420,q420),(421,q421),(422,q422)]
def TI:FuncId -> Option QF:=lookT tabI
def valI (f:FuncId):Bool:=[3,15,17,18,19,79,80,82,164,81,173,174,175,176,165,167,169,171,264,265,266,267,343,344,269,349,75,162,253,254,256,262,257,258,259,260,166,168,170,172,135,154,250,251,177,286,287,355,356,357,358,359,360,420,421,422].any fun n=>Nat.beq n f
theorem i3:TI 3 = some (q3):=by kernel_rfl
theorem j3:valI 3 = true:=by kernel_rfl
theorem i15:TI 15 = some (q15):=by kernel_rfl
theorem j15:valI 15 = true:=by kernel_rfl
theorem i17:TI 17 = some (q17):=by kernel_rfl
theorem j17:valI 17 = true:=by kernel_rfl
theorem i18:TI 18 = some (q18):=by kernel_rfl
theorem j18:valI 18 = true:=by kernel_rfl
theorem i19:TI 19 = some (q19):=by kernel_rfl
theorem j19:valI 19 = true:=by kernel_rfl
theorem i79:TI 79 = some (q79):=by kernel_rfl
theorem j79:valI 79 = true:=by kernel_rfl
theorem i80:TI 80 = some (q80):=by kernel_rfl
theorem j80:valI 80 = true:=by kernel_rfl
theorem i82:TI 82 = some (q82):=by kernel_rfl
theorem j82:valI 82 = true:=by kernel_rfl
theorem i164:TI 164 = some (q164):=by kernel_rfl
theorem j164:valI 164 = true:=by kernel_rfl
theorem i76:TI 76 = some (q76):=by kernel_rfl
theorem j76:valI 76 = false:=by kernel_rfl
theorem i77:TI 77 = some (q77):=by kernel_rfl
theorem j77:valI 77 = false:=by kernel_rfl
theorem i125:TI 125 = some (q125):=by kernel_rfl
theorem j125:valI 125 = false:=by kernel_rfl
theorem i81:TI 81 = some (eql1Q (.sc (.i .u32))):=by kernel_rfl
theorem j81:valI 81 = true:=by kernel_rfl
theorem i173:TI 173 = some (eqlQ 7 (.agg [(.i .u64),.s,.s,(.i .i64),(.i .u32),(.i .i64),(.i .u64)])):=by kernel_rfl
theorem j173:valI 173 = true:=by kernel_rfl
theorem i174:TI 174 = some (eqlQ 5 (.agg [(.i .u64),.s,(.i .u32),(.i .i64),(.i .u64)])):=by kernel_rfl
theorem j174:valI 174 = true:=by kernel_rfl
theorem i175:TI 175 = some (eqlQ 2 (.agg [(.i .u64),(.i .i64)])):=by kernel_rfl
theorem j175:valI 175 = true:=by kernel_rfl
theorem i176:TI 176 = some (eqfQ 5 [(.d (.int .u64 0)),(.d (.str ⟨#[]⟩)),(.d (.int .u64 0)),(.d (.int .i64 0)),(.d (.slice true []))]):=by kernel_rfl
theorem j176:valI 176 = true:=by kernel_rfl
theorem i165:TI 165 = some (vputQ 7 72 268 138 272 271):=by kernel_rfl
theorem j165:valI 165 = true:=by kernel_rfl
theorem i167:TI 167 = some (vputQ 5 48 274 141 277 276):=by kernel_rfl
theorem j167:valI 167 = true:=by kernel_rfl
theorem i169:TI 169 = some (vputQ 2 16 278 145 281 280):=by kernel_rfl
theorem j169:valI 169 = true:=by kernel_rfl
theorem i171:TI 171 = some (vputQ 5 64 282 148 285 284):=by kernel_rfl
theorem j171:valI 171 = true:=by kernel_rfl
theorem i268:TI 268 = some (vpcQ 7 269 270 143):=by kernel_rfl
theorem j268:valI 268 = false:=by kernel_rfl
theorem i274:TI 274 = some (vpcQ 5 269 275 132):=by kernel_rfl
theorem j274:valI 274 = false:=by kernel_rfl
theorem i278:TI 278 = some (vpcQ 2 269 279 255):=by kernel_rfl
theorem j278:valI 278 = false:=by kernel_rfl
theorem i282:TI 282 = some (vpcQ 5 269 283 261):=by kernel_rfl
theorem j282:valI 282 = false:=by kernel_rfl
theorem i270:TI 270 = some (vpeQ 7):=by kernel_rfl
theorem j270:valI 270 = false:=by kernel_rfl
theorem i275:TI 275 = some (vpeQ 5):=by kernel_rfl
theorem j275:valI 275 = false:=by kernel_rfl
theorem i279:TI 279 = some (vpeQ 2):=by kernel_rfl
theorem j279:valI 279 = false:=by kernel_rfl
theorem i283:TI 283 = some (vpeQ 5):=by kernel_rfl
theorem j283:valI 283 = false:=by kernel_rfl
theorem i264:TI 264 = some (aparQ 343 344 345 143):=by kernel_rfl
theorem j264:valI 264 = true:=by kernel_rfl
theorem i265:TI 265 = some (aparQ 343 344 346 132):=by kernel_rfl
theorem j265:valI 265 = true:=by kernel_rfl
theorem i266:TI 266 = some (aparQ 343 344 347 255):=by kernel_rfl
theorem j266:valI 266 = true:=by kernel_rfl
theorem i267:TI 267 = some (aparQ 343 344 348 261):=by kernel_rfl
theorem j267:valI 267 = true:=by kernel_rfl
theorem i345:TI 345 = some (apacQ 7 269):=by kernel_rfl
theorem j345:valI 345 = false:=by kernel_rfl
theorem i346:TI 346 = some (apacQ 5 269):=by kernel_rfl
theorem j346:valI 346 = false:=by kernel_rfl
theorem i347:TI 347 = some (apacQ 2 269):=by kernel_rfl
theorem j347:valI 347 = false:=by kernel_rfl
theorem i348:TI 348 = some (apacQ 5 269):=by kernel_rfl
theorem j348:valI 348 = false:=by kernel_rfl
theorem i343:TI 343 = some (q343):=by kernel_rfl
theorem j343:valI 343 = true:=by kernel_rfl
theorem i344:TI 344 = some (q344):=by kernel_rfl
theorem j344:valI 344 = true:=by kernel_rfl
theorem i269:TI 269 = some (q269):=by kernel_rfl
theorem j269:valI 269 = true:=by kernel_rfl
theorem i349:TI 349 = some (q349):=by kernel_rfl
theorem j349:valI 349 = true:=by kernel_rfl
theorem i75:TI 75 = some (q75):=by kernel_rfl
theorem j75:valI 75 = true:=by kernel_rfl
theorem i162:TI 162 = some (q162):=by kernel_rfl
theorem j162:valI 162 = true:=by kernel_rfl
theorem i132:TI 132 = some (someQ 239):=by kernel_rfl
theorem j132:valI 132 = false:=by kernel_rfl
theorem i143:TI 143 = some (someQ 245):=by kernel_rfl
theorem j143:valI 143 = false:=by kernel_rfl
theorem i255:TI 255 = some (someQ 340):=by kernel_rfl
theorem j255:valI 255 = false:=by kernel_rfl
theorem i261:TI 261 = some (someQ 292):=by kernel_rfl
theorem j261:valI 261 = false:=by kernel_rfl
theorem i239:TI 239 = some (anyQ 103):=by kernel_rfl
theorem j239:valI 239 = false:=by kernel_rfl
theorem i245:TI 245 = some (anyQ 100):=by kernel_rfl
theorem j245:valI 245 = false:=by kernel_rfl
theorem i340:TI 340 = some (anyQ 109):=by kernel_rfl
theorem j340:valI 340 = false:=by kernel_rfl
theorem i292:TI 292 = some (anyQ 339):=by kernel_rfl
theorem j292:valI 292 = false:=by kernel_rfl
theorem i100:TI 100 = some (idxQ 7):=by kernel_rfl
theorem j100:valI 100 = false:=by kernel_rfl
theorem i103:TI 103 = some (idxQ 5):=by kernel_rfl
theorem j103:valI 103 = false:=by kernel_rfl
theorem i109:TI 109 = some (idxQ 2):=by kernel_rfl
theorem j109:valI 109 = false:=by kernel_rfl
theorem i339:TI 339 = some (idxQ 5):=by kernel_rfl
theorem j339:valI 339 = false:=by kernel_rfl
theorem i253:TI 253 = some (q253):=by kernel_rfl
theorem j253:valI 253 = true:=by kernel_rfl
theorem i254:TI 254 = some (q254):=by kernel_rfl
theorem j254:valI 254 = true:=by kernel_rfl
theorem i256:TI 256 = some (q256):=by kernel_rfl
theorem j256:valI 256 = true:=by kernel_rfl
theorem i262:TI 262 = some (q262):=by kernel_rfl
theorem j262:valI 262 = true:=by kernel_rfl
theorem i257:TI 257 = some (rsgQ 7):=by kernel_rfl
theorem j257:valI 257 = true:=by kernel_rfl
theorem i258:TI 258 = some (rsgQ 5):=by kernel_rfl
theorem j258:valI 258 = true:=by kernel_rfl
theorem i259:TI 259 = some (rsgQ 2):=by kernel_rfl
theorem j259:valI 259 = true:=by kernel_rfl
theorem i260:TI 260 = some (rsgQ 5):=by kernel_rfl
theorem j260:valI 260 = true:=by kernel_rfl
theorem i166:TI 166 = some (q166):=by kernel_rfl
theorem j166:valI 166 = true:=by kernel_rfl
theorem i168:TI 168 = some (q168):=by kernel_rfl
theorem j168:valI 168 = true:=by kernel_rfl
theorem i170:TI 170 = some (q170):=by kernel_rfl
theorem j170:valI 170 = true:=by kernel_rfl
theorem i172:TI 172 = some (q172):=by kernel_rfl
theorem j172:valI 172 = true:=by kernel_rfl
theorem i138:TI 138 = some (keepQ 106 242 105):=by kernel_rfl
theorem j138:valI 138 = false:=by kernel_rfl
theorem i141:TI 141 = some (keepQ 186 244 243):=by kernel_rfl
theorem j141:valI 141 = false:=by kernel_rfl
theorem i145:TI 145 = some (keepQ 187 247 246):=by kernel_rfl
theorem j145:valI 145 = false:=by kernel_rfl
theorem i148:TI 148 = some (keepQ 188 249 248):=by kernel_rfl
theorem j148:valI 148 = false:=by kernel_rfl
theorem i105:TI 105 = some (delQ 7 100 pod0V):=by kernel_rfl
theorem j105:valI 105 = false:=by kernel_rfl
theorem i243:TI 243 = some (delQ 5 103 svcIZ):=by kernel_rfl
theorem j243:valI 243 = false:=by kernel_rfl
theorem i246:TI 246 = some (delQ 2 109 wayIZ):=by kernel_rfl
theorem j246:valI 246 = false:=by kernel_rfl
theorem i248:TI 248 = some (delQ 5 339 pol0V):=by kernel_rfl
theorem j248:valI 248 = false:=by kernel_rfl
theorem i106:TI 106 = some (cloneQ 7 72 pod0V):=by kernel_rfl
theorem j106:valI 106 = false:=by kernel_rfl
theorem i186:TI 186 = some (cloneQ 5 48 svcIZ):=by kernel_rfl
theorem j186:valI 186 = false:=by kernel_rfl
theorem i187:TI 187 = some (cloneQ 2 16 wayIZ):=by kernel_rfl
theorem j187:valI 187 = false:=by kernel_rfl
theorem i188:TI 188 = some (cloneQ 5 64 pol0V):=by kernel_rfl
theorem j188:valI 188 = false:=by kernel_rfl
theorem i242:TI 242 = some (notQ 7):=by kernel_rfl
theorem j242:valI 242 = false:=by kernel_rfl
theorem i244:TI 244 = some (notQ 5):=by kernel_rfl
theorem j244:valI 244 = false:=by kernel_rfl
theorem i247:TI 247 = some (notQ 2):=by kernel_rfl
theorem j247:valI 247 = false:=by kernel_rfl
theorem i249:TI 249 = some (notQ 5):=by kernel_rfl
theorem j249:valI 249 = false:=by kernel_rfl
theorem i135:TI 135 = some (cloneQ 1 4 [(.d (.int .u32 0))]):=by kernel_rfl
theorem j135:valI 135 = true:=by kernel_rfl
theorem i154:TI 154 = some (q154):=by kernel_rfl
theorem j154:valI 154 = true:=by kernel_rfl
theorem i250:TI 250 = some (q250):=by kernel_rfl
theorem j250:valI 250 = true:=by kernel_rfl
theorem i251:TI 251 = some (q251):=by kernel_rfl
theorem j251:valI 251 = true:=by kernel_rfl
theorem i177:TI 177 = some (q177):=by kernel_rfl
theorem j177:valI 177 = true:=by kernel_rfl
theorem i286:TI 286 = some (eqfQ 3 [(.d (.slice true [])),(.d (.slice true [])),(.d (.slice true []))]):=by kernel_rfl
theorem j286:valI 286 = true:=by kernel_rfl
theorem i287:TI 287 = some (q287):=by kernel_rfl
theorem j287:valI 287 = true:=by kernel_rfl
theorem i355:TI 355 = some (eqfQ 3 [(.d (.slice true [])),(.d (.slice true [])),(.d (.slice true []))]):=by kernel_rfl
theorem j355:valI 355 = true:=by kernel_rfl
theorem i356:TI 356 = some (q356):=by kernel_rfl
theorem j356:valI 356 = true:=by kernel_rfl
theorem i357:TI 357 = some (eqfQ 4 [(.d (.slice true [])),(.d (.slice true [])),(.d (.slice true [])),(.d (.slice true []))]):=by kernel_rfl
theorem j357:valI 357 = true:=by kernel_rfl
theorem i358:TI 358 = some (q358):=by kernel_rfl
theorem j358:valI 358 = true:=by kernel_rfl
theorem i359:TI 359 = some (eqfQ 2 [(.d (.str ⟨#[]⟩)),(.d (.slice true []))]):=by kernel_rfl
theorem j359:valI 359 = true:=by kernel_rfl
theorem i360:TI 360 = some (q360):=by kernel_rfl
theorem j360:valI 360 = true:=by kernel_rfl
theorem i420:TI 420 = some (eqlQ 2 (.agg [(.i .i64),.s])):=by kernel_rfl
theorem j420:valI 420 = true:=by kernel_rfl
theorem i421:TI 421 = some (eqlQ 2 (.agg [(.i .u32),(.i .i64)])):=by kernel_rfl
theorem j421:valI 421 = true:=by kernel_rfl
theorem i422:TI 422 = some (eql1Q (.sc (.i .i64))):=by kernel_rfl
theorem j422:valI 422 = true:=by kernel_rfl
theorem i155:TI 155 = none:=by kernel_rfl
theorem i163:TI 163 = none:=by kernel_rfl
theorem i117:TI 117 = none:=by kernel_rfl
theorem i263:TI 263 = none:=by kernel_rfl
theorem i271:TI 271 = none:=by kernel_rfl
theorem i276:TI 276 = none:=by kernel_rfl
theorem i280:TI 280 = none:=by kernel_rfl
theorem i284:TI 284 = none:=by kernel_rfl
theorem i16:TI 16 = none:=by kernel_rfl
theorem i70:TI 70 = none:=by kernel_rfl
end Go.Proofs.YtmnfjejphmmddaaGreat
namespace Go.Proofs.YtmnfjejphmmddaaGreat
section
variable {E:Calls'} {T:FuncId -> Option QF} {val:FuncId -> Bool}
theorem own_loop {l:List Pol} (hl:l.length < 2 ^ 62) (hf:∀ p ∈ l,∀ h,Sm E T val 113 [ag p.c] h = some (ag p.own.c,h)) {bs0:List Blk} {b:Nat} (hb0:b < bs0.length) {cap:Option Nat}:∀ (m i:Nat) (kept:List Pol) (bs:List Blk) (lo:Nat),i + m = l.length -> kept.length = i -> Thin Pol.c 5 l bs0 b kept bs →
 ∃ bs' lo',Cd E T val (.loop [0,7,8,9] q155_b0) [(0,.row b 0 l.length cap 5),(7,.row b 0 l.length cap 5),(8,.d (i64 l.length)),(9,.d (i64 i))] ⟨bs,lo⟩ = some (.exit 0,[(0,.row b 0 l.length cap 5)],⟨bs',lo'⟩) ∧
  Thin Pol.c 5 l bs0 b (kept ++ (l.drop i).map Pol.own) bs':=by
 intro m
 have key:=Cd_round (E:=E) (T:=T) (val:=val) [0,7,8,9] q155_b0
 generalize Cd E T val (.loop [0,7,8,9] q155_b0) = W at key ⊢
 induction m with
 | zero =>
  intro i kept bs lo hi hk ht
  have h0:l.drop i = []:=List.drop_eq_nil_of_le (by omega)
  refine ⟨bs,lo,?_,by simpa [h0] using ht⟩
  rw [key]
  simp [q155_b0,show ¬ ((i:Int) < l.length) from by omega]
 | succ m ih =>
  intro i kept bs lo hi hk ht
  have hlt:i < l.length:=by omega
  have hd:l.drop i = l[i] :: l.drop (i + 1):=List.drop_eq_getElem_cons hlt
  have hcz:∀ x:Pol,(Pol.c x).length = 5:=fun _=>rfl
  have hread:=ht.read hcz (j:=i) (by omega) hlt
  have hrow:=ht.row
  have hcall:=hf _ (List.getElem_mem hlt)
  generalize l[i] = x at *
  have hix:∀ bs lo,idxv none 5 (.row b 0 l.length cap 5) (.d (.int .i64 i)) ⟨bs,lo⟩ = some (.ptr b (i * 5),⟨bs,lo⟩):=by
   intro bs lo; simp only [idxv]; rw [if_pos ⟨by omega,by omega,trivial⟩]; simp
  have hw:=int_next hlt hl
  have hput:put pol0V 0 (x.c.map V.d) = some (x.c.map .d):=rfl
  have ht1:=ht.lay (.cells (x.c.map .d))
  obtain ⟨cs,hcs,ht2⟩:=ht1.keep hcz (e:=x.own) (by omega)
  rw [hk] at hcs
  have hrow1:=ht1.row
  rw [hk] at hrow hread hrow1
  have hset:∀ lo,Hp.set ⟨bs ++ [Blk.cells (x.c.map V.d)],lo⟩ b cs = ⟨(bs ++ [Blk.cells (x.c.map V.d)]).set b (Blk.cells cs),min lo b⟩:=fun _=>rfl
  obtain ⟨bs',lo',k1,k2⟩:=ih (i + 1) (kept ++ [x.own]) _ (min (min lo bs.length) b) (by omega) (by simp; omega) ht2
  refine ⟨bs',lo',?_,by simpa [hd] using k2⟩
  generalize hB:(bs ++ [Blk.cells (x.c.map .d)]).set b (Blk.cells cs) = B at *
  rw [key]
  simp [q155_b0,hix,ldv,hrow,hread,hput,hcall,hw,hrow1,hcs,hset,show ((i:Int) < l.length) from by omega]
  simpa using k1
end
section
variable {E:Calls'} (h113:∀ p:Pol,p.ok -> ∀ h,E 113 [ag p.c] h = some (ag p.own.c,h))
include h113
theorem B155 {s:Sl Pol} (hs:short s) (hf:∀ p ∈ s.l,p.ok) (h:Hp):Sm E TB valB 155 [.d (s.d Pol.c)] h = some (.d (Sl.d Pol.c ⟨s.nl,s.l.map Pol.own⟩),h):=by
 have m:∀ p ∈ s.l,∀ h,Sm E TB valB 113 [ag p.c] h = some (ag p.own.c,h):=fun p hp h=>by rw [Sm_ext b113]; exact h113 p (hf p hp) h
 obtain ⟨nl,l⟩:=s
 simp only at m hf
 have hlt:l.length < 2 ^ 62:=hs.lt
 rw [Sm_v b155 d155]
 have key:=Cd_round (E:=E) (T:=TB) (val:=valB) [0,7,8,9] q155_b0
 have hc:=S_cloneR (E:=E) (T:=TB) (val:=valB) b188 d188 (z:=5) (by decide) (by decide) (nl:=nl) (es:=l.map Pol.c) (by simp) (by simpa using hs.1) ⟨[],0⟩
 cases nl with
 | true =>
  have hl:=hs.2 rfl
  simp at hl
  subst hl
  simp [cloneR] at hc
  simp [Bd_mk,q155,Sl.d,hc]
  rw [Cd_keep]
  rw [key]
  simp [q155_b0]
 | false =>
  cases l with
  | nil =>
   simp [cloneR] at hc
   simp [Bd_mk,q155,Sl.d,hc]
   rw [Cd_keep]
   rw [key]
   have hdv:=dataV_row (h:=⟨[.cells []],0⟩) (k:=7) (b:=0) (n:=0) (cap:=some 0) (es:=[]) (z:=5) (rest:=[]) (by simp) rfl rfl
   simp [q155_b0,hdv]
  | cons p l =>
   simp only [List.map_cons,cloneR] at hc
   rw [← List.map_cons] at hc
   generalize hes:p :: l = es at *
   obtain ⟨bs',lo',k1,k2⟩:=own_loop (E:=E) (T:=TB) (val:=valB) (l:=es) hlt m (bs0:=[.cells [],.cells (flat (es.map Pol.c))]) (b:=1) (by simp) (cap:=none) es.length 0 [] [.cells [],.cells (flat (es.map Pol.c))] 0 (by omega) rfl (thin_start (by simp [getB]))
   have hel:l.length + 1 = es.length:=by rw [← hes]; rfl
   have hg:=thin_end (by simpa using k2) (by simp)
   have hdv:=dataV_row (h:=⟨bs',lo'⟩) (k:=7) (b:=1) (n:=es.length) (cap:=none) (es:=(es.map Pol.own).map Pol.c) (z:=5) (rest:=[]) (by simp) (by simp) (by simpa using hg)
   simp [hel] at hc k1
   simp at hdv
   simp [Bd_mk,q155,Sl.d,hc]
   rw [Cd_keep]
   simp [k1,hdv]
def Vw.own (v:Vw):Vw:={ v with policies:=⟨v.policies.nl,v.policies.l.map Pol.own⟩ }
theorem B163 (v:Vw) (hv:v.ok) (h:Hp):Sm E TB valB 163 [v.v] h = some (v.own.v,h):=by
 have n1:=fun h=>S_cloneV (E:=E) (T:=TB) (val:=valB) (cells:=u32C) b135 d135 (by decide) (by decide) (fun _=>rfl) hv.1 h
 have n2:=fun h=>S_cloneV (E:=E) (T:=TB) (val:=valB) (cells:=Pod.c) b106 d106 (by decide) (by decide) (fun _=>rfl) hv.2.1 h
 have n3:=fun h=>S_cloneV (E:=E) (T:=TB) (val:=valB) (cells:=Svc.c) b186 d186 (by decide) (by decide) (fun _=>rfl) hv.2.2.1 h
 have n4:=fun h=>S_cloneV (E:=E) (T:=TB) (val:=valB) (cells:=Way.c) b187 d187 (by decide) (by decide) (fun _=>rfl) hv.2.2.2.1 h
 have n5:=fun h=>B155 (E:=E) h113 hv.2.2.2.2.1 hv.2.2.2.2.2 h
 have e1:v.cfg.pods = v.pods:=rfl
 have e2:v.cfg.services = v.services:=rfl
 have e3:v.cfg.bound = v.bound:=rfl
 have e4:v.cfg.policies = v.policies:=rfl
 rw [e1] at n2
 rw [e2] at n3
 rw [e3] at n4
 rw [e4] at n5
 have p1:put (v.c.map V.d) 1 [.d (v.covers.d u32C)] = some (v.c.map .d):=rfl
 have p2:put (v.c.map V.d) 2 [.d (v.pods.d Pod.c)] = some (v.c.map .d):=rfl
 have p3:put (v.c.map V.d) 3 [.d (v.services.d Svc.c)] = some (v.c.map .d):=rfl
 have p4:put (v.c.map V.d) 4 [.d (v.bound.d Way.c)] = some (v.c.map .d):=rfl
 have p5:put (v.c.map V.d) 5 [.d (Sl.d Pol.c ⟨v.policies.nl,v.policies.l.map Pol.own⟩)] = some (v.own.c.map .d):=rfl
 have p6:∀ x:Vw,put [V.d (.int .u64 0),.d (.slice true []),.d (.slice true []),.d (.slice true []),.d (.slice true []),.d (.slice true [])] 0 (x.c.map V.d) = some (x.c.map V.d):=fun _=>rfl
 rw [Sm_v b163 d163]
 simp (decide:=true) [Bd_mk,q163,n1,n2,n3,n4,n5,p1,p2,p3,p4,p5,p6,openA,opDE_call,noTr]
end
section
variable {E:Calls'}
theorem I344 (a:Int) (h:Hp):Sm E TI valI 344 [.d (u64 a)] h = some (.d (u64 a),h):=by
 rw [Sm_v i344 j344]
 simp [Bd_mk,q344]
theorem ix_u64 {s:Sl Int} {i:Nat} (hi:i < s.l.length) {kd:IntKind} {h:Hp}:idxv none 1 (.d (s.d u64C)) (.d (.int kd i)) h = some (.eptr (u64C s.l[i]) 0,h) :=
 ix_data (cells:=u64C) (fun _=>rfl) hi
theorem L343 {s:Sl Int} (hs:s.l.length < 2 ^ 62) (most:Int):∀ (m i:Nat),i + m = s.l.length -> 1 <= i →
 Cd E TI valI (.loop [0,1,2,9,10] q343_b0) [(0,.d (s.d u64C)),(1,.d (i64 most)),(2,.fn 344 []),(9,.d (i64 s.l.length)),(10,.d (i64 i))] ⟨[],0⟩ =
  if risesL (s.l.drop (i - 1)) then some (.exit 0,[(0,.d (s.d u64C)),(1,.d (i64 most))],⟨[],0⟩) else some (.ret,[(6,bl false)],⟨[],0⟩):=by
 intro m
 have key:=Cd_round (E:=E) (T:=TI) (val:=valI) [0,1,2,9,10] q343_b0
 generalize Cd E TI valI (.loop [0,1,2,9,10] q343_b0) = W at key ⊢
 induction m with
 | zero =>
  intro i hi h1
  rw [key,risesL_end (by omega)]
  simp [q343_b0,show ¬ ((i:Int) < s.l.length) from by omega]
 | succ m ih =>
  intro i hi h1
  have hlt:i < s.l.length:=by omega
  have hd:=risesL_drop (l:=s.l) (i:=i - 1) (by omega)
  have hs1:i - 1 + 1 = i:=by omega
  simp only [hs1] at hd
  have hp1:=fun h=>ix_u64 hlt (kd:=.i64) (h:=h)
  have hp0:=fun h=>ix_u64 (show i - 1 < s.l.length by omega) (kd:=.i64) (h:=h)
  have c1:=I344 (E:=E)
  have hw:=int_next hlt hs
  have hwm:IntKind.wrap .i64 ((i:Int) - 1) = ((i - 1:Nat):Int):=by rw [wrap64] <;> omega
  have hpos:0 < i:=h1
  have hih:=ih (i + 1) (by omega) (by omega)
  simp only [show i + 1 - 1 = i by omega] at hih
  rw [key,hd]
  generalize s.l[i] = y at *
  generalize s.l[i - 1] = x at *
  by_cases hg:x < y
  · simp (decide:=true) [q343_b0,hp1,hp0,u64C,hwm,hw,hpos,c1,hlt,hg,openA,opDE_call,noTr,show ¬ (x >= y) from by omega]
    simpa using hih
  · simp (decide:=true) [q343_b0,hp1,hp0,u64C,hwm,hw,hpos,c1,hlt,hg,openA,opDE_call,noTr,show x >= y from by omega]
theorem I343 {s:Sl Int} (hs:s.l.length < 2 ^ 62) (most:Int) (h:Hp):Sm E TI valI 343 [.d (s.d u64C),.d (i64 most),.fn 344 []] h = some (bl (risesL s.l && decide ((s.l.length:Int) <= most)),h):=by
 rw [Sm_v i343 j343]
 have hfr:frz h (.fn 344 []) = some (.fn 344 []):=rfl
 have key:=Cd_round (E:=E) (T:=TI) (val:=valI) [0,1,2,9,10] q343_b0
 have hl:=L343 (E:=E) hs most
 simp [Bd_mk,q343,hfr]
 rw [Cd_keep]
 simp only [keepA_cons,keepA_nil]
 simp
 generalize Cd E TI valI (.loop [0,1,2,9,10] q343_b0) = W at key hl ⊢
 by_cases h0:s.l = []
 · rw [key]
   simp [q343_b0,h0,risesL,pureV]
 · have hpos:0 < s.l.length:=List.length_pos_iff.2 h0
   have h1:=hl (s.l.length - 1) 1 (by omega) (by omega)
   simp at h1
   rw [key]
   have hw:=int_next hpos hs
   simp at hw
   simp (decide:=true) [q343_b0,openA,noTr,hpos,hw,h1]
   cases risesL s.l <;> simp [pureV]
theorem L349 {s:Sl Int} (hs:short s) (n:Int) (h:Hp):∀ (m i:Nat),i + m = s.l.length →
 Cd E TI valI (.loop [0,1,7,8] q349_b0) [(0,.d (s.d u64C)),(1,.d (u64 n)),(7,.d (i64 s.l.length)),(8,.d (i64 i))] h =
  match (s.l.drop i).findIdx? (fun x=>x == n) with
  | some k=>some (.ret,[(4,.d (i64 (i + k:Nat)))],h)
  | none=>some (.exit 0,[],h):=by
 have hlt:=hs.lt
 intro m
 have key:=Cd_round (E:=E) (T:=TI) (val:=valI) [0,1,7,8] q349_b0
 generalize Cd E TI valI (.loop [0,1,7,8] q349_b0) = W at key ⊢
 induction m with
 | zero =>
  intro i hi
  have h0:s.l.drop i = []:=List.drop_eq_nil_of_le (by omega)
  rw [key]
  simp [q349_b0,h0,show ¬ ((i:Int) < s.l.length) from by omega]
 | succ m ih =>
  intro i hi
  have h1:i < s.l.length:=by omega
  have hx:=fun h=>idxv_sl (z:=1) h (List.getElem?_eq_getElem h1) (cells:=u64C) rfl
  have hw:=int_next h1 hlt
  have:=ih (i + 1) (by omega)
  rw [key,List.drop_eq_getElem_cons h1]
  generalize s.l[i] = x at *
  by_cases hq:x = n
  · simp [q349_b0,hx,hq,u64C,List.findIdx?_cons,show ((i:Int) < s.l.length) from by omega]
  · have hq':(x == n) = false:=by simpa using hq
    have hq2:¬ n = x:=fun h=>hq h.symm
    simp [q349_b0,hx,hq',hq,hq2,u64C,hw,List.findIdx?_cons,show ((i:Int) < s.l.length) from by omega]
    rw [show ((i:Int) + 1) = ((i + 1:Nat):Int) from by omega,this]
    cases hfi:(s.l.drop (i + 1)).findIdx? (fun p=>p == n) with
    | none=>rfl
    | some k=>simp; omega
theorem I349 {s:Sl Int} (hs:short s) (n:Int) (h:Hp):Sm E TI valI 349 [.d (s.d u64C),.d (u64 n)] h = some (.d (i64 (idxI s.l fun x=>x == n)),h):=by
 rw [Sm_v i349 j349]
 have k1:=fun h=>L349 (E:=E) hs n h s.l.length 0 (by omega)
 simp at k1
 simp [Bd_mk,q349]
 rw [Cd_keep]
 simp [k1,idxI]
 cases s.l.findIdx? (fun x=>x == n) with
 | none=>simp
 | some k=>simp
theorem I269 {s:Sl Int} (hs:short s) (n:Int) (h:Hp):Sm E TI valI 269 [.d (s.d u64C),.d (u64 n)] h = some (bl (hasT s.l n),h):=by
 rw [Sm_v i269 j269]
 rcases idx_cases s.l (fun x=>x == n) with ⟨g1,g2⟩ | ⟨k,p,g1,g2,g3⟩
 · simp [Bd_mk,q269,I349 hs,g2,hasT,g1]
 · simp [Bd_mk,q269,I349 hs,g2,hasT,g1]
theorem I166 (p:Pod) (h:Hp):Sm E TI valI 166 [ag p.c] h = some (.d (u64 p.uid),h):=by rw [Sm_v i166 j166]; simp [Bd_mk,q166]
theorem I168 (p:Svc) (h:Hp):Sm E TI valI 168 [ag p.c] h = some (.d (u64 p.id),h):=by rw [Sm_v i168 j168]; simp [Bd_mk,q168]
theorem I170 (p:Way) (h:Hp):Sm E TI valI 170 [ag p.c] h = some (.d (u64 p.id),h):=by rw [Sm_v i170 j170]; simp [Bd_mk,q170]
theorem I172 (p:Pol) (h:Hp):Sm E TI valI 172 [ag p.c] h = some (.d (u64 p.id),h):=by rw [Sm_v i172 j172]; simp [Bd_mk,q172]
theorem I253 (p:Pod) (h:Hp):Sm E TI valI 253 [ag p.c] h = some (bl (vpodBad p),h):=by
 rw [Sm_v i253 j253]
 unfold vpodBad
 by_cases a1:(p.ns.size:Int) > 64
 case pos=>simp (decide:=true) [Bd_mk,q253,a1]
 by_cases a2:(p.sa.size:Int) > 64
 case pos=>simp (decide:=true) [Bd_mk,q253,a1,a2]
 by_cases a3:p.host < 0
 case pos=>simp (decide:=true) [Bd_mk,q253,a1,a2,a3]
 by_cases a4:p.host > 9
 case pos=>simp (decide:=true) [Bd_mk,q253,a1,a2,a3,a4]
 by_cases a5:p.port < 0
 case pos=>simp (decide:=true) [Bd_mk,q253,a1,a2,a3,a4,a5]
 simp (decide:=true) [Bd_mk,q253,a1,a2,a3,a4,a5]
theorem I254 (p:Svc) (h:Hp):Sm E TI valI 254 [ag p.c] h = some (bl (vsvcBad p),h):=by
 rw [Sm_v i254 j254]
 unfold vsvcBad
 by_cases a1:(p.ns.size:Int) > 64
 case pos=>simp (decide:=true) [Bd_mk,q254,a1]
 by_cases a2:p.port < 0
 case pos=>simp (decide:=true) [Bd_mk,q254,a1,a2]
 simp (decide:=true) [Bd_mk,q254,a1,a2]
theorem I256 (p:Way) (h:Hp):Sm E TI valI 256 [ag p.c] h = some (bl (vwayBad p),h):=by
 rw [Sm_v i256 j256]
 unfold vwayBad
 by_cases a1:p.node < 0
 case pos=>simp (decide:=true) [Bd_mk,q256,a1]
 simp (decide:=true) [Bd_mk,q256,a1]
theorem I420 (s t:Sl Term) (hs:short s) (h:Hp):Sm E TI valI 420 [.d (s.d Term.c),.d (t.d Term.c)] h = some (bl (all2 Term.eqB s.l t.l),h) :=
 S_eql (z:=2) (fun _=>rfl) (by decide) i420 j420 hs.lt (fun x y h=>eqv_term) h
theorem I421 (s t:Sl Cidr) (hs:short s) (h:Hp):Sm E TI valI 421 [.d (s.d Cidr.c),.d (t.d Cidr.c)] h = some (bl (all2 Cidr.eqB s.l t.l),h) :=
 S_eql (z:=2) (fun _=>rfl) (by decide) i421 j421 hs.lt (fun x y h=>eqv_cidr) h
theorem I422 (s t:Sl Int) (hs:short s) (h:Hp):Sm E TI valI 422 [.d (s.d intC),.d (t.d intC)] h = some (bl (all2 (fun x y:Int=>x == y) s.l t.l),h) :=
 S_eql1 (cell:=fun n=>i64 n) i422 j422 hs.lt (fun x y h=>eqv_i) h
theorem I356 (a b:Source) (ha:a.fits big) (h:Hp):Sm E TI valI 356 [ag a.c,ag b.c] h = some (bl (a.same b),h):=by
 have n1:=fun h=>I420 (E:=E) a.names b.names ha.1 h
 have n2:=fun h=>I420 (E:=E) a.spaces b.spaces ha.2.1 h
 have n3:=fun h=>I421 (E:=E) a.nets b.nets ha.2.2 h
 rw [Sm_v i356 j356]
 unfold Source.same
 generalize all2 Term.eqB a.names.l b.names.l = A1 at *
 generalize all2 Term.eqB a.spaces.l b.spaces.l = A2 at *
 generalize all2 Cidr.eqB a.nets.l b.nets.l = A3 at *
 cases A1 <;> cases A2 <;> simp (decide:=true) [Bd_mk,q356,n1,n2,n3,openA,opDE_call,noTr,opsA_if]
theorem I358 (a b:Target) (ha:a.fits big) (h:Hp):Sm E TI valI 358 [ag a.c,ag b.c] h = some (bl (a.same b),h):=by
 have n0:=fun h=>I422 (E:=E) a.ports b.ports ha.1 h
 have n1:=fun h=>I420 (E:=E) a.methods b.methods ha.2.1 h
 have n2:=fun h=>I420 (E:=E) a.paths b.paths ha.2.2.1 h
 have n3:=fun h=>I420 (E:=E) a.hosts b.hosts ha.2.2.2 h
 rw [Sm_v i358 j358]
 unfold Target.same
 generalize all2 (fun x y:Int=>x == y) a.ports.l b.ports.l = A0 at *
 generalize all2 Term.eqB a.methods.l b.methods.l = A1 at *
 generalize all2 Term.eqB a.paths.l b.paths.l = A2 at *
 generalize all2 Term.eqB a.hosts.l b.hosts.l = A3 at *
 cases A0 <;> cases A1 <;> cases A2 <;> simp (decide:=true) [Bd_mk,q358,n0,n1,n2,n3,openA,opDE_call,noTr,opsA_if]
theorem I360 (a b:When) (ha:a.fits big) (h:Hp):Sm E TI valI 360 [ag a.c,ag b.c] h = some (bl (a.same b),h):=by
 have n1:=fun h=>I420 (E:=E) a.terms b.terms ha h
 rw [Sm_v i360 j360]
 unfold When.same
 generalize all2 Term.eqB a.terms.l b.terms.l = A1 at *
 cases e1:eqS a.head b.head <;> simp (decide:=true) [Bd_mk,q360,n1,e1,openA,opDE_call,noTr,opsA_if]
theorem I287 (a b:Rule) (ha:a.fits big) (h:Hp):Sm E TI valI 287 [ag a.c,ag b.c] h = some (bl (a.same b),h):=by
 have n1:=fun h=>S_eqf (E:=E) (T:=TI) (val:=valI) (cells:=Source.c) (z:=3) (fun _=>rfl) (by decide) rfl (f:=356) (p:=Source.same) i355 j355 (s:=a.frm) (t:=b.frm) ha.1.1.lt (fun x hx y _ h=>I356 x y (ha.1.2 x hx) h) h
 have n2:=fun h=>S_eqf (E:=E) (T:=TI) (val:=valI) (cells:=Target.c) (z:=4) (fun _=>rfl) (by decide) rfl (f:=358) (p:=Target.same) i357 j357 (s:=a.to) (t:=b.to) ha.2.1.1.lt (fun x hx y _ h=>I358 x y (ha.2.1.2 x hx) h) h
 have n3:=fun h=>S_eqf (E:=E) (T:=TI) (val:=valI) (cells:=When.c) (z:=2) (fun _=>rfl) (by decide) rfl (f:=360) (p:=When.same) i359 j359 (s:=a.whn) (t:=b.whn) ha.2.2.1.lt (fun x hx y _ h=>I360 x y (ha.2.2.2 x hx) h) h
 rw [Sm_v i287 j287]
 unfold Rule.same
 generalize all2 Source.same a.frm.l b.frm.l = A1 at *
 generalize all2 Target.same a.to.l b.to.l = A2 at *
 generalize all2 When.same a.whn.l b.whn.l = A3 at *
 cases A1 <;> cases A2 <;> simp (decide:=true) [Bd_mk,q287,n1,n2,n3,openA,opDE_call,noTr,opsA_if]
theorem I177 (a b:Pol) (ha:a.fits big) (h:Hp):Sm E TI valI 177 [ag a.c,ag b.c] h = some (bl (a.same b),h):=by
 have n1:=fun h=>S_eqf (E:=E) (T:=TI) (val:=valI) (cells:=Rule.c) (z:=3) (fun _=>rfl) (by decide) rfl (f:=287) (p:=Rule.same) i286 j286 (s:=a.rules) (t:=b.rules) ha.1.lt (fun x hx y _ h=>I287 x y (ha.2 x hx) h) h
 rw [Sm_v i177 j177]
 unfold Pol.same
 generalize all2 Rule.same a.rules.l b.rules.l = A1 at *
 cases e1:(a.id == b.id)
 case false=>simp (decide:=true) [Bd_mk,q177,n1,e1,openA,opDE_call,noTr,opsA_if]
 cases e2:eqS a.ns b.ns
 case false=>simp (decide:=true) [Bd_mk,q177,n1,e1,e2,openA,opDE_call,noTr,opsA_if]
 cases e3:(a.service == b.service)
 case false=>simp (decide:=true) [Bd_mk,q177,n1,e1,e2,e3,openA,opDE_call,noTr,opsA_if]
 cases e4:(a.deny == b.deny) <;> simp (decide:=true) [Bd_mk,q177,n1,e1,e2,e3,e4,openA,opDE_call,noTr,opsA_if]
theorem I251 (a:Int) (h:Hp):Sm E TI valI 251 [.d (u32 a)] h = some (.d (u32 a),h):=by
 rw [Sm_v i251 j251]
 simp [Bd_mk,q251]
theorem LI250 {s:Sl Int} (hs:s.l.length < 2 ^ 62) (most:Int):∀ (m i:Nat),i + m = s.l.length -> 1 <= i →
 Cd E TI valI (.loop [0,1,2,9,10] q250_b0) [(0,.d (s.d u32C)),(1,.d (i64 most)),(2,.fn 251 []),(9,.d (i64 s.l.length)),(10,.d (i64 i))] ⟨[],0⟩ =
  if risesL (s.l.drop (i - 1)) then some (.exit 0,[(0,.d (s.d u32C)),(1,.d (i64 most))],⟨[],0⟩) else some (.ret,[(6,bl false)],⟨[],0⟩):=by
 intro m
 have key:=Cd_round (E:=E) (T:=TI) (val:=valI) [0,1,2,9,10] q250_b0
 generalize Cd E TI valI (.loop [0,1,2,9,10] q250_b0) = W at key ⊢
 induction m with
 | zero =>
  intro i hi h1
  rw [key,risesL_end (by omega)]
  simp [q250_b0,show ¬ ((i:Int) < s.l.length) from by omega]
 | succ m ih =>
  intro i hi h1
  have hlt:i < s.l.length:=by omega
  have hd:=risesL_drop (l:=s.l) (i:=i - 1) (by omega)
  have hs1:i - 1 + 1 = i:=by omega
  simp only [hs1] at hd
  have hp1:=fun h=>ix_u32 hlt (kd:=.i64) (h:=h)
  have hp0:=fun h=>ix_u32 (show i - 1 < s.l.length by omega) (kd:=.i64) (h:=h)
  have c1:=I251 (E:=E)
  have hw:=int_next hlt hs
  have hwm:IntKind.wrap .i64 ((i:Int) - 1) = ((i - 1:Nat):Int):=by rw [wrap64] <;> omega
  have hpos:0 < i:=h1
  have hih:=ih (i + 1) (by omega) (by omega)
  simp only [show i + 1 - 1 = i by omega] at hih
  rw [key,hd]
  generalize s.l[i] = y at *
  generalize s.l[i - 1] = x at *
  by_cases hg:x < y
  · simp (decide:=true) [q250_b0,hp1,hp0,u32C,hwm,hw,hpos,c1,hlt,hg,openA,opDE_call,noTr,show ¬ (x >= y) from by omega]
    simpa using hih
  · simp (decide:=true) [q250_b0,hp1,hp0,u32C,hwm,hw,hpos,c1,hlt,hg,openA,opDE_call,noTr,show x >= y from by omega]
theorem I250 {s:Sl Int} (hs:s.l.length < 2 ^ 62) (most:Int) (h:Hp):Sm E TI valI 250 [.d (s.d u32C),.d (i64 most),.fn 251 []] h = some (bl (risesL s.l && decide ((s.l.length:Int) <= most)),h):=by
 rw [Sm_v i250 j250]
 have hfr:frz h (.fn 251 []) = some (.fn 251 []):=rfl
 have key:=Cd_round (E:=E) (T:=TI) (val:=valI) [0,1,2,9,10] q250_b0
 have hl:=LI250 (E:=E) hs most
 simp [Bd_mk,q250,hfr]
 rw [Cd_keep]
 simp only [keepA_cons,keepA_nil]
 simp
 generalize Cd E TI valI (.loop [0,1,2,9,10] q250_b0) = W at key hl ⊢
 by_cases h0:s.l = []
 · rw [key]
   simp [q250_b0,h0,risesL,pureV]
 · have hpos:0 < s.l.length:=List.length_pos_iff.2 h0
   have h1:=hl (s.l.length - 1) 1 (by omega) (by omega)
   simp at h1
   rw [key]
   have hw:=int_next hpos hs
   simp at hw
   simp (decide:=true) [q250_b0,openA,noTr,hpos,hw,h1]
   cases risesL s.l <;> simp [pureV]
variable (h117:∀ s:Sl Int,short s -> ∀ n h,E 117 [.d (s.d u32C),.d (u32 n)] h = some (bl (hasT s.l n),h))
include h117 in
theorem I154 {s:Sl Int} (hs:short s) (most:Int) (h:Hp):Sm E TI valI 154 [.d (s.d u32C),.d (i64 most)] h = some (bl (coversT s.l most),h):=by
 have m:∀ h,Sm E TI valI 117 [.d (s.d u32C),.d (u32 0)] h = some (bl (hasT s.l 0),h):=fun h=>by rw [Sm_ext i117]; exact h117 _ hs 0 h
 rw [Sm_v i154 j154]
 cases e:(risesL s.l && decide ((s.l.length:Int) <= most)) <;> simp (decide:=true) [Bd_mk,q154,I250 hs.lt most,m,e,coversT,openA,opDE_call,noTr,opsA_if]
variable (h263:∀ p:Pol,p.wf big -> ∀ h,E 263 [ag p.c] h = some (bl (polMay p),h))
include h263 in
theorem I262 (p:Pol) (hw:p.wf big) (h:Hp):Sm E TI valI 262 [ag p.c] h = some (bl (!polMay p),h):=by
 have m:∀ h,Sm E TI valI 263 [ag p.c] h = some (bl (polMay p),h):=fun h=>by rw [Sm_ext i263]; exact h263 p hw h
 rw [Sm_v i262 j262]
 simp (decide:=true) [Bd_mk,q262,m]
include h117 h263 in
theorem I162 (v:Vw) (hv:v.ok) (hw:∀ p ∈ v.policies.l,p.wf big) (h:Hp):Sm E TI valI 162 [.d (u64 v.epoch),.d (v.covers.d u32C),.d (v.pods.d Pod.c),.d (v.services.d Svc.c),.d (v.bound.d Way.c),.d (v.policies.d Pol.c)] h = some (bl (vwMay v),h):=by
 have k1:∀ h,Sm E TI valI 154 [.d (v.covers.d u32C),.d (i64 38)] h = some (bl (coversT v.covers.l 38),h):=fun h=>I154 h117 hv.1 38 h
 have a1:∀ h,Sm E TI valI 143 [.d (v.pods.d Pod.c),.fn 253 []] h = some (bl (v.pods.l.any vpodBad),h):=fun h =>
  S_some i143 j143 rfl rfl (S_any Pod.c (z:=7) i100 j100 i245 j245 (RowIs.of (cells:=Pod.c) (fun _=>rfl) _) hv.2.1.lt fun e he lo=>I253 e _)
 have a2:∀ h,Sm E TI valI 132 [.d (v.services.d Svc.c),.fn 254 []] h = some (bl (v.services.l.any vsvcBad),h):=fun h =>
  S_some i132 j132 rfl rfl (S_any Svc.c (z:=5) i103 j103 i239 j239 (RowIs.of (cells:=Svc.c) (fun _=>rfl) _) hv.2.2.1.lt fun e he lo=>I254 e _)
 have a3:∀ h,Sm E TI valI 255 [.d (v.bound.d Way.c),.fn 256 []] h = some (bl (v.bound.l.any vwayBad),h):=fun h =>
  S_some i255 j255 rfl rfl (S_any Way.c (z:=2) i109 j109 i340 j340 (RowIs.of (cells:=Way.c) (fun _=>rfl) _) hv.2.2.2.1.lt fun e he lo=>I256 e _)
 have a4:∀ h,Sm E TI valI 261 [.d (v.policies.d Pol.c),.fn 262 []] h = some (bl (v.policies.l.any fun p=>!polMay p),h):=fun h =>
  S_some i261 j261 rfl rfl (S_any Pol.c (z:=5) i339 j339 i292 j292 (RowIs.of (cells:=Pol.c) (fun _=>rfl) _) hv.2.2.2.2.1.lt fun e he lo=>I262 h263 e (hw e he) _)
 have b1:=fun h=>S_rsgB (E:=E) i257 j257 (s:=v.pods) (cells:=Pod.c) (most:=16) (fun _=>rfl) hv.2.1.lt (fun e _ h=>I166 e h) h
 have b2:=fun h=>S_rsgB (E:=E) i258 j258 (s:=v.services) (cells:=Svc.c) (most:=6) (fun _=>rfl) hv.2.2.1.lt (fun e _ h=>I168 e h) h
 have b3:=fun h=>S_rsgB (E:=E) i259 j259 (s:=v.bound) (cells:=Way.c) (most:=4) (fun _=>rfl) hv.2.2.2.1.lt (fun e _ h=>I170 e h) h
 have b4:=fun h=>S_rsgB (E:=E) i260 j260 (s:=v.policies) (cells:=Pol.c) (most:=12) (fun _=>rfl) hv.2.2.2.2.1.lt (fun e _ h=>I172 e h) h
 unfold vwMay thingsT oddT
 generalize coversT v.covers.l 38 = C at *
 generalize v.pods.l.any vpodBad = A1 at *
 generalize v.services.l.any vsvcBad = A2 at *
 generalize v.bound.l.any vwayBad = A3 at *
 generalize (v.policies.l.any fun p=>!polMay p) = A4 at *
 generalize risK Pod.uid v.pods.l 16 = B1 at *
 generalize risK Svc.id v.services.l 6 = B2 at *
 generalize risK Way.id v.bound.l 4 = B3 at *
 generalize risK Pol.id v.policies.l 12 = B4 at *
 rw [Sm_v i162 j162]
 have hodd:∃ o,(A1 || (A2 || A3)) = o:=⟨_,rfl⟩
 obtain ⟨o,ho⟩:=hodd
 by_cases m1:v.epoch <= 4611686018427387903
 · cases A1 <;> cases A2 <;> cases A3 <;> simp at ho <;> subst ho <;> first
    | (cases C <;> simp (decide:=true) [Bd_mk,q162,a1,a2,a3,a4,k1,m1]; done)
    | (cases B1
       case false=>cases C <;> simp (decide:=true) [Bd_mk,q162,a1,a2,a3,a4,b1,k1,m1]
       cases B2
       case false=>cases C <;> simp (decide:=true) [Bd_mk,q162,a1,a2,a3,a4,b1,b2,k1,m1]
       cases B3
       case false=>cases C <;> simp (decide:=true) [Bd_mk,q162,a1,a2,a3,a4,b1,b2,b3,k1,m1]
       cases B4 <;> cases C <;> simp (decide:=true) [Bd_mk,q162,a1,a2,a3,a4,b1,b2,b3,b4,k1,m1])
 · cases A1 <;> cases A2 <;> cases A3 <;> first
    | (simp (decide:=true) [Bd_mk,q162,a1,a2,a3,a4,m1]; done)
    | (cases B1
       case false=>simp (decide:=true) [Bd_mk,q162,a1,a2,a3,a4,b1,m1]
       cases B2
       case false=>simp (decide:=true) [Bd_mk,q162,a1,a2,a3,a4,b1,b2,m1]
       cases B3
       case false=>simp (decide:=true) [Bd_mk,q162,a1,a2,a3,a4,b1,b2,b3,m1]
       simp (decide:=true) [Bd_mk,q162,a1,a2,a3,a4,b1,b2,b3,b4,m1])
include h117 h263 in
theorem I75 (v:Vw) (hv:v.ok) (hw:∀ p ∈ v.policies.l,p.wf big) (h:Hp):Sm E TI valI 75 [v.v] h = some (bl (vwMay v),h):=by
 have k2:=fun h=>I162 h117 h263 v hv hw h
 rw [Sm_v i75 j75]
 simp (decide:=true) [Bd_mk,q75,k2]
def dltMay (d:Dlt):Bool:=(apartN Pod.uid d.gonePods.l 16 d.pods.l && (apartN Svc.id d.goneServices.l 6 d.services.l && (apartN Way.id d.goneBound.l 4 d.bound.l && apartN Pol.id d.gonePolicies.l 12 d.policies.l))) && vwMay d.vw
include h117 h263 in
theorem I164 (d:Dlt) (hd:d.ok) (hw:∀ p ∈ d.policies.l,p.wf big) (h:Hp):Sm E TI valI 164 [d.v] h = some (bl (dltMay d),h):=by
 have k2:=fun h=>I162 h117 h263 d.vw hd.1 hw h
 obtain ⟨hv,g1,g2,g3,g4⟩:=hd
 have c1:=fun n h=>I269 (E:=E) g1 n h
 have c2:=fun n h=>I269 (E:=E) g2 n h
 have c3:=fun n h=>I269 (E:=E) g3 n h
 have c4:=fun n h=>I269 (E:=E) g4 n h
 have n1:=fun h=>S_apar (E:=E) (T:=TI) (val:=valI) (cells:=Pod.c) (z:=7) (key:=Pod.uid) (idf:=166) i264 j264 i345 j345 i143 j143 i245 j245 i100 j100 (fun _=>rfl) (gone:=d.gonePods) (most:=16) (fun h=>I343 g1.lt 16 h) c1 (l:=d.pods) hv.2.1 (fun e _ h=>I166 e h) h
 have n2:=fun h=>S_apar (E:=E) (T:=TI) (val:=valI) (cells:=Svc.c) (z:=5) (key:=Svc.id) (idf:=168) i265 j265 i346 j346 i132 j132 i239 j239 i103 j103 (fun _=>rfl) (gone:=d.goneServices) (most:=6) (fun h=>I343 g2.lt 6 h) c2 (l:=d.services) hv.2.2.1 (fun e _ h=>I168 e h) h
 have n3:=fun h=>S_apar (E:=E) (T:=TI) (val:=valI) (cells:=Way.c) (z:=2) (key:=Way.id) (idf:=170) i266 j266 i347 j347 i255 j255 i340 j340 i109 j109 (fun _=>rfl) (gone:=d.goneBound) (most:=4) (fun h=>I343 g3.lt 4 h) c3 (l:=d.bound) hv.2.2.2.1 (fun e _ h=>I170 e h) h
 have n4:=fun h=>S_apar (E:=E) (T:=TI) (val:=valI) (cells:=Pol.c) (z:=5) (key:=Pol.id) (idf:=172) i267 j267 i348 j348 i261 j261 i292 j292 i339 j339 (fun _=>rfl) (gone:=d.gonePolicies) (most:=12) (fun h=>I343 g4.lt 12 h) c4 (l:=d.policies) hv.2.2.2.2.1 (fun e _ h=>I172 e h) h
 simp only [Dlt.vw] at k2
 unfold dltMay
 simp only [Dlt.vw]
 generalize apartN Pod.uid d.gonePods.l 16 d.pods.l = A1 at *
 generalize apartN Svc.id d.goneServices.l 6 d.services.l = A2 at *
 generalize apartN Way.id d.goneBound.l 4 d.bound.l = A3 at *
 generalize apartN Pol.id d.gonePolicies.l 12 d.policies.l = A4 at *
 generalize vwMay _ = M at *
 rw [Sm_v i164 j164]
 cases A1
 case false=>simp (decide:=true) [Bd_mk,q164,n1]
 cases A2
 case false=>simp (decide:=true) [Bd_mk,q164,n1,n2]
 cases A3
 case false=>simp (decide:=true) [Bd_mk,q164,n1,n2,n3]
 cases A4
 case false=>simp (decide:=true) [Bd_mk,q164,n1,n2,n3,n4]
 simp (decide:=true) [Bd_mk,q164,n1,n2,n3,n4,k2]
def Vw.same (a b:Vw):Bool:=a.epoch == b.epoch && (all2 (fun x y:Int=>x == y) a.covers.l b.covers.l && (all2 Pod.eqB a.pods.l b.pods.l && (all2 Svc.eqB a.services.l b.services.l && (all2 Way.eqB a.bound.l b.bound.l && all2 Pol.same a.policies.l b.policies.l))))
theorem I81 (s t:Sl Int) (hs:s.l.length < 2 ^ 62) (h:Hp):Sm E TI valI 81 [.d (s.d u32C),.d (t.d u32C)] h = some (bl (all2 (fun x y:Int=>x == y) s.l t.l),h) :=
 S_eql1 (cell:=fun n=>u32 n) i81 j81 hs (fun x y h=>eqv_i) h
theorem I82 (a b:Vw) (ha:a.ok) (h:Hp):Sm E TI valI 82 [a.v,b.v] h = some (bl (a.same b),h):=by
 have n0:=fun h=>I81 (E:=E) a.covers b.covers ha.1.lt h
 have n1:=fun h=>S_eql (E:=E) (T:=TI) (val:=valI) (cells:=Pod.c) (z:=7) (fun _=>rfl) (by decide) (p:=Pod.eqB) i173 j173 (s:=a.pods) (t:=b.pods) ha.2.1.lt (fun x y h=>eqv_pod) h
 have n2:=fun h=>S_eql (E:=E) (T:=TI) (val:=valI) (cells:=Svc.c) (z:=5) (fun _=>rfl) (by decide) (p:=Svc.eqB) i174 j174 (s:=a.services) (t:=b.services) ha.2.2.1.lt (fun x y h=>eqv_svc) h
 have n3:=fun h=>S_eql (E:=E) (T:=TI) (val:=valI) (cells:=Way.c) (z:=2) (fun _=>rfl) (by decide) (p:=Way.eqB) i175 j175 (s:=a.bound) (t:=b.bound) ha.2.2.2.1.lt (fun x y h=>eqv_way) h
 have n4:=fun h=>S_eqf (E:=E) (T:=TI) (val:=valI) (cells:=Pol.c) (z:=5) (fun _=>rfl) (by decide) rfl (f:=177) (p:=Pol.same) i176 j176 (s:=a.policies) (t:=b.policies) ha.2.2.2.2.1.lt (fun x hx y _ h=>I177 x y (ha.2.2.2.2.2 x hx) h) h
 rw [Sm_v i82 j82]
 unfold Vw.same
 generalize all2 (fun x y:Int=>x == y) a.covers.l b.covers.l = A0 at *
 generalize all2 Pod.eqB a.pods.l b.pods.l = A1 at *
 generalize all2 Svc.eqB a.services.l b.services.l = A2 at *
 generalize all2 Way.eqB a.bound.l b.bound.l = A3 at *
 generalize all2 Pol.same a.policies.l b.policies.l = A4 at *
 cases e1:(a.epoch == b.epoch)
 case false=>simp (decide:=true) [Bd_mk,q82,e1]
 cases A0
 case false=>simp (decide:=true) [Bd_mk,q82,e1,n0]
 cases A1
 case false=>simp (decide:=true) [Bd_mk,q82,e1,n0,n1]
 cases A2
 case false=>simp (decide:=true) [Bd_mk,q82,e1,n0,n1,n2]
 cases A3
 case false=>simp (decide:=true) [Bd_mk,q82,e1,n0,n1,n2,n3]
 simp (decide:=true) [Bd_mk,q82,e1,n0,n1,n2,n3,n4]
end
end Go.Proofs.YtmnfjejphmmddaaGreat
namespace Go.Proofs.YtmnfjejphmmddaaGreat
theorem risK_nodup {α:Type} {key:α -> Int} {l:List α} {n:Int} (h:risK key l n = true):(l.map key).Nodup /\ (l.length:Int) <= n:=by
 simp only [risK,Bool.and_eq_true,decide_eq_true_eq] at h
 exact ⟨(risesL_pair h.1).imp fun h=>by omega,h.2⟩
theorem putV_nodup {α:Type} {key:α -> Int} {l fresh:List α} {gone:List Int} (h1:(l.map key).Nodup) (h2:(fresh.map key).Nodup):(((l.filter (putIn key fresh gone)) ++ fresh).map key).Nodup:=by
 rw [List.map_append,List.nodup_append]
 refine ⟨List.Pairwise.sublist (List.Sublist.map key List.filter_sublist) h1,h2,?_⟩
 intro a ha b hb hab
 obtain ⟨e,he,rfl⟩:=List.mem_map.1 ha
 obtain ⟨f,hf,rfl⟩:=List.mem_map.1 hb
 have:=(List.mem_filter.1 he).2
 simp only [putIn,Bool.and_eq_true,Bool.not_eq_true',List.any_eq_false] at this
 have h3:=this.2 f hf
 simp [hab] at h3
theorem putV_mem {α:Type} {key:α -> Int} {l fresh:List α} {gone:List Int} {e:α} (h:e ∈ putV key l fresh gone):e ∈ l \/ e ∈ fresh:=by
 have:=(List.mergeSort_perm _ _).mem_iff.1 h
 rcases List.mem_append.1 this with h | h
 · exact .inl (List.mem_filter.1 h).1
 · exact .inr h
theorem putV_len {α:Type} {key:α -> Int} {l fresh:List α} {gone:List Int}:(putV key l fresh gone).length <= l.length + fresh.length:=by
 have:=List.length_filter_le (putIn key fresh gone) l
 rw [putV,List.length_mergeSort,List.length_append]
 omega
structure PutH (E:Calls'):Prop where
 h117:∀ s:Sl Int,short s -> ∀ n h,E 117 [.d (s.d u32C),.d (u32 n)] h = some (bl (hasT s.l n),h)
 h263:∀ p:Pol,p.wf big -> ∀ h,E 263 [ag p.c] h = some (bl (polMay p),h)
 h155:∀ s:Sl Pol,short s -> (∀ p ∈ s.l,p.ok) -> ∀ h,E 155 [.d (s.d Pol.c)] h = some (.d (Sl.d Pol.c ⟨s.nl,s.l.map Pol.own⟩),h)
 h271:∀ {h:Hp} {B n:Nat} {cap:Option Nat},0 < n -> E 271 [.row B 0 n cap 7,.fn 272 [.ptr 2 0]] h = sortFE ⟨7,0,272,166⟩ [.row B 0 n cap 7,.fn 272 [.ptr 2 0]] h
 h276:∀ {h:Hp} {B n:Nat} {cap:Option Nat},0 < n -> E 276 [.row B 0 n cap 5,.fn 277 [.ptr 2 0]] h = sortFE ⟨5,0,277,168⟩ [.row B 0 n cap 5,.fn 277 [.ptr 2 0]] h
 h280:∀ {h:Hp} {B n:Nat} {cap:Option Nat},0 < n -> E 280 [.row B 0 n cap 2,.fn 281 [.ptr 2 0]] h = sortFE ⟨2,0,281,170⟩ [.row B 0 n cap 2,.fn 281 [.ptr 2 0]] h
 h284:∀ {h:Hp} {B n:Nat} {cap:Option Nat},0 < n -> E 284 [.row B 0 n cap 5,.fn 285 [.ptr 2 0]] h = sortFE ⟨5,0,285,172⟩ [.row B 0 n cap 5,.fn 285 [.ptr 2 0]] h
 n271:∀ v,v = .d (.slice true []) \/ (∃ B cap,v = .row B 0 0 cap 7) -> ∀ h,E 271 [v,.fn 272 [.ptr 2 0]] h = some (.tup [],h)
 n276:∀ v,v = .d (.slice true []) \/ (∃ B cap,v = .row B 0 0 cap 5) -> ∀ h,E 276 [v,.fn 277 [.ptr 2 0]] h = some (.tup [],h)
 n280:∀ v,v = .d (.slice true []) \/ (∃ B cap,v = .row B 0 0 cap 2) -> ∀ h,E 280 [v,.fn 281 [.ptr 2 0]] h = some (.tup [],h)
 n284:∀ v,v = .d (.slice true []) \/ (∃ B cap,v = .row B 0 0 cap 5) -> ∀ h,E 284 [v,.fn 285 [.ptr 2 0]] h = some (.tup [],h)
theorem may_ris {v:Vw} (h:vwMay v = true):risK Pod.uid v.pods.l 16 = true /\ risK Svc.id v.services.l 6 = true /\ risK Way.id v.bound.l 4 = true /\ risK Pol.id v.policies.l 12 = true:=by
 simp only [vwMay,thingsT,Bool.and_eq_true] at h
 exact h.2.2.1.2
section
variable {E:Calls'} (H:PutH E)
include H
theorem I80n (v:Vw) (hv:v.ok) (hw:∀ p ∈ v.policies.l,p.wf big) (d:Dlt) (hd:d.ok) (hwd:∀ p ∈ d.policies.l,p.wf big) (hno:(vwMay v && dltMay d) = false) (h:Hp) :
 Sm E TI valI 80 [v.v,d.v] h = some (.tup [vw0.v,.d (i64 1)],h):=by
 have k1:=fun h=>I75 H.h117 H.h263 v hv hw h
 have k2:=fun h=>I164 H.h117 H.h263 d hd hwd h
 rw [Sm_v i80 j80]
 cases m1:vwMay v with
 | false=>simp (decide:=true) [Bd_mk,q80,k1,m1]; rfl
 | true =>
  have m2:dltMay d = false:=by simpa [m1] using hno
  simp (decide:=true) [Bd_mk,q80,k1,k2,m1,m2]; rfl
theorem I80 (v:Vw) (hv:v.ok) (hw:∀ p ∈ v.policies.l,p.wf big) (d:Dlt) (hd:d.ok) (hwd:∀ p ∈ d.policies.l,p.wf big) (m1:vwMay v = true) (m2:dltMay d = true) :
 ∃ n1 n2 n3 n4,∀ x:Vw,x = ⟨d.epoch,d.covers,⟨n1,putV Pod.uid v.pods.l d.pods.l d.gonePods.l⟩,⟨n2,putV Svc.id v.services.l d.services.l d.goneServices.l⟩,⟨n3,putV Way.id v.bound.l d.bound.l d.goneBound.l⟩,⟨n4,(putV Pol.id v.policies.l d.policies.l d.gonePolicies.l).map Pol.own⟩⟩ →
  x.ok /\ (∀ p ∈ x.policies.l,p.wf big) /\ ∀ h,Sm E TI valI 80 [v.v,d.v] h = some (if vwMay x then .tup [x.v,.d (i64 0)] else .tup [vw0.v,.d (i64 1)],h):=by
 have k1:=fun h=>I75 H.h117 H.h263 v hv hw h
 have k2:=fun h=>I164 H.h117 H.h263 d hd hwd h
 have md:vwMay d.vw = true:=by
  simp only [dltMay,Bool.and_eq_true] at m2
  exact m2.2
 obtain ⟨r1,r2,r3,r4⟩:=may_ris m1
 obtain ⟨s1,s2,s3,s4⟩:=may_ris md
 have hbig:(32:Nat) <= big:=by decide
 have a1:=risK_nodup r1; have a2:=risK_nodup r2; have a3:=risK_nodup r3; have a4:=risK_nodup r4
 have b1:=risK_nodup s1; have b2:=risK_nodup s2; have b3:=risK_nodup s3; have b4:=risK_nodup s4
 simp only [Dlt.vw] at b1 b2 b3 b4
 obtain ⟨hdv,g1,g2,g3,g4⟩:=hd
 have hok:∀ {x:Pol},x.wf big -> x.ok:=fun h=>h.fits
 obtain ⟨n1,f1,c1⟩:=S_vput (E:=E) (T:=TI) (val:=valI) (cells:=Pod.c) (key:=Pod.uid) (z:=7) (b:=72) (p:=0) (idf:=166) (g:=272) (srt:=271) i106 j106 i105 j105 i100 j100 i242 j242 i138 j138 i268 j268 i270 j270 i143 j143 i245 j245 i165 j165
  (fun hn=>by rw [Sm_ext i271]; exact H.h271 hn) (fun v hv h=>by rw [Sm_ext i271]; exact H.n271 v hv h) (fun _=>rfl) (by decide) rfl (by decide) (fun _=>rfl) (l:=v.pods) (fresh:=d.pods) hv.2.1 hdv.2.1 (by omega) (gone:=d.gonePods) (fun n h=>I269 g1 n h) (fun e _ h=>I166 e h) (putV_nodup a1.1 b1.1)
 obtain ⟨n2,f2,c2⟩:=S_vput (E:=E) (T:=TI) (val:=valI) (cells:=Svc.c) (key:=Svc.id) (z:=5) (b:=48) (p:=0) (idf:=168) (g:=277) (srt:=276) i186 j186 i243 j243 i103 j103 i244 j244 i141 j141 i274 j274 i275 j275 i132 j132 i239 j239 i167 j167
  (fun hn=>by rw [Sm_ext i276]; exact H.h276 hn) (fun v hv h=>by rw [Sm_ext i276]; exact H.n276 v hv h) (fun _=>rfl) (by decide) rfl (by decide) (fun _=>rfl) (l:=v.services) (fresh:=d.services) hv.2.2.1 hdv.2.2.1 (by omega) (gone:=d.goneServices) (fun n h=>I269 g2 n h) (fun e _ h=>I168 e h) (putV_nodup a2.1 b2.1)
 obtain ⟨n3,f3,c3⟩:=S_vput (E:=E) (T:=TI) (val:=valI) (cells:=Way.c) (key:=Way.id) (z:=2) (b:=16) (p:=0) (idf:=170) (g:=281) (srt:=280) i187 j187 i246 j246 i109 j109 i247 j247 i145 j145 i278 j278 i279 j279 i255 j255 i340 j340 i169 j169
  (fun hn=>by rw [Sm_ext i280]; exact H.h280 hn) (fun v hv h=>by rw [Sm_ext i280]; exact H.n280 v hv h) (fun _=>rfl) (by decide) rfl (by decide) (fun _=>rfl) (l:=v.bound) (fresh:=d.bound) hv.2.2.2.1 hdv.2.2.2.1 (by omega) (gone:=d.goneBound) (fun n h=>I269 g3 n h) (fun e _ h=>I170 e h) (putV_nodup a3.1 b3.1)
 obtain ⟨n4,f4,c4⟩:=S_vput (E:=E) (T:=TI) (val:=valI) (cells:=Pol.c) (key:=Pol.id) (z:=5) (b:=64) (p:=0) (idf:=172) (g:=285) (srt:=284) i188 j188 i248 j248 i339 j339 i249 j249 i148 j148 i282 j282 i283 j283 i261 j261 i292 j292 i171 j171
  (fun hn=>by rw [Sm_ext i284]; exact H.h284 hn) (fun v hv h=>by rw [Sm_ext i284]; exact H.n284 v hv h) (fun _=>rfl) (by decide) rfl (by decide) (fun _=>rfl) (l:=v.policies) (fresh:=d.policies) hv.2.2.2.2.1 hdv.2.2.2.2.1 (by omega) (gone:=d.gonePolicies) (fun n h=>I269 g4 n h) (fun e _ h=>I172 e h) (putV_nodup a4.1 b4.1)
 have q1:=putV_len (key:=Pod.uid) (l:=v.pods.l) (fresh:=d.pods.l) (gone:=d.gonePods.l)
 have q2:=putV_len (key:=Svc.id) (l:=v.services.l) (fresh:=d.services.l) (gone:=d.goneServices.l)
 have q3:=putV_len (key:=Way.id) (l:=v.bound.l) (fresh:=d.bound.l) (gone:=d.goneBound.l)
 have q4:=putV_len (key:=Pol.id) (l:=v.policies.l) (fresh:=d.policies.l) (gone:=d.gonePolicies.l)
 have w4:∀ p ∈ putV Pol.id v.policies.l d.policies.l d.gonePolicies.l,p.wf big:=fun p hp=>by
  rcases putV_mem hp with h | h
  · exact hw p h
  · exact hwd p h
 refine ⟨n1,n2,n3,n4,?_⟩
 generalize putV Pod.uid v.pods.l d.pods.l d.gonePods.l = P1 at *
 generalize putV Svc.id v.services.l d.services.l d.goneServices.l = P2 at *
 generalize putV Way.id v.bound.l d.bound.l d.goneBound.l = P3 at *
 generalize putV Pol.id v.policies.l d.policies.l d.gonePolicies.l = P4 at *
 rintro x rfl
 have hwo:∀ p ∈ P4.map Pol.own,p.wf big:=fun p hp=>by
  obtain ⟨q,hq,rfl⟩:=List.mem_map.1 hp
  exact Pol.own_wf (w4 q hq)
 have hx:Vw.ok ⟨d.epoch,d.covers,⟨n1,P1⟩,⟨n2,P2⟩,⟨n3,P3⟩,⟨n4,P4.map Pol.own⟩⟩ :=
  ⟨hdv.1,⟨by show P1.length <= big; omega,f1⟩,⟨by show P2.length <= big; omega,f2⟩,⟨by show P3.length <= big; omega,f3⟩,⟨by show (P4.map Pol.own).length <= big; rw [List.length_map]; omega,fun h=>by show P4.map Pol.own = []; rw [f4 h]; rfl⟩,fun p hp=>hok (hwo p hp)⟩
 refine ⟨hx,hwo,fun h=>?_⟩
 have k155:∀ h,Sm E TI valI 155 [.d (.slice n4 (P4.map Pol.c))] h = some (.d (.slice n4 ((P4.map Pol.own).map Pol.c)),h):=fun h=>by
  rw [Sm_ext i155]
  exact H.h155 ⟨n4,P4⟩ ⟨by show P4.length <= big; omega,f4⟩ (fun p hp=>hok (w4 p hp)) h
 have k135:=fun h=>S_cloneV (E:=E) (T:=TI) (val:=valI) (cells:=u32C) i135 j135 (by decide) (by decide) (fun _=>rfl) hdv.1 h
 have e1:d.vw.covers = d.covers:=rfl
 rw [e1] at k135
 have k75:∀ h,Sm E TI valI 75 [.agg [.d (u64 d.epoch),.d (d.covers.d u32C),.d (.slice n1 (P1.map Pod.c)),.d (.slice n2 (P2.map Svc.c)),.d (.slice n3 (P3.map Way.c)),.d (.slice n4 ((P4.map Pol.own).map Pol.c))]] h = some (bl (vwMay ⟨d.epoch,d.covers,⟨n1,P1⟩,⟨n2,P2⟩,⟨n3,P3⟩,⟨n4,P4.map Pol.own⟩⟩),h):=fun h=>I75 H.h117 H.h263 _ hx hwo h
 have hv0:ag [u64 0,.slice true [],.slice true [],.slice true [],.slice true [],.slice true []] = vw0.v:=rfl
 have hvx:ag [u64 d.epoch,d.covers.d u32C,.slice n1 (P1.map Pod.c),.slice n2 (P2.map Svc.c),.slice n3 (P3.map Way.c),.slice n4 ((P4.map Pol.own).map Pol.c)] = Vw.v ⟨d.epoch,d.covers,⟨n1,P1⟩,⟨n2,P2⟩,⟨n3,P3⟩,⟨n4,P4.map Pol.own⟩⟩:=rfl
 rw [← hvx]
 generalize vwMay _ = M at k75 ⊢
 clear hx hwo hvx w4
 generalize P4.map Pol.own = Q4 at *
 rw [Sm_v i80 j80]
 have hfn:∀ n caps,V.fn n caps = V.fn n caps:=fun _ _=>rfl
 cases M <;> simp (decide:=true) [Bd_mk,q80,fillsE,k1,k2,m1,m2,k135,c1,c2,c3,c4,k155,k75,openA,opDE_call,noTr] <;> first | rfl | done
end
end Go.Proofs.YtmnfjejphmmddaaGreat
namespace Go.Proofs.YtmnfjejphmmddaaGreat
def Idx.own (x:Idx):Idx:={ x with view:=x.view.own }
def Wk (x:Idx) (n:Int):List V:=x.c.map .d ++ [.d (u64 n)]
section
variable {x:Idx} {n:Int}
@[simp] theorem Wk.len:(Wk x n).length = 15:=(rfl)
@[simp] theorem Wk.s0_14:sub (Wk x n) 0 14 = some (x.c.map .d):=(rfl)
@[simp] theorem Wk.s1_1:sub (Wk x n) 1 1 = some [.d (u64 x.inc)]:=(rfl)
@[simp] theorem Wk.s2_1:sub (Wk x n) 2 1 = some [.d (u64 x.asked)]:=(rfl)
@[simp] theorem Wk.s3_1:sub (Wk x n) 3 1 = some [.d (x.addrs.d u32C)]:=(rfl)
@[simp] theorem Wk.s5_1:sub (Wk x n) 5 1 = some [.d (u64 x.life)]:=(rfl)
@[simp] theorem Wk.s6_1:sub (Wk x n) 6 1 = some [.d (u64 x.seq)]:=(rfl)
@[simp] theorem Wk.s7_6:sub (Wk x n) 7 6 = some (x.view.c.map .d):=(rfl)
@[simp] theorem Wk.s13_1:sub (Wk x n) 13 1 = some [.d (u64 x.high)]:=(rfl)
@[simp] theorem Wk.s14_1:sub (Wk x n) 14 1 = some [.d (u64 n)]:=(rfl)
@[simp] theorem Wk.p2 {m:Int}:put (Wk x n) 2 [.d (u64 m)] = some (Wk { x with asked:=m } n):=(rfl)
@[simp] theorem Wk.p4 {m:Int}:put (Wk x n) 4 [.d (u64 m)] = some (Wk { x with since:=m } n):=(rfl)
@[simp] theorem Wk.p5 {m:Int}:put (Wk x n) 5 [.d (u64 m)] = some (Wk { x with life:=m } n):=(rfl)
@[simp] theorem Wk.p6 {m:Int}:put (Wk x n) 6 [.d (u64 m)] = some (Wk { x with seq:=m } n):=(rfl)
@[simp] theorem Wk.p7 {v:Vw}:put (Wk x n) 7 (v.c.map .d) = some (Wk { x with view:=v } n):=(rfl)
@[simp] theorem Wk.p13 {m:Int}:put (Wk x n) 13 [.d (u64 m)] = some (Wk { x with high:=m } n):=(rfl)
@[simp] theorem Idx.p3:put (x.c.map V.d) 3 [.d (x.addrs.d u32C)] = some (x.c.map .d):=(rfl)
@[simp] theorem Idx.p7 {v:Vw}:put (x.c.map V.d) 7 (v.c.map .d) = some ((Idx.c { x with view:=v }).map .d):=(rfl)
end
theorem fills_wk {ev:X -> V} {z:List V} {a b:X} {x:Idx} {n:Int} (hz:z.length = 15) (ha:ev a = ag x.c) (hb:ev b = .d (u64 n)):fillsE ev z [(0,14,a),(14,1,b)] = some (Wk x n):=by
 have h1:(x.c.map V.d).length = 14:=rfl
 have p1:put z 0 (x.c.map V.d) = some (x.c.map V.d ++ z.drop 14):=by
  unfold put
  rw [if_pos (by rw [h1,hz]; omega),h1]
  simp
 have p2:put (x.c.map V.d ++ z.drop 14) 14 [V.d (u64 n)] = some (Wk x n):=by
  have e2:(x.c.map V.d ++ z.drop 14).drop (14 + [V.d (u64 n)].length) = []:=List.drop_eq_nil_of_le (by rw [List.length_append,h1,List.length_drop,hz]; simp)
  unfold put
  rw [if_pos (by rw [List.length_append,h1,List.length_drop,hz]; simp),List.take_left' h1,e2,List.append_nil]
  rfl
 simp only [fillsE,ha,hb,cells_ag,cells_d,h1,if_true,p1,p2,List.length_cons,List.length_nil]
section
variable {E:Calls'} (h163:∀ v:Vw,v.ok -> ∀ h,E 163 [v.v] h = some (v.own.v,h))
include h163
theorem I76a (x:Idx) (ha:short x.addrs) (hv:x.view.ok) (now:Int) (a b:Blk) (lo:Nat):Sm E TI valI 76 [x.v,.d (u64 now)] ⟨[a,b],lo⟩ = some (.ptr 3 0,⟨[a,b,.cells (x.own.c.map .d),.cells (Wk x.own now)],min lo 2⟩):=by
 have n1:=fun h=>S_cloneV (E:=E) (T:=TI) (val:=valI) (cells:=u32C) i135 j135 (by decide) (by decide) (fun _=>rfl) ha h
 have n2:∀ h,Sm E TI valI 163 [x.view.v] h = some (x.view.own.v,h):=fun h=>by rw [Sm_ext i163]; exact h163 x.view hv h
 have hx:({ x with view:=x.view.own }:Idx) = x.own:=rfl
 rw [Sm_ref i76 j76]
 have hf:∀ {ev:X -> V} {p q:X},ev p = ag x.own.c -> ev q = .d (u64 now) -> fillsE ev [(.d (i64 0)),(.d (.int .u64 0)),(.d (.int .u64 0)),(.d (.slice true [])),(.d (.int .u64 0)),(.d (.int .u64 0)),(.d (.int .u64 0)),(.d (.int .u64 0)),(.d (.slice true [])),(.d (.slice true [])),(.d (.slice true [])),(.d (.slice true [])),(.d (.slice true [])),(.d (.int .u64 0)),(.d (.int .u64 0))] [(0,14,p),(14,1,q)] = some (Wk x.own now):=fun hp hq=>fills_wk rfl hp hq
 simp (decide:=true) [Bd_mk,q76,n1,n2,hx,hf,openA,opDE_call,noTr,V.under]
theorem I76b (x:Idx) (ha:short x.addrs) (hv:x.view.ok) (now:Int) (a b c:Blk) (lo:Nat):Sm E TI valI 76 [x.v,.d (u64 now)] ⟨[a,b,c],lo⟩ = some (.ptr 4 0,⟨[a,b,c,.cells (x.own.c.map .d),.cells (Wk x.own now)],min lo 3⟩):=by
 have n1:=fun h=>S_cloneV (E:=E) (T:=TI) (val:=valI) (cells:=u32C) i135 j135 (by decide) (by decide) (fun _=>rfl) ha h
 have n2:∀ h,Sm E TI valI 163 [x.view.v] h = some (x.view.own.v,h):=fun h=>by rw [Sm_ext i163]; exact h163 x.view hv h
 have hx:({ x with view:=x.view.own }:Idx) = x.own:=rfl
 rw [Sm_ref i76 j76]
 have hf:∀ {ev:X -> V} {p q:X},ev p = ag x.own.c -> ev q = .d (u64 now) -> fillsE ev [(.d (i64 0)),(.d (.int .u64 0)),(.d (.int .u64 0)),(.d (.slice true [])),(.d (.int .u64 0)),(.d (.int .u64 0)),(.d (.int .u64 0)),(.d (.int .u64 0)),(.d (.slice true [])),(.d (.slice true [])),(.d (.slice true [])),(.d (.slice true [])),(.d (.slice true [])),(.d (.int .u64 0)),(.d (.int .u64 0))] [(0,14,p),(14,1,q)] = some (Wk x.own now):=fun hp hq=>fills_wk rfl hp hq
 simp (decide:=true) [Bd_mk,q76,n1,n2,hx,hf,openA,opDE_call,noTr,V.under]
end
section
variable {E:Calls'}
theorem I125 (x:Idx) (ha:short x.addrs) (now:Int) (a b c:Blk) (lo:Nat):Sm E TI valI 125 [.ptr 3 0] ⟨[a,b,c,.cells (Wk x now)],lo⟩ = some (.row 4 0 1 (some 1) 3,⟨[a,b,c,.cells (Wk { x with since:=now } now),.cells ((Sbs.c ⟨x.inc,x.asked,x.addrs⟩).map .d)],min lo 3⟩):=by
 have n1:=fun h=>S_cloneV (E:=E) (T:=TI) (val:=valI) (cells:=u32C) i135 j135 (by decide) (by decide) (fun _=>rfl) ha h
 rw [Sm_ref i125 j125]
 simp (decide:=true) [Bd_mk,q125,n1,openA,opDE_call,noTr,V.under,Sbs.c,fillsE]
theorem I77 (x:Idx) (ha:short x.addrs) (now:Int) (a b c:Blk) (lo:Nat):Sm E TI valI 77 [.ptr 3 0] ⟨[a,b,c,.cells (Wk x now)],lo⟩ = some (.row 4 0 1 (some 1) 3,⟨[a,b,c,.cells (Wk { x with asked:=IntKind.wrap .u64 (x.asked + 1),since:=now } now),.cells ((Sbs.c ⟨x.inc,IntKind.wrap .u64 (x.asked + 1),x.addrs⟩).map .d)],min lo 3⟩):=by
 have n1:=fun lo=>I125 (E:=E) { x with asked:=IntKind.wrap .u64 (x.asked + 1) } ha now a b c lo
 rw [Sm_ref i77 j77]
 simp (decide:=true) [Bd_mk,q77,n1,V.under]
def newI (node inc now:Int):Idx:=⟨node,inc,1,⟨true,[]⟩,now,0,0,vw0,0⟩
def newOk (node inc:Int):Bool:=decide (node >= 2) && (decide (node <= 9) && (decide (inc >= 1) && decide (inc <= 4611686018427387903)))
theorem vw0_ok:vw0.ok:=⟨⟨Nat.zero_le _,fun _=>rfl⟩,⟨Nat.zero_le _,fun _=>rfl⟩,⟨Nat.zero_le _,fun _=>rfl⟩,⟨Nat.zero_le _,fun _=>rfl⟩,⟨Nat.zero_le _,fun _=>rfl⟩,fun p hp=>by cases hp⟩
theorem I15 (h163:∀ v:Vw,v.ok -> ∀ h,E 163 [v.v] h = some (v.own.v,h)) (node inc now:Int) (h:Hp):Sm E TI valI 15 [.d (i64 node),.d (u64 inc),.d (u64 now)] h =
 some (if newOk node inc then .tup [(newI node inc now).v,ag (Sbs.c ⟨inc,1,⟨true,[]⟩⟩),.d (i64 0)] else .tup [idx0.v,ag (Sbs.c ⟨0,0,⟨true,[]⟩⟩),.d (i64 1)],h):=by
 have n76:=fun a b lo=>I76a h163 ⟨node,inc,0,⟨true,[]⟩,0,0,0,vw0,0⟩ ⟨Nat.zero_le _,fun _=>rfl⟩ vw0_ok now a b lo
 have hw1:IntKind.wrap .u64 (0 + 1) = 1:=by decide
 have n77:=fun a b c lo=>I77 (E:=E) ⟨node,inc,0,⟨true,[]⟩,0,0,0,vw0,0⟩ ⟨Nat.zero_le _,fun _=>rfl⟩ now a b c lo
 simp only [hw1] at n77
 have ho:Idx.own ⟨node,inc,0,⟨true,[]⟩,0,0,0,vw0,0⟩ = ⟨node,inc,0,⟨true,[]⟩,0,0,0,vw0,0⟩:=rfl
 rw [ho] at n76
 have e1:Idx.v ⟨node,inc,0,⟨true,[]⟩,0,0,0,vw0,0⟩ = .agg [.d (i64 node),.d (u64 inc),.d (u64 0),.d (.slice true []),.d (u64 0),.d (u64 0),.d (u64 0),.d (u64 0),.d (.slice true []),.d (.slice true []),.d (.slice true []),.d (.slice true []),.d (.slice true []),.d (u64 0)]:=rfl
 rw [e1] at n76
 have z14:∀ x:Idx,put [(V.d (i64 0)),(.d (.int .u64 0)),(.d (.int .u64 0)),(.d (.slice true [])),(.d (.int .u64 0)),(.d (.int .u64 0)),(.d (.int .u64 0)),(.d (.int .u64 0)),(.d (.slice true [])),(.d (.slice true [])),(.d (.slice true [])),(.d (.slice true [])),(.d (.slice true [])),(.d (.int .u64 0))] 0 (x.c.map V.d) = some (x.c.map .d):=fun _=>rfl
 have z3:∀ x:Sbs,put [(V.d (.int .u64 0)),(.d (.int .u64 0)),(.d (.slice true []))] 0 (x.c.map V.d) = some (x.c.map .d):=fun _=>rfl
 have hix:∀ h,idxv none 3 (.row 4 0 1 (some 1) 3) (.d (i64 0)) h = some (.ptr 4 0,h):=fun _=>rfl
 rw [Sm_v i15 j15]
 unfold newOk
 by_cases a1:node < 2
 case pos=>simp (decide:=true) [Bd_mk,q15,a1,show ¬ node >= 2 from by omega]; exact ⟨rfl,rfl⟩
 by_cases a2:node > 9
 case pos=>simp (decide:=true) [Bd_mk,q15,a1,a2,show ¬ node <= 9 from by omega]; exact ⟨rfl,rfl⟩
 by_cases a3:inc < 1
 case pos=>simp (decide:=true) [Bd_mk,q15,a1,a2,a3,show ¬ inc >= 1 from by omega]; exact ⟨rfl,rfl⟩
 by_cases a4:inc > 4611686018427387903
 case pos=>simp (decide:=true) [Bd_mk,q15,a1,a2,a3,a4,show ¬ inc <= 4611686018427387903 from by omega]; exact ⟨rfl,rfl⟩
 simp (decide:=true) [Bd_mk,q15,a1,a2,a3,a4,show node >= 2 from by omega,show node <= 9 from by omega,show inc >= 1 from by omega,show inc <= 4611686018427387903 from by omega,fillsE,n76,n77,z14,z3,hix,openA,opDE_call,noTr]
 first | done | exact ⟨rfl,rfl⟩ | rfl
def Idx.same (a b:Idx):Bool:=(a.node == b.node && (a.inc == b.inc && (a.asked == b.asked && (a.since == b.since && (a.life == b.life && (a.seq == b.seq && a.high == b.high)))))) && (all2 (fun x y:Int=>x == y) a.addrs.l b.addrs.l && a.view.same b.view)
theorem I19 (a b:Idx) (ha:short a.addrs) (hv:a.view.ok) (h:Hp):Sm E TI valI 19 [a.v,b.v] h = some (bl (a.same b),h):=by
 have n1:=fun h=>I81 (E:=E) a.addrs b.addrs ha.lt h
 have n2:=fun h=>I82 (E:=E) a.view b.view hv h
 rw [Sm_v i19 j19]
 unfold Idx.same
 generalize all2 (fun x y:Int=>x == y) a.addrs.l b.addrs.l = A1 at *
 generalize a.view.same b.view = A2 at *
 cases e1:(a.node == b.node)
 case false=>simp (decide:=true) [Bd_mk,q19,e1]
 cases e2:(a.inc == b.inc)
 case false=>simp (decide:=true) [Bd_mk,q19,e1,e2]
 cases e3:(a.asked == b.asked)
 case false=>simp (decide:=true) [Bd_mk,q19,e1,e2,e3]
 cases e4:(a.since == b.since)
 case false=>simp (decide:=true) [Bd_mk,q19,e1,e2,e3,e4]
 cases e5:(a.life == b.life)
 case false=>simp (decide:=true) [Bd_mk,q19,e1,e2,e3,e4,e5]
 cases e6:(a.seq == b.seq)
 case false=>simp (decide:=true) [Bd_mk,q19,e1,e2,e3,e4,e5,e6]
 cases e7:(a.high == b.high)
 case false=>simp (decide:=true) [Bd_mk,q19,e1,e2,e3,e4,e5,e6,e7]
 cases A1 <;> simp (decide:=true) [Bd_mk,q19,e1,e2,e3,e4,e5,e6,e7,n1,n2]
end
end Go.Proofs.YtmnfjejphmmddaaGreat
namespace Go.Proofs.YtmnfjejphmmddaaGreat
section
variable {x:Idx}
@[simp] theorem Idx.own_node:x.own.node = x.node:=(rfl)
@[simp] theorem Idx.own_inc:x.own.inc = x.inc:=(rfl)
@[simp] theorem Idx.own_life:x.own.life = x.life:=(rfl)
@[simp] theorem Idx.own_seq:x.own.seq = x.seq:=(rfl)
@[simp] theorem Idx.own_high:x.own.high = x.high:=(rfl)
@[simp] theorem Idx.own_view:x.own.view = x.view.own:=(rfl)
end
structure Whole (x:Idx):Prop where
 addrs:short x.addrs
 view:x.view.ok
 wf:∀ p ∈ x.view.policies.l,p.wf big
theorem Vw.own_ok {v:Vw} (hv:v.ok) (hw:∀ p ∈ v.policies.l,p.wf big):v.own.ok /\ ∀ p ∈ v.own.policies.l,p.wf big:=by
 have hw':∀ p ∈ v.own.policies.l,p.wf big:=fun p hp=>by
  obtain ⟨q,hq,rfl⟩:=List.mem_map.1 hp
  exact Pol.own_wf (hw q hq)
 refine ⟨⟨hv.1,hv.2.1,hv.2.2.1,hv.2.2.2.1,⟨?_,fun h=>?_⟩,fun p hp=>(hw' p hp).fits⟩,hw'⟩
 · show (v.policies.l.map Pol.own).length <= big
   rw [List.length_map]; exact hv.2.2.2.2.1.1
 · show v.policies.l.map Pol.own = []
   have e:v.policies.l = []:=hv.2.2.2.2.1.2 h
   rw [e]; rfl
theorem Whole.own {x:Idx} (h:Whole x):Whole x.own:=⟨h.addrs,(Vw.own_ok h.view h.wf).1,(Vw.own_ok h.view h.wf).2⟩
def Took (x:Idx) (p:Psh) (y:Idx) (a:List Ack):Prop :=
 y.inc = x.inc /\ ((a = [] /\ y = x.own) \/ (a = [⟨p.life,p.inc,p.seq,0⟩] /\ y = x.own /\ p.inc = x.inc) ∨
  (a = [⟨p.life,p.inc,p.seq,1⟩] /\ p.inc = x.inc /\ y.seq = p.seq /\ y.life = p.life /\ ((y.high = x.high /\ y.view.epoch = x.view.epoch) \/ (x.high <= y.high /\ y.view.epoch = y.high)) /\ x.life <= y.life /\ (y.life = x.life -> x.seq <= y.seq)))
section
variable {E:Calls'} (H:PutH E) (h163:∀ v:Vw,v.ok -> ∀ h,E 163 [v.v] h = some (v.own.v,h))
include H in
theorem I80s (v:Vw) (hv:v.ok) (hw:∀ p ∈ v.policies.l,p.wf big) (d:Dlt) (hd:d.ok) (hwd:∀ p ∈ d.policies.l,p.wf big) :
 ∃ (R:Vw) (e:Int),(e = 0 -> R.epoch = d.epoch /\ R.ok /\ ∀ p ∈ R.policies.l,p.wf big) /\ ∀ h,Sm E TI valI 80 [v.v,d.v] h = some (.tup [R.v,.d (i64 e)],h):=by
 cases hm:vwMay v && dltMay d with
 | false=>exact ⟨vw0,1,(fun h=>by cases h),fun h=>I80n H v hv hw d hd hwd hm h⟩
 | true =>
  simp only [Bool.and_eq_true] at hm
  obtain ⟨n1,n2,n3,n4,hx⟩:=I80 H v hv hw d hd hwd hm.1 hm.2
  obtain ⟨k1,k2,k3⟩:=hx _ rfl
  cases hmx:vwMay ⟨d.epoch,d.covers,⟨n1,putV Pod.uid v.pods.l d.pods.l d.gonePods.l⟩,⟨n2,putV Svc.id v.services.l d.services.l d.goneServices.l⟩,⟨n3,putV Way.id v.bound.l d.bound.l d.goneBound.l⟩,⟨n4,(putV Pol.id v.policies.l d.policies.l d.gonePolicies.l).map Pol.own⟩⟩ with
  | true=>exact ⟨_,0,fun _=>⟨rfl,k1,k2⟩,fun h=>by rw [k3 h,hmx]; rfl⟩
  | false=>exact ⟨vw0,1,(fun h=>by cases h),fun h=>by rw [k3 h,hmx]; rfl⟩
include H h163 in
theorem I18 (x:Idx) (hx:Whole x) (p:Psh) (hd:p.delta.ok) (hwd:∀ q ∈ p.delta.policies.l,q.wf big) :
 ∃ y a,Took x p y a /\ Whole y /\ ∀ h,Sm E TI valI 18 [x.v,ag p.c] h = some (.tup [y.v,.d (Sl.d Ack.c ⟨a.isEmpty,a⟩)],h):=by
 have n76:=fun a b c lo=>I76b h163 x hx.addrs hx.view 0 a b c lo
 have z14:∀ x:Idx,put [(V.d (i64 0)),(.d (.int .u64 0)),(.d (.int .u64 0)),(.d (.slice true [])),(.d (.int .u64 0)),(.d (.int .u64 0)),(.d (.int .u64 0)),(.d (.int .u64 0)),(.d (.slice true [])),(.d (.slice true [])),(.d (.slice true [])),(.d (.slice true [])),(.d (.slice true [])),(.d (.int .u64 0))] 0 (x.c.map V.d) = some (x.c.map .d):=fun _=>rfl
 have z6:∀ x:Vw,put [V.d (.int .u64 0),.d (.slice true []),.d (.slice true []),.d (.slice true []),.d (.slice true []),.d (.slice true [])] 0 (x.c.map V.d) = some (x.c.map V.d):=fun _=>rfl
 have y6:∀ x:Vw,put (x.c.map V.d) 0 [V.d (.int .u64 0),.d (.slice true []),.d (.slice true []),.d (.slice true []),.d (.slice true []),.d (.slice true [])] = some (vw0.c.map V.d):=fun _=>rfl
 have dr6:∀ x:Vw,(x.c.map V.d).drop 6 = []:=fun _=>rfl
 have d6:∀ (a b c d e f:Blk) (k1 k2 k3 k4:Int) lo,dataV ⟨[a,b,c,d,e,f,.cells [.d (u64 k1),.d (u64 k2),.d (u64 k3),.d (i64 k4)]],lo⟩ 8 (.row 6 0 1 (some 1) 4) = some (.slice false [[u64 k1,u64 k2,u64 k3,i64 k4]]):=fun a b c d e f k1 k2 k3 k4 lo =>
  dataV_row (h:=⟨[a,b,c,d,e,f,.cells [.d (u64 k1),.d (u64 k2),.d (u64 k3),.d (i64 k4)]],lo⟩) (k:=7) (b:=6) (n:=1) (cap:=some 1) (z:=4) (es:=[[u64 k1,u64 k2,u64 k3,i64 k4]]) (rest:=[]) (by simp) rfl rfl
 have d8:∀ (a b c d e f g i:Blk) (k1 k2 k3 k4:Int) lo,dataV ⟨[a,b,c,d,e,f,g,i,.cells [.d (u64 k1),.d (u64 k2),.d (u64 k3),.d (i64 k4)]],lo⟩ 8 (.row 8 0 1 (some 1) 4) = some (.slice false [[u64 k1,u64 k2,u64 k3,i64 k4]]):=fun a b c d e f g i k1 k2 k3 k4 lo =>
  dataV_row (h:=⟨[a,b,c,d,e,f,g,i,.cells [.d (u64 k1),.d (u64 k2),.d (u64 k3),.d (i64 k4)]],lo⟩) (k:=7) (b:=8) (n:=1) (cap:=some 1) (z:=4) (es:=[[u64 k1,u64 k2,u64 k3,i64 k4]]) (rest:=[]) (by simp) rfl rfl
 by_cases c1:p.inc = x.inc
 case neg =>
  refine ⟨x.own,[],⟨rfl,.inl ⟨rfl,rfl⟩⟩,hx.own,fun h=>?_⟩
  rw [Sm_v i18 j18]
  simp (decide:=true) [Bd_mk,q18,fillsE,n76,z14,z6,y6,dr6,d6,d8,openA,opDE_call,noTr,c1] <;> first | rfl | exact ⟨rfl,rfl⟩
 by_cases c2:p.life = 0
 case pos =>
  refine ⟨x.own,[],⟨rfl,.inl ⟨rfl,rfl⟩⟩,hx.own,fun h=>?_⟩
  rw [Sm_v i18 j18]
  simp (decide:=true) [Bd_mk,q18,fillsE,n76,z14,z6,y6,dr6,d6,d8,openA,opDE_call,noTr,c1,c2] <;> first | rfl | exact ⟨rfl,rfl⟩
 by_cases c3:p.life < x.life
 case pos =>
  refine ⟨x.own,[],⟨rfl,.inl ⟨rfl,rfl⟩⟩,hx.own,fun h=>?_⟩
  rw [Sm_v i18 j18]
  simp (decide:=true) [Bd_mk,q18,fillsE,n76,z14,z6,y6,dr6,d6,d8,openA,opDE_call,noTr,c1,c2,c3] <;> first | rfl | exact ⟨rfl,rfl⟩
 by_cases c4:p.seq = 0
 case pos =>
  refine ⟨x.own,[],⟨rfl,.inl ⟨rfl,rfl⟩⟩,hx.own,fun h=>?_⟩
  rw [Sm_v i18 j18]
  simp (decide:=true) [Bd_mk,q18,fillsE,n76,z14,z6,y6,dr6,d6,d8,openA,opDE_call,noTr,c1,c2,c3,c4] <;> first | rfl | exact ⟨rfl,rfl⟩
 have hb:=Vw.own_ok hx.view hx.wf
 by_cases s:p.life = x.life
 case pos =>
  have s2:¬ x.life = 0:=by omega
  have s3:¬ x.life < x.life:=by omega
  by_cases c5:p.seq < x.seq
  case pos =>
   refine ⟨x.own,[],⟨rfl,.inl ⟨rfl,rfl⟩⟩,hx.own,fun h=>?_⟩
   rw [Sm_v i18 j18]
   simp (decide:=true) [Bd_mk,q18,fillsE,n76,z14,z6,y6,dr6,d6,d8,openA,opDE_call,noTr,c1,s,s2,s3,c4,c5] <;> first | rfl | exact ⟨rfl,rfl⟩
  by_cases c6:p.seq = x.seq
  case pos =>
   have c4':¬ x.seq = 0:=by omega
   have c5':¬ x.seq < x.seq:=by omega
   refine ⟨x.own,[⟨p.life,p.inc,p.seq,1⟩],⟨rfl,.inr (.inr ⟨rfl,c1,c6.symm,s.symm,.inl ⟨rfl,rfl⟩,Int.le_refl _,fun _=>Int.le_refl _⟩)⟩,hx.own,fun h=>?_⟩
   rw [Sm_v i18 j18]
   simp (decide:=true) [Bd_mk,q18,fillsE,n76,z14,z6,y6,dr6,d6,d8,openA,opDE_call,noTr,c1,s,s2,s3,c6,c4',c5'] <;> first | rfl | exact ⟨rfl,rfl⟩
  by_cases c7:p.upon = 0
  case pos =>
   obtain ⟨R,e,r1,r2⟩:=I80s H vw0 vw0_ok (fun p hp=>by cases hp) p.delta hd hwd
   by_cases c8:p.delta.epoch >= x.high
   case neg =>
    refine ⟨x.own,[⟨p.life,p.inc,p.seq,0⟩],⟨rfl,.inr (.inl ⟨rfl,rfl,c1⟩)⟩,hx.own,fun h=>?_⟩
    rw [Sm_v i18 j18]
    simp (decide:=true) [Bd_mk,q18,fillsE,n76,z14,z6,y6,dr6,d6,d8,openA,opDE_call,noTr,c1,s,s2,s3,c4,c5,c6,c7,r2,c8] <;> first | rfl | exact ⟨rfl,rfl⟩
   by_cases c9:e = 0
   case neg =>
    refine ⟨x.own,[⟨p.life,p.inc,p.seq,0⟩],⟨rfl,.inr (.inl ⟨rfl,rfl,c1⟩)⟩,hx.own,fun h=>?_⟩
    rw [Sm_v i18 j18]
    simp (decide:=true) [Bd_mk,q18,fillsE,n76,z14,z6,y6,dr6,d6,d8,openA,opDE_call,noTr,c1,s,s2,s3,c4,c5,c6,c7,r2,c8,c9] <;> first | rfl | exact ⟨rfl,rfl⟩
   refine ⟨⟨x.node,x.inc,x.asked,x.addrs,x.since,p.life,p.seq,R,R.epoch⟩,[⟨p.life,p.inc,p.seq,1⟩],⟨rfl,.inr (.inr ⟨rfl,c1,rfl,rfl,.inr ⟨by rw [(r1 c9).1]; exact c8,rfl⟩,by show x.life <= p.life; omega,fun hh=>by show x.seq <= p.seq; omega⟩)⟩,⟨hx.addrs,(r1 c9).2.1,(r1 c9).2.2⟩,fun h=>?_⟩
   rw [Sm_v i18 j18]
   simp (decide:=true) [Bd_mk,q18,fillsE,n76,z14,z6,y6,dr6,d6,d8,openA,opDE_call,noTr,c1,s,s2,s3,c4,c5,c6,c7,r2,c8,c9] <;> first | rfl | exact ⟨rfl,rfl⟩
  obtain ⟨R,e,r1,r2⟩:=I80s H x.view.own hb.1 hb.2 p.delta hd hwd
  by_cases c10:p.upon = x.seq
  case neg =>
   refine ⟨x.own,[⟨p.life,p.inc,p.seq,0⟩],⟨rfl,.inr (.inl ⟨rfl,rfl,c1⟩)⟩,hx.own,fun h=>?_⟩
   rw [Sm_v i18 j18]
   simp (decide:=true) [Bd_mk,q18,fillsE,n76,z14,z6,y6,dr6,d6,d8,openA,opDE_call,noTr,c1,s,s2,s3,c4,c5,c6,c7,r2,c10] <;> first | rfl | exact ⟨rfl,rfl⟩
  have c7':¬ x.seq = 0:=by omega
  by_cases c8:p.delta.epoch >= x.high
  case neg =>
   refine ⟨x.own,[⟨p.life,p.inc,p.seq,0⟩],⟨rfl,.inr (.inl ⟨rfl,rfl,c1⟩)⟩,hx.own,fun h=>?_⟩
   rw [Sm_v i18 j18]
   simp (decide:=true) [Bd_mk,q18,fillsE,n76,z14,z6,y6,dr6,d6,d8,openA,opDE_call,noTr,c1,s,s2,s3,c4,c5,c6,c10,c7',r2,c8] <;> first | rfl | exact ⟨rfl,rfl⟩
  by_cases c9:e = 0
  case neg =>
   refine ⟨x.own,[⟨p.life,p.inc,p.seq,0⟩],⟨rfl,.inr (.inl ⟨rfl,rfl,c1⟩)⟩,hx.own,fun h=>?_⟩
   rw [Sm_v i18 j18]
   simp (decide:=true) [Bd_mk,q18,fillsE,n76,z14,z6,y6,dr6,d6,d8,openA,opDE_call,noTr,c1,s,s2,s3,c4,c5,c6,c10,c7',r2,c8,c9] <;> first | rfl | exact ⟨rfl,rfl⟩
  refine ⟨⟨x.node,x.inc,x.asked,x.addrs,x.since,p.life,p.seq,R,R.epoch⟩,[⟨p.life,p.inc,p.seq,1⟩],⟨rfl,.inr (.inr ⟨rfl,c1,rfl,rfl,.inr ⟨by rw [(r1 c9).1]; exact c8,rfl⟩,by show x.life <= p.life; omega,fun hh=>by show x.seq <= p.seq; omega⟩)⟩,⟨hx.addrs,(r1 c9).2.1,(r1 c9).2.2⟩,fun h=>?_⟩
  rw [Sm_v i18 j18]
  simp (decide:=true) [Bd_mk,q18,fillsE,n76,z14,z6,y6,dr6,d6,d8,openA,opDE_call,noTr,c1,s,s2,s3,c4,c5,c6,c10,c7',r2,c8,c9] <;> first | rfl | exact ⟨rfl,rfl⟩
 by_cases c7:p.upon = 0
 case pos =>
  obtain ⟨R,e,r1,r2⟩:=I80s H vw0 vw0_ok (fun p hp=>by cases hp) p.delta hd hwd
  by_cases c8:p.delta.epoch >= x.high
  case neg =>
   refine ⟨x.own,[⟨p.life,p.inc,p.seq,0⟩],⟨rfl,.inr (.inl ⟨rfl,rfl,c1⟩)⟩,hx.own,fun h=>?_⟩
   rw [Sm_v i18 j18]
   simp (decide:=true) [Bd_mk,q18,fillsE,n76,z14,z6,y6,dr6,d6,d8,openA,opDE_call,noTr,c1,c2,c3,c4,s,c7,r2,c8] <;> first | rfl | exact ⟨rfl,rfl⟩
  by_cases c9:e = 0
  case neg =>
   refine ⟨x.own,[⟨p.life,p.inc,p.seq,0⟩],⟨rfl,.inr (.inl ⟨rfl,rfl,c1⟩)⟩,hx.own,fun h=>?_⟩
   rw [Sm_v i18 j18]
   simp (decide:=true) [Bd_mk,q18,fillsE,n76,z14,z6,y6,dr6,d6,d8,openA,opDE_call,noTr,c1,c2,c3,c4,s,c7,r2,c8,c9] <;> first | rfl | exact ⟨rfl,rfl⟩
  refine ⟨⟨x.node,x.inc,x.asked,x.addrs,x.since,p.life,p.seq,R,R.epoch⟩,[⟨p.life,p.inc,p.seq,1⟩],⟨rfl,.inr (.inr ⟨rfl,c1,rfl,rfl,.inr ⟨by rw [(r1 c9).1]; exact c8,rfl⟩,by show x.life <= p.life; omega,fun hh=>by show x.seq <= p.seq; exact absurd hh s⟩)⟩,⟨hx.addrs,(r1 c9).2.1,(r1 c9).2.2⟩,fun h=>?_⟩
  rw [Sm_v i18 j18]
  simp (decide:=true) [Bd_mk,q18,fillsE,n76,z14,z6,y6,dr6,d6,d8,openA,opDE_call,noTr,c1,c2,c3,c4,s,c7,r2,c8,c9] <;> first | rfl | exact ⟨rfl,rfl⟩
 obtain ⟨R,e,r1,r2⟩:=I80s H x.view.own hb.1 hb.2 p.delta hd hwd
 refine ⟨x.own,[⟨p.life,p.inc,p.seq,0⟩],⟨rfl,.inr (.inl ⟨rfl,rfl,c1⟩)⟩,hx.own,fun h=>?_⟩
 rw [Sm_v i18 j18]
 simp (decide:=true) [Bd_mk,q18,fillsE,n76,z14,z6,y6,dr6,d6,d8,openA,opDE_call,noTr,c1,c2,c3,c4,s,c7,r2] <;> first | rfl | exact ⟨rfl,rfl⟩
end
end Go.Proofs.YtmnfjejphmmddaaGreat
namespace Go.Proofs.YtmnfjejphmmddaaGreat
theorem Pol.same_own (p:Pol):Pol.same p p.own = true:=by
 have h:all2 Rule.same p.rules.l (p.rules.l.map Rule.own) = true:=by
  generalize p.rules.l = l
  induction l with
  | nil=>rfl
  | cons r l ih =>
   simp only [List.map_cons,all2,ih,Bool.and_true]
   exact Rule.same_refl r
 simp [Pol.same,Pol.own,h]
theorem Idx.same_own (x:Idx):Idx.same x x.own = true:=by
 have h:all2 Pol.same x.view.policies.l (x.view.policies.l.map Pol.own) = true:=by
  generalize x.view.policies.l = l
  induction l with
  | nil=>rfl
  | cons r l ih=>simp only [List.map_cons,all2,ih,Bool.and_true]; exact Pol.same_own r
 have h1:all2 (fun x y:Int=>x == y) x.addrs.l x.addrs.l = true:=all2_refl (by simp) _
 have h2:all2 (fun x y:Int=>x == y) x.view.covers.l x.view.covers.l = true:=all2_refl (by simp) _
 have h3:x.own.addrs = x.addrs:=rfl
 have h4:x.own.asked = x.asked:=rfl
 have h5:x.own.since = x.since:=rfl
 simp [Idx.same,Vw.same,Vw.own,h,h1,h2,h3,h4,h5,all2_refl (fun x=>Pod.eqB_iff.2 rfl),all2_refl (fun x=>Svc.eqB_iff.2 rfl),all2_refl (fun x=>Way.eqB_iff.2 rfl)]
@[simp] theorem Vw.own_epoch {v:Vw}:v.own.epoch = v.epoch:=(rfl)
section
variable {E:Calls'}
theorem I79 (d:Dlt) (h:Hp):Sm E TI valI 79 [d.v] h = some (d.vw.v,h):=by
 rw [Sm_v i79 j79]
 simp (decide:=true) [Bd_mk,q79,fillsE]; rfl
theorem I17 (h70:∀ v:Vw,v.ok -> ∃ b:Bool,∀ h,E 70 [v.v] h = some (bl b,h)) (d:Dlt) (hd:d.ok):∃ b:Bool,∀ h,Sm E TI valI 17 [d.v] h = some (bl b,h):=by
 obtain ⟨b,hb⟩:=h70 d.vw hd.1
 have hb:∀ h,Sm E TI valI 70 [d.vw.v] h = some (bl b,h):=fun h=>by rw [Sm_ext i70]; exact hb h
 have n79:=fun h=>I79 (E:=E) d h
 cases b with
 | true =>
  refine ⟨true,fun h=>?_⟩
  rw [Sm_v i17 j17]
  simp (decide:=true) [Bd_mk,q17,n79,hb]
 | false =>
  refine ⟨decide (IntKind.wrap .i64 (IntKind.wrap .i64 (IntKind.wrap .i64 ((d.gonePods.l.length:Int) + d.goneServices.l.length) + d.goneBound.l.length) + d.gonePolicies.l.length) > 1000),fun h=>?_⟩
  rw [Sm_v i17 j17]
  simp (decide:=true) [Bd_mk,q17,n79,hb]
structure BackH (E:Calls'):Prop where
 put:PutH E
 h163:∀ v:Vw,v.ok -> ∀ h,E 163 [v.v] h = some (v.own.v,h)
 h70:∀ v:Vw,v.ok -> ∃ b:Bool,∀ h,E 70 [v.v] h = some (bl b,h)
 h16:∀ h,E 16 [] h = some (bl true,h)
theorem hap3 (L:Nat):apartT [[],[],[],[1,2],[3,1,2],[0,4,3,1,2],[5,0,4,3,1,2],[6,5,0,4,3,1,2],[6,5,0,4,3,1,2],[],[7,6,5,0,4,3,1,2,9],[8,10,7,6,5,0,4,3,1,2,9]]
 [⟨false,false,[0],[],(L + 1),(L + 1),0⟩,⟨false,false,[],[],(L + 1),(L + 1),0⟩,⟨false,false,[],[],(L + 1),(L + 1),0⟩,⟨false,false,[],[],(L + 1),(L + 1),0⟩,⟨false,false,[],[],(L + 1),(L + 1),0⟩,⟨true,false,[],[],(L + 1),(L + 1),0⟩,⟨false,false,[],[],(L + 1),(L + 1),0⟩,⟨false,false,[],[],(L + 1),(L + 1),0⟩,⟨false,false,[],[],(L + 1),(L + 1),0⟩,
  ⟨false,false,[],[],(L + 1),(L + 1) + 1,0⟩,⟨false,false,[(L + 1)],[(L + 1)],(L + 1) + 1,(L + 1) + 1,0⟩,⟨false,false,[],[],(L + 1) + 1,(L + 1) + 1,0⟩] = true:=by
 simp [apartT,Tr.spares,List.range,List.range.loop]
theorem L3 (H:BackH E) (inc:Int) {l:Sl Psh} (hl:l.l.length < 2 ^ 62) (hw:∀ p ∈ l.l,p.delta.ok /\ ∀ q ∈ p.delta.policies.l,q.wf big):∀ (m i:Nat) (x:Idx) (J:List Blk) (lo:Nat),i + m = l.l.length -> Whole x -> x.inc = inc -> x.view.epoch = x.high →
 ∃ h',Cd E TI valI (.loop [1,2,7,10] q3_b0) [(1,.d (u64 inc)),(2,.d (l.d Psh.c)),(7,.ptr 0 0),(10,.d (i64 i))] ⟨.cells (x.c.map .d) :: J,lo⟩ = some (.ret,[(6,bl true)],h') ∨
  Cd E TI valI (.loop [1,2,7,10] q3_b0) [(1,.d (u64 inc)),(2,.d (l.d Psh.c)),(7,.ptr 0 0),(10,.d (i64 i))] ⟨.cells (x.c.map .d) :: J,lo⟩ = some (.exit 0,[],h'):=by
 have e16:∀ h,Sm E TI valI 16 [] h = some (bl true,h):=fun h=>by rw [Sm_ext i16]; exact H.h16 h
 have z14:∀ x:Idx,put [(V.d (i64 0)),(.d (.int .u64 0)),(.d (.int .u64 0)),(.d (.slice true [])),(.d (.int .u64 0)),(.d (.int .u64 0)),(.d (.int .u64 0)),(.d (.int .u64 0)),(.d (.slice true [])),(.d (.slice true [])),(.d (.slice true [])),(.d (.slice true [])),(.d (.slice true [])),(.d (.int .u64 0))] 0 (x.c.map V.d) = some (x.c.map .d):=fun _=>rfl
 have y14:∀ x y:Idx,put (x.c.map V.d) 0 (y.c.map V.d) = some (y.c.map .d):=fun _ _=>rfl
 have hac:∀ k:Ack,∀ h,idxv none 4 (.d (Sl.d Ack.c ⟨false,[k]⟩)) (.d (i64 0)) h = some (.eptr k.c 0,h):=fun _ _=>rfl
 have a0:∀ k:Ack,sub k.c 0 1 = some [u64 k.life]:=fun _=>rfl
 have a1:∀ k:Ack,sub k.c 1 1 = some [u64 k.inc]:=fun _=>rfl
 have a2:∀ k:Ack,sub k.c 2 1 = some [u64 k.seq]:=fun _=>rfl
 have a3:∀ k:Ack,sub k.c 3 1 = some [i64 k.ok]:=fun _=>rfl
 intro m
 have key:=Cd_round (E:=E) (T:=TI) (val:=valI) [1,2,7,10] q3_b0
 generalize Cd E TI valI (.loop [1,2,7,10] q3_b0) = W at key ⊢
 induction m with
 | zero =>
  intro i x J lo hi hx hinc hep
  refine ⟨⟨.cells (x.c.map .d) :: J,lo⟩,.inr ?_⟩
  rw [key]
  simp [q3_b0,show ¬ ((i:Int) < l.l.length) from by omega]
 | succ m ih =>
  intro i x J lo hi hx hinc hep
  have h1:i < l.l.length:=by omega
  have hix:=fun h=>idxv_sl (z:=14) h (List.getElem?_eq_getElem h1) (cells:=Psh.c) rfl
  have hwi:=int_next h1 hl
  have hp:=hw _ (List.getElem_mem h1)
  have h0:((i:Int) < l.l.length):=by omega
  generalize l.l[i] = p at *
  obtain ⟨b,n17⟩:=I17 H.h70 p.delta hp.1
  rw [key]
  cases b with
  | true=>exact ⟨_,.inl (by simp (decide:=true) [q3_b0,hix,h0,n17,e16]; rfl)⟩
  | false =>
   obtain ⟨y,a,⟨hyi,ht⟩,hy,n18⟩:=I18 H.put H.h163 x hx p hp.1 hp.2
   have n19:=fun h=>I19 (E:=E) x y hx.addrs hx.view h
   have hyinc:y.inc = inc:=hyi.trans hinc
   rcases ht with ⟨rfl,rfl⟩ | ⟨rfl,rfl,hpi⟩ | ⟨rfl,hpi,hs,hli,hh,hle,hsq⟩
   · rw [Idx.same_own] at n19
     obtain ⟨h',q⟩:=ih (i + 1) x.own (J ++ [.cells (x.own.c.map .d)]) 0 (by omega) hy hyinc hep
     refine ⟨h',?_⟩
     simp only [List.isEmpty_nil] at n18
     have hl0:∀ h,lenv false (.d (Sl.d Ack.c ⟨true,[]⟩)) h = some (.d (i64 0),h):=fun _=>rfl
     simp (decide:=true) [q3_b0,hix,h0,n17,n18,n19,z14,y14,hl0,hep,hwi,openA,opDE_call,noTr,hap3,apartT_mute,Tr.mute]
     simpa using q
   · rw [Idx.same_own] at n19
     obtain ⟨h',q⟩:=ih (i + 1) x.own (J ++ [.cells (x.own.c.map .d)]) 0 (by omega) hy hyinc hep
     refine ⟨h',?_⟩
     have hpn:p.inc = inc:=hpi.trans hinc
     simp only [List.isEmpty_cons] at n18
     have hl1:∀ k:Ack,∀ h,lenv false (.d (Sl.d Ack.c ⟨false,[k]⟩)) h = some (.d (i64 1),h):=fun _ _=>rfl
     simp (decide:=true) [q3_b0,hix,h0,n17,n18,n19,z14,y14,hl1,hac,a0,a1,a2,a3,hpn,hep,hwi,openA,opDE_call,noTr,hap3,apartT_mute,Tr.mute]
     simpa using q
   · have hE:y.view.epoch = y.high:=by
      rcases hh with ⟨k1,k2⟩ | ⟨_,k2⟩
      · rw [k1,k2,hep]
      · exact k2
     have hH:¬ y.high < x.high:=by
      rcases hh with ⟨k1,_⟩ | ⟨k1,_⟩ <;> omega
     obtain ⟨h',q⟩:=ih (i + 1) y (J ++ [.cells (y.c.map .d)]) 0 (by omega) hy hyinc hE
     refine ⟨h',?_⟩
     have hpn:p.inc = inc:=hpi.trans hinc
     simp only [List.isEmpty_cons] at n18
     have hl1:∀ k:Ack,∀ h,lenv false (.d (Sl.d Ack.c ⟨false,[k]⟩)) h = some (.d (i64 1),h):=fun _ _=>rfl
     have hnl:¬ p.life < x.life:=by omega
     by_cases hsm:p.life = x.life
     · have hns:¬ p.seq < x.seq:=by have:=hsq (by omega); omega
       have hnl2:¬ x.life < x.life:=by omega
       simp (decide:=true) [q3_b0,hix,h0,n17,n18,n19,z14,y14,hl1,hac,a0,a1,a2,a3,hpn,hep,hE,hH,hs,hli,hnl2,hsm,hns,hwi,openA,opDE_call,noTr,hap3,apartT_mute,Tr.mute]
       simpa using q
     · simp (decide:=true) [q3_b0,hix,h0,n17,n18,n19,z14,y14,hl1,hac,a0,a1,a2,a3,hpn,hep,hE,hH,hs,hli,hnl,hsm,hwi,openA,opDE_call,noTr,hap3,apartT_mute,Tr.mute]
       simpa using q
theorem S3 (H:BackH E) (node inc:Int) {l:Sl Psh} (hl:short l) (hw:∀ p ∈ l.l,p.delta.ok /\ ∀ q ∈ p.delta.policies.l,q.wf big) (h:Hp):Sm E TI valI 3 [.d (i64 node),.d (u64 inc),.d (l.d Psh.c)] h = some (bl true,h):=by
 have e16:∀ h,Sm E TI valI 16 [] h = some (bl true,h):=fun h=>by rw [Sm_ext i16]; exact H.h16 h
 have z14:∀ x:Idx,put [(V.d (i64 0)),(.d (.int .u64 0)),(.d (.int .u64 0)),(.d (.slice true [])),(.d (.int .u64 0)),(.d (.int .u64 0)),(.d (.int .u64 0)),(.d (.int .u64 0)),(.d (.slice true [])),(.d (.slice true [])),(.d (.slice true [])),(.d (.slice true [])),(.d (.slice true [])),(.d (.int .u64 0))] 0 (x.c.map V.d) = some (x.c.map .d):=fun _=>rfl
 have z3:∀ x:Sbs,put [(V.d (.int .u64 0)),(.d (.int .u64 0)),(.d (.slice true []))] 0 (x.c.map V.d) = some (x.c.map .d):=fun _=>rfl
 have n15:=fun h=>I15 H.h163 node inc 0 h
 rw [Sm_v i3 j3]
 cases hok:newOk node inc with
 | false =>
  simp only [hok] at n15
  simp (decide:=true) [Bd_mk,q3,n15,z14,z3,e16]
 | true =>
  simp only [hok,if_true] at n15
  by_cases h50:(l.l.length:Int) > 50
  · simp (decide:=true) [Bd_mk,q3,n15,z14,z3,e16,h50]
  · have hx0:Whole (newI node inc 0):=⟨⟨Nat.zero_le _,fun _=>rfl⟩,vw0_ok,fun p hp=>by cases hp⟩
    obtain ⟨h',q⟩:=L3 H inc hl.lt hw l.l.length 0 (newI node inc 0) [.cells ((Sbs.c ⟨inc,1,⟨true,[]⟩⟩).map .d)] 0 (by omega) hx0 rfl rfl
    have hn:¬ 50 < l.l.length:=by omega
    rw [show ((0:Nat):Int) = 0 from rfl] at q
    rcases q with q | q
    · simp (decide:=true) [Bd_mk,q3,n15,z14,z3,e16,h50,hn]
      rw [Cd_keep]
      simp (decide:=true) [q]
    · simp (decide:=true) [Bd_mk,q3,n15,z14,z3,e16,h50,hn]
      rw [Cd_keep]
      simp (decide:=true) [q,e16]
end
end Go.Proofs.YtmnfjejphmmddaaGreat
