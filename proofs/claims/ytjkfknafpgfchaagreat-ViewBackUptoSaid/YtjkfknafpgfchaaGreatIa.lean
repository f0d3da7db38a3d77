/- view.put, view.apart, view.rising at uint64, at any width. -/
import Derived.Test.YtjkfknafpgfchaaGreatQt
import Derived.Test.YtjkfknafpgfchaaGreatOa
import Derived.Test.YtjkfknafpgfchaaGreatWo
import Derived.Test.YtjkfknafpgfchaaGreatWa
import Derived.Test.YtjkfknafpgfchaaGreatF6
import Derived.Test.YtjkfknafpgfchaaGreatF7
import Derived.KernelRfl
set_option maxRecDepth 100000
set_option linter.unusedVariables false
set_option linter.unusedSimpArgs false
namespace Go.Proofs.YtjkfknafpgfchaaGreat
section
def aY (n:Int):List D:=[u64 n]
section
variable {E:Calls'} {T:FuncId -> Option QF} {val:FuncId -> Bool}
def KeptP {α:Type} (cells:α -> List D) (z n:Nat) (nl:Bool) (l:List α) (bs:List Blk) (v:V):Prop :=
 (nl = true /\ l = [] /\ v = .d (.slice true [])) \/ (nl = false /\ ∃ B cap rest,n <= B /\ v = .row B 0 l.length cap z /\ ah bs B = some (flat (l.map cells) ++ rest) /\ ((cap = some 0 /\ l = []) \/ (cap = none /\ 0 < (flat (l.map cells) ++ rest).length)))
theorem KeptP.nu {α:Type} {cells:α -> List D} {z n:Nat} {nl:Bool} {l:List α} {bs:List Blk} {v:V} (h:KeptP cells z n nl l bs v):Go.Proofs.YtjkfknafpgfchaaGreat.nu v = some v /\ okV v = true:=by
 rcases h with ⟨_,_,rfl⟩ | ⟨_,B,cap,rest,_,rfl,_⟩ <;> exact ⟨rfl,rfl⟩
theorem BB {α:Type} {cells:α -> List D} {z b cl clos del idx id:Nat} {zero:List V} (tcl:T cl = some (cloneQ z b zero)) (vcl:val cl = false) (tdel:T del = some (delQ z idx zero)) (vdel:val del = false) (tidx:T idx = some (idxQ z)) (vidx:val idx = false)
 (tc:T clos = some (notQ z)) (vc:val clos = false) (tid:T id = some (keepQ cl clos del)) (vid:val id = false) (hz:∀ x,(cells x).length = z) (hz0:0 < z) (hzero:zero.length = z) (hb:b <= 4096) {s:Sl α} (hs:short s) {f:FuncId} {caps:List V} {q:α -> Bool} {h:Hp}
 (hq:∀ e ∈ s.l,∀ bs lo,h.bs.length <= bs.length -> (∀ x,x < h.bs.length -> bs[x]? = h.bs[x]?) -> Sm E T val f (ag (cells e) :: caps) ⟨bs,lo⟩ = some (bl (q e),⟨bs,lo⟩)) :
 ∃ r bs' lo',Sm E T val id [.d (s.d cells),.fn f caps] h = some (r,⟨bs',lo'⟩) /\ h.bs.length <= bs'.length /\ (∀ x,x < h.bs.length -> bs'[x]? = h.bs[x]?) /\ KeptP cells z h.bs.length s.nl (s.l.filter q) bs' r:=by
 obtain ⟨bs,lo0⟩:=h;simp only at hq ⊢;obtain ⟨nl,l⟩:=s;simp only at hq ⊢;have hcl:=kK (E:=E) (T:=T) (val:=val) tcl vcl hz0 hb (nl:=nl) (es:=l.map cells) (by simp; intro a _; exact hz a) (by simpa using hs.1) ⟨bs ++ [.cells [.fn f caps]],bs.length⟩;have hlen:l.length < 2 ^ 62:=hs.lt;have hout:∀ {r:V} {bs':List Blk} {lo':Nat},r.under bs.length = false -> iR ⟨bs,lo0⟩ (some (r,⟨bs',lo'⟩)) = some (r,⟨bs',min lo0 lo'⟩):=fun hu=>by
  rw [nU,if_neg (fun hh=>by rw [hu] at hh; cases hh.2)]
 have hun:∀ {B o n z:Nat} {cap:Option Nat},bs.length <= B -> V.under bs.length (.row B o n cap z) = false:=fun h=>by simp [V.under]; omega
 rw [aB tid vid];cases nl with
 | true =>
  have hl:=hs.2 rfl;simp at hl;subst hl;have h1:=mO (E:=E) (T:=T) (val:=val) cells (es:=[]) (z:=z) (idx:=idx) (zero:=zero) tidx vidx tdel vdel (v:=.d (.slice true [])) (f:=clos) (caps:=[.ptr bs.length 0]) (q:=fun _=>false) (h:=⟨bs ++ [.cells [.fn f caps]],bs.length⟩) ⟨by simp,.inl ⟨true,rfl⟩⟩ (by simp) (by simp) (by simp);simp [dA] at hcl;refine ⟨.d (.slice true []),bs,lo0,?_,Nat.le_refl _,fun _ _=>rfl,.inl ⟨rfl,by simp,rfl⟩⟩;simp [af,keepQ,Sl.d,hcl,h1,V.under,bE]
 | false =>
  cases hll:l with
  | nil =>
   subst hll;have h1:=fun lo=>mO (E:=E) (T:=T) (val:=val) cells (es:=[]) (z:=z) (idx:=idx) (zero:=zero) tidx vidx tdel vdel (v:=.row (bs.length + 1) 0 0 (some 0) z) (f:=clos) (caps:=[.ptr bs.length 0]) (q:=fun _=>false) (h:=⟨bs ++ [.cells [.fn f caps],.cells []],lo⟩) ⟨by simp,.inr ⟨bs.length + 1,0,some 0,[],rfl,by unfold ah; rw [List.getElem?_append_right (by omega)]; simp,by simp [gP]⟩⟩ (by simp) (by simp) (by simp);simp [dA] at hcl;refine ⟨.row (bs.length + 1) 0 0 (some 0) z,bs ++ [.cells [.fn f caps],.cells []],min lo0 bs.length,?_,by simp,fun x hx=>by rw [List.getElem?_append_left hx],.inr ⟨rfl,bs.length + 1,some 0,[],by omega,rfl,by unfold ah; rw [List.getElem?_append_right (by omega)]; simp,.inl ⟨rfl,rfl⟩⟩⟩;refine Eq.trans ?_ (hout (lo':=bs.length) (hun (by omega)))
   congr 1
   simp [af,keepQ,Sl.d,hcl,h1,bE]
  | cons p l' =>
   have hne:l ≠ []:=by rw [hll]; simp
   have hLz:0 < l.length * z:=Nat.mul_pos (List.length_pos_iff.2 hne) hz0;rw [← hll];have hc2:dA z false (l.map cells) (bs ++ [.cells [.fn f caps]]) bs.length = (.row (bs.length + 2) 0 l.length none z,⟨bs ++ [.cells [.fn f caps],.cells [],.cells (flat (l.map cells))],bs.length⟩):=by
    rw [hll]; simp [dA]
   rw [hc2] at hcl;simp at hcl;have hbF:ah (bs ++ [.cells [.fn f caps],.cells [],.cells (flat (l.map cells))]) (bs.length + 2) = some (flat (l.map cells)):=by unfold ah; rw [List.getElem?_append_right (by omega)]; simp
   have hold:∀ x,x < bs.length -> (bs ++ [Blk.cells [.fn f caps],.cells [],.cells (flat (l.map cells))])[x]? = bs[x]?:=fun x hx=>by rw [List.getElem?_append_left hx]
   have hcall:∀ e ∈ l,∀ bs2 lo2,bs.length + 3 <= bs2.length -> (∀ x,x ≠ bs.length + 2 -> x < bs.length + 3 -> bs2[x]? = (bs ++ [.cells [.fn f caps],.cells [],.cells (flat (l.map cells))])[x]?) -> Sm E T val clos (.agg ((cells e).map .d) :: [.ptr bs.length 0]) ⟨bs2,lo2⟩ = some (.d (.bool (!q e)),⟨bs2,lo2⟩):=by
    intro e he bs2 lo2 hle ho;refine QD tc vc (hz e) (f:=f) (caps:=caps) (p:=q e) ?_ fun ys lo=>?_
    · have:=ho bs.length (by omega) (by omega);simp only [ah];rw [this,List.getElem?_append_right (by omega)]; simp
    · refine hq e he _ lo (by simp; omega) fun x hx=>?_;simp only;rw [List.getElem?_append_left (by omega),ho x (by omega) (by omega)];exact hold x hx
   have hnn:(l.filter fun e=>!(!q e)) = l.filter q:=by simp
   by_cases hqq:∃ e ∈ l,(!q e) = true
   · obtain ⟨bs',lo',rest,k1,k2,k3,k4,k5,k6⟩:=zh (E:=E) (T:=T) (val:=val) hz hz0 hzero tidx vidx tdel vdel (es:=l) (b:=bs.length + 2) (cap:=none) (f:=clos) (caps:=[.ptr bs.length 0]) (q:=fun e=>!q e) (h:=⟨bs ++ [.cells [.fn f caps],.cells [],.cells (flat (l.map cells))],bs.length⟩) hbF hlen (fun e he bs2 lo2 a b=>hcall e he bs2 lo2 (by simpa using a) (fun x h1 h2=>b x h1 (by simp; omega))) hqq;rw [hnn] at k1 k4;refine ⟨.row (bs.length + 2) 0 (l.filter q).length none z,bs',min lo0 lo',?_,by simp at k2; omega,fun x hx=>by rw [k3 x (by omega) (by simp; omega)]; exact hold x hx,.inr ⟨rfl,bs.length + 2,none,rest,by omega,rfl,k4,.inr ⟨rfl,by rw [List.length_append,bD hz,k6,hnn,← Nat.add_mul,Nat.add_sub_cancel' (List.length_filter_le _ _)]; exact hLz⟩⟩⟩;refine Eq.trans ?_ (hout (lo':=lo') (hun (by omega)))
     congr 1
     simp [af,keepQ,Sl.d,hcl,k1,bE]
   · have hall:∀ e ∈ l,(!q e) = false:=by
      intro e he;cases hh:(!q e) with
      | false=>rfl
      | true=>exact absurd ⟨e,he,hh⟩ hqq
     have hK:l.filter q = l:=List.filter_eq_self.2 fun e he=>by have:=hall e he; simpa using this
     have h1:=mO (E:=E) (T:=T) (val:=val) cells (es:=l) (z:=z) (idx:=idx) (zero:=zero) tidx vidx tdel vdel (v:=.row (bs.length + 2) 0 l.length none z) (f:=clos) (caps:=[.ptr bs.length 0]) (q:=fun e=>!q e) (h:=⟨bs ++ [.cells [.fn f caps],.cells [],.cells (flat (l.map cells))],bs.length⟩)
      ⟨by simp; intro a _; exact hz a,.inr ⟨bs.length + 2,0,none,_,by simp,hbF,by
       rw [gP,if_pos (by rw [bD hz]; simp),List.drop_zero,List.length_map,← bD hz,List.take_length]; rfl⟩⟩ hlen (fun e he lo2=>hcall e he _ lo2 (by simp) fun _ _ _=>rfl) hall
     rw [hK];refine ⟨.row (bs.length + 2) 0 l.length none z,bs ++ [.cells [.fn f caps],.cells [],.cells (flat (l.map cells))],min lo0 bs.length,?_,by simp,hold,.inr ⟨rfl,bs.length + 2,none,[],by omega,rfl,by rw [hbF]; simp,.inr ⟨rfl,by rw [List.append_nil,bD hz]; exact hLz⟩⟩⟩;refine Eq.trans ?_ (hout (lo':=bs.length) (hun (by omega)))
     congr 1
     simp [af,keepQ,Sl.d,hcl,h1,bE]
theorem Fb {α:Type} {cells:α -> List D} {z b:Nat} (hz:∀ x,(cells x).length = z) (hz0:0 < z) (hb:b <= 4096) {n:Nat} {nl:Bool} {K:List α} {bs:List Blk} {v:V} (hk:KeptP cells z n nl K bs v) (fr:Sl α) (hfr:fit big fr) (hlen:K.length + fr.l.length <= big) (hn:n <= bs.length) :
 ∃ (v':V) (bs':List Blk) (f:Nat -> Nat),(∀ lo,dZ ⟨bs,lo⟩ z b v (.d (fr.d cells)) = some (v',⟨bs',f lo⟩)) /\ (∀ y,y < n -> bs'[y]? = bs[y]?) ∧
  ((nl = true /\ K ++ fr.l = [] /\ v' = .d (.slice true [])) \/ ((nl && fr.l.isEmpty) = false /\ ∃ B cap rest,n <= B /\ v' = .row B 0 (K ++ fr.l).length cap z /\ ah bs' B = some (flat ((K ++ fr.l).map cells) ++ rest))):=by
 have hall:((fr.l.map cells).all fun e=>e.length == z) = true:=List.all_eq_true.2 fun x hx=>by
  obtain ⟨y,_,rfl⟩:=List.mem_map.1 hx;simp [hz y]
 have hrc:∀ lo,aF ⟨bs,lo⟩ (.d (fr.d cells)) z = some (fr.l.length,flat (fr.l.map cells)):=fun lo=>by
  simp only [Sl.d,aF,hall,if_true,flat,List.length_map]
 have hroom:∀ n,n <= big -> roomy n b = true:=fun n hn=>by simp only [roomy,Bool.and_eq_true,decide_eq_true_eq]; exact ⟨hn,hb⟩
 have hzz:¬ z = 0:=by omega
 have hfl:=bD hz fr.l;rcases Nat.eq_zero_or_pos fr.l.length with h0 | h0
 · have hf0:fr.l = []:=List.eq_nil_of_length_eq_zero h0;rcases hk with ⟨h1,h2,rfl⟩ | ⟨h1,B,cap,rest,h2,rfl,h3,h4⟩
   · refine ⟨.d (.slice true []),bs,fun lo=>lo,fun lo=>by simp only [dZ,hrc,h0,aC,if_true],fun _ _=>rfl,.inl ⟨h1,by rw [h2,hf0]; rfl,rfl⟩⟩
   · refine ⟨.row B 0 K.length cap z,bs,fun lo=>lo,fun lo=>by simp only [dZ,hrc,h0,aC,ne_eq,not_true_eq_false,false_or,if_neg hzz,if_true],fun _ _=>rfl,.inr ⟨by simp [h1],B,cap,rest,h2,by rw [hf0,List.append_nil],by rw [hf0,List.append_nil]; exact h3⟩⟩
 · have hm0:¬ fr.l.length = 0:=by omega
   have hne:fr.l ≠ []:=List.length_pos_iff.1 h0;have hie:fr.l.isEmpty = false:=by cases hc:fr.l with | nil=>exact absurd hc hne | cons _ _=>rfl
   have hcat:flat ((K ++ fr.l).map cells) = flat (K.map cells) ++ flat (fr.l.map cells):=by rw [List.map_append,kW]
   have hcat2:flat (K.map cells ++ fr.l.map cells) = flat (K.map cells) ++ flat (fr.l.map cells):=kW _ _;have hKl:=bD hz K;rcases hk with ⟨h1,h2,rfl⟩ | ⟨h1,B,cap,rest,h2,rfl,h3,h4⟩
   · subst h2;refine ⟨.row bs.length 0 fr.l.length none z,bs ++ [.cells (flat (fr.l.map cells))],fun lo=>lo,fun lo=>by simp only [dZ,hrc,aC,if_neg hm0,if_neg hzz,hroom fr.l.length (by simpa using hlen),if_true]; rfl,fun y hy=>by rw [List.getElem?_append_left (by omega)],.inr ⟨by simp [hie],bs.length,none,[],hn,rfl,by simp [dF]⟩⟩
   · have hBl:=aP h3;have hs:sub (flat (K.map cells) ++ rest) 0 (K.length * z) = some (flat (K.map cells)):=by
      rw [gP,if_pos (by rw [List.length_append,hKl]; omega),List.drop_zero,← hKl,List.take_left]
     rcases h4 with ⟨rfl,rfl⟩ | ⟨rfl,h5⟩
     · simp only [List.map_nil,sw,List.nil_append,List.length_nil,Nat.zero_mul] at h3 hs hlen;refine ⟨.row bs.length 0 (0 + fr.l.length) none z,bs ++ [.cells ([] ++ flat (fr.l.map cells))],fun lo=>lo,fun lo=>by simp only [dZ,hrc,aC,ne_eq,not_true_eq_false,false_or,if_neg hm0,if_neg hzz,get_eq,h3,List.length_nil,Nat.zero_mul,hs,hroom (0 + fr.l.length) (by omega),Bool.not_true,Bool.false_eq_true,if_false,if_neg (show ¬ (0 + fr.l.length <= 0) by omega)]; rfl,fun y hy=>by rw [List.getElem?_append_left (by omega)],.inr ⟨by simp [hie],bs.length,none,[],hn,by simp,by simp [dF]⟩⟩
     · by_cases hfit:0 + (K.length + fr.l.length) * z <= (flat (K.map cells) ++ rest).length
       · have hno:¬ (True /\ (flat (K.map cells)).length = (flat (K.map cells) ++ rest).length /\ 0 < (flat (K.map cells) ++ rest).length):=by
          have:0 < fr.l.length * z:=Nat.mul_pos h0 hz0;rw [Nat.add_mul] at hfit;rw [hKl];omega
         have hput:put (flat (K.map cells) ++ rest) (0 + K.length * z) (flat (fr.l.map cells)) = some (flat (K.map cells) ++ flat (fr.l.map cells) ++ rest.drop (fr.l.length * z)):=by
          rw [Nat.add_mul] at hfit;unfold put;rw [if_pos (by rw [hfl]; omega),Nat.zero_add,← hKl,List.take_left,List.drop_append,List.drop_eq_nil_of_le (by omega),Nat.add_sub_cancel_left,hfl];simp
         refine ⟨.row B 0 (K.length + fr.l.length) none z,bs.set B (.cells (flat (K.map cells) ++ flat (fr.l.map cells) ++ rest.drop (fr.l.length * z))),fun lo=>min lo B,fun lo=>by simp only [dZ,hrc,aC,ne_eq,not_true_eq_false,false_or,if_neg hm0,if_neg hzz,get_eq,h3,hs,hroom (K.length + fr.l.length) (by omega),Bool.not_true,Bool.false_eq_true,if_false,if_neg hno,if_pos hfit,hput]; rfl,fun y hy=>by rw [List.getElem?_set_ne (by omega)],.inr ⟨by simp [hie],B,none,rest.drop (fr.l.length * z),h2,by simp,by simp [ah,hBl,hcat2]⟩⟩
       · refine ⟨.row bs.length 0 (K.length + fr.l.length) none z,bs.set B (.cells []) ++ [.cells (flat (K.map cells) ++ flat (fr.l.map cells))],fun lo=>min lo B,fun lo=>?_,fun y hy=>by rw [List.getElem?_append_left (by simp; omega),List.getElem?_set_ne (by omega)],.inr ⟨by simp [hie],bs.length,none,[],hn,by simp,?_⟩⟩
         · by_cases hfull:(flat (K.map cells)).length = (flat (K.map cells) ++ rest).length
           · simp only [dZ,hrc,aC,ne_eq,not_true_eq_false,false_or,if_neg hm0,if_neg hzz,get_eq,h3,hs,hroom (K.length + fr.l.length) (by omega),Bool.not_true,Bool.false_eq_true,if_false,if_pos (show True /\ (flat (K.map cells)).length = (flat (K.map cells) ++ rest).length /\ 0 < (flat (K.map cells) ++ rest).length from ⟨trivial,hfull,h5⟩),Hp.size,Hp.alloc,Hp.set,List.length_set]
           · simp only [dZ,hrc,aC,ne_eq,not_true_eq_false,false_or,if_neg hm0,if_neg hzz,get_eq,h3,hs,hroom (K.length + fr.l.length) (by omega),Bool.not_true,Bool.false_eq_true,if_false,if_neg (show ¬ (True /\ (flat (K.map cells)).length = (flat (K.map cells) ++ rest).length /\ 0 < (flat (K.map cells) ++ rest).length) from fun hh=>hfull hh.2.1),if_neg hfit,if_pos (show True /\ 0 < (flat (K.map cells) ++ rest).length from ⟨trivial,h5⟩),Hp.size,Hp.alloc,Hp.set,List.length_set]
         · have:=dF (bs:=bs.set B (.cells [])) (ys:=[.cells (flat (K.map cells) ++ flat (fr.l.map cells))]);rw [List.length_set] at this;rw [this,hcat,List.append_nil]; rfl
def gD {α:Type} (key:α -> Int) (fresh:List α) (gone:List Int) (e:α):Bool:=!iI gone (key e) && !fresh.any fun y=>key e == key y
def df {α:Type} (key:α -> Int) (l fresh:List α) (gone:List Int):List α:=((l.filter (gD key fresh gone)) ++ fresh).mergeSort fun a b=>decide (key a <= key b)
theorem Oe {α:Type} {cells:α -> List D} {z c idf:FuncId} {key:α -> Int} (ht:T c = some (vpeQ z)) (hv:val c = false) {x y:α} (hx:(cells x).length = z) (hy:(cells y).length = z) (hid:∀ e,e = x \/ e = y -> ∀ h,Sm E T val idf [ag (cells e)] h = some (.d (u64 (key e)),h)) {p r:Nat} {h:Hp} (hp:ah h.bs p = some [.fn idf []]) (hr:ah h.bs r = some ((cells x).map .d)) :
 Sm E T val c [ag (cells y),.ptr p 0,.ptr r 0] h = some (bl (key x == key y),h):=by
 rw [aB ht hv];have hsx:=qH hx;have hsy:=qH hy;have h1:=hid x (.inl rfl);have h2:=hid y (.inr rfl);simp [vpeQ,af,aN,aD,aV,fF,Tr.mute,au hp,au hr,h1,h2,hsx,hsy,V.under]
theorem XD {α:Type} {cells:α -> List D} {z c c11 con sm any idx idf:FuncId} {key:α -> Int} (ht:T c = some (vpcQ z con c11 sm)) (hv:val c = false) (ht1:T c11 = some (vpeQ z)) (hv1:val c11 = false) (ts:T sm = some (someQ any)) (vs:val sm = false) (ta:T any = some (anyQ idx)) (va:val any = false) (ti:T idx = some (idxQ z)) (vi:val idx = false)
 (hz:∀ x,(cells x).length = z) {fresh:Sl α} (hs:short fresh) {gone:Sl Int} (hcon:∀ n h,Sm E T val con [.d (gone.d aY),.d (u64 n)] h = some (bl (iI gone.l n),h)) {x:α} (hid:∀ e,e = x \/ e ∈ fresh.l -> ∀ h,Sm E T val idf [ag (cells e)] h = some (.d (u64 (key e)),h))
 {p r f:Nat} {h:Hp} (hr:ah h.bs r = some [.d (gone.d aY)]) (hp:ah h.bs p = some [.fn idf []]) (hf:ah h.bs f = some [.d (fresh.d cells)]) :
 Sm E T val c [ag (cells x),.ptr r 0,.ptr p 0,.ptr f 0] h = some (bl (gD key fresh.l gone.l x),h):=by
 have hsx:=qH (hz x);have h1:=hid x (.inl rfl);have hcl:∀ y ∈ fresh.l,∀ lo,Sm E T val c11 (.agg ((cells y).map .d) :: [.ptr p 0,.ptr h.bs.length 0]) ⟨h.bs ++ [.cells ((cells x).map .d)],lo⟩ = some (.d (.bool (key x == key y)),⟨h.bs ++ [.cells ((cells x).map .d)],lo⟩):=fun y hy lo =>
  Oe ht1 hv1 (hz x) (hz y) (fun e he=>hid e (by rcases he with rfl | rfl; exact .inl rfl; exact .inr hy)) (au hp) (by rw [dF]; rfl)
 have hsm:∀ lo,Sm E T val sm [.d (fresh.d cells),.fn c11 [.ptr p 0,.ptr h.bs.length 0]] ⟨h.bs ++ [.cells ((cells x).map .d)],lo⟩ = some (bl (fresh.l.any fun y=>key x == key y),⟨h.bs ++ [.cells ((cells x).map .d)],lo⟩):=fun lo =>
  kM ts vs rfl rfl (mF cells ti vi ta va (h:=⟨h.bs ++ [.cells ((cells x).map .d)],(h.bs ++ [Blk.cells ((cells x).map .d)]).length⟩) (RowIs.of hz _) hs.lt fun e he lo=>hcl e he lo)
 rw [aB ht hv];unfold gD;cases hg:iI gone.l (key x) <;> simp [vpcQ,af,aN,aD,aV,fF,Tr.mute,aG,au hp,au hr,au hf,h1,hsx,hcon,hg,hsm,V.under]
theorem uR {α:Type} {cells:α -> List D} {z b c1 c11 con sm any keep cl clos del idx g srt idf id:FuncId} {zero:List V} {key:α -> Int} (tcl:T cl = some (cloneQ z b zero)) (vcl:val cl = false) (tdel:T del = some (delQ z idx zero)) (vdel:val del = false) (ti:T idx = some (idxQ z)) (vi:val idx = false)
 (tn:T clos = some (notQ z)) (vn:val clos = false) (tk:T keep = some (keepQ cl clos del)) (vk:val keep = false) (t1:T c1 = some (vpcQ z con c11 sm)) (v1:val c1 = false) (t11:T c11 = some (vpeQ z)) (v11:val c11 = false) (ts:T sm = some (someQ any)) (vs:val sm = false) (ta:T any = some (anyQ idx)) (va:val any = false)
 (tid:T id = some (vputQ z b c1 keep g srt)) (vid:val id = true) {p:Nat} (hS:∀ {h:Hp} {B n:Nat} {cap:Option Nat},0 < n -> Sm E T val srt [.row B 0 n cap z,.fn g [.ptr 2 0]] h = gL ⟨z,p,g,idf⟩ [.row B 0 n cap z,.fn g [.ptr 2 0]] h)
 (hS0:∀ v,v = .d (.slice true []) \/ (∃ B cap,v = .row B 0 0 cap z) -> ∀ h,Sm E T val srt [v,.fn g [.ptr 2 0]] h = some (.tup [],h))
 (hz:∀ x,(cells x).length = z) (hz0:0 < z) (hzero:zero.length = z) (hb:b <= 4096) (hkey:∀ x,(cells x)[p]? = some (.int .u64 (key x))) {l fresh:Sl α} (hl:short l) (hf:short fresh) (hlf:l.l.length + fresh.l.length <= big) {gone:Sl Int}
 (hcon:∀ n h,Sm E T val con [.d (gone.d aY),.d (u64 n)] h = some (bl (iI gone.l n),h)) (hid:∀ e,e ∈ l.l \/ e ∈ fresh.l -> ∀ h,Sm E T val idf [ag (cells e)] h = some (.d (u64 (key e)),h)) (hnd:(((l.l.filter (gD key fresh.l gone.l)) ++ fresh.l).map key).Nodup) :
 ∃ nl,(nl = true -> df key l.l fresh.l gone.l = []) /\ ∀ h,Sm E T val id [.d (l.d cells),.d (fresh.d cells),.d (gone.d aY),.fn idf []] h = some (.d (.slice nl ((df key l.l fresh.l gone.l).map cells)),h):=by
 have hfr:∀ h,frz h (.fn idf []) = some (.fn idf []):=fun _=>rfl;have hpf:cO (.fn idf []) = true:=rfl;obtain ⟨r,bs1,lo1,k1,k2,k3,k4⟩:=BB (E:=E) (T:=T) (val:=val) tcl vcl tdel vdel ti vi tn vn tk vk hz hz0 hzero hb hl (f:=c1) (caps:=[.ptr 1 0,.ptr 2 0,.ptr 0 0]) (q:=gD key fresh.l gone.l) (h:=⟨[.cells [.d (fresh.d cells)],.cells [.d (gone.d aY)],.cells [.fn idf []]],0⟩) fun e he bs lo hle ho=>by
  simp only [List.length_cons,List.length_nil] at hle ho;refine XD t1 v1 t11 v11 ts vs ta va ti vi hz hf hcon (fun x hx=>hid x (by rcases hx with rfl | hx; exact .inl he; exact .inr hx)) ?_ ?_ ?_
  · simp only [ah]; rw [ho 1 (by decide)]; rfl
  · simp only [ah]; rw [ho 2 (by decide)]; rfl
  · simp only [ah]; rw [ho 0 (by decide)]; rfl
 simp only [List.length_cons,List.length_nil] at k2 k3 k4;have hkl:=List.length_filter_le (gD key fresh.l gone.l) l.l;obtain ⟨v2,bs2,f,a1,a2,a3⟩:=Fb hz hz0 hb k4 fresh hf (by omega) k2;have hb10:ah bs1 0 = some [.d (fresh.d cells)]:=by simp only [ah]; rw [k3 0 (by decide)]; rfl
 have hb2:ah bs2 2 = some [.fn idf []]:=by simp only [ah]; rw [a2 2 (by decide),k3 2 (by decide)]; rfl
 have hnur:=k4.nu;have hPV:df key l.l fresh.l gone.l = ((l.l.filter (gD key fresh.l gone.l)) ++ fresh.l).mergeSort fun a b=>decide (key a <= key b):=rfl;generalize df key l.l fresh.l gone.l = PV at *;generalize l.l.filter (gD key fresh.l gone.l) = K at *;rcases a3 with ⟨g1,g2,rfl⟩ | ⟨g1,B,cap,rest,g2,rfl,g3⟩
 · have hP0:PV = []:=by rw [hPV,g2,List.mergeSort_nil]
   have hsrt:=fun h=>hS0 (.d (.slice true [])) (.inl rfl) h;refine ⟨true,fun _=>hP0,fun h=>?_⟩;rw [bf tid vid];simp [vputQ,af,hfr,k1,hb10,hnur.1,hnur.2,a1,hsrt,hP0,hpf]
 · rcases Nat.eq_zero_or_pos (K ++ fresh.l).length with h0 | h0
   · have hKF:K ++ fresh.l = []:=List.eq_nil_of_length_eq_zero h0;have hP0:PV = []:=by rw [hPV,hKF,List.mergeSort_nil]
     have hsrt:=fun h=>hS0 (.row B 0 0 cap z) (.inr ⟨B,cap,rfl⟩) h;rw [h0] at a1;rw [hKF] at g3;have hdv:=fun lo2=>dI (h:=⟨bs2,lo2⟩) (k:=7) (b:=B) (n:=0) (cap:=cap) (z:=z) (es:=[]) (rest:=rest) (by simp) rfl (by simpa using g3);refine ⟨false,(fun hh=>by cases hh),fun h=>?_⟩;rw [bf tid vid];simp [vputQ,af,hfr,k1,hb10,hnur.1,hnur.2,a1,hsrt,hP0,hpf,hdv]
   · have hne:K ++ fresh.l ≠ []:=List.length_pos_iff.1 h0;have hst:=fun lo2=>Eu (g:=g) (idf:=idf) (p:=p) hz hkey (L:=K ++ fresh.l) hnd hne (by rw [List.length_append]; simp only [big] at hlf; omega) (h:=⟨bs2,lo2⟩) (b:=B) (c:=2) (cap:=cap) (rest:=rest) g3 hb2 (by omega);rw [← hPV] at hst;have hsm:∀ lo2,Sm E T val srt [.row B 0 (K ++ fresh.l).length cap z,.fn g [.ptr 2 0]] ⟨bs2,lo2⟩ = some (.tup [],⟨bs2.set B (.cells (flat (PV.map cells) ++ rest)),min lo2 B⟩):=fun lo2=>by
      rw [hS h0];exact hst lo2
     have hbl:=aP g3;have hpl:PV.length = (K ++ fresh.l).length:=by rw [hPV,List.length_mergeSort]
     have hwp:∀ e ∈ PV.map cells,e.length = z:=by simp; intro a _; exact hz a
     have hdv:=fun lo2=>dI (h:=⟨bs2.set B (.cells (flat (PV.map cells) ++ rest)),lo2⟩) (k:=7) (b:=B) (n:=(K ++ fresh.l).length) (cap:=cap) (z:=z) (es:=PV.map cells) (rest:=rest) hwp (by simp [hpl]) (by simp [ah,hbl]);generalize (K ++ fresh.l).length = N at *;refine ⟨false,(fun hh=>by cases hh),fun h=>?_⟩;rw [bf tid vid];simp [vputQ,af,hfr,k1,hb10,hnur.1,hnur.2,a1,hsm,hdv,hpf]
theorem Qz {α:Type} {cells:α -> List D} {z c con idf:FuncId} {key:α -> Int} (ht:T c = some (apacQ z con)) (hv:val c = false) {x:α} (hx:(cells x).length = z) {gone:Sl Int} (hcon:∀ n h,Sm E T val con [.d (gone.d aY),.d (u64 n)] h = some (bl (iI gone.l n),h)) (hid:∀ h,Sm E T val idf [ag (cells x)] h = some (.d (u64 (key x)),h)) {p r:Nat} {h:Hp} (hr:ah h.bs r = some [.d (gone.d aY)]) (hp:ah h.bs p = some [.fn idf []]) :
 Sm E T val c [ag (cells x),.ptr r 0,.ptr p 0] h = some (bl (iI gone.l (key x)),h):=by
 have hsx:=qH hx;rw [aB ht hv];simp [apacQ,af,aN,aD,aV,fF,Tr.mute,au hp,au hr,hid,hsx,hcon,V.under]
def fK {α:Type} (key:α -> Int) (gone:List Int) (most:Int) (l:List α):Bool:=(bH gone && decide ((gone.length:Int) <= most)) && !l.any fun x=>iI gone (key x)
theorem uP {α:Type} {cells:α -> List D} {z c con clo ris slf sm any idx idf:FuncId} {key:α -> Int} (ht:T c = some (aparQ ris slf clo sm)) (hv:val c = true) (tc:T clo = some (apacQ z con)) (vc:val clo = false) (ts:T sm = some (someQ any)) (vs:val sm = false) (ta:T any = some (anyQ idx)) (va:val any = false) (ti:T idx = some (idxQ z)) (vi:val idx = false)
 (hz:∀ x,(cells x).length = z) {gone:Sl Int} {most:Int} (hris:∀ h,Sm E T val ris [.d (gone.d aY),.d (i64 most),.fn slf []] h = some (bl (bH gone.l && decide ((gone.l.length:Int) <= most)),h)) (hcon:∀ n h,Sm E T val con [.d (gone.d aY),.d (u64 n)] h = some (bl (iI gone.l n),h))
 {l:Sl α} (hl:short l) (hid:∀ e ∈ l.l,∀ h,Sm E T val idf [ag (cells e)] h = some (.d (u64 (key e)),h)) (h:Hp) :
 Sm E T val c [.d (gone.d aY),.d (i64 most),.d (l.d cells),.fn idf []] h = some (bl (fK key gone.l most l.l),h):=by
 have hfr:frz h (.fn idf []) = some (.fn idf []):=rfl;have hpf:cO (.fn idf []) = true:=rfl;have hsm:∀ lo,Sm E T val sm [.d (l.d cells),.fn clo [.ptr 0 0,.ptr 1 0]] ⟨[.cells [.d (gone.d aY)],.cells [.fn idf []]],lo⟩ = some (bl (l.l.any fun x=>iI gone.l (key x)),⟨[.cells [.d (gone.d aY)],.cells [.fn idf []]],lo⟩):=fun lo =>
  kM ts vs rfl rfl (mF cells ti vi ta va (h:=⟨[.cells [.d (gone.d aY)],.cells [.fn idf []]],2⟩) (RowIs.of hz _) hl.lt fun e he lo=>Qz tc vc (hz e) hcon (hid e he) (by simp) (by simp))
 rw [bf ht hv];unfold fK;cases hr:(bH gone.l && decide ((gone.l.length:Int) <= most)) <;> simp [aparQ,af,hfr,hris,hr,hsm,aG,hpf]
theorem Em {α:Type} {cells:α -> List D} {z:Nat} (hz:∀ x,(cells x).length = z) {s:Sl α} (hs:s.l.length < 2 ^ 62) {most:Int} {f:FuncId} {g:α -> Int} (hf:∀ e ∈ s.l,∀ h,Sm E T val f [ag (cells e)] h = some (.d (u64 (g e)),h)):∀ (m i:Nat),i + m = s.l.length -> 1 <= i →
 Cd E T val (.loop [0,1,2,9,10] (tu z)) [(0,.d (s.d cells)),(1,.d (i64 most)),(2,.fn f []),(9,.d (i64 s.l.length)),(10,.d (i64 i))] ⟨[],0⟩ =
  if bH ((s.l.map g).drop (i - 1)) then some (.exit 0,[(0,.d (s.d cells)),(1,.d (i64 most))],⟨[],0⟩) else some (.ret,[(6,bl false)],⟨[],0⟩):=by
 intro m;have key:=ax (E:=E) (T:=T) (val:=val) [0,1,2,9,10] (tu z);generalize Cd E T val (.loop [0,1,2,9,10] (tu z)) = W at key ⊢
 induction m with
 | zero =>
  intro i hi h1;rw [key,nL (by simp; omega)];simp [tu,show ¬ ((i:Int) < s.l.length) from by omega]
 | succ m ih =>
  intro i hi h1;have hlt:i < s.l.length:=by omega
  have hd:=lH (l:=s.l.map g) (i:=i - 1) (by simp; omega);have hs1:i - 1 + 1 = i:=by omega
  simp only [hs1,List.getElem_map] at hd;have hp1:=fun h=>ol (cells:=cells) hz hlt (kd:=.i64) (h:=h);have hp0:=fun h=>ol (cells:=cells) hz (show i - 1 < s.l.length by omega) (kd:=.i64) (h:=h);have c1:=hf _ (List.getElem_mem hlt);have c0:=hf _ (List.getElem_mem (show i - 1 < s.l.length by omega));have hw:=aK hlt hs;have hwm:IntKind.wrap .i64 ((i:Int) - 1) = ((i - 1:Nat):Int):=by rw [wrap64] <;> omega
  have hpos:0 < i:=h1;have hih:=ih (i + 1) (by omega) (by omega);simp only [show i + 1 - 1 = i by omega] at hih;rw [key,hd];generalize s.l[i] = y at *;generalize s.l[i - 1] = x at *;have hsx:=bB (hz x);have hsy:=bB (hz y);by_cases hg:g x < g y
  · simp (decide:=true) [tu,hp1,hp0,hsx,hsy,hwm,hw,hpos,c0,c1,hlt,hg,aN,aD,aV,show ¬ (g x >= g y) from by omega];simpa using hih
  · simp (decide:=true) [tu,hp1,hp0,hsx,hsy,hwm,hw,hpos,c0,c1,hlt,hg,aN,aD,aV,show g x >= g y from by omega]
theorem uQ {α:Type} {cells:α -> List D} {z:Nat} {id:FuncId} (ht:T id = some (rsgQ z)) (hv:val id = true) (hz:∀ x,(cells x).length = z) {s:Sl α} (hs:s.l.length < 2 ^ 62) {most:Int} {f:FuncId} {g:α -> Int} (hf:∀ e ∈ s.l,∀ h,Sm E T val f [ag (cells e)] h = some (.d (u64 (g e)),h)) (h:Hp) :
 Sm E T val id [.d (s.d cells),.d (i64 most),.fn f []] h = some (bl (eO g s.l most),h):=by
 rw [bf ht hv];unfold eO;have hfr:frz h (.fn f []) = some (.fn f []):=rfl;have key:=ax (E:=E) (T:=T) (val:=val) [0,1,2,9,10] (tu z);have hl:=Em (E:=E) (T:=T) (val:=val) hz hs (most:=most) hf;simp [af,rsgQ,hfr];rw [aH];simp only [jX,lT];simp;generalize Cd E T val (.loop [0,1,2,9,10] (tu z)) = W at key hl ⊢;by_cases h0:s.l = []
 · rw [key];simp [tu,h0,bH,cO]
 · have hpos:0 < s.l.length:=List.length_pos_iff.2 h0;have h1:=hl (s.l.length - 1) 1 (by omega) (by omega);simp at h1;rw [key];have hw:=aK hpos hs;simp at hw;simp (decide:=true) [tu,aN,aV,hpos,hw,h1];cases bH (s.l.map g) <;> simp [cO]
end
end
section
structure Dlt where
 epoch:Int
 covers:Sl Int
 pods:Sl Pod
 services:Sl Svc
 bound:Sl Way
 policies:Sl Pol
 gonePods:Sl Int
 goneServices:Sl Int
 goneBound:Sl Int
 gonePolicies:Sl Int
def Dlt.c (x:Dlt):List D:=[u64 x.epoch,x.covers.d di,x.pods.d Pod.c,x.services.d Svc.c,x.bound.d Way.c,x.policies.d Pol.c,x.gonePods.d aY,x.goneServices.d aY,x.goneBound.d aY,x.gonePolicies.d aY]
abbrev Dlt.v (x:Dlt):V:=ag x.c
def Dlt.vw (x:Dlt):Vw:=⟨x.epoch,x.covers,x.pods,x.services,x.bound,x.policies⟩
abbrev Dlt.ok (x:Dlt):Prop:=x.vw.ok /\ short x.gonePods /\ short x.goneServices /\ short x.goneBound /\ short x.gonePolicies
structure Psh where
 life:Int
 inc:Int
 seq:Int
 upon:Int
 delta:Dlt
def Psh.c (x:Psh):List D:=u64 x.life :: u64 x.inc :: u64 x.seq :: u64 x.upon :: x.delta.c
structure Idx where
 node:Int
 inc:Int
 asked:Int
 addrs:Sl Int
 since:Int
 life:Int
 seq:Int
 view:Vw
 high:Int
def Idx.c (x:Idx):List D:=i64 x.node :: u64 x.inc :: u64 x.asked :: x.addrs.d di :: u64 x.since :: u64 x.life :: u64 x.seq :: (x.view.c ++ [u64 x.high])
abbrev Idx.v (x:Idx):V:=ag x.c
structure Ack where
 life:Int
 inc:Int
 seq:Int
 ok:Int
def Ack.c (x:Ack):List D:=[u64 x.life,u64 x.inc,u64 x.seq,i64 x.ok]
structure Sbs where
 inc:Int
 seq:Int
 addrs:Sl Int
def Sbs.c (x:Sbs):List D:=[u64 x.inc,u64 x.seq,x.addrs.d di]
@[simp] theorem Ack.len {x:Ack}:x.c.length = 4:=(rfl)
@[simp] theorem Ack.all {x:Ack}:sub x.c 0 4 = some x.c:=(rfl)
@[simp] theorem Sbs.len {x:Sbs}:x.c.length = 3:=(rfl)
@[simp] theorem Sbs.all {x:Sbs}:sub x.c 0 3 = some x.c:=(rfl)
@[simp] theorem Dlt.len {x:Dlt}:x.c.length = 10:=(rfl)
@[simp] theorem Psh.len {x:Psh}:x.c.length = 14:=(rfl)
@[simp] theorem Idx.len {x:Idx}:x.c.length = 14:=(rfl)
@[simp] theorem Dlt.s0_10 {x:Dlt}:sub x.c 0 10 = some x.c:=(rfl)
@[simp] theorem Dlt.s0_1 {x:Dlt}:sub x.c 0 1 = some [u64 x.epoch]:=(rfl)
@[simp] theorem Dlt.s1_1 {x:Dlt}:sub x.c 1 1 = some [x.covers.d di]:=(rfl)
@[simp] theorem Dlt.s2_1 {x:Dlt}:sub x.c 2 1 = some [x.pods.d Pod.c]:=(rfl)
@[simp] theorem Dlt.s3_1 {x:Dlt}:sub x.c 3 1 = some [x.services.d Svc.c]:=(rfl)
@[simp] theorem Dlt.s4_1 {x:Dlt}:sub x.c 4 1 = some [x.bound.d Way.c]:=(rfl)
@[simp] theorem Dlt.s5_1 {x:Dlt}:sub x.c 5 1 = some [x.policies.d Pol.c]:=(rfl)
@[simp] theorem Dlt.s6_1 {x:Dlt}:sub x.c 6 1 = some [x.gonePods.d aY]:=(rfl)
@[simp] theorem Dlt.s7_1 {x:Dlt}:sub x.c 7 1 = some [x.goneServices.d aY]:=(rfl)
@[simp] theorem Dlt.s8_1 {x:Dlt}:sub x.c 8 1 = some [x.goneBound.d aY]:=(rfl)
@[simp] theorem Dlt.s9_1 {x:Dlt}:sub x.c 9 1 = some [x.gonePolicies.d aY]:=(rfl)
@[simp] theorem Psh.s0_14 {x:Psh}:sub x.c 0 14 = some x.c:=(rfl)
@[simp] theorem Psh.s0_1 {x:Psh}:sub x.c 0 1 = some [u64 x.life]:=(rfl)
@[simp] theorem Psh.s1_1 {x:Psh}:sub x.c 1 1 = some [u64 x.inc]:=(rfl)
@[simp] theorem Psh.s2_1 {x:Psh}:sub x.c 2 1 = some [u64 x.seq]:=(rfl)
@[simp] theorem Psh.s3_1 {x:Psh}:sub x.c 3 1 = some [u64 x.upon]:=(rfl)
@[simp] theorem Psh.s4_10 {x:Psh}:sub x.c 4 10 = some x.delta.c:=(rfl)
@[simp] theorem Psh.s4_1 {x:Psh}:sub x.c 4 1 = some [u64 x.delta.epoch]:=(rfl)
@[simp] theorem Idx.s0_14 {x:Idx}:sub x.c 0 14 = some x.c:=(rfl)
@[simp] theorem Idx.s0_1 {x:Idx}:sub x.c 0 1 = some [i64 x.node]:=(rfl)
@[simp] theorem Idx.s1_1 {x:Idx}:sub x.c 1 1 = some [u64 x.inc]:=(rfl)
@[simp] theorem Idx.s2_1 {x:Idx}:sub x.c 2 1 = some [u64 x.asked]:=(rfl)
@[simp] theorem Idx.s3_1 {x:Idx}:sub x.c 3 1 = some [x.addrs.d di]:=(rfl)
@[simp] theorem Idx.s4_1 {x:Idx}:sub x.c 4 1 = some [u64 x.since]:=(rfl)
@[simp] theorem Idx.s5_1 {x:Idx}:sub x.c 5 1 = some [u64 x.life]:=(rfl)
@[simp] theorem Idx.s6_1 {x:Idx}:sub x.c 6 1 = some [u64 x.seq]:=(rfl)
@[simp] theorem Idx.s7_6 {x:Idx}:sub x.c 7 6 = some x.view.c:=(rfl)
@[simp] theorem Idx.s7_1 {x:Idx}:sub x.c 7 1 = some [u64 x.view.epoch]:=(rfl)
@[simp] theorem Idx.s13_1 {x:Idx}:sub x.c 13 1 = some [u64 x.high]:=(rfl)
def qI:List V:=[(.d (.int .u64 0)),(.d (.str ⟨#[]⟩)),(.d (.int .u32 0)),(.d (.int .i64 0)),(.d (.int .u64 0))]
def qJ:List V:=[(.d (.int .u64 0)),(.d (.int .i64 0))]
def bl7:List (Nat × QF):=[(29,Ea),(16,Le),(166,Lc),(167,Lr),(168,Ls),(114,Lt)]
def TB:FuncId -> Option QF:=jk bl7
def yY (f:FuncId):Bool:=[29,16,166,167,168].any fun n=>Nat.beq n f
theorem cf2:TB 29 = some (Ea):=by kernel_rfl
theorem cf5:yY 29 = true:=by kernel_rfl
theorem cf3:TB 114 = some (cloneQ 5 64 mJ):=by kernel_rfl
theorem cf6:yY 114 = false:=by kernel_rfl
theorem cf1:TB 115 = none:=by kernel_rfl
def bl9:List (Nat × QF):=[(10,q80),(11,q82),(31,yt),(56,q81),(57,an9),(58,ao0),(59,ao1),(60,ao2),(52,an5),(53,an6),(54,an7),(55,an8),(143,ar3),(149,ar5),(153,ar7),(157,ar9),(145,ar4),(150,ar6),(154,ar8),(158,as0),(126,aq9),(127,ar0),(128,ar1),(129,ar2),(204,at6),(205,at7),(206,au0),(207,au1),(202,Me),(203,Mf),(144,Ir),(220,Mg),(7,q75),(30,pY),(73,Un),(83,Ur),(105,aq3),(109,aq8),(173,Uv),(180,Uz),(187,UK),(188,UD),(92,Uj),(94,Uk),(171,Um),(261,UJ),(116,vN),(117,Eb),(118,Iq),(124,LH),(119,aq4),(120,aq5),(121,aq6),(122,aq7),(18,Li),(21,Lj),(24,Ll),(27,Lm),(78,Uo),(81,Uq),(85,Us),(88,Ut),(176,Ul),(178,Ux),(181,UA),(183,UC),(166,Lc),(167,Lr),(168,Ls),(114,Lt),(177,Uw),(179,Uy),(182,UB),(184,aq1),(16,Le),(123,Ig),(197,Io),(198,Ip),(28,Ad),(112,as1),(113,LK),(189,au2),(190,Mi),(191,au3),(192,Mj),(193,au4),(194,Mk),(262,au5),(263,au6),(264,au7)]
def TI:FuncId -> Option QF:=jk bl9
def az (f:FuncId):Bool:=[10,11,31,56,57,58,59,60,52,53,54,55,126,127,128,129,202,203,144,220,7,30,116,117,118,124,119,120,121,122,18,21,24,27,16,123,197,198,28,112,113,189,190,191,192,193,194,262,263,264].any fun n=>Nat.beq n f
theorem i80:TI 10 = some (q80):=by kernel_rfl
theorem j80:az 10 = true:=by kernel_rfl
theorem i82:TI 11 = some (q82):=by kernel_rfl
theorem j82:az 11 = true:=by kernel_rfl
theorem i164:TI 31 = some (yt):=by kernel_rfl
theorem Yn:az 31 = true:=by kernel_rfl
theorem i81:TI 56 = some (eql1Q (.sc (.i .u32))):=by kernel_rfl
theorem j81:az 56 = true:=by kernel_rfl
theorem i173:TI 57 = some (eqlQ 7 (.agg [(.i .u64),.s,.s,(.i .i64),(.i .u32),(.i .i64),(.i .u64)])):=by kernel_rfl
theorem cp0:az 57 = true:=by kernel_rfl
theorem ch4:TI 58 = some (eqlQ 5 (.agg [(.i .u64),.s,(.i .u32),(.i .i64),(.i .u64)])):=by kernel_rfl
theorem cp1:az 58 = true:=by kernel_rfl
theorem i175:TI 59 = some (eqlQ 2 (.agg [(.i .u64),(.i .i64)])):=by kernel_rfl
theorem cp3:az 59 = true:=by kernel_rfl
theorem ch5:TI 60 = some (eqfQ 5 [(.d (.int .u64 0)),(.d (.str ⟨#[]⟩)),(.d (.int .u64 0)),(.d (.int .i64 0)),(.d (.slice true []))]):=by kernel_rfl
theorem cp4:az 60 = true:=by kernel_rfl
theorem cg9:TI 52 = some (vputQ 7 72 143 78 147 146):=by kernel_rfl
theorem co2:az 52 = true:=by kernel_rfl
theorem i167:TI 53 = some (vputQ 5 48 149 81 152 151):=by kernel_rfl
theorem co4:az 53 = true:=by kernel_rfl
theorem ch1:TI 54 = some (vputQ 2 16 153 85 156 155):=by kernel_rfl
theorem co6:az 54 = true:=by kernel_rfl
theorem i171:TI 55 = some (vputQ 5 64 157 88 160 159):=by kernel_rfl
theorem co8:az 55 = true:=by kernel_rfl
theorem ck5:TI 143 = some (vpcQ 7 144 145 83):=by kernel_rfl
theorem cs3:az 143 = false:=by kernel_rfl
theorem ck8:TI 149 = some (vpcQ 5 144 150 73):=by kernel_rfl
theorem cs6:az 149 = false:=by kernel_rfl
theorem cl0:TI 153 = some (vpcQ 2 144 154 105):=by kernel_rfl
theorem cs8:az 153 = false:=by kernel_rfl
theorem cl2:TI 157 = some (vpcQ 5 144 158 109):=by kernel_rfl
theorem ct0:az 157 = false:=by kernel_rfl
theorem ck7:TI 145 = some (vpeQ 7):=by kernel_rfl
theorem cs5:az 145 = false:=by kernel_rfl
theorem ck9:TI 150 = some (vpeQ 5):=by kernel_rfl
theorem cs7:az 150 = false:=by kernel_rfl
theorem cl1:TI 154 = some (vpeQ 2):=by kernel_rfl
theorem cs9:az 154 = false:=by kernel_rfl
theorem cl3:TI 158 = some (vpeQ 5):=by kernel_rfl
theorem ct1:az 158 = false:=by kernel_rfl
theorem cj9:TI 126 = some (aparQ 202 203 204 83):=by kernel_rfl
theorem cr6:az 126 = true:=by kernel_rfl
theorem ck0:TI 127 = some (aparQ 202 203 205 73):=by kernel_rfl
theorem cr7:az 127 = true:=by kernel_rfl
theorem ck3:TI 128 = some (aparQ 202 203 206 105):=by kernel_rfl
theorem cr8:az 128 = true:=by kernel_rfl
theorem ck4:TI 129 = some (aparQ 202 203 207 109):=by kernel_rfl
theorem cr9:az 129 = true:=by kernel_rfl
theorem cl8:TI 204 = some (apacQ 7 144):=by kernel_rfl
theorem ct6:az 204 = false:=by kernel_rfl
theorem cl9:TI 205 = some (apacQ 5 144):=by kernel_rfl
theorem ct7:az 205 = false:=by kernel_rfl
theorem cm0:TI 206 = some (apacQ 2 144):=by kernel_rfl
theorem ct8:az 206 = false:=by kernel_rfl
theorem cm1:TI 207 = some (apacQ 5 144):=by kernel_rfl
theorem ct9:az 207 = false:=by kernel_rfl
theorem cl6:TI 202 = some (Me):=by kernel_rfl
theorem ct4:az 202 = true:=by kernel_rfl
theorem cl7:TI 203 = some (Mf):=by kernel_rfl
theorem ct5:az 203 = true:=by kernel_rfl
theorem ck6:TI 144 = some (Ir):=by kernel_rfl
theorem cs4:az 144 = true:=by kernel_rfl
theorem cm2:TI 220 = some (Mg):=by kernel_rfl
theorem cu0:az 220 = true:=by kernel_rfl
theorem i75:TI 7 = some (q75):=by kernel_rfl
theorem j75:az 7 = true:=by kernel_rfl
theorem i162:TI 30 = some (pY):=by kernel_rfl
theorem co1:az 30 = true:=by kernel_rfl
theorem Ri:TI 73 = some (someQ 173):=by kernel_rfl
theorem Ru:az 73 = false:=by kernel_rfl
theorem i143:TI 83 = some (someQ 180):=by kernel_rfl
theorem Rv:az 83 = false:=by kernel_rfl
theorem Rl:TI 105 = some (someQ 187):=by kernel_rfl
theorem Ry:az 105 = false:=by kernel_rfl
theorem Rm:TI 109 = some (someQ 188):=by kernel_rfl
theorem Rz:az 109 = false:=by kernel_rfl
theorem Rj:TI 173 = some (anyQ 94):=by kernel_rfl
theorem Rw:az 173 = false:=by kernel_rfl
theorem Rk:TI 180 = some (anyQ 92):=by kernel_rfl
theorem Rx:az 180 = false:=by kernel_rfl
theorem Rp:TI 187 = some (anyQ 171):=by kernel_rfl
theorem RD:az 187 = false:=by kernel_rfl
theorem Rn:TI 188 = some (anyQ 261):=by kernel_rfl
theorem RA:az 188 = false:=by kernel_rfl
theorem Re:TI 92 = some (idxQ 7):=by kernel_rfl
theorem Rq:az 92 = false:=by kernel_rfl
theorem Rf:TI 94 = some (idxQ 5):=by kernel_rfl
theorem Rs:az 94 = false:=by kernel_rfl
theorem i109:TI 171 = some (idxQ 2):=by kernel_rfl
theorem Rt:az 171 = false:=by kernel_rfl
theorem Ro:TI 261 = some (idxQ 5):=by kernel_rfl
theorem RB:az 261 = false:=by kernel_rfl
theorem ci9:TI 116 = some (vN):=by kernel_rfl
theorem cq8:az 116 = true:=by kernel_rfl
theorem cj0:TI 117 = some (Eb):=by kernel_rfl
theorem cq9:az 117 = true:=by kernel_rfl
theorem cj1:TI 118 = some (Iq):=by kernel_rfl
theorem cr0:az 118 = true:=by kernel_rfl
theorem cj7:TI 124 = some (LH):=by kernel_rfl
theorem cr5:az 124 = true:=by kernel_rfl
theorem cj3:TI 119 = some (rsgQ 7):=by kernel_rfl
theorem cr1:az 119 = true:=by kernel_rfl
theorem cj4:TI 120 = some (rsgQ 5):=by kernel_rfl
theorem cr2:az 120 = true:=by kernel_rfl
theorem cj5:TI 121 = some (rsgQ 2):=by kernel_rfl
theorem cr3:az 121 = true:=by kernel_rfl
theorem cj6:TI 122 = some (rsgQ 5):=by kernel_rfl
theorem cr4:az 122 = true:=by kernel_rfl
theorem ch0:TI 18 = some (Li):=by kernel_rfl
theorem co3:az 18 = true:=by kernel_rfl
theorem i168:TI 21 = some (Lj):=by kernel_rfl
theorem co5:az 21 = true:=by kernel_rfl
theorem ch2:TI 24 = some (Ll):=by kernel_rfl
theorem co7:az 24 = true:=by kernel_rfl
theorem ch3:TI 27 = some (Lm):=by kernel_rfl
theorem co9:az 27 = true:=by kernel_rfl
theorem i138:TI 78 = some (keepQ 166 177 176):=by kernel_rfl
theorem cn6:az 78 = false:=by kernel_rfl
theorem i141:TI 81 = some (keepQ 167 179 178):=by kernel_rfl
theorem cn7:az 81 = false:=by kernel_rfl
theorem i145:TI 85 = some (keepQ 168 182 181):=by kernel_rfl
theorem cn8:az 85 = false:=by kernel_rfl
theorem i148:TI 88 = some (keepQ 114 184 183):=by kernel_rfl
theorem cn9:az 88 = false:=by kernel_rfl
theorem i105:TI 176 = some (delQ 7 92 qE):=by kernel_rfl
theorem cn3:az 176 = false:=by kernel_rfl
theorem ci1:TI 178 = some (delQ 5 94 qI):=by kernel_rfl
theorem cq0:az 178 = false:=by kernel_rfl
theorem ci3:TI 181 = some (delQ 2 171 qJ):=by kernel_rfl
theorem cq2:az 181 = false:=by kernel_rfl
theorem ci5:TI 183 = some (delQ 5 261 mJ):=by kernel_rfl
theorem cq4:az 183 = false:=by kernel_rfl
theorem cg7:TI 166 = some (cloneQ 7 72 qE):=by kernel_rfl
theorem cn4:az 166 = false:=by kernel_rfl
theorem ch7:TI 167 = some (cloneQ 5 48 qI):=by kernel_rfl
theorem cp6:az 167 = false:=by kernel_rfl
theorem ch8:TI 168 = some (cloneQ 2 16 qJ):=by kernel_rfl
theorem cp7:az 168 = false:=by kernel_rfl
theorem ch9:TI 114 = some (cloneQ 5 64 mJ):=by kernel_rfl
theorem cp8:az 114 = false:=by kernel_rfl
theorem ci0:TI 177 = some (notQ 7):=by kernel_rfl
theorem cp9:az 177 = false:=by kernel_rfl
theorem ci2:TI 179 = some (notQ 5):=by kernel_rfl
theorem cq1:az 179 = false:=by kernel_rfl
theorem ci4:TI 182 = some (notQ 2):=by kernel_rfl
theorem cq3:az 182 = false:=by kernel_rfl
theorem ci6:TI 184 = some (notQ 5):=by kernel_rfl
theorem cq5:az 184 = false:=by kernel_rfl
theorem cg8:TI 16 = some (cloneQ 1 4 [(.d (.int .u32 0))]):=by kernel_rfl
theorem cn5:az 16 = true:=by kernel_rfl
theorem i154:TI 123 = some (Ig):=by kernel_rfl
theorem co0:az 123 = true:=by kernel_rfl
theorem ci7:TI 197 = some (Io):=by kernel_rfl
theorem cq6:az 197 = true:=by kernel_rfl
theorem ci8:TI 198 = some (Ip):=by kernel_rfl
theorem cq7:az 198 = true:=by kernel_rfl
theorem ch6:TI 28 = some (Ad):=by kernel_rfl
theorem cp5:az 28 = true:=by kernel_rfl
theorem cl4:TI 112 = some (eqfQ 3 [(.d (.slice true [])),(.d (.slice true [])),(.d (.slice true []))]):=by kernel_rfl
theorem ct2:az 112 = true:=by kernel_rfl
theorem cl5:TI 113 = some (LK):=by kernel_rfl
theorem ct3:az 113 = true:=by kernel_rfl
theorem cm3:TI 189 = some (eqfQ 3 [(.d (.slice true [])),(.d (.slice true [])),(.d (.slice true []))]):=by kernel_rfl
theorem cu1:az 189 = true:=by kernel_rfl
theorem cm4:TI 190 = some (Mi):=by kernel_rfl
theorem cu2:az 190 = true:=by kernel_rfl
theorem cm5:TI 191 = some (eqfQ 4 [(.d (.slice true [])),(.d (.slice true [])),(.d (.slice true [])),(.d (.slice true []))]):=by kernel_rfl
theorem cu3:az 191 = true:=by kernel_rfl
theorem cm6:TI 192 = some (Mj):=by kernel_rfl
theorem cu4:az 192 = true:=by kernel_rfl
theorem cm7:TI 193 = some (eqfQ 2 [(.d (.str ⟨#[]⟩)),(.d (.slice true []))]):=by kernel_rfl
theorem cu5:az 193 = true:=by kernel_rfl
theorem cm8:TI 194 = some (Mk):=by kernel_rfl
theorem cu6:az 194 = true:=by kernel_rfl
theorem cm9:TI 262 = some (eqlQ 2 (.agg [(.i .i64),.s])):=by kernel_rfl
theorem cu7:az 262 = true:=by kernel_rfl
theorem cn0:TI 263 = some (eqlQ 2 (.agg [(.i .u32),(.i .i64)])):=by kernel_rfl
theorem cu8:az 263 = true:=by kernel_rfl
theorem cn1:TI 264 = some (eql1Q (.sc (.i .i64))):=by kernel_rfl
theorem cu9:az 264 = true:=by kernel_rfl
theorem Ye:TI 29 = none:=by kernel_rfl
theorem i117:TI 69 = none:=by kernel_rfl
theorem cj8:TI 125 = none:=by kernel_rfl
theorem Yf:TI 146 = none:=by kernel_rfl
theorem Yg:TI 151 = none:=by kernel_rfl
theorem Yh:TI 155 = none:=by kernel_rfl
theorem Yi:TI 159 = none:=by kernel_rfl
end
section
section
variable {E:Calls'} {T:FuncId -> Option QF} {val:FuncId -> Bool}
theorem H5 {l:List Pol} (hl:l.length < 2 ^ 62) (hf:∀ p ∈ l,∀ h,Sm E T val 115 [ag p.c] h = some (ag p.own.c,h)) {bs0:List Blk} {b:Nat} (hb0:b < bs0.length) {cap:Option Nat}:∀ (m i:Nat) (kept:List Pol) (bs:List Blk) (lo:Nat),i + m = l.length -> kept.length = i -> Thin Pol.c 5 l bs0 b kept bs →
 ∃ bs' lo',Cd E T val (.loop [0,7,8,9] iL) [(0,.row b 0 l.length cap 5),(7,.row b 0 l.length cap 5),(8,.d (i64 l.length)),(9,.d (i64 i))] ⟨bs,lo⟩ = some (.exit 0,[(0,.row b 0 l.length cap 5)],⟨bs',lo'⟩) ∧
  Thin Pol.c 5 l bs0 b (kept ++ (l.drop i).map Pol.own) bs':=by
 intro m;have key:=ax (E:=E) (T:=T) (val:=val) [0,7,8,9] iL;generalize Cd E T val (.loop [0,7,8,9] iL) = W at key ⊢
 induction m with
 | zero =>
  intro i kept bs lo hi hk ht;have h0:l.drop i = []:=List.drop_eq_nil_of_le (by omega);refine ⟨bs,lo,?_,by simpa [h0] using ht⟩;rw [key];simp [iL,show ¬ ((i:Int) < l.length) from by omega]
 | succ m ih =>
  intro i kept bs lo hi hk ht;have hlt:i < l.length:=by omega
  have hd:l.drop i = l[i] :: l.drop (i + 1):=List.drop_eq_getElem_cons hlt;have hcz:∀ x:Pol,(Pol.c x).length = 5:=fun _=>rfl;have hread:=ht.read hcz (j:=i) (by omega) hlt;have hrow:=ht.row;have hcall:=hf _ (List.getElem_mem hlt);generalize l[i] = x at *;have hix:∀ bs lo,fP none 5 (.row b 0 l.length cap 5) (.d (.int .i64 i)) ⟨bs,lo⟩ = some (.ptr b (i * 5),⟨bs,lo⟩):=by
   intro bs lo; simp only [fP]; rw [if_pos ⟨by omega,by omega,trivial⟩]; simp
  have hw:=aK hlt hl;have hput:put mJ 0 (x.c.map V.d) = some (x.c.map .d):=rfl;have ht1:=ht.lay (.cells (x.c.map .d));obtain ⟨cs,hcs,ht2⟩:=ht1.keep hcz (e:=x.own) (by omega);rw [hk] at hcs;have hrow1:=ht1.row;rw [hk] at hrow hread hrow1;have hset:∀ lo,Hp.set ⟨bs ++ [Blk.cells (x.c.map V.d)],lo⟩ b cs = ⟨(bs ++ [Blk.cells (x.c.map V.d)]).set b (Blk.cells cs),min lo b⟩:=fun _=>rfl;obtain ⟨bs',lo',k1,k2⟩:=ih (i + 1) (kept ++ [x.own]) _ (min (min lo bs.length) b) (by omega) (by simp; omega) ht2;refine ⟨bs',lo',?_,by simpa [hd] using k2⟩;generalize hB:(bs ++ [Blk.cells (x.c.map .d)]).set b (Blk.cells cs) = B at *;rw [key];simp [iL,hix,ldv,hrow,hread,hput,hcall,hw,hrow1,hcs,hset,show ((i:Int) < l.length) from by omega];simpa using k1
end
section
variable {E:Calls'} (h113:∀ p:Pol,p.ok -> ∀ h,E 115 [ag p.c] h = some (ag p.own.c,h))
include h113
theorem bt7 {s:Sl Pol} (hs:short s) (hf:∀ p ∈ s.l,p.ok) (h:Hp):Sm E TB yY 29 [.d (s.d Pol.c)] h = some (.d (Sl.d Pol.c ⟨s.nl,s.l.map Pol.own⟩),h):=by
 have m:∀ p ∈ s.l,∀ h,Sm E TB yY 115 [ag p.c] h = some (ag p.own.c,h):=fun p hp h=>by rw [aJ cf1]; exact h113 p (hf p hp) h
 obtain ⟨nl,l⟩:=s;simp only at m hf;have hlt:l.length < 2 ^ 62:=hs.lt;rw [bf cf2 cf5];have key:=ax (E:=E) (T:=TB) (val:=yY) [0,7,8,9] iL;have hc:=kK (E:=E) (T:=TB) (val:=yY) cf3 cf6 (z:=5) (by decide) (by decide) (nl:=nl) (es:=l.map Pol.c) (by simp) (by simpa using hs.1) ⟨[],0⟩;cases nl with
 | true =>
  have hl:=hs.2 rfl;simp at hl;subst hl;simp [dA] at hc;simp [af,Ea,Sl.d,hc];rw [aH];rw [key];simp [iL]
 | false =>
  cases l with
  | nil =>
   simp [dA] at hc;simp [af,Ea,Sl.d,hc];rw [aH];rw [key];have hdv:=dI (h:=⟨[.cells []],0⟩) (k:=7) (b:=0) (n:=0) (cap:=some 0) (es:=[]) (z:=5) (rest:=[]) (by simp) rfl rfl;simp [iL,hdv]
  | cons p l =>
   simp only [List.map_cons,dA] at hc;rw [← List.map_cons] at hc;generalize hes:p :: l = es at *;obtain ⟨bs',lo',k1,k2⟩:=H5 (E:=E) (T:=TB) (val:=yY) (l:=es) hlt m (bs0:=[.cells [],.cells (flat (es.map Pol.c))]) (b:=1) (by simp) (cap:=none) es.length 0 [] [.cells [],.cells (flat (es.map Pol.c))] 0 (by omega) rfl (Be (by simp [ah]));have hel:l.length + 1 = es.length:=by rw [← hes]; rfl
   have hg:=Jq (by simpa using k2) (by simp);have hdv:=dI (h:=⟨bs',lo'⟩) (k:=7) (b:=1) (n:=es.length) (cap:=none) (es:=(es.map Pol.own).map Pol.c) (z:=5) (rest:=[]) (by simp) (by simp) (by simpa using hg);simp [hel] at hc k1;simp at hdv;simp [af,Ea,Sl.d,hc];rw [aH];simp [k1,hdv]
def Vw.own (v:Vw):Vw:={ v with policies:=⟨v.policies.nl,v.policies.l.map Pol.own⟩ }
end
section
variable {E:Calls'}
theorem bw1 (a:Int) (h:Hp):Sm E TI az 203 [.d (u64 a)] h = some (.d (u64 a),h):=by
 rw [bf cl7 ct5];simp [af,Mf]
theorem Gt {s:Sl Int} {i:Nat} (hi:i < s.l.length) {kd:IntKind} {h:Hp}:fP none 1 (.d (s.d aY)) (.d (.int kd i)) h = some (.eptr (aY s.l[i]) 0,h) :=
 ol (cells:=aY) (fun _=>rfl) hi
theorem bx2 {s:Sl Int} (hs:s.l.length < 2 ^ 62) (most:Int):∀ (m i:Nat),i + m = s.l.length -> 1 <= i →
 Cd E TI az (.loop [0,1,2,9,10] fZ) [(0,.d (s.d aY)),(1,.d (i64 most)),(2,.fn 203 []),(9,.d (i64 s.l.length)),(10,.d (i64 i))] ⟨[],0⟩ =
  if bH (s.l.drop (i - 1)) then some (.exit 0,[(0,.d (s.d aY)),(1,.d (i64 most))],⟨[],0⟩) else some (.ret,[(6,bl false)],⟨[],0⟩):=by
 intro m;have key:=ax (E:=E) (T:=TI) (val:=az) [0,1,2,9,10] fZ;generalize Cd E TI az (.loop [0,1,2,9,10] fZ) = W at key ⊢
 induction m with
 | zero =>
  intro i hi h1;rw [key,nL (by omega)];simp [fZ,show ¬ ((i:Int) < s.l.length) from by omega]
 | succ m ih =>
  intro i hi h1;have hlt:i < s.l.length:=by omega
  have hd:=lH (l:=s.l) (i:=i - 1) (by omega);have hs1:i - 1 + 1 = i:=by omega
  simp only [hs1] at hd;have hp1:=fun h=>Gt hlt (kd:=.i64) (h:=h);have hp0:=fun h=>Gt (show i - 1 < s.l.length by omega) (kd:=.i64) (h:=h);have c1:=bw1 (E:=E);have hw:=aK hlt hs;have hwm:IntKind.wrap .i64 ((i:Int) - 1) = ((i - 1:Nat):Int):=by rw [wrap64] <;> omega
  have hpos:0 < i:=h1;have hih:=ih (i + 1) (by omega) (by omega);simp only [show i + 1 - 1 = i by omega] at hih;rw [key,hd];generalize s.l[i] = y at *;generalize s.l[i - 1] = x at *;by_cases hg:x < y
  · simp (decide:=true) [fZ,hp1,hp0,aY,hwm,hw,hpos,c1,hlt,hg,aN,aD,aV,show ¬ (x >= y) from by omega];simpa using hih
  · simp (decide:=true) [fZ,hp1,hp0,aY,hwm,hw,hpos,c1,hlt,hg,aN,aD,aV,show x >= y from by omega]
theorem JX {s:Sl Int} (hs:s.l.length < 2 ^ 62) (most:Int) (h:Hp):Sm E TI az 202 [.d (s.d aY),.d (i64 most),.fn 203 []] h = some (bl (bH s.l && decide ((s.l.length:Int) <= most)),h):=by
 rw [bf cl6 ct4];have hfr:frz h (.fn 203 []) = some (.fn 203 []):=rfl;have key:=ax (E:=E) (T:=TI) (val:=az) [0,1,2,9,10] fZ;have hl:=bx2 (E:=E) hs most;simp [af,Me,hfr];rw [aH];simp only [jX,lT];simp;generalize Cd E TI az (.loop [0,1,2,9,10] fZ) = W at key hl ⊢;by_cases h0:s.l = []
 · rw [key];simp [fZ,h0,bH,cO]
 · have hpos:0 < s.l.length:=List.length_pos_iff.2 h0;have h1:=hl (s.l.length - 1) 1 (by omega) (by omega);simp at h1;rw [key];have hw:=aK hpos hs;simp at hw;simp (decide:=true) [fZ,aN,aV,hpos,hw,h1];cases bH s.l <;> simp [cO]
theorem bx3 {s:Sl Int} (hs:short s) (n:Int) (h:Hp):∀ (m i:Nat),i + m = s.l.length →
 Cd E TI az (.loop [0,1,7,8] kw) [(0,.d (s.d aY)),(1,.d (u64 n)),(7,.d (i64 s.l.length)),(8,.d (i64 i))] h =
  match (s.l.drop i).findIdx? (fun x=>x == n) with
  | some k=>some (.ret,[(4,.d (i64 (i + k:Nat)))],h)
  | none=>some (.exit 0,[],h):=by
 have hlt:=hs.lt;intro m;have key:=ax (E:=E) (T:=TI) (val:=az) [0,1,7,8] kw;generalize Cd E TI az (.loop [0,1,7,8] kw) = W at key ⊢
 induction m with
 | zero =>
  intro i hi;have h0:s.l.drop i = []:=List.drop_eq_nil_of_le (by omega);rw [key];simp [kw,h0,show ¬ ((i:Int) < s.l.length) from by omega]
 | succ m ih =>
  intro i hi;have h1:i < s.l.length:=by omega
  have hx:=fun h=>bi (z:=1) h (List.getElem?_eq_getElem h1) (cells:=aY) rfl;have hw:=aK h1 hlt;have:=ih (i + 1) (by omega);rw [key,List.drop_eq_getElem_cons h1];generalize s.l[i] = x at *;by_cases hq:x = n
  · simp [kw,hx,hq,aY,List.findIdx?_cons,show ((i:Int) < s.l.length) from by omega]
  · have hq':(x == n) = false:=by simpa using hq
    have hq2:¬ n = x:=fun h=>hq h.symm;simp [kw,hx,hq',hq,hq2,aY,hw,List.findIdx?_cons,show ((i:Int) < s.l.length) from by omega];rw [show ((i:Int) + 1) = ((i + 1:Nat):Int) from by omega,this];cases hfi:(s.l.drop (i + 1)).findIdx? (fun p=>p == n) with
    | none=>rfl
    | some k=>simp; omega
theorem WK {s:Sl Int} (hs:short s) (n:Int) (h:Hp):Sm E TI az 220 [.d (s.d aY),.d (u64 n)] h = some (.d (i64 (mE s.l fun x=>x == n)),h):=by
 rw [bf cm2 cu0];have k1:=fun h=>bx3 (E:=E) hs n h s.l.length 0 (by omega);simp at k1;simp [af,Mg];rw [aH];simp [k1,mE];cases s.l.findIdx? (fun x=>x == n) with
 | none=>simp
 | some k=>simp
theorem wC {s:Sl Int} (hs:short s) (n:Int) (h:Hp):Sm E TI az 144 [.d (s.d aY),.d (u64 n)] h = some (bl (iI s.l n),h):=by
 rw [bf ck6 cs4];rcases jN s.l (fun x=>x == n) with ⟨g1,g2⟩ | ⟨k,p,g1,g2,g3⟩
 · simp [af,Ir,WK hs,g2,iI,g1]
 · simp [af,Ir,WK hs,g2,iI,g1]
theorem JS (p:Pod) (h:Hp):Sm E TI az 18 [ag p.c] h = some (.d (u64 p.uid),h):=by rw [bf ch0 co3]; simp [af,Li]
theorem JU (p:Svc) (h:Hp):Sm E TI az 21 [ag p.c] h = some (.d (u64 p.id),h):=by rw [bf i168 co5]; simp [af,Lj]
theorem JV (p:Way) (h:Hp):Sm E TI az 24 [ag p.c] h = some (.d (u64 p.id),h):=by rw [bf ch2 co7]; simp [af,Ll]
theorem JW (p:Pol) (h:Hp):Sm E TI az 27 [ag p.c] h = some (.d (u64 p.id),h):=by rw [bf ch3 co9]; simp [af,Lm]
theorem bv6 (p:Pod) (h:Hp):Sm E TI az 116 [ag p.c] h = some (bl (jy p),h):=by
 rw [bf ci9 cq8];unfold jy;by_cases a1:(p.ns.size:Int) > 64
 case pos=>simp (decide:=true) [af,vN,a1]
 by_cases a2:(p.sa.size:Int) > 64
 case pos=>simp (decide:=true) [af,vN,a1,a2]
 by_cases a3:p.host < 0
 case pos=>simp (decide:=true) [af,vN,a1,a2,a3]
 by_cases a4:p.host > 9
 case pos=>simp (decide:=true) [af,vN,a1,a2,a3,a4]
 by_cases a5:p.port < 0
 case pos=>simp (decide:=true) [af,vN,a1,a2,a3,a4,a5]
 simp (decide:=true) [af,vN,a1,a2,a3,a4,a5]
theorem bv7 (p:Svc) (h:Hp):Sm E TI az 117 [ag p.c] h = some (bl (jA p),h):=by
 rw [bf cj0 cq9];unfold jA;by_cases a1:(p.ns.size:Int) > 64
 case pos=>simp (decide:=true) [af,Eb,a1]
 by_cases a2:p.port < 0
 case pos=>simp (decide:=true) [af,Eb,a1,a2]
 simp (decide:=true) [af,Eb,a1,a2]
theorem bv8 (p:Way) (h:Hp):Sm E TI az 118 [ag p.c] h = some (bl (jC p),h):=by
 rw [bf cj1 cr0];unfold jC;by_cases a1:p.node < 0
 case pos=>simp (decide:=true) [af,Iq,a1]
 simp (decide:=true) [af,Iq,a1]
theorem CV (s t:Sl Term) (hs:short s) (h:Hp):Sm E TI az 262 [.d (s.d Term.c),.d (t.d Term.c)] h = some (bl (all2 Term.eqB s.l t.l),h) :=
 wH (z:=2) (fun _=>rfl) (by decide) cm9 cu7 hs.lt (fun x y h=>Gb) h
theorem bw5 (s t:Sl Cidr) (hs:short s) (h:Hp):Sm E TI az 263 [.d (s.d Cidr.c),.d (t.d Cidr.c)] h = some (bl (all2 Cidr.eqB s.l t.l),h) :=
 wH (z:=2) (fun _=>rfl) (by decide) cn0 cu8 hs.lt (fun x y h=>Ga) h
theorem bw6 (s t:Sl Int) (hs:short s) (h:Hp):Sm E TI az 264 [.d (s.d jJ),.d (t.d jJ)] h = some (bl (all2 (fun x y:Int=>x == y) s.l t.l),h) :=
 E5 (cell:=fun n=>i64 n) cn1 cu9 hs.lt (fun x y h=>Oi) h
theorem bw2 (a b:Source) (ha:a.fits big) (h:Hp):Sm E TI az 190 [ag a.c,ag b.c] h = some (bl (a.same b),h):=by
 have n1:=fun h=>CV (E:=E) a.names b.names ha.1 h;have n2:=fun h=>CV (E:=E) a.spaces b.spaces ha.2.1 h;have n3:=fun h=>bw5 (E:=E) a.nets b.nets ha.2.2 h;rw [bf cm4 cu2];unfold Source.same;generalize all2 Term.eqB a.names.l b.names.l = A1 at *;generalize all2 Term.eqB a.spaces.l b.spaces.l = A2 at *;generalize all2 Cidr.eqB a.nets.l b.nets.l = A3 at *;cases A1 <;> cases A2 <;> simp (decide:=true) [af,Mi,n1,n2,n3,aN,aD,aV,aG]
theorem bw3 (a b:Target) (ha:a.fits big) (h:Hp):Sm E TI az 192 [ag a.c,ag b.c] h = some (bl (a.same b),h):=by
 have n0:=fun h=>bw6 (E:=E) a.ports b.ports ha.1 h;have n1:=fun h=>CV (E:=E) a.methods b.methods ha.2.1 h;have n2:=fun h=>CV (E:=E) a.paths b.paths ha.2.2.1 h;have n3:=fun h=>CV (E:=E) a.hosts b.hosts ha.2.2.2 h;rw [bf cm6 cu4];unfold Target.same;generalize all2 (fun x y:Int=>x == y) a.ports.l b.ports.l = A0 at *;generalize all2 Term.eqB a.methods.l b.methods.l = A1 at *;generalize all2 Term.eqB a.paths.l b.paths.l = A2 at *;generalize all2 Term.eqB a.hosts.l b.hosts.l = A3 at *;cases A0 <;> cases A1 <;> cases A2 <;> simp (decide:=true) [af,Mj,n0,n1,n2,n3,aN,aD,aV,aG]
theorem bw4 (a b:When) (ha:a.fits big) (h:Hp):Sm E TI az 194 [ag a.c,ag b.c] h = some (bl (a.same b),h):=by
 have n1:=fun h=>CV (E:=E) a.terms b.terms ha h;rw [bf cm8 cu6];unfold When.same;generalize all2 Term.eqB a.terms.l b.terms.l = A1 at *;cases e1:eqS a.head b.head <;> simp (decide:=true) [af,Mk,n1,e1,aN,aD,aV,aG]
theorem bw0 (a b:Rule) (ha:a.fits big) (h:Hp):Sm E TI az 113 [ag a.c,ag b.c] h = some (bl (a.same b),h):=by
 have n1:=fun h=>wG (E:=E) (T:=TI) (val:=az) (cells:=Source.c) (z:=3) (fun _=>rfl) (by decide) rfl (f:=190) (p:=Source.same) cm3 cu1 (s:=a.frm) (t:=b.frm) ha.1.1.lt (fun x hx y _ h=>bw2 x y (ha.1.2 x hx) h) h;have n2:=fun h=>wG (E:=E) (T:=TI) (val:=az) (cells:=Target.c) (z:=4) (fun _=>rfl) (by decide) rfl (f:=192) (p:=Target.same) cm5 cu3 (s:=a.to) (t:=b.to) ha.2.1.1.lt (fun x hx y _ h=>bw3 x y (ha.2.1.2 x hx) h) h;have n3:=fun h=>wG (E:=E) (T:=TI) (val:=az) (cells:=When.c) (z:=2) (fun _=>rfl) (by decide) rfl (f:=194) (p:=When.same) cm7 cu5 (s:=a.whn) (t:=b.whn) ha.2.2.1.lt (fun x hx y _ h=>bw4 x y (ha.2.2.2 x hx) h) h;rw [bf cl5 ct3];unfold Rule.same;generalize all2 Source.same a.frm.l b.frm.l = A1 at *;generalize all2 Target.same a.to.l b.to.l = A2 at *;generalize all2 When.same a.whn.l b.whn.l = A3 at *;cases A1 <;> cases A2 <;> simp (decide:=true) [af,LK,n1,n2,n3,aN,aD,aV,aG]
theorem WJ (a b:Pol) (ha:a.fits big) (h:Hp):Sm E TI az 28 [ag a.c,ag b.c] h = some (bl (a.same b),h):=by
 have n1:=fun h=>wG (E:=E) (T:=TI) (val:=az) (cells:=Rule.c) (z:=3) (fun _=>rfl) (by decide) rfl (f:=113) (p:=Rule.same) cl4 ct2 (s:=a.rules) (t:=b.rules) ha.1.lt (fun x hx y _ h=>bw0 x y (ha.2 x hx) h) h;rw [bf ch6 cp5];unfold Pol.same;generalize all2 Rule.same a.rules.l b.rules.l = A1 at *;cases e1:(a.id == b.id)
 case false=>simp (decide:=true) [af,Ad,n1,e1,aN,aD,aV,aG]
 cases e2:eqS a.ns b.ns
 case false=>simp (decide:=true) [af,Ad,n1,e1,e2,aN,aD,aV,aG]
 cases e3:(a.service == b.service)
 case false=>simp (decide:=true) [af,Ad,n1,e1,e2,e3,aN,aD,aV,aG]
 cases e4:(a.deny == b.deny) <;> simp (decide:=true) [af,Ad,n1,e1,e2,e3,e4,aN,aD,aV,aG]
theorem bv5 (a:Int) (h:Hp):Sm E TI az 198 [.d (u32 a)] h = some (.d (u32 a),h):=by
 rw [bf ci8 cq7];simp [af,Ip]
theorem WS {s:Sl Int} (hs:s.l.length < 2 ^ 62) (most:Int):∀ (m i:Nat),i + m = s.l.length -> 1 <= i →
 Cd E TI az (.loop [0,1,2,9,10] fV) [(0,.d (s.d di)),(1,.d (i64 most)),(2,.fn 198 []),(9,.d (i64 s.l.length)),(10,.d (i64 i))] ⟨[],0⟩ =
  if bH (s.l.drop (i - 1)) then some (.exit 0,[(0,.d (s.d di)),(1,.d (i64 most))],⟨[],0⟩) else some (.ret,[(6,bl false)],⟨[],0⟩):=by
 intro m;have key:=ax (E:=E) (T:=TI) (val:=az) [0,1,2,9,10] fV;generalize Cd E TI az (.loop [0,1,2,9,10] fV) = W at key ⊢
 induction m with
 | zero =>
  intro i hi h1;rw [key,nL (by omega)];simp [fV,show ¬ ((i:Int) < s.l.length) from by omega]
 | succ m ih =>
  intro i hi h1;have hlt:i < s.l.length:=by omega
  have hd:=lH (l:=s.l) (i:=i - 1) (by omega);have hs1:i - 1 + 1 = i:=by omega
  simp only [hs1] at hd;have hp1:=fun h=>Gs hlt (kd:=.i64) (h:=h);have hp0:=fun h=>Gs (show i - 1 < s.l.length by omega) (kd:=.i64) (h:=h);have c1:=bv5 (E:=E);have hw:=aK hlt hs;have hwm:IntKind.wrap .i64 ((i:Int) - 1) = ((i - 1:Nat):Int):=by rw [wrap64] <;> omega
  have hpos:0 < i:=h1;have hih:=ih (i + 1) (by omega) (by omega);simp only [show i + 1 - 1 = i by omega] at hih;rw [key,hd];generalize s.l[i] = y at *;generalize s.l[i - 1] = x at *;by_cases hg:x < y
  · simp (decide:=true) [fV,hp1,hp0,di,hwm,hw,hpos,c1,hlt,hg,aN,aD,aV,show ¬ (x >= y) from by omega];simpa using hih
  · simp (decide:=true) [fV,hp1,hp0,di,hwm,hw,hpos,c1,hlt,hg,aN,aD,aV,show x >= y from by omega]
theorem bv4 {s:Sl Int} (hs:s.l.length < 2 ^ 62) (most:Int) (h:Hp):Sm E TI az 197 [.d (s.d di),.d (i64 most),.fn 198 []] h = some (bl (bH s.l && decide ((s.l.length:Int) <= most)),h):=by
 rw [bf ci7 cq6];have hfr:frz h (.fn 198 []) = some (.fn 198 []):=rfl;have key:=ax (E:=E) (T:=TI) (val:=az) [0,1,2,9,10] fV;have hl:=WS (E:=E) hs most;simp [af,Io,hfr];rw [aH];simp only [jX,lT];simp;generalize Cd E TI az (.loop [0,1,2,9,10] fV) = W at key hl ⊢;by_cases h0:s.l = []
 · rw [key];simp [fV,h0,bH,cO]
 · have hpos:0 < s.l.length:=List.length_pos_iff.2 h0;have h1:=hl (s.l.length - 1) 1 (by omega) (by omega);simp at h1;rw [key];have hw:=aK hpos hs;simp at hw;simp (decide:=true) [fV,aN,aV,hpos,hw,h1];cases bH s.l <;> simp [cO]
variable (h117:∀ s:Sl Int,short s -> ∀ n h,E 69 [.d (s.d di),.d (u32 n)] h = some (bl (iI s.l n),h))
include h117 in
theorem bv3 {s:Sl Int} (hs:short s) (most:Int) (h:Hp):Sm E TI az 123 [.d (s.d di),.d (i64 most)] h = some (bl (jh s.l most),h):=by
 have m:∀ h,Sm E TI az 69 [.d (s.d di),.d (u32 0)] h = some (bl (iI s.l 0),h):=fun h=>by rw [aJ i117]; exact h117 _ hs 0 h
 rw [bf i154 co0];cases e:(bH s.l && decide ((s.l.length:Int) <= most)) <;> simp (decide:=true) [af,Ig,bv4 hs.lt most,m,e,jh,aN,aD,aV,aG]
variable (h263:∀ p:Pol,p.wf big -> ∀ h,E 125 [ag p.c] h = some (bl (aS p),h))
include h263 in
theorem bv9 (p:Pol) (hw:p.wf big) (h:Hp):Sm E TI az 124 [ag p.c] h = some (bl (!aS p),h):=by
 have m:∀ h,Sm E TI az 125 [ag p.c] h = some (bl (aS p),h):=fun h=>by rw [aJ cj8]; exact h263 p hw h
 rw [bf cj7 cr5];simp (decide:=true) [af,LH,m]
include h117 h263 in
theorem WI (v:Vw) (hv:v.ok) (hw:∀ p ∈ v.policies.l,p.wf big) (h:Hp):Sm E TI az 30 [.d (u64 v.epoch),.d (v.covers.d di),.d (v.pods.d Pod.c),.d (v.services.d Svc.c),.d (v.bound.d Way.c),.d (v.policies.d Pol.c)] h = some (bl (aW v),h):=by
 have k1:∀ h,Sm E TI az 123 [.d (v.covers.d di),.d (i64 38)] h = some (bl (jh v.covers.l 38),h):=fun h=>bv3 h117 hv.1 38 h;have a1:∀ h,Sm E TI az 83 [.d (v.pods.d Pod.c),.fn 116 []] h = some (bl (v.pods.l.any jy),h):=fun h =>
  kM i143 Rv rfl rfl (mF Pod.c (z:=7) Re Rq Rk Rx (RowIs.of (cells:=Pod.c) (fun _=>rfl) _) hv.2.1.lt fun e he lo=>bv6 e _)
 have a2:∀ h,Sm E TI az 73 [.d (v.services.d Svc.c),.fn 117 []] h = some (bl (v.services.l.any jA),h):=fun h =>
  kM Ri Ru rfl rfl (mF Svc.c (z:=5) Rf Rs Rj Rw (RowIs.of (cells:=Svc.c) (fun _=>rfl) _) hv.2.2.1.lt fun e he lo=>bv7 e _)
 have a3:∀ h,Sm E TI az 105 [.d (v.bound.d Way.c),.fn 118 []] h = some (bl (v.bound.l.any jC),h):=fun h =>
  kM Rl Ry rfl rfl (mF Way.c (z:=2) i109 Rt Rp RD (RowIs.of (cells:=Way.c) (fun _=>rfl) _) hv.2.2.2.1.lt fun e he lo=>bv8 e _)
 have a4:∀ h,Sm E TI az 109 [.d (v.policies.d Pol.c),.fn 124 []] h = some (bl (v.policies.l.any fun p=>!aS p),h):=fun h =>
  kM Rm Rz rfl rfl (mF Pol.c (z:=5) Ro RB Rn RA (RowIs.of (cells:=Pol.c) (fun _=>rfl) _) hv.2.2.2.2.1.lt fun e he lo=>bv9 h263 e (hw e he) _)
 have b1:=fun h=>uQ (E:=E) cj3 cr1 (s:=v.pods) (cells:=Pod.c) (most:=16) (fun _=>rfl) hv.2.1.lt (fun e _ h=>JS e h) h;have b2:=fun h=>uQ (E:=E) cj4 cr2 (s:=v.services) (cells:=Svc.c) (most:=6) (fun _=>rfl) hv.2.2.1.lt (fun e _ h=>JU e h) h;have b3:=fun h=>uQ (E:=E) cj5 cr3 (s:=v.bound) (cells:=Way.c) (most:=4) (fun _=>rfl) hv.2.2.2.1.lt (fun e _ h=>JV e h) h;have b4:=fun h=>uQ (E:=E) cj6 cr4 (s:=v.policies) (cells:=Pol.c) (most:=12) (fun _=>rfl) hv.2.2.2.2.1.lt (fun e _ h=>JW e h) h;unfold aW jv zT;generalize jh v.covers.l 38 = C at *;generalize v.pods.l.any jy = A1 at *;generalize v.services.l.any jA = A2 at *;generalize v.bound.l.any jC = A3 at *;generalize (v.policies.l.any fun p=>!aS p) = A4 at *;generalize eO Pod.uid v.pods.l 16 = B1 at *;generalize eO Svc.id v.services.l 6 = B2 at *;generalize eO Way.id v.bound.l 4 = B3 at *;generalize eO Pol.id v.policies.l 12 = B4 at *;rw [bf i162 co1];have hodd:∃ o,(A1 || (A2 || A3)) = o:=⟨_,rfl⟩;obtain ⟨o,ho⟩:=hodd;by_cases m1:v.epoch <= 4611686018427387903
 · cases A1 <;> cases A2 <;> cases A3 <;> simp at ho <;> subst ho <;> first
    | (cases C <;> simp (decide:=true) [af,pY,a1,a2,a3,a4,k1,m1]; done)
    | (cases B1
       case false=>cases C <;> simp (decide:=true) [af,pY,a1,a2,a3,a4,b1,k1,m1]
       cases B2
       case false=>cases C <;> simp (decide:=true) [af,pY,a1,a2,a3,a4,b1,b2,k1,m1]
       cases B3
       case false=>cases C <;> simp (decide:=true) [af,pY,a1,a2,a3,a4,b1,b2,b3,k1,m1]
       cases B4 <;> cases C <;> simp (decide:=true) [af,pY,a1,a2,a3,a4,b1,b2,b3,b4,k1,m1])
 · cases A1 <;> cases A2 <;> cases A3 <;> first
    | (simp (decide:=true) [af,pY,a1,a2,a3,a4,m1]; done)
    | (cases B1
       case false=>simp (decide:=true) [af,pY,a1,a2,a3,a4,b1,m1]
       cases B2
       case false=>simp (decide:=true) [af,pY,a1,a2,a3,a4,b1,b2,m1]
       cases B3
       case false=>simp (decide:=true) [af,pY,a1,a2,a3,a4,b1,b2,b3,m1]
       simp (decide:=true) [af,pY,a1,a2,a3,a4,b1,b2,b3,b4,m1])
include h117 h263 in
theorem I75 (v:Vw) (hv:v.ok) (hw:∀ p ∈ v.policies.l,p.wf big) (h:Hp):Sm E TI az 7 [v.v] h = some (bl (aW v),h):=by
 have k2:=fun h=>WI h117 h263 v hv hw h;rw [bf i75 j75];simp (decide:=true) [af,q75,k2]
def bR (d:Dlt):Bool:=(fK Pod.uid d.gonePods.l 16 d.pods.l && (fK Svc.id d.goneServices.l 6 d.services.l && (fK Way.id d.goneBound.l 4 d.bound.l && fK Pol.id d.gonePolicies.l 12 d.policies.l))) && aW d.vw
include h117 h263 in
theorem Qq (d:Dlt) (hd:d.ok) (hw:∀ p ∈ d.policies.l,p.wf big) (h:Hp):Sm E TI az 31 [d.v] h = some (bl (bR d),h):=by
 have k2:=fun h=>WI h117 h263 d.vw hd.1 hw h;obtain ⟨hv,g1,g2,g3,g4⟩:=hd;have c1:=fun n h=>wC (E:=E) g1 n h;have c2:=fun n h=>wC (E:=E) g2 n h;have c3:=fun n h=>wC (E:=E) g3 n h;have c4:=fun n h=>wC (E:=E) g4 n h;have n1:=fun h=>uP (E:=E) (T:=TI) (val:=az) (cells:=Pod.c) (z:=7) (key:=Pod.uid) (idf:=18) cj9 cr6 cl8 ct6 i143 Rv Rk Rx Re Rq (fun _=>rfl) (gone:=d.gonePods) (most:=16) (fun h=>JX g1.lt 16 h) c1 (l:=d.pods) hv.2.1 (fun e _ h=>JS e h) h;have n2:=fun h=>uP (E:=E) (T:=TI) (val:=az) (cells:=Svc.c) (z:=5) (key:=Svc.id) (idf:=21) ck0 cr7 cl9 ct7 Ri Ru Rj Rw Rf Rs (fun _=>rfl) (gone:=d.goneServices) (most:=6) (fun h=>JX g2.lt 6 h) c2 (l:=d.services) hv.2.2.1 (fun e _ h=>JU e h) h;have n3:=fun h=>uP (E:=E) (T:=TI) (val:=az) (cells:=Way.c) (z:=2) (key:=Way.id) (idf:=24) ck3 cr8 cm0 ct8 Rl Ry Rp RD i109 Rt (fun _=>rfl) (gone:=d.goneBound) (most:=4) (fun h=>JX g3.lt 4 h) c3 (l:=d.bound) hv.2.2.2.1 (fun e _ h=>JV e h) h;have n4:=fun h=>uP (E:=E) (T:=TI) (val:=az) (cells:=Pol.c) (z:=5) (key:=Pol.id) (idf:=27) ck4 cr9 cm1 ct9 Rm Rz Rn RA Ro RB (fun _=>rfl) (gone:=d.gonePolicies) (most:=12) (fun h=>JX g4.lt 12 h) c4 (l:=d.policies) hv.2.2.2.2.1 (fun e _ h=>JW e h) h;simp only [Dlt.vw] at k2;unfold bR;simp only [Dlt.vw];generalize fK Pod.uid d.gonePods.l 16 d.pods.l = A1 at *;generalize fK Svc.id d.goneServices.l 6 d.services.l = A2 at *
 generalize fK Way.id d.goneBound.l 4 d.bound.l = A3 at *;generalize fK Pol.id d.gonePolicies.l 12 d.policies.l = A4 at *;generalize aW _ = M at *;rw [bf i164 Yn];cases A1
 case false=>simp (decide:=true) [af,yt,n1]
 cases A2
 case false=>simp (decide:=true) [af,yt,n1,n2]
 cases A3
 case false=>simp (decide:=true) [af,yt,n1,n2,n3]
 cases A4
 case false=>simp (decide:=true) [af,yt,n1,n2,n3,n4]
 simp (decide:=true) [af,yt,n1,n2,n3,n4,k2]
def Vw.same (a b:Vw):Bool:=a.epoch == b.epoch && (all2 (fun x y:Int=>x == y) a.covers.l b.covers.l && (all2 Pod.eqB a.pods.l b.pods.l && (all2 Svc.eqB a.services.l b.services.l && (all2 Way.eqB a.bound.l b.bound.l && all2 Pol.same a.policies.l b.policies.l))))
theorem I81 (s t:Sl Int) (hs:s.l.length < 2 ^ 62) (h:Hp):Sm E TI az 56 [.d (s.d di),.d (t.d di)] h = some (bl (all2 (fun x y:Int=>x == y) s.l t.l),h) :=
 E5 (cell:=fun n=>u32 n) i81 j81 hs (fun x y h=>Oi) h
theorem I82 (a b:Vw) (ha:a.ok) (h:Hp):Sm E TI az 11 [a.v,b.v] h = some (bl (a.same b),h):=by
 have n0:=fun h=>I81 (E:=E) a.covers b.covers ha.1.lt h;have n1:=fun h=>wH (E:=E) (T:=TI) (val:=az) (cells:=Pod.c) (z:=7) (fun _=>rfl) (by decide) (p:=Pod.eqB) i173 cp0 (s:=a.pods) (t:=b.pods) ha.2.1.lt (fun x y h=>Kn) h;have n2:=fun h=>wH (E:=E) (T:=TI) (val:=az) (cells:=Svc.c) (z:=5) (fun _=>rfl) (by decide) (p:=Svc.eqB) ch4 cp1 (s:=a.services) (t:=b.services) ha.2.2.1.lt (fun x y h=>Ko) h;have n3:=fun h=>wH (E:=E) (T:=TI) (val:=az) (cells:=Way.c) (z:=2) (fun _=>rfl) (by decide) (p:=Way.eqB) i175 cp3 (s:=a.bound) (t:=b.bound) ha.2.2.2.1.lt (fun x y h=>Kr) h;have n4:=fun h=>wG (E:=E) (T:=TI) (val:=az) (cells:=Pol.c) (z:=5) (fun _=>rfl) (by decide) rfl (f:=28) (p:=Pol.same) ch5 cp4 (s:=a.policies) (t:=b.policies) ha.2.2.2.2.1.lt (fun x hx y _ h=>WJ x y (ha.2.2.2.2.2 x hx) h) h;rw [bf i82 j82];unfold Vw.same;generalize all2 (fun x y:Int=>x == y) a.covers.l b.covers.l = A0 at *;generalize all2 Pod.eqB a.pods.l b.pods.l = A1 at *;generalize all2 Svc.eqB a.services.l b.services.l = A2 at *;generalize all2 Way.eqB a.bound.l b.bound.l = A3 at *;generalize all2 Pol.same a.policies.l b.policies.l = A4 at *;cases e1:(a.epoch == b.epoch)
 case false=>simp (decide:=true) [af,q82,e1]
 cases A0
 case false=>simp (decide:=true) [af,q82,e1,n0]
 cases A1
 case false=>simp (decide:=true) [af,q82,e1,n0,n1]
 cases A2
 case false=>simp (decide:=true) [af,q82,e1,n0,n1,n2]
 cases A3
 case false=>simp (decide:=true) [af,q82,e1,n0,n1,n2,n3]
 simp (decide:=true) [af,q82,e1,n0,n1,n2,n3,n4]
end
end
section
theorem bW {α:Type} {key:α -> Int} {l:List α} {n:Int} (h:eO key l n = true):(l.map key).Nodup /\ (l.length:Int) <= n:=by
 simp only [eO,Bool.and_eq_true,decide_eq_true_eq] at h;exact ⟨(lI h.1).imp fun h=>by omega,h.2⟩
theorem iX {α:Type} {key:α -> Int} {l fresh:List α} {gone:List Int} (h1:(l.map key).Nodup) (h2:(fresh.map key).Nodup):(((l.filter (gD key fresh gone)) ++ fresh).map key).Nodup:=by
 rw [List.map_append,List.nodup_append];refine ⟨List.Pairwise.sublist (List.Sublist.map key List.filter_sublist) h1,h2,?_⟩;intro a ha b hb hab;obtain ⟨e,he,rfl⟩:=List.mem_map.1 ha;obtain ⟨f,hf,rfl⟩:=List.mem_map.1 hb;have:=(List.mem_filter.1 he).2;simp only [gD,Bool.and_eq_true,Bool.not_eq_true',List.any_eq_false] at this;have h3:=this.2 f hf;simp [hab] at h3
theorem Ia {α:Type} {key:α -> Int} {l fresh:List α} {gone:List Int} {e:α} (h:e ∈ df key l fresh gone):e ∈ l \/ e ∈ fresh:=by
 have:=(List.mergeSort_perm _ _).mem_iff.1 h;rcases List.mem_append.1 this with h | h
 · exact .inl (List.mem_filter.1 h).1
 · exact .inr h
theorem oN {α:Type} {key:α -> Int} {l fresh:List α} {gone:List Int}:(df key l fresh gone).length <= l.length + fresh.length:=by
 have:=List.length_filter_le (gD key fresh gone) l;rw [df,List.length_mergeSort,List.length_append];omega
structure PutH (E:Calls'):Prop where
 h117:∀ s:Sl Int,short s -> ∀ n h,E 69 [.d (s.d di),.d (u32 n)] h = some (bl (iI s.l n),h)
 h263:∀ p:Pol,p.wf big -> ∀ h,E 125 [ag p.c] h = some (bl (aS p),h)
 h155:∀ s:Sl Pol,short s -> (∀ p ∈ s.l,p.ok) -> ∀ h,E 29 [.d (s.d Pol.c)] h = some (.d (Sl.d Pol.c ⟨s.nl,s.l.map Pol.own⟩),h)
 h271:∀ {h:Hp} {B n:Nat} {cap:Option Nat},0 < n -> E 146 [.row B 0 n cap 7,.fn 147 [.ptr 2 0]] h = gL ⟨7,0,147,18⟩ [.row B 0 n cap 7,.fn 147 [.ptr 2 0]] h
 h276:∀ {h:Hp} {B n:Nat} {cap:Option Nat},0 < n -> E 151 [.row B 0 n cap 5,.fn 152 [.ptr 2 0]] h = gL ⟨5,0,152,21⟩ [.row B 0 n cap 5,.fn 152 [.ptr 2 0]] h
 h280:∀ {h:Hp} {B n:Nat} {cap:Option Nat},0 < n -> E 155 [.row B 0 n cap 2,.fn 156 [.ptr 2 0]] h = gL ⟨2,0,156,24⟩ [.row B 0 n cap 2,.fn 156 [.ptr 2 0]] h
 h284:∀ {h:Hp} {B n:Nat} {cap:Option Nat},0 < n -> E 159 [.row B 0 n cap 5,.fn 160 [.ptr 2 0]] h = gL ⟨5,0,160,27⟩ [.row B 0 n cap 5,.fn 160 [.ptr 2 0]] h
 n271:∀ v,v = .d (.slice true []) \/ (∃ B cap,v = .row B 0 0 cap 7) -> ∀ h,E 146 [v,.fn 147 [.ptr 2 0]] h = some (.tup [],h)
 n276:∀ v,v = .d (.slice true []) \/ (∃ B cap,v = .row B 0 0 cap 5) -> ∀ h,E 151 [v,.fn 152 [.ptr 2 0]] h = some (.tup [],h)
 n280:∀ v,v = .d (.slice true []) \/ (∃ B cap,v = .row B 0 0 cap 2) -> ∀ h,E 155 [v,.fn 156 [.ptr 2 0]] h = some (.tup [],h)
 n284:∀ v,v = .d (.slice true []) \/ (∃ B cap,v = .row B 0 0 cap 5) -> ∀ h,E 159 [v,.fn 160 [.ptr 2 0]] h = some (.tup [],h)
theorem vG {v:Vw} (h:aW v = true):eO Pod.uid v.pods.l 16 = true /\ eO Svc.id v.services.l 6 = true /\ eO Way.id v.bound.l 4 = true /\ eO Pol.id v.policies.l 12 = true:=by
 simp only [aW,jv,Bool.and_eq_true] at h;exact h.2.2.1.2
section
variable {E:Calls'} (H:PutH E)
include H
theorem I80 (v:Vw) (hv:v.ok) (hw:∀ p ∈ v.policies.l,p.wf big) (d:Dlt) (hd:d.ok) (hwd:∀ p ∈ d.policies.l,p.wf big) (m1:aW v = true) (m2:bR d = true) :
 ∃ n1 n2 n3 n4,∀ x:Vw,x = ⟨d.epoch,d.covers,⟨n1,df Pod.uid v.pods.l d.pods.l d.gonePods.l⟩,⟨n2,df Svc.id v.services.l d.services.l d.goneServices.l⟩,⟨n3,df Way.id v.bound.l d.bound.l d.goneBound.l⟩,⟨n4,(df Pol.id v.policies.l d.policies.l d.gonePolicies.l).map Pol.own⟩⟩ →
  x.ok /\ (∀ p ∈ x.policies.l,p.wf big) /\ ∀ h,Sm E TI az 10 [v.v,d.v] h = some (if aW x then .tup [x.v,.d (i64 0)] else .tup [vw0.v,.d (i64 1)],h):=by
 have k1:=fun h=>I75 H.h117 H.h263 v hv hw h;have k2:=fun h=>Qq H.h117 H.h263 d hd hwd h;have md:aW d.vw = true:=by
  simp only [bR,Bool.and_eq_true] at m2;exact m2.2
 obtain ⟨r1,r2,r3,r4⟩:=vG m1;obtain ⟨s1,s2,s3,s4⟩:=vG md;have hbig:(32:Nat) <= big:=by decide
 have a1:=bW r1; have a2:=bW r2; have a3:=bW r3; have a4:=bW r4;have b1:=bW s1; have b2:=bW s2; have b3:=bW s3; have b4:=bW s4;simp only [Dlt.vw] at b1 b2 b3 b4;obtain ⟨hdv,g1,g2,g3,g4⟩:=hd;have hok:∀ {x:Pol},x.wf big -> x.ok:=fun h=>h.fits;obtain ⟨n1,f1,c1⟩:=uR (E:=E) (T:=TI) (val:=az) (cells:=Pod.c) (key:=Pod.uid) (z:=7) (b:=72) (p:=0) (idf:=18) (g:=147) (srt:=146) cg7 cn4 i105 cn3 Re Rq ci0 cp9 i138 cn6 ck5 cs3 ck7 cs5 i143 Rv Rk Rx cg9 co2
  (fun hn=>by rw [aJ Yf]; exact H.h271 hn) (fun v hv h=>by rw [aJ Yf]; exact H.n271 v hv h) (fun _=>rfl) (by decide) rfl (by decide) (fun _=>rfl) (l:=v.pods) (fresh:=d.pods) hv.2.1 hdv.2.1 (by omega) (gone:=d.gonePods) (fun n h=>wC g1 n h) (fun e _ h=>JS e h) (iX a1.1 b1.1)
 obtain ⟨n2,f2,c2⟩:=uR (E:=E) (T:=TI) (val:=az) (cells:=Svc.c) (key:=Svc.id) (z:=5) (b:=48) (p:=0) (idf:=21) (g:=152) (srt:=151) ch7 cp6 ci1 cq0 Rf Rs ci2 cq1 i141 cn7 ck8 cs6 ck9 cs7 Ri Ru Rj Rw i167 co4
  (fun hn=>by rw [aJ Yg]; exact H.h276 hn) (fun v hv h=>by rw [aJ Yg]; exact H.n276 v hv h) (fun _=>rfl) (by decide) rfl (by decide) (fun _=>rfl) (l:=v.services) (fresh:=d.services) hv.2.2.1 hdv.2.2.1 (by omega) (gone:=d.goneServices) (fun n h=>wC g2 n h) (fun e _ h=>JU e h) (iX a2.1 b2.1)
 obtain ⟨n3,f3,c3⟩:=uR (E:=E) (T:=TI) (val:=az) (cells:=Way.c) (key:=Way.id) (z:=2) (b:=16) (p:=0) (idf:=24) (g:=156) (srt:=155) ch8 cp7 ci3 cq2 i109 Rt ci4 cq3 i145 cn8 cl0 cs8 cl1 cs9 Rl Ry Rp RD ch1 co6
  (fun hn=>by rw [aJ Yh]; exact H.h280 hn) (fun v hv h=>by rw [aJ Yh]; exact H.n280 v hv h) (fun _=>rfl) (by decide) rfl (by decide) (fun _=>rfl) (l:=v.bound) (fresh:=d.bound) hv.2.2.2.1 hdv.2.2.2.1 (by omega) (gone:=d.goneBound) (fun n h=>wC g3 n h) (fun e _ h=>JV e h) (iX a3.1 b3.1)
 obtain ⟨n4,f4,c4⟩:=uR (E:=E) (T:=TI) (val:=az) (cells:=Pol.c) (key:=Pol.id) (z:=5) (b:=64) (p:=0) (idf:=27) (g:=160) (srt:=159) ch9 cp8 ci5 cq4 Ro RB ci6 cq5 i148 cn9 cl2 ct0 cl3 ct1 Rm Rz Rn RA i171 co8
  (fun hn=>by rw [aJ Yi]; exact H.h284 hn) (fun v hv h=>by rw [aJ Yi]; exact H.n284 v hv h) (fun _=>rfl) (by decide) rfl (by decide) (fun _=>rfl) (l:=v.policies) (fresh:=d.policies) hv.2.2.2.2.1 hdv.2.2.2.2.1 (by omega) (gone:=d.gonePolicies) (fun n h=>wC g4 n h) (fun e _ h=>JW e h) (iX a4.1 b4.1)
 have q1:=oN (key:=Pod.uid) (l:=v.pods.l) (fresh:=d.pods.l) (gone:=d.gonePods.l);have q2:=oN (key:=Svc.id) (l:=v.services.l) (fresh:=d.services.l) (gone:=d.goneServices.l);have q3:=oN (key:=Way.id) (l:=v.bound.l) (fresh:=d.bound.l) (gone:=d.goneBound.l);have q4:=oN (key:=Pol.id) (l:=v.policies.l) (fresh:=d.policies.l) (gone:=d.gonePolicies.l);have w4:∀ p ∈ df Pol.id v.policies.l d.policies.l d.gonePolicies.l,p.wf big:=fun p hp=>by
  rcases Ia hp with h | h
  · exact hw p h
  · exact hwd p h
 refine ⟨n1,n2,n3,n4,?_⟩;generalize df Pod.uid v.pods.l d.pods.l d.gonePods.l = P1 at *;generalize df Svc.id v.services.l d.services.l d.goneServices.l = P2 at *;generalize df Way.id v.bound.l d.bound.l d.goneBound.l = P3 at *;generalize df Pol.id v.policies.l d.policies.l d.gonePolicies.l = P4 at *;rintro x rfl;have hwo:∀ p ∈ P4.map Pol.own,p.wf big:=fun p hp=>by
  obtain ⟨q,hq,rfl⟩:=List.mem_map.1 hp;exact Pol.own_wf (w4 q hq)
 have hx:Vw.ok ⟨d.epoch,d.covers,⟨n1,P1⟩,⟨n2,P2⟩,⟨n3,P3⟩,⟨n4,P4.map Pol.own⟩⟩ :=
  ⟨hdv.1,⟨by show P1.length <= big; omega,f1⟩,⟨by show P2.length <= big; omega,f2⟩,⟨by show P3.length <= big; omega,f3⟩,⟨by show (P4.map Pol.own).length <= big; rw [List.length_map]; omega,fun h=>by show P4.map Pol.own = []; rw [f4 h]; rfl⟩,fun p hp=>hok (hwo p hp)⟩
 refine ⟨hx,hwo,fun h=>?_⟩;have k155:∀ h,Sm E TI az 29 [.d (.slice n4 (P4.map Pol.c))] h = some (.d (.slice n4 ((P4.map Pol.own).map Pol.c)),h):=fun h=>by
  rw [aJ Ye];exact H.h155 ⟨n4,P4⟩ ⟨by show P4.length <= big; omega,f4⟩ (fun p hp=>hok (w4 p hp)) h
 have k135:=fun h=>kL (E:=E) (T:=TI) (val:=az) (cells:=di) cg8 cn5 (by decide) (by decide) (fun _=>rfl) hdv.1 h;have e1:d.vw.covers = d.covers:=rfl;rw [e1] at k135;have k75:∀ h,Sm E TI az 7 [.agg [.d (u64 d.epoch),.d (d.covers.d di),.d (.slice n1 (P1.map Pod.c)),.d (.slice n2 (P2.map Svc.c)),.d (.slice n3 (P3.map Way.c)),.d (.slice n4 ((P4.map Pol.own).map Pol.c))]] h = some (bl (aW ⟨d.epoch,d.covers,⟨n1,P1⟩,⟨n2,P2⟩,⟨n3,P3⟩,⟨n4,P4.map Pol.own⟩⟩),h):=fun h=>I75 H.h117 H.h263 _ hx hwo h;have hv0:ag [u64 0,.slice true [],.slice true [],.slice true [],.slice true [],.slice true []] = vw0.v:=rfl;have hvx:ag [u64 d.epoch,d.covers.d di,.slice n1 (P1.map Pod.c),.slice n2 (P2.map Svc.c),.slice n3 (P3.map Way.c),.slice n4 ((P4.map Pol.own).map Pol.c)] = Vw.v ⟨d.epoch,d.covers,⟨n1,P1⟩,⟨n2,P2⟩,⟨n3,P3⟩,⟨n4,P4.map Pol.own⟩⟩:=rfl;rw [← hvx];generalize aW _ = M at k75 ⊢;clear hx hwo hvx w4;generalize P4.map Pol.own = Q4 at *;rw [bf i80 j80];have hfn:∀ n caps,V.fn n caps = V.fn n caps:=fun _ _=>rfl;cases M <;> simp (decide:=true) [af,q80,aA,k1,k2,m1,m2,k135,c1,c2,c3,c4,k155,k75,aN,aD,aV] <;> first | rfl | done
end
end
end Go.Proofs.YtjkfknafpgfchaaGreat
