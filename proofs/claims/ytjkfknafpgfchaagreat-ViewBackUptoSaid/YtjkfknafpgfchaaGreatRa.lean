/- Readings of functions of the program, and what they answer. -/
import Derived.Test.YtjkfknafpgfchaaGreatQt
import Derived.Test.YtjkfknafpgfchaaGreatJa
import Derived.Test.YtjkfknafpgfchaaGreatR58
import Derived.Test.YtjkfknafpgfchaaGreatIa
set_option linter.unusedVariables false
set_option maxRecDepth 100000
set_option linter.unusedSimpArgs false
set_option linter.unnecessarySimpa false
namespace Go.Proofs.YtjkfknafpgfchaaGreat
section
open List
section
variable {E:Calls'} {T:FuncId -> Option QF} {val:FuncId -> Bool}
theorem QG {α:Type} {cells:α -> List D} {z c sf:FuncId} {same:α -> α -> Bool} (ht:T c = some (parsQ z)) (hv:val c = false) {x y:α} (hx:(cells x).length = z) (hy:(cells y).length = z) (hsf:∀ h,Sm E T val sf [ag (cells x),ag (cells y)] h = some (bl (same x y),h)) {p r:Nat} {h:Hp} (hp:ah h.bs p = some [.fn sf []]) (hr:ah h.bs r = some ((cells x).map .d)) :
 Sm E T val c [ag (cells y),.ptr p 0,.ptr r 0] h = some (bl (same x y),h):=by
 rw [aB ht hv];have hsx:=qH hx;have hsy:=qH hy;simp [parsQ,af,au hp,au hr,hsf,hsx,hsy,V.under]
theorem QE {α:Type} {cells:α -> List D} {z c c11 sm any idx sf:FuncId} {same:α -> α -> Bool} (ht:T c = some (parcQ c11 sm)) (hv:val c = false) (ht1:T c11 = some (parsQ z)) (hv1:val c11 = false) (ts:T sm = some (someQ any)) (vs:val sm = false) (ta:T any = some (anyQ idx)) (va:val any = false) (ti:T idx = some (idxQ z)) (vi:val idx = false)
 (hz:∀ x,(cells x).length = z) {a:Sl α} (hs:short a) {x:α} (hsf:∀ y ∈ a.l,∀ h,Sm E T val sf [ag (cells x),ag (cells y)] h = some (bl (same x y),h))
 {p f:Nat} {h:Hp} (hp:ah h.bs p = some [.fn sf []]) (hf:ah h.bs f = some [.d (a.d cells)]) :
 Sm E T val c [ag (cells x),.ptr f 0,.ptr p 0] h = some (bl (!a.l.any fun y=>same x y),h):=by
 have hsx:=qH (hz x);have hcl:∀ y ∈ a.l,∀ lo,Sm E T val c11 (.agg ((cells y).map .d) :: [.ptr p 0,.ptr h.bs.length 0]) ⟨h.bs ++ [.cells ((cells x).map .d)],lo⟩ = some (.d (.bool (same x y)),⟨h.bs ++ [.cells ((cells x).map .d)],lo⟩):=fun y hy lo =>
  QG ht1 hv1 (hz x) (hz y) (hsf y hy) (au hp) (by rw [dF]; rfl)
 have hsm:∀ lo,Sm E T val sm [.d (a.d cells),.fn c11 [.ptr p 0,.ptr h.bs.length 0]] ⟨h.bs ++ [.cells ((cells x).map .d)],lo⟩ = some (bl (a.l.any fun y=>same x y),⟨h.bs ++ [.cells ((cells x).map .d)],lo⟩):=fun lo =>
  kM ts vs rfl rfl (mF cells ti vi ta va (h:=⟨h.bs ++ [.cells ((cells x).map .d)],(h.bs ++ [Blk.cells ((cells x).map .d)]).length⟩) (RowIs.of hz _) hs.lt fun e he lo=>hcl e he lo)
 rw [aB ht hv];simp [parcQ,af,au hp,au hf,hsx,hsm,V.under]
theorem zZ {α:Type} {cells:α -> List D} {z:Nat} {c2 sm any idx idf:FuncId} {zero:List V} {key:α -> Int} (t2:T c2 = some (vpeQ z)) (v2:val c2 = false) (ts:T sm = some (someQ any)) (vs:val sm = false) (ta:T any = some (anyQ idx)) (va:val any = false) (ti:T idx = some (idxQ z)) (vi:val idx = false)
 (hz:∀ x,(cells x).length = z) (hz0:0 < z) (hzero:zero.length = z) {a b:Sl α} (ha:short a) (hb:short b) (hab:a.l.length < big) (hid:∀ e,e ∈ a.l \/ e ∈ b.l -> ∀ h,Sm E T val idf [ag (cells e)] h = some (.d (u64 (key e)),h))
 {base:List Blk} {q:Nat} (hq:ah base q = some [.fn idf []]) {v8:V} (h8:nu v8 = some v8):∀ (m i:Nat) (acc:List Int) (bs:List Blk) (v:V) (lo:Nat),i + m = a.l.length -> acc.length <= i -> Acc base 1 (acc.map aY) bs v →
 ∃ bs' v' lo',Cd E T val (.loop [1,6,8,9,15,16,17] (nz z c2 sm zero)) [(1,.d (b.d cells)),(6,.ptr q 0),(8,v8),(9,v),(15,.d (a.d cells)),(16,.d (i64 a.l.length)),(17,.d (i64 i))] ⟨bs,lo⟩ = some (.exit 0,[(8,v8),(9,v')],⟨bs',lo'⟩) ∧
  Acc base 1 ((acc ++ ((a.l.drop i).filter fun x=>!b.l.any fun y=>key x == key y).map key).map aY) bs' v':=by
 have hlt:=ha.lt;intro m;have keyW:=ax (E:=E) (T:=T) (val:=val) [1,6,8,9,15,16,17] (nz z c2 sm zero);generalize Cd E T val (.loop [1,6,8,9,15,16,17] (nz z c2 sm zero)) = W at keyW ⊢
 induction m with
 | zero =>
  intro i acc bs v lo hi ha' hA;refine ⟨bs,v,lo,?_,by rw [List.drop_eq_nil_of_le (by omega)]; simpa using hA⟩;have hnu:=hA.nu;rw [keyW];simp [nz,h8,hnu,show ¬ ((i:Int) < a.l.length) from by omega]
 | succ m ih =>
  intro i acc bs v lo hi ha' hA;have hnu:=hA.nu;have h1:i < a.l.length:=by omega
  have hx:=fun h=>ol (cells:=cells) hz h1 (kd:=.i64) (h:=h);have hw:=aK h1 hlt;have hmem:=List.getElem_mem h1;rw [List.drop_eq_getElem_cons h1];generalize a.l[i] = x at *;have hsx:=bB (hz x);have hA1:=hA.lay [.cells ((cells x).map .d)];have hq1:=hA1.get hq;have hcl:∀ y ∈ b.l,∀ lo,Sm E T val c2 (.agg ((cells y).map .d) :: [.ptr q 0,.ptr bs.length 0]) ⟨bs ++ [.cells ((cells x).map .d)],lo⟩ = some (.d (.bool (key x == key y)),⟨bs ++ [.cells ((cells x).map .d)],lo⟩):=fun y hy lo =>
   Oe t2 v2 (hz x) (hz y) (fun e he=>hid e (by rcases he with rfl | rfl; exact .inl hmem; exact .inr hy)) hq1 (by rw [dF]; rfl)
  have hsm:∀ lo,Sm E T val sm [.d (b.d cells),.fn c2 [.ptr q 0,.ptr bs.length 0]] ⟨bs ++ [.cells ((cells x).map .d)],lo⟩ = some (bl (b.l.any fun y=>key x == key y),⟨bs ++ [.cells ((cells x).map .d)],lo⟩):=fun lo =>
   kM ts vs rfl rfl (mF cells ti vi ta va (h:=⟨bs ++ [.cells ((cells x).map .d)],(bs ++ [Blk.cells ((cells x).map .d)]).length⟩) (RowIs.of hz _) hb.lt fun e he lo=>hcl e he lo)
  have hput:∀ y:List V,y.length = z -> put zero 0 y = some y:=fun y hy=>by
   unfold put;rw [if_pos (by omega),List.take_zero,List.nil_append,List.drop_eq_nil_of_le (by omega),List.append_nil]
  have hpx:=hput ((cells x).map .d) (by simpa using hz x);have hidx:=hid x (.inl hmem);have hxl:¬ (cells x).length = 0:=by rw [hz x]; omega
  by_cases hg:(b.l.any fun y=>key x == key y) = true
  · obtain ⟨bs',v',lo',q1,q2⟩:=ih (i + 1) acc (bs ++ [.cells ((cells x).map .d)]) v (min lo bs.length) (by omega) (by omega) hA1;refine ⟨bs',v',lo',?_,by simpa [hg] using q2⟩;rw [keyW];simp [nz,hx,hsx,hw,h8,hnu,hz x,hz0,hpx,hsm,hg,hidx,hq1,au hq1,show ((i:Int) < a.l.length) from by omega];simpa using q1
  · have hg':=Bool.eq_false_iff.2 hg;obtain ⟨v1,bs1,lo1,k1,k2⟩:=(hA1.lay [.cells [.d (u64 (key x))]]).app (by decide) (by_:=8) (by decide) (e:=aY (key x)) rfl (by simp; omega) (min lo bs.length) (r:=bs.length + 1) (cap:=some 1) (by
     have:ah ((bs ++ [Blk.cells ((cells x).map .d)]) ++ [.cells [.d (u64 (key x))]]) (bs ++ [Blk.cells ((cells x).map .d)]).length = some [.d (u64 (key x))]:=by rw [dF]; rfl
     simpa [aY] using this)
    have hnu1:=k2.nu;obtain ⟨bs',v',lo',q1,q2⟩:=ih (i + 1) (acc ++ [key x]) bs1 v1 lo1 (by omega) (by simp; omega) (by simpa using k2);refine ⟨bs',v',lo',?_,by simpa [hg'] using q2⟩;simp only [List.append_assoc,List.cons_append,List.nil_append] at k1;have hp1:put [V.d (D.int .u64 0)] 0 [V.d (u64 (key x))] = some [V.d (u64 (key x))]:=rfl;rw [keyW];simp [nz,hx,hsx,hw,h8,hnu,hz x,hz0,hpx,hsm,hg',hidx,hq1,au hq1,aA,hp1,k1,hnu1,show ((i:Int) < a.l.length) from by omega];simpa using q1
theorem KeptP.dat {α:Type} {cells:α -> List D} {z n:Nat} {nl:Bool} {l:List α} {bs bs':List Blk} {v:V} (h:KeptP cells z n nl l bs v) (ho:∀ x,x < bs.length -> bs'[x]? = bs[x]?) (lo k:Nat) (hz:∀ x,(cells x).length = z):dataV ⟨bs',lo⟩ (k + 1) v = some (.slice nl (l.map cells)):=by
 rcases h with ⟨rfl,rfl,rfl⟩ | ⟨rfl,B,cap,rest,_,rfl,hg,_⟩
 · rfl
 · refine dI (by simp; intro a _; exact hz a) (by simp) ?_ (rest:=rest);have:=ho B (aP hg);unfold ah at hg ⊢;rw [this]; exact hg
theorem qP {α:Type} {cells:α -> List D} {z b:Nat} {id c1 c11 c2 sm any idx keep cl clos del idf sf:FuncId} {zero:List V} {key:α -> Int} {same:α -> α -> Bool} (tcl:T cl = some (cloneQ z b zero)) (vcl:val cl = false) (tdel:T del = some (delQ z idx zero)) (vdel:val del = false) (ti:T idx = some (idxQ z)) (vi:val idx = false)
 (tn:T clos = some (notQ z)) (vn:val clos = false) (tk:T keep = some (keepQ cl clos del)) (vk:val keep = false) (t1:T c1 = some (parcQ c11 sm)) (v1:val c1 = false) (t11:T c11 = some (parsQ z)) (v11:val c11 = false) (t2:T c2 = some (vpeQ z)) (v2:val c2 = false) (ts:T sm = some (someQ any)) (vs:val sm = false) (ta:T any = some (anyQ idx)) (va:val any = false)
 (tid:T id = some (partsQ z keep c1 c2 sm zero)) (vid:val id = true)
 (hz:∀ x,(cells x).length = z) (hz0:0 < z) (hzero:zero.length = z) (hb4:b <= 4096) {l m:Sl α} (hl:short l) (hm:short m) (hlb:l.l.length < big)
 (hid:∀ e,e ∈ l.l \/ e ∈ m.l -> ∀ h,Sm E T val idf [ag (cells e)] h = some (.d (u64 (key e)),h)) (hsf:∀ x ∈ m.l,∀ y ∈ l.l,∀ h,Sm E T val sf [ag (cells x),ag (cells y)] h = some (bl (same x y),h)) (h:Hp) :
 Sm E T val id [.d (l.d cells),.d (m.d cells),.fn idf [],.fn sf []] h = some (.tup [.d (.slice m.nl ((aX same l.l m.l).map cells)),.d (.slice (bq key l.l m.l).isEmpty ((bq key l.l m.l).map aY))],h):=by
 have hfr:∀ f h,frz h (.fn f []) = some (.fn f []):=fun _ _=>rfl;have hpf:∀ f,cO (.fn f []) = true:=fun _=>rfl;obtain ⟨r,bs1,lo1,k1,k2,k3,k4⟩:=BB (E:=E) (T:=T) (val:=val) tcl vcl tdel vdel ti vi tn vn tk vk hz hz0 hzero hb4 hm (f:=c1) (caps:=[.ptr 0 0,.ptr 2 0]) (q:=fun x=>!l.l.any fun y=>same x y) (h:=⟨[.cells [.d (l.d cells)],.cells [.fn idf []],.cells [.fn sf []]],0⟩) fun e he bs lo hle ho=>by
  simp only [List.length_cons,List.length_nil] at hle ho;refine QE t1 v1 t11 v11 ts vs ta va ti vi hz hl (fun y hy=>hsf e he y hy) ?_ ?_
  · simp only [ah]; rw [ho 2 (by decide)]; rfl
  · simp only [ah]; rw [ho 0 (by decide)]; rfl
 simp only [List.length_cons,List.length_nil] at k2 k3 k4;have hb0:ah bs1 0 = some [.d (l.d cells)]:=by simp only [ah]; rw [k3 0 (by decide)]; rfl
 have hb1:ah bs1 1 = some [.fn idf []]:=by simp only [ah]; rw [k3 1 (by decide)]; rfl
 have hnur:=k4.nu;obtain ⟨bs',v',lo',q1,q2⟩:=zZ (E:=E) (zero:=zero) t2 v2 ts vs ta va ti vi hz hz0 hzero hl hm hlb hid hb1 hnur.1 l.l.length 0 [] bs1 _ lo1 (by omega) (Nat.le_refl _) (Acc.nil bs1 1);have hdr:dataV ⟨bs',lo'⟩ 8 r = some (.slice m.nl ((aX same l.l m.l).map cells)):=k4.dat q2.old lo' 7 hz;have hdv:=q2.frz lo';have hog:([]:List Int) ++ ((l.l.drop 0).filter fun x=>!m.l.any fun y=>key x == key y).map key = bq key l.l m.l:=rfl;rw [hog] at hdv;have hnv:=q2.nu;have hfr8:dD ⟨bs',lo'⟩ r = some (.d (.slice m.nl ((aX same l.l m.l).map cells))):=by
  rcases k4 with ⟨_,_,rfl⟩ | ⟨_,B,cap,rest,_,rfl,_⟩ <;> simp only [dD,hdr]
 rw [bf tid vid];simp only [Int.natCast_zero,Int.ofNat_zero] at q1;simp [partsQ,af,hfr,k1,hb0,hnur.1,hnur.2,hpf];rw [aH];simp only [jX,lT];simp [hnur.1,q1,hnv,hfr8,hdv.2,hpf]
end
end
section
def bl8:List (Nat × QF):=[(6,r58),(17,(partsQ 7 78 98 100 83 qE)),(20,(partsQ 5 81 101 103 73 qI)),(23,(partsQ 2 85 104 107 105 qJ)),(26,(partsQ 5 88 108 111 109 mJ)),(19,Na),(22,Nb),(25,Nc),(16,(cloneQ 1 4 [(.d (.int .u32 0))])),(98,(parcQ 99 83)),(101,(parcQ 102 73)),(104,(parcQ 106 105)),(108,(parcQ 110 109)),(99,(parsQ 7)),(102,(parsQ 5)),(106,(parsQ 2)),(110,(parsQ 5)),(100,(vpeQ 7)),(103,(vpeQ 5)),(107,(vpeQ 2)),(111,(vpeQ 5)),(73,(someQ 173)),(83,(someQ 180)),(105,(someQ 187)),(109,(someQ 188)),(173,(anyQ 94)),(180,(anyQ 92)),(187,(anyQ 171)),(188,(anyQ 261)),(92,(idxQ 7)),(94,(idxQ 5)),(171,(idxQ 2)),(261,(idxQ 5)),(78,(keepQ 166 177 176)),(81,(keepQ 167 179 178)),(85,(keepQ 168 182 181)),(88,(keepQ 114 184 183)),(176,(delQ 7 92 qE)),(178,(delQ 5 94 qI)),(181,(delQ 2 171 qJ)),(183,(delQ 5 261 mJ)),(166,(cloneQ 7 72 qE)),(167,(cloneQ 5 48 qI)),(168,(cloneQ 2 16 qJ)),(114,(cloneQ 5 64 mJ)),(177,(notQ 7)),(179,(notQ 5)),(182,(notQ 2)),(184,(notQ 5))]
def TD:FuncId -> Option QF:=jk bl8
def bA (f:FuncId):Bool:=[6,17,20,23,26,19,22,25,16].any fun n=>Nat.beq n f
theorem bd6:TD 6 = some r58:=by kernel_rfl
theorem bk9:bA 6 = true:=by kernel_rfl
theorem aw4:TD 17 = some (partsQ 7 78 98 100 83 qE):=by kernel_rfl
theorem bf0:bA 17 = true:=by kernel_rfl
theorem aw7:TD 20 = some (partsQ 5 81 101 103 73 qI):=by kernel_rfl
theorem bf2:bA 20 = true:=by kernel_rfl
theorem ax0:TD 23 = some (partsQ 2 85 104 107 105 qJ):=by kernel_rfl
theorem bf4:bA 23 = true:=by kernel_rfl
theorem ax3:TD 26 = some (partsQ 5 88 108 111 109 mJ):=by kernel_rfl
theorem bf6:bA 26 = true:=by kernel_rfl
theorem aw6:TD 19 = some Na:=by kernel_rfl
theorem bf1:bA 19 = true:=by kernel_rfl
theorem aw9:TD 22 = some Nb:=by kernel_rfl
theorem bf3:bA 22 = true:=by kernel_rfl
theorem ax2:TD 25 = some Nc:=by kernel_rfl
theorem bf5:bA 25 = true:=by kernel_rfl
theorem av8:TD 16 = some (cloneQ 1 4 [(.d (.int .u32 0))]):=by kernel_rfl
theorem be4:bA 16 = true:=by kernel_rfl
theorem ba4:TD 98 = some (parcQ 99 83):=by kernel_rfl
theorem bi5:bA 98 = false:=by kernel_rfl
theorem ba7:TD 101 = some (parcQ 102 73):=by kernel_rfl
theorem bi8:bA 101 = false:=by kernel_rfl
theorem bb4:TD 104 = some (parcQ 106 105):=by kernel_rfl
theorem bj1:bA 104 = false:=by kernel_rfl
theorem bb8:TD 108 = some (parcQ 110 109):=by kernel_rfl
theorem bj5:bA 108 = false:=by kernel_rfl
theorem ba5:TD 99 = some (parsQ 7):=by kernel_rfl
theorem bi6:bA 99 = false:=by kernel_rfl
theorem ba8:TD 102 = some (parsQ 5):=by kernel_rfl
theorem bi9:bA 102 = false:=by kernel_rfl
theorem bb6:TD 106 = some (parsQ 2):=by kernel_rfl
theorem bj3:bA 106 = false:=by kernel_rfl
theorem bc4:TD 110 = some (parsQ 5):=by kernel_rfl
theorem bj7:bA 110 = false:=by kernel_rfl
theorem ba6:TD 100 = some (vpeQ 7):=by kernel_rfl
theorem bi7:bA 100 = false:=by kernel_rfl
theorem ba9:TD 103 = some (vpeQ 5):=by kernel_rfl
theorem bj0:bA 103 = false:=by kernel_rfl
theorem bb7:TD 107 = some (vpeQ 2):=by kernel_rfl
theorem bj4:bA 107 = false:=by kernel_rfl
theorem bc5:TD 111 = some (vpeQ 5):=by kernel_rfl
theorem bj8:bA 111 = false:=by kernel_rfl
theorem av7:TD 73 = some (someQ 173):=by kernel_rfl
theorem be3:bA 73 = false:=by kernel_rfl
theorem aw1:TD 83 = some (someQ 180):=by kernel_rfl
theorem be7:bA 83 = false:=by kernel_rfl
theorem bb5:TD 105 = some (someQ 187):=by kernel_rfl
theorem bj2:bA 105 = false:=by kernel_rfl
theorem bb9:TD 109 = some (someQ 188):=by kernel_rfl
theorem bj6:bA 109 = false:=by kernel_rfl
theorem az5:TD 173 = some (anyQ 94):=by kernel_rfl
theorem bh6:bA 173 = false:=by kernel_rfl
theorem az9:TD 180 = some (anyQ 92):=by kernel_rfl
theorem bi0:bA 180 = false:=by kernel_rfl
theorem bd5:TD 187 = some (anyQ 171):=by kernel_rfl
theorem bk8:bA 187 = false:=by kernel_rfl
theorem bd3:TD 188 = some (anyQ 261):=by kernel_rfl
theorem bk6:bA 188 = false:=by kernel_rfl
theorem az1:TD 92 = some (idxQ 7):=by kernel_rfl
theorem bh2:bA 92 = false:=by kernel_rfl
theorem az2:TD 94 = some (idxQ 5):=by kernel_rfl
theorem bh3:bA 94 = false:=by kernel_rfl
theorem az3:TD 171 = some (idxQ 2):=by kernel_rfl
theorem bh4:bA 171 = false:=by kernel_rfl
theorem bd4:TD 261 = some (idxQ 5):=by kernel_rfl
theorem bk7:bA 261 = false:=by kernel_rfl
theorem av9:TD 78 = some (keepQ 166 177 176):=by kernel_rfl
theorem be5:bA 78 = false:=by kernel_rfl
theorem aw0:TD 81 = some (keepQ 167 179 178):=by kernel_rfl
theorem be6:bA 81 = false:=by kernel_rfl
theorem aw2:TD 85 = some (keepQ 168 182 181):=by kernel_rfl
theorem be8:bA 85 = false:=by kernel_rfl
theorem aw3:TD 88 = some (keepQ 114 184 183):=by kernel_rfl
theorem be9:bA 88 = false:=by kernel_rfl
theorem az4:TD 176 = some (delQ 7 92 qE):=by kernel_rfl
theorem bh5:bA 176 = false:=by kernel_rfl
theorem az7:TD 178 = some (delQ 5 94 qI):=by kernel_rfl
theorem bh8:bA 178 = false:=by kernel_rfl
theorem ba0:TD 181 = some (delQ 2 171 qJ):=by kernel_rfl
theorem bi1:bA 181 = false:=by kernel_rfl
theorem ba2:TD 183 = some (delQ 5 261 mJ):=by kernel_rfl
theorem bi3:bA 183 = false:=by kernel_rfl
theorem ax7:TD 166 = some (cloneQ 7 72 qE):=by kernel_rfl
theorem bf7:bA 166 = false:=by kernel_rfl
theorem ax8:TD 167 = some (cloneQ 5 48 qI):=by kernel_rfl
theorem bf8:bA 167 = false:=by kernel_rfl
theorem ax9:TD 168 = some (cloneQ 2 16 qJ):=by kernel_rfl
theorem bf9:bA 168 = false:=by kernel_rfl
theorem ay4:TD 114 = some (cloneQ 5 64 mJ):=by kernel_rfl
theorem bg4:bA 114 = false:=by kernel_rfl
theorem az6:TD 177 = some (notQ 7):=by kernel_rfl
theorem bh7:bA 177 = false:=by kernel_rfl
theorem az8:TD 179 = some (notQ 5):=by kernel_rfl
theorem bh9:bA 179 = false:=by kernel_rfl
theorem ba1:TD 182 = some (notQ 2):=by kernel_rfl
theorem bi2:bA 182 = false:=by kernel_rfl
theorem ba3:TD 184 = some (notQ 5):=by kernel_rfl
theorem bi4:bA 184 = false:=by kernel_rfl
theorem NK:TD 7 = none:=by kernel_rfl
theorem ax6:TD 29 = none:=by kernel_rfl
theorem ax5:TD 28 = none:=by kernel_rfl
theorem aw5:TD 18 = none:=by kernel_rfl
theorem aw8:TD 21 = none:=by kernel_rfl
theorem ax1:TD 24 = none:=by kernel_rfl
theorem ax4:TD 27 = none:=by kernel_rfl
structure DiffH (E:Calls'):Prop where
 h62:∀ v:Vw,v.ok -> (∀ p ∈ v.policies.l,p.wf big) -> ∀ h,E 7 [v.v] h = some (bl (aW v),h)
 h189:∀ s:Sl Pol,short s -> (∀ p ∈ s.l,p.ok) -> ∀ h,E 29 [.d (s.d Pol.c)] h = some (.d (Sl.d Pol.c ⟨s.nl,s.l.map Pol.own⟩),h)
 h188:∀ p q:Pol,p.ok -> q.ok -> ∀ h,E 28 [ag p.c,ag q.c] h = some (bl (p.same q),h)
 h178:∀ (p:Pod) h,E 18 [ag p.c] h = some (.d (u64 p.uid),h)
 h181:∀ (p:Svc) h,E 21 [ag p.c] h = some (.d (u64 p.id),h)
 h184:∀ (p:Way) h,E 24 [ag p.c] h = some (.d (u64 p.id),h)
 h187:∀ (p:Pol) h,E 27 [ag p.c] h = some (.d (u64 p.id),h)
section
variable {E:Calls'}
theorem bu1 (x y:Pod) (h:Hp):Sm E TD bA 19 [ag x.c,ag y.c] h = some (bl (Pod.eqB x y),h):=by
 rw [bf aw6 bf1];simp [af,Na]
theorem bu3 (x y:Svc) (h:Hp):Sm E TD bA 22 [ag x.c,ag y.c] h = some (bl (Svc.eqB x y),h):=by
 rw [bf aw9 bf3];simp [af,Nb]
theorem bu5 (x y:Way) (h:Hp):Sm E TD bA 25 [ag x.c,ag y.c] h = some (bl (Way.eqB x y),h):=by
 rw [bf ax2 bf5];simp [af,Nc]
variable (H:DiffH E)
include H
theorem bu0 {l m:Sl Pod} (hl:short l) (hm:short m) (hlb:l.l.length < big) (h:Hp) :
 Sm E TD bA 17 [.d (l.d Pod.c),.d (m.d Pod.c),.fn 18 [],.fn 19 []] h = some (.tup [.d (.slice m.nl ((aX Pod.eqB l.l m.l).map Pod.c)),.d (.slice (bq Pod.uid l.l m.l).isEmpty ((bq Pod.uid l.l m.l).map aY))],h) :=
 qP (E:=E) (T:=TD) (val:=bA) (z:=7) (b:=72) ax7 bf7 az4 bh5 az1 bh2 az6 bh7 av9 be5 ba4 bi5 ba5 bi6 ba6 bi7 aw1 be7 az9 bi0 aw4 bf0 (fun _=>rfl) (by decide) rfl (by decide) hl hm hlb (fun e _ h=>by rw [aJ aw5]; exact H.h178 e h) (fun x _ y _ h=>bu1 x y h) h
theorem bu2 {l m:Sl Svc} (hl:short l) (hm:short m) (hlb:l.l.length < big) (h:Hp) :
 Sm E TD bA 20 [.d (l.d Svc.c),.d (m.d Svc.c),.fn 21 [],.fn 22 []] h = some (.tup [.d (.slice m.nl ((aX Svc.eqB l.l m.l).map Svc.c)),.d (.slice (bq Svc.id l.l m.l).isEmpty ((bq Svc.id l.l m.l).map aY))],h) :=
 qP (E:=E) (T:=TD) (val:=bA) (z:=5) (b:=48) ax8 bf8 az7 bh8 az2 bh3 az8 bh9 aw0 be6 ba7 bi8 ba8 bi9 ba9 bj0 av7 be3 az5 bh6 aw7 bf2 (fun _=>rfl) (by decide) rfl (by decide) hl hm hlb (fun e _ h=>by rw [aJ aw8]; exact H.h181 e h) (fun x _ y _ h=>bu3 x y h) h
theorem bu4 {l m:Sl Way} (hl:short l) (hm:short m) (hlb:l.l.length < big) (h:Hp) :
 Sm E TD bA 23 [.d (l.d Way.c),.d (m.d Way.c),.fn 24 [],.fn 25 []] h = some (.tup [.d (.slice m.nl ((aX Way.eqB l.l m.l).map Way.c)),.d (.slice (bq Way.id l.l m.l).isEmpty ((bq Way.id l.l m.l).map aY))],h) :=
 qP (E:=E) (T:=TD) (val:=bA) (z:=2) (b:=16) ax9 bf9 ba0 bi1 az3 bh4 ba1 bi2 aw2 be8 bb4 bj1 bb6 bj3 bb7 bj4 bb5 bj2 bd5 bk8 ax0 bf4 (fun _=>rfl) (by decide) rfl (by decide) hl hm hlb (fun e _ h=>by rw [aJ ax1]; exact H.h184 e h) (fun x _ y _ h=>bu5 x y h) h
theorem bu6 {l m:Sl Pol} (hl:short l) (hm:short m) (hlb:l.l.length < big) (hlo:∀ p ∈ l.l,p.ok) (hmo:∀ p ∈ m.l,p.ok) (h:Hp) :
 Sm E TD bA 26 [.d (l.d Pol.c),.d (m.d Pol.c),.fn 27 [],.fn 28 []] h = some (.tup [.d (.slice m.nl ((aX Pol.same l.l m.l).map Pol.c)),.d (.slice (bq Pol.id l.l m.l).isEmpty ((bq Pol.id l.l m.l).map aY))],h) :=
 qP (E:=E) (T:=TD) (val:=bA) (z:=5) (b:=64) ay4 bg4 ba2 bi3 bd4 bk7 ba3 bi4 aw3 be9 bb8 bj5 bc4 bj7 bc5 bj8 bb9 bj6 bd3 bk6 ax3 bf6 (fun _=>rfl) (by decide) rfl (by decide) hl hm hlb (fun e _ h=>by rw [aJ ax4]; exact H.h187 e h) (fun x hx y hy h=>by rw [aJ ax5]; exact H.h188 x y (hmo x hx) (hlo y hy) h) h
def dlt0:Dlt:=⟨0,⟨true,[]⟩,⟨true,[]⟩,⟨true,[]⟩,⟨true,[]⟩,⟨true,[]⟩,⟨true,[]⟩,⟨true,[]⟩,⟨true,[]⟩,⟨true,[]⟩⟩
def bL (a b:Vw):Dlt:=uq a b b.pods.nl b.services.nl b.bound.nl b.policies.nl (bq Pod.uid a.pods.l b.pods.l).isEmpty (bq Svc.id a.services.l b.services.l).isEmpty (bq Way.id a.bound.l b.bound.l).isEmpty (bq Pol.id a.policies.l b.policies.l).isEmpty (dB a b)
theorem bu7 (a b:Vw) (ha:a.ok) (hwa:∀ p ∈ a.policies.l,p.wf big) (hb:b.ok) (hwb:∀ p ∈ b.policies.l,p.wf big) (hno:(aW a && aW b) = false) (h:Hp):Sm E TD bA 6 [a.v,b.v] h = some (.tup [ag dlt0.c,.d (i64 1)],h):=by
 have k1:=fun h=>(aJ (T:=TD) (val:=bA) NK:_ = E 7 [a.v] h).trans (H.h62 a ha hwa h);have k2:=fun h=>(aJ (T:=TD) (val:=bA) NK:_ = E 7 [b.v] h).trans (H.h62 b hb hwb h);rw [bf bd6 bk9];cases m1:aW a with
 | false=>simp (decide:=true) [af,r58,k1,m1,aA]; rfl
 | true =>
  have m2:aW b = false:=by simpa [m1] using hno
  simp (decide:=true) [af,r58,k1,k2,m1,m2,aA]; rfl
theorem D58 (a b:Vw) (ha:a.ok) (hwa:∀ p ∈ a.policies.l,p.wf big) (hb:b.ok) (hwb:∀ p ∈ b.policies.l,p.wf big) (m1:aW a = true) (m2:aW b = true) (h:Hp):Sm E TD bA 6 [a.v,b.v] h = some (.tup [ag (bL a b).c,.d (i64 0)],h):=by
 have k1:=fun h=>(aJ (T:=TD) (val:=bA) NK:_ = E 7 [a.v] h).trans (H.h62 a ha hwa h);have k2:=fun h=>(aJ (T:=TD) (val:=bA) NK:_ = E 7 [b.v] h).trans (H.h62 b hb hwb h);rw [m1] at k1;rw [m2] at k2;obtain ⟨r1,r2,r3,r4⟩:=vG m1;have hbig:(32:Nat) < big:=by decide
 have a1:=bW r1; have a2:=bW r2; have a3:=bW r3; have a4:=bW r4;have p1:=fun h=>bu0 H (l:=a.pods) (m:=b.pods) ha.2.1 hb.2.1 (by omega) h;have p2:=fun h=>bu2 H (l:=a.services) (m:=b.services) ha.2.2.1 hb.2.2.1 (by omega) h;have p3:=fun h=>bu4 H (l:=a.bound) (m:=b.bound) ha.2.2.2.1 hb.2.2.2.1 (by omega) h;have hok:∀ {x:Pol},x.wf big -> x.ok:=fun h=>h.fits;have p4:=fun h=>bu6 H (l:=a.policies) (m:=b.policies) ha.2.2.2.2.1 hb.2.2.2.2.1 (by omega) (fun p hp=>hok (hwa p hp)) (fun p hp=>hok (hwb p hp)) h;have k154:=fun h=>kL (E:=E) (T:=TD) (val:=bA) (cells:=di) av8 be4 (by decide) (by decide) (fun _=>rfl) hb.1 h;have hfs:∀ p ∈ aX Pol.same a.policies.l b.policies.l,p ∈ b.policies.l:=fun p hp=>(List.mem_filter.1 hp).1;have hfl:(aX Pol.same a.policies.l b.policies.l).length <= b.policies.l.length:=List.length_filter_le _ _;have k189:∀ h,Sm E TD bA 29 [.d (.slice b.policies.nl ((aX Pol.same a.policies.l b.policies.l).map Pol.c))] h = some (.d (.slice b.policies.nl ((dB a b).map Pol.c)),h):=fun h=>by
  rw [aJ ax6];exact H.h189 ⟨b.policies.nl,aX Pol.same a.policies.l b.policies.l⟩ ⟨Nat.le_trans hfl hb.2.2.2.2.1.1,fun hn=>by
   show aX Pol.same a.policies.l b.policies.l = [];have hh:b.policies.l = []:=hb.2.2.2.2.1.2 hn;rw [aX,hh]; rfl⟩ (fun p hp=>hok (hwb p (hfs p hp))) h
 have hD:ag (bL a b).c = ag [u64 b.epoch,b.covers.d di,.slice b.pods.nl ((aX Pod.eqB a.pods.l b.pods.l).map Pod.c),.slice b.services.nl ((aX Svc.eqB a.services.l b.services.l).map Svc.c),.slice b.bound.nl ((aX Way.eqB a.bound.l b.bound.l).map Way.c),.slice b.policies.nl ((dB a b).map Pol.c),
  .slice (bq Pod.uid a.pods.l b.pods.l).isEmpty ((bq Pod.uid a.pods.l b.pods.l).map aY),.slice (bq Svc.id a.services.l b.services.l).isEmpty ((bq Svc.id a.services.l b.services.l).map aY),.slice (bq Way.id a.bound.l b.bound.l).isEmpty ((bq Way.id a.bound.l b.bound.l).map aY),.slice (bq Pol.id a.policies.l b.policies.l).isEmpty ((bq Pol.id a.policies.l b.policies.l).map aY)]:=rfl
 rw [hD];clear hD hfs hfl;generalize dB a b = F4 at *;generalize aX Pod.eqB a.pods.l b.pods.l = F1 at *;generalize aX Svc.eqB a.services.l b.services.l = F2 at *;generalize aX Way.eqB a.bound.l b.bound.l = F3 at *;generalize aX Pol.same a.policies.l b.policies.l = F5 at *;generalize bq Pod.uid a.pods.l b.pods.l = G1 at *;generalize bq Svc.id a.services.l b.services.l = G2 at *;generalize bq Way.id a.bound.l b.bound.l = G3 at *;generalize bq Pol.id a.policies.l b.policies.l = G4 at *;rw [bf bd6 bk9];simp (decide:=true) [af,r58,aA,k1,k2,p1,p2,p3,p4,k154,k189,aN,aD,aV];all_goals first | rfl | done
end
end
section
theorem wX {a b:Vw} (ha:a.ok) (hb:b.ok) (hwb:∀ p ∈ b.policies.l,p.wf big):(bL a b).ok /\ ∀ p ∈ (bL a b).policies.l,p.wf big:=by
 have fl:∀ {α:Type} (f:α -> Bool) {s:Sl α},short s -> short ⟨s.nl,s.l.filter f⟩:=fun f s hs=>⟨Nat.le_trans (List.length_filter_le _ _) hs.1,fun hn=>by
  have:s.l = []:=hs.2 hn;show s.l.filter f = [];rw [this]; rfl⟩
 have gl:∀ {α:Type} (key:α -> Int) (x y:List α),x.length <= big -> short (⟨(bq key x y).isEmpty,bq key x y⟩:Sl Int):=fun key x y hx=>⟨by
  show (bq key x y).length <= big;rw [bq,List.length_map];exact Nat.le_trans (List.length_filter_le _ _) hx,fun hn=>List.isEmpty_iff.1 hn⟩
 have hw:∀ p ∈ dB a b,p.wf big:=fun p hp=>by
  obtain ⟨q,hq,rfl⟩:=List.mem_map.1 hp;exact Pol.own_wf (hwb q (List.mem_filter.1 hq).1)
 refine ⟨⟨⟨hb.1,fl _ hb.2.1,fl _ hb.2.2.1,fl _ hb.2.2.2.1,?_,fun p hp=>(hw p hp).fits⟩,gl _ _ _ ha.2.1.1,gl _ _ _ ha.2.2.1.1,gl _ _ _ ha.2.2.2.1.1,gl _ _ _ ha.2.2.2.2.1.1⟩,hw⟩;refine ⟨?_,fun hn=>?_⟩
 · show (dB a b).length <= big;rw [dB,List.length_map];exact Nat.le_trans (List.length_filter_le _ _) hb.2.2.2.2.1.1
 · have:b.policies.l = []:=hb.2.2.2.2.1.2 hn;show dB a b = [];rw [dB,aX,this]; rfl
structure ChainH (E:Calls'):Prop where
 h57:∀ v:Vw,v.ok -> ∃ b:Bool,∀ h,E 4 [v.v] h = some (bl b,h)
 h50:∀ h,E 5 [] h = some (bl true,h)
 h58n:∀ a b:Vw,a.ok -> (∀ p ∈ a.policies.l,p.wf big) -> b.ok -> (∀ p ∈ b.policies.l,p.wf big) -> (aW a && aW b) = false -> ∀ h,E 6 [a.v,b.v] h = some (.tup [ag dlt0.c,.d (i64 1)],h)
 h58:∀ a b:Vw,a.ok -> (∀ p ∈ a.policies.l,p.wf big) -> b.ok -> (∀ p ∈ b.policies.l,p.wf big) -> aW a = true -> aW b = true -> ∀ h,E 6 [a.v,b.v] h = some (.tup [ag (bL a b).c,.d (i64 0)],h)
 h59:∀ (v:Vw) (d:Dlt),v.ok -> (∀ p ∈ v.policies.l,p.wf big) -> d.ok -> (∀ p ∈ d.policies.l,p.wf big) -> aW v = true -> bR d = true →
  ∃ n1 n2 n3 n4,∀ x:Vw,x = ⟨d.epoch,d.covers,⟨n1,df Pod.uid v.pods.l d.pods.l d.gonePods.l⟩,⟨n2,df Svc.id v.services.l d.services.l d.goneServices.l⟩,⟨n3,df Way.id v.bound.l d.bound.l d.goneBound.l⟩,⟨n4,(df Pol.id v.policies.l d.policies.l d.gonePolicies.l).map Pol.own⟩⟩ →
   x.ok /\ (∀ p ∈ x.policies.l,p.wf big) /\ ∀ h,E 10 [v.v,d.v] h = some (if aW x then .tup [x.v,.d (i64 0)] else .tup [vw0.v,.d (i64 1)],h)
 h60:∀ a b:Vw,a.ok -> ∀ h,E 11 [a.v,b.v] h = some (bl (a.same b),h)
theorem ChainH.put {E:Calls'} (H:ChainH E) {a' a b:Vw} (oa':a'.ok) (wa':∀ p ∈ a'.policies.l,p.wf big) (oa:a.ok) (ob:b.ok) (wb:∀ p ∈ b.policies.l,p.wf big) (ma:aW a = true) (mb:aW b = true) (hn:a'.nf = a.nf) :
 ∃ x:Vw,x.ok /\ (∀ p ∈ x.policies.l,p.wf big) /\ x.nf = b.nf /\ ∀ h,E 10 [a'.v,(bL a b).v] h = some (.tup [x.v,.d (i64 0)],h):=by
 obtain ⟨od,wd⟩:=wX oa ob wb;have ma':aW a' = true:=by rw [← jS a',hn,jS,ma]
 obtain ⟨n1,n2,n3,n4,k⟩:=H.h59 a' (bL a b) oa' wa' od wd ma' (nY ma mb);obtain ⟨k1,k2,k3⟩:=k _ rfl;have hx:=uE ma mb hn (n1:=n1) (n2:=n2) (n3:=n3) (n4:=n4) (d:=bL a b) rfl;have mx:=jS b;rw [← hx,jS,mb] at mx;refine ⟨_,k1,k2,hx,fun h=>?_⟩;rw [k3,mx]; rfl
end
end Go.Proofs.YtjkfknafpgfchaaGreat
