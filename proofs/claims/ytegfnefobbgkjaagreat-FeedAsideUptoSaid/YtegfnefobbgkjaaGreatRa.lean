/- Readings of functions of the program, and what they answer. -/
import Derived.Test.YtegfnefobbgkjaaGreatQt
import Derived.Test.YtegfnefobbgkjaaGreatJa
import Derived.Test.YtegfnefobbgkjaaGreatR58
import Derived.Test.YtegfnefobbgkjaaGreatIa
set_option linter.unusedVariables false
set_option maxRecDepth 100000
set_option linter.unusedSimpArgs false
set_option linter.unnecessarySimpa false
namespace Go.Proofs.YtegfnefobbgkjaaGreat
open List
section
variable {E:Calls'} {T:FuncId -> Option QF} {val:FuncId -> Bool}
theorem S_pars {α:Type} {cells:α -> List D} {z c sf:FuncId} {same:α -> α -> Bool} (ht:T c = some (parsQ z)) (hv:val c = false) {x y:α} (hx:(cells x).length = z) (hy:(cells y).length = z) (hsf:∀ h,Sm E T val sf [ag (cells x),ag (cells y)] h = some (bl (same x y),h)) {p r:Nat} {h:Hp} (hp:getB h.bs p = some [.fn sf []]) (hr:getB h.bs r = some ((cells x).map .d)) :
 Sm E T val c [ag (cells y),.ptr p 0,.ptr r 0] h = some (bl (same x y),h):=by
 rw [Sm_ref ht hv]
 have hsx:=sub_c hx
 have hsy:=sub_c hy
 simp [parsQ,Bd_mk,getB_of hp,getB_of hr,hsf,hsx,hsy,V.under]
theorem S_parc {α:Type} {cells:α -> List D} {z c c11 sm any idx sf:FuncId} {same:α -> α -> Bool} (ht:T c = some (parcQ c11 sm)) (hv:val c = false) (ht1:T c11 = some (parsQ z)) (hv1:val c11 = false) (ts:T sm = some (someQ any)) (vs:val sm = false) (ta:T any = some (anyQ idx)) (va:val any = false) (ti:T idx = some (idxQ z)) (vi:val idx = false)
 (hz:∀ x,(cells x).length = z) {a:Sl α} (hs:short a) {x:α} (hsf:∀ y ∈ a.l,∀ h,Sm E T val sf [ag (cells x),ag (cells y)] h = some (bl (same x y),h))
 {p f:Nat} {h:Hp} (hp:getB h.bs p = some [.fn sf []]) (hf:getB h.bs f = some [.d (a.d cells)]) :
 Sm E T val c [ag (cells x),.ptr f 0,.ptr p 0] h = some (bl (!a.l.any fun y=>same x y),h):=by
 have hsx:=sub_c (hz x)
 have hcl:∀ y ∈ a.l,∀ lo,Sm E T val c11 (.agg ((cells y).map .d) :: [.ptr p 0,.ptr h.bs.length 0]) ⟨h.bs ++ [.cells ((cells x).map .d)],lo⟩ = some (.d (.bool (same x y)),⟨h.bs ++ [.cells ((cells x).map .d)],lo⟩):=fun y hy lo =>
  S_pars ht1 hv1 (hz x) (hz y) (hsf y hy) (getB_of hp) (by rw [getB_at]; rfl)
 have hsm:∀ lo,Sm E T val sm [.d (a.d cells),.fn c11 [.ptr p 0,.ptr h.bs.length 0]] ⟨h.bs ++ [.cells ((cells x).map .d)],lo⟩ = some (bl (a.l.any fun y=>same x y),⟨h.bs ++ [.cells ((cells x).map .d)],lo⟩):=fun lo =>
  S_some ts vs rfl rfl (S_any cells ti vi ta va (h:=⟨h.bs ++ [.cells ((cells x).map .d)],(h.bs ++ [Blk.cells ((cells x).map .d)]).length⟩) (RowIs.of hz _) hs.lt fun e he lo=>hcl e he lo)
 rw [Sm_ref ht hv]
 simp [parcQ,Bd_mk,getB_of hp,getB_of hf,hsx,hsm,V.under]
theorem parts_loop {α:Type} {cells:α -> List D} {z:Nat} {c2 sm any idx idf:FuncId} {zero:List V} {key:α -> Int} (t2:T c2 = some (vpeQ z)) (v2:val c2 = false) (ts:T sm = some (someQ any)) (vs:val sm = false) (ta:T any = some (anyQ idx)) (va:val any = false) (ti:T idx = some (idxQ z)) (vi:val idx = false)
 (hz:∀ x,(cells x).length = z) (hz0:0 < z) (hzero:zero.length = z) {a b:Sl α} (ha:short a) (hb:short b) (hab:a.l.length < big) (hid:∀ e,e ∈ a.l \/ e ∈ b.l -> ∀ h,Sm E T val idf [ag (cells e)] h = some (.d (u64 (key e)),h))
 {base:List Blk} {q:Nat} (hq:getB base q = some [.fn idf []]) {v8:V} (h8:nu v8 = some v8):∀ (m i:Nat) (acc:List Int) (bs:List Blk) (v:V) (lo:Nat),i + m = a.l.length -> acc.length <= i -> Acc base 1 (acc.map u64C) bs v →
 ∃ bs' v' lo',Cd E T val (.loop [1,6,8,9,15,16,17] (partsB z c2 sm zero)) [(1,.d (b.d cells)),(6,.ptr q 0),(8,v8),(9,v),(15,.d (a.d cells)),(16,.d (i64 a.l.length)),(17,.d (i64 i))] ⟨bs,lo⟩ = some (.exit 0,[(8,v8),(9,v')],⟨bs',lo'⟩) ∧
  Acc base 1 ((acc ++ ((a.l.drop i).filter fun x=>!b.l.any fun y=>key x == key y).map key).map u64C) bs' v':=by
 have hlt:=ha.lt
 intro m
 have keyW:=Cd_round (E:=E) (T:=T) (val:=val) [1,6,8,9,15,16,17] (partsB z c2 sm zero)
 generalize Cd E T val (.loop [1,6,8,9,15,16,17] (partsB z c2 sm zero)) = W at keyW ⊢
 induction m with
 | zero =>
  intro i acc bs v lo hi ha' hA
  refine ⟨bs,v,lo,?_,by rw [List.drop_eq_nil_of_le (by omega)]; simpa using hA⟩
  have hnu:=hA.nu
  rw [keyW]
  simp [partsB,h8,hnu,show ¬ ((i:Int) < a.l.length) from by omega]
 | succ m ih =>
  intro i acc bs v lo hi ha' hA
  have hnu:=hA.nu
  have h1:i < a.l.length:=by omega
  have hx:=fun h=>ix_data (cells:=cells) hz h1 (kd:=.i64) (h:=h)
  have hw:=int_next h1 hlt
  have hmem:=List.getElem_mem h1
  rw [List.drop_eq_getElem_cons h1]
  generalize a.l[i] = x at *
  have hsx:=sub_all (hz x)
  have hA1:=hA.lay [.cells ((cells x).map .d)]
  have hq1:=hA1.get hq
  have hcl:∀ y ∈ b.l,∀ lo,Sm E T val c2 (.agg ((cells y).map .d) :: [.ptr q 0,.ptr bs.length 0]) ⟨bs ++ [.cells ((cells x).map .d)],lo⟩ = some (.d (.bool (key x == key y)),⟨bs ++ [.cells ((cells x).map .d)],lo⟩):=fun y hy lo =>
   S_vpe t2 v2 (hz x) (hz y) (fun e he=>hid e (by rcases he with rfl | rfl; exact .inl hmem; exact .inr hy)) hq1 (by rw [getB_at]; rfl)
  have hsm:∀ lo,Sm E T val sm [.d (b.d cells),.fn c2 [.ptr q 0,.ptr bs.length 0]] ⟨bs ++ [.cells ((cells x).map .d)],lo⟩ = some (bl (b.l.any fun y=>key x == key y),⟨bs ++ [.cells ((cells x).map .d)],lo⟩):=fun lo =>
   S_some ts vs rfl rfl (S_any cells ti vi ta va (h:=⟨bs ++ [.cells ((cells x).map .d)],(bs ++ [Blk.cells ((cells x).map .d)]).length⟩) (RowIs.of hz _) hb.lt fun e he lo=>hcl e he lo)
  have hput:∀ y:List V,y.length = z -> put zero 0 y = some y:=fun y hy=>by
   unfold put
   rw [if_pos (by omega),List.take_zero,List.nil_append,List.drop_eq_nil_of_le (by omega),List.append_nil]
  have hpx:=hput ((cells x).map .d) (by simpa using hz x)
  have hidx:=hid x (.inl hmem)
  have hxl:¬ (cells x).length = 0:=by rw [hz x]; omega
  by_cases hg:(b.l.any fun y=>key x == key y) = true
  · obtain ⟨bs',v',lo',q1,q2⟩:=ih (i + 1) acc (bs ++ [.cells ((cells x).map .d)]) v (min lo bs.length) (by omega) (by omega) hA1
    refine ⟨bs',v',lo',?_,by simpa [hg] using q2⟩
    rw [keyW]
    simp [partsB,hx,hsx,hw,h8,hnu,hz x,hz0,hpx,hsm,hg,hidx,hq1,getB_of hq1,show ((i:Int) < a.l.length) from by omega]
    simpa using q1
  · have hg':=Bool.eq_false_iff.2 hg
    obtain ⟨v1,bs1,lo1,k1,k2⟩:=(hA1.lay [.cells [.d (u64 (key x))]]).app (by decide) (by_:=8) (by decide) (e:=u64C (key x)) rfl (by simp; omega) (min lo bs.length) (r:=bs.length + 1) (cap:=some 1) (by
     have:getB ((bs ++ [Blk.cells ((cells x).map .d)]) ++ [.cells [.d (u64 (key x))]]) (bs ++ [Blk.cells ((cells x).map .d)]).length = some [.d (u64 (key x))]:=by rw [getB_at]; rfl
     simpa [u64C] using this)
    have hnu1:=k2.nu
    obtain ⟨bs',v',lo',q1,q2⟩:=ih (i + 1) (acc ++ [key x]) bs1 v1 lo1 (by omega) (by simp; omega) (by simpa using k2)
    refine ⟨bs',v',lo',?_,by simpa [hg'] using q2⟩
    simp only [List.append_assoc,List.cons_append,List.nil_append] at k1
    have hp1:put [V.d (D.int .u64 0)] 0 [V.d (u64 (key x))] = some [V.d (u64 (key x))]:=rfl
    rw [keyW]
    simp [partsB,hx,hsx,hw,h8,hnu,hz x,hz0,hpx,hsm,hg',hidx,hq1,getB_of hq1,fillsE,hp1,k1,hnu1,show ((i:Int) < a.l.length) from by omega]
    simpa using q1
theorem KeptP.dat {α:Type} {cells:α -> List D} {z n:Nat} {nl:Bool} {l:List α} {bs bs':List Blk} {v:V} (h:KeptP cells z n nl l bs v) (ho:∀ x,x < bs.length -> bs'[x]? = bs[x]?) (lo k:Nat) (hz:∀ x,(cells x).length = z):dataV ⟨bs',lo⟩ (k + 1) v = some (.slice nl (l.map cells)):=by
 rcases h with ⟨rfl,rfl,rfl⟩ | ⟨rfl,B,cap,rest,_,rfl,hg,_⟩
 · rfl
 · refine dataV_row (by simp; intro a _; exact hz a) (by simp) ?_ (rest:=rest)
   have:=ho B (getB_len hg)
   unfold getB at hg ⊢
   rw [this]; exact hg
theorem S_parts {α:Type} {cells:α -> List D} {z b:Nat} {id c1 c11 c2 sm any idx keep cl clos del idf sf:FuncId} {zero:List V} {key:α -> Int} {same:α -> α -> Bool} (tcl:T cl = some (cloneQ z b zero)) (vcl:val cl = false) (tdel:T del = some (delQ z idx zero)) (vdel:val del = false) (ti:T idx = some (idxQ z)) (vi:val idx = false)
 (tn:T clos = some (notQ z)) (vn:val clos = false) (tk:T keep = some (keepQ cl clos del)) (vk:val keep = false) (t1:T c1 = some (parcQ c11 sm)) (v1:val c1 = false) (t11:T c11 = some (parsQ z)) (v11:val c11 = false) (t2:T c2 = some (vpeQ z)) (v2:val c2 = false) (ts:T sm = some (someQ any)) (vs:val sm = false) (ta:T any = some (anyQ idx)) (va:val any = false)
 (tid:T id = some (partsQ z keep c1 c2 sm zero)) (vid:val id = true)
 (hz:∀ x,(cells x).length = z) (hz0:0 < z) (hzero:zero.length = z) (hb4:b <= 4096) {l m:Sl α} (hl:short l) (hm:short m) (hlb:l.l.length < big)
 (hid:∀ e,e ∈ l.l \/ e ∈ m.l -> ∀ h,Sm E T val idf [ag (cells e)] h = some (.d (u64 (key e)),h)) (hsf:∀ x ∈ m.l,∀ y ∈ l.l,∀ h,Sm E T val sf [ag (cells x),ag (cells y)] h = some (bl (same x y),h)) (h:Hp) :
 Sm E T val id [.d (l.d cells),.d (m.d cells),.fn idf [],.fn sf []] h = some (.tup [.d (.slice m.nl ((freshV same l.l m.l).map cells)),.d (.slice (goneV key l.l m.l).isEmpty ((goneV key l.l m.l).map u64C))],h):=by
 have hfr:∀ f h,frz h (.fn f []) = some (.fn f []):=fun _ _=>rfl
 have hpf:∀ f,pureV (.fn f []) = true:=fun _=>rfl
 obtain ⟨r,bs1,lo1,k1,k2,k3,k4⟩:=S_keepP (E:=E) (T:=T) (val:=val) tcl vcl tdel vdel ti vi tn vn tk vk hz hz0 hzero hb4 hm (f:=c1) (caps:=[.ptr 0 0,.ptr 2 0]) (q:=fun x=>!l.l.any fun y=>same x y) (h:=⟨[.cells [.d (l.d cells)],.cells [.fn idf []],.cells [.fn sf []]],0⟩) fun e he bs lo hle ho=>by
  simp only [List.length_cons,List.length_nil] at hle ho
  refine S_parc t1 v1 t11 v11 ts vs ta va ti vi hz hl (fun y hy=>hsf e he y hy) ?_ ?_
  · simp only [getB]; rw [ho 2 (by decide)]; rfl
  · simp only [getB]; rw [ho 0 (by decide)]; rfl
 simp only [List.length_cons,List.length_nil] at k2 k3 k4
 have hb0:getB bs1 0 = some [.d (l.d cells)]:=by simp only [getB]; rw [k3 0 (by decide)]; rfl
 have hb1:getB bs1 1 = some [.fn idf []]:=by simp only [getB]; rw [k3 1 (by decide)]; rfl
 have hnur:=k4.nu
 obtain ⟨bs',v',lo',q1,q2⟩:=parts_loop (E:=E) (zero:=zero) t2 v2 ts vs ta va ti vi hz hz0 hzero hl hm hlb hid hb1 hnur.1 l.l.length 0 [] bs1 _ lo1 (by omega) (Nat.le_refl _) (Acc.nil bs1 1)
 have hdr:dataV ⟨bs',lo'⟩ 8 r = some (.slice m.nl ((freshV same l.l m.l).map cells)):=k4.dat q2.old lo' 7 hz
 have hdv:=q2.frz lo'
 have hog:([]:List Int) ++ ((l.l.drop 0).filter fun x=>!m.l.any fun y=>key x == key y).map key = goneV key l.l m.l:=rfl
 rw [hog] at hdv
 have hnv:=q2.nu
 have hfr8:frz1 ⟨bs',lo'⟩ r = some (.d (.slice m.nl ((freshV same l.l m.l).map cells))):=by
  rcases k4 with ⟨_,_,rfl⟩ | ⟨_,B,cap,rest,_,rfl,_⟩ <;> simp only [frz1,hdr]
 rw [Sm_v tid vid]
 simp only [Int.natCast_zero,Int.ofNat_zero] at q1
 simp [partsQ,Bd_mk,hfr,k1,hb0,hnur.1,hnur.2,hpf]
 rw [Cd_keep]
 simp only [keepA_cons,keepA_nil]
 simp [hnur.1,q1,hnv,hfr8,hdv.2,hpf]
end
end Go.Proofs.YtegfnefobbgkjaaGreat
namespace Go.Proofs.YtegfnefobbgkjaaGreat
def tabD:List (Nat × QF):=[(42,r58),(84,(partsQ 7 63 161 163 68 pod0V)),(87,(partsQ 5 66 164 166 58 svcIZ)),(90,(partsQ 2 70 167 169 144 wayIZ)),(93,(partsQ 5 73 170 172 150 pol0V)),(86,r179),(89,r182),(92,r185),(18,(cloneQ 1 4 [(.d (.int .u32 0))])),(161,(parcQ 162 68)),(164,(parcQ 165 58)),(167,(parcQ 168 144)),(170,(parcQ 171 150)),(162,(parsQ 7)),(165,(parsQ 5)),(168,(parsQ 2)),(171,(parsQ 5)),(163,(vpeQ 7)),(166,(vpeQ 5)),(169,(vpeQ 2)),(172,(vpeQ 5)),(58,(someQ 129)),(68,(someQ 136)),(144,(someQ 220)),(150,(someQ 193)),(129,(anyQ 206)),(136,(anyQ 188)),(220,(anyQ 127)),(193,(anyQ 219)),(188,(idxQ 7)),(206,(idxQ 5)),(127,(idxQ 2)),(219,(idxQ 5)),(63,(keepQ 38 133 132)),(66,(keepQ 39 135 134)),(70,(keepQ 40 138 137)),(73,(keepQ 82 140 139)),(132,(delQ 7 188 pod0V)),(134,(delQ 5 206 svcIZ)),(137,(delQ 2 127 wayIZ)),(139,(delQ 5 219 pol0V)),(38,(cloneQ 7 72 pod0V)),(39,(cloneQ 5 48 svcIZ)),(40,(cloneQ 2 16 wayIZ)),(82,(cloneQ 5 64 pol0V)),(133,(notQ 7)),(135,(notQ 5)),(138,(notQ 2)),(140,(notQ 5))]
def TD:FuncId -> Option QF:=lookT tabD
def valD (f:FuncId):Bool:=[42,84,87,90,93,86,89,92,18].any fun n=>Nat.beq n f
theorem rt58:TD 42 = some r58:=by kernel_rfl
theorem rv58:valD 42 = true:=by kernel_rfl
theorem rt177:TD 84 = some (partsQ 7 63 161 163 68 pod0V):=by kernel_rfl
theorem rv177:valD 84 = true:=by kernel_rfl
theorem rt180:TD 87 = some (partsQ 5 66 164 166 58 svcIZ):=by kernel_rfl
theorem rv180:valD 87 = true:=by kernel_rfl
theorem rt183:TD 90 = some (partsQ 2 70 167 169 144 wayIZ):=by kernel_rfl
theorem rv183:valD 90 = true:=by kernel_rfl
theorem rt186:TD 93 = some (partsQ 5 73 170 172 150 pol0V):=by kernel_rfl
theorem rv186:valD 93 = true:=by kernel_rfl
theorem rt179:TD 86 = some r179:=by kernel_rfl
theorem rv179:valD 86 = true:=by kernel_rfl
theorem rt182:TD 89 = some r182:=by kernel_rfl
theorem rv182:valD 89 = true:=by kernel_rfl
theorem rt185:TD 92 = some r185:=by kernel_rfl
theorem rv185:valD 92 = true:=by kernel_rfl
theorem rt154:TD 18 = some (cloneQ 1 4 [(.d (.int .u32 0))]):=by kernel_rfl
theorem rv154:valD 18 = true:=by kernel_rfl
theorem rt336:TD 161 = some (parcQ 162 68):=by kernel_rfl
theorem rv336:valD 161 = false:=by kernel_rfl
theorem rt339:TD 164 = some (parcQ 165 58):=by kernel_rfl
theorem rv339:valD 164 = false:=by kernel_rfl
theorem rt342:TD 167 = some (parcQ 168 144):=by kernel_rfl
theorem rv342:valD 167 = false:=by kernel_rfl
theorem rt346:TD 170 = some (parcQ 171 150):=by kernel_rfl
theorem rv346:valD 170 = false:=by kernel_rfl
theorem rt337:TD 162 = some (parsQ 7):=by kernel_rfl
theorem rv337:valD 162 = false:=by kernel_rfl
theorem rt340:TD 165 = some (parsQ 5):=by kernel_rfl
theorem rv340:valD 165 = false:=by kernel_rfl
theorem rt344:TD 168 = some (parsQ 2):=by kernel_rfl
theorem rv344:valD 168 = false:=by kernel_rfl
theorem rt348:TD 171 = some (parsQ 5):=by kernel_rfl
theorem rv348:valD 171 = false:=by kernel_rfl
theorem rt338:TD 163 = some (vpeQ 7):=by kernel_rfl
theorem rv338:valD 163 = false:=by kernel_rfl
theorem rt341:TD 166 = some (vpeQ 5):=by kernel_rfl
theorem rv341:valD 166 = false:=by kernel_rfl
theorem rt345:TD 169 = some (vpeQ 2):=by kernel_rfl
theorem rv345:valD 169 = false:=by kernel_rfl
theorem rt349:TD 172 = some (vpeQ 5):=by kernel_rfl
theorem rv349:valD 172 = false:=by kernel_rfl
theorem rt151:TD 58 = some (someQ 129):=by kernel_rfl
theorem rv151:valD 58 = false:=by kernel_rfl
theorem rt162:TD 68 = some (someQ 136):=by kernel_rfl
theorem rv162:valD 68 = false:=by kernel_rfl
theorem rt343:TD 144 = some (someQ 220):=by kernel_rfl
theorem rv343:valD 144 = false:=by kernel_rfl
theorem rt347:TD 150 = some (someQ 193):=by kernel_rfl
theorem rv347:valD 150 = false:=by kernel_rfl
theorem rt321:TD 129 = some (anyQ 206):=by kernel_rfl
theorem rv321:valD 129 = false:=by kernel_rfl
theorem rt327:TD 136 = some (anyQ 188):=by kernel_rfl
theorem rv327:valD 136 = false:=by kernel_rfl
theorem rt449:TD 220 = some (anyQ 127):=by kernel_rfl
theorem rv449:valD 220 = false:=by kernel_rfl
theorem rt415:TD 193 = some (anyQ 219):=by kernel_rfl
theorem rv415:valD 193 = false:=by kernel_rfl
theorem rt263:TD 188 = some (idxQ 7):=by kernel_rfl
theorem rv263:valD 188 = false:=by kernel_rfl
theorem rt265:TD 206 = some (idxQ 5):=by kernel_rfl
theorem rv265:valD 206 = false:=by kernel_rfl
theorem rt279:TD 127 = some (idxQ 2):=by kernel_rfl
theorem rv279:valD 127 = false:=by kernel_rfl
theorem rt448:TD 219 = some (idxQ 5):=by kernel_rfl
theorem rv448:valD 219 = false:=by kernel_rfl
theorem rt157:TD 63 = some (keepQ 38 133 132):=by kernel_rfl
theorem rv157:valD 63 = false:=by kernel_rfl
theorem rt160:TD 66 = some (keepQ 39 135 134):=by kernel_rfl
theorem rv160:valD 66 = false:=by kernel_rfl
theorem rt164:TD 70 = some (keepQ 40 138 137):=by kernel_rfl
theorem rv164:valD 70 = false:=by kernel_rfl
theorem rt167:TD 73 = some (keepQ 82 140 139):=by kernel_rfl
theorem rv167:valD 73 = false:=by kernel_rfl
theorem rt281:TD 132 = some (delQ 7 188 pod0V):=by kernel_rfl
theorem rv281:valD 132 = false:=by kernel_rfl
theorem rt325:TD 134 = some (delQ 5 206 svcIZ):=by kernel_rfl
theorem rv325:valD 134 = false:=by kernel_rfl
theorem rt328:TD 137 = some (delQ 2 127 wayIZ):=by kernel_rfl
theorem rv328:valD 137 = false:=by kernel_rfl
theorem rt330:TD 139 = some (delQ 5 219 pol0V):=by kernel_rfl
theorem rv330:valD 139 = false:=by kernel_rfl
theorem rt208:TD 38 = some (cloneQ 7 72 pod0V):=by kernel_rfl
theorem rv208:valD 38 = false:=by kernel_rfl
theorem rt209:TD 39 = some (cloneQ 5 48 svcIZ):=by kernel_rfl
theorem rv209:valD 39 = false:=by kernel_rfl
theorem rt210:TD 40 = some (cloneQ 2 16 wayIZ):=by kernel_rfl
theorem rv210:valD 40 = false:=by kernel_rfl
theorem rt244:TD 82 = some (cloneQ 5 64 pol0V):=by kernel_rfl
theorem rv244:valD 82 = false:=by kernel_rfl
theorem rt324:TD 133 = some (notQ 7):=by kernel_rfl
theorem rv324:valD 133 = false:=by kernel_rfl
theorem rt326:TD 135 = some (notQ 5):=by kernel_rfl
theorem rv326:valD 135 = false:=by kernel_rfl
theorem rt329:TD 138 = some (notQ 2):=by kernel_rfl
theorem rv329:valD 138 = false:=by kernel_rfl
theorem rt331:TD 140 = some (notQ 5):=by kernel_rfl
theorem rv331:valD 140 = false:=by kernel_rfl
theorem rt62:TD 31 = none:=by kernel_rfl
theorem rt189:TD 41 = none:=by kernel_rfl
theorem rt188:TD 37 = none:=by kernel_rfl
theorem rt178:TD 85 = none:=by kernel_rfl
theorem rt181:TD 88 = none:=by kernel_rfl
theorem rt184:TD 91 = none:=by kernel_rfl
theorem rt187:TD 94 = none:=by kernel_rfl
structure DiffH (E:Calls'):Prop where
 h62:∀ v:Vw,v.ok -> (∀ p ∈ v.policies.l,p.wf big) -> ∀ h,E 31 [v.v] h = some (bl (vwMay v),h)
 h189:∀ s:Sl Pol,short s -> (∀ p ∈ s.l,p.ok) -> ∀ h,E 41 [.d (s.d Pol.c)] h = some (.d (Sl.d Pol.c ⟨s.nl,s.l.map Pol.own⟩),h)
 h188:∀ p q:Pol,p.ok -> q.ok -> ∀ h,E 37 [ag p.c,ag q.c] h = some (bl (p.same q),h)
 h178:∀ (p:Pod) h,E 85 [ag p.c] h = some (.d (u64 p.uid),h)
 h181:∀ (p:Svc) h,E 88 [ag p.c] h = some (.d (u64 p.id),h)
 h184:∀ (p:Way) h,E 91 [ag p.c] h = some (.d (u64 p.id),h)
 h187:∀ (p:Pol) h,E 94 [ag p.c] h = some (.d (u64 p.id),h)
section
variable {E:Calls'}
theorem D179 (x y:Pod) (h:Hp):Sm E TD valD 86 [ag x.c,ag y.c] h = some (bl (Pod.eqB x y),h):=by
 rw [Sm_v rt179 rv179]
 simp [Bd_mk,r179]
theorem D182 (x y:Svc) (h:Hp):Sm E TD valD 89 [ag x.c,ag y.c] h = some (bl (Svc.eqB x y),h):=by
 rw [Sm_v rt182 rv182]
 simp [Bd_mk,r182]
theorem D185 (x y:Way) (h:Hp):Sm E TD valD 92 [ag x.c,ag y.c] h = some (bl (Way.eqB x y),h):=by
 rw [Sm_v rt185 rv185]
 simp [Bd_mk,r185]
variable (H:DiffH E)
include H
theorem D177 {l m:Sl Pod} (hl:short l) (hm:short m) (hlb:l.l.length < big) (h:Hp) :
 Sm E TD valD 84 [.d (l.d Pod.c),.d (m.d Pod.c),.fn 85 [],.fn 86 []] h = some (.tup [.d (.slice m.nl ((freshV Pod.eqB l.l m.l).map Pod.c)),.d (.slice (goneV Pod.uid l.l m.l).isEmpty ((goneV Pod.uid l.l m.l).map u64C))],h) :=
 S_parts (E:=E) (T:=TD) (val:=valD) (z:=7) (b:=72) rt208 rv208 rt281 rv281 rt263 rv263 rt324 rv324 rt157 rv157 rt336 rv336 rt337 rv337 rt338 rv338 rt162 rv162 rt327 rv327 rt177 rv177 (fun _=>rfl) (by decide) rfl (by decide) hl hm hlb (fun e _ h=>by rw [Sm_ext rt178]; exact H.h178 e h) (fun x _ y _ h=>D179 x y h) h
theorem D180 {l m:Sl Svc} (hl:short l) (hm:short m) (hlb:l.l.length < big) (h:Hp) :
 Sm E TD valD 87 [.d (l.d Svc.c),.d (m.d Svc.c),.fn 88 [],.fn 89 []] h = some (.tup [.d (.slice m.nl ((freshV Svc.eqB l.l m.l).map Svc.c)),.d (.slice (goneV Svc.id l.l m.l).isEmpty ((goneV Svc.id l.l m.l).map u64C))],h) :=
 S_parts (E:=E) (T:=TD) (val:=valD) (z:=5) (b:=48) rt209 rv209 rt325 rv325 rt265 rv265 rt326 rv326 rt160 rv160 rt339 rv339 rt340 rv340 rt341 rv341 rt151 rv151 rt321 rv321 rt180 rv180 (fun _=>rfl) (by decide) rfl (by decide) hl hm hlb (fun e _ h=>by rw [Sm_ext rt181]; exact H.h181 e h) (fun x _ y _ h=>D182 x y h) h
theorem D183 {l m:Sl Way} (hl:short l) (hm:short m) (hlb:l.l.length < big) (h:Hp) :
 Sm E TD valD 90 [.d (l.d Way.c),.d (m.d Way.c),.fn 91 [],.fn 92 []] h = some (.tup [.d (.slice m.nl ((freshV Way.eqB l.l m.l).map Way.c)),.d (.slice (goneV Way.id l.l m.l).isEmpty ((goneV Way.id l.l m.l).map u64C))],h) :=
 S_parts (E:=E) (T:=TD) (val:=valD) (z:=2) (b:=16) rt210 rv210 rt328 rv328 rt279 rv279 rt329 rv329 rt164 rv164 rt342 rv342 rt344 rv344 rt345 rv345 rt343 rv343 rt449 rv449 rt183 rv183 (fun _=>rfl) (by decide) rfl (by decide) hl hm hlb (fun e _ h=>by rw [Sm_ext rt184]; exact H.h184 e h) (fun x _ y _ h=>D185 x y h) h
theorem D186 {l m:Sl Pol} (hl:short l) (hm:short m) (hlb:l.l.length < big) (hlo:∀ p ∈ l.l,p.ok) (hmo:∀ p ∈ m.l,p.ok) (h:Hp) :
 Sm E TD valD 93 [.d (l.d Pol.c),.d (m.d Pol.c),.fn 94 [],.fn 37 []] h = some (.tup [.d (.slice m.nl ((freshV Pol.same l.l m.l).map Pol.c)),.d (.slice (goneV Pol.id l.l m.l).isEmpty ((goneV Pol.id l.l m.l).map u64C))],h) :=
 S_parts (E:=E) (T:=TD) (val:=valD) (z:=5) (b:=64) rt244 rv244 rt330 rv330 rt448 rv448 rt331 rv331 rt167 rv167 rt346 rv346 rt348 rv348 rt349 rv349 rt347 rv347 rt415 rv415 rt186 rv186 (fun _=>rfl) (by decide) rfl (by decide) hl hm hlb (fun e _ h=>by rw [Sm_ext rt187]; exact H.h187 e h) (fun x hx y hy h=>by rw [Sm_ext rt188]; exact H.h188 x y (hmo x hx) (hlo y hy) h) h
def dlt0:Dlt:=⟨0,⟨true,[]⟩,⟨true,[]⟩,⟨true,[]⟩,⟨true,[]⟩,⟨true,[]⟩,⟨true,[]⟩,⟨true,[]⟩,⟨true,[]⟩,⟨true,[]⟩⟩
def diffN (a b:Vw):Dlt:=diffV a b b.pods.nl b.services.nl b.bound.nl b.policies.nl (goneV Pod.uid a.pods.l b.pods.l).isEmpty (goneV Svc.id a.services.l b.services.l).isEmpty (goneV Way.id a.bound.l b.bound.l).isEmpty (goneV Pol.id a.policies.l b.policies.l).isEmpty (freshP a b)
theorem D58n (a b:Vw) (ha:a.ok) (hwa:∀ p ∈ a.policies.l,p.wf big) (hb:b.ok) (hwb:∀ p ∈ b.policies.l,p.wf big) (hno:(vwMay a && vwMay b) = false) (h:Hp):Sm E TD valD 42 [a.v,b.v] h = some (.tup [ag dlt0.c,.d (i64 1)],h):=by
 have k1:=fun h=>(Sm_ext (T:=TD) (val:=valD) rt62:_ = E 31 [a.v] h).trans (H.h62 a ha hwa h)
 have k2:=fun h=>(Sm_ext (T:=TD) (val:=valD) rt62:_ = E 31 [b.v] h).trans (H.h62 b hb hwb h)
 rw [Sm_v rt58 rv58]
 cases m1:vwMay a with
 | false=>simp (decide:=true) [Bd_mk,r58,k1,m1,fillsE]; rfl
 | true =>
  have m2:vwMay b = false:=by simpa [m1] using hno
  simp (decide:=true) [Bd_mk,r58,k1,k2,m1,m2,fillsE]; rfl
theorem D58 (a b:Vw) (ha:a.ok) (hwa:∀ p ∈ a.policies.l,p.wf big) (hb:b.ok) (hwb:∀ p ∈ b.policies.l,p.wf big) (m1:vwMay a = true) (m2:vwMay b = true) (h:Hp):Sm E TD valD 42 [a.v,b.v] h = some (.tup [ag (diffN a b).c,.d (i64 0)],h):=by
 have k1:=fun h=>(Sm_ext (T:=TD) (val:=valD) rt62:_ = E 31 [a.v] h).trans (H.h62 a ha hwa h)
 have k2:=fun h=>(Sm_ext (T:=TD) (val:=valD) rt62:_ = E 31 [b.v] h).trans (H.h62 b hb hwb h)
 rw [m1] at k1
 rw [m2] at k2
 obtain ⟨r1,r2,r3,r4⟩:=may_ris m1
 have hbig:(32:Nat) < big:=by decide
 have a1:=risK_nodup r1; have a2:=risK_nodup r2; have a3:=risK_nodup r3; have a4:=risK_nodup r4
 have p1:=fun h=>D177 H (l:=a.pods) (m:=b.pods) ha.2.1 hb.2.1 (by omega) h
 have p2:=fun h=>D180 H (l:=a.services) (m:=b.services) ha.2.2.1 hb.2.2.1 (by omega) h
 have p3:=fun h=>D183 H (l:=a.bound) (m:=b.bound) ha.2.2.2.1 hb.2.2.2.1 (by omega) h
 have hok:∀ {x:Pol},x.wf big -> x.ok:=fun h=>h.fits
 have p4:=fun h=>D186 H (l:=a.policies) (m:=b.policies) ha.2.2.2.2.1 hb.2.2.2.2.1 (by omega) (fun p hp=>hok (hwa p hp)) (fun p hp=>hok (hwb p hp)) h
 have k154:=fun h=>S_cloneV (E:=E) (T:=TD) (val:=valD) (cells:=u32C) rt154 rv154 (by decide) (by decide) (fun _=>rfl) hb.1 h
 have hfs:∀ p ∈ freshV Pol.same a.policies.l b.policies.l,p ∈ b.policies.l:=fun p hp=>(List.mem_filter.1 hp).1
 have hfl:(freshV Pol.same a.policies.l b.policies.l).length <= b.policies.l.length:=List.length_filter_le _ _
 have k189:∀ h,Sm E TD valD 41 [.d (.slice b.policies.nl ((freshV Pol.same a.policies.l b.policies.l).map Pol.c))] h = some (.d (.slice b.policies.nl ((freshP a b).map Pol.c)),h):=fun h=>by
  rw [Sm_ext rt189]
  exact H.h189 ⟨b.policies.nl,freshV Pol.same a.policies.l b.policies.l⟩ ⟨Nat.le_trans hfl hb.2.2.2.2.1.1,fun hn=>by
   show freshV Pol.same a.policies.l b.policies.l = []
   have hh:b.policies.l = []:=hb.2.2.2.2.1.2 hn
   rw [freshV,hh]; rfl⟩ (fun p hp=>hok (hwb p (hfs p hp))) h
 have hD:ag (diffN a b).c = ag [u64 b.epoch,b.covers.d u32C,.slice b.pods.nl ((freshV Pod.eqB a.pods.l b.pods.l).map Pod.c),.slice b.services.nl ((freshV Svc.eqB a.services.l b.services.l).map Svc.c),.slice b.bound.nl ((freshV Way.eqB a.bound.l b.bound.l).map Way.c),.slice b.policies.nl ((freshP a b).map Pol.c),
  .slice (goneV Pod.uid a.pods.l b.pods.l).isEmpty ((goneV Pod.uid a.pods.l b.pods.l).map u64C),.slice (goneV Svc.id a.services.l b.services.l).isEmpty ((goneV Svc.id a.services.l b.services.l).map u64C),.slice (goneV Way.id a.bound.l b.bound.l).isEmpty ((goneV Way.id a.bound.l b.bound.l).map u64C),.slice (goneV Pol.id a.policies.l b.policies.l).isEmpty ((goneV Pol.id a.policies.l b.policies.l).map u64C)]:=rfl
 rw [hD]
 clear hD hfs hfl
 generalize freshP a b = F4 at *
 generalize freshV Pod.eqB a.pods.l b.pods.l = F1 at *
 generalize freshV Svc.eqB a.services.l b.services.l = F2 at *
 generalize freshV Way.eqB a.bound.l b.bound.l = F3 at *
 generalize freshV Pol.same a.policies.l b.policies.l = F5 at *
 generalize goneV Pod.uid a.pods.l b.pods.l = G1 at *
 generalize goneV Svc.id a.services.l b.services.l = G2 at *
 generalize goneV Way.id a.bound.l b.bound.l = G3 at *
 generalize goneV Pol.id a.policies.l b.policies.l = G4 at *
 rw [Sm_v rt58 rv58]
 simp (decide:=true) [Bd_mk,r58,fillsE,k1,k2,p1,p2,p3,p4,k154,k189,openA,opDE_call,noTr]
 all_goals first | rfl | done
end
end Go.Proofs.YtegfnefobbgkjaaGreat
namespace Go.Proofs.YtegfnefobbgkjaaGreat
end Go.Proofs.YtegfnefobbgkjaaGreat
