/- code.Writer: bytes of one's own, field behind field. -/
import Derived.Test.YthkeklemhcfbcaaGreatCp
import Derived.KernelRfl
set_option maxRecDepth 100000
set_option linter.unusedVariables false
set_option linter.unusedSimpArgs false
namespace Go.Proofs.YthkeklemhcfbcaaGreat
def nilchkv (x:V) (h:Hp):Option (V × Hp):=match x with
 | .ptr b o=>some (.ptr b o,h)
 | .eptr cs o=>some (.eptr cs o,h)
 | .fn f cs=>some (.fn f cs,h)
 | .mfn f cs=>some (.mfn f cs,h)
 | _=>none
section
variable {C:Calls'} {ev:X -> V} {h:Hp}
@[simp] theorem opE_nilchk {x:X}:opE C (.nilchk x) ev h = nilchkv (ev x) h:=(rfl)
@[simp] theorem nilchk_ptr {b o:Nat}:nilchkv (.ptr b o) h = some (.ptr b o,h):=(rfl)
@[simp] theorem eqv_ptr {b o:Nat} {neg:Bool}:eqv .ptr neg (.ptr b o) (.d .nilp) h = some (.d (.bool (false != neg)),h):=(rfl)
end
def wrow (bs:List Blk) (p:Nat):Option Nat:=match getB bs p with
 | some [.row b _ _ _ _]=>some b
 | _=>none
def Wr (bs:List Blk) (p:Nat) (l:List Int):Prop :=
 (l = [] /\ getB bs p = some [.d (.slice true [])]) \/ (l ≠ [] /\ ∃ b,b ≠ p /\ getB bs p = some [.row b 0 l.length none 1] /\ getB bs b = some (l.map (iv .u8)))
def Fx (p:Nat) (bs bs':List Blk):Prop:=bs.length <= bs'.length /\ ∀ x cs,x ≠ p -> wrow bs p ≠ some x -> getB bs x = some cs -> getB bs' x = some cs /\ wrow bs' p ≠ some x
theorem Fx.refl (p:Nat) (bs:List Blk):Fx p bs bs:=⟨Nat.le_refl _,fun x cs _ h2 h3=>⟨h3,h2⟩⟩
theorem Fx.trans {p:Nat} {a b c:List Blk} (h:Fx p a b) (k:Fx p b c):Fx p a c :=
 ⟨Nat.le_trans h.1 k.1,fun x cs h1 h2 h3=>k.2 x cs h1 (h.2 x cs h1 h2 h3).2 (h.2 x cs h1 h2 h3).1⟩
theorem Wr.len {bs:List Blk} {p:Nat} {l:List Int} (h:Wr bs p l):p < bs.length:=by
 rcases h with ⟨_,h⟩ | ⟨_,b,_,h,_⟩ <;> exact getB_len h
theorem Wr.row_lt {bs:List Blk} {p:Nat} {l:List Int} (h:Wr bs p l) {x:Nat} (hx:wrow bs p = some x):x < bs.length:=by
 rcases h with ⟨_,h⟩ | ⟨_,b,_,h,h2⟩
 · simp [wrow,h] at hx
 · simp only [wrow,h,Option.some.injEq] at hx
   subst hx; exact getB_len h2
theorem wrow_lay {bs:List Blk} {p:Nat} (h:p < bs.length) (ys:List Blk):wrow (bs ++ ys) p = wrow bs p:=by
 simp only [wrow,getB_lt h]
theorem Wr.lay {bs:List Blk} {p:Nat} {l:List Int} (h:Wr bs p l) (ys:List Blk):Wr (bs ++ ys) p l:=by
 rcases h with ⟨h1,h2⟩ | ⟨h1,b,h2,h3,h4⟩
 · exact .inl ⟨h1,getB_of h2⟩
 · exact .inr ⟨h1,b,h2,getB_of h3,getB_of h4⟩
theorem Fx.lay {p:Nat} {bs:List Blk} (h:p < bs.length) (ys:List Blk):Fx p bs (bs ++ ys) :=
 ⟨by simp,fun x cs h1 h2 h3=>⟨getB_of h3,by rw [wrow_lay h]; exact h2⟩⟩
theorem getB_set {bs:List Blk} {b x:Nat} {cs:List V}:getB (bs.set b (.cells cs)) x = if b = x then (if b < bs.length then some cs else none) else getB bs x:=by
 unfold getB
 rw [List.getElem?_set]
 by_cases h:b = x
 · subst h
   by_cases hb:b < bs.length <;> simp [hb]
 · simp [h]
theorem Wr.app {bs:List Blk} {p:Nat} {l:List Int} (h:Wr bs p l) {x:V} {xs:List Int} {m lo:Nat} (hr:rowCells ⟨bs,lo⟩ x 1 = some (m,xs.map (iv .u8))) (hm:m = xs.length) (hl:l.length + xs.length <= big) :
 ∃ v v' bs1 lo1,getB bs p = some [v] /\ nu v = some v /\ nu v' = some v' /\ v'.cells = some [v'] /\ appv ⟨bs,lo⟩ 1 1 v x = some (v',⟨bs1,lo1⟩) /\ p < bs1.length /\ getB bs1 p = some [v] /\ Wr (bs1.set p (.cells [v'])) p (l ++ xs) /\ Fx p bs (bs1.set p (.cells [v'])):=by
 subst hm
 have hp:=h.len
 have hroom:roomy (l.length + xs.length) 1 = true:=by
  simp only [roomy,Bool.and_eq_true,decide_eq_true_eq]; exact ⟨hl,by decide⟩
 rcases h with ⟨rfl,h2⟩ | ⟨h1,b,h2,h3,h4⟩
 · by_cases hx:xs = []
   · subst hx
     refine ⟨.d (.slice true []),.d (.slice true []),bs,lo,h2,rfl,rfl,rfl,?_,hp,h2,.inl ⟨rfl,by simp [getB_set,hp]⟩,?_⟩
     · simp [appv,hr,appendAt]
     · refine ⟨by simp,fun y cs k1 k2 k3=>⟨by rw [getB_set,if_neg (Ne.symm k1)]; exact k3,?_⟩⟩
       simp [wrow,getB_set,hp]
   · have hx0:¬ xs.length = 0:=by simpa using hx
     have hroom':roomy xs.length 1 = true:=by simpa using hroom
     refine ⟨.d (.slice true []),.row bs.length 0 xs.length none 1,bs ++ [.cells (xs.map (iv .u8))],lo,h2,rfl,rfl,rfl,?_,by simp; omega,getB_of h2,.inr ⟨by simpa using hx,bs.length,by omega,?_,?_⟩,?_⟩
     · simp [appv,hr,appendAt,hx0,hx,hroom']
     · rw [getB_set,if_pos rfl,if_pos (by simp; omega)]; simp
     · rw [getB_set,if_neg (by omega),getB_at]; simp
     · refine ⟨by simp,fun y cs k1 k2 k3=>⟨by rw [getB_set,if_neg (Ne.symm k1)]; exact getB_of k3,?_⟩⟩
       have:=getB_len k3
       simp [wrow,getB_set]
       rw [if_pos (by omega)]
       simp; omega
 · have hbl:=getB_len h4
   have hpos:0 < l.length:=List.length_pos_iff.2 h1
   by_cases hx:xs = []
   · subst hx
     refine ⟨.row b 0 l.length none 1,.row b 0 l.length none 1,bs,lo,h3,rfl,rfl,rfl,?_,hp,h3,.inr ⟨by simpa using h1,b,h2,?_,?_⟩,?_⟩
     · simp [appv,hr,appendAt]
     · rw [getB_set,if_pos rfl,if_pos hp]; simp
     · rw [getB_set,if_neg (Ne.symm h2)]; simpa using h4
     · refine ⟨by simp,fun y cs k1 k2 k3=>⟨by rw [getB_set,if_neg (Ne.symm k1)]; exact k3,?_⟩⟩
       simp only [wrow,h3] at k2
       simpa [wrow,getB_set,hp] using k2
   · have hx0:¬ xs.length = 0:=by simpa using hx
     have hsub:sub (l.map (iv .u8)) 0 (l.length * 1) = some (l.map (iv .u8)):=sub_all (by simp)
     refine ⟨.row b 0 l.length none 1,.row bs.length 0 (l.length + xs.length) none 1,bs.set b (.cells []) ++ [.cells ((l ++ xs).map (iv .u8))],min lo b,h3,rfl,rfl,rfl,?_,by simp; omega,?_,.inr ⟨by simp [h1],bs.length,by omega,?_,?_⟩,?_⟩
     · simp only [appv,hr,appendAt,get_eq,h4,hsub,hroom]
       simp [hx0,hx,hpos,Hp.set]
     · refine getB_of ?_
       rw [getB_set,if_neg h2]; exact h3
     · rw [getB_set,if_pos rfl,if_pos (by simp; omega)]; simp
     · rw [getB_set,if_neg (by omega)]
       have:=getB_at (bs:=bs.set b (.cells [])) (ys:=[.cells ((l ++ xs).map (iv .u8))])
       simp only [List.length_set] at this
       rw [this]; rfl
     · refine ⟨by simp,fun y cs k1 k2 k3=>?_⟩
       simp only [wrow,h3,ne_eq,Option.some.injEq] at k2
       have:=getB_len k3
       refine ⟨by rw [getB_set,if_neg (Ne.symm k1)]; exact getB_of (by rw [getB_set,if_neg k2]; exact k3),?_⟩
       simp [wrow,getB_set]
       rw [if_pos (by omega)]
       simp; omega
section
variable {E:Calls'}
def Puts (E:Calls') (f:FuncId) (args:List V) (p:Nat) (bs:List Blk) (l xs:List Int):Prop:=∀ lo,∃ bs' lo',Sm E TT valT f args ⟨bs,lo⟩ = some (.tup [],⟨bs',lo'⟩) /\ lo' <= p /\ Wr bs' p (l ++ xs) /\ Fx p bs bs'
theorem S312 {p:Nat} {bs:List Blk} {l xs:List Int} (h:Wr bs p l) {x:V} (hnu:nu x = some x) {m:Nat} (hr:∀ lo,rowCells ⟨bs,lo⟩ x 1 = some (m,xs.map (iv .u8))) (hm:m = xs.length) (hl:l.length + xs.length <= big):Puts E 110 [.ptr p 0,x] p bs l xs:=by
 intro lo
 obtain ⟨v,v',bs1,lo1,k1,k2,k3,k4,k5,k6,k7,k8,k9⟩:=h.app (hr bs.length) hm hl
 have hp:=h.len
 refine ⟨_,min lo (min lo1 p),?_,by omega,k8,k9⟩
 rw [Sm_ref t312 v312]
 simp [Bd_mk,q312,k1,k2,k3,k4,k5,k7,hnu,V.under,Hp.set]
 rw [if_neg (fun hh=>by have:=hh.1; omega)]
 rfl
end
end Go.Proofs.YthkeklemhcfbcaaGreat
namespace Go.Proofs.YthkeklemhcfbcaaGreat
variable {E:Calls'}
def lenTab:ByteArray:=⟨#[0,1,2,2,3,3,3,3,4,4,4,4,4,4,4,4,5,5,5,5,5,5,5,5,5,5,5,5,5,5,5,5,6,6,6,6,6,6,6,6,6,6,6,6,6,6,6,6,6,6,6,6,6,6,6,6,6,6,6,6,6,6,6,6,7,7,7,7,7,7,7,7,7,7,7,7,7,7,7,7,7,7,7,7,7,7,7,7,7,7,7,7,7,7,7,7,7,7,7,7,7,7,7,7,7,7,7,7,7,7,7,7,7,7,7,7,7,7,7,7,7,7,7,7,7,7,7,7,8,8,8,8,8,8,8,8,8,8,8,8,8,8,8,8,8,8,8,8,8,8,8,8,8,8,8,8,8,8,8,8,8,8,8,8,8,8,8,8,8,8,8,8,8,8,8,8,8,8,8,8,8,8,8,8,8,8,8,8,8,8,8,8,8,8,8,8,8,8,8,8,8,8,8,8,8,8,8,8,8,8,8,8,8,8,8,8,8,8,8,8,8,8,8,8,8,8,8,8,8,8,8,8,8,8,8,8,8,8,8,8,8,8,8,8,8,8,8,8,8,8,8,8,8,8,8,8]⟩
def lenL:List UInt8:=lenTab.data.toList
theorem lenL_len:lenL.length = 256:=by decide +kernel
theorem lenL_small:lenL.all (fun b=>decide (b.toNat <= 8)) = true:=by decide +kernel
def lenT (i:Nat):Int:=match lenL[i]? with
 | some b=>b.toNat
 | none=>0
theorem lenT_le (i:Nat):0 <= lenT i /\ lenT i <= 8:=by
 unfold lenT
 split
 · rename_i b hb
   have:=List.all_eq_true.1 lenL_small b (List.mem_of_getElem? hb)
   simp at this
   omega
 · omega
theorem wrap8 (n:Int):0 <= IntKind.wrap .u8 n /\ IntKind.wrap .u8 n < 256:=by
 simp [IntKind.wrap,IntKind.bits,IntKind.signed]
 omega
theorem len_at {n:Int} {h:Hp}:idxSv (.d (.str lenTab)) (.d (.int .u8 (IntKind.wrap .u8 n))) h = some (.d (.int .u8 (lenT (IntKind.wrap .u8 n).toNat)),h):=by
 obtain ⟨h0,h1⟩:=wrap8 n
 generalize IntKind.wrap .u8 n = m at *
 have hlt:m.toNat < lenL.length:=by rw [lenL_len]; omega
 have hb:lenTab.toList[m.toNat]? = some lenL[m.toNat]:=by rw [bytes_toList]; exact List.getElem?_eq_getElem hlt
 simp only [idxSv,if_pos h0,hb,lenT,List.getElem?_eq_getElem hlt]
def lenA (x:Int):Int:=if x >= 4294967296 then x.fdiv 4294967296 else x
def lenB (x:Int):Int:=if x >= 65536 then x.fdiv 65536 else x
def lenC (x:Int):Int:=if x >= 256 then x.fdiv 256 else x
def len64 (x:Int):Int:=(if x >= 4294967296 then 32 else 0) + (if lenA x >= 65536 then 16 else 0) + (if lenB (lenA x) >= 256 then 8 else 0) + lenT (IntKind.wrap .u8 (lenC (lenB (lenA x)))).toNat
theorem len64_le (x:Int):0 <= len64 x /\ len64 x <= 64:=by
 have:=lenT_le (IntKind.wrap .u8 (lenC (lenB (lenA x)))).toNat
 unfold len64
 repeat' split
 all_goals omega
theorem lenA_c (x:Int):(x >= 4294967296 /\ binD .shr (.d (.int .u64 x)) (.d (.int .u64 32)) = some (.int .u64 (lenA x))) \/ (¬ x >= 4294967296 /\ lenA x = x):=by
 by_cases c:x >= 4294967296
 · exact .inl ⟨c,by rw [bin_shr (by decide),lenA,if_pos c]; rfl⟩
 · exact .inr ⟨c,if_neg c⟩
theorem lenB_c (x:Int):(x >= 65536 /\ binD .shr (.d (.int .u64 x)) (.d (.int .u64 16)) = some (.int .u64 (lenB x))) \/ (¬ x >= 65536 /\ lenB x = x):=by
 by_cases c:x >= 65536
 · exact .inl ⟨c,by rw [bin_shr (by decide),lenB,if_pos c]; rfl⟩
 · exact .inr ⟨c,if_neg c⟩
theorem lenC_c (x:Int):(x >= 256 /\ binD .shr (.d (.int .u64 x)) (.d (.int .u64 8)) = some (.int .u64 (lenC x))) \/ (¬ x >= 256 /\ lenC x = x):=by
 by_cases c:x >= 256
 · exact .inl ⟨c,by rw [bin_shr (by decide),lenC,if_pos c]; rfl⟩
 · exact .inr ⟨c,if_neg c⟩
theorem S338 (x:Int) (h:Hp):Sm E TT valT 152 [.d (u64 x)] h = some (.d (i64 (len64 x)),h):=by
 rw [Sm_v t338 v338]
 have htab:(⟨#[0,1,2,2,3,3,3,3,4,4,4,4,4,4,4,4,5,5,5,5,5,5,5,5,5,5,5,5,5,5,5,5,6,6,6,6,6,6,6,6,6,6,6,6,6,6,6,6,6,6,6,6,6,6,6,6,6,6,6,6,6,6,6,6,7,7,7,7,7,7,7,7,7,7,7,7,7,7,7,7,7,7,7,7,7,7,7,7,7,7,7,7,7,7,7,7,7,7,7,7,7,7,7,7,7,7,7,7,7,7,7,7,7,7,7,7,7,7,7,7,7,7,7,7,7,7,7,7,8,8,8,8,8,8,8,8,8,8,8,8,8,8,8,8,8,8,8,8,8,8,8,8,8,8,8,8,8,8,8,8,8,8,8,8,8,8,8,8,8,8,8,8,8,8,8,8,8,8,8,8,8,8,8,8,8,8,8,8,8,8,8,8,8,8,8,8,8,8,8,8,8,8,8,8,8,8,8,8,8,8,8,8,8,8,8,8,8,8,8,8,8,8,8,8,8,8,8,8,8,8,8,8,8,8,8,8,8,8,8,8,8,8,8,8,8,8,8,8,8,8,8,8,8,8,8,8]⟩:ByteArray) = lenTab:=rfl
 have hl:=lenT_le (IntKind.wrap .u8 (lenC (lenB (lenA x)))).toNat
 have hL:=fun h=>len_at (n:=lenC (lenB (lenA x))) (h:=h)
 unfold len64
 have hA:=lenA_c x
 have hB:=lenB_c (lenA x)
 have hC:=lenC_c (lenB (lenA x))
 have hw:∀ n:Int,0 <= n -> n <= 1000 -> IntKind.wrap .i64 n = n:=fun n h1 h2=>wrap64 (by omega) (by omega)
 have w16:=hw 16 (by omega) (by omega)
 have w40:=hw 40 (by omega) (by omega)
 have w48:=hw 48 (by omega) (by omega)
 have w56:=hw 56 (by omega) (by omega)
 have w24:=hw 24 (by omega) (by omega)
 have w8:=hw 8 (by omega) (by omega)
 generalize lenA x = a at *
 generalize lenB a = b at *
 generalize lenC b = c at *
 generalize lenT (IntKind.wrap .u8 c).toNat = L at *
 have wL:=hw L (by omega) (by omega)
 have v1:=hw (8 + L) (by omega) (by omega)
 have v2:=hw (16 + L) (by omega) (by omega)
 have v3:=hw (24 + L) (by omega) (by omega)
 have v4:=hw (32 + L) (by omega) (by omega)
 have v5:=hw (40 + L) (by omega) (by omega)
 have v6:=hw (48 + L) (by omega) (by omega)
 have v7:=hw (56 + L) (by omega) (by omega)
 rcases hA with ⟨a1,a2⟩ | ⟨a1,rfl⟩ <;> rcases hB with ⟨b1,b2⟩ | ⟨b1,rfl⟩ <;> rcases hC with ⟨c1,c2⟩ | ⟨c1,rfl⟩ <;> simp [Bd_mk,q338,htab,hL,wL,w16,w40,w48,w56,w24,w8,v1,v2,v3,v4,v5,v6,v7, *]
def grpT (x:Int):Int:=if (len64 x + 6).tdiv 7 > 1 then (len64 x + 6).tdiv 7 else 1
theorem grpT_le (x:Int):1 <= grpT x /\ grpT x <= 10:=by
 have:=len64_le x
 have h2:(len64 x + 6).tdiv 7 = (len64 x + 6) / 7:=Int.tdiv_eq_ediv_of_nonneg (by omega)
 unfold grpT
 rw [h2]
 split <;> omega
theorem S363 (x:Int) (h:Hp):Sm E TT valT 99 [.d (u64 x)] h = some (.d (i64 (grpT x)),h):=by
 rw [Sm_v t363 v363]
 have hl:=len64_le x
 have h1:=fun h=>S338 (E:=E) x h
 have hw:IntKind.wrap .i64 (len64 x + 6) = len64 x + 6:=wrap64 (by omega) (by omega)
 have h2:(len64 x + 6).tdiv 7 = (len64 x + 6) / 7:=Int.tdiv_eq_ediv_of_nonneg (by omega)
 have hq:binD .quo (.d (.int .i64 (len64 x + 6))) (.d (.int .i64 7)) = some (.int .i64 ((len64 x + 6).tdiv 7)):=by
  simp only [binD,if_true,binInt]
  rw [if_neg (by omega),wrap64] <;> omega
 simp [Bd_mk,q363,h1,hw,hq,grpT]
def orI (k:IntKind) (a b:Int):Int:=k.wrap ((BitVec.ofInt k.bits a ||| BitVec.ofInt k.bits b).toNat)
theorem bin_or {k:IntKind} {a b:Int}:binD .or (.d (.int k a)) (.d (.int k b)) = some (.int k (orI k a b)):=by simp [binD,binInt,orI]
def uintG:Nat -> Int -> List Int
 | 0,x=>[IntKind.wrap .u8 x]
 | k + 1,x=>orI .u8 (IntKind.wrap .u8 x) 128 :: uintG k (x.fdiv 128)
def uintB (x:Int):List Int:=uintG ((grpT x).toNat - 1) x
theorem uintG_len (k:Nat) (x:Int):(uintG k x).length = k + 1:=by
 induction k generalizing x with
 | zero=>rfl
 | succ k ih=>simp [uintG,ih]
theorem uintB_len (x:Int):(uintB x).length <= 10:=by
 have:=grpT_le x
 rw [uintB,uintG_len]; omega
theorem byRef_w {bs bs':List Blk} {lo lo' p:Nat} {r:V} (h1:lo' <= p) (h2:p < bs.length):byRef ⟨bs,lo⟩ (some (r,⟨bs',lo'⟩)) = some (r,⟨bs',min lo lo'⟩):=by
 simp only [byRef]
 rw [if_neg (fun hh=>by have:=hh.1; omega)]
theorem rc_one {bs:List Blk} {x:Int} {k:IntKind} (lo:Nat):rowCells ⟨bs ++ [.cells [.d (.int k x)]],lo⟩ (.row bs.length 0 1 (some 1) 1) 1 = some (1,[iv k x]):=by
 simp only [rowCells,if_true,get_eq,getB_at]
 rfl
theorem more1 {p:Nat} {bs:List Blk} {l:List Int} (h:Wr bs p l) (x:Int) (hl:l.length + 1 <= big):Puts E 110 [.ptr p 0,.row bs.length 0 1 (some 1) 1] p (bs ++ [.cells [.d (.int .u8 x)]]) l [x] :=
 S312 (h.lay _) rfl (fun lo=>rc_one lo) rfl hl
theorem uint_loop {p:Nat}:∀ (m i:Nat) (x:Int) (bs:List Blk) (lo:Nat) (l:List Int) (G:Nat),i + m = G -> G <= 10 -> Wr bs p l -> l.length + (m + 1) <= big →
 ∃ bs' lo' y l',Cd E TT valT (.loop [0,1,6,7] q311_b0) [(0,.ptr p 0),(1,.d (u64 x)),(6,.d (i64 G)),(7,.d (i64 i))] ⟨bs,lo⟩ = some (.exit 0,[(0,.ptr p 0),(1,.d (u64 y))],⟨bs',lo'⟩) ∧
  l ++ uintG m x = l' ++ uintG 0 y /\ l'.length = l.length + m /\ Wr bs' p l' /\ Fx p bs bs':=by
 intro m
 have key:=Cd_round (E:=E) (T:=TT) (val:=valT) [0,1,6,7] q311_b0
 generalize Cd E TT valT (.loop [0,1,6,7] q311_b0) = W at key ⊢
 induction m with
 | zero =>
  intro i x bs lo l G hi hG hW hl
  refine ⟨bs,lo,x,l,?_,rfl,rfl,hW,Fx.refl _ _⟩
  rw [key]
  simp [q311_b0,show ¬ ((i:Int) < G) from by omega]
 | succ m ih =>
  intro i x bs lo l G hi hG hW hl
  have h1:=more1 (E:=E) hW (orI .u8 (IntKind.wrap .u8 x) 128) (by omega)
  obtain ⟨bs1,lo1,k1,k2,k3,k4⟩:=h1 lo
  have hw:=int_next (show i < G by omega) (show G < 2 ^ 62 by omega)
  obtain ⟨bs',lo',y,l',q1,q2,q3,q4,q5⟩:=ih (i + 1) (x.fdiv 128) bs1 lo1 (l ++ [orI .u8 (IntKind.wrap .u8 x) 128]) G (by omega) hG k3 (by simp; omega)
  refine ⟨bs',lo',y,l',?_,by rw [← q2]; simp [uintG],by rw [q3]; simp; omega,q4,((Fx.lay hW.len _).trans k4).trans q5⟩
  have hs:binD .shr (.d (.int .u64 x)) (.d (.int .u64 7)) = some (.int .u64 (x.fdiv 128)):=by rw [bin_shr (by decide)]; rfl
  rw [key]
  simp [q311_b0,bin_or,fillsE,k1,hs,hw,show ((i:Int) < G) from by omega]
  simpa using q1
theorem S311 {p:Nat} {bs:List Blk} {l:List Int} (h:Wr bs p l) (x:Int) (hl:l.length + (uintB x).length <= big):Puts E 109 [.ptr p 0,.d (u64 x)] p bs l (uintB x):=by
 intro lo
 have hg:=grpT_le x
 rw [uintB,uintG_len] at hl
 have hp:=h.len
 obtain ⟨bs1,lo1,y,l1,q1,q2,q3,q4,q5⟩:=uint_loop (E:=E) ((grpT x).toNat - 1) 0 x bs bs.length l ((grpT x).toNat - 1) (by omega) (by omega) h (by omega)
 obtain ⟨bs2,lo2,k1,k2,k3,k4⟩:=more1 (E:=E) q4 (IntKind.wrap .u8 y) (by omega) lo1
 have hS:=fun h=>S363 (E:=E) x h
 have hw:IntKind.wrap .i64 (grpT x - 1) = (((grpT x).toNat - 1:Nat):Int):=by rw [wrap64] <;> omega
 refine ⟨bs2,min lo lo2,?_,by omega,?_,(q5.trans (Fx.lay q4.len _)).trans k4⟩
 · rw [Sm_ref t311 v311]
   simp [Bd_mk,q311,hS,hw]
   rw [Cd_keep]
   simp at q1
   simp [q1,fillsE,k1]
   exact byRef_w k2 hp
 · rw [uintB,q2]; exact k3
theorem S431 {p:Nat} {bs:List Blk} {l:List Int} (h:Wr bs p l) (x:Int) (hl:l.length + 1 <= big):Puts E 213 [.ptr p 0,.d (.int .u8 x)] p bs l [x]:=by
 intro lo
 obtain ⟨bs1,lo1,k1,k2,k3,k4⟩:=more1 (E:=E) h x hl bs.length
 refine ⟨bs1,min lo lo1,?_,by omega,k3,(Fx.lay h.len _).trans k4⟩
 rw [Sm_ref t431 v431]
 simp [Bd_mk,q431,fillsE,k1]
 exact byRef_w k2 h.len
def u32B (x:Int):List Int:=[IntKind.wrap .u8 x,IntKind.wrap .u8 (x.fdiv 256),IntKind.wrap .u8 (x.fdiv 65536),IntKind.wrap .u8 (x.fdiv 16777216)]
theorem S430 {p:Nat} {bs:List Blk} {l:List Int} (h:Wr bs p l) (x:Int) (hl:l.length + 4 <= big):Puts E 212 [.ptr p 0,.d (u32 x)] p bs l (u32B x):=by
 intro lo
 have s0:binD .shr (.d (.int .u32 x)) (.d (.int .i64 0)) = some (.int .u32 x):=by rw [bin_shr (by decide)]; simp
 have s1:binD .shr (.d (.int .u32 x)) (.d (.int .i64 8)) = some (.int .u32 (x.fdiv 256)):=by rw [bin_shr (by decide)]; rfl
 have s2:binD .shr (.d (.int .u32 x)) (.d (.int .i64 16)) = some (.int .u32 (x.fdiv 65536)):=by rw [bin_shr (by decide)]; rfl
 have s3:binD .shr (.d (.int .u32 x)) (.d (.int .i64 24)) = some (.int .u32 (x.fdiv 16777216)):=by rw [bin_shr (by decide)]; rfl
 obtain ⟨b1,l1,a1,a2,a3,a4⟩:=more1 (E:=E) h (IntKind.wrap .u8 x) (by omega) bs.length
 obtain ⟨b2,l2,c1,c2,c3,c4⟩:=more1 (E:=E) a3 (IntKind.wrap .u8 (x.fdiv 256)) (by simp; omega) l1
 obtain ⟨b3,l3,d1,d2,d3,d4⟩:=more1 (E:=E) c3 (IntKind.wrap .u8 (x.fdiv 65536)) (by simp; omega) l2
 obtain ⟨b4,l4,e1,e2,e3,e4⟩:=more1 (E:=E) d3 (IntKind.wrap .u8 (x.fdiv 16777216)) (by simp; omega) l3
 refine ⟨b4,min lo l4,?_,by omega,by simpa [u32B] using e3,((Fx.lay h.len _).trans a4).trans (((Fx.lay a3.len _).trans c4).trans (((Fx.lay c3.len _).trans d4).trans ((Fx.lay d3.len _).trans e4)))⟩
 rw [Sm_ref t430 v430]
 have key:=Cd_round (E:=E) (T:=TT) (val:=valT) [0,1,6,7] q430_b0
 simp [Bd_mk,q430,fillsE]
 rw [Cd_keep]
 generalize Cd E TT valT (.loop [0,1,6,7] q430_b0) = W at key ⊢
 simp
 have w1:IntKind.wrap .i64 1 = 1:=by decide
 have w2:IntKind.wrap .i64 2 = 2:=by decide
 have w3:IntKind.wrap .i64 3 = 3:=by decide
 have w4:IntKind.wrap .i64 4 = 4:=by decide
 rw [key]; simp [q430_b0,opE,s0,fillsE,a1,w1]
 rw [key]; simp [q430_b0,opE,s1,fillsE,c1,w2]
 rw [key]; simp [q430_b0,opE,s2,fillsE,d1,w3]
 rw [key]; simp [q430_b0,opE,s3,fillsE,e1,w4]
 rw [key]; simp [q430_b0]
 exact byRef_w e2 h.len
def convSBv (x:V) (h:Hp):Option (V × Hp):=match x with
 | .d (.str s)=>if s.size <= 2 ^ 40 then some (.row h.size 0 s.size none 1,h.alloc (s.toList.map fun b=>.d (.int .u8 b.toNat))) else none
 | _=>none
@[simp] theorem opE_convSB {C:Calls'} {ev:X -> V} {h:Hp} {x:X}:opE C (.convSB x) ev h = convSBv (ev x) h:=(rfl)
theorem convSB_s {h:Hp} {s:ByteArray} (hs:s.size <= 2 ^ 40):convSBv (.d (.str s)) h = some (.row h.size 0 s.size none 1,h.alloc (s.toList.map fun b=>.d (.int .u8 b.toNat))):=if_pos hs
def textB (s:ByteArray):List Int:=uintB s.size ++ s.toList.map fun b=>(b.toNat:Int)
theorem textB_len (s:ByteArray):(textB s).length <= 10 + s.size:=by
 have:=uintB_len s.size
 simp only [textB,List.length_append,List.length_map,str_len]
 omega
theorem S214 {p:Nat} {bs:List Blk} {l:List Int} (h:Wr bs p l) (s:ByteArray) (hl:l.length + (textB s).length <= big):Puts E 65 [.ptr p 0,.d (.str s)] p bs l (textB s):=by
 intro lo
 have hsz:s.toList.length = s.size:=str_len s
 simp only [textB,List.length_append,List.length_map] at hl
 have hs:s.size <= 2 ^ 40:=Nat.le_trans (m:=2 ^ 30) (by rw [← hsz]; have:big = 2 ^ 30:=rfl; omega) (by decide)
 obtain ⟨b1,l1,a1,a2,a3,a4⟩:=S311 (E:=E) h s.size (by omega) bs.length
 have hrc:∀ lo,rowCells ⟨b1 ++ [.cells (s.toList.map fun b=>V.d (.int .u8 b.toNat))],lo⟩ (.row b1.length 0 s.size none 1) 1 = some (s.size,(s.toList.map fun b=>(b.toNat:Int)).map (iv .u8)):=by
  intro lo
  have:sub (s.toList.map fun b=>V.d (.int .u8 b.toNat)) 0 (s.size * 1) = some (s.toList.map fun b=>V.d (.int .u8 b.toNat)):=sub_all (by simp [hsz])
  simp only [rowCells,if_true,get_eq,getB_at,getB_zero,this,List.map_map]
  rfl
 obtain ⟨b2,l2,c1,c2,c3,c4⟩:=S312 (E:=E) (a3.lay _) (x:=.row b1.length 0 s.size none 1) rfl hrc (by simp [hsz]) (by simp; omega) l1
 refine ⟨b2,min lo l2,?_,by omega,by simpa [textB] using c3,(a4.trans (Fx.lay a3.len _)).trans c4⟩
 have hw:IntKind.wrap .u64 (s.size:Int) = s.size:=by
  simp [IntKind.wrap,IntKind.bits,IntKind.signed]
  omega
 rw [Sm_ref t214 v214]
 simp [Bd_mk,q214,hw,a1,convSB_s hs,c1]
 exact byRef_w c2 h.len
theorem put_loop {p:Nat} {xs:List Int} (hxn:xs.length < 2 ^ 62) {q:Nat} (hq:q ≠ p) {cap:Option Nat}:∀ (m i:Nat) (bs:List Blk) (lo:Nat) (l:List Int),i + m = xs.length -> Wr bs p l -> wrow bs p ≠ some q -> getB bs q = some (xs.map fun n=>V.d (u64 n)) -> l.length + ((xs.drop i).flatMap uintB).length <= big →
 ∃ bs' lo',Cd E TT valT (.loop [0,6,7,8] q213_b0) [(0,.ptr p 0),(6,.row q 0 xs.length cap 1),(7,.d (i64 xs.length)),(8,.d (i64 i))] ⟨bs,lo⟩ = some (.exit 0,[],⟨bs',lo'⟩) ∧
  (lo' = lo /\ xs.drop i = [] \/ lo' <= p) /\ Wr bs' p (l ++ (xs.drop i).flatMap uintB) /\ Fx p bs bs':=by
 intro m
 have key:=Cd_round (E:=E) (T:=TT) (val:=valT) [0,6,7,8] q213_b0
 generalize Cd E TT valT (.loop [0,6,7,8] q213_b0) = W at key ⊢
 induction m with
 | zero =>
  intro i bs lo l hi hW h1 h2 hl
  have h0:xs.drop i = []:=List.drop_eq_nil_of_le (by omega)
  refine ⟨bs,lo,?_,.inl ⟨rfl,h0⟩,by simpa [h0] using hW,Fx.refl _ _⟩
  rw [key]
  simp [q213_b0,show ¬ ((i:Int) < xs.length) from by omega]
 | succ m ih =>
  intro i bs lo l hi hW h1 h2 hl
  have hlt:i < xs.length:=by omega
  have hd:xs.drop i = xs[i] :: xs.drop (i + 1):=List.drop_eq_getElem_cons hlt
  have hix:=fun h=>ix_row (b:=q) (o:=0) (z:=1) (cap:=cap) (kd:=.i64) (h:=h) hlt
  simp only [Nat.mul_one,Nat.zero_add] at hix
  have hs:sub (xs.map fun n=>V.d (u64 n)) i 1 = some [.d (u64 xs[i])]:=by
   rw [sub_eq,if_pos (by simp; omega),List.drop_eq_getElem_cons (by simpa using hlt)]; simp
  rw [hd] at hl ⊢
  simp only [List.flatMap_cons,List.length_append] at hl
  generalize xs[i] = x at *
  obtain ⟨b1,l1,a1,a2,a3,a4⟩:=S311 (E:=E) hW x (by omega) lo
  obtain ⟨f1,f2⟩:=a4.2 q _ hq h1 h2
  obtain ⟨bs',lo',q1,q2,q3,q4⟩:=ih (i + 1) b1 l1 (l ++ uintB x) (by omega) a3 f2 f1 (by rw [List.length_append]; omega)
  have hw:=int_next hlt hxn
  refine ⟨bs',lo',?_,.inr ?_,by simpa using q3,a4.trans q4⟩
  · have hld:ldv ⟨bs,lo⟩ (.ptr q i) 1 true = some (.d (u64 x),⟨bs,lo⟩):=by
     rw [ldv_ptr,get_eq]
     show (match (match getB bs q with | some cs=>sub cs i 1 | none=>none) with | some cs=>_ | none=>none) = _
     rw [h2]; simp only [hs]; rfl
    rw [key]
    simp [q213_b0,hix,hld,a1,hw,hlt,show ((i:Int) < xs.length) from by omega,-ldv_ptr]
    simpa using q1
  · rcases q2 with ⟨rfl,_⟩ | q2
    · exact a2
    · exact q2
theorem S213 {p:Nat} {bs:List Blk} {l:List Int} (h:Wr bs p l) {xs:List Int} (hne:xs ≠ []) (hn:xs.length < 2 ^ 62) {q:Nat} (hq:q ≠ p) {cap:Option Nat} (h1:wrow bs p ≠ some q) (h2:getB bs q = some (xs.map fun n=>V.d (u64 n))) (hl:l.length + (xs.flatMap uintB).length <= big):Puts E 64 [.ptr p 0,.row q 0 xs.length cap 1] p bs l (xs.flatMap uintB):=by
 intro lo
 obtain ⟨bs',lo',k1,k2,k3,k4⟩:=put_loop (E:=E) hn hq (cap:=cap) xs.length 0 bs bs.length l (by omega) h h1 h2 (by simpa using hl)
 have hle:lo' <= p:=by
  rcases k2 with ⟨_,hx⟩ | k2
  · exact absurd (by simpa using hx) hne
  · exact k2
 refine ⟨bs',min lo lo',?_,by omega,by simpa using k3,k4⟩
 rw [Sm_ref t213 v213]
 simp [Bd_mk,q213]
 rw [Cd_keep]
 simp at k1
 simp [k1]
 exact byRef_w hle h.len
theorem S212 (bs:List Blk) (lo:Nat):∃ lo',Sm E TT valT 63 [] ⟨bs,lo⟩ = some (.ptr bs.length 0,⟨bs ++ [.cells [.d (.slice true [])]],lo'⟩):=by
 refine ⟨min lo bs.length,?_⟩
 rw [Sm_ref t212 v212]
 simp [Bd_mk,q212,V.under]
theorem wr_new (bs:List Blk):Wr (bs ++ [.cells [.d (.slice true [])]]) bs.length []:=.inl ⟨rfl,by simp⟩
theorem S216 {p:Nat} {bs:List Blk} {l:List Int} (h:Wr bs p l) (hl:l.length <= big) (hne:l ≠ []) (lo:Nat):∃ lo',Sm E TT valT 67 [.ptr p 0] ⟨bs,lo⟩ = some (.row bs.length 0 l.length none 1,⟨bs ++ [.cells (l.map (iv .u8))],lo'⟩):=by
 rcases h with ⟨h1,_⟩ | ⟨_,b,h2,h3,h4⟩
 · exact absurd h1 hne
 · have hl0:¬ l.length = 0:=by simpa using hne
   have hroom:roomy l.length 1 = true:=by
    simp only [roomy,Bool.and_eq_true,decide_eq_true_eq]; exact ⟨hl,by decide⟩
   have hsub:sub (l.map (iv .u8)) 0 (l.length * 1) = some (l.map (iv .u8)):=sub_all (by simp)
   have hap:appv ⟨bs,bs.length⟩ 1 1 (.d (.slice true [])) (.row b 0 l.length none 1) = some (.row bs.length 0 l.length none 1,⟨bs ++ [.cells (l.map (iv .u8))],bs.length⟩):=by
    simp only [appv,rowCells,if_true,get_eq,h4,hsub,Option.map_some,appendAt,hl0,if_false,hroom]
    simp
   refine ⟨min lo bs.length,?_⟩
   rw [Sm_ref t216 v216]
   simp [Bd_mk,q216,h3,hap,V.under]
end Go.Proofs.YthkeklemhcfbcaaGreat
namespace Go.Proofs.YthkeklemhcfbcaaGreat
def wputB (z:Nat) (zero:List V):QC:=(.seq (.reg none [op 16 (.bin .lss (.t 15) (.t 14))]) (.seq (.cond (.t 16) .skip (.exit 0 [])) (.seq (.block 1 (.seq (.reg none [op 17 (.idxA none z (.t 13) (.t 15)),op 18 (.load false z (.t 17)),op 7 (.new zero),⟨none,none,.store z (.t 7) (.t 18)⟩]) (.reg none [mv 19 2,mv 20 0,op 21 (.load false z (.t 7)),op 22 (.call (.t 19) [.t 20,.t 21])]))) (.reg none [op 23 (.bin .add (.t 15) (ci 1)),mv 15 23]))))
def wputQ (z:Nat) (zero:List V):QF:=⟨24,[],(.seq (.reg none [mv 8 0,mv 9 1,op 10 (.len false (.t 9)),op 11 (.convI .u64 (.t 10)),op 12 (.call (.c (.fn 109 [])) [.t 8,.t 11])]) (.seq (.reg none [mv 13 1,op 14 (.len false (.t 13)),op 15 (.mov (ci 0))]) (.block 0 (.loop [0,2,13,14,15] (wputB z zero)))))⟩
def wput1B:QC:=(.seq (.reg none [op 16 (.bin .lss (.t 15) (.t 14))]) (.seq (.cond (.t 16) .skip (.exit 0 [])) (.seq (.block 1 (.seq (.reg none [op 17 (.idxA none 1 (.t 13) (.t 15)),op 18 (.load true 1 (.t 17)),mv 7 18]) (.reg none [mv 19 2,mv 20 0,mv 21 7,op 22 (.call (.t 19) [.t 20,.t 21])]))) (.reg none [op 23 (.bin .add (.t 15) (ci 1)),mv 15 23]))))
def wput1Q:QF:=⟨24,[],(.seq (.reg none [mv 8 0,mv 9 1,op 10 (.len false (.t 9)),op 11 (.convI .u64 (.t 10)),op 12 (.call (.c (.fn 109 [])) [.t 8,.t 11])]) (.seq (.reg none [mv 13 1,op 14 (.len false (.t 13)),op 15 (.mov (ci 0))]) (.block 0 (.loop [0,2,13,14,15] wput1B))))⟩
variable {E:Calls'}
def seqB {α:Type} (enc:α -> List Int) (l:List α):List Int:=uintB l.length ++ l.flatMap enc
theorem flat_len_cons {α:Type} (enc:α -> List Int) (x:α) (l:List α):((x :: l).flatMap enc).length = (enc x).length + (l.flatMap enc).length:=by simp
theorem wput_loop {α:Type} {cells:α -> List D} {z:Nat} {zero:List V} (hz:∀ x,(cells x).length = z) (hz0:0 < z) (hzero:zero.length = z) {enc:α -> List Int} {p:Nat} {f:FuncId} {s:Sl α} (hs:s.l.length < 2 ^ 62)
 (hf:∀ e ∈ s.l,∀ bs l,Wr bs p l -> l.length + (enc e).length <= big -> Puts E f [.ptr p 0,ag (cells e)] p bs l (enc e)):∀ (m i:Nat) (bs:List Blk) (lo:Nat) (l:List Int),i + m = s.l.length -> Wr bs p l -> l.length + ((s.l.drop i).flatMap enc).length <= big →
 ∃ bs' lo',Cd E TT valT (.loop [0,2,13,14,15] (wputB z zero)) [(0,.ptr p 0),(2,.fn f []),(13,.d (s.d cells)),(14,.d (i64 s.l.length)),(15,.d (i64 i))] ⟨bs,lo⟩ = some (.exit 0,[],⟨bs',lo'⟩) ∧
  (lo <= p -> lo' <= p) /\ Wr bs' p (l ++ (s.l.drop i).flatMap enc) /\ Fx p bs bs':=by
 intro m
 have key:=Cd_round (E:=E) (T:=TT) (val:=valT) [0,2,13,14,15] (wputB z zero)
 generalize Cd E TT valT (.loop [0,2,13,14,15] (wputB z zero)) = W at key ⊢
 induction m with
 | zero =>
  intro i bs lo l hi hW hl
  have h0:s.l.drop i = []:=List.drop_eq_nil_of_le (by omega)
  refine ⟨bs,lo,?_,id,by simpa [h0] using hW,Fx.refl _ _⟩
  rw [key]
  simp [wputB,show ¬ ((i:Int) < s.l.length) from by omega]
 | succ m ih =>
  intro i bs lo l hi hW hl
  have hlt:i < s.l.length:=by omega
  have hx:=fun h=>idxv_sl (z:=z) h (List.getElem?_eq_getElem hlt) (cells:=cells) (hz _)
  have hmem:=List.getElem_mem hlt
  rw [List.drop_eq_getElem_cons hlt] at hl ⊢
  rw [flat_len_cons] at hl
  generalize s.l[i] = e at *
  obtain ⟨b1,l1,a1,a2,a3,a4⟩:=hf e hmem (bs ++ [.cells ((cells e).map .d)]) l (hW.lay _) (by omega) (min lo bs.length)
  obtain ⟨bs',lo',q1,q2,q3,q4⟩:=ih (i + 1) b1 l1 (l ++ enc e) (by omega) a3 (by rw [List.length_append]; omega)
  have hw:=int_next hlt hs
  refine ⟨bs',lo',?_,fun _=>q2 a2,by simpa using q3,((Fx.lay hW.len _).trans a4).trans q4⟩
  have hsub:=sub_all (hz e)
  have hput:put zero 0 ((cells e).map V.d) = some ((cells e).map .d):=by simp [put,hz,hzero]
  rw [key]
  simp [wputB,hx,hsub,hput,hz,hz0,a1,hw,show ((i:Int) < s.l.length) from by omega,-put_zero]
  simpa using q1
theorem S_wput {α:Type} {cells:α -> List D} {z:Nat} {zero:List V} (hz:∀ x,(cells x).length = z) (hz0:0 < z) (hzero:zero.length = z) {id:FuncId} (ht:TT id = some (wputQ z zero)) (hv:valT id = false) {enc:α -> List Int} {p:Nat} {f:FuncId} {s:Sl α} (hs:short s)
 (hf:∀ e ∈ s.l,∀ bs l,Wr bs p l -> l.length + (enc e).length <= big -> Puts E f [.ptr p 0,ag (cells e)] p bs l (enc e)) {bs:List Blk} {l:List Int} (h:Wr bs p l) (hl:l.length + (seqB enc s.l).length <= big):Puts E id [.ptr p 0,.d (s.d cells),.fn f []] p bs l (seqB enc s.l):=by
 intro lo
 simp only [seqB,List.length_append] at hl
 obtain ⟨b1,l1,a1,a2,a3,a4⟩:=S311 (E:=E) h s.l.length (by omega) bs.length
 obtain ⟨b2,l2,k1,k2,k3,k4⟩:=wput_loop (E:=E) (zero:=zero) hz hz0 hzero hs.lt hf s.l.length 0 b1 l1 (l ++ uintB s.l.length) (by omega) a3 (by rw [List.length_append,List.drop_zero]; omega)
 refine ⟨b2,min lo l2,?_,by have:=k2 a2; omega,by simpa [seqB] using k3,a4.trans k4⟩
 have hb:s.l.length <= big:=hs.1
 have hbig:big = 2 ^ 30:=rfl
 have hw:IntKind.wrap .u64 (s.l.length:Int) = s.l.length:=by
  simp [IntKind.wrap,IntKind.bits,IntKind.signed]
  omega
 rw [Sm_ref ht hv]
 simp [Bd_mk,wputQ,hw,a1]
 rw [Cd_keep]
 simp at k1
 simp [k1]
 exact byRef_w (k2 a2) h.len
theorem wput1_loop {α:Type} {cell:α -> D} {enc:α -> List Int} {p:Nat} {f:FuncId} {s:Sl α} (hs:s.l.length < 2 ^ 62)
 (hf:∀ e ∈ s.l,∀ bs l,Wr bs p l -> l.length + (enc e).length <= big -> Puts E f [.ptr p 0,.d (cell e)] p bs l (enc e)):∀ (m i:Nat) (bs:List Blk) (lo:Nat) (l:List Int),i + m = s.l.length -> Wr bs p l -> l.length + ((s.l.drop i).flatMap enc).length <= big →
 ∃ bs' lo',Cd E TT valT (.loop [0,2,13,14,15] wput1B) [(0,.ptr p 0),(2,.fn f []),(13,.d (s.d fun x=>[cell x])),(14,.d (i64 s.l.length)),(15,.d (i64 i))] ⟨bs,lo⟩ = some (.exit 0,[],⟨bs',lo'⟩) ∧
  (lo <= p -> lo' <= p) /\ Wr bs' p (l ++ (s.l.drop i).flatMap enc) /\ Fx p bs bs':=by
 intro m
 have key:=Cd_round (E:=E) (T:=TT) (val:=valT) [0,2,13,14,15] wput1B
 generalize Cd E TT valT (.loop [0,2,13,14,15] wput1B) = W at key ⊢
 induction m with
 | zero =>
  intro i bs lo l hi hW hl
  have h0:s.l.drop i = []:=List.drop_eq_nil_of_le (by omega)
  refine ⟨bs,lo,?_,id,by simpa [h0] using hW,Fx.refl _ _⟩
  rw [key]
  simp [wput1B,show ¬ ((i:Int) < s.l.length) from by omega]
 | succ m ih =>
  intro i bs lo l hi hW hl
  have hlt:i < s.l.length:=by omega
  have hx:=fun h=>idxv_sl (z:=1) h (List.getElem?_eq_getElem hlt) (cells:=fun x=>[cell x]) rfl
  have hmem:=List.getElem_mem hlt
  rw [List.drop_eq_getElem_cons hlt] at hl ⊢
  rw [flat_len_cons] at hl
  generalize s.l[i] = e at *
  obtain ⟨b1,l1,a1,a2,a3,a4⟩:=hf e hmem bs l hW (by omega) lo
  obtain ⟨bs',lo',q1,q2,q3,q4⟩:=ih (i + 1) b1 l1 (l ++ enc e) (by omega) a3 (by rw [List.length_append]; omega)
  have hw:=int_next hlt hs
  refine ⟨bs',lo',?_,fun _=>q2 a2,by simpa using q3,a4.trans q4⟩
  rw [key]
  simp [wput1B,hx,a1,hw,show ((i:Int) < s.l.length) from by omega]
  simpa using q1
theorem S_wput1 {α:Type} {cell:α -> D} {id:FuncId} (ht:TT id = some wput1Q) (hv:valT id = false) {enc:α -> List Int} {p:Nat} {f:FuncId} {s:Sl α} (hs:short s)
 (hf:∀ e ∈ s.l,∀ bs l,Wr bs p l -> l.length + (enc e).length <= big -> Puts E f [.ptr p 0,.d (cell e)] p bs l (enc e)) {bs:List Blk} {l:List Int} (h:Wr bs p l) (hl:l.length + (seqB enc s.l).length <= big):Puts E id [.ptr p 0,.d (s.d fun x=>[cell x]),.fn f []] p bs l (seqB enc s.l):=by
 intro lo
 simp only [seqB,List.length_append] at hl
 obtain ⟨b1,l1,a1,a2,a3,a4⟩:=S311 (E:=E) h s.l.length (by omega) bs.length
 obtain ⟨b2,l2,k1,k2,k3,k4⟩:=wput1_loop (E:=E) hs.lt hf s.l.length 0 b1 l1 (l ++ uintB s.l.length) (by omega) a3 (by rw [List.length_append,List.drop_zero]; omega)
 refine ⟨b2,min lo l2,?_,by have:=k2 a2; omega,by simpa [seqB] using k3,a4.trans k4⟩
 have hb:s.l.length <= big:=hs.1
 have hbig:big = 2 ^ 30:=rfl
 have hw:IntKind.wrap .u64 (s.l.length:Int) = s.l.length:=by
  simp [IntKind.wrap,IntKind.bits,IntKind.signed]
  omega
 rw [Sm_ref ht hv]
 simp [Bd_mk,wput1Q,hw,a1]
 rw [Cd_keep]
 simp at k1
 simp [k1]
 exact byRef_w (k2 a2) h.len
end Go.Proofs.YthkeklemhcfbcaaGreat
namespace Go.Proofs.YthkeklemhcfbcaaGreat
variable {E:Calls'}
theorem Fx.new {p:Nat} {bs bs':List Blk} {l:List Int} {cs:List V} {ys:List Blk} (h:Wr bs p l) (k:Fx p (bs ++ (.cells cs :: ys)) bs'):bs.length ≠ p /\ wrow bs' p ≠ some bs.length /\ getB bs' bs.length = some cs:=by
 have hp:=h.len
 have h1:wrow (bs ++ (.cells cs :: ys)) p ≠ some bs.length:=by
  rw [wrow_lay hp]
  intro hh
  exact Nat.lt_irrefl _ (h.row_lt hh)
 obtain ⟨a,b⟩:=k.2 bs.length cs (by omega) h1 (by simp)
 exact ⟨by omega,b,a⟩
theorem Wr.fresh {p:Nat} {bs:List Blk} {l:List Int} (h:Wr bs p l) (ys:List Blk):bs.length ≠ p /\ wrow (bs ++ ys) p ≠ some bs.length:=by
 have hp:=h.len
 refine ⟨by omega,?_⟩
 rw [wrow_lay hp]
 intro hh
 exact Nat.lt_irrefl _ (h.row_lt hh)
def termE (t:Term):List Int:=IntKind.wrap .u8 t.kind :: textB t.text
theorem S464 (t:Term) {p:Nat} {bs:List Blk} {l:List Int} (h:Wr bs p l) (hl:l.length + (termE t).length <= big):Puts E 262 [.ptr p 0,ag t.c] p bs l (termE t):=by
 intro lo
 simp only [termE,List.length_cons] at hl
 obtain ⟨b1,l1,a1,a2,a3,a4⟩:=S431 (E:=E) (h.lay [.cells (t.c.map .d)]) (IntKind.wrap .u8 t.kind) (by omega) bs.length
 obtain ⟨f1,f2,f3⟩:=a4.new h
 obtain ⟨b2,l2,c1,c2,c3,c4⟩:=S214 (E:=E) a3 t.text (by simp; omega) l1
 refine ⟨b2,min lo l2,?_,by omega,by simpa [termE] using c3,((Fx.lay h.len _).trans a4).trans c4⟩
 rw [Sm_ref t464 v464]
 simp [Bd_mk,q464,a1,f3,c1]
 exact byRef_w c2 h.len
def cidrE (c:Cidr):List Int:=u32B c.addr ++ [IntKind.wrap .u8 c.bits]
theorem S429 (t:Cidr) {p:Nat} {bs:List Blk} {l:List Int} (h:Wr bs p l) (hl:l.length + (cidrE t).length <= big):Puts E 211 [.ptr p 0,ag t.c] p bs l (cidrE t):=by
 intro lo
 have h5:(cidrE t).length = 5:=rfl
 obtain ⟨b1,l1,a1,a2,a3,a4⟩:=S430 (E:=E) (h.lay [.cells (t.c.map .d)]) t.addr (by omega) bs.length
 obtain ⟨f1,f2,f3⟩:=a4.new h
 obtain ⟨b2,l2,c1,c2,c3,c4⟩:=S431 (E:=E) a3 (IntKind.wrap .u8 t.bits) (by simp [u32B]; omega) l1
 refine ⟨b2,min lo l2,?_,by omega,by simpa [cidrE] using c3,((Fx.lay h.len _).trans a4).trans c4⟩
 rw [Sm_ref t429 v429]
 simp [Bd_mk,q429,a1,f3,c1]
 exact byRef_w c2 h.len
def portE (n:Int):List Int:=uintB (IntKind.wrap .u64 n)
theorem S433 (n:Int) {p:Nat} {bs:List Blk} {l:List Int} (h:Wr bs p l) (hl:l.length + (portE n).length <= big):Puts E 215 [.ptr p 0,.d (i64 n)] p bs l (portE n):=by
 intro lo
 obtain ⟨b1,l1,a1,a2,a3,a4⟩:=S311 (E:=E) h (IntKind.wrap .u64 n) hl bs.length
 refine ⟨b1,min lo l1,?_,by omega,a3,a4⟩
 rw [Sm_ref t433 v433]
 simp [Bd_mk,q433,a1]
 exact byRef_w a2 h.len
theorem w463:TT 261 = some (wputQ 2 [(.d (.int .i64 0)),(.d (.str ⟨#[]⟩))]):=t463
theorem w428:TT 210 = some (wputQ 2 [(.d (.int .u32 0)),(.d (.int .i64 0))]):=t428
theorem w432:TT 214 = some wput1Q:=t432
theorem w364:TT 166 = some (wputQ 3 (sl0 3)):=t364
theorem w366:TT 168 = some (wputQ 4 (sl0 4)):=t366
theorem w368:TT 170 = some (wputQ 2 [(.d (.str ⟨#[]⟩)),(.d (.slice true []))]):=t368
theorem w313:TT 111 = some (wputQ 3 (sl0 3)):=t313
theorem S463 {s:Sl Term} (hs:short s) {p:Nat} {bs:List Blk} {l:List Int} (h:Wr bs p l) (hl:l.length + (seqB termE s.l).length <= big):Puts E 261 [.ptr p 0,.d (s.d Term.c),.fn 262 []] p bs l (seqB termE s.l) :=
 S_wput (z:=2) (cells:=Term.c) (fun _=>rfl) (by decide) rfl w463 v463 hs (fun e _ bs l h hl=>S464 e h hl) h hl
theorem S428 {s:Sl Cidr} (hs:short s) {p:Nat} {bs:List Blk} {l:List Int} (h:Wr bs p l) (hl:l.length + (seqB cidrE s.l).length <= big):Puts E 210 [.ptr p 0,.d (s.d Cidr.c),.fn 211 []] p bs l (seqB cidrE s.l) :=
 S_wput (z:=2) (cells:=Cidr.c) (fun _=>rfl) (by decide) rfl w428 v428 hs (fun e _ bs l h hl=>S429 e h hl) h hl
theorem S432 {s:Sl Int} (hs:short s) {p:Nat} {bs:List Blk} {l:List Int} (h:Wr bs p l) (hl:l.length + (seqB portE s.l).length <= big):Puts E 214 [.ptr p 0,.d (s.d intC),.fn 215 []] p bs l (seqB portE s.l) :=
 S_wput1 (cell:=fun n=>i64 n) w432 v432 hs (fun e _ bs l h hl=>S433 e h hl) h hl
def rowsE (ls:List (Sl Term)):List Int:=ls.flatMap fun s=>seqB termE s.l
theorem rows_loop {p:Nat} {xs:List (Sl Term)} (hxn:xs.length < 2 ^ 62) (hsh:∀ s ∈ xs,short s) {q:Nat} (hq:q ≠ p) {cap:Option Nat}:∀ (m i:Nat) (bs:List Blk) (lo:Nat) (l:List Int),i + m = xs.length -> Wr bs p l -> wrow bs p ≠ some q -> getB bs q = some (xs.map fun s=>V.d (s.d Term.c)) -> l.length + (rowsE (xs.drop i)).length <= big →
 ∃ bs' lo',Cd E TT valT (.loop [0,6,7,8] q427_b0) [(0,.ptr p 0),(6,.row q 0 xs.length cap 1),(7,.d (i64 xs.length)),(8,.d (i64 i))] ⟨bs,lo⟩ = some (.exit 0,[],⟨bs',lo'⟩) ∧
  (lo' = lo /\ xs.drop i = [] \/ lo' <= p) /\ Wr bs' p (l ++ rowsE (xs.drop i)) /\ Fx p bs bs':=by
 intro m
 have key:=Cd_round (E:=E) (T:=TT) (val:=valT) [0,6,7,8] q427_b0
 generalize Cd E TT valT (.loop [0,6,7,8] q427_b0) = W at key ⊢
 induction m with
 | zero =>
  intro i bs lo l hi hW h1 h2 hl
  have h0:xs.drop i = []:=List.drop_eq_nil_of_le (by omega)
  refine ⟨bs,lo,?_,.inl ⟨rfl,h0⟩,by simpa [h0,rowsE] using hW,Fx.refl _ _⟩
  rw [key]
  simp [q427_b0,show ¬ ((i:Int) < xs.length) from by omega]
 | succ m ih =>
  intro i bs lo l hi hW h1 h2 hl
  have hlt:i < xs.length:=by omega
  have hd:xs.drop i = xs[i] :: xs.drop (i + 1):=List.drop_eq_getElem_cons hlt
  have hix:=fun h=>ix_row (b:=q) (o:=0) (z:=1) (cap:=cap) (kd:=.i64) (h:=h) hlt
  simp only [Nat.mul_one,Nat.zero_add] at hix
  have hs:sub (xs.map fun s=>V.d (s.d Term.c)) i 1 = some [.d (xs[i].d Term.c)]:=by
   rw [sub_eq,if_pos (by simp; omega),List.drop_eq_getElem_cons (by simpa using hlt)]; simp
  have hx:=hsh _ (List.getElem_mem hlt)
  rw [hd] at hl ⊢
  simp only [rowsE,List.flatMap_cons,List.length_append] at hl
  generalize xs[i] = x at *
  obtain ⟨b1,l1,a1,a2,a3,a4⟩:=S463 (E:=E) hx hW (by omega) lo
  obtain ⟨f1,f2⟩:=a4.2 q _ hq h1 h2
  obtain ⟨bs',lo',q1,q2,q3,q4⟩:=ih (i + 1) b1 l1 (l ++ seqB termE x.l) (by omega) a3 f2 f1 (by rw [List.length_append,rowsE]; omega)
  have hw:=int_next hlt hxn
  refine ⟨bs',lo',?_,.inr ?_,by simpa [rowsE] using q3,a4.trans q4⟩
  · have hld:ldv ⟨bs,lo⟩ (.ptr q i) 1 true = some (.d (x.d Term.c),⟨bs,lo⟩):=by
     rw [ldv_ptr,get_eq]
     show (match (match getB bs q with | some cs=>sub cs i 1 | none=>none) with | some cs=>_ | none=>none) = _
     rw [h2]; simp only [hs]; rfl
    rw [key]
    simp [q427_b0,hix,hld,a1,hw,hlt,show ((i:Int) < xs.length) from by omega,-ldv_ptr]
    simpa using q1
  · rcases q2 with ⟨rfl,_⟩ | q2
    · exact a2
    · exact q2
theorem S427 {p:Nat} {bs:List Blk} {l:List Int} (h:Wr bs p l) {xs:List (Sl Term)} (hne:xs ≠ []) (hn:xs.length < 2 ^ 62) (hsh:∀ s ∈ xs,short s) {q:Nat} (hq:q ≠ p) {cap:Option Nat} {n:Nat} (hnn:n = xs.length) (h1:wrow bs p ≠ some q) (h2:getB bs q = some (xs.map fun s=>V.d (s.d Term.c))) (hl:l.length + (rowsE xs).length <= big):Puts E 209 [.ptr p 0,.row q 0 n cap 1] p bs l (rowsE xs):=by
 intro lo
 subst hnn
 obtain ⟨bs',lo',k1,k2,k3,k4⟩:=rows_loop (E:=E) hn hsh hq (cap:=cap) xs.length 0 bs bs.length l (by omega) h h1 h2 (by simpa using hl)
 have hle:lo' <= p:=by
  rcases k2 with ⟨_,hx⟩ | k2
  · exact absurd (by simpa using hx) hne
  · exact k2
 refine ⟨bs',min lo lo',?_,by omega,by simpa using k3,k4⟩
 rw [Sm_ref t427 v427]
 simp [Bd_mk,q427]
 rw [Cd_keep]
 simp at k1
 simp [k1]
 exact byRef_w hle h.len
def sourceE (s:Source):List Int:=rowsE [s.names,s.spaces] ++ seqB cidrE s.nets.l
theorem S365 (t:Source) (ht:t.fits big) {p:Nat} {bs:List Blk} {l:List Int} (h:Wr bs p l) (hl:l.length + (sourceE t).length <= big):Puts E 167 [.ptr p 0,ag t.c] p bs l (sourceE t):=by
 intro lo
 simp only [sourceE,List.length_append] at hl
 have hW2:=h.lay [.cells (t.c.map .d),.cells [.d (t.names.d Term.c),.d (t.spaces.d Term.c)]]
 have hfr:bs.length + 1 ≠ p /\ wrow (bs ++ [.cells (t.c.map .d),.cells [.d (t.names.d Term.c),.d (t.spaces.d Term.c)]]) p ≠ some (bs.length + 1):=by
  have:=h.len
  refine ⟨by omega,?_⟩
  rw [wrow_lay this]
  intro hh
  have:=h.row_lt hh
  omega
 obtain ⟨b1,l1,a1,a2,a3,a4⟩:=S427 (E:=E) hW2 (xs:=[t.names,t.spaces]) (by simp) (by simp) (by
  intro s hs
  simp only [List.mem_cons,List.not_mem_nil,or_false] at hs
  rcases hs with rfl | rfl
  · exact ht.1
  · exact ht.2.1) (q:=bs.length + 1) hfr.1 (cap:=some 2) (n:=2) rfl hfr.2 (by simp) (by omega) bs.length
 obtain ⟨f1,f2,f3⟩:=a4.new h
 obtain ⟨b2,l2,c1,c2,c3,c4⟩:=S428 (E:=E) ht.2.2 a3 (by rw [List.length_append]; omega) l1
 refine ⟨b2,min lo l2,?_,by omega,by simpa [sourceE] using c3,((Fx.lay h.len _).trans a4).trans c4⟩
 rw [Sm_ref t365 v365]
 simp [Bd_mk,q365,fillsE,a1,f3,c1]
 exact byRef_w c2 h.len
def targetE (t:Target):List Int:=seqB portE t.ports.l ++ rowsE [t.methods,t.paths,t.hosts]
theorem S367 (t:Target) (ht:t.fits big) {p:Nat} {bs:List Blk} {l:List Int} (h:Wr bs p l) (hl:l.length + (targetE t).length <= big):Puts E 169 [.ptr p 0,ag t.c] p bs l (targetE t):=by
 intro lo
 simp only [targetE,List.length_append] at hl
 obtain ⟨b1,l1,a1,a2,a3,a4⟩:=S432 (E:=E) ht.1 (h.lay [.cells (t.c.map .d)]) (by omega) bs.length
 obtain ⟨f1,f2,f3⟩:=a4.new h
 have hfr:=a3.fresh [.cells [.d (t.methods.d Term.c),.d (t.paths.d Term.c),.d (t.hosts.d Term.c)]]
 obtain ⟨b2,l2,c1,c2,c3,c4⟩:=S427 (E:=E) (a3.lay [.cells [.d (t.methods.d Term.c),.d (t.paths.d Term.c),.d (t.hosts.d Term.c)]]) (xs:=[t.methods,t.paths,t.hosts]) (by simp) (by simp) (by
  intro s hs
  simp only [List.mem_cons,List.not_mem_nil,or_false] at hs
  rcases hs with rfl | rfl | rfl
  · exact ht.2.1
  · exact ht.2.2.1
  · exact ht.2.2.2) (q:=b1.length) hfr.1 (cap:=some 3) (n:=3) rfl hfr.2 (by simp) (by rw [List.length_append]; omega) l1
 refine ⟨b2,min lo l2,?_,by omega,by simpa [targetE] using c3,((Fx.lay h.len _).trans a4).trans ((Fx.lay a3.len _).trans c4)⟩
 rw [Sm_ref t367 v367]
 simp [Bd_mk,q367,fillsE,a1,f3,c1]
 exact byRef_w c2 h.len
def whenE (w:When):List Int:=textB w.head ++ rowsE [w.terms]
theorem S369 (t:When) (ht:t.fits big) {p:Nat} {bs:List Blk} {l:List Int} (h:Wr bs p l) (hl:l.length + (whenE t).length <= big):Puts E 171 [.ptr p 0,ag t.c] p bs l (whenE t):=by
 intro lo
 simp only [whenE,List.length_append] at hl
 obtain ⟨b1,l1,a1,a2,a3,a4⟩:=S214 (E:=E) (h.lay [.cells (t.c.map .d)]) t.head (by omega) bs.length
 obtain ⟨f1,f2,f3⟩:=a4.new h
 have hfr:=a3.fresh [.cells [.d (t.terms.d Term.c)]]
 obtain ⟨b2,l2,c1,c2,c3,c4⟩:=S427 (E:=E) (a3.lay [.cells [.d (t.terms.d Term.c)]]) (xs:=[t.terms]) (by simp) (by simp) (by
  intro s hs
  simp only [List.mem_cons,List.not_mem_nil,or_false] at hs
  subst hs
  exact ht) (q:=b1.length) hfr.1 (cap:=some 1) (n:=1) rfl hfr.2 (by simp) (by rw [List.length_append]; omega) l1
 refine ⟨b2,min lo l2,?_,by omega,by simpa [whenE] using c3,((Fx.lay h.len _).trans a4).trans ((Fx.lay a3.len _).trans c4)⟩
 rw [Sm_ref t369 v369]
 simp [Bd_mk,q369,fillsE,a1,f3,c1]
 exact byRef_w c2 h.len
def ruleE (r:Rule):List Int:=seqB sourceE r.frm.l ++ (seqB targetE r.to.l ++ seqB whenE r.whn.l)
theorem S314 (t:Rule) (ht:t.fits big) {p:Nat} {bs:List Blk} {l:List Int} (h:Wr bs p l) (hl:l.length + (ruleE t).length <= big):Puts E 112 [.ptr p 0,ag t.c] p bs l (ruleE t):=by
 intro lo
 simp only [ruleE,List.length_append] at hl
 obtain ⟨b1,l1,a1,a2,a3,a4⟩:=S_wput (E:=E) (cells:=Source.c) (zero:=sl0 3) (fun _=>rfl) (by decide) rfl w364 v364 (enc:=sourceE) (f:=167) ht.1.1 (fun e he bs l h hl=>S365 e (ht.1.2 e he) h hl) (h.lay [.cells (t.c.map .d)]) (by omega) bs.length
 obtain ⟨f1,f2,f3⟩:=a4.new h
 obtain ⟨b2,l2,c1,c2,c3,c4⟩:=S_wput (E:=E) (cells:=Target.c) (zero:=sl0 4) (fun _=>rfl) (by decide) rfl w366 v366 (enc:=targetE) (f:=169) ht.2.1.1 (fun e he bs l h hl=>S367 e (ht.2.1.2 e he) h hl) a3 (by rw [List.length_append]; omega) l1
 obtain ⟨g1,g2⟩:=c4.2 _ _ f1 f2 f3
 obtain ⟨b3,l3,d1,d2,d3,d4⟩:=S_wput (E:=E) (cells:=When.c) (zero:=[(.d (.str ⟨#[]⟩)),(.d (.slice true []))]) (fun _=>rfl) (by decide) rfl w368 v368 (enc:=whenE) (f:=171) ht.2.2.1 (fun e he bs l h hl=>S369 e (ht.2.2.2 e he) h hl) c3 (by rw [List.length_append,List.length_append]; omega) l2
 refine ⟨b3,min lo l3,?_,by omega,by simpa [ruleE] using d3,(((Fx.lay h.len _).trans a4).trans c4).trans d4⟩
 rw [Sm_ref t314 v314]
 simp [Bd_mk,q314,a1,f3,c1,g1,d1]
 exact byRef_w d2 h.len
end Go.Proofs.YthkeklemhcfbcaaGreat
namespace Go.Proofs.YthkeklemhcfbcaaGreat
variable {E:Calls'}
theorem flatMap_le {α:Type} {f:α -> List Int} {K:Nat}:∀ {l:List α},(∀ x ∈ l,(f x).length <= K) -> (l.flatMap f).length <= l.length * K
 | [],_=>by simp
 | x :: l,h=>by
  have h1:=h x (by simp)
  have h2:=flatMap_le (l:=l) fun y hy=>h y (List.mem_cons_of_mem _ hy)
  rw [flat_len_cons,List.length_cons,Nat.add_mul,Nat.one_mul]
  omega
theorem seqB_le {α:Type} {f:α -> List Int} {K n:Nat} {l:List α} (hn:l.length <= n) (h:∀ x ∈ l,(f x).length <= K):(seqB f l).length <= 10 + n * K:=by
 have h1:=flatMap_le h
 have h2:=uintB_len l.length
 have h3:l.length * K <= n * K:=Nat.mul_le_mul_right K hn
 simp only [seqB,List.length_append]
 omega
theorem eqS_nil {s:ByteArray} (h:eqS s ⟨#[]⟩ = true):s.size = 0:=by
 unfold eqS at h
 have h1:s.toList = (⟨#[]⟩:ByteArray).toList:=eq_of_beq h
 have h2:=str_len s
 rw [h1,bytes_toList] at h2
 exact h2.symm
theorem termE_le {t:Term} (h:termMay t = true):(termE t).length <= 75:=by
 have h1:=textB_len t.text
 have h2:t.text.size <= 64:=by
  simp only [termMay,Bool.and_eq_true] at h
  obtain ⟨_,h⟩:=h
  split at h
  · have:=eqS_nil h; omega
  · simp only [Bool.and_eq_true,decide_eq_true_eq] at h
    omega
 simp only [termE,List.length_cons]
 omega
theorem terms_le {s:Sl Term} (h:termsMay s = true):(seqB termE s.l).length <= 460:=by
 simp only [termsMay,Bool.and_eq_true,decide_eq_true_eq,List.all_eq_true] at h
 exact seqB_le (n:=6) (K:=75) (by omega) fun x hx=>termE_le (h.2 x hx)
theorem rows_le {ls:List (Sl Term)} {n:Nat} (hn:ls.length <= n) (h:ls.all termsMay = true):(rowsE ls).length <= n * 460:=by
 have h1:=flatMap_le (f:=fun s:Sl Term=>seqB termE s.l) (K:=460) (l:=ls) fun x hx=>terms_le (List.all_eq_true.1 h x hx)
 have h3:ls.length * 460 <= n * 460:=Nat.mul_le_mul_right _ hn
 simp only [rowsE]
 omega
theorem sourceE_le {s:Source} (h:sourceMay s = true):(sourceE s).length <= 960:=by
 have h0:([s.names,s.spaces].all termsMay && netsMay s.nets) = true:=h
 rw [Bool.and_eq_true] at h0
 have h1:=rows_le (n:=2) (by simp) h0.1
 have h2:=h0.2
 simp only [netsMay,Bool.and_eq_true,decide_eq_true_eq] at h2
 have h3:=seqB_le (n:=6) (K:=5) (f:=cidrE) (l:=s.nets.l) (by omega) fun x _=>Nat.le_refl 5
 simp only [sourceE,List.length_append]
 omega
theorem targetE_le {s:Target} (h:targetMay s = true):(targetE s).length <= 1450:=by
 have h0:(([s.methods,s.paths,s.hosts].all termsMay) && (decide ((s.ports.l.length:Int) <= 6) && s.ports.l.all portMay) && ((cmpN (sortZ s.ports.l):Int) == (s.ports.l.length:Int))) = true:=h
 simp only [Bool.and_eq_true,decide_eq_true_eq] at h0
 have h1:=rows_le (ls:=[s.methods,s.paths,s.hosts]) (n:=3) (by simp) h0.1.1
 have h3:=seqB_le (n:=6) (K:=10) (f:=portE) (l:=s.ports.l) (by omega) fun x _=>uintB_len _
 simp only [targetE,List.length_append]
 omega
theorem whenE_le {s:When} (h:whenMay s = true):(whenE s).length <= 534:=by
 have h0:(headMay s.head && [s.terms].all termsMay && decide ((s.terms.l.length:Int) > 0)) = true:=h
 simp only [Bool.and_eq_true,decide_eq_true_eq] at h0
 have h1:=rows_le (ls:=[s.terms]) (n:=1) (by simp) h0.1.2
 have h2:=textB_len s.head
 have h3:=h0.1.1
 simp only [headMay,Bool.and_eq_true,decide_eq_true_eq] at h3
 simp only [whenE,List.length_append]
 omega
theorem ruleE_le {s:Rule} (h:ruleMay s = true):(ruleE s).length <= 8862:=by
 simp only [ruleMay,Bool.and_eq_true,decide_eq_true_eq,List.all_eq_true] at h
 have h1:=seqB_le (n:=3) (K:=960) (f:=sourceE) (l:=s.frm.l) (by omega) fun x hx=>sourceE_le (h.1.1.2 x hx)
 have h2:=seqB_le (n:=3) (K:=1450) (f:=targetE) (l:=s.to.l) (by omega) fun x hx=>targetE_le (h.1.2.2 x hx)
 have h3:=seqB_le (n:=3) (K:=534) (f:=whenE) (l:=s.whn.l) (by omega) fun x hx=>whenE_le (h.2.2 x hx)
 simp only [ruleE,List.length_append]
 omega
def polE (p:Pol):List Int:=uintB p.id ++ (textB p.ns ++ ([p.service,IntKind.wrap .u64 p.deny].flatMap uintB ++ seqB ruleE p.rules.l))
theorem label_le {s:ByteArray} (h:labelMay s = true):s.size <= 20:=by
 simp only [labelMay,Bool.and_eq_true,decide_eq_true_eq] at h
 omega
theorem polE_le {p:Pol} (h:polMay p = true):(polE p).length <= 53300:=by
 simp only [polMay,Bool.and_eq_true,decide_eq_true_eq,Bool.or_eq_true,List.all_eq_true] at h
 have h1:=seqB_le (n:=6) (K:=8862) (f:=ruleE) (l:=p.rules.l) (by omega) fun x hx=>ruleE_le (h.2.2 x hx)
 have h2:=textB_len p.ns
 have h3:p.ns.size <= 20:=by
  rcases h.1.1.1.2 with hh | hh
  · have:=eqS_nil hh; omega
  · exact label_le hh
 have h4:=uintB_len p.id
 have h5:=uintB_len p.service
 have h6:=uintB_len (IntKind.wrap .u64 p.deny)
 simp only [polE,List.length_append,List.flatMap_cons,List.flatMap_nil,List.length_nil]
 omega
def bytesD (l:List Int):D:=.slice false (l.map fun n=>[.int .u8 n])
theorem uintB_ne (x:Int):uintB x ≠ []:=by
 intro h
 have:=congrArg List.length h
 rw [uintB,uintG_len] at this
 simp at this
theorem dataV_bytes {h:Hp} {k b:Nat} {l:List Int} {cap:Option Nat} (hb:getB h.bs b = some (l.map (iv .u8))):dataV h (k + 1) (.row b 0 l.length cap 1) = some (bytesD l):=by
 have hf:∀ l:List Int,flat (l.map fun n=>[D.int .u8 n]) = l.map (iv .u8):=by
  intro l
  simp only [flat]
  induction l with
  | nil=>rfl
  | cons x l ih=>simp only [List.map_cons,List.flatten_cons,List.map_append,ih]; rfl
 exact dataV_row (z:=1) (es:=l.map fun n=>[D.int .u8 n]) (rest:=[]) (by simp) (by simp) (by rw [hf,List.append_nil]; exact hb)
section
variable (h385:∀ t:Target,t.wf big -> ∀ h,E 163 [ag t.c] h = some (bl (targetMay t),h))
include h385
theorem S215 (p:Pol) (hp:p.wf big) (h:Hp):Sm E TT valT 66 [ag p.c] h = some (.tup (if polMay p then [.d (bytesD (polE p)),.d (i64 0)] else [.d (.slice true []),.d (i64 1)]),h):=by
 have n1:=fun h=>S263 h385 p hp h
 rw [Sm_v t215 v215]
 cases hm:polMay p with
 | false =>
  simp only [hm] at n1
  simp [Bd_mk,q215,n1]
 | true =>
  simp only [hm] at n1
  have hlen:=polE_le hm
  have hbig:big = 2 ^ 30:=rfl
  simp only [polE,List.length_append] at hlen
  obtain ⟨lo0,m1⟩:=S212 (E:=E) [.cells (p.c.map .d)] 0
  have hW:=wr_new [.cells (p.c.map .d)]
  have hW1:wrow ([.cells (p.c.map .d)] ++ [.cells [.d (.slice true [])]]) 1 ≠ some 0:=by simp [wrow]
  obtain ⟨b1,l1,a1,a2,a3,a4⟩:=S311 (E:=E) hW p.id (by simp; omega) lo0
  obtain ⟨f1,f2⟩:=a4.2 0 (p.c.map .d) (by simp) hW1 (by simp)
  obtain ⟨b2,l2,c1,c2,c3,c4⟩:=S214 (E:=E) a3 p.ns (by simp; omega) l1
  obtain ⟨g1,g2⟩:=c4.2 _ _ (by simp) f2 f1
  have hfr:=c3.fresh [.cells [.d (u64 p.service),.d (u64 (IntKind.wrap .u64 p.deny))]]
  obtain ⟨b3,l3,d1,d2,d3,d4⟩:=S213 (E:=E) (c3.lay [.cells [.d (u64 p.service),.d (u64 (IntKind.wrap .u64 p.deny))]]) (xs:=[p.service,IntKind.wrap .u64 p.deny]) (by simp) (by simp) (q:=b2.length) hfr.1 (cap:=some 2) hfr.2 (by simp) (by simp only [List.length_append,List.length_nil]; omega) l2
  obtain ⟨k1,k2⟩:=((Fx.lay c3.len _).trans d4).2 _ _ (by simp) g2 g1
  obtain ⟨b4,l4,e1,e2,e3,e4⟩:=S_wput (E:=E) (cells:=Rule.c) (zero:=sl0 3) (fun _=>rfl) (by decide) rfl w313 v313 (enc:=ruleE) (f:=112) hp.2.2.2.2.1 (fun e he bs l h hl=>S314 e ((hp.2.2.2.2.2 e he).fits) h hl) d3 (by simp only [List.length_append,List.length_nil]; omega) l3
  have hfin:[] ++ uintB p.id ++ textB p.ns ++ [p.service,IntKind.wrap .u64 p.deny].flatMap uintB ++ seqB ruleE p.rules.l = polE p:=by simp [polE]
  rw [hfin] at e3
  obtain ⟨l5,r1⟩:=S216 (E:=E) e3 (by have:=polE_le hm; omega) (by simp [polE,uintB_ne]) l4
  have hfz:=dataV_bytes (h:=⟨b4 ++ [.cells ((polE p).map (iv .u8))],l5⟩) (k:=7) (b:=b4.length) (l:=polE p) (cap:=none) (by simp)
  simp at a1 c1 d1 e1 r1 m1 f1 g1 k1
  simp [Bd_mk,q215,n1,m1,a1,f1,c1,g1,fillsE,d1,k1,e1,r1]
  simp [frz,frz1,hfz]
end
end Go.Proofs.YthkeklemhcfbcaaGreat
namespace Go.Proofs.YthkeklemhcfbcaaGreat
variable {E:Calls'}
def podE (p:Pod):List Int:=[p.uid].flatMap uintB ++ (textB p.ns ++ (textB p.sa ++ [IntKind.wrap .u64 p.host,IntKind.wrap .u64 p.addr,IntKind.wrap .u64 p.port,p.service].flatMap uintB))
def svcE (s:Svc):List Int:=[s.id].flatMap uintB ++ (textB s.ns ++ [IntKind.wrap .u64 s.addr,IntKind.wrap .u64 s.port,s.way].flatMap uintB)
def wayE (w:Way):List Int:=[w.id,IntKind.wrap .u64 w.node].flatMap uintB
def strOf (l:List Int):ByteArray:=⟨(l.map fun n=>UInt8.ofNat n.toNat).toArray⟩
def polTE (p:Pol):List Int:=textB (strOf (polE p))
theorem Wr.fresh1 {p:Nat} {bs:List Blk} {l:List Int} (h:Wr bs p l) (a:Blk) (ys:List Blk):bs.length + 1 ≠ p /\ wrow (bs ++ (a :: ys)) p ≠ some (bs.length + 1):=by
 have hp:=h.len
 refine ⟨by omega,?_⟩
 rw [wrow_lay hp]
 intro hh
 have:=h.row_lt hh
 omega
theorem pods_loop (c:Cfg) (hs:c.pods.l.length < 2 ^ 62) {p:Nat}:∀ (m i:Nat) (bs:List Blk) (lo:Nat) (l:List Int),i + m = c.pods.l.length -> Wr bs p l -> l.length + ((c.pods.l.drop i).flatMap podE).length <= big →
 ∃ bs' lo',Cd E TT valT (.loop [1,3,33,34,35] q94_b0) [(1,.ptr 0 0),(3,.ptr p 0),(33,.d (c.pods.d Pod.c)),(34,.d (i64 c.pods.l.length)),(35,.d (i64 i))] ⟨bs,lo⟩ = some (.exit 0,[(1,.ptr 0 0),(3,.ptr p 0)],⟨bs',lo'⟩) ∧
  (lo <= p -> lo' <= p) /\ Wr bs' p (l ++ (c.pods.l.drop i).flatMap podE) /\ Fx p bs bs':=by
 intro m
 have key:=Cd_round (E:=E) (T:=TT) (val:=valT) [1,3,33,34,35] q94_b0
 generalize Cd E TT valT (.loop [1,3,33,34,35] q94_b0) = W at key ⊢
 induction m with
 | zero =>
  intro i bs lo l hi hW hl
  have h0:c.pods.l.drop i = []:=List.drop_eq_nil_of_le (by omega)
  refine ⟨bs,lo,?_,id,by simpa [h0] using hW,Fx.refl _ _⟩
  rw [key]
  simp [q94_b0,show ¬ ((i:Int) < c.pods.l.length) from by omega]
 | succ m ih =>
  intro i bs lo l hi hW hl
  have hlt:i < c.pods.l.length:=by omega
  have hx:=fun h=>idxv_sl (z:=7) h (List.getElem?_eq_getElem hlt) (cells:=Pod.c) rfl
  rw [List.drop_eq_getElem_cons hlt] at hl ⊢
  rw [flat_len_cons] at hl
  generalize c.pods.l[i] = e at *
  have hl2:(podE e).length = ([e.uid].flatMap uintB).length + ((textB e.ns).length + ((textB e.sa).length + ([IntKind.wrap .u64 e.host,IntKind.wrap .u64 e.addr,IntKind.wrap .u64 e.port,e.service].flatMap uintB).length)):=by simp only [podE,List.length_append]
  have u1:=hW.fresh1 (.cells (e.c.map .d)) [.cells [.d (u64 e.uid)]]
  obtain ⟨b1,l1,a1,a2,a3,a4⟩:=S213 (E:=E) (hW.lay (.cells (e.c.map .d) :: [.cells [.d (u64 e.uid)]])) (xs:=[e.uid]) (by simp) (by simp) (q:=bs.length + 1) u1.1 (cap:=some 1) u1.2 (by simp) (by omega) (min lo bs.length)
  obtain ⟨f1,f2,f3⟩:=a4.new hW
  obtain ⟨b2,l2,c1,c2,c3,c4⟩:=S214 (E:=E) a3 e.ns (by simp only [List.length_append]; omega) l1
  obtain ⟨g1,g2⟩:=c4.2 _ _ f1 f2 f3
  obtain ⟨b3,l3,d1,d2,d3,d4⟩:=S214 (E:=E) c3 e.sa (by simp only [List.length_append]; omega) l2
  obtain ⟨k1,k2⟩:=d4.2 _ _ f1 g2 g1
  have u2:=d3.fresh [.cells [.d (u64 (IntKind.wrap .u64 e.host)),.d (u64 (IntKind.wrap .u64 e.addr)),.d (u64 (IntKind.wrap .u64 e.port)),.d (u64 e.service)]]
  obtain ⟨b4,l4,e1,e2,e3,e4⟩:=S213 (E:=E) (d3.lay [.cells [.d (u64 (IntKind.wrap .u64 e.host)),.d (u64 (IntKind.wrap .u64 e.addr)),.d (u64 (IntKind.wrap .u64 e.port)),.d (u64 e.service)]]) (xs:=[IntKind.wrap .u64 e.host,IntKind.wrap .u64 e.addr,IntKind.wrap .u64 e.port,e.service]) (by simp) (by simp) (q:=b3.length) u2.1 (cap:=some 4) u2.2 (by simp) (by simp only [List.length_append]; omega) l3
  have e3':Wr b4 p (l ++ podE e):=by simpa only [podE,List.append_assoc] using e3
  obtain ⟨bs',lo',q1,q2,q3,q4⟩:=ih (i + 1) b4 l4 (l ++ podE e) (by omega) e3' (by rw [List.length_append]; omega)
  have hw:=int_next hlt hs
  refine ⟨bs',lo',?_,fun _=>q2 e2,by simpa using q3,(((((Fx.lay hW.len _).trans a4).trans c4).trans d4).trans ((Fx.lay d3.len _).trans e4)).trans q4⟩
  simp at a1 c1 d1 e1
  rw [key]
  simp [q94_b0,hx,fillsE,a1,f3,c1,g1,d1,k1,e1,hw,show ((i:Int) < c.pods.l.length) from by omega]
  simpa using q1
theorem svcs_loop (c:Cfg) (hs:c.services.l.length < 2 ^ 62) {p:Nat}:∀ (m i:Nat) (bs:List Blk) (lo:Nat) (l:List Int),i + m = c.services.l.length -> Wr bs p l -> l.length + ((c.services.l.drop i).flatMap svcE).length <= big →
 ∃ bs' lo',Cd E TT valT (.loop [1,3,77,78,79] q94_b1) [(1,.ptr 0 0),(3,.ptr p 0),(77,.d (c.services.d Svc.c)),(78,.d (i64 c.services.l.length)),(79,.d (i64 i))] ⟨bs,lo⟩ = some (.exit 2,[(1,.ptr 0 0),(3,.ptr p 0)],⟨bs',lo'⟩) ∧
  (lo <= p -> lo' <= p) /\ Wr bs' p (l ++ (c.services.l.drop i).flatMap svcE) /\ Fx p bs bs':=by
 intro m
 have key:=Cd_round (E:=E) (T:=TT) (val:=valT) [1,3,77,78,79] q94_b1
 generalize Cd E TT valT (.loop [1,3,77,78,79] q94_b1) = W at key ⊢
 induction m with
 | zero =>
  intro i bs lo l hi hW hl
  have h0:c.services.l.drop i = []:=List.drop_eq_nil_of_le (by omega)
  refine ⟨bs,lo,?_,id,by simpa [h0] using hW,Fx.refl _ _⟩
  rw [key]
  simp [q94_b1,show ¬ ((i:Int) < c.services.l.length) from by omega]
 | succ m ih =>
  intro i bs lo l hi hW hl
  have hlt:i < c.services.l.length:=by omega
  have hx:=fun h=>idxv_sl (z:=5) h (List.getElem?_eq_getElem hlt) (cells:=Svc.c) rfl
  rw [List.drop_eq_getElem_cons hlt] at hl ⊢
  rw [flat_len_cons] at hl
  generalize c.services.l[i] = e at *
  have hl2:(svcE e).length = ([e.id].flatMap uintB).length + ((textB e.ns).length + ([IntKind.wrap .u64 e.addr,IntKind.wrap .u64 e.port,e.way].flatMap uintB).length):=by simp only [svcE,List.length_append]
  have u1:=hW.fresh1 (.cells (e.c.map .d)) [.cells [.d (u64 e.id)]]
  obtain ⟨b1,l1,a1,a2,a3,a4⟩:=S213 (E:=E) (hW.lay (.cells (e.c.map .d) :: [.cells [.d (u64 e.id)]])) (xs:=[e.id]) (by simp) (by simp) (q:=bs.length + 1) u1.1 (cap:=some 1) u1.2 (by simp) (by omega) (min lo bs.length)
  obtain ⟨f1,f2,f3⟩:=a4.new hW
  obtain ⟨b2,l2,c1,c2,c3,c4⟩:=S214 (E:=E) a3 e.ns (by simp only [List.length_append]; omega) l1
  obtain ⟨g1,g2⟩:=c4.2 _ _ f1 f2 f3
  have u2:=c3.fresh [.cells [.d (u64 (IntKind.wrap .u64 e.addr)),.d (u64 (IntKind.wrap .u64 e.port)),.d (u64 e.way)]]
  obtain ⟨b4,l4,e1,e2,e3,e4⟩:=S213 (E:=E) (c3.lay [.cells [.d (u64 (IntKind.wrap .u64 e.addr)),.d (u64 (IntKind.wrap .u64 e.port)),.d (u64 e.way)]]) (xs:=[IntKind.wrap .u64 e.addr,IntKind.wrap .u64 e.port,e.way]) (by simp) (by simp) (q:=b2.length) u2.1 (cap:=some 3) u2.2 (by simp) (by simp only [List.length_append]; omega) l2
  have e3':Wr b4 p (l ++ svcE e):=by simpa only [svcE,List.append_assoc] using e3
  obtain ⟨bs',lo',q1,q2,q3,q4⟩:=ih (i + 1) b4 l4 (l ++ svcE e) (by omega) e3' (by rw [List.length_append]; omega)
  have hw:=int_next hlt hs
  refine ⟨bs',lo',?_,fun _=>q2 e2,by simpa using q3,((((Fx.lay hW.len _).trans a4).trans c4).trans ((Fx.lay c3.len _).trans e4)).trans q4⟩
  simp at a1 c1 e1
  rw [key]
  simp [q94_b1,hx,fillsE,a1,f3,c1,g1,e1,hw,show ((i:Int) < c.services.l.length) from by omega]
  simpa using q1
theorem ways_loop (c:Cfg) (hs:c.bound.l.length < 2 ^ 62) {p:Nat}:∀ (m i:Nat) (bs:List Blk) (lo:Nat) (l:List Int),i + m = c.bound.l.length -> Wr bs p l -> l.length + ((c.bound.l.drop i).flatMap wayE).length <= big →
 ∃ bs' lo',Cd E TT valT (.loop [1,3,112,113,114] q94_b2) [(1,.ptr 0 0),(3,.ptr p 0),(112,.d (c.bound.d Way.c)),(113,.d (i64 c.bound.l.length)),(114,.d (i64 i))] ⟨bs,lo⟩ = some (.exit 4,[(1,.ptr 0 0),(3,.ptr p 0)],⟨bs',lo'⟩) ∧
  (lo <= p -> lo' <= p) /\ Wr bs' p (l ++ (c.bound.l.drop i).flatMap wayE) /\ Fx p bs bs':=by
 intro m
 have key:=Cd_round (E:=E) (T:=TT) (val:=valT) [1,3,112,113,114] q94_b2
 generalize Cd E TT valT (.loop [1,3,112,113,114] q94_b2) = W at key ⊢
 induction m with
 | zero =>
  intro i bs lo l hi hW hl
  have h0:c.bound.l.drop i = []:=List.drop_eq_nil_of_le (by omega)
  refine ⟨bs,lo,?_,id,by simpa [h0] using hW,Fx.refl _ _⟩
  rw [key]
  simp [q94_b2,show ¬ ((i:Int) < c.bound.l.length) from by omega]
 | succ m ih =>
  intro i bs lo l hi hW hl
  have hlt:i < c.bound.l.length:=by omega
  have hx:=fun h=>idxv_sl (z:=2) h (List.getElem?_eq_getElem hlt) (cells:=Way.c) rfl
  rw [List.drop_eq_getElem_cons hlt] at hl ⊢
  rw [flat_len_cons] at hl
  generalize c.bound.l[i] = e at *
  have u1:=hW.fresh1 (.cells (e.c.map .d)) [.cells [.d (u64 e.id),.d (u64 (IntKind.wrap .u64 e.node))]]
  obtain ⟨b1,l1,a1,a2,a3,a4⟩:=S213 (E:=E) (hW.lay (.cells (e.c.map .d) :: [.cells [.d (u64 e.id),.d (u64 (IntKind.wrap .u64 e.node))]])) (xs:=[e.id,IntKind.wrap .u64 e.node]) (by simp) (by simp) (q:=bs.length + 1) u1.1 (cap:=some 2) u1.2 (by simp) (by have:(wayE e).length = ([e.id,IntKind.wrap .u64 e.node].flatMap uintB).length:=rfl; omega) (min lo bs.length)
  obtain ⟨bs',lo',q1,q2,q3,q4⟩:=ih (i + 1) b1 l1 (l ++ wayE e) (by omega) a3 (by rw [List.length_append]; omega)
  have hw:=int_next hlt hs
  refine ⟨bs',lo',?_,fun _=>q2 a2,by simpa using q3,((Fx.lay hW.len _).trans a4).trans q4⟩
  simp at a1
  rw [key]
  simp [q94_b2,hx,fillsE,a1,hw,show ((i:Int) < c.bound.l.length) from by omega]
  simpa using q1
def convBSv (x:V) (h:Hp):Option (V × Hp):=match x with
 | .d (.str _)=>none
 | v=>match rowCells h v 1 with
  | some (_,cs)=>match cs.mapM (fun v=>match v with | .d (.int .u8 n)=>some (UInt8.ofNat n.toNat) | _=>none) with
   | some l=>some (.d (.str ⟨l.toArray⟩),h)
   | none=>none
  | none=>none
@[simp] theorem opE_convBS {C:Calls'} {ev:X -> V} {h:Hp} {x:X}:opE C (.convBS x) ev h = convBSv (ev x) h:=(rfl)
theorem bytes_flat (l:List Int):(l.map fun n=>[D.int .u8 n]).flatten.map V.d = l.map (iv .u8):=by
 induction l with
 | nil=>rfl
 | cons x l ih=>simp only [List.map_cons,List.flatten_cons,List.map_append,ih]; rfl
theorem convBS_b {h:Hp} {l:List Int}:convBSv (.d (bytesD l)) h = some (.d (.str (strOf l)),h):=by
 have hall:((l.map fun n=>[D.int .u8 n]).all fun e=>e.length == 1) = true:=by simp
 have hm:(l.map (iv .u8)).mapM (fun v=>match v with | .d (.int .u8 n)=>some (UInt8.ofNat n.toNat) | _=>none) = some (l.map fun n=>UInt8.ofNat n.toNat):=by
  induction l with
  | nil=>rfl
  | cons x l ih =>
   simp only [List.map_cons,List.mapM_cons] at ih ⊢
   rw [ih (by simp)]
   rfl
 simp only [convBSv,bytesD,rowCells,hall,if_true,bytes_flat,hm]
 rfl
section
variable (h385:∀ t:Target,t.wf big -> ∀ h,E 163 [ag t.c] h = some (bl (targetMay t),h))
include h385
theorem pols_loop (c:Cfg) (hs:c.policies.l.length < 2 ^ 62) (hwf:∀ p ∈ c.policies.l,p.wf big /\ polMay p = true) {p:Nat}:∀ (m i:Nat) (bs:List Blk) (lo:Nat) (l:List Int),i + m = c.policies.l.length -> Wr bs p l -> l.length + ((c.policies.l.drop i).flatMap polTE).length <= big →
 ∃ bs' lo',Cd E TT valT (.loop [3,135,136,137] q94_b3) [(3,.ptr p 0),(135,.d (c.policies.d Pol.c)),(136,.d (i64 c.policies.l.length)),(137,.d (i64 i))] ⟨bs,lo⟩ = some (.exit 6,[(3,.ptr p 0)],⟨bs',lo'⟩) ∧
  (lo <= p -> lo' <= p) /\ Wr bs' p (l ++ (c.policies.l.drop i).flatMap polTE) /\ Fx p bs bs':=by
 intro m
 have key:=Cd_round (E:=E) (T:=TT) (val:=valT) [3,135,136,137] q94_b3
 generalize Cd E TT valT (.loop [3,135,136,137] q94_b3) = W at key ⊢
 induction m with
 | zero =>
  intro i bs lo l hi hW hl
  have h0:c.policies.l.drop i = []:=List.drop_eq_nil_of_le (by omega)
  refine ⟨bs,lo,?_,id,by simpa [h0] using hW,Fx.refl _ _⟩
  rw [key]
  simp [q94_b3,show ¬ ((i:Int) < c.policies.l.length) from by omega]
 | succ m ih =>
  intro i bs lo l hi hW hl
  have hlt:i < c.policies.l.length:=by omega
  have hx:=fun h=>idxv_sl (z:=5) h (List.getElem?_eq_getElem hlt) (cells:=Pol.c) rfl
  obtain ⟨hw1,hw2⟩:=hwf _ (List.getElem_mem hlt)
  rw [List.drop_eq_getElem_cons hlt] at hl ⊢
  rw [flat_len_cons] at hl
  generalize c.policies.l[i] = e at *
  have n1:=fun h=>S215 h385 e hw1 h
  simp only [hw2,if_true] at n1
  obtain ⟨b1,l1,a1,a2,a3,a4⟩:=S214 (E:=E) (hW.lay [.cells (e.c.map .d)]) (strOf (polE e)) (by have:(polTE e).length = (textB (strOf (polE e))).length:=rfl; omega) (min lo bs.length)
  obtain ⟨bs',lo',q1,q2,q3,q4⟩:=ih (i + 1) b1 l1 (l ++ polTE e) (by omega) a3 (by rw [List.length_append]; omega)
  have hw:=int_next hlt hs
  refine ⟨bs',lo',?_,fun _=>q2 a2,by simpa using q3,((Fx.lay hW.len _).trans a4).trans q4⟩
  rw [key]
  simp [q94_b3,hx,n1,convBS_b,a1,hw,show ((i:Int) < c.policies.l.length) from by omega]
  simpa using q1
end
end Go.Proofs.YthkeklemhcfbcaaGreat
namespace Go.Proofs.YthkeklemhcfbcaaGreat
variable {E:Calls'}
def bytesE (c:Cfg):List Int:=[c.epoch,c.next,IntKind.wrap .u64 c.hosts,IntKind.wrap .u64 c.ways,(c.pods.l.length:Int)].flatMap uintB ++ (c.pods.l.flatMap podE ++ ([(c.services.l.length:Int)].flatMap uintB ++ (c.services.l.flatMap svcE ++ ([(c.bound.l.length:Int)].flatMap uintB ++ (c.bound.l.flatMap wayE ++ ([(c.policies.l.length:Int)].flatMap uintB ++ c.policies.l.flatMap polTE))))))
theorem strOf_size (l:List Int):(strOf l).size = l.length:=by
 show ((l.map fun n=>UInt8.ofNat n.toNat).toArray).size = _
 simp
theorem podE_le {p:Pod} (h1:p.ns.size <= 20) (h2:p.sa.size <= 20):(podE p).length <= 110:=by
 have a1:=uintB_len p.uid
 have a2:=textB_len p.ns
 have a3:=textB_len p.sa
 have a4:=uintB_len (IntKind.wrap .u64 p.host)
 have a5:=uintB_len (IntKind.wrap .u64 p.addr)
 have a6:=uintB_len (IntKind.wrap .u64 p.port)
 have a7:=uintB_len p.service
 simp only [podE,List.length_append,List.flatMap_cons,List.flatMap_nil,List.length_nil]
 omega
theorem svcE_le {p:Svc} (h1:p.ns.size <= 20):(svcE p).length <= 70:=by
 have a1:=uintB_len p.id
 have a2:=textB_len p.ns
 have a5:=uintB_len (IntKind.wrap .u64 p.addr)
 have a6:=uintB_len (IntKind.wrap .u64 p.port)
 have a7:=uintB_len p.way
 simp only [svcE,List.length_append,List.flatMap_cons,List.flatMap_nil,List.length_nil]
 omega
theorem wayE_le {p:Way}:(wayE p).length <= 20:=by
 have a1:=uintB_len p.id
 have a5:=uintB_len (IntKind.wrap .u64 p.node)
 simp only [wayE,List.length_append,List.flatMap_cons,List.flatMap_nil,List.length_nil]
 omega
theorem polTE_le {p:Pol} (h:polMay p = true):(polTE p).length <= 53310:=by
 have a2:=textB_len (strOf (polE p))
 rw [strOf_size] at a2
 have:=polE_le h
 simp only [polTE]
 omega
theorem podsMay_ns {c:Cfg} (h:podsMay c = true):∀ p ∈ c.pods.l,p.ns.size <= 20 /\ p.sa.size <= 20:=by
 simp only [podsMay,Bool.and_eq_true,Bool.not_eq_true',List.any_eq_false] at h
 intro p hp
 have:=h.1 p hp
 simp only [podBad,podBad1,Bool.or_eq_true,not_or,Bool.not_eq_true',Bool.not_eq_false,Bool.and_eq_true] at this
 exact ⟨label_le this.1.2.2.1,label_le this.1.2.2.2⟩
theorem servicesMay_ns {c:Cfg} (h:servicesMay c = true):∀ p ∈ c.services.l,p.ns.size <= 20:=by
 simp only [servicesMay,Bool.and_eq_true,Bool.not_eq_true',List.any_eq_false] at h
 intro p hp
 have:=h.1 p hp
 simp only [svcBad,Bool.or_eq_true,not_or,Bool.not_eq_true',Bool.not_eq_false] at this
 exact label_le this.2.1
theorem policiesMay_pol {c:Cfg} (h:policiesMay c = true):∀ p ∈ c.policies.l,polMay p = true:=by
 simp only [policiesMay,Bool.and_eq_true,Bool.not_eq_true',List.any_eq_false] at h
 intro p hp
 have:=h.1 p hp
 simp only [polBad,Bool.or_eq_true,not_or,Bool.not_eq_true',Bool.not_eq_false] at this
 exact this.2.1
theorem bytesE_le {c:Cfg} (h1:smallT c = true) (h2:mayT c = true):(bytesE c).length <= 700000:=by
 simp only [smallT,Bool.and_eq_true,decide_eq_true_eq] at h1
 simp only [mayT,Bool.and_eq_true] at h2
 have b1:=flatMap_le (K:=110) (f:=podE) (l:=c.pods.l) fun p hp=>podE_le (podsMay_ns h2.1.1.1.1.2 p hp).1 (podsMay_ns h2.1.1.1.1.2 p hp).2
 have b2:=flatMap_le (K:=70) (f:=svcE) (l:=c.services.l) fun p hp=>svcE_le (servicesMay_ns h2.1.1.1.2 p hp)
 have b3:=flatMap_le (K:=20) (f:=wayE) (l:=c.bound.l) fun p hp=>wayE_le
 have b4:=flatMap_le (K:=53310) (f:=polTE) (l:=c.policies.l) fun p hp=>polTE_le (policiesMay_pol h2.2 p hp)
 have a1:=uintB_len c.epoch
 have a2:=uintB_len c.next
 have a3:=uintB_len (IntKind.wrap .u64 c.hosts)
 have a4:=uintB_len (IntKind.wrap .u64 c.ways)
 have a5:=uintB_len (c.pods.l.length:Int)
 have a6:=uintB_len (c.services.l.length:Int)
 have a7:=uintB_len (c.bound.l.length:Int)
 have a8:=uintB_len (c.policies.l.length:Int)
 simp only [bytesE,List.length_append,List.flatMap_cons,List.flatMap_nil,List.length_nil]
 omega
theorem wrapN {n:Nat} (h:n <= 2 ^ 30):IntKind.wrap .u64 (n:Int) = n:=by
 simp [IntKind.wrap,IntKind.bits,IntKind.signed]
 omega
section
variable (h385:∀ t:Target,t.wf big -> ∀ h,E 163 [ag t.c] h = some (bl (targetMay t),h))
include h385
theorem S94 (c:Cfg) (hc:c.wf big) (hpm:∀ p ∈ c.policies.l,polMay p = true) (hlen:(bytesE c).length <= big) (h:Hp):Sm E TT valT 31 [c.v] h = some (.d (bytesD (bytesE c)),h):=by
 have hok:c.ok:=hc.ok (Nat.le_refl _)
 have w1:=wrapN (n:=c.pods.l.length) hok.1.1
 have w2:=wrapN (n:=c.services.l.length) hok.2.1.1
 have w3:=wrapN (n:=c.bound.l.length) hok.2.2.1.1
 have w4:=wrapN (n:=c.policies.l.length) hok.2.2.2.1.1
 rw [Sm_v t94 v94]
 have hlen0:=hlen
 simp only [bytesE,List.length_append] at hlen
 obtain ⟨lo0,m1⟩:=S212 (E:=E) [.cells (c.c.map .d)] 0
 have hW:=wr_new [.cells (c.c.map .d)]
 have hW0:wrow ([.cells (c.c.map .d)] ++ [.cells [.d (.slice true [])]]) 1 ≠ some 0:=by simp [wrow]
 have u1:=hW.fresh [.cells [.d (u64 c.epoch),.d (u64 c.next),.d (u64 (IntKind.wrap .u64 c.hosts)),.d (u64 (IntKind.wrap .u64 c.ways)),.d (u64 c.pods.l.length)]]
 obtain ⟨b1,l1,a1,a2,a3,a4⟩:=S213 (E:=E) (hW.lay [.cells [.d (u64 c.epoch),.d (u64 c.next),.d (u64 (IntKind.wrap .u64 c.hosts)),.d (u64 (IntKind.wrap .u64 c.ways)),.d (u64 c.pods.l.length)]]) (xs:=[c.epoch,c.next,IntKind.wrap .u64 c.hosts,IntKind.wrap .u64 c.ways,(c.pods.l.length:Int)]) (by simp) (by simp) u1.1 (cap:=some 5) u1.2 (by simp) (by simp only [List.length_nil]; omega) lo0
 obtain ⟨f1,f2⟩:=((Fx.lay hW.len _).trans a4).2 0 (c.c.map .d) (by simp) hW0 (by simp)
 obtain ⟨b2,l2,c1,c2,c3,c4⟩:=pods_loop (E:=E) c hok.1.lt c.pods.l.length 0 b1 l1 _ (by omega) a3 (by simp only [List.length_append,List.drop_zero,List.length_nil]; omega)
 obtain ⟨g1,g2⟩:=c4.2 _ _ (by simp) f2 f1
 simp only [List.drop_zero] at c3
 have u2:=c3.fresh [.cells [.d (u64 c.services.l.length)]]
 obtain ⟨b3,l3,d1,d2,d3,d4⟩:=S213 (E:=E) (c3.lay [.cells [.d (u64 c.services.l.length)]]) (xs:=[(c.services.l.length:Int)]) (by simp) (by simp) u2.1 (cap:=some 1) u2.2 (by simp) (by simp only [List.length_append,List.length_nil]; omega) l2
 obtain ⟨g3,g4⟩:=((Fx.lay c3.len _).trans d4).2 _ _ (by simp) g2 g1
 obtain ⟨b4,l4,e1,e2,e3,e4⟩:=svcs_loop (E:=E) c hok.2.1.lt c.services.l.length 0 b3 l3 _ (by omega) d3 (by simp only [List.length_append,List.drop_zero,List.length_nil]; omega)
 obtain ⟨g5,g6⟩:=e4.2 _ _ (by simp) g4 g3
 simp only [List.drop_zero] at e3
 have u3:=e3.fresh [.cells [.d (u64 c.bound.l.length)]]
 obtain ⟨b5,l5,i1,i2,i3,i4⟩:=S213 (E:=E) (e3.lay [.cells [.d (u64 c.bound.l.length)]]) (xs:=[(c.bound.l.length:Int)]) (by simp) (by simp) u3.1 (cap:=some 1) u3.2 (by simp) (by simp only [List.length_append,List.length_nil]; omega) l4
 obtain ⟨g7,g8⟩:=((Fx.lay e3.len _).trans i4).2 _ _ (by simp) g6 g5
 obtain ⟨b6,l6,j1,j2,j3,j4⟩:=ways_loop (E:=E) c hok.2.2.1.lt c.bound.l.length 0 b5 l5 _ (by omega) i3 (by simp only [List.length_append,List.drop_zero,List.length_nil]; omega)
 obtain ⟨g9,g10⟩:=j4.2 _ _ (by simp) g8 g7
 simp only [List.drop_zero] at j3
 have u4:=j3.fresh [.cells [.d (u64 c.policies.l.length)]]
 obtain ⟨b7,l7,k1,k2,k3,k4⟩:=S213 (E:=E) (j3.lay [.cells [.d (u64 c.policies.l.length)]]) (xs:=[(c.policies.l.length:Int)]) (by simp) (by simp) u4.1 (cap:=some 1) u4.2 (by simp) (by simp only [List.length_append,List.length_nil]; omega) l6
 obtain ⟨g11,g12⟩:=((Fx.lay j3.len _).trans k4).2 _ _ (by simp) g10 g9
 obtain ⟨b8,l8,n1,n2,n3,n4⟩:=pols_loop h385 c hok.2.2.2.1.lt (fun p hp=>⟨hc.2.2.2.2.2.2.2.2 p hp,hpm p hp⟩) c.policies.l.length 0 b7 l7 _ (by omega) k3 (by simp only [List.length_append,List.drop_zero,List.length_nil]; omega)
 simp only [List.drop_zero] at n3
 have hfin:([] ++ [c.epoch,c.next,IntKind.wrap .u64 c.hosts,IntKind.wrap .u64 c.ways,(c.pods.l.length:Int)].flatMap uintB ++ c.pods.l.flatMap podE ++ [(c.services.l.length:Int)].flatMap uintB ++ c.services.l.flatMap svcE ++ [(c.bound.l.length:Int)].flatMap uintB ++ c.bound.l.flatMap wayE ++ [(c.policies.l.length:Int)].flatMap uintB ++ c.policies.l.flatMap polTE) = bytesE c:=by simp only [bytesE,List.nil_append,List.append_assoc]
 rw [hfin] at n3
 have hne:bytesE c ≠ []:=by
  simp [bytesE,uintB_ne]
 generalize bytesE c = L at *
 obtain ⟨l9,r1⟩:=S216 (E:=E) n3 hlen0 hne l8
 have hfz:=dataV_bytes (h:=⟨b8 ++ [.cells (L.map (iv .u8))],l9⟩) (k:=7) (b:=b8.length) (l:=L) (cap:=none) (by simp)
 simp at a1 m1 c1 d1 e1 i1 j1 k1 n1 r1 f1 g1 g3 g5 g7 g9
 simp [Bd_mk,q94,m1,fillsE,w1,a1,f1]
 rw [Cd_keep]
 simp [c1,g1,w2,fillsE,d1,g3]
 rw [Cd_keep]
 simp [e1,g5,w3,fillsE,i1,g7]
 rw [Cd_keep]
 simp [j1,g9,w4,fillsE,k1,g11]
 rw [Cd_keep]
 simp [n1,r1,hfz,frz,frz1]
def cfgMay (c:Cfg):Bool:=smallT c && mayT c && decide (((bytesE c).length:Int) <= 8192)
theorem S41 (c:Cfg) (hc:c.wf 1048576) (hcb:c.wf big) (h:Hp):Sm E TT valT 8 [c.v] h = some (bl (cfgMay c),h):=by
 have n1:=fun h=>S92 (E:=E) c h
 have n2:=fun h=>S93 h385 c hc hcb h
 rw [Sm_v t41 v41]
 cases h1:smallT c with
 | false =>
  simp only [h1] at n1
  simp (decide:=true) [Bd_mk,q41,n1,openA,opDE_call,noTr,opsA_if,cfgMay,h1]
 | true =>
  simp only [h1] at n1
  cases h2:mayT c with
  | false =>
   simp only [h2] at n2
   simp (decide:=true) [Bd_mk,q41,n1,n2,openA,opDE_call,noTr,opsA_if,cfgMay,h1,h2]
  | true =>
   simp only [h2] at n2
   have hle:=bytesE_le h1 h2
   have hp:policiesMay c = true:=by
    simp only [mayT,Bool.and_eq_true] at h2
    exact h2.2
   have n3:=fun h=>S94 h385 c hcb (policiesMay_pol hp) (Nat.le_trans hle (by decide)) h
   have hl:lenv false (.d (bytesD (bytesE c))) ⟨[.cells (c.c.map .d)],0⟩ = some (.d (i64 (bytesE c).length),⟨[.cells (c.c.map .d)],0⟩):=by
    simp [bytesD]
   generalize hL:bytesD (bytesE c) = L at *
   simp (decide:=true) [Bd_mk,q41,n1,n2,n3,hl,openA,opDE_call,noTr,opsA_if,cfgMay,h1,h2]
end
end Go.Proofs.YthkeklemhcfbcaaGreat
namespace Go.Proofs.YthkeklemhcfbcaaGreat
theorem find_key {α:Type} {f:α -> Int}:∀ {l:List α},(l.map f).Nodup -> ∀ {x:α},x ∈ l -> l.find? (fun y=>f y == f x) = some x
 | [],_,x,h=>by simp at h
 | y :: l,hn,x,h=>by
  simp only [List.map_cons,List.nodup_cons] at hn
  rcases List.mem_cons.1 h with rfl | h
  · simp
  · have:f y ≠ f x:=fun hh=>hn.1 (hh ▸ List.mem_map_of_mem h)
    rw [List.find?_cons]
    have hb:(f y == f x) = false:=by simpa using this
    simp only [hb]
    exact find_key hn.2 h
structure Fair (c:Cfg):Prop where
 uid:(c.pods.l.map Pod.uid).Pairwise (· < ·)
 ids:(c.services.l.map Svc.id).Nodup
 id0:(0:Int) ∉ c.services.l.map Svc.id
 adr:(c.pods.l.map Pod.addr ++ c.services.l.map Svc.addr).Nodup
 svc:∀ p ∈ c.pods.l,p.service = 0 \/ p.service ∈ c.services.l.map Svc.id
 way:∀ s ∈ c.services.l,s.way = 0 \/ ∃ w,c.bound.l.find? (fun w=>w.id == s.way) = some w /\ w.id = s.way
 few:c.pods.l.length <= 16 /\ c.services.l.length <= 6
theorem Fair.pod {c:Cfg} (h:Fair c) {p:Pod} (hp:p ∈ c.pods.l):c.pods.l.find? (fun q=>q.uid == p.uid) = some p:=find_key (f:=Pod.uid) (h.uid.imp fun h=>by omega) hp
end Go.Proofs.YthkeklemhcfbcaaGreat
