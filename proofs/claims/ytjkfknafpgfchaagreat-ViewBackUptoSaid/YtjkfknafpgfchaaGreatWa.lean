/- code.Writer: bytes of one's own, field behind field. -/
import Derived.Test.YtjkfknafpgfchaaGreatCp
import Derived.KernelRfl
set_option maxRecDepth 100000
set_option linter.unusedVariables false
set_option linter.unusedSimpArgs false
namespace Go.Proofs.YtjkfknafpgfchaaGreat
section
def Cc (x:V) (h:Hp):Option (V × Hp):=match x with
 | .ptr b o=>some (.ptr b o,h)
 | .eptr cs o=>some (.eptr cs o,h)
 | .fn f cs=>some (.fn f cs,h)
 | .mfn f cs=>some (.mfn f cs,h)
 | _=>none
section
variable {C:Calls'} {ev:X -> V} {h:Hp}
@[simp] theorem TS {x:X}:opE C (.nilchk x) ev h = Cc (ev x) h:=(rfl)
@[simp] theorem RP {b o:Nat}:Cc (.ptr b o) h = some (.ptr b o,h):=(rfl)
@[simp] theorem bo1 {b o:Nat} {neg:Bool}:eqv .ptr neg (.ptr b o) (.d .nilp) h = some (.d (.bool (false != neg)),h):=(rfl)
end
def gz (bs:List Blk) (p:Nat):Option Nat:=match ah bs p with
 | some [.row b _ _ _ _]=>some b
 | _=>none
def Wr (bs:List Blk) (p:Nat) (l:List Int):Prop :=
 (l = [] /\ ah bs p = some [.d (.slice true [])]) \/ (l ≠ [] /\ ∃ b,b ≠ p /\ ah bs p = some [.row b 0 l.length none 1] /\ ah bs b = some (l.map (iv .u8)))
def Fx (p:Nat) (bs bs':List Blk):Prop:=bs.length <= bs'.length /\ ∀ x cs,x ≠ p -> gz bs p ≠ some x -> ah bs x = some cs -> ah bs' x = some cs /\ gz bs' p ≠ some x
theorem Fx.refl (p:Nat) (bs:List Blk):Fx p bs bs:=⟨Nat.le_refl _,fun x cs _ h2 h3=>⟨h3,h2⟩⟩
theorem Fx.trans {p:Nat} {a b c:List Blk} (h:Fx p a b) (k:Fx p b c):Fx p a c :=
 ⟨Nat.le_trans h.1 k.1,fun x cs h1 h2 h3=>k.2 x cs h1 (h.2 x cs h1 h2 h3).2 (h.2 x cs h1 h2 h3).1⟩
theorem Wr.len {bs:List Blk} {p:Nat} {l:List Int} (h:Wr bs p l):p < bs.length:=by
 rcases h with ⟨_,h⟩ | ⟨_,b,_,h,_⟩ <;> exact aP h
theorem Wr.row_lt {bs:List Blk} {p:Nat} {l:List Int} (h:Wr bs p l) {x:Nat} (hx:gz bs p = some x):x < bs.length:=by
 rcases h with ⟨_,h⟩ | ⟨_,b,_,h,h2⟩
 · simp [gz,h] at hx
 · simp only [gz,h,Option.some.injEq] at hx;subst hx; exact aP h2
theorem lN {bs:List Blk} {p:Nat} (h:p < bs.length) (ys:List Blk):gz (bs ++ ys) p = gz bs p:=by
 simp only [gz,BS h]
theorem Wr.lay {bs:List Blk} {p:Nat} {l:List Int} (h:Wr bs p l) (ys:List Blk):Wr (bs ++ ys) p l:=by
 rcases h with ⟨h1,h2⟩ | ⟨h1,b,h2,h3,h4⟩
 · exact .inl ⟨h1,au h2⟩
 · exact .inr ⟨h1,b,h2,au h3,au h4⟩
theorem Fx.lay {p:Nat} {bs:List Blk} (h:p < bs.length) (ys:List Blk):Fx p bs (bs ++ ys) :=
 ⟨by simp,fun x cs h1 h2 h3=>⟨au h3,by rw [lN h]; exact h2⟩⟩
theorem ai {bs:List Blk} {b x:Nat} {cs:List V}:ah (bs.set b (.cells cs)) x = if b = x then (if b < bs.length then some cs else none) else ah bs x:=by
 unfold ah;rw [List.getElem?_set];by_cases h:b = x
 · subst h;by_cases hb:b < bs.length <;> simp [hb]
 · simp [h]
theorem Wr.app {bs:List Blk} {p:Nat} {l:List Int} (h:Wr bs p l) {x:V} {xs:List Int} {m lo:Nat} (hr:aF ⟨bs,lo⟩ x 1 = some (m,xs.map (iv .u8))) (hm:m = xs.length) (hl:l.length + xs.length <= big) :
 ∃ v v' bs1 lo1,ah bs p = some [v] /\ nu v = some v /\ nu v' = some v' /\ v'.cells = some [v'] /\ dZ ⟨bs,lo⟩ 1 1 v x = some (v',⟨bs1,lo1⟩) /\ p < bs1.length /\ ah bs1 p = some [v] /\ Wr (bs1.set p (.cells [v'])) p (l ++ xs) /\ Fx p bs (bs1.set p (.cells [v'])):=by
 subst hm;have hp:=h.len;have hroom:roomy (l.length + xs.length) 1 = true:=by
  simp only [roomy,Bool.and_eq_true,decide_eq_true_eq]; exact ⟨hl,by decide⟩
 rcases h with ⟨rfl,h2⟩ | ⟨h1,b,h2,h3,h4⟩
 · by_cases hx:xs = []
   · subst hx;refine ⟨.d (.slice true []),.d (.slice true []),bs,lo,h2,rfl,rfl,rfl,?_,hp,h2,.inl ⟨rfl,by simp [ai,hp]⟩,?_⟩
     · simp [dZ,hr,aC]
     · refine ⟨by simp,fun y cs k1 k2 k3=>⟨by rw [ai,if_neg (Ne.symm k1)]; exact k3,?_⟩⟩;simp [gz,ai,hp]
   · have hx0:¬ xs.length = 0:=by simpa using hx
     have hroom':roomy xs.length 1 = true:=by simpa using hroom
     refine ⟨.d (.slice true []),.row bs.length 0 xs.length none 1,bs ++ [.cells (xs.map (iv .u8))],lo,h2,rfl,rfl,rfl,?_,by simp; omega,au h2,.inr ⟨by simpa using hx,bs.length,by omega,?_,?_⟩,?_⟩
     · simp [dZ,hr,aC,hx0,hx,hroom']
     · rw [ai,if_pos rfl,if_pos (by simp; omega)]; simp
     · rw [ai,if_neg (by omega),dF]; simp
     · refine ⟨by simp,fun y cs k1 k2 k3=>⟨by rw [ai,if_neg (Ne.symm k1)]; exact au k3,?_⟩⟩;have:=aP k3;simp [gz,ai];rw [if_pos (by omega)];simp; omega
 · have hbl:=aP h4;have hpos:0 < l.length:=List.length_pos_iff.2 h1;by_cases hx:xs = []
   · subst hx;refine ⟨.row b 0 l.length none 1,.row b 0 l.length none 1,bs,lo,h3,rfl,rfl,rfl,?_,hp,h3,.inr ⟨by simpa using h1,b,h2,?_,?_⟩,?_⟩
     · simp [dZ,hr,aC]
     · rw [ai,if_pos rfl,if_pos hp]; simp
     · rw [ai,if_neg (Ne.symm h2)]; simpa using h4
     · refine ⟨by simp,fun y cs k1 k2 k3=>⟨by rw [ai,if_neg (Ne.symm k1)]; exact k3,?_⟩⟩;simp only [gz,h3] at k2;simpa [gz,ai,hp] using k2
   · have hx0:¬ xs.length = 0:=by simpa using hx
     have hsub:sub (l.map (iv .u8)) 0 (l.length * 1) = some (l.map (iv .u8)):=bB (by simp);refine ⟨.row b 0 l.length none 1,.row bs.length 0 (l.length + xs.length) none 1,bs.set b (.cells []) ++ [.cells ((l ++ xs).map (iv .u8))],min lo b,h3,rfl,rfl,rfl,?_,by simp; omega,?_,.inr ⟨by simp [h1],bs.length,by omega,?_,?_⟩,?_⟩
     · simp only [dZ,hr,aC,get_eq,h4,hsub,hroom];simp [hx0,hx,hpos,Hp.set]
     · refine au ?_;rw [ai,if_neg h2]; exact h3
     · rw [ai,if_pos rfl,if_pos (by simp; omega)]; simp
     · rw [ai,if_neg (by omega)];have:=dF (bs:=bs.set b (.cells [])) (ys:=[.cells ((l ++ xs).map (iv .u8))]);simp only [List.length_set] at this;rw [this]; rfl
     · refine ⟨by simp,fun y cs k1 k2 k3=>?_⟩;simp only [gz,h3,ne_eq,Option.some.injEq] at k2;have:=aP k3;refine ⟨by rw [ai,if_neg (Ne.symm k1)]; exact au (by rw [ai,if_neg k2]; exact k3),?_⟩;simp [gz,ai];rw [if_pos (by omega)];simp; omega
section
variable {E:Calls'}
def iE (E:Calls') (f:FuncId) (args:List V) (p:Nat) (bs:List Blk) (l xs:List Int):Prop:=∀ lo,∃ bs' lo',Sm E TT ak f args ⟨bs,lo⟩ = some (.tup [],⟨bs',lo'⟩) /\ lo' <= p /\ Wr bs' p (l ++ xs) /\ Fx p bs bs'
theorem Xw {p:Nat} {bs:List Blk} {l xs:List Int} (h:Wr bs p l) {x:V} (hnu:nu x = some x) {m:Nat} (hr:∀ lo,aF ⟨bs,lo⟩ x 1 = some (m,xs.map (iv .u8))) (hm:m = xs.length) (hl:l.length + xs.length <= big):iE E 131 [.ptr p 0,x] p bs l xs:=by
 intro lo;obtain ⟨v,v',bs1,lo1,k1,k2,k3,k4,k5,k6,k7,k8,k9⟩:=h.app (hr bs.length) hm hl;have hp:=h.len;refine ⟨_,min lo (min lo1 p),?_,by omega,k8,k9⟩;rw [aB dc6 do2];simp [af,IC,k1,k2,k3,k4,k5,k7,hnu,V.under,Hp.set];rw [if_neg (fun hh=>by have:=hh.1; omega)];rfl
end
end
section
variable {E:Calls'}
def lenTab:ByteArray:=⟨#[0,1,2,2,3,3,3,3,4,4,4,4,4,4,4,4,5,5,5,5,5,5,5,5,5,5,5,5,5,5,5,5,6,6,6,6,6,6,6,6,6,6,6,6,6,6,6,6,6,6,6,6,6,6,6,6,6,6,6,6,6,6,6,6,7,7,7,7,7,7,7,7,7,7,7,7,7,7,7,7,7,7,7,7,7,7,7,7,7,7,7,7,7,7,7,7,7,7,7,7,7,7,7,7,7,7,7,7,7,7,7,7,7,7,7,7,7,7,7,7,7,7,7,7,7,7,7,7,8,8,8,8,8,8,8,8,8,8,8,8,8,8,8,8,8,8,8,8,8,8,8,8,8,8,8,8,8,8,8,8,8,8,8,8,8,8,8,8,8,8,8,8,8,8,8,8,8,8,8,8,8,8,8,8,8,8,8,8,8,8,8,8,8,8,8,8,8,8,8,8,8,8,8,8,8,8,8,8,8,8,8,8,8,8,8,8,8,8,8,8,8,8,8,8,8,8,8,8,8,8,8,8,8,8,8,8,8,8,8,8,8,8,8,8,8,8,8,8,8,8,8,8,8,8,8,8]⟩
def lenL:List UInt8:=lenTab.data.toList
theorem Gz:lenL.length = 256:=by decide +kernel
theorem zP:lenL.all (fun b=>decide (b.toNat <= 8)) = true:=by decide +kernel
def lenT (i:Nat):Int:=match lenL[i]? with
 | some b=>b.toNat
 | none=>0
theorem vD (i:Nat):0 <= lenT i /\ lenT i <= 8:=by
 unfold lenT;split
 · rename_i b hb;have:=List.all_eq_true.1 zP b (List.mem_of_getElem? hb);simp at this;omega
 · omega
theorem bm5 (n:Int):0 <= IntKind.wrap .u8 n /\ IntKind.wrap .u8 n < 256:=by
 simp [IntKind.wrap,IntKind.bits,IntKind.signed];omega
theorem RJ {n:Int} {h:Hp}:xu (.d (.str lenTab)) (.d (.int .u8 (IntKind.wrap .u8 n))) h = some (.d (.int .u8 (lenT (IntKind.wrap .u8 n).toNat)),h):=by
 obtain ⟨h0,h1⟩:=bm5 n;generalize IntKind.wrap .u8 n = m at *;have hlt:m.toNat < lenL.length:=by rw [Gz]; omega
 have hb:lenTab.toList[m.toNat]? = some lenL[m.toNat]:=by rw [bv]; exact List.getElem?_eq_getElem hlt
 simp only [xu,if_pos h0,hb,lenT,List.getElem?_eq_getElem hlt]
def jY (x:Int):Int:=if x >= 4294967296 then x.fdiv 4294967296 else x
def kH (x:Int):Int:=if x >= 65536 then x.fdiv 65536 else x
def pU (x:Int):Int:=if x >= 256 then x.fdiv 256 else x
def bT (x:Int):Int:=(if x >= 4294967296 then 32 else 0) + (if jY x >= 65536 then 16 else 0) + (if kH (jY x) >= 256 then 8 else 0) + lenT (IntKind.wrap .u8 (pU (kH (jY x)))).toNat
theorem oz (x:Int):0 <= bT x /\ bT x <= 64:=by
 have:=vD (IntKind.wrap .u8 (pU (kH (jY x)))).toNat;unfold bT
 repeat' split
 all_goals omega
theorem RG (x:Int):(x >= 4294967296 /\ bJ .shr (.d (.int .u64 x)) (.d (.int .u64 32)) = some (.int .u64 (jY x))) \/ (¬ x >= 4294967296 /\ jY x = x):=by
 by_cases c:x >= 4294967296
 · exact .inl ⟨c,by rw [jg (by decide),jY,if_pos c]; rfl⟩
 · exact .inr ⟨c,if_neg c⟩
theorem RH (x:Int):(x >= 65536 /\ bJ .shr (.d (.int .u64 x)) (.d (.int .u64 16)) = some (.int .u64 (kH x))) \/ (¬ x >= 65536 /\ kH x = x):=by
 by_cases c:x >= 65536
 · exact .inl ⟨c,by rw [jg (by decide),kH,if_pos c]; rfl⟩
 · exact .inr ⟨c,if_neg c⟩
theorem RI (x:Int):(x >= 256 /\ bJ .shr (.d (.int .u64 x)) (.d (.int .u64 8)) = some (.int .u64 (pU x))) \/ (¬ x >= 256 /\ pU x = x):=by
 by_cases c:x >= 256
 · exact .inl ⟨c,by rw [jg (by decide),pU,if_pos c]; rfl⟩
 · exact .inr ⟨c,if_neg c⟩
theorem Xx (x:Int) (h:Hp):Sm E TT ak 208 [.d (u64 x)] h = some (.d (i64 (bT x)),h):=by
 rw [bf dd6 dp1];have htab:(⟨#[0,1,2,2,3,3,3,3,4,4,4,4,4,4,4,4,5,5,5,5,5,5,5,5,5,5,5,5,5,5,5,5,6,6,6,6,6,6,6,6,6,6,6,6,6,6,6,6,6,6,6,6,6,6,6,6,6,6,6,6,6,6,6,6,7,7,7,7,7,7,7,7,7,7,7,7,7,7,7,7,7,7,7,7,7,7,7,7,7,7,7,7,7,7,7,7,7,7,7,7,7,7,7,7,7,7,7,7,7,7,7,7,7,7,7,7,7,7,7,7,7,7,7,7,7,7,7,7,8,8,8,8,8,8,8,8,8,8,8,8,8,8,8,8,8,8,8,8,8,8,8,8,8,8,8,8,8,8,8,8,8,8,8,8,8,8,8,8,8,8,8,8,8,8,8,8,8,8,8,8,8,8,8,8,8,8,8,8,8,8,8,8,8,8,8,8,8,8,8,8,8,8,8,8,8,8,8,8,8,8,8,8,8,8,8,8,8,8,8,8,8,8,8,8,8,8,8,8,8,8,8,8,8,8,8,8,8,8,8,8,8,8,8,8,8,8,8,8,8,8,8,8,8,8,8,8]⟩:ByteArray) = lenTab:=rfl;have hl:=vD (IntKind.wrap .u8 (pU (kH (jY x)))).toNat;have hL:=fun h=>RJ (n:=pU (kH (jY x))) (h:=h);unfold bT;have hA:=RG x;have hB:=RH (jY x);have hC:=RI (kH (jY x));have hw:∀ n:Int,0 <= n -> n <= 1000 -> IntKind.wrap .i64 n = n:=fun n h1 h2=>wrap64 (by omega) (by omega);have w16:=hw 16 (by omega) (by omega);have w40:=hw 40 (by omega) (by omega);have w48:=hw 48 (by omega) (by omega);have w56:=hw 56 (by omega) (by omega);have w24:=hw 24 (by omega) (by omega);have w8:=hw 8 (by omega) (by omega);generalize jY x = a at *;generalize kH a = b at *;generalize pU b = c at *;generalize lenT (IntKind.wrap .u8 c).toNat = L at *;have wL:=hw L (by omega) (by omega);have v1:=hw (8 + L) (by omega) (by omega);have v2:=hw (16 + L) (by omega) (by omega);have v3:=hw (24 + L) (by omega) (by omega);have v4:=hw (32 + L) (by omega) (by omega);have v5:=hw (40 + L) (by omega) (by omega)
 have v6:=hw (48 + L) (by omega) (by omega);have v7:=hw (56 + L) (by omega) (by omega);rcases hA with ⟨a1,a2⟩ | ⟨a1,rfl⟩ <;> rcases hB with ⟨b1,b2⟩ | ⟨b1,rfl⟩ <;> rcases hC with ⟨c1,c2⟩ | ⟨c1,rfl⟩ <;> simp [af,IE,htab,hL,wL,w16,w40,w48,w56,w24,w8,v1,v2,v3,v4,v5,v6,v7, *]
def dP (x:Int):Int:=if (bT x + 6).tdiv 7 > 1 then (bT x + 6).tdiv 7 else 1
theorem qX (x:Int):1 <= dP x /\ dP x <= 10:=by
 have:=oz x;have h2:(bT x + 6).tdiv 7 = (bT x + 6) / 7:=Int.tdiv_eq_ediv_of_nonneg (by omega);unfold dP;rw [h2];split <;> omega
theorem Xy (x:Int) (h:Hp):Sm E TT ak 130 [.d (u64 x)] h = some (.d (i64 (dP x)),h):=by
 rw [bf dd9 dp4];have hl:=oz x;have h1:=fun h=>Xx (E:=E) x h;have hw:IntKind.wrap .i64 (bT x + 6) = bT x + 6:=wrap64 (by omega) (by omega);have h2:(bT x + 6).tdiv 7 = (bT x + 6) / 7:=Int.tdiv_eq_ediv_of_nonneg (by omega);have hq:bJ .quo (.d (.int .i64 (bT x + 6))) (.d (.int .i64 7)) = some (.int .i64 ((bT x + 6).tdiv 7)):=by
  simp only [bJ,if_true,dU];rw [if_neg (by omega),wrap64] <;> omega
 simp [af,IK,h1,hw,hq,dP]
def orI (k:IntKind) (a b:Int):Int:=k.wrap ((BitVec.ofInt k.bits a ||| BitVec.ofInt k.bits b).toNat)
theorem zx {k:IntKind} {a b:Int}:bJ .or (.d (.int k a)) (.d (.int k b)) = some (.int k (orI k a b)):=by simp [bJ,dU,orI]
def iD:Nat -> Int -> List Int
 | 0,x=>[IntKind.wrap .u8 x]
 | k + 1,x=>orI .u8 (IntKind.wrap .u8 x) 128 :: iD k (x.fdiv 128)
def aM (x:Int):List Int:=iD ((dP x).toNat - 1) x
theorem qg (k:Nat) (x:Int):(iD k x).length = k + 1:=by
 induction k generalizing x with
 | zero=>rfl
 | succ k ih=>simp [iD,ih]
theorem aZ (x:Int):(aM x).length <= 10:=by
 have:=qX x;rw [aM,qg]; omega
theorem dE {bs bs':List Blk} {lo lo' p:Nat} {r:V} (h1:lo' <= p) (h2:p < bs.length):iR ⟨bs,lo⟩ (some (r,⟨bs',lo'⟩)) = some (r,⟨bs',min lo lo'⟩):=by
 simp only [iR];rw [if_neg (fun hh=>by have:=hh.1; omega)]
theorem VJ {bs:List Blk} {x:Int} {k:IntKind} (lo:Nat):aF ⟨bs ++ [.cells [.d (.int k x)]],lo⟩ (.row bs.length 0 1 (some 1) 1) 1 = some (1,[iv k x]):=by
 simp only [aF,if_true,get_eq,dF];rfl
theorem sM {p:Nat} {bs:List Blk} {l:List Int} (h:Wr bs p l) (x:Int) (hl:l.length + 1 <= big):iE E 131 [.ptr p 0,.row bs.length 0 1 (some 1) 1] p (bs ++ [.cells [.d (.int .u8 x)]]) l [x] :=
 Xw (h.lay _) rfl (fun lo=>VJ lo) rfl hl
theorem EG {p:Nat}:∀ (m i:Nat) (x:Int) (bs:List Blk) (lo:Nat) (l:List Int) (G:Nat),i + m = G -> G <= 10 -> Wr bs p l -> l.length + (m + 1) <= big →
 ∃ bs' lo' y l',Cd E TT ak (.loop [0,1,6,7] lY) [(0,.ptr p 0),(1,.d (u64 x)),(6,.d (i64 G)),(7,.d (i64 i))] ⟨bs,lo⟩ = some (.exit 0,[(0,.ptr p 0),(1,.d (u64 y))],⟨bs',lo'⟩) ∧
  l ++ iD m x = l' ++ iD 0 y /\ l'.length = l.length + m /\ Wr bs' p l' /\ Fx p bs bs':=by
 intro m;have key:=ax (E:=E) (T:=TT) (val:=ak) [0,1,6,7] lY;generalize Cd E TT ak (.loop [0,1,6,7] lY) = W at key ⊢
 induction m with
 | zero =>
  intro i x bs lo l G hi hG hW hl;refine ⟨bs,lo,x,l,?_,rfl,rfl,hW,Fx.refl _ _⟩;rw [key];simp [lY,show ¬ ((i:Int) < G) from by omega]
 | succ m ih =>
  intro i x bs lo l G hi hG hW hl;have h1:=sM (E:=E) hW (orI .u8 (IntKind.wrap .u8 x) 128) (by omega);obtain ⟨bs1,lo1,k1,k2,k3,k4⟩:=h1 lo;have hw:=aK (show i < G by omega) (show G < 2 ^ 62 by omega);obtain ⟨bs',lo',y,l',q1,q2,q3,q4,q5⟩:=ih (i + 1) (x.fdiv 128) bs1 lo1 (l ++ [orI .u8 (IntKind.wrap .u8 x) 128]) G (by omega) hG k3 (by simp; omega);refine ⟨bs',lo',y,l',?_,by rw [← q2]; simp [iD],by rw [q3]; simp; omega,q4,((Fx.lay hW.len _).trans k4).trans q5⟩;have hs:bJ .shr (.d (.int .u64 x)) (.d (.int .u64 7)) = some (.int .u64 (x.fdiv 128)):=by rw [jg (by decide)]; rfl
  rw [key];simp [lY,zx,aA,k1,hs,hw,show ((i:Int) < G) from by omega];simpa using q1
theorem mM {p:Nat} {bs:List Blk} {l:List Int} (h:Wr bs p l) (x:Int) (hl:l.length + (aM x).length <= big):iE E 34 [.ptr p 0,.d (u64 x)] p bs l (aM x):=by
 intro lo;have hg:=qX x;rw [aM,qg] at hl;have hp:=h.len;obtain ⟨bs1,lo1,y,l1,q1,q2,q3,q4,q5⟩:=EG (E:=E) ((dP x).toNat - 1) 0 x bs bs.length l ((dP x).toNat - 1) (by omega) (by omega) h (by omega);obtain ⟨bs2,lo2,k1,k2,k3,k4⟩:=sM (E:=E) q4 (IntKind.wrap .u8 y) (by omega) lo1;have hS:=fun h=>Xy (E:=E) x h;have hw:IntKind.wrap .i64 (dP x - 1) = (((dP x).toNat - 1:Nat):Int):=by rw [wrap64] <;> omega
 refine ⟨bs2,min lo lo2,?_,by omega,?_,(q5.trans (Fx.lay q4.len _)).trans k4⟩
 · rw [aB dc5 do1];simp [af,IB,hS,hw];rw [aH];simp at q1;simp [q1,aA,k1];exact dE k2 hp
 · rw [aM,q2]; exact k3
theorem XB {p:Nat} {bs:List Blk} {l:List Int} (h:Wr bs p l) (x:Int) (hl:l.length + 1 <= big):iE E 283 [.ptr p 0,.d (.int .u8 x)] p bs l [x]:=by
 intro lo;obtain ⟨bs1,lo1,k1,k2,k3,k4⟩:=sM (E:=E) h x hl bs.length;refine ⟨bs1,min lo lo1,?_,by omega,k3,(Fx.lay h.len _).trans k4⟩;rw [aB dg1 dr5];simp [af,ML,aA,k1];exact dE k2 h.len
def yV (x:Int):List Int:=[IntKind.wrap .u8 x,IntKind.wrap .u8 (x.fdiv 256),IntKind.wrap .u8 (x.fdiv 65536),IntKind.wrap .u8 (x.fdiv 16777216)]
theorem cc2 {p:Nat} {bs:List Blk} {l:List Int} (h:Wr bs p l) (x:Int) (hl:l.length + 4 <= big):iE E 282 [.ptr p 0,.d (u32 x)] p bs l (yV x):=by
 intro lo;have s0:bJ .shr (.d (.int .u32 x)) (.d (.int .i64 0)) = some (.int .u32 x):=by rw [jg (by decide)]; simp
 have s1:bJ .shr (.d (.int .u32 x)) (.d (.int .i64 8)) = some (.int .u32 (x.fdiv 256)):=by rw [jg (by decide)]; rfl
 have s2:bJ .shr (.d (.int .u32 x)) (.d (.int .i64 16)) = some (.int .u32 (x.fdiv 65536)):=by rw [jg (by decide)]; rfl
 have s3:bJ .shr (.d (.int .u32 x)) (.d (.int .i64 24)) = some (.int .u32 (x.fdiv 16777216)):=by rw [jg (by decide)]; rfl
 obtain ⟨b1,l1,a1,a2,a3,a4⟩:=sM (E:=E) h (IntKind.wrap .u8 x) (by omega) bs.length;obtain ⟨b2,l2,c1,c2,c3,c4⟩:=sM (E:=E) a3 (IntKind.wrap .u8 (x.fdiv 256)) (by simp; omega) l1;obtain ⟨b3,l3,d1,d2,d3,d4⟩:=sM (E:=E) c3 (IntKind.wrap .u8 (x.fdiv 65536)) (by simp; omega) l2;obtain ⟨b4,l4,e1,e2,e3,e4⟩:=sM (E:=E) d3 (IntKind.wrap .u8 (x.fdiv 16777216)) (by simp; omega) l3;refine ⟨b4,min lo l4,?_,by omega,by simpa [yV] using e3,((Fx.lay h.len _).trans a4).trans (((Fx.lay a3.len _).trans c4).trans (((Fx.lay c3.len _).trans d4).trans ((Fx.lay d3.len _).trans e4)))⟩;rw [aB dg0 dr4];have key:=ax (E:=E) (T:=TT) (val:=ak) [0,1,6,7] jo;simp [af,MK,aA];rw [aH];generalize Cd E TT ak (.loop [0,1,6,7] jo) = W at key ⊢;simp;have w1:IntKind.wrap .i64 1 = 1:=by decide
 have w2:IntKind.wrap .i64 2 = 2:=by decide
 have w3:IntKind.wrap .i64 3 = 3:=by decide
 have w4:IntKind.wrap .i64 4 = 4:=by decide
 rw [key]; simp [jo,opE,s0,aA,a1,w1];rw [key]; simp [jo,opE,s1,aA,c1,w2];rw [key]; simp [jo,opE,s2,aA,d1,w3];rw [key]; simp [jo,opE,s3,aA,e1,w4];rw [key]; simp [jo];exact dE e2 h.len
def qR (x:V) (h:Hp):Option (V × Hp):=match x with
 | .d (.str s)=>if s.size <= 2 ^ 40 then some (.row h.size 0 s.size none 1,h.alloc (s.toList.map fun b=>.d (.int .u8 b.toNat))) else none
 | _=>none
@[simp] theorem sQ {C:Calls'} {ev:X -> V} {h:Hp} {x:X}:opE C (.convSB x) ev h = qR (ev x) h:=(rfl)
theorem FI {h:Hp} {s:ByteArray} (hs:s.size <= 2 ^ 40):qR (.d (.str s)) h = some (.row h.size 0 s.size none 1,h.alloc (s.toList.map fun b=>.d (.int .u8 b.toNat))):=if_pos hs
def eP (s:ByteArray):List Int:=aM s.size ++ s.toList.map fun b=>(b.toNat:Int)
theorem gT (s:ByteArray):(eP s).length <= 10 + s.size:=by
 have:=aZ s.size;simp only [eP,List.length_append,List.length_map,iN];omega
theorem zf {p:Nat} {bs:List Blk} {l:List Int} (h:Wr bs p l) (s:ByteArray) (hl:l.length + (eP s).length <= big):iE E 35 [.ptr p 0,.d (.str s)] p bs l (eP s):=by
 intro lo;have hsz:s.toList.length = s.size:=iN s;simp only [eP,List.length_append,List.length_map] at hl;have hs:s.size <= 2 ^ 40:=Nat.le_trans (m:=2 ^ 30) (by rw [← hsz]; have:big = 2 ^ 30:=rfl; omega) (by decide);obtain ⟨b1,l1,a1,a2,a3,a4⟩:=mM (E:=E) h s.size (by omega) bs.length;have hrc:∀ lo,aF ⟨b1 ++ [.cells (s.toList.map fun b=>V.d (.int .u8 b.toNat))],lo⟩ (.row b1.length 0 s.size none 1) 1 = some (s.size,(s.toList.map fun b=>(b.toNat:Int)).map (iv .u8)):=by
  intro lo;have:sub (s.toList.map fun b=>V.d (.int .u8 b.toNat)) 0 (s.size * 1) = some (s.toList.map fun b=>V.d (.int .u8 b.toNat)):=bB (by simp [hsz]);simp only [aF,if_true,get_eq,dF,uy,this,List.map_map];rfl
 obtain ⟨b2,l2,c1,c2,c3,c4⟩:=Xw (E:=E) (a3.lay _) (x:=.row b1.length 0 s.size none 1) rfl hrc (by simp [hsz]) (by simp; omega) l1;refine ⟨b2,min lo l2,?_,by omega,by simpa [eP] using c3,(a4.trans (Fx.lay a3.len _)).trans c4⟩;have hw:IntKind.wrap .u64 (s.size:Int) = s.size:=by
  simp [IntKind.wrap,IntKind.bits,IntKind.signed];omega
 rw [aB db7 dn3];simp [af,Ii,hw,a1,FI hs,c1];exact dE c2 h.len
theorem Ic {p:Nat} {xs:List Int} (hxn:xs.length < 2 ^ 62) {q:Nat} (hq:q ≠ p) {cap:Option Nat}:∀ (m i:Nat) (bs:List Blk) (lo:Nat) (l:List Int),i + m = xs.length -> Wr bs p l -> gz bs p ≠ some q -> ah bs q = some (xs.map fun n=>V.d (u64 n)) -> l.length + ((xs.drop i).flatMap aM).length <= big →
 ∃ bs' lo',Cd E TT ak (.loop [0,6,7,8] fU) [(0,.ptr p 0),(6,.row q 0 xs.length cap 1),(7,.d (i64 xs.length)),(8,.d (i64 i))] ⟨bs,lo⟩ = some (.exit 0,[],⟨bs',lo'⟩) ∧
  (lo' = lo /\ xs.drop i = [] \/ lo' <= p) /\ Wr bs' p (l ++ (xs.drop i).flatMap aM) /\ Fx p bs bs':=by
 intro m;have key:=ax (E:=E) (T:=TT) (val:=ak) [0,6,7,8] fU;generalize Cd E TT ak (.loop [0,6,7,8] fU) = W at key ⊢
 induction m with
 | zero =>
  intro i bs lo l hi hW h1 h2 hl;have h0:xs.drop i = []:=List.drop_eq_nil_of_le (by omega);refine ⟨bs,lo,?_,.inl ⟨rfl,h0⟩,by simpa [h0] using hW,Fx.refl _ _⟩;rw [key];simp [fU,show ¬ ((i:Int) < xs.length) from by omega]
 | succ m ih =>
  intro i bs lo l hi hW h1 h2 hl;have hlt:i < xs.length:=by omega
  have hd:xs.drop i = xs[i] :: xs.drop (i + 1):=List.drop_eq_getElem_cons hlt;have hix:=fun h=>kZ (b:=q) (o:=0) (z:=1) (cap:=cap) (kd:=.i64) (h:=h) hlt;simp only [Nat.mul_one,Nat.zero_add] at hix;have hs:sub (xs.map fun n=>V.d (u64 n)) i 1 = some [.d (u64 xs[i])]:=by
   rw [gP,if_pos (by simp; omega),List.drop_eq_getElem_cons (by simpa using hlt)]; simp
  rw [hd] at hl ⊢;simp only [List.flatMap_cons,List.length_append] at hl;generalize xs[i] = x at *;obtain ⟨b1,l1,a1,a2,a3,a4⟩:=mM (E:=E) hW x (by omega) lo;obtain ⟨f1,f2⟩:=a4.2 q _ hq h1 h2;obtain ⟨bs',lo',q1,q2,q3,q4⟩:=ih (i + 1) b1 l1 (l ++ aM x) (by omega) a3 f2 f1 (by rw [List.length_append]; omega);have hw:=aK hlt hxn;refine ⟨bs',lo',?_,.inr ?_,by simpa using q3,a4.trans q4⟩
  · have hld:ldv ⟨bs,lo⟩ (.ptr q i) 1 true = some (.d (u64 x),⟨bs,lo⟩):=by
     rw [fT,get_eq];show (match (match ah bs q with | some cs=>sub cs i 1 | none=>none) with | some cs=>_ | none=>none) = _;rw [h2]; simp only [hs]; rfl
    rw [key];simp [fU,hix,hld,a1,hw,hlt,show ((i:Int) < xs.length) from by omega,-fT];simpa using q1
  · rcases q2 with ⟨rfl,_⟩ | q2
    · exact a2
    · exact q2
theorem EW {p:Nat} {bs:List Blk} {l:List Int} (h:Wr bs p l) {xs:List Int} (hne:xs ≠ []) (hn:xs.length < 2 ^ 62) {q:Nat} (hq:q ≠ p) {cap:Option Nat} (h1:gz bs p ≠ some q) (h2:ah bs q = some (xs.map fun n=>V.d (u64 n))) (hl:l.length + (xs.flatMap aM).length <= big):iE E 33 [.ptr p 0,.row q 0 xs.length cap 1] p bs l (xs.flatMap aM):=by
 intro lo;obtain ⟨bs',lo',k1,k2,k3,k4⟩:=Ic (E:=E) hn hq (cap:=cap) xs.length 0 bs bs.length l (by omega) h h1 h2 (by simpa using hl);have hle:lo' <= p:=by
  rcases k2 with ⟨_,hx⟩ | k2
  · exact absurd (by simpa using hx) hne
  · exact k2
 refine ⟨bs',min lo lo',?_,by omega,by simpa using k3,k4⟩;rw [aB t213 VZ];simp [af,Ae];rw [aH];simp at k1;simp [k1];exact dE hle h.len
theorem Xq (bs:List Blk) (lo:Nat):∃ lo',Sm E TT ak 32 [] ⟨bs,lo⟩ = some (.ptr bs.length 0,⟨bs ++ [.cells [.d (.slice true [])]],lo'⟩):=by
 refine ⟨min lo bs.length,?_⟩;rw [aB t212 v212];simp [af,Ih,V.under]
theorem JF (bs:List Blk):Wr (bs ++ [.cells [.d (.slice true [])]]) bs.length []:=.inl ⟨rfl,by simp⟩
theorem Xt {p:Nat} {bs:List Blk} {l:List Int} (h:Wr bs p l) (hl:l.length <= big) (hne:l ≠ []) (lo:Nat):∃ lo',Sm E TT ak 37 [.ptr p 0] ⟨bs,lo⟩ = some (.row bs.length 0 l.length none 1,⟨bs ++ [.cells (l.map (iv .u8))],lo'⟩):=by
 rcases h with ⟨h1,_⟩ | ⟨_,b,h2,h3,h4⟩
 · exact absurd h1 hne
 · have hl0:¬ l.length = 0:=by simpa using hne
   have hroom:roomy l.length 1 = true:=by
    simp only [roomy,Bool.and_eq_true,decide_eq_true_eq]; exact ⟨hl,by decide⟩
   have hsub:sub (l.map (iv .u8)) 0 (l.length * 1) = some (l.map (iv .u8)):=bB (by simp);have hap:dZ ⟨bs,bs.length⟩ 1 1 (.d (.slice true [])) (.row b 0 l.length none 1) = some (.row bs.length 0 l.length none 1,⟨bs ++ [.cells (l.map (iv .u8))],bs.length⟩):=by
    simp only [dZ,aF,if_true,get_eq,h4,hsub,Option.map_some,aC,hl0,if_false,hroom];simp
   refine ⟨min lo bs.length,?_⟩;rw [aB db9 dn5];simp [af,Ik,h3,hap,V.under]
end
section
def uK (z:Nat) (zero:List V):QC:=(sr [op 16 (bt .lss 15 14)] (.seq (.cond (.t 16) .skip (.exit 0 [])) (.seq (.block 1 (sr [op 17 (.idxA none z (.t 13) (.t 15)),op 18 (.load false z (.t 17)),op 7 (.new zero),⟨none,none,.store z (.t 7) (.t 18)⟩] (.reg none [mv 19 2,mv 20 0,op 21 (.load false z (.t 7)),op 22 (kt' 19 [.t 20,.t 21])]))) (.reg none [op 23 (bc .add 15 1),mv 15 23]))))
def wputQ (z:Nat) (zero:List V):QF:=⟨24,[],(sr [mv 8 0,mv 9 1,op 10 (ln' 9),op 11 (.convI .u64 (.t 10)),op 12 (kc' 34 [.t 8,.t 11])] (sr [mv 13 1,op 14 (ln' 13),oc' 15 0] (.block 0 (.loop [0,2,13,14,15] (uK z zero)))))⟩
def qh:QC:=(sr [op 16 (bt .lss 15 14)] (.seq (.cond (.t 16) .skip (.exit 0 [])) (.seq (.block 1 (sr [op 17 (ia' 1 13 15),op 18 (l1' 17),mv 7 18] (.reg none [mv 19 2,mv 20 0,mv 21 7,op 22 (kt' 19 [.t 20,.t 21])]))) (.reg none [op 23 (bc .add 15 1),mv 15 23]))))
def wput1Q:QF:=⟨24,[],(sr [mv 8 0,mv 9 1,op 10 (ln' 9),op 11 (.convI .u64 (.t 10)),op 12 (kc' 34 [.t 8,.t 11])] (sr [mv 13 1,op 14 (ln' 13),oc' 15 0] (.block 0 (.loop [0,2,13,14,15] qh))))⟩
variable {E:Calls'}
def seqB {α:Type} (enc:α -> List Int) (l:List α):List Int:=aM l.length ++ l.flatMap enc
theorem cK {α:Type} (enc:α -> List Int) (x:α) (l:List α):((x :: l).flatMap enc).length = (enc x).length + (l.flatMap enc).length:=by simp
theorem EN {α:Type} {cells:α -> List D} {z:Nat} {zero:List V} (hz:∀ x,(cells x).length = z) (hz0:0 < z) (hzero:zero.length = z) {enc:α -> List Int} {p:Nat} {f:FuncId} {s:Sl α} (hs:s.l.length < 2 ^ 62)
 (hf:∀ e ∈ s.l,∀ bs l,Wr bs p l -> l.length + (enc e).length <= big -> iE E f [.ptr p 0,ag (cells e)] p bs l (enc e)):∀ (m i:Nat) (bs:List Blk) (lo:Nat) (l:List Int),i + m = s.l.length -> Wr bs p l -> l.length + ((s.l.drop i).flatMap enc).length <= big →
 ∃ bs' lo',Cd E TT ak (.loop [0,2,13,14,15] (uK z zero)) [(0,.ptr p 0),(2,.fn f []),(13,.d (s.d cells)),(14,.d (i64 s.l.length)),(15,.d (i64 i))] ⟨bs,lo⟩ = some (.exit 0,[],⟨bs',lo'⟩) ∧
  (lo <= p -> lo' <= p) /\ Wr bs' p (l ++ (s.l.drop i).flatMap enc) /\ Fx p bs bs':=by
 intro m;have key:=ax (E:=E) (T:=TT) (val:=ak) [0,2,13,14,15] (uK z zero);generalize Cd E TT ak (.loop [0,2,13,14,15] (uK z zero)) = W at key ⊢
 induction m with
 | zero =>
  intro i bs lo l hi hW hl;have h0:s.l.drop i = []:=List.drop_eq_nil_of_le (by omega);refine ⟨bs,lo,?_,id,by simpa [h0] using hW,Fx.refl _ _⟩;rw [key];simp [uK,show ¬ ((i:Int) < s.l.length) from by omega]
 | succ m ih =>
  intro i bs lo l hi hW hl;have hlt:i < s.l.length:=by omega
  have hx:=fun h=>bi (z:=z) h (List.getElem?_eq_getElem hlt) (cells:=cells) (hz _);have hmem:=List.getElem_mem hlt;rw [List.drop_eq_getElem_cons hlt] at hl ⊢;rw [cK] at hl;generalize s.l[i] = e at *;obtain ⟨b1,l1,a1,a2,a3,a4⟩:=hf e hmem (bs ++ [.cells ((cells e).map .d)]) l (hW.lay _) (by omega) (min lo bs.length);obtain ⟨bs',lo',q1,q2,q3,q4⟩:=ih (i + 1) b1 l1 (l ++ enc e) (by omega) a3 (by rw [List.length_append]; omega);have hw:=aK hlt hs;refine ⟨bs',lo',?_,fun _=>q2 a2,by simpa using q3,((Fx.lay hW.len _).trans a4).trans q4⟩;have hsub:=bB (hz e);have hput:put zero 0 ((cells e).map V.d) = some ((cells e).map .d):=by simp [put,hz,hzero]
  rw [key];simp [uK,hx,hsub,hput,hz,hz0,a1,hw,show ((i:Int) < s.l.length) from by omega,-yn];simpa using q1
theorem pz {α:Type} {cells:α -> List D} {z:Nat} {zero:List V} (hz:∀ x,(cells x).length = z) (hz0:0 < z) (hzero:zero.length = z) {id:FuncId} (ht:TT id = some (wputQ z zero)) (hv:ak id = false) {enc:α -> List Int} {p:Nat} {f:FuncId} {s:Sl α} (hs:short s)
 (hf:∀ e ∈ s.l,∀ bs l,Wr bs p l -> l.length + (enc e).length <= big -> iE E f [.ptr p 0,ag (cells e)] p bs l (enc e)) {bs:List Blk} {l:List Int} (h:Wr bs p l) (hl:l.length + (seqB enc s.l).length <= big):iE E id [.ptr p 0,.d (s.d cells),.fn f []] p bs l (seqB enc s.l):=by
 intro lo;simp only [seqB,List.length_append] at hl;obtain ⟨b1,l1,a1,a2,a3,a4⟩:=mM (E:=E) h s.l.length (by omega) bs.length;obtain ⟨b2,l2,k1,k2,k3,k4⟩:=EN (E:=E) (zero:=zero) hz hz0 hzero hs.lt hf s.l.length 0 b1 l1 (l ++ aM s.l.length) (by omega) a3 (by rw [List.length_append,List.drop_zero]; omega);refine ⟨b2,min lo l2,?_,by have:=k2 a2; omega,by simpa [seqB] using k3,a4.trans k4⟩;have hb:s.l.length <= big:=hs.1;have hbig:big = 2 ^ 30:=rfl;have hw:IntKind.wrap .u64 (s.l.length:Int) = s.l.length:=by
  simp [IntKind.wrap,IntKind.bits,IntKind.signed];omega
 rw [aB ht hv];simp [af,wputQ,hw,a1];rw [aH];simp at k1;simp [k1];exact dE (k2 a2) h.len
theorem Bt {α:Type} {cell:α -> D} {enc:α -> List Int} {p:Nat} {f:FuncId} {s:Sl α} (hs:s.l.length < 2 ^ 62)
 (hf:∀ e ∈ s.l,∀ bs l,Wr bs p l -> l.length + (enc e).length <= big -> iE E f [.ptr p 0,.d (cell e)] p bs l (enc e)):∀ (m i:Nat) (bs:List Blk) (lo:Nat) (l:List Int),i + m = s.l.length -> Wr bs p l -> l.length + ((s.l.drop i).flatMap enc).length <= big →
 ∃ bs' lo',Cd E TT ak (.loop [0,2,13,14,15] qh) [(0,.ptr p 0),(2,.fn f []),(13,.d (s.d fun x=>[cell x])),(14,.d (i64 s.l.length)),(15,.d (i64 i))] ⟨bs,lo⟩ = some (.exit 0,[],⟨bs',lo'⟩) ∧
  (lo <= p -> lo' <= p) /\ Wr bs' p (l ++ (s.l.drop i).flatMap enc) /\ Fx p bs bs':=by
 intro m;have key:=ax (E:=E) (T:=TT) (val:=ak) [0,2,13,14,15] qh;generalize Cd E TT ak (.loop [0,2,13,14,15] qh) = W at key ⊢
 induction m with
 | zero =>
  intro i bs lo l hi hW hl;have h0:s.l.drop i = []:=List.drop_eq_nil_of_le (by omega);refine ⟨bs,lo,?_,id,by simpa [h0] using hW,Fx.refl _ _⟩;rw [key];simp [qh,show ¬ ((i:Int) < s.l.length) from by omega]
 | succ m ih =>
  intro i bs lo l hi hW hl;have hlt:i < s.l.length:=by omega
  have hx:=fun h=>bi (z:=1) h (List.getElem?_eq_getElem hlt) (cells:=fun x=>[cell x]) rfl;have hmem:=List.getElem_mem hlt;rw [List.drop_eq_getElem_cons hlt] at hl ⊢;rw [cK] at hl;generalize s.l[i] = e at *;obtain ⟨b1,l1,a1,a2,a3,a4⟩:=hf e hmem bs l hW (by omega) lo;obtain ⟨bs',lo',q1,q2,q3,q4⟩:=ih (i + 1) b1 l1 (l ++ enc e) (by omega) a3 (by rw [List.length_append]; omega);have hw:=aK hlt hs;refine ⟨bs',lo',?_,fun _=>q2 a2,by simpa using q3,a4.trans q4⟩;rw [key];simp [qh,hx,a1,hw,show ((i:Int) < s.l.length) from by omega];simpa using q1
theorem J2 {α:Type} {cell:α -> D} {id:FuncId} (ht:TT id = some wput1Q) (hv:ak id = false) {enc:α -> List Int} {p:Nat} {f:FuncId} {s:Sl α} (hs:short s)
 (hf:∀ e ∈ s.l,∀ bs l,Wr bs p l -> l.length + (enc e).length <= big -> iE E f [.ptr p 0,.d (cell e)] p bs l (enc e)) {bs:List Blk} {l:List Int} (h:Wr bs p l) (hl:l.length + (seqB enc s.l).length <= big):iE E id [.ptr p 0,.d (s.d fun x=>[cell x]),.fn f []] p bs l (seqB enc s.l):=by
 intro lo;simp only [seqB,List.length_append] at hl;obtain ⟨b1,l1,a1,a2,a3,a4⟩:=mM (E:=E) h s.l.length (by omega) bs.length;obtain ⟨b2,l2,k1,k2,k3,k4⟩:=Bt (E:=E) hs.lt hf s.l.length 0 b1 l1 (l ++ aM s.l.length) (by omega) a3 (by rw [List.length_append,List.drop_zero]; omega);refine ⟨b2,min lo l2,?_,by have:=k2 a2; omega,by simpa [seqB] using k3,a4.trans k4⟩;have hb:s.l.length <= big:=hs.1;have hbig:big = 2 ^ 30:=rfl;have hw:IntKind.wrap .u64 (s.l.length:Int) = s.l.length:=by
  simp [IntKind.wrap,IntKind.bits,IntKind.signed];omega
 rw [aB ht hv];simp [af,wput1Q,hw,a1];rw [aH];simp at k1;simp [k1];exact dE (k2 a2) h.len
end
section
variable {E:Calls'}
theorem Fx.new {p:Nat} {bs bs':List Blk} {l:List Int} {cs:List V} {ys:List Blk} (h:Wr bs p l) (k:Fx p (bs ++ (.cells cs :: ys)) bs'):bs.length ≠ p /\ gz bs' p ≠ some bs.length /\ ah bs' bs.length = some cs:=by
 have hp:=h.len;have h1:gz (bs ++ (.cells cs :: ys)) p ≠ some bs.length:=by
  rw [lN hp];intro hh;exact Nat.lt_irrefl _ (h.row_lt hh)
 obtain ⟨a,b⟩:=k.2 bs.length cs (by omega) h1 (by simp);exact ⟨by omega,b,a⟩
theorem Wr.fresh {p:Nat} {bs:List Blk} {l:List Int} (h:Wr bs p l) (ys:List Blk):bs.length ≠ p /\ gz (bs ++ ys) p ≠ some bs.length:=by
 have hp:=h.len;refine ⟨by omega,?_⟩;rw [lN hp];intro hh;exact Nat.lt_irrefl _ (h.row_lt hh)
def jc (t:Term):List Int:=IntKind.wrap .u8 t.kind :: eP t.text
theorem cc9 (t:Term) {p:Nat} {bs:List Blk} {l:List Int} (h:Wr bs p l) (hl:l.length + (jc t).length <= big):iE E 369 [.ptr p 0,ag t.c] p bs l (jc t):=by
 intro lo;simp only [jc,List.length_cons] at hl;obtain ⟨b1,l1,a1,a2,a3,a4⟩:=XB (E:=E) (h.lay [.cells (t.c.map .d)]) (IntKind.wrap .u8 t.kind) (by omega) bs.length;obtain ⟨f1,f2,f3⟩:=a4.new h;obtain ⟨b2,l2,c1,c2,c3,c4⟩:=zf (E:=E) a3 t.text (by simp; omega) l1;refine ⟨b2,min lo l2,?_,by omega,by simpa [jc] using c3,((Fx.lay h.len _).trans a4).trans c4⟩;rw [aB dh7 dt5];simp [af,MS,a1,f3,c1];exact dE c2 h.len
def mI (c:Cidr):List Int:=yV c.addr ++ [IntKind.wrap .u8 c.bits]
theorem cc1 (t:Cidr) {p:Nat} {bs:List Blk} {l:List Int} (h:Wr bs p l) (hl:l.length + (mI t).length <= big):iE E 281 [.ptr p 0,ag t.c] p bs l (mI t):=by
 intro lo;have h5:(mI t).length = 5:=rfl;obtain ⟨b1,l1,a1,a2,a3,a4⟩:=cc2 (E:=E) (h.lay [.cells (t.c.map .d)]) t.addr (by omega) bs.length;obtain ⟨f1,f2,f3⟩:=a4.new h;obtain ⟨b2,l2,c1,c2,c3,c4⟩:=XB (E:=E) a3 (IntKind.wrap .u8 t.bits) (by simp [yV]; omega) l1;refine ⟨b2,min lo l2,?_,by omega,by simpa [mI] using c3,((Fx.lay h.len _).trans a4).trans c4⟩;rw [aB df9 dr3];simp [af,MJ,a1,f3,c1];exact dE c2 h.len
def lD (n:Int):List Int:=aM (IntKind.wrap .u64 n)
theorem cc4 (n:Int) {p:Nat} {bs:List Blk} {l:List Int} (h:Wr bs p l) (hl:l.length + (lD n).length <= big):iE E 285 [.ptr p 0,.d (i64 n)] p bs l (lD n):=by
 intro lo;obtain ⟨b1,l1,a1,a2,a3,a4⟩:=mM (E:=E) h (IntKind.wrap .u64 n) hl bs.length;refine ⟨b1,min lo l1,?_,by omega,a3,a4⟩;rw [aB dg3 dr7];simp [af,MN,a1];exact dE a2 h.len
theorem dw3:TT 368 = some (wputQ 2 [(.d (.int .i64 0)),(.d (.str ⟨#[]⟩))]):=dh6
theorem dw1:TT 280 = some (wputQ 2 [(.d (.int .u32 0)),(.d (.int .i64 0))]):=df8
theorem dw2:TT 284 = some wput1Q:=dg2
theorem dv8:TT 209 = some (wputQ 3 (sl0 3)):=de0
theorem dv9:TT 211 = some (wputQ 4 (sl0 4)):=de2
theorem dw0:TT 213 = some (wputQ 2 [(.d (.str ⟨#[]⟩)),(.d (.slice true []))]):=de4
theorem dv7:TT 132 = some (wputQ 3 (sl0 3)):=dc7
theorem cc8 {s:Sl Term} (hs:short s) {p:Nat} {bs:List Blk} {l:List Int} (h:Wr bs p l) (hl:l.length + (seqB jc s.l).length <= big):iE E 368 [.ptr p 0,.d (s.d Term.c),.fn 369 []] p bs l (seqB jc s.l) :=
 pz (z:=2) (cells:=Term.c) (fun _=>rfl) (by decide) rfl dw3 dt4 hs (fun e _ bs l h hl=>cc9 e h hl) h hl
theorem cc0 {s:Sl Cidr} (hs:short s) {p:Nat} {bs:List Blk} {l:List Int} (h:Wr bs p l) (hl:l.length + (seqB mI s.l).length <= big):iE E 280 [.ptr p 0,.d (s.d Cidr.c),.fn 281 []] p bs l (seqB mI s.l) :=
 pz (z:=2) (cells:=Cidr.c) (fun _=>rfl) (by decide) rfl dw1 dr2 hs (fun e _ bs l h hl=>cc1 e h hl) h hl
theorem cc3 {s:Sl Int} (hs:short s) {p:Nat} {bs:List Blk} {l:List Int} (h:Wr bs p l) (hl:l.length + (seqB lD s.l).length <= big):iE E 284 [.ptr p 0,.d (s.d jJ),.fn 285 []] p bs l (seqB lD s.l) :=
 J2 (cell:=fun n=>i64 n) dw2 dr6 hs (fun e _ bs l h hl=>cc4 e h hl) h hl
def gp (ls:List (Sl Term)):List Int:=ls.flatMap fun s=>seqB jc s.l
theorem El {p:Nat} {xs:List (Sl Term)} (hxn:xs.length < 2 ^ 62) (hsh:∀ s ∈ xs,short s) {q:Nat} (hq:q ≠ p) {cap:Option Nat}:∀ (m i:Nat) (bs:List Blk) (lo:Nat) (l:List Int),i + m = xs.length -> Wr bs p l -> gz bs p ≠ some q -> ah bs q = some (xs.map fun s=>V.d (s.d Term.c)) -> l.length + (gp (xs.drop i)).length <= big →
 ∃ bs' lo',Cd E TT ak (.loop [0,6,7,8] lZ) [(0,.ptr p 0),(6,.row q 0 xs.length cap 1),(7,.d (i64 xs.length)),(8,.d (i64 i))] ⟨bs,lo⟩ = some (.exit 0,[],⟨bs',lo'⟩) ∧
  (lo' = lo /\ xs.drop i = [] \/ lo' <= p) /\ Wr bs' p (l ++ gp (xs.drop i)) /\ Fx p bs bs':=by
 intro m;have key:=ax (E:=E) (T:=TT) (val:=ak) [0,6,7,8] lZ;generalize Cd E TT ak (.loop [0,6,7,8] lZ) = W at key ⊢
 induction m with
 | zero =>
  intro i bs lo l hi hW h1 h2 hl;have h0:xs.drop i = []:=List.drop_eq_nil_of_le (by omega);refine ⟨bs,lo,?_,.inl ⟨rfl,h0⟩,by simpa [h0,gp] using hW,Fx.refl _ _⟩;rw [key];simp [lZ,show ¬ ((i:Int) < xs.length) from by omega]
 | succ m ih =>
  intro i bs lo l hi hW h1 h2 hl;have hlt:i < xs.length:=by omega
  have hd:xs.drop i = xs[i] :: xs.drop (i + 1):=List.drop_eq_getElem_cons hlt;have hix:=fun h=>kZ (b:=q) (o:=0) (z:=1) (cap:=cap) (kd:=.i64) (h:=h) hlt;simp only [Nat.mul_one,Nat.zero_add] at hix;have hs:sub (xs.map fun s=>V.d (s.d Term.c)) i 1 = some [.d (xs[i].d Term.c)]:=by
   rw [gP,if_pos (by simp; omega),List.drop_eq_getElem_cons (by simpa using hlt)]; simp
  have hx:=hsh _ (List.getElem_mem hlt);rw [hd] at hl ⊢;simp only [gp,List.flatMap_cons,List.length_append] at hl;generalize xs[i] = x at *;obtain ⟨b1,l1,a1,a2,a3,a4⟩:=cc8 (E:=E) hx hW (by omega) lo;obtain ⟨f1,f2⟩:=a4.2 q _ hq h1 h2;obtain ⟨bs',lo',q1,q2,q3,q4⟩:=ih (i + 1) b1 l1 (l ++ seqB jc x.l) (by omega) a3 f2 f1 (by rw [List.length_append,gp]; omega);have hw:=aK hlt hxn;refine ⟨bs',lo',?_,.inr ?_,by simpa [gp] using q3,a4.trans q4⟩
  · have hld:ldv ⟨bs,lo⟩ (.ptr q i) 1 true = some (.d (x.d Term.c),⟨bs,lo⟩):=by
     rw [fT,get_eq];show (match (match ah bs q with | some cs=>sub cs i 1 | none=>none) with | some cs=>_ | none=>none) = _;rw [h2]; simp only [hs]; rfl
    rw [key];simp [lZ,hix,hld,a1,hw,hlt,show ((i:Int) < xs.length) from by omega,-fT];simpa using q1
  · rcases q2 with ⟨rfl,_⟩ | q2
    · exact a2
    · exact q2
theorem Qv {p:Nat} {bs:List Blk} {l:List Int} (h:Wr bs p l) {xs:List (Sl Term)} (hne:xs ≠ []) (hn:xs.length < 2 ^ 62) (hsh:∀ s ∈ xs,short s) {q:Nat} (hq:q ≠ p) {cap:Option Nat} {n:Nat} (hnn:n = xs.length) (h1:gz bs p ≠ some q) (h2:ah bs q = some (xs.map fun s=>V.d (s.d Term.c))) (hl:l.length + (gp xs).length <= big):iE E 279 [.ptr p 0,.row q 0 n cap 1] p bs l (gp xs):=by
 intro lo;subst hnn;obtain ⟨bs',lo',k1,k2,k3,k4⟩:=El (E:=E) hn hsh hq (cap:=cap) xs.length 0 bs bs.length l (by omega) h h1 h2 (by simpa using hl);have hle:lo' <= p:=by
  rcases k2 with ⟨_,hx⟩ | k2
  · exact absurd (by simpa using hx) hne
  · exact k2
 refine ⟨bs',min lo lo',?_,by omega,by simpa using k3,k4⟩;rw [aB df7 dr1];simp [af,MH];rw [aH];simp at k1;simp [k1];exact dE hle h.len
def dX (s:Source):List Int:=gp [s.names,s.spaces] ++ seqB mI s.nets.l
theorem cb3 (t:Source) (ht:t.fits big) {p:Nat} {bs:List Blk} {l:List Int} (h:Wr bs p l) (hl:l.length + (dX t).length <= big):iE E 210 [.ptr p 0,ag t.c] p bs l (dX t):=by
 intro lo;simp only [dX,List.length_append] at hl;have hW2:=h.lay [.cells (t.c.map .d),.cells [.d (t.names.d Term.c),.d (t.spaces.d Term.c)]];have hfr:bs.length + 1 ≠ p /\ gz (bs ++ [.cells (t.c.map .d),.cells [.d (t.names.d Term.c),.d (t.spaces.d Term.c)]]) p ≠ some (bs.length + 1):=by
  have:=h.len;refine ⟨by omega,?_⟩;rw [lN this];intro hh;have:=h.row_lt hh;omega
 obtain ⟨b1,l1,a1,a2,a3,a4⟩:=Qv (E:=E) hW2 (xs:=[t.names,t.spaces]) (by simp) (by simp) (by
  intro s hs;simp only [List.mem_cons,List.not_mem_nil,or_false] at hs;rcases hs with rfl | rfl
  · exact ht.1
  · exact ht.2.1) (q:=bs.length + 1) hfr.1 (cap:=some 2) (n:=2) rfl hfr.2 (by simp) (by omega) bs.length
 obtain ⟨f1,f2,f3⟩:=a4.new h;obtain ⟨b2,l2,c1,c2,c3,c4⟩:=cc0 (E:=E) ht.2.2 a3 (by rw [List.length_append]; omega) l1;refine ⟨b2,min lo l2,?_,by omega,by simpa [dX] using c3,((Fx.lay h.len _).trans a4).trans c4⟩;rw [aB de1 dp6];simp [af,Mm,aA,a1,f3,c1];exact dE c2 h.len
def dY (t:Target):List Int:=seqB lD t.ports.l ++ gp [t.methods,t.paths,t.hosts]
theorem cb4 (t:Target) (ht:t.fits big) {p:Nat} {bs:List Blk} {l:List Int} (h:Wr bs p l) (hl:l.length + (dY t).length <= big):iE E 212 [.ptr p 0,ag t.c] p bs l (dY t):=by
 intro lo;simp only [dY,List.length_append] at hl;obtain ⟨b1,l1,a1,a2,a3,a4⟩:=cc3 (E:=E) ht.1 (h.lay [.cells (t.c.map .d)]) (by omega) bs.length;obtain ⟨f1,f2,f3⟩:=a4.new h;have hfr:=a3.fresh [.cells [.d (t.methods.d Term.c),.d (t.paths.d Term.c),.d (t.hosts.d Term.c)]];obtain ⟨b2,l2,c1,c2,c3,c4⟩:=Qv (E:=E) (a3.lay [.cells [.d (t.methods.d Term.c),.d (t.paths.d Term.c),.d (t.hosts.d Term.c)]]) (xs:=[t.methods,t.paths,t.hosts]) (by simp) (by simp) (by
  intro s hs;simp only [List.mem_cons,List.not_mem_nil,or_false] at hs;rcases hs with rfl | rfl | rfl
  · exact ht.2.1
  · exact ht.2.2.1
  · exact ht.2.2.2) (q:=b1.length) hfr.1 (cap:=some 3) (n:=3) rfl hfr.2 (by simp) (by rw [List.length_append]; omega) l1
 refine ⟨b2,min lo l2,?_,by omega,by simpa [dY] using c3,((Fx.lay h.len _).trans a4).trans ((Fx.lay a3.len _).trans c4)⟩;rw [aB de3 dp8];simp [af,Mq,aA,a1,f3,c1];exact dE c2 h.len
def jD (w:When):List Int:=eP w.head ++ gp [w.terms]
theorem cb5 (t:When) (ht:t.fits big) {p:Nat} {bs:List Blk} {l:List Int} (h:Wr bs p l) (hl:l.length + (jD t).length <= big):iE E 214 [.ptr p 0,ag t.c] p bs l (jD t):=by
 intro lo;simp only [jD,List.length_append] at hl;obtain ⟨b1,l1,a1,a2,a3,a4⟩:=zf (E:=E) (h.lay [.cells (t.c.map .d)]) t.head (by omega) bs.length;obtain ⟨f1,f2,f3⟩:=a4.new h;have hfr:=a3.fresh [.cells [.d (t.terms.d Term.c)]];obtain ⟨b2,l2,c1,c2,c3,c4⟩:=Qv (E:=E) (a3.lay [.cells [.d (t.terms.d Term.c)]]) (xs:=[t.terms]) (by simp) (by simp) (by
  intro s hs;simp only [List.mem_cons,List.not_mem_nil,or_false] at hs;subst hs;exact ht) (q:=b1.length) hfr.1 (cap:=some 1) (n:=1) rfl hfr.2 (by simp) (by rw [List.length_append]; omega) l1
 refine ⟨b2,min lo l2,?_,by omega,by simpa [jD] using c3,((Fx.lay h.len _).trans a4).trans ((Fx.lay a3.len _).trans c4)⟩;rw [aB de5 dq0];simp [af,Mt,aA,a1,f3,c1];exact dE c2 h.len
def jr (r:Rule):List Int:=seqB dX r.frm.l ++ (seqB dY r.to.l ++ seqB jD r.whn.l)
theorem ca4 (t:Rule) (ht:t.fits big) {p:Nat} {bs:List Blk} {l:List Int} (h:Wr bs p l) (hl:l.length + (jr t).length <= big):iE E 133 [.ptr p 0,ag t.c] p bs l (jr t):=by
 intro lo;simp only [jr,List.length_append] at hl;obtain ⟨b1,l1,a1,a2,a3,a4⟩:=pz (E:=E) (cells:=Source.c) (zero:=sl0 3) (fun _=>rfl) (by decide) rfl dv8 dp5 (enc:=dX) (f:=210) ht.1.1 (fun e he bs l h hl=>cb3 e (ht.1.2 e he) h hl) (h.lay [.cells (t.c.map .d)]) (by omega) bs.length;obtain ⟨f1,f2,f3⟩:=a4.new h;obtain ⟨b2,l2,c1,c2,c3,c4⟩:=pz (E:=E) (cells:=Target.c) (zero:=sl0 4) (fun _=>rfl) (by decide) rfl dv9 dp7 (enc:=dY) (f:=212) ht.2.1.1 (fun e he bs l h hl=>cb4 e (ht.2.1.2 e he) h hl) a3 (by rw [List.length_append]; omega) l1;obtain ⟨g1,g2⟩:=c4.2 _ _ f1 f2 f3;obtain ⟨b3,l3,d1,d2,d3,d4⟩:=pz (E:=E) (cells:=When.c) (zero:=[(.d (.str ⟨#[]⟩)),(.d (.slice true []))]) (fun _=>rfl) (by decide) rfl dw0 dp9 (enc:=jD) (f:=214) ht.2.2.1 (fun e he bs l h hl=>cb5 e (ht.2.2.2 e he) h hl) c3 (by rw [List.length_append,List.length_append]; omega) l2;refine ⟨b3,min lo l3,?_,by omega,by simpa [jr] using d3,(((Fx.lay h.len _).trans a4).trans c4).trans d4⟩;rw [aB dc8 do4];simp [af,LW,a1,f3,c1,g1,d1];exact dE d2 h.len
end
section
variable {E:Calls'}
theorem mV {α:Type} {f:α -> List Int} {K:Nat}:∀ {l:List α},(∀ x ∈ l,(f x).length <= K) -> (l.flatMap f).length <= l.length * K
 | [],_=>by simp
 | x :: l,h=>by
  have h1:=h x (by simp);have h2:=mV (l:=l) fun y hy=>h y (List.mem_cons_of_mem _ hy);rw [cK,List.length_cons,Nat.add_mul,Nat.one_mul];omega
theorem dG {α:Type} {f:α -> List Int} {K n:Nat} {l:List α} (hn:l.length <= n) (h:∀ x ∈ l,(f x).length <= K):(seqB f l).length <= 10 + n * K:=by
 have h1:=mV h;have h2:=aZ l.length;have h3:l.length * K <= n * K:=Nat.mul_le_mul_right K hn;simp only [seqB,List.length_append];omega
theorem qV {s:ByteArray} (h:eqS s ⟨#[]⟩ = true):s.size = 0:=by
 unfold eqS at h;have h1:s.toList = (⟨#[]⟩:ByteArray).toList:=eq_of_beq h;have h2:=iN s;rw [h1,bv] at h2;exact h2.symm
theorem Jo {t:Term} (h:gq t = true):(jc t).length <= 75:=by
 have h1:=gT t.text;have h2:t.text.size <= 64:=by
  simp only [gq,Bool.and_eq_true] at h;obtain ⟨_,h⟩:=h;split at h
  · have:=qV h; omega
  · simp only [Bool.and_eq_true,decide_eq_true_eq] at h;omega
 simp only [jc,List.length_cons];omega
theorem Jp {s:Sl Term} (h:aR s = true):(seqB jc s.l).length <= 460:=by
 simp only [aR,Bool.and_eq_true,decide_eq_true_eq,List.all_eq_true] at h;exact dG (n:=6) (K:=75) (by omega) fun x hx=>Jo (h.2 x hx)
theorem vP {ls:List (Sl Term)} {n:Nat} (hn:ls.length <= n) (h:ls.all aR = true):(gp ls).length <= n * 460:=by
 have h1:=mV (f:=fun s:Sl Term=>seqB jc s.l) (K:=460) (l:=ls) fun x hx=>Jp (List.all_eq_true.1 h x hx);have h3:ls.length * 460 <= n * 460:=Nat.mul_le_mul_right _ hn;simp only [gp];omega
theorem AV {s:Source} (h:dM s = true):(dX s).length <= 960:=by
 have h0:([s.names,s.spaces].all aR && jl s.nets) = true:=h;rw [Bool.and_eq_true] at h0;have h1:=vP (n:=2) (by simp) h0.1;have h2:=h0.2;simp only [jl,Bool.and_eq_true,decide_eq_true_eq] at h2;have h3:=dG (n:=6) (K:=5) (f:=mI) (l:=s.nets.l) (by omega) fun x _=>Nat.le_refl 5;simp only [dX,List.length_append];omega
theorem Ba {s:Target} (h:aU s = true):(dY s).length <= 1450:=by
 have h0:(([s.methods,s.paths,s.hosts].all aR) && (decide ((s.ports.l.length:Int) <= 6) && s.ports.l.all ko) && ((rT (dx s.ports.l):Int) == (s.ports.l.length:Int))) = true:=h;simp only [Bool.and_eq_true,decide_eq_true_eq] at h0;have h1:=vP (ls:=[s.methods,s.paths,s.hosts]) (n:=3) (by simp) h0.1.1;have h3:=dG (n:=6) (K:=10) (f:=lD) (l:=s.ports.l) (by omega) fun x _=>aZ _;simp only [dY,List.length_append];omega
theorem JD {s:When} (h:gu s = true):(jD s).length <= 534:=by
 have h0:(iJ s.head && [s.terms].all aR && decide ((s.terms.l.length:Int) > 0)) = true:=h;simp only [Bool.and_eq_true,decide_eq_true_eq] at h0;have h1:=vP (ls:=[s.terms]) (n:=1) (by simp) h0.1.2;have h2:=gT s.head;have h3:=h0.1.1;simp only [iJ,Bool.and_eq_true,decide_eq_true_eq] at h3;simp only [jD,List.length_append];omega
theorem I9 {s:Rule} (h:dW s = true):(jr s).length <= 8862:=by
 simp only [dW,Bool.and_eq_true,decide_eq_true_eq,List.all_eq_true] at h;have h1:=dG (n:=3) (K:=960) (f:=dX) (l:=s.frm.l) (by omega) fun x hx=>AV (h.1.1.2 x hx);have h2:=dG (n:=3) (K:=1450) (f:=dY) (l:=s.to.l) (by omega) fun x hx=>Ba (h.1.2.2 x hx);have h3:=dG (n:=3) (K:=534) (f:=jD) (l:=s.whn.l) (by omega) fun x hx=>JD (h.2.2 x hx);simp only [jr,List.length_append];omega
def gI (p:Pol):List Int:=aM p.id ++ (eP p.ns ++ ([p.service,IntKind.wrap .u64 p.deny].flatMap aM ++ seqB jr p.rules.l))
theorem xE {s:ByteArray} (h:eu s = true):s.size <= 20:=by
 simp only [eu,Bool.and_eq_true,decide_eq_true_eq] at h;omega
theorem lW {p:Pol} (h:aS p = true):(gI p).length <= 53300:=by
 simp only [aS,Bool.and_eq_true,decide_eq_true_eq,Bool.or_eq_true,List.all_eq_true] at h;have h1:=dG (n:=6) (K:=8862) (f:=jr) (l:=p.rules.l) (by omega) fun x hx=>I9 (h.2.2 x hx);have h2:=gT p.ns;have h3:p.ns.size <= 20:=by
  rcases h.1.1.1.2 with hh | hh
  · have:=qV hh; omega
  · exact xE hh
 have h4:=aZ p.id;have h5:=aZ p.service;have h6:=aZ (IntKind.wrap .u64 p.deny);simp only [gI,List.length_append,List.flatMap_cons,List.flatMap_nil,List.length_nil];omega
def bytesD (l:List Int):D:=.slice false (l.map fun n=>[.int .u8 n])
theorem yX (x:Int):aM x ≠ []:=by
 intro h;have:=congrArg List.length h;rw [aM,qg] at this;simp at this
theorem qx {h:Hp} {k b:Nat} {l:List Int} {cap:Option Nat} (hb:ah h.bs b = some (l.map (iv .u8))):dataV h (k + 1) (.row b 0 l.length cap 1) = some (bytesD l):=by
 have hf:∀ l:List Int,flat (l.map fun n=>[D.int .u8 n]) = l.map (iv .u8):=by
  intro l;simp only [flat]
  induction l with
  | nil=>rfl
  | cons x l ih=>simp only [List.map_cons,List.flatten_cons,List.map_append,ih]; rfl
 exact dI (z:=1) (es:=l.map fun n=>[D.int .u8 n]) (rest:=[]) (by simp) (by simp) (by rw [hf,List.append_nil]; exact hb)
section
variable (h385:∀ t:Target,t.wf big -> ∀ h,E 276 [ag t.c] h = some (bl (aU t),h))
include h385
theorem bz7 (p:Pol) (hp:p.wf big) (h:Hp):Sm E TT ak 36 [ag p.c] h = some (.tup (if aS p then [.d (bytesD (gI p)),.d (i64 0)] else [.d (.slice true []),.d (i64 1)]),h):=by
 have n1:=fun h=>Qu h385 p hp h;rw [bf db8 dn4];cases hm:aS p with
 | false =>
  simp only [hm] at n1;simp [af,Ij,n1]
 | true =>
  simp only [hm] at n1;have hlen:=lW hm;have hbig:big = 2 ^ 30:=rfl;simp only [gI,List.length_append] at hlen;obtain ⟨lo0,m1⟩:=Xq (E:=E) [.cells (p.c.map .d)] 0;have hW:=JF [.cells (p.c.map .d)];have hW1:gz ([.cells (p.c.map .d)] ++ [.cells [.d (.slice true [])]]) 1 ≠ some 0:=by simp [gz]
  obtain ⟨b1,l1,a1,a2,a3,a4⟩:=mM (E:=E) hW p.id (by simp; omega) lo0;obtain ⟨f1,f2⟩:=a4.2 0 (p.c.map .d) (by simp) hW1 (by simp);obtain ⟨b2,l2,c1,c2,c3,c4⟩:=zf (E:=E) a3 p.ns (by simp; omega) l1;obtain ⟨g1,g2⟩:=c4.2 _ _ (by simp) f2 f1;have hfr:=c3.fresh [.cells [.d (u64 p.service),.d (u64 (IntKind.wrap .u64 p.deny))]];obtain ⟨b3,l3,d1,d2,d3,d4⟩:=EW (E:=E) (c3.lay [.cells [.d (u64 p.service),.d (u64 (IntKind.wrap .u64 p.deny))]]) (xs:=[p.service,IntKind.wrap .u64 p.deny]) (by simp) (by simp) (q:=b2.length) hfr.1 (cap:=some 2) hfr.2 (by simp) (by simp only [List.length_append,List.length_nil]; omega) l2;obtain ⟨k1,k2⟩:=((Fx.lay c3.len _).trans d4).2 _ _ (by simp) g2 g1;obtain ⟨b4,l4,e1,e2,e3,e4⟩:=pz (E:=E) (cells:=Rule.c) (zero:=sl0 3) (fun _=>rfl) (by decide) rfl dv7 do3 (enc:=jr) (f:=133) hp.2.2.2.2.1 (fun e he bs l h hl=>ca4 e ((hp.2.2.2.2.2 e he).fits) h hl) d3 (by simp only [List.length_append,List.length_nil]; omega) l3;have hfin:[] ++ aM p.id ++ eP p.ns ++ [p.service,IntKind.wrap .u64 p.deny].flatMap aM ++ seqB jr p.rules.l = gI p:=by simp [gI]
  rw [hfin] at e3;obtain ⟨l5,r1⟩:=Xt (E:=E) e3 (by have:=lW hm; omega) (by simp [gI,yX]) l4;have hfz:=qx (h:=⟨b4 ++ [.cells ((gI p).map (iv .u8))],l5⟩) (k:=7) (b:=b4.length) (l:=gI p) (cap:=none) (by simp);simp at a1 c1 d1 e1 r1 m1 f1 g1 k1;simp [af,Ij,n1,m1,a1,f1,c1,g1,aA,d1,k1,e1,r1];simp [frz,dD,hfz]
end
end
section
variable {E:Calls'}
def nA (p:Pod):List Int:=[p.uid].flatMap aM ++ (eP p.ns ++ (eP p.sa ++ [IntKind.wrap .u64 p.host,IntKind.wrap .u64 p.addr,IntKind.wrap .u64 p.port,p.service].flatMap aM))
def nM (s:Svc):List Int:=[s.id].flatMap aM ++ (eP s.ns ++ [IntKind.wrap .u64 s.addr,IntKind.wrap .u64 s.port,s.way].flatMap aM)
def qN (w:Way):List Int:=[w.id,IntKind.wrap .u64 w.node].flatMap aM
def strOf (l:List Int):ByteArray:=⟨(l.map fun n=>UInt8.ofNat n.toNat).toArray⟩
def fH (p:Pol):List Int:=eP (strOf (gI p))
theorem Wr.fresh1 {p:Nat} {bs:List Blk} {l:List Int} (h:Wr bs p l) (a:Blk) (ys:List Blk):bs.length + 1 ≠ p /\ gz (bs ++ (a :: ys)) p ≠ some (bs.length + 1):=by
 have hp:=h.len;refine ⟨by omega,?_⟩;rw [lN hp];intro hh;have:=h.row_lt hh;omega
def lS (x:V) (h:Hp):Option (V × Hp):=match x with
 | .d (.str _)=>none
 | v=>match aF h v 1 with
  | some (_,cs)=>match cs.mapM (fun v=>match v with | .d (.int .u8 n)=>some (UInt8.ofNat n.toNat) | _=>none) with
   | some l=>some (.d (.str ⟨l.toArray⟩),h)
   | none=>none
  | none=>none
@[simp] theorem TQ {C:Calls'} {ev:X -> V} {h:Hp} {x:X}:opE C (.convBS x) ev h = lS (ev x) h:=(rfl)
theorem rO (l:List Int):(l.map fun n=>[D.int .u8 n]).flatten.map V.d = l.map (iv .u8):=by
 induction l with
 | nil=>rfl
 | cons x l ih=>simp only [List.map_cons,List.flatten_cons,List.map_append,ih]; rfl
theorem wU {h:Hp} {l:List Int}:lS (.d (bytesD l)) h = some (.d (.str (strOf l)),h):=by
 have hall:((l.map fun n=>[D.int .u8 n]).all fun e=>e.length == 1) = true:=by simp
 have hm:(l.map (iv .u8)).mapM (fun v=>match v with | .d (.int .u8 n)=>some (UInt8.ofNat n.toNat) | _=>none) = some (l.map fun n=>UInt8.ofNat n.toNat):=by
  induction l with
  | nil=>rfl
  | cons x l ih =>
   simp only [List.map_cons,List.mapM_cons] at ih ⊢;rw [ih (by simp)];rfl
 simp only [lS,bytesD,aF,hall,if_true,rO,hm];rfl
end
section
variable {E:Calls'}
def QO (c:Cfg):List Int:=[c.epoch,c.next,IntKind.wrap .u64 c.hosts,IntKind.wrap .u64 c.ways,(c.pods.l.length:Int)].flatMap aM ++ (c.pods.l.flatMap nA ++ ([(c.services.l.length:Int)].flatMap aM ++ (c.services.l.flatMap nM ++ ([(c.bound.l.length:Int)].flatMap aM ++ (c.bound.l.flatMap qN ++ ([(c.policies.l.length:Int)].flatMap aM ++ c.policies.l.flatMap fH))))))
theorem gN (l:List Int):(strOf l).size = l.length:=by
 show ((l.map fun n=>UInt8.ofNat n.toNat).toArray).size = _;simp
theorem Oa {p:Way}:(qN p).length <= 20:=by
 have a1:=aZ p.id;have a5:=aZ (IntKind.wrap .u64 p.node);simp only [qN,List.length_append,List.flatMap_cons,List.flatMap_nil,List.length_nil];omega
theorem H6 {p:Pol} (h:aS p = true):(fH p).length <= 53310:=by
 have a2:=gT (strOf (gI p));rw [gN] at a2;have:=lW h;simp only [fH];omega
theorem wrapN {n:Nat} (h:n <= 2 ^ 30):IntKind.wrap .u64 (n:Int) = n:=by
 simp [IntKind.wrap,IntKind.bits,IntKind.signed];omega
section
variable (h385:∀ t:Target,t.wf big -> ∀ h,E 276 [ag t.c] h = some (bl (aU t),h))
include h385
def QR (c:Cfg):Bool:=VS c && cv5 c && decide (((QO c).length:Int) <= 8192)
end
end
section
theorem lI:∀ {l:List Int},bH l = true -> l.Pairwise (· < ·)
 | [],_=>.nil
 | [x],_=>by simp
 | x :: y :: l,h=>by
  simp only [bH,Bool.and_eq_true,decide_eq_true_eq] at h;have ih:=lI h.2;refine List.pairwise_cons.2 ⟨fun z hz=>?_,ih⟩;rcases List.mem_cons.1 hz with rfl | hz
  · exact h.1
  · exact Int.lt_trans h.1 ((List.pairwise_cons.1 ih).1 z hz)
theorem sj {α:Type} {f:α -> Int}:∀ {l:List α},(l.map f).Nodup -> ∀ {x:α},x ∈ l -> l.find? (fun y=>f y == f x) = some x
 | [],_,x,h=>by simp at h
 | y :: l,hn,x,h=>by
  simp only [List.map_cons,List.nodup_cons] at hn;rcases List.mem_cons.1 h with rfl | h
  · simp
  · have:f y ≠ f x:=fun hh=>hn.1 (hh ▸ List.mem_map_of_mem h);rw [List.find?_cons];have hb:(f y == f x) = false:=by simpa using this
    simp only [hb];exact sj hn.2 h
structure Fair (c:Cfg):Prop where
 uid:(c.pods.l.map Pod.uid).Pairwise (· < ·)
 ids:(c.services.l.map Svc.id).Nodup
 id0:(0:Int) ∉ c.services.l.map Svc.id
 adr:(c.pods.l.map Pod.addr ++ c.services.l.map Svc.addr).Nodup
 svc:∀ p ∈ c.pods.l,p.service = 0 \/ p.service ∈ c.services.l.map Svc.id
 way:∀ s ∈ c.services.l,s.way = 0 \/ ∃ w,c.bound.l.find? (fun w=>w.id == s.way) = some w /\ w.id = s.way
 few:c.pods.l.length <= 16 /\ c.services.l.length <= 6
theorem Fair.pod {c:Cfg} (h:Fair c) {p:Pod} (hp:p ∈ c.pods.l):c.pods.l.find? (fun q=>q.uid == p.uid) = some p:=sj (f:=Pod.uid) (h.uid.imp fun h=>by omega) hp
theorem Fair.wayT {c:Cfg} (h:Fair c) {s:Svc} (hs:s ∈ c.services.l):(s.way = 0 /\ Go.Proofs.YtjkfknafpgfchaaGreat.wayT c s.id = none) \/ (s.way ≠ 0 /\ ∃ w,Go.Proofs.YtjkfknafpgfchaaGreat.wayT c s.id = some w /\ w.id = s.way):=by
 have e1:=sj (f:=Svc.id) h.ids hs;by_cases h0:s.way = 0
 · exact .inl ⟨h0,by simp [Go.Proofs.YtjkfknafpgfchaaGreat.wayT,e1,h0]⟩
 · rcases h.way s hs with hw | ⟨w,h1,h2⟩
   · exact absurd hw h0
   · exact .inr ⟨h0,w,by simp [Go.Proofs.YtjkfknafpgfchaaGreat.wayT,e1,h0,h1],h2⟩
end
end Go.Proofs.YtjkfknafpgfchaaGreat
