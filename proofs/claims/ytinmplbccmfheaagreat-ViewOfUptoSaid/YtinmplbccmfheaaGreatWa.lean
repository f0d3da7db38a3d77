/- code.Writer: bytes of one's own, field behind field. -/
import Derived.Test.YtinmplbccmfheaaGreatCf
import Derived.KernelRfl
set_option maxRecDepth 100000
set_option linter.unusedVariables false
set_option linter.unusedSimpArgs false
namespace Go.Proofs.YtinmplbccmfheaaGreat
open IntKind (wrap)
section
def FU (x:V)(h:Hp):Option (V×Hp):=match x with
 | .ptr b o=>some (.ptr b o,h)
 | .eptr cs o=>some (.eptr cs o,h)
 | .fn f cs=>some (.fn f cs,h)
 | .mfn f cs=>some (.mfn f cs,h)
 | _=>none
section
variable {C:Calls'}{ev:X->V}{h:Hp}
@[simp] theorem Rp {x:X}:opE C (.nilchk x) ev h=FU (ev x) h:=(rfl)
@[simp] theorem Re {b o:Nat}:FU (.ptr b o) h=some (.ptr b o,h):=(rfl)
@[simp] theorem ad3 {b o:Nat}{neg:Bool}:eqv .ptr neg (.ptr b o) (.d .nilp) h=some (.d (.bool (false != neg)),h):=(rfl)
end
def jG (bs:List Blk)(p:Nat):Option Nat:=match ah bs p with
 | some [.row b _ _ _ _]=>some b
 | _=>none
def Wr (bs:List Blk)(p:Nat)(l:List Int):Prop :=
 (l=[]/\ah bs p=some [.d (.slice true [])])\/(l≠[]/\∃ b,b≠p/\ah bs p=some [.row b 0 l.length none 1]/\ah bs b=some (l.map (iv .u8)))
def Fx (p:Nat)(bs bs':List Blk):Prop:=bs.length<=bs'.length/\∀ x cs,x≠p->jG bs p≠some x->ah bs x=some cs->ah bs' x=some cs/\jG bs' p≠some x
theorem Fx.refl (p:Nat)(bs:List Blk):Fx p bs bs:=⟨br _,λx cs _ h2 h3=>⟨h3,h2⟩⟩
theorem Fx.trans {p:Nat}{a b c:List Blk}(h:Fx p a b)(k:Fx p b c):Fx p a c :=
 ⟨cf h.1 k.1,λx cs h1 h2 h3=>k.2 x cs h1 (h.2 x cs h1 h2 h3).2 (h.2 x cs h1 h2 h3).1⟩
theorem Wr.len {bs:List Blk}{p:Nat}{l:List Int}(h:Wr bs p l):p<bs.length:=by
 obtain ⟨_,h⟩ | ⟨_,b,_,h,_⟩:=h<;>exact aK h
theorem Wr.row_lt {bs:List Blk}{p:Nat}{l:List Int}(h:Wr bs p l){x:Nat}(hx:jG bs p=some x):x<bs.length:=by
 obtain ⟨_,h⟩ | ⟨_,b,_,h,h2⟩:=h
 . simp [jG,h] at hx
 . simp only [jG,h,be] at hx;subst hx; exact aK h2
theorem pJ {bs:List Blk}{p:Nat}(h:p<bs.length)(ys:List Blk):jG (bs++ys) p=jG bs p:=by
 simp only [jG,FL h]
theorem Wr.lay {bs:List Blk}{p:Nat}{l:List Int}(h:Wr bs p l)(ys:List Blk):Wr (bs++ys) p l:=by
 obtain ⟨h1,h2⟩ | ⟨h1,b,h2,h3,h4⟩:=h
 . exact .inl ⟨h1,av h2⟩
 . exact .inr ⟨h1,b,h2,av h3,av h4⟩
theorem Fx.lay {p:Nat}{bs:List Blk}(h:p<bs.length)(ys:List Blk):Fx p bs (bs++ys) :=
 ⟨by simp,λx cs h1 h2 h3=>⟨av h3,by rw [pJ h]; exact h2⟩⟩
theorem dN {bs:List Blk}{b x:Nat}{cs:List V}:ah (bs.set b (.cells cs)) x=if b=x then (if b<bs.length then some cs else none) else ah bs x:=by
 unfold ah;rw [List.getElem?_set];by_cases h:b=x
 . subst h;by_cases hb:b<bs.length<;>simp [hb]
 . simp [h]
theorem Wr.app {bs:List Blk}{p:Nat}{l:List Int}(h:Wr bs p l){x:V}{xs:List Int}{m lo:Nat}(hr:aH ⟨bs,lo⟩ x 1=some (m,xs.map (iv .u8)))(hm:m=xs.length)(hl:l.length+xs.length<=big) :
 ∃ v v' bs1 lo1,ah bs p=some [v]/\nu v=some v/\nu v'=some v'/\v'.cells=some [v']/\d9 ⟨bs,lo⟩ 1 1 v x=some (v',⟨bs1,lo1⟩)/\p<bs1.length/\ah bs1 p=some [v]/\Wr (bs1.set p (.cells [v'])) p (l++xs)/\Fx p bs (bs1.set p (.cells [v'])):=by
 subst hm;have hp:=h.len;have hroom:roomy (l.length+xs.length) 1=true:=by
  simp only [roomy,aE,bw]; exact ⟨hl,by decide⟩
 obtain ⟨rfl,h2⟩ | ⟨h1,b,h2,h3,h4⟩:=h
 . by_cases hx:xs=[]
   . subst hx;refine ⟨.d (.slice true []),.d (.slice true []),bs,lo,h2,rfl,rfl,rfl,?_,hp,h2,.inl ⟨rfl,by simp [dN,hp]⟩,?_⟩
     . simp [d9,hr,aI]
     . refine ⟨by simp,λy cs k1 k2 k3=>⟨by rw [dN,if_neg (Ne.symm k1)]; exact k3,?_⟩⟩;simp [jG,dN,hp]
   . have hx0:¬ xs.length=0:=by simpa using hx
     have hroom':roomy xs.length 1=true:=by simpa using hroom
     refine ⟨.d (.slice true []),.row bs.length 0 xs.length none 1,bs++[.cells (xs.map (iv .u8))],lo,h2,rfl,rfl,rfl,?_,by simp; omega,av h2,.inr ⟨by simpa using hx,bs.length,by omega,?_,?_⟩,?_⟩
     . simp [d9,hr,aI,hx0,hx,hroom']
     . rw [dN,if_pos rfl,if_pos (by simp; omega)]; simp
     . rw [dN,if_neg (by omega),dU]; simp
     . refine ⟨by simp,λy cs k1 k2 k3=>⟨by rw [dN,if_neg (Ne.symm k1)]; exact av k3,?_⟩⟩;have:=aK k3;simp [jG,dN];rw [if_pos (by omega)];simp; omega
 . have hbl:=aK h4;have hpos:0<l.length:=List.length_pos_iff.2 h1;by_cases hx:xs=[]
   . subst hx;refine ⟨.row b 0 l.length none 1,.row b 0 l.length none 1,bs,lo,h3,rfl,rfl,rfl,?_,hp,h3,.inr ⟨by simpa using h1,b,h2,?_,?_⟩,?_⟩
     . simp [d9,hr,aI]
     . rw [dN,if_pos rfl,if_pos hp]; simp
     . rw [dN,if_neg (Ne.symm h2)]; simpa using h4
     . refine ⟨by simp,λy cs k1 k2 k3=>⟨by rw [dN,if_neg (Ne.symm k1)]; exact k3,?_⟩⟩;simp only [jG,h3] at k2;simpa [jG,dN,hp] using k2
   . have hx0:¬ xs.length=0:=by simpa using hx
     have hsub:sub (l.map (iv .u8)) 0 (l.length * 1)=some (l.map (iv .u8)):=bN (by simp);refine ⟨.row b 0 l.length none 1,.row bs.length 0 (l.length+xs.length) none 1,bs.set b (.cells [])++[.cells ((l++xs).map (iv .u8))],min lo b,h3,rfl,rfl,rfl,?_,by simp; omega,?_,.inr ⟨by simp [h1],bs.length,by omega,?_,?_⟩,?_⟩
     . simp only [d9,hr,aI,get_eq,h4,hsub,hroom];simp [hx0,hx,hpos,Hp.set]
     . refine av ?_;rw [dN,if_neg h2]; exact h3
     . rw [dN,if_pos rfl,if_pos (by simp; omega)]; simp
     . rw [dN,if_neg (by omega)];have:=dU (bs:=bs.set b (.cells [])) (ys:=[.cells ((l++xs).map (iv .u8))]);simp only [List.length_set] at this;rw [this]; rfl
     . refine ⟨by simp,λy cs k1 k2 k3=>?_⟩;simp only [jG,h3,ne_eq,be] at k2;have:=aK k3;refine ⟨by rw [dN,if_neg (Ne.symm k1)]; exact av (by rw [dN,if_neg k2]; exact k3),?_⟩;simp [jG,dN];rw [if_pos (by omega)];simp; omega
section
variable {E:Calls'}
def kz (E:Calls')(f:FuncId)(args:List V)(p:Nat)(bs:List Blk)(l xs:List Int):Prop:=∀ lo,∃ bs' lo',Sm E TT au f args ⟨bs,lo⟩=some (.tup [],⟨bs',lo'⟩)/\lo'<=p/\Wr bs' p (l++xs)/\Fx p bs bs'
theorem VQ {p:Nat}{bs:List Blk}{l xs:List Int}(h:Wr bs p l){x:V}(hnu:nu x=some x){m:Nat}(hr:∀ lo,aH ⟨bs,lo⟩ x 1=some (m,xs.map (iv .u8)))(hm:m=xs.length)(hl:l.length+xs.length<=big):kz E 171 [.ptr p 0,x] p bs l xs:=by
 intro lo;obtain ⟨v,v',bs1,lo1,k1,k2,k3,k4,k5,k6,k7,k8,k9⟩:=h.app (hr bs.length) hm hl;have hp:=h.len;refine ⟨_,min lo (min lo1 p),?_,by omega,k8,k9⟩;rw [aJ bl4 cc2];simp [af,Oc,k1,k2,k3,k4,k5,k7,hnu,V.under,Hp.set];rw [if_neg (λhh=>by have:=hh.1; omega)];rfl
end
end
section
variable {E:Calls'}
def lenTab:ByteArray:=⟨#[0,1,2,2,3,3,3,3,4,4,4,4,4,4,4,4,5,5,5,5,5,5,5,5,5,5,5,5,5,5,5,5,6,6,6,6,6,6,6,6,6,6,6,6,6,6,6,6,6,6,6,6,6,6,6,6,6,6,6,6,6,6,6,6,7,7,7,7,7,7,7,7,7,7,7,7,7,7,7,7,7,7,7,7,7,7,7,7,7,7,7,7,7,7,7,7,7,7,7,7,7,7,7,7,7,7,7,7,7,7,7,7,7,7,7,7,7,7,7,7,7,7,7,7,7,7,7,7,8,8,8,8,8,8,8,8,8,8,8,8,8,8,8,8,8,8,8,8,8,8,8,8,8,8,8,8,8,8,8,8,8,8,8,8,8,8,8,8,8,8,8,8,8,8,8,8,8,8,8,8,8,8,8,8,8,8,8,8,8,8,8,8,8,8,8,8,8,8,8,8,8,8,8,8,8,8,8,8,8,8,8,8,8,8,8,8,8,8,8,8,8,8,8,8,8,8,8,8,8,8,8,8,8,8,8,8,8,8,8,8,8,8,8,8,8,8,8,8,8,8,8,8,8,8,8,8]⟩
def lenL:List UInt8:=lenTab.data.toList
theorem JS:lenL.length=256:=by decide +kernel
theorem Ed:lenL.all (λb=>decide (b.toNat<=8))=true:=by decide +kernel
def lenT (i:Nat):Int:=match lenL[i]? with
 | some b=>b.toNat
 | none=>0
theorem Aq (i:Nat):0<=lenT i/\lenT i<=8:=by
 unfold lenT;split
 . rename_i b hb;have:=cj.1 Ed b (cc hb);simp at this;omega
 . omega
theorem ab1 (n:Int):0<=wrap .u8 n/\wrap .u8 n<256:=by
 simp [wrap,IntKind.bits,IntKind.signed];omega
theorem Ra {n:Int}{h:Hp}:vK (.d (.str lenTab)) (.d (.int .u8 (wrap .u8 n))) h=some (.d (.int .u8 (lenT (wrap .u8 n).toNat)),h):=by
 obtain ⟨h0,h1⟩:=ab1 n;generalize wrap .u8 n=m at *;have hlt:m.toNat<lenL.length:=by rw [JS]; omega
 have hb:lenTab.toList[m.toNat]?=some lenL[m.toNat]:=by rw [bR]; exact ac hlt
 simp only [vK,if_pos h0,hb,lenT,ac hlt]
def mW (x:Int):Int:=if x>=4294967296 then x.fdiv 4294967296 else x
def nY (x:Int):Int:=if x>=65536 then x.fdiv 65536 else x
def uz (x:Int):Int:=if x>=256 then x.fdiv 256 else x
def bY (x:Int):Int:=(if x>=4294967296 then 32 else 0)+(if mW x>=65536 then 16 else 0)+(if nY (mW x)>=256 then 8 else 0)+lenT (wrap .u8 (uz (nY (mW x)))).toNat
theorem oQ (x:Int):0<=bY x/\bY x<=64:=by
 have:=Aq (wrap .u8 (uz (nY (mW x)))).toNat;unfold bY
 repeat' split
 all_goals omega
theorem Q7 (x:Int):(x>=4294967296/\bC .shr (.d (.int .u64 x)) (.d (.int .u64 32))=some (.int .u64 (mW x)))\/(¬ x>=4294967296/\mW x=x):=by
 by_cases c:x>=4294967296
 . exact .inl ⟨c,by rw [iC (by decide),mW,if_pos c]; rfl⟩
 . exact .inr ⟨c,if_neg c⟩
theorem Q8 (x:Int):(x>=65536/\bC .shr (.d (.int .u64 x)) (.d (.int .u64 16))=some (.int .u64 (nY x)))\/(¬ x>=65536/\nY x=x):=by
 by_cases c:x>=65536
 . exact .inl ⟨c,by rw [iC (by decide),nY,if_pos c]; rfl⟩
 . exact .inr ⟨c,if_neg c⟩
theorem Q9 (x:Int):(x>=256/\bC .shr (.d (.int .u64 x)) (.d (.int .u64 8))=some (.int .u64 (uz x)))\/(¬ x>=256/\uz x=x):=by
 by_cases c:x>=256
 . exact .inl ⟨c,by rw [iC (by decide),uz,if_pos c]; rfl⟩
 . exact .inr ⟨c,if_neg c⟩
theorem VU (x:Int)(h:Hp):Sm E TT au 124 [.d (u64 x)] h=some (.d (i64 (bY x)),h):=by
 rw [aU bm3 cd1];have htab:(⟨#[0,1,2,2,3,3,3,3,4,4,4,4,4,4,4,4,5,5,5,5,5,5,5,5,5,5,5,5,5,5,5,5,6,6,6,6,6,6,6,6,6,6,6,6,6,6,6,6,6,6,6,6,6,6,6,6,6,6,6,6,6,6,6,6,7,7,7,7,7,7,7,7,7,7,7,7,7,7,7,7,7,7,7,7,7,7,7,7,7,7,7,7,7,7,7,7,7,7,7,7,7,7,7,7,7,7,7,7,7,7,7,7,7,7,7,7,7,7,7,7,7,7,7,7,7,7,7,7,8,8,8,8,8,8,8,8,8,8,8,8,8,8,8,8,8,8,8,8,8,8,8,8,8,8,8,8,8,8,8,8,8,8,8,8,8,8,8,8,8,8,8,8,8,8,8,8,8,8,8,8,8,8,8,8,8,8,8,8,8,8,8,8,8,8,8,8,8,8,8,8,8,8,8,8,8,8,8,8,8,8,8,8,8,8,8,8,8,8,8,8,8,8,8,8,8,8,8,8,8,8,8,8,8,8,8,8,8,8,8,8,8,8,8,8,8,8,8,8,8,8,8,8,8,8,8,8]⟩:ByteArray)=lenTab:=rfl;have hl:=Aq (wrap .u8 (uz (nY (mW x)))).toNat;have hL:=λh=>Ra (n:=uz (nY (mW x))) (h:=h);unfold bY;have hA:=Q7 x;have hB:=Q8 (mW x);have hC:=Q9 (nY (mW x));have hw:∀ n:Int,0<=n->n<=1000->wrap .i64 n=n:=λn h1 h2=>wrap64 (by omega) (by omega);have w16:=hw 16 (by omega) (by omega);have w40:=hw 40 (by omega) (by omega);have w48:=hw 48 (by omega) (by omega);have w56:=hw 56 (by omega) (by omega);have w24:=hw 24 (by omega) (by omega);have w8:=hw 8 (by omega) (by omega);generalize mW x=a at *;generalize nY a=b at *;generalize uz b=c at *;generalize lenT (wrap .u8 c).toNat=L at *;have wL:=hw L (by omega) (by omega);have v1:=hw (8+L) (by omega) (by omega);have v2:=hw (16+L) (by omega) (by omega);have v3:=hw (24+L) (by omega) (by omega);have v4:=hw (32+L) (by omega) (by omega);have v5:=hw (40+L) (by omega) (by omega)
 have v6:=hw (48+L) (by omega) (by omega);have v7:=hw (56+L) (by omega) (by omega);obtain ⟨a1,a2⟩ | ⟨a1,rfl⟩:=hA<;>obtain ⟨b1,b2⟩ | ⟨b1,rfl⟩:=hB<;>obtain ⟨c1,c2⟩ | ⟨c1,rfl⟩:=hC<;>simp [af,Oj,htab,hL,wL,w16,w40,w48,w56,w24,w8,v1,v2,v3,v4,v5,v6,v7, *]
def oP (x:Int):Int:=if (bY x+6).tdiv 7>1 then (bY x+6).tdiv 7 else 1
theorem Ao (x:Int):1<=oP x/\oP x<=10:=by
 have:=oQ x;have h2:(bY x+6).tdiv 7=(bY x+6) / 7:=Int.tdiv_eq_ediv_of_nonneg (by omega);unfold oP;rw [h2];split<;>omega
theorem as5 (x:Int)(h:Hp):Sm E TT au 210 [.d (u64 x)] h=some (.d (i64 (oP x)),h):=by
 rw [aU bm8 cd5];have hl:=oQ x;have h1:=λh=>VU (E:=E) x h;have hw:wrap .i64 (bY x+6)=bY x+6:=wrap64 (by omega) (by omega);have h2:(bY x+6).tdiv 7=(bY x+6) / 7:=Int.tdiv_eq_ediv_of_nonneg (by omega);have hq:bC .quo (.d (.int .i64 (bY x+6))) (.d (.int .i64 7))=some (.int .i64 ((bY x+6).tdiv 7)):=by
  simp only [bC,if_true,fw];rw [if_neg (by omega),wrap64]<;>omega
 simp [af,Ot,h1,hw,hq,oP]
def orI (k:IntKind)(a b:Int):Int:=k.wrap ((BitVec.ofInt k.bits a ||| BitVec.ofInt k.bits b).toNat)
theorem QO {k:IntKind}{a b:Int}:bC .or (.d (.int k a)) (.d (.int k b))=some (.int k (orI k a b)):=by simp [bC,fw,orI]
def qG:Nat->Int->List Int
 | 0,x=>[wrap .u8 x]
 | k+1,x=>orI .u8 (wrap .u8 x) 128::qG k (x.fdiv 128)
def aQ (x:Int):List Int:=qG ((oP x).toNat-1) x
theorem qo (k:Nat)(x:Int):(qG k x).length=k+1:=by
 induction k generalizing x with
 | zero=>rfl
 | succ k ih=>simp [qG,ih]
theorem bv (x:Int):(aQ x).length<=10:=by
 have:=Ao x;rw [aQ,qo]; omega
theorem fU {bs bs':List Blk}{lo lo' p:Nat}{r:V}(h1:lo'<=p)(h2:p<bs.length):eU ⟨bs,lo⟩ (some (r,⟨bs',lo'⟩))=some (r,⟨bs',min lo lo'⟩):=by
 simp only [eU];rw [if_neg (λhh=>by have:=hh.1; omega)]
theorem KG {bs:List Blk}{x:Int}{k:IntKind}(lo:Nat):aH ⟨bs++[.cells [.d (.int k x)]],lo⟩ (.row bs.length 0 1 (some 1) 1) 1=some (1,[iv k x]):=by
 simp only [aH,if_true,get_eq,dU];rfl
theorem xO {p:Nat}{bs:List Blk}{l:List Int}(h:Wr bs p l)(x:Int)(hl:l.length+1<=big):kz E 171 [.ptr p 0,.row bs.length 0 1 (some 1) 1] p (bs++[.cells [.d (.int .u8 x)]]) l [x] :=
 VQ (h.lay _) rfl (λlo=>KG lo) rfl hl
theorem Iq {p:Nat}:∀ (m i:Nat) (x:Int) (bs:List Blk) (lo:Nat) (l:List Int) (G:Nat),i+m=G->G<=10->Wr bs p l->l.length+(m+1)<=big →
 ∃ bs' lo' y l',Cd E TT au (.loop [0,1,6,7] qb) [(0,.ptr p 0),(1,.d (u64 x)),(6,.d (i64 G)),(7,.d (i64 i))] ⟨bs,lo⟩=some (.exit 0,[(0,.ptr p 0),(1,.d (u64 y))],⟨bs',lo'⟩) ∧
  l++qG m x=l'++qG 0 y/\l'.length=l.length+m/\Wr bs' p l'/\Fx p bs bs':=by
 intro m;have key:=ay (E:=E) (T:=TT) (val:=au) [0,1,6,7] qb;generalize Cd E TT au (.loop [0,1,6,7] qb)=W at key ⊢
 induction m with
 | zero =>
  intro i x bs lo l G hi hG hW hl;refine ⟨bs,lo,x,l,?_,rfl,rfl,hW,Fx.refl _ _⟩;rw [key];simp [qb,show ¬ ((i:Int)<G) from by omega]
 | succ m ih =>
  intro i x bs lo l G hi hG hW hl;have h1:=xO (E:=E) hW (orI .u8 (wrap .u8 x) 128) (by omega);obtain ⟨bs1,lo1,k1,k2,k3,k4⟩:=h1 lo;have hw:=ax (show i<G by omega) (show G<2 ^ 62 by omega);obtain ⟨bs',lo',y,l',q1,q2,q3,q4,q5⟩:=ih (i+1) (x.fdiv 128) bs1 lo1 (l++[orI .u8 (wrap .u8 x) 128]) G (by omega) hG k3 (by simp; omega);refine ⟨bs',lo',y,l',?_,by rw [← q2]; simp [qG],by rw [q3]; simp; omega,q4,((Fx.lay hW.len _).trans k4).trans q5⟩;have hs:bC .shr (.d (.int .u64 x)) (.d (.int .u64 7))=some (.int .u64 (x.fdiv 128)):=by rw [iC (by decide)]; rfl
  rw [key];simp [qb,QO,aL,k1,hs,hw,show ((i:Int)<G) from by omega];simpa using q1
theorem Gm {p:Nat}{bs:List Blk}{l:List Int}(h:Wr bs p l)(x:Int)(hl:l.length+(aQ x).length<=big):kz E 170 [.ptr p 0,.d (u64 x)] p bs l (aQ x):=by
 intro lo;have hg:=Ao x;rw [aQ,qo] at hl;have hp:=h.len;obtain ⟨bs1,lo1,y,l1,q1,q2,q3,q4,q5⟩:=Iq (E:=E) ((oP x).toNat-1) 0 x bs bs.length l ((oP x).toNat-1) (by omega) (by omega) h (by omega);obtain ⟨bs2,lo2,k1,k2,k3,k4⟩:=xO (E:=E) q4 (wrap .u8 y) (by omega) lo1;have hS:=λh=>as5 (E:=E) x h;have hw:wrap .i64 (oP x-1)=(((oP x).toNat-1:Nat):Int):=by rw [wrap64]<;>omega
 refine ⟨bs2,min lo lo2,?_,by omega,?_,(q5.trans (Fx.lay q4.len _)).trans k4⟩
 . rw [aJ bl3 cc1];simp [af,Ob,hS,hw];rw [aj];simp at q1;simp [q1,aL,k1];exact fU k2 hp
 . rw [aQ,q2]; exact k3
theorem VX {p:Nat}{bs:List Blk}{l:List Int}(h:Wr bs p l)(x:Int)(hl:l.length+1<=big):kz E 240 [.ptr p 0,.d (.int .u8 x)] p bs l [x]:=by
 intro lo;obtain ⟨bs1,lo1,k1,k2,k3,k4⟩:=xO (E:=E) h x hl bs.length;refine ⟨bs1,min lo lo1,?_,by omega,k3,(Fx.lay h.len _).trans k4⟩;rw [aJ bo9 cf6];simp [af,Tw,aL,k1];exact fU k2 h.len
def yD (x:Int):List Int:=[wrap .u8 x,wrap .u8 (x.fdiv 256),wrap .u8 (x.fdiv 65536),wrap .u8 (x.fdiv 16777216)]
theorem au7 {p:Nat}{bs:List Blk}{l:List Int}(h:Wr bs p l)(x:Int)(hl:l.length+4<=big):kz E 239 [.ptr p 0,.d (u32 x)] p bs l (yD x):=by
 intro lo;have s0:bC .shr (.d (.int .u32 x)) (.d (.int .i64 0))=some (.int .u32 x):=by rw [iC (by decide)]; simp
 have s1:bC .shr (.d (.int .u32 x)) (.d (.int .i64 8))=some (.int .u32 (x.fdiv 256)):=by rw [iC (by decide)]; rfl
 have s2:bC .shr (.d (.int .u32 x)) (.d (.int .i64 16))=some (.int .u32 (x.fdiv 65536)):=by rw [iC (by decide)]; rfl
 have s3:bC .shr (.d (.int .u32 x)) (.d (.int .i64 24))=some (.int .u32 (x.fdiv 16777216)):=by rw [iC (by decide)]; rfl
 obtain ⟨b1,l1,a1,a2,a3,a4⟩:=xO (E:=E) h (wrap .u8 x) (by omega) bs.length;obtain ⟨b2,l2,c1,c2,c3,c4⟩:=xO (E:=E) a3 (wrap .u8 (x.fdiv 256)) (by simp; omega) l1;obtain ⟨b3,l3,d1,d2,d3,d4⟩:=xO (E:=E) c3 (wrap .u8 (x.fdiv 65536)) (by simp; omega) l2;obtain ⟨b4,l4,e1,e2,e3,e4⟩:=xO (E:=E) d3 (wrap .u8 (x.fdiv 16777216)) (by simp; omega) l3;refine ⟨b4,min lo l4,?_,by omega,by simpa [yD] using e3,((Fx.lay h.len _).trans a4).trans (((Fx.lay a3.len _).trans c4).trans (((Fx.lay c3.len _).trans d4).trans ((Fx.lay d3.len _).trans e4)))⟩;rw [aJ bo8 cf5];have key:=ay (E:=E) (T:=TT) (val:=au) [0,1,6,7] lN;simp [af,Tv,aL];rw [aj];generalize Cd E TT au (.loop [0,1,6,7] lN)=W at key ⊢;simp;have w1:wrap .i64 1=1:=by decide
 have w2:wrap .i64 2=2:=by decide
 have w3:wrap .i64 3=3:=by decide
 have w4:wrap .i64 4=4:=by decide
 rw [key]; simp [lN,opE,s0,aL,a1,w1];rw [key]; simp [lN,opE,s1,aL,c1,w2];rw [key]; simp [lN,opE,s2,aL,d1,w3];rw [key]; simp [lN,opE,s3,aL,e1,w4];rw [key]; simp [lN];exact fU e2 h.len
def Fw (x:V)(h:Hp):Option (V×Hp):=match x with
 | .d (.str s)=>if s.size<=2 ^ 40 then some (.row h.size 0 s.size none 1,h.alloc (s.toList.map λb=>.d (.int .u8 b.toNat))) else none
 | _=>none
@[simp] theorem Rn {C:Calls'}{ev:X->V}{h:Hp}{x:X}:opE C (.convSB x) ev h=Fw (ev x) h:=(rfl)
theorem Jj {h:Hp}{s:ByteArray}(hs:s.size<=2 ^ 40):Fw (.d (.str s)) h=some (.row h.size 0 s.size none 1,h.alloc (s.toList.map λb=>.d (.int .u8 b.toNat))):=if_pos hs
def bG (s:ByteArray):List Int:=aQ s.size++s.toList.map λb=>(b.toNat:Int)
theorem jE (s:ByteArray):(bG s).length<=10+s.size:=by
 have:=bv s.size;simp only [bG,aw,b9,fK];omega
theorem Dx {p:Nat}{bs:List Blk}{l:List Int}(h:Wr bs p l)(s:ByteArray)(hl:l.length+(bG s).length<=big):kz E 108 [.ptr p 0,.d (.str s)] p bs l (bG s):=by
 intro lo;have hsz:s.toList.length=s.size:=fK s;simp only [bG,aw,b9] at hl;have hs:s.size<=2 ^ 40:=cf (m:=2 ^ 30) (by rw [← hsz]; have:big=2 ^ 30:=rfl; omega) (by decide);obtain ⟨b1,l1,a1,a2,a3,a4⟩:=Gm (E:=E) h s.size (by omega) bs.length;have hrc:∀ lo,aH ⟨b1++[.cells (s.toList.map λb=>V.d (.int .u8 b.toNat))],lo⟩ (.row b1.length 0 s.size none 1) 1=some (s.size,(s.toList.map λb=>(b.toNat:Int)).map (iv .u8)):=by
  intro lo;have:sub (s.toList.map λb=>V.d (.int .u8 b.toNat)) 0 (s.size * 1)=some (s.toList.map λb=>V.d (.int .u8 b.toNat)):=bN (by simp [hsz]);simp only [aH,if_true,get_eq,dU,uw,this,List.map_map];rfl
 obtain ⟨b2,l2,c1,c2,c3,c4⟩:=VQ (E:=E) (a3.lay _) (x:=.row b1.length 0 s.size none 1) rfl hrc (by simp [hsz]) (by simp; omega) l1;refine ⟨b2,min lo l2,?_,by omega,by simpa [bG] using c3,(a4.trans (Fx.lay a3.len _)).trans c4⟩;have hw:wrap .u64 (s.size:Int)=s.size:=by
  simp [wrap,IntKind.bits,IntKind.signed];omega
 rw [aJ bj0 ca0];simp [af,NP,hw,a1,Jj hs,c1];exact fU c2 h.len
theorem Kl {p:Nat}{xs:List Int}(hxn:xs.length<2 ^ 62){q:Nat}(hq:q≠p){cap:Option Nat}:∀ (m i:Nat) (bs:List Blk) (lo:Nat) (l:List Int),i+m=xs.length->Wr bs p l->jG bs p≠some q->ah bs q=some (xs.map λn=>V.d (u64 n))->l.length+((xs.drop i).flatMap aQ).length<=big →
 ∃ bs' lo',Cd E TT au (.loop [0,6,7,8] p8) [(0,.ptr p 0),(6,.row q 0 xs.length cap 1),(7,.d (i64 xs.length)),(8,.d (i64 i))] ⟨bs,lo⟩=some (.exit 0,[],⟨bs',lo'⟩) ∧
  (lo'=lo/\xs.drop i=[]\/lo'<=p)/\Wr bs' p (l++(xs.drop i).flatMap aQ)/\Fx p bs bs':=by
 intro m;have key:=ay (E:=E) (T:=TT) (val:=au) [0,6,7,8] p8;generalize Cd E TT au (.loop [0,6,7,8] p8)=W at key ⊢
 induction m with
 | zero =>
  intro i bs lo l hi hW h1 h2 hl;have h0:xs.drop i=[]:=bb (by omega);refine ⟨bs,lo,?_,.inl ⟨rfl,h0⟩,by simpa [h0] using hW,Fx.refl _ _⟩;rw [key];simp [p8,show ¬ ((i:Int)<xs.length) from by omega]
 | succ m ih =>
  intro i bs lo l hi hW h1 h2 hl;have hlt:i<xs.length:=by omega
  have hd:xs.drop i=xs[i]::xs.drop (i+1):=ba hlt;have hix:=λh=>fQ (b:=q) (o:=0) (z:=1) (cap:=cap) (kd:=.i64) (h:=h) hlt;simp only [Nat.mul_one,Nat.zero_add] at hix;have hs:sub (xs.map λn=>V.d (u64 n)) i 1=some [.d (u64 xs[i])]:=by
   rw [eG,if_pos (by simp; omega),ba (by simpa using hlt)]; simp
  rw [hd] at hl ⊢;simp only [List.flatMap_cons,aw] at hl;generalize xs[i]=x at *;obtain ⟨b1,l1,a1,a2,a3,a4⟩:=Gm (E:=E) hW x (by omega) lo;obtain ⟨f1,f2⟩:=a4.2 q _ hq h1 h2;obtain ⟨bs',lo',q1,q2,q3,q4⟩:=ih (i+1) b1 l1 (l++aQ x) (by omega) a3 f2 f1 (by rw [aw]; omega);have hw:=ax hlt hxn;refine ⟨bs',lo',?_,.inr ?_,by simpa using q3,a4.trans q4⟩
  . have hld:ldv ⟨bs,lo⟩ (.ptr q i) 1 true=some (.d (u64 x),⟨bs,lo⟩):=by
     rw [aG,get_eq];show (match (match ah bs q with | some cs=>sub cs i 1 | none=>none) with | some cs=>_ | none=>none)=_;rw [h2]; simp only [hs]; rfl
    rw [key];simp [p8,hix,hld,a1,hw,hlt,show ((i:Int)<xs.length) from by omega,-aG];simpa using q1
  . obtain ⟨rfl,_⟩ | q2:=q2
    . exact a2
    . exact q2
theorem yJ {p:Nat}{bs:List Blk}{l:List Int}(h:Wr bs p l){xs:List Int}(hne:xs≠[])(hn:xs.length<2 ^ 62){q:Nat}(hq:q≠p){cap:Option Nat}(h1:jG bs p≠some q)(h2:ah bs q=some (xs.map λn=>V.d (u64 n)))(hl:l.length+(xs.flatMap aQ).length<=big):kz E 107 [.ptr p 0,.row q 0 xs.length cap 1] p bs l (xs.flatMap aQ):=by
 intro lo;obtain ⟨bs',lo',k1,k2,k3,k4⟩:=Kl (E:=E) hn hq (cap:=cap) xs.length 0 bs bs.length l (by omega) h h1 h2 (by simpa using hl);have hle:lo'<=p:=by
  obtain ⟨_,hx⟩ | k2:=k2
  . exact absurd (by simpa using hx) hne
  . exact k2
 refine ⟨bs',min lo lo',?_,by omega,by simpa using k3,k4⟩;rw [aJ t213 bz9];simp [af,NN];rw [aj];simp at k1;simp [k1];exact fU hle h.len
theorem VJ (bs:List Blk)(lo:Nat):∃ lo',Sm E TT au 106 [] ⟨bs,lo⟩=some (.ptr bs.length 0,⟨bs++[.cells [.d (.slice true [])]],lo'⟩):=by
 refine ⟨min lo bs.length,?_⟩;rw [aJ t212 v212];simp [af,NM,V.under]
theorem LG (bs:List Blk):Wr (bs++[.cells [.d (.slice true [])]]) bs.length []:=.inl ⟨rfl,by simp⟩
theorem VK {p:Nat}{bs:List Blk}{l:List Int}(h:Wr bs p l)(hl:l.length<=big)(hne:l≠[])(lo:Nat):∃ lo',Sm E TT au 110 [.ptr p 0] ⟨bs,lo⟩=some (.row bs.length 0 l.length none 1,⟨bs++[.cells (l.map (iv .u8))],lo'⟩):=by
 obtain ⟨h1,_⟩ | ⟨_,b,h2,h3,h4⟩:=h
 . exact absurd h1 hne
 . have hl0:¬ l.length=0:=by simpa using hne
   have hroom:roomy l.length 1=true:=by
    simp only [roomy,aE,bw]; exact ⟨hl,by decide⟩
   have hsub:sub (l.map (iv .u8)) 0 (l.length * 1)=some (l.map (iv .u8)):=bN (by simp);have hap:d9 ⟨bs,bs.length⟩ 1 1 (.d (.slice true [])) (.row b 0 l.length none 1)=some (.row bs.length 0 l.length none 1,⟨bs++[.cells (l.map (iv .u8))],bs.length⟩):=by
    simp only [d9,aH,if_true,get_eq,h4,hsub,Option.map_some,aI,hl0,if_false,hroom];simp
   refine ⟨min lo bs.length,?_⟩;rw [aJ bj2 ca2];simp [af,NR,h3,hap,V.under]
end
section
variable {E:Calls'}
def seqB {α:Type}(enc:α->List Int)(l:List α):List Int:=aQ l.length++l.flatMap enc
theorem dJ {α:Type}(enc:α->List Int)(x:α)(l:List α):((x::l).flatMap enc).length=(enc x).length+(l.flatMap enc).length:=by simp
theorem IC {α:Type}{cells:α->List D}{z:Nat}{zero:List V}(hz:∀ x,(cells x).length=z)(hz0:0<z)(hzero:zero.length=z){enc:α->List Int}{p:Nat}{f:FuncId}{s:Sl α}(hs:s.l.length<2 ^ 62)
 (hf:∀ e∈s.l,∀ bs l,Wr bs p l->l.length+(enc e).length<=big->kz E f [.ptr p 0,ag (cells e)] p bs l (enc e)):∀ (m i:Nat) (bs:List Blk) (lo:Nat) (l:List Int),i+m=s.l.length->Wr bs p l->l.length+((s.l.drop i).flatMap enc).length<=big →
 ∃ bs' lo',Cd E TT au (.loop [0,2,13,14,15] (zT z zero)) [(0,.ptr p 0),(2,.fn f []),(13,.d (s.d cells)),(14,.d (i64 s.l.length)),(15,.d (i64 i))] ⟨bs,lo⟩=some (.exit 0,[],⟨bs',lo'⟩) ∧
  (lo<=p->lo'<=p)/\Wr bs' p (l++(s.l.drop i).flatMap enc)/\Fx p bs bs':=by
 intro m;have key:=ay (E:=E) (T:=TT) (val:=au) [0,2,13,14,15] (zT z zero);generalize Cd E TT au (.loop [0,2,13,14,15] (zT z zero))=W at key ⊢
 induction m with
 | zero =>
  intro i bs lo l hi hW hl;have h0:s.l.drop i=[]:=bb (by omega);refine ⟨bs,lo,?_,id,by simpa [h0] using hW,Fx.refl _ _⟩;rw [key];simp [zT,show ¬ ((i:Int)<s.l.length) from by omega]
 | succ m ih =>
  intro i bs lo l hi hW hl;have hlt:i<s.l.length:=by omega
  have hx:=λh=>aA (z:=z) h (ac hlt) (cells:=cells) (hz _);have hmem:=bj hlt;rw [ba hlt] at hl ⊢;rw [dJ] at hl;generalize s.l[i]=e at *;obtain ⟨b1,l1,a1,a2,a3,a4⟩:=hf e hmem (bs++[.cells ((cells e).map .d)]) l (hW.lay _) (by omega) (min lo bs.length);obtain ⟨bs',lo',q1,q2,q3,q4⟩:=ih (i+1) b1 l1 (l++enc e) (by omega) a3 (by rw [aw]; omega);have hw:=ax hlt hs;refine ⟨bs',lo',?_,λ_=>q2 a2,by simpa using q3,((Fx.lay hW.len _).trans a4).trans q4⟩;have hsub:=bN (hz e);have hput:put zero 0 ((cells e).map V.d)=some ((cells e).map .d):=by simp [put,hz,hzero]
  rw [key];simp [zT,hx,hsub,hput,hz,hz0,a1,hw,show ((i:Int)<s.l.length) from by omega,-jd];simpa using q1
theorem uh {α:Type}{cells:α->List D}{z:Nat}{zero:List V}(hz:∀ x,(cells x).length=z)(hz0:0<z)(hzero:zero.length=z){id:FuncId}(ht:TT id=some (wputQ z zero))(hv:au id=false){enc:α->List Int}{p:Nat}{f:FuncId}{s:Sl α}(hs:short s)
 (hf:∀ e∈s.l,∀ bs l,Wr bs p l->l.length+(enc e).length<=big->kz E f [.ptr p 0,ag (cells e)] p bs l (enc e)) {bs:List Blk} {l:List Int} (h:Wr bs p l) (hl:l.length+(seqB enc s.l).length<=big):kz E id [.ptr p 0,.d (s.d cells),.fn f []] p bs l (seqB enc s.l):=by
 intro lo;simp only [seqB,aw] at hl;obtain ⟨b1,l1,a1,a2,a3,a4⟩:=Gm (E:=E) h s.l.length (by omega) bs.length;obtain ⟨b2,l2,k1,k2,k3,k4⟩:=IC (E:=E) (zero:=zero) hz hz0 hzero hs.lt hf s.l.length 0 b1 l1 (l++aQ s.l.length) (by omega) a3 (by rw [aw,List.drop_zero]; omega);refine ⟨b2,min lo l2,?_,by have:=k2 a2; omega,by simpa [seqB] using k3,a4.trans k4⟩;have hb:s.l.length<=big:=hs.1;have hbig:big=2 ^ 30:=rfl;have hw:wrap .u64 (s.l.length:Int)=s.l.length:=by
  simp [wrap,IntKind.bits,IntKind.signed];omega
 rw [aJ ht hv];simp [af,wputQ,hw,a1];rw [aj];simp at k1;simp [k1];exact fU (k2 a2) h.len
theorem Fe {α:Type}{cell:α->D}{enc:α->List Int}{p:Nat}{f:FuncId}{s:Sl α}(hs:s.l.length<2 ^ 62)
 (hf:∀ e∈s.l,∀ bs l,Wr bs p l->l.length+(enc e).length<=big->kz E f [.ptr p 0,.d (cell e)] p bs l (enc e)):∀ (m i:Nat) (bs:List Blk) (lo:Nat) (l:List Int),i+m=s.l.length->Wr bs p l->l.length+((s.l.drop i).flatMap enc).length<=big →
 ∃ bs' lo',Cd E TT au (.loop [0,2,13,14,15] vw) [(0,.ptr p 0),(2,.fn f []),(13,.d (s.d λx=>[cell x])),(14,.d (i64 s.l.length)),(15,.d (i64 i))] ⟨bs,lo⟩=some (.exit 0,[],⟨bs',lo'⟩) ∧
  (lo<=p->lo'<=p)/\Wr bs' p (l++(s.l.drop i).flatMap enc)/\Fx p bs bs':=by
 intro m;have key:=ay (E:=E) (T:=TT) (val:=au) [0,2,13,14,15] vw;generalize Cd E TT au (.loop [0,2,13,14,15] vw)=W at key ⊢
 induction m with
 | zero =>
  intro i bs lo l hi hW hl;have h0:s.l.drop i=[]:=bb (by omega);refine ⟨bs,lo,?_,id,by simpa [h0] using hW,Fx.refl _ _⟩;rw [key];simp [vw,show ¬ ((i:Int)<s.l.length) from by omega]
 | succ m ih =>
  intro i bs lo l hi hW hl;have hlt:i<s.l.length:=by omega
  have hx:=λh=>aA (z:=1) h (ac hlt) (cells:=λx=>[cell x]) rfl;have hmem:=bj hlt;rw [ba hlt] at hl ⊢;rw [dJ] at hl;generalize s.l[i]=e at *;obtain ⟨b1,l1,a1,a2,a3,a4⟩:=hf e hmem bs l hW (by omega) lo;obtain ⟨bs',lo',q1,q2,q3,q4⟩:=ih (i+1) b1 l1 (l++enc e) (by omega) a3 (by rw [aw]; omega);have hw:=ax hlt hs;refine ⟨bs',lo',?_,λ_=>q2 a2,by simpa using q3,a4.trans q4⟩;rw [key];simp [vw,hx,a1,hw,show ((i:Int)<s.l.length) from by omega];simpa using q1
theorem LY {α:Type}{cell:α->D}{id:FuncId}(ht:TT id=some wput1Q)(hv:au id=false){enc:α->List Int}{p:Nat}{f:FuncId}{s:Sl α}(hs:short s)
 (hf:∀ e∈s.l,∀ bs l,Wr bs p l->l.length+(enc e).length<=big->kz E f [.ptr p 0,.d (cell e)] p bs l (enc e)) {bs:List Blk} {l:List Int} (h:Wr bs p l) (hl:l.length+(seqB enc s.l).length<=big):kz E id [.ptr p 0,.d (s.d λx=>[cell x]),.fn f []] p bs l (seqB enc s.l):=by
 intro lo;simp only [seqB,aw] at hl;obtain ⟨b1,l1,a1,a2,a3,a4⟩:=Gm (E:=E) h s.l.length (by omega) bs.length;obtain ⟨b2,l2,k1,k2,k3,k4⟩:=Fe (E:=E) hs.lt hf s.l.length 0 b1 l1 (l++aQ s.l.length) (by omega) a3 (by rw [aw,List.drop_zero]; omega);refine ⟨b2,min lo l2,?_,by have:=k2 a2; omega,by simpa [seqB] using k3,a4.trans k4⟩;have hb:s.l.length<=big:=hs.1;have hbig:big=2 ^ 30:=rfl;have hw:wrap .u64 (s.l.length:Int)=s.l.length:=by
  simp [wrap,IntKind.bits,IntKind.signed];omega
 rw [aJ ht hv];simp [af,wput1Q,hw,a1];rw [aj];simp at k1;simp [k1];exact fU (k2 a2) h.len
end
section
variable {E:Calls'}
theorem Fx.new {p:Nat}{bs bs':List Blk}{l:List Int}{cs:List V}{ys:List Blk}(h:Wr bs p l)(k:Fx p (bs++(.cells cs::ys)) bs'):bs.length≠p/\jG bs' p≠some bs.length/\ah bs' bs.length=some cs:=by
 have hp:=h.len;have h1:jG (bs++(.cells cs::ys)) p≠some bs.length:=by
  rw [pJ hp];intro hh;exact Nat.lt_irrefl _ (h.row_lt hh)
 obtain ⟨a,b⟩:=k.2 bs.length cs (by omega) h1 (by simp);exact ⟨by omega,b,a⟩
theorem Wr.fresh {p:Nat}{bs:List Blk}{l:List Int}(h:Wr bs p l)(ys:List Blk):bs.length≠p/\jG (bs++ys) p≠some bs.length:=by
 have hp:=h.len;refine ⟨by omega,?_⟩;rw [pJ hp];intro hh;exact Nat.lt_irrefl _ (h.row_lt hh)
def dI (t:Term):List Int:=wrap .u8 t.kind::bG t.text
theorem av6 (t:Term){p:Nat}{bs:List Blk}{l:List Int}(h:Wr bs p l)(hl:l.length+(dI t).length<=big):kz E 287 [.ptr p 0,ag t.c] p bs l (dI t):=by
 intro lo;simp only [dI,cg] at hl;obtain ⟨b1,l1,a1,a2,a3,a4⟩:=VX (E:=E) (h.lay [.cells (t.c.map .d)]) (wrap .u8 t.kind) (by omega) bs.length;obtain ⟨f1,f2,f3⟩:=a4.new h;obtain ⟨b2,l2,c1,c2,c3,c4⟩:=Dx (E:=E) a3 t.text (by simp; omega) l1;refine ⟨b2,min lo l2,?_,by omega,by simpa [dI] using c3,((Fx.lay h.len _).trans a4).trans c4⟩;rw [aJ bq5 ch3];simp [af,TA,a1,f3,c1];exact fU c2 h.len
def kv (c:Cidr):List Int:=yD c.addr++[wrap .u8 c.bits]
theorem au6 (t:Cidr){p:Nat}{bs:List Blk}{l:List Int}(h:Wr bs p l)(hl:l.length+(kv t).length<=big):kz E 238 [.ptr p 0,ag t.c] p bs l (kv t):=by
 intro lo;have h5:(kv t).length=5:=rfl;obtain ⟨b1,l1,a1,a2,a3,a4⟩:=au7 (E:=E) (h.lay [.cells (t.c.map .d)]) t.addr (by omega) bs.length;obtain ⟨f1,f2,f3⟩:=a4.new h;obtain ⟨b2,l2,c1,c2,c3,c4⟩:=VX (E:=E) a3 (wrap .u8 t.bits) (by simp [yD]; omega) l1;refine ⟨b2,min lo l2,?_,by omega,by simpa [kv] using c3,((Fx.lay h.len _).trans a4).trans c4⟩;rw [aJ bo7 cf4];simp [af,Tu,a1,f3,c1];exact fU c2 h.len
def oZ (n:Int):List Int:=aQ (wrap .u64 n)
theorem au9 (n:Int){p:Nat}{bs:List Blk}{l:List Int}(h:Wr bs p l)(hl:l.length+(oZ n).length<=big):kz E 242 [.ptr p 0,.d (i64 n)] p bs l (oZ n):=by
 intro lo;obtain ⟨b1,l1,a1,a2,a3,a4⟩:=Gm (E:=E) h (wrap .u64 n) hl bs.length;refine ⟨b1,min lo l1,?_,by omega,a3,a4⟩;rw [aJ bp1 cf8];simp [af,Tx,a1];exact fU a2 h.len
theorem cm6:TT 286=some (wputQ 2 [(.d (.int .i64 0)),(.d (.str ⟨#[]⟩))]):=bq4
theorem cm2:TT 237=some (wputQ 2 [(.d (.int .u32 0)),(.d (.int .i64 0))]):=bo6
theorem cm3:TT 241=some wput1Q:=bp0
theorem cl5:TT 211=some (wputQ 3 (sl0 3)):=bm9
theorem cl6:TT 213=some (wputQ 4 (sl0 4)):=bn1
theorem cl7:TT 215=some (wputQ 2 [(.d (.str ⟨#[]⟩)),(.d (.slice true []))]):=bn3
theorem ck7:TT 172=some (wputQ 3 (sl0 3)):=bl5
theorem av5 {s:Sl Term}(hs:short s){p:Nat}{bs:List Blk}{l:List Int}(h:Wr bs p l)(hl:l.length+(seqB dI s.l).length<=big):kz E 286 [.ptr p 0,.d (s.d Term.c),.fn 287 []] p bs l (seqB dI s.l) :=
 uh (z:=2) (cells:=Term.c) (λ_=>rfl) (by decide) rfl cm6 ch2 hs (λe _ bs l h hl=>av6 e h hl) h hl
theorem au5 {s:Sl Cidr}(hs:short s){p:Nat}{bs:List Blk}{l:List Int}(h:Wr bs p l)(hl:l.length+(seqB kv s.l).length<=big):kz E 237 [.ptr p 0,.d (s.d Cidr.c),.fn 238 []] p bs l (seqB kv s.l) :=
 uh (z:=2) (cells:=Cidr.c) (λ_=>rfl) (by decide) rfl cm2 cf3 hs (λe _ bs l h hl=>au6 e h hl) h hl
theorem au8 {s:Sl Int}(hs:short s){p:Nat}{bs:List Blk}{l:List Int}(h:Wr bs p l)(hl:l.length+(seqB oZ s.l).length<=big):kz E 241 [.ptr p 0,.d (s.d ig),.fn 242 []] p bs l (seqB oZ s.l) :=
 LY (cell:=λn=>i64 n) cm3 cf7 hs (λe _ bs l h hl=>au9 e h hl) h hl
def jh (ls:List (Sl Term)):List Int:=ls.flatMap λs=>seqB dI s.l
theorem H8 {p:Nat}{xs:List (Sl Term)}(hxn:xs.length<2 ^ 62)(hsh:∀ s∈xs,short s){q:Nat}(hq:q≠p){cap:Option Nat}:∀ (m i:Nat) (bs:List Blk) (lo:Nat) (l:List Int),i+m=xs.length->Wr bs p l->jG bs p≠some q->ah bs q=some (xs.map λs=>V.d (s.d Term.c))->l.length+(jh (xs.drop i)).length<=big →
 ∃ bs' lo',Cd E TT au (.loop [0,6,7,8] qj) [(0,.ptr p 0),(6,.row q 0 xs.length cap 1),(7,.d (i64 xs.length)),(8,.d (i64 i))] ⟨bs,lo⟩=some (.exit 0,[],⟨bs',lo'⟩) ∧
  (lo'=lo/\xs.drop i=[]\/lo'<=p)/\Wr bs' p (l++jh (xs.drop i))/\Fx p bs bs':=by
 intro m;have key:=ay (E:=E) (T:=TT) (val:=au) [0,6,7,8] qj;generalize Cd E TT au (.loop [0,6,7,8] qj)=W at key ⊢
 induction m with
 | zero =>
  intro i bs lo l hi hW h1 h2 hl;have h0:xs.drop i=[]:=bb (by omega);refine ⟨bs,lo,?_,.inl ⟨rfl,h0⟩,by simpa [h0,jh] using hW,Fx.refl _ _⟩;rw [key];simp [qj,show ¬ ((i:Int)<xs.length) from by omega]
 | succ m ih =>
  intro i bs lo l hi hW h1 h2 hl;have hlt:i<xs.length:=by omega
  have hd:xs.drop i=xs[i]::xs.drop (i+1):=ba hlt;have hix:=λh=>fQ (b:=q) (o:=0) (z:=1) (cap:=cap) (kd:=.i64) (h:=h) hlt;simp only [Nat.mul_one,Nat.zero_add] at hix;have hs:sub (xs.map λs=>V.d (s.d Term.c)) i 1=some [.d (xs[i].d Term.c)]:=by
   rw [eG,if_pos (by simp; omega),ba (by simpa using hlt)]; simp
  have hx:=hsh _ (bj hlt);rw [hd] at hl ⊢;simp only [jh,List.flatMap_cons,aw] at hl;generalize xs[i]=x at *;obtain ⟨b1,l1,a1,a2,a3,a4⟩:=av5 (E:=E) hx hW (by omega) lo;obtain ⟨f1,f2⟩:=a4.2 q _ hq h1 h2;obtain ⟨bs',lo',q1,q2,q3,q4⟩:=ih (i+1) b1 l1 (l++seqB dI x.l) (by omega) a3 f2 f1 (by rw [aw,jh]; omega);have hw:=ax hlt hxn;refine ⟨bs',lo',?_,.inr ?_,by simpa [jh] using q3,a4.trans q4⟩
  . have hld:ldv ⟨bs,lo⟩ (.ptr q i) 1 true=some (.d (x.d Term.c),⟨bs,lo⟩):=by
     rw [aG,get_eq];show (match (match ah bs q with | some cs=>sub cs i 1 | none=>none) with | some cs=>_ | none=>none)=_;rw [h2]; simp only [hs]; rfl
    rw [key];simp [qj,hix,hld,a1,hw,hlt,show ((i:Int)<xs.length) from by omega,-aG];simpa using q1
  . obtain ⟨rfl,_⟩ | q2:=q2
    . exact a2
    . exact q2
theorem Qv {p:Nat}{bs:List Blk}{l:List Int}(h:Wr bs p l){xs:List (Sl Term)}(hne:xs≠[])(hn:xs.length<2 ^ 62)(hsh:∀ s∈xs,short s){q:Nat}(hq:q≠p){cap:Option Nat}{n:Nat}(hnn:n=xs.length)(h1:jG bs p≠some q)(h2:ah bs q=some (xs.map λs=>V.d (s.d Term.c)))(hl:l.length+(jh xs).length<=big):kz E 236 [.ptr p 0,.row q 0 n cap 1] p bs l (jh xs):=by
 intro lo;subst hnn;obtain ⟨bs',lo',k1,k2,k3,k4⟩:=H8 (E:=E) hn hsh hq (cap:=cap) xs.length 0 bs bs.length l (by omega) h h1 h2 (by simpa using hl);have hle:lo'<=p:=by
  obtain ⟨_,hx⟩ | k2:=k2
  . exact absurd (by simpa using hx) hne
  . exact k2
 refine ⟨bs',min lo lo',?_,by omega,by simpa using k3,k4⟩;rw [aJ bo5 cf2];simp [af,Tt];rw [aj];simp at k1;simp [k1];exact fU hle h.len
def gI (s:Source):List Int:=jh [s.names,s.spaces]++seqB kv s.nets.l
theorem as6 (t:Source)(ht:t.fits big){p:Nat}{bs:List Blk}{l:List Int}(h:Wr bs p l)(hl:l.length+(gI t).length<=big):kz E 212 [.ptr p 0,ag t.c] p bs l (gI t):=by
 intro lo;simp only [gI,aw] at hl;have hW2:=h.lay [.cells (t.c.map .d),.cells [.d (t.names.d Term.c),.d (t.spaces.d Term.c)]];have hfr:bs.length+1≠p/\jG (bs++[.cells (t.c.map .d),.cells [.d (t.names.d Term.c),.d (t.spaces.d Term.c)]]) p≠some (bs.length+1):=by
  have:=h.len;refine ⟨by omega,?_⟩;rw [pJ this];intro hh;have:=h.row_lt hh;omega
 obtain ⟨b1,l1,a1,a2,a3,a4⟩:=Qv (E:=E) hW2 (xs:=[t.names,t.spaces]) (by simp) (by simp) (by
  intro s hs;simp only [List.mem_cons,List.not_mem_nil,or_false] at hs;obtain rfl | rfl:=hs
  . exact ht.1
  . exact ht.2.1) (q:=bs.length+1) hfr.1 (cap:=some 2) (n:=2) rfl hfr.2 (by simp) (by omega) bs.length
 obtain ⟨f1,f2,f3⟩:=a4.new h;obtain ⟨b2,l2,c1,c2,c3,c4⟩:=au5 (E:=E) ht.2.2 a3 (by rw [aw]; omega) l1;refine ⟨b2,min lo l2,?_,by omega,by simpa [gI] using c3,((Fx.lay h.len _).trans a4).trans c4⟩;rw [aJ bn0 cd7];simp [af,Ta,aL,a1,f3,c1];exact fU c2 h.len
def gJ (t:Target):List Int:=seqB oZ t.ports.l++jh [t.methods,t.paths,t.hosts]
theorem as7 (t:Target)(ht:t.fits big){p:Nat}{bs:List Blk}{l:List Int}(h:Wr bs p l)(hl:l.length+(gJ t).length<=big):kz E 214 [.ptr p 0,ag t.c] p bs l (gJ t):=by
 intro lo;simp only [gJ,aw] at hl;obtain ⟨b1,l1,a1,a2,a3,a4⟩:=au8 (E:=E) ht.1 (h.lay [.cells (t.c.map .d)]) (by omega) bs.length;obtain ⟨f1,f2,f3⟩:=a4.new h;have hfr:=a3.fresh [.cells [.d (t.methods.d Term.c),.d (t.paths.d Term.c),.d (t.hosts.d Term.c)]];obtain ⟨b2,l2,c1,c2,c3,c4⟩:=Qv (E:=E) (a3.lay [.cells [.d (t.methods.d Term.c),.d (t.paths.d Term.c),.d (t.hosts.d Term.c)]]) (xs:=[t.methods,t.paths,t.hosts]) (by simp) (by simp) (by
  intro s hs;simp only [List.mem_cons,List.not_mem_nil,or_false] at hs;obtain rfl | rfl | rfl:=hs
  . exact ht.2.1
  . exact ht.2.2.1
  . exact ht.2.2.2) (q:=b1.length) hfr.1 (cap:=some 3) (n:=3) rfl hfr.2 (by simp) (by rw [aw]; omega) l1
 refine ⟨b2,min lo l2,?_,by omega,by simpa [gJ] using c3,((Fx.lay h.len _).trans a4).trans ((Fx.lay a3.len _).trans c4)⟩;rw [aJ bn2 cd9];simp [af,Tc,aL,a1,f3,c1];exact fU c2 h.len
def lQ (w:When):List Int:=bG w.head++jh [w.terms]
theorem as8 (t:When)(ht:t.fits big){p:Nat}{bs:List Blk}{l:List Int}(h:Wr bs p l)(hl:l.length+(lQ t).length<=big):kz E 216 [.ptr p 0,ag t.c] p bs l (lQ t):=by
 intro lo;simp only [lQ,aw] at hl;obtain ⟨b1,l1,a1,a2,a3,a4⟩:=Dx (E:=E) (h.lay [.cells (t.c.map .d)]) t.head (by omega) bs.length;obtain ⟨f1,f2,f3⟩:=a4.new h;have hfr:=a3.fresh [.cells [.d (t.terms.d Term.c)]];obtain ⟨b2,l2,c1,c2,c3,c4⟩:=Qv (E:=E) (a3.lay [.cells [.d (t.terms.d Term.c)]]) (xs:=[t.terms]) (by simp) (by simp) (by
  intro s hs;simp only [List.mem_cons,List.not_mem_nil,or_false] at hs;subst hs;exact ht) (q:=b1.length) hfr.1 (cap:=some 1) (n:=1) rfl hfr.2 (by simp) (by rw [aw]; omega) l1
 refine ⟨b2,min lo l2,?_,by omega,by simpa [lQ] using c3,((Fx.lay h.len _).trans a4).trans ((Fx.lay a3.len _).trans c4)⟩;rw [aJ bn4 ce1];simp [af,Td,aL,a1,f3,c1];exact fU c2 h.len
def kV (r:Rule):List Int:=seqB gI r.frm.l++(seqB gJ r.to.l++seqB lQ r.whn.l)
theorem aq3 (t:Rule)(ht:t.fits big){p:Nat}{bs:List Blk}{l:List Int}(h:Wr bs p l)(hl:l.length+(kV t).length<=big):kz E 173 [.ptr p 0,ag t.c] p bs l (kV t):=by
 intro lo;simp only [kV,aw] at hl;obtain ⟨b1,l1,a1,a2,a3,a4⟩:=uh (E:=E) (cells:=Source.c) (zero:=sl0 3) (λ_=>rfl) (by decide) rfl cl5 cd6 (enc:=gI) (f:=212) ht.1.1 (λe he bs l h hl=>as6 e (ht.1.2 e he) h hl) (h.lay [.cells (t.c.map .d)]) (by omega) bs.length;obtain ⟨f1,f2,f3⟩:=a4.new h;obtain ⟨b2,l2,c1,c2,c3,c4⟩:=uh (E:=E) (cells:=Target.c) (zero:=sl0 4) (λ_=>rfl) (by decide) rfl cl6 cd8 (enc:=gJ) (f:=214) ht.2.1.1 (λe he bs l h hl=>as7 e (ht.2.1.2 e he) h hl) a3 (by rw [aw]; omega) l1;obtain ⟨g1,g2⟩:=c4.2 _ _ f1 f2 f3;obtain ⟨b3,l3,d1,d2,d3,d4⟩:=uh (E:=E) (cells:=When.c) (zero:=[(.d (.str ⟨#[]⟩)),(.d (.slice true []))]) (λ_=>rfl) (by decide) rfl cl7 ce0 (enc:=lQ) (f:=216) ht.2.2.1 (λe he bs l h hl=>as8 e (ht.2.2.2 e he) h hl) c3 (by rw [aw,aw]; omega) l2;refine ⟨b3,min lo l3,?_,by omega,by simpa [kV] using d3,(((Fx.lay h.len _).trans a4).trans c4).trans d4⟩;rw [aJ bl6 cc4];simp [af,Sy,a1,f3,c1,g1,d1];exact fU d2 h.len
end
section
variable {E:Calls'}
theorem iK {α:Type}{f:α->List Int}{K:Nat}:∀ {l:List α},(∀ x∈l,(f x).length<=K)->(l.flatMap f).length<=l.length * K
 | [],_=>by simp
 | x::l,h=>by
  have h1:=h x (by simp);have h2:=iK (l:=l) λy hy=>h y (List.mem_cons_of_mem _ hy);rw [dJ,cg,Nat.add_mul,Nat.one_mul];omega
theorem nU {α:Type}{f:α->List Int}{K n:Nat}{l:List α}(hn:l.length<=n)(h:∀ x∈l,(f x).length<=K):(seqB f l).length<=10+n * K:=by
 have h1:=iK h;have h2:=bv l.length;have h3:l.length * K<=n * K:=Nat.mul_le_mul_right K hn;simp only [seqB,aw];omega
theorem FI {s:ByteArray}(h:eqS s ⟨#[]⟩=true):s.size=0:=by
 unfold eqS at h;have h1:s.toList=(⟨#[]⟩:ByteArray).toList:=eq_of_beq h;have h2:=fK s;rw [h1,bR] at h2;exact h2.symm
theorem Lm {t:Term}(h:fZ t=true):(dI t).length<=75:=by
 have h1:=jE t.text;have h2:t.text.size<=64:=by
  simp only [fZ,aE] at h;obtain ⟨_,h⟩:=h;split at h
  . have:=FI h; omega
  . simp only [aE,bw] at h;omega
 simp only [dI,cg];omega
theorem Lp {s:Sl Term}(h:aT s=true):(seqB dI s.l).length<=460:=by
 simp only [aT,aE,bw,cj] at h;exact nU (n:=6) (K:=75) (by omega) λx hx=>Lm (h.2 x hx)
theorem AX {ls:List (Sl Term)}{n:Nat}(hn:ls.length<=n)(h:ls.all aT=true):(jh ls).length<=n * 460:=by
 have h1:=iK (f:=λs:Sl Term=>seqB dI s.l) (K:=460) (l:=ls) λx hx=>Lp (cj.1 h x hx);have h3:ls.length * 460<=n * 460:=Nat.mul_le_mul_right _ hn;simp only [jh];omega
theorem EG {s:Source}(h:bZ s=true):(gI s).length<=960:=by
 have h0:([s.names,s.spaces].all aT&&kD s.nets)=true:=h;rw [aE] at h0;have h1:=AX (n:=2) (by simp) h0.1;have h2:=h0.2;simp only [kD,aE,bw] at h2;have h3:=nU (n:=6) (K:=5) (f:=kv) (l:=s.nets.l) (by omega) λx _=>br 5;simp only [gI,aw];omega
theorem EU {s:Target}(h:aS s=true):(gJ s).length<=1450:=by
 have h0:(([s.methods,s.paths,s.hosts].all aT)&&(decide ((s.ports.l.length:Int)<=6)&&s.ports.l.all eu)&&((qK (bM s.ports.l):Int)==(s.ports.l.length:Int)))=true:=h;simp only [aE,bw] at h0;have h1:=AX (ls:=[s.methods,s.paths,s.hosts]) (n:=3) (by simp) h0.1.1;have h3:=nU (n:=6) (K:=10) (f:=oZ) (l:=s.ports.l) (by omega) λx _=>bv _;simp only [gJ,aw];omega
theorem LB {s:When}(h:gX s=true):(lQ s).length<=534:=by
 have h0:(iY s.head&&[s.terms].all aT&&decide ((s.terms.l.length:Int)>0))=true:=h;simp only [aE,bw] at h0;have h1:=AX (ls:=[s.terms]) (n:=1) (by simp) h0.1.2;have h2:=jE s.head;have h3:=h0.1.1;simp only [iY,aE,bw] at h3;simp only [lQ,aw];omega
theorem KS {s:Rule}(h:fe s=true):(kV s).length<=8862:=by
 simp only [fe,aE,bw,cj] at h;have h1:=nU (n:=3) (K:=960) (f:=gI) (l:=s.frm.l) (by omega) λx hx=>EG (h.1.1.2 x hx);have h2:=nU (n:=3) (K:=1450) (f:=gJ) (l:=s.to.l) (by omega) λx hx=>EU (h.1.2.2 x hx);have h3:=nU (n:=3) (K:=534) (f:=lQ) (l:=s.whn.l) (by omega) λx hx=>LB (h.2.2 x hx);simp only [kV,aw];omega
def lZ (p:Pol):List Int:=aQ p.id++(bG p.ns++([p.service,wrap .u64 p.deny].flatMap aQ++seqB kV p.rules.l))
theorem sG {s:ByteArray}(h:bf s=true):s.size<=20:=by
 simp only [bf,aE,bw] at h;omega
theorem wD {p:Pol}(h:fB p=true):(lZ p).length<=53300:=by
 simp only [fB,aE,bw,Bool.or_eq_true,cj] at h;have h1:=nU (n:=6) (K:=8862) (f:=kV) (l:=p.rules.l) (by omega) λx hx=>KS (h.2.2 x hx);have h2:=jE p.ns;have h3:p.ns.size<=20:=by
  obtain hh | hh:=h.1.1.1.2
  . have:=FI hh; omega
  . exact sG hh
 have h4:=bv p.id;have h5:=bv p.service;have h6:=bv (wrap .u64 p.deny);simp only [lZ,aw,List.flatMap_cons,List.flatMap_nil,ch];omega
def bytesD (l:List Int):D:=.slice false (l.map λn=>[.int .u8 n])
theorem df (x:Int):aQ x≠[]:=by
 intro h;have:=congrArg List.length h;rw [aQ,qo] at this;simp at this
theorem vG {h:Hp}{k b:Nat}{l:List Int}{cap:Option Nat}(hb:ah h.bs b=some (l.map (iv .u8))):dataV h (k+1) (.row b 0 l.length cap 1)=some (bytesD l):=by
 have hf:∀ l:List Int,flat (l.map λn=>[D.int .u8 n])=l.map (iv .u8):=by
  intro l;simp only [flat]
  induction l with
  | nil=>rfl
  | cons x l ih=>simp only [cn,List.flatten_cons,List.map_append,ih]; rfl
 exact iO (z:=1) (es:=l.map λn=>[D.int .u8 n]) (rest:=[]) (by simp) (by simp) (by rw [hf,List.append_nil]; exact hb)
section
variable (h385:∀ t:Target,t.wf big->∀ h,E 233 [ag t.c] h=some (bl (aS t),h))
include h385
theorem ao0 (p:Pol)(hp:p.wf big)(h:Hp):Sm E TT au 109 [ag p.c] h=some (.tup (if fB p then [.d (bytesD (lZ p)),.d (i64 0)] else [.d (.slice true []),.d (i64 1)]),h):=by
 have n1:=λh=>VN h385 p hp h;rw [aU bj1 ca1];cases hm:fB p with
 | false =>
  simp only [hm] at n1;simp [af,NQ,n1]
 | true =>
  simp only [hm] at n1;have hlen:=wD hm;have hbig:big=2 ^ 30:=rfl;simp only [lZ,aw] at hlen;obtain ⟨lo0,m1⟩:=VJ (E:=E) [.cells (p.c.map .d)] 0;have hW:=LG [.cells (p.c.map .d)];have hW1:jG ([.cells (p.c.map .d)]++[.cells [.d (.slice true [])]]) 1≠some 0:=by simp [jG]
  obtain ⟨b1,l1,a1,a2,a3,a4⟩:=Gm (E:=E) hW p.id (by simp; omega) lo0;obtain ⟨f1,f2⟩:=a4.2 0 (p.c.map .d) (by simp) hW1 (by simp);obtain ⟨b2,l2,c1,c2,c3,c4⟩:=Dx (E:=E) a3 p.ns (by simp; omega) l1;obtain ⟨g1,g2⟩:=c4.2 _ _ (by simp) f2 f1;have hfr:=c3.fresh [.cells [.d (u64 p.service),.d (u64 (wrap .u64 p.deny))]];obtain ⟨b3,l3,d1,d2,d3,d4⟩:=yJ (E:=E) (c3.lay [.cells [.d (u64 p.service),.d (u64 (wrap .u64 p.deny))]]) (xs:=[p.service,wrap .u64 p.deny]) (by simp) (by simp) (q:=b2.length) hfr.1 (cap:=some 2) hfr.2 (by simp) (by simp only [aw,ch]; omega) l2;obtain ⟨k1,k2⟩:=((Fx.lay c3.len _).trans d4).2 _ _ (by simp) g2 g1;obtain ⟨b4,l4,e1,e2,e3,e4⟩:=uh (E:=E) (cells:=Rule.c) (zero:=sl0 3) (λ_=>rfl) (by decide) rfl ck7 cc3 (enc:=kV) (f:=173) hp.2.2.2.2.1 (λe he bs l h hl=>aq3 e ((hp.2.2.2.2.2 e he).fits) h hl) d3 (by simp only [aw,ch]; omega) l3;have hfin:[]++aQ p.id++bG p.ns++[p.service,wrap .u64 p.deny].flatMap aQ++seqB kV p.rules.l=lZ p:=by simp [lZ]
  rw [hfin] at e3;obtain ⟨l5,r1⟩:=VK (E:=E) e3 (by have:=wD hm; omega) (by simp [lZ,df]) l4;have hfz:=vG (h:=⟨b4++[.cells ((lZ p).map (iv .u8))],l5⟩) (k:=7) (b:=b4.length) (l:=lZ p) (cap:=none) (by simp);simp at a1 c1 d1 e1 r1 m1 f1 g1 k1;simp [af,NQ,n1,m1,a1,f1,c1,g1,aL,d1,k1,e1,r1];simp [frz,cO,hfz]
end
end
section
variable {E:Calls'}
def mE (p:Pod):List Int:=[p.uid].flatMap aQ++(bG p.ns++(bG p.sa++[wrap .u64 p.host,wrap .u64 p.addr,wrap .u64 p.port,p.service].flatMap aQ))
def mK (s:Svc):List Int:=[s.id].flatMap aQ++(bG s.ns++[wrap .u64 s.addr,wrap .u64 s.port,s.way].flatMap aQ)
def rJ (w:Way):List Int:=[w.id,wrap .u64 w.node].flatMap aQ
def strOf (l:List Int):ByteArray:=⟨(l.map λn=>UInt8.ofNat n.toNat).toArray⟩
def gH (p:Pol):List Int:=bG (strOf (lZ p))
theorem Wr.fresh1 {p:Nat}{bs:List Blk}{l:List Int}(h:Wr bs p l)(a:Blk)(ys:List Blk):bs.length+1≠p/\jG (bs++(a::ys)) p≠some (bs.length+1):=by
 have hp:=h.len;refine ⟨by omega,?_⟩;rw [pJ hp];intro hh;have:=h.row_lt hh;omega
theorem Hm (c:Cfg)(hs:c.pods.l.length<2 ^ 62){p:Nat}:∀ (m i:Nat) (bs:List Blk) (lo:Nat) (l:List Int),i+m=c.pods.l.length->Wr bs p l->l.length+((c.pods.l.drop i).flatMap mE).length<=big →
 ∃ bs' lo',Cd E TT au (.loop [1,3,33,34,35] uR) [(1,.ptr 0 0),(3,.ptr p 0),(33,.d (c.pods.d Pod.c)),(34,.d (i64 c.pods.l.length)),(35,.d (i64 i))] ⟨bs,lo⟩=some (.exit 0,[(1,.ptr 0 0),(3,.ptr p 0)],⟨bs',lo'⟩) ∧
  (lo<=p->lo'<=p)/\Wr bs' p (l++(c.pods.l.drop i).flatMap mE)/\Fx p bs bs':=by
 intro m;have key:=ay (E:=E) (T:=TT) (val:=au) [1,3,33,34,35] uR;generalize Cd E TT au (.loop [1,3,33,34,35] uR)=W at key ⊢
 induction m with
 | zero =>
  intro i bs lo l hi hW hl;have h0:c.pods.l.drop i=[]:=bb (by omega);refine ⟨bs,lo,?_,id,by simpa [h0] using hW,Fx.refl _ _⟩;rw [key];simp [uR,show ¬ ((i:Int)<c.pods.l.length) from by omega]
 | succ m ih =>
  intro i bs lo l hi hW hl;have hlt:i<c.pods.l.length:=by omega
  have hx:=λh=>aA (z:=7) h (ac hlt) (cells:=Pod.c) rfl;rw [ba hlt] at hl ⊢;rw [dJ] at hl;generalize c.pods.l[i]=e at *;have hl2:(mE e).length=([e.uid].flatMap aQ).length+((bG e.ns).length+((bG e.sa).length+([wrap .u64 e.host,wrap .u64 e.addr,wrap .u64 e.port,e.service].flatMap aQ).length)):=by simp only [mE,aw]
  have u1:=hW.fresh1 (.cells (e.c.map .d)) [.cells [.d (u64 e.uid)]];obtain ⟨b1,l1,a1,a2,a3,a4⟩:=yJ (E:=E) (hW.lay (.cells (e.c.map .d)::[.cells [.d (u64 e.uid)]])) (xs:=[e.uid]) (by simp) (by simp) (q:=bs.length+1) u1.1 (cap:=some 1) u1.2 (by simp) (by omega) (min lo bs.length);obtain ⟨f1,f2,f3⟩:=a4.new hW;obtain ⟨b2,l2,c1,c2,c3,c4⟩:=Dx (E:=E) a3 e.ns (by simp only [aw]; omega) l1;obtain ⟨g1,g2⟩:=c4.2 _ _ f1 f2 f3;obtain ⟨b3,l3,d1,d2,d3,d4⟩:=Dx (E:=E) c3 e.sa (by simp only [aw]; omega) l2;obtain ⟨k1,k2⟩:=d4.2 _ _ f1 g2 g1;have u2:=d3.fresh [.cells [.d (u64 (wrap .u64 e.host)),.d (u64 (wrap .u64 e.addr)),.d (u64 (wrap .u64 e.port)),.d (u64 e.service)]];obtain ⟨b4,l4,e1,e2,e3,e4⟩:=yJ (E:=E) (d3.lay [.cells [.d (u64 (wrap .u64 e.host)),.d (u64 (wrap .u64 e.addr)),.d (u64 (wrap .u64 e.port)),.d (u64 e.service)]]) (xs:=[wrap .u64 e.host,wrap .u64 e.addr,wrap .u64 e.port,e.service]) (by simp) (by simp) (q:=b3.length) u2.1 (cap:=some 4) u2.2 (by simp) (by simp only [aw]; omega) l3;have e3':Wr b4 p (l++mE e):=by simpa only [mE,List.append_assoc] using e3
  obtain ⟨bs',lo',q1,q2,q3,q4⟩:=ih (i+1) b4 l4 (l++mE e) (by omega) e3' (by rw [aw]; omega);have hw:=ax hlt hs;refine ⟨bs',lo',?_,λ_=>q2 e2,by simpa using q3,(((((Fx.lay hW.len _).trans a4).trans c4).trans d4).trans ((Fx.lay d3.len _).trans e4)).trans q4⟩;simp at a1 c1 d1 e1;rw [key];simp [uR,hx,aL,a1,f3,c1,g1,d1,k1,e1,hw,show ((i:Int)<c.pods.l.length) from by omega];simpa using q1
theorem Im (c:Cfg)(hs:c.services.l.length<2 ^ 62){p:Nat}:∀ (m i:Nat) (bs:List Blk) (lo:Nat) (l:List Int),i+m=c.services.l.length->Wr bs p l->l.length+((c.services.l.drop i).flatMap mK).length<=big →
 ∃ bs' lo',Cd E TT au (.loop [1,3,77,78,79] uS) [(1,.ptr 0 0),(3,.ptr p 0),(77,.d (c.services.d Svc.c)),(78,.d (i64 c.services.l.length)),(79,.d (i64 i))] ⟨bs,lo⟩=some (.exit 2,[(1,.ptr 0 0),(3,.ptr p 0)],⟨bs',lo'⟩) ∧
  (lo<=p->lo'<=p)/\Wr bs' p (l++(c.services.l.drop i).flatMap mK)/\Fx p bs bs':=by
 intro m;have key:=ay (E:=E) (T:=TT) (val:=au) [1,3,77,78,79] uS;generalize Cd E TT au (.loop [1,3,77,78,79] uS)=W at key ⊢
 induction m with
 | zero =>
  intro i bs lo l hi hW hl;have h0:c.services.l.drop i=[]:=bb (by omega);refine ⟨bs,lo,?_,id,by simpa [h0] using hW,Fx.refl _ _⟩;rw [key];simp [uS,show ¬ ((i:Int)<c.services.l.length) from by omega]
 | succ m ih =>
  intro i bs lo l hi hW hl;have hlt:i<c.services.l.length:=by omega
  have hx:=λh=>aA (z:=5) h (ac hlt) (cells:=Svc.c) rfl;rw [ba hlt] at hl ⊢;rw [dJ] at hl;generalize c.services.l[i]=e at *;have hl2:(mK e).length=([e.id].flatMap aQ).length+((bG e.ns).length+([wrap .u64 e.addr,wrap .u64 e.port,e.way].flatMap aQ).length):=by simp only [mK,aw]
  have u1:=hW.fresh1 (.cells (e.c.map .d)) [.cells [.d (u64 e.id)]];obtain ⟨b1,l1,a1,a2,a3,a4⟩:=yJ (E:=E) (hW.lay (.cells (e.c.map .d)::[.cells [.d (u64 e.id)]])) (xs:=[e.id]) (by simp) (by simp) (q:=bs.length+1) u1.1 (cap:=some 1) u1.2 (by simp) (by omega) (min lo bs.length);obtain ⟨f1,f2,f3⟩:=a4.new hW;obtain ⟨b2,l2,c1,c2,c3,c4⟩:=Dx (E:=E) a3 e.ns (by simp only [aw]; omega) l1;obtain ⟨g1,g2⟩:=c4.2 _ _ f1 f2 f3;have u2:=c3.fresh [.cells [.d (u64 (wrap .u64 e.addr)),.d (u64 (wrap .u64 e.port)),.d (u64 e.way)]];obtain ⟨b4,l4,e1,e2,e3,e4⟩:=yJ (E:=E) (c3.lay [.cells [.d (u64 (wrap .u64 e.addr)),.d (u64 (wrap .u64 e.port)),.d (u64 e.way)]]) (xs:=[wrap .u64 e.addr,wrap .u64 e.port,e.way]) (by simp) (by simp) (q:=b2.length) u2.1 (cap:=some 3) u2.2 (by simp) (by simp only [aw]; omega) l2;have e3':Wr b4 p (l++mK e):=by simpa only [mK,List.append_assoc] using e3
  obtain ⟨bs',lo',q1,q2,q3,q4⟩:=ih (i+1) b4 l4 (l++mK e) (by omega) e3' (by rw [aw]; omega);have hw:=ax hlt hs;refine ⟨bs',lo',?_,λ_=>q2 e2,by simpa using q3,((((Fx.lay hW.len _).trans a4).trans c4).trans ((Fx.lay c3.len _).trans e4)).trans q4⟩;simp at a1 c1 e1;rw [key];simp [uS,hx,aL,a1,f3,c1,g1,e1,hw,show ((i:Int)<c.services.l.length) from by omega];simpa using q1
theorem Iz (c:Cfg)(hs:c.bound.l.length<2 ^ 62){p:Nat}:∀ (m i:Nat) (bs:List Blk) (lo:Nat) (l:List Int),i+m=c.bound.l.length->Wr bs p l->l.length+((c.bound.l.drop i).flatMap rJ).length<=big →
 ∃ bs' lo',Cd E TT au (.loop [1,3,112,113,114] uT) [(1,.ptr 0 0),(3,.ptr p 0),(112,.d (c.bound.d Way.c)),(113,.d (i64 c.bound.l.length)),(114,.d (i64 i))] ⟨bs,lo⟩=some (.exit 4,[(1,.ptr 0 0),(3,.ptr p 0)],⟨bs',lo'⟩) ∧
  (lo<=p->lo'<=p)/\Wr bs' p (l++(c.bound.l.drop i).flatMap rJ)/\Fx p bs bs':=by
 intro m;have key:=ay (E:=E) (T:=TT) (val:=au) [1,3,112,113,114] uT;generalize Cd E TT au (.loop [1,3,112,113,114] uT)=W at key ⊢
 induction m with
 | zero =>
  intro i bs lo l hi hW hl;have h0:c.bound.l.drop i=[]:=bb (by omega);refine ⟨bs,lo,?_,id,by simpa [h0] using hW,Fx.refl _ _⟩;rw [key];simp [uT,show ¬ ((i:Int)<c.bound.l.length) from by omega]
 | succ m ih =>
  intro i bs lo l hi hW hl;have hlt:i<c.bound.l.length:=by omega
  have hx:=λh=>aA (z:=2) h (ac hlt) (cells:=Way.c) rfl;rw [ba hlt] at hl ⊢;rw [dJ] at hl;generalize c.bound.l[i]=e at *;have u1:=hW.fresh1 (.cells (e.c.map .d)) [.cells [.d (u64 e.id),.d (u64 (wrap .u64 e.node))]];obtain ⟨b1,l1,a1,a2,a3,a4⟩:=yJ (E:=E) (hW.lay (.cells (e.c.map .d)::[.cells [.d (u64 e.id),.d (u64 (wrap .u64 e.node))]])) (xs:=[e.id,wrap .u64 e.node]) (by simp) (by simp) (q:=bs.length+1) u1.1 (cap:=some 2) u1.2 (by simp) (by have:(rJ e).length=([e.id,wrap .u64 e.node].flatMap aQ).length:=rfl; omega) (min lo bs.length);obtain ⟨bs',lo',q1,q2,q3,q4⟩:=ih (i+1) b1 l1 (l++rJ e) (by omega) a3 (by rw [aw]; omega);have hw:=ax hlt hs;refine ⟨bs',lo',?_,λ_=>q2 a2,by simpa using q3,((Fx.lay hW.len _).trans a4).trans q4⟩;simp at a1;rw [key];simp [uT,hx,aL,a1,hw,show ((i:Int)<c.bound.l.length) from by omega];simpa using q1
def Ai (x:V)(h:Hp):Option (V×Hp):=match x with
 | .d (.str _)=>none
 | v=>match aH h v 1 with
  | some (_,cs)=>match cs.mapM (λv=>match v with | .d (.int .u8 n)=>some (UInt8.ofNat n.toNat) | _=>none) with
   | some l=>some (.d (.str ⟨l.toArray⟩),h)
   | none=>none
  | none=>none
@[simp] theorem Rm {C:Calls'}{ev:X->V}{h:Hp}{x:X}:opE C (.convBS x) ev h=Ai (ev x) h:=(rfl)
theorem DW (l:List Int):(l.map λn=>[D.int .u8 n]).flatten.map V.d=l.map (iv .u8):=by
 induction l with
 | nil=>rfl
 | cons x l ih=>simp only [cn,List.flatten_cons,List.map_append,ih]; rfl
theorem BQ {h:Hp}{l:List Int}:Ai (.d (bytesD l)) h=some (.d (.str (strOf l)),h):=by
 have hall:((l.map λn=>[D.int .u8 n]).all λe=>e.length==1)=true:=by simp
 have hm:(l.map (iv .u8)).mapM (λv=>match v with | .d (.int .u8 n)=>some (UInt8.ofNat n.toNat) | _=>none)=some (l.map λn=>UInt8.ofNat n.toNat):=by
  induction l with
  | nil=>rfl
  | cons x l ih =>
   simp only [cn,List.mapM_cons] at ih ⊢;rw [ih (by simp)];rfl
 simp only [Ai,bytesD,aH,hall,if_true,DW,hm];rfl
section
variable (h385:∀ t:Target,t.wf big->∀ h,E 233 [ag t.c] h=some (bl (aS t),h))
include h385
theorem Hq (c:Cfg)(hs:c.policies.l.length<2 ^ 62)(hwf:∀ p∈c.policies.l,p.wf big/\fB p=true){p:Nat}:∀ (m i:Nat) (bs:List Blk) (lo:Nat) (l:List Int),i+m=c.policies.l.length->Wr bs p l->l.length+((c.policies.l.drop i).flatMap gH).length<=big →
 ∃ bs' lo',Cd E TT au (.loop [3,135,136,137] uU) [(3,.ptr p 0),(135,.d (c.policies.d Pol.c)),(136,.d (i64 c.policies.l.length)),(137,.d (i64 i))] ⟨bs,lo⟩=some (.exit 6,[(3,.ptr p 0)],⟨bs',lo'⟩) ∧
  (lo<=p->lo'<=p)/\Wr bs' p (l++(c.policies.l.drop i).flatMap gH)/\Fx p bs bs':=by
 intro m;have key:=ay (E:=E) (T:=TT) (val:=au) [3,135,136,137] uU;generalize Cd E TT au (.loop [3,135,136,137] uU)=W at key ⊢
 induction m with
 | zero =>
  intro i bs lo l hi hW hl;have h0:c.policies.l.drop i=[]:=bb (by omega);refine ⟨bs,lo,?_,id,by simpa [h0] using hW,Fx.refl _ _⟩;rw [key];simp [uU,show ¬ ((i:Int)<c.policies.l.length) from by omega]
 | succ m ih =>
  intro i bs lo l hi hW hl;have hlt:i<c.policies.l.length:=by omega
  have hx:=λh=>aA (z:=5) h (ac hlt) (cells:=Pol.c) rfl;obtain ⟨hw1,hw2⟩:=hwf _ (bj hlt);rw [ba hlt] at hl ⊢;rw [dJ] at hl;generalize c.policies.l[i]=e at *;have n1:=λh=>ao0 h385 e hw1 h;simp only [hw2,if_true] at n1;obtain ⟨b1,l1,a1,a2,a3,a4⟩:=Dx (E:=E) (hW.lay [.cells (e.c.map .d)]) (strOf (lZ e)) (by have:(gH e).length=(bG (strOf (lZ e))).length:=rfl; omega) (min lo bs.length);obtain ⟨bs',lo',q1,q2,q3,q4⟩:=ih (i+1) b1 l1 (l++gH e) (by omega) a3 (by rw [aw]; omega);have hw:=ax hlt hs;refine ⟨bs',lo',?_,λ_=>q2 a2,by simpa using q3,((Fx.lay hW.len _).trans a4).trans q4⟩;rw [key];simp [uU,hx,n1,BQ,a1,hw,show ((i:Int)<c.policies.l.length) from by omega];simpa using q1
end
end
section
variable {E:Calls'}
def dM (c:Cfg):List Int:=[c.epoch,c.next,wrap .u64 c.hosts,wrap .u64 c.ways,(c.pods.l.length:Int)].flatMap aQ++(c.pods.l.flatMap mE++([(c.services.l.length:Int)].flatMap aQ++(c.services.l.flatMap mK++([(c.bound.l.length:Int)].flatMap aQ++(c.bound.l.flatMap rJ++([(c.policies.l.length:Int)].flatMap aQ++c.policies.l.flatMap gH))))))
theorem EM (l:List Int):(strOf l).size=l.length:=by
 show ((l.map λn=>UInt8.ofNat n.toNat).toArray).size=_;simp
theorem MX {p:Pod}(h1:p.ns.size<=20)(h2:p.sa.size<=20):(mE p).length<=110:=by
 have a1:=bv p.uid;have a2:=jE p.ns;have a3:=jE p.sa;have a4:=bv (wrap .u64 p.host);have a5:=bv (wrap .u64 p.addr);have a6:=bv (wrap .u64 p.port);have a7:=bv p.service;simp only [mE,aw,List.flatMap_cons,List.flatMap_nil,ch];omega
theorem O5 {p:Svc}(h1:p.ns.size<=20):(mK p).length<=70:=by
 have a1:=bv p.id;have a2:=jE p.ns;have a5:=bv (wrap .u64 p.addr);have a6:=bv (wrap .u64 p.port);have a7:=bv p.way;simp only [mK,aw,List.flatMap_cons,List.flatMap_nil,ch];omega
theorem Pm {p:Way}:(rJ p).length<=20:=by
 have a1:=bv p.id;have a5:=bv (wrap .u64 p.node);simp only [rJ,aw,List.flatMap_cons,List.flatMap_nil,ch];omega
theorem Kg {p:Pol}(h:fB p=true):(gH p).length<=53310:=by
 have a2:=jE (strOf (lZ p));rw [EM] at a2;have:=wD h;simp only [gH];omega
theorem xW {c:Cfg}(h:gV c=true):∀ p∈c.pods.l,p.ns.size<=20/\p.sa.size<=20:=by
 simp only [gV,aE,Bool.not_eq_true',List.any_eq_false] at h;intro p hp;have:=h.1 p hp;simp only [bA,bi,Bool.or_eq_true,not_or,Bool.not_eq_true',Bool.not_eq_false,aE] at this;exact ⟨sG this.1.2.2.1,sG this.1.2.2.2⟩
theorem yx {c:Cfg}(h:bU c=true):∀ p∈c.services.l,p.ns.size<=20:=by
 simp only [bU,aE,Bool.not_eq_true',List.any_eq_false] at h;intro p hp;have:=h.1 p hp;simp only [fH,Bool.or_eq_true,not_or,Bool.not_eq_true',Bool.not_eq_false] at this;exact sG this.2.1
theorem j6 {c:Cfg}(h:bP c=true):∀ p∈c.policies.l,fB p=true:=by
 simp only [bP,aE,Bool.not_eq_true',List.any_eq_false] at h;intro p hp;have:=h.1 p hp;simp only [fG,Bool.or_eq_true,not_or,Bool.not_eq_true',Bool.not_eq_false] at this;exact this.2.1
theorem za {c:Cfg}(h1:kg c=true)(h2:oU c=true):(dM c).length<=700000:=by
 simp only [kg,aE,bw] at h1;simp only [oU,aE] at h2;have b1:=iK (K:=110) (f:=mE) (l:=c.pods.l) λp hp=>MX (xW h2.1.1.1.1.2 p hp).1 (xW h2.1.1.1.1.2 p hp).2;have b2:=iK (K:=70) (f:=mK) (l:=c.services.l) λp hp=>O5 (yx h2.1.1.1.2 p hp);have b3:=iK (K:=20) (f:=rJ) (l:=c.bound.l) λp hp=>Pm;have b4:=iK (K:=53310) (f:=gH) (l:=c.policies.l) λp hp=>Kg (j6 h2.2 p hp);have a1:=bv c.epoch;have a2:=bv c.next;have a3:=bv (wrap .u64 c.hosts);have a4:=bv (wrap .u64 c.ways);have a5:=bv (c.pods.l.length:Int);have a6:=bv (c.services.l.length:Int);have a7:=bv (c.bound.l.length:Int);have a8:=bv (c.policies.l.length:Int);simp only [dM,aw,List.flatMap_cons,List.flatMap_nil,ch];omega
theorem wrapN {n:Nat}(h:n<=2 ^ 30):wrap .u64 (n:Int)=n:=by
 simp [wrap,IntKind.bits,IntKind.signed];omega
section
variable (h385:∀ t:Target,t.wf big->∀ h,E 233 [ag t.c] h=some (bl (aS t),h))
include h385
theorem aw7 (c:Cfg)(hc:c.wf big)(hpm:∀ p∈c.policies.l,fB p=true)(hlen:(dM c).length<=big)(h:Hp){a:V}(ha:frz h a=some (ag c.c)):Sm E TT au 68 [a] h=some (.d (bytesD (dM c)),h):=by
 have hm:[a].mapM (frz h)=some [c.v]:=by simp [ha,Cfg.v]
 have hok:c.ok:=hc.ok (br _);have w1:=wrapN (n:=c.pods.l.length) hok.1.1;have w2:=wrapN (n:=c.services.l.length) hok.2.1.1;have w3:=wrapN (n:=c.bound.l.length) hok.2.2.1.1;have w4:=wrapN (n:=c.policies.l.length) hok.2.2.2.1.1;rw [aU t94 v94,hm,rG];have hlen0:=hlen;simp only [dM,aw] at hlen;obtain ⟨lo0,m1⟩:=VJ (E:=E) [.cells (c.c.map .d)] 0;have hW:=LG [.cells (c.c.map .d)];have hW0:jG ([.cells (c.c.map .d)]++[.cells [.d (.slice true [])]]) 1≠some 0:=by simp [jG]
 have u1:=hW.fresh [.cells [.d (u64 c.epoch),.d (u64 c.next),.d (u64 (wrap .u64 c.hosts)),.d (u64 (wrap .u64 c.ways)),.d (u64 c.pods.l.length)]];obtain ⟨b1,l1,a1,a2,a3,a4⟩:=yJ (E:=E) (hW.lay [.cells [.d (u64 c.epoch),.d (u64 c.next),.d (u64 (wrap .u64 c.hosts)),.d (u64 (wrap .u64 c.ways)),.d (u64 c.pods.l.length)]]) (xs:=[c.epoch,c.next,wrap .u64 c.hosts,wrap .u64 c.ways,(c.pods.l.length:Int)]) (by simp) (by simp) u1.1 (cap:=some 5) u1.2 (by simp) (by simp only [ch]; omega) lo0;obtain ⟨f1,f2⟩:=((Fx.lay hW.len _).trans a4).2 0 (c.c.map .d) (by simp) hW0 (by simp);obtain ⟨b2,l2,c1,c2,c3,c4⟩:=Hm (E:=E) c hok.1.lt c.pods.l.length 0 b1 l1 _ (by omega) a3 (by simp only [aw,List.drop_zero,ch]; omega);obtain ⟨g1,g2⟩:=c4.2 _ _ (by simp) f2 f1;simp only [List.drop_zero] at c3;have u2:=c3.fresh [.cells [.d (u64 c.services.l.length)]];obtain ⟨b3,l3,d1,d2,d3,d4⟩:=yJ (E:=E) (c3.lay [.cells [.d (u64 c.services.l.length)]]) (xs:=[(c.services.l.length:Int)]) (by simp) (by simp) u2.1 (cap:=some 1) u2.2 (by simp) (by simp only [aw,ch]; omega) l2;obtain ⟨g3,g4⟩:=((Fx.lay c3.len _).trans d4).2 _ _ (by simp) g2 g1;obtain ⟨b4,l4,e1,e2,e3,e4⟩:=Im (E:=E) c hok.2.1.lt c.services.l.length 0 b3 l3 _ (by omega) d3 (by simp only [aw,List.drop_zero,ch]; omega);obtain ⟨g5,g6⟩:=e4.2 _ _ (by simp) g4 g3;simp only [List.drop_zero] at e3
 have u3:=e3.fresh [.cells [.d (u64 c.bound.l.length)]];obtain ⟨b5,l5,i1,i2,i3,i4⟩:=yJ (E:=E) (e3.lay [.cells [.d (u64 c.bound.l.length)]]) (xs:=[(c.bound.l.length:Int)]) (by simp) (by simp) u3.1 (cap:=some 1) u3.2 (by simp) (by simp only [aw,ch]; omega) l4;obtain ⟨g7,g8⟩:=((Fx.lay e3.len _).trans i4).2 _ _ (by simp) g6 g5;obtain ⟨b6,l6,j1,j2,j3,j4⟩:=Iz (E:=E) c hok.2.2.1.lt c.bound.l.length 0 b5 l5 _ (by omega) i3 (by simp only [aw,List.drop_zero,ch]; omega);obtain ⟨g9,g10⟩:=j4.2 _ _ (by simp) g8 g7;simp only [List.drop_zero] at j3;have u4:=j3.fresh [.cells [.d (u64 c.policies.l.length)]];obtain ⟨b7,l7,k1,k2,k3,k4⟩:=yJ (E:=E) (j3.lay [.cells [.d (u64 c.policies.l.length)]]) (xs:=[(c.policies.l.length:Int)]) (by simp) (by simp) u4.1 (cap:=some 1) u4.2 (by simp) (by simp only [aw,ch]; omega) l6;obtain ⟨g11,g12⟩:=((Fx.lay j3.len _).trans k4).2 _ _ (by simp) g10 g9;obtain ⟨b8,l8,n1,n2,n3,n4⟩:=Hq h385 c hok.2.2.2.1.lt (λp hp=>⟨hc.2.2.2.2.2.2.2.2 p hp,hpm p hp⟩) c.policies.l.length 0 b7 l7 _ (by omega) k3 (by simp only [aw,List.drop_zero,ch]; omega);simp only [List.drop_zero] at n3
 have hfin:([]++[c.epoch,c.next,wrap .u64 c.hosts,wrap .u64 c.ways,(c.pods.l.length:Int)].flatMap aQ++c.pods.l.flatMap mE++[(c.services.l.length:Int)].flatMap aQ++c.services.l.flatMap mK++[(c.bound.l.length:Int)].flatMap aQ++c.bound.l.flatMap rJ++[(c.policies.l.length:Int)].flatMap aQ++c.policies.l.flatMap gH)=dM c:=by simp only [dM,List.nil_append,List.append_assoc]
 rw [hfin] at n3;have hne:dM c≠[]:=by
  simp [dM,df]
 generalize dM c=L at *;obtain ⟨l9,r1⟩:=VK (E:=E) n3 hlen0 hne l8;have how:ownR ⟨b8++[.cells (L.map (iv .u8))],l9⟩ (.row b8.length 0 L.length none 1)=true:=by
  have hg:Hp.get ⟨b8++[.cells (L.map (iv .u8))],l9⟩ b8.length=some (L.map (iv .u8)):=by simp [get_eq]
  simp only [ownR,CG,mZ,hg,List.all_map,cj];intro x _;rfl
 have hfz:=vG (h:=⟨b8++[.cells (L.map (iv .u8))],l9⟩) (k:=7) (b:=b8.length) (l:=L) (cap:=none) (by simp);simp at a1 m1 c1 d1 e1 i1 j1 k1 n1 r1 f1 g1 g3 g5 g7 g9;simp [af,q94,m1,aL,w1,a1,f1];rw [aj];simp [c1,g1,w2,aL,d1,g3];rw [aj];simp [e1,g5,w3,aL,i1,g7];rw [aj];simp [j1,g9,w4,aL,k1,g11];rw [aj];simp [n1,r1,hfz,frz,cO,how]
theorem S94 (c:Cfg)(hc:c.wf big)(hpm:∀ p∈c.policies.l,fB p=true)(hlen:(dM c).length<=big)(h:Hp):Sm E TT au 68 [c.v] h=some (.d (bytesD (dM c)),h):=aw7 h385 c hc hpm hlen h (by simp [Cfg.v])
def bX (c:Cfg):Bool:=kg c&&oU c&&decide (((dM c).length:Int)<=8192)
theorem S41 (c:Cfg)(hc:c.wf 1048576)(hcb:c.wf big)(h:Hp):Sm E TT au 18 [c.v] h=some (bl (bX c),h):=by
 have n1:=λh=>S92 (E:=E) c h;have n2:=λh=>S93 h385 c hc hcb h;rw [aU t41 v41];cases h1:kg c with
 | false =>
  simp only [h1] at n1;simp +decide [af,q41,n1,ai,aa,az,aB,bX,h1]
 | true =>
  simp only [h1] at n1;cases h2:oU c with
  | false =>
   simp only [h2] at n2;simp +decide [af,q41,n1,n2,ai,aa,az,aB,bX,h1,h2]
  | true =>
   simp only [h2] at n2;have hle:=za h1 h2;have hp:bP c=true:=by
    simp only [oU,aE] at h2;exact h2.2
   have n3:=λh=>S94 h385 c hcb (j6 hp) (cf hle (by decide)) h;have hl:qO false (.d (bytesD (dM c))) ⟨[.cells (c.c.map .d)],0⟩=some (.d (i64 (dM c).length),⟨[.cells (c.c.map .d)],0⟩):=by
    simp [bytesD]
   generalize hL:bytesD (dM c)=L at *;simp +decide [af,q41,n1,n2,n3,hl,ai,aa,az,aB,bX,h1,h2]
end
end
section
theorem pu:∀ {l:List Int},bQ l=true->l.Pairwise (·<·)
 | [],_=>.nil
 | [x],_=>by simp
 | x::y::l,h=>by
  simp only [bQ,aE,bw] at h;have ih:=pu h.2;refine List.pairwise_cons.2 ⟨λz hz=>?_,ih⟩;obtain rfl | hz:=List.mem_cons.1 hz
  . exact h.1
  . exact Int.lt_trans h.1 ((List.pairwise_cons.1 ih).1 z hz)
end
section
def MG (p:Nat)(r:List V):Option Int:=match r[p]? with
 | some (.d (.int .u64 n))=>some n
 | _=>none
def GN (p:Nat)(r:List V):Int:=(MG p r).getD 0
def chunk (z n:Nat)(cs:List V):List (List V):=(List.range n).map λi=>(cs.drop (i * z)).take z
def Lc (p:Nat)(rs:List (List V)):List (List V):=rs.mergeSort λx y=>decide (GN p x<=GN p y)
structure SF where
 z:Nat
 p:Nat
 g:FuncId
 id:FuncId
def Bf (s:SF)(args:List V)(h:Hp):Option (V×Hp):=match args with
 | [.row b 0 n _ z,.fn g [.ptr c 0]]=>match h.get b,h.get c with
  | some cs,some [.fn id []] =>
   if z=s.z/\g=s.g/\id=s.id/\b≠c/\0<n/\n<=2 ^ 40/\n * z<=cs.length/\(∀ r∈chunk z n cs,(MG s.p r).isSome=true)/\((chunk z n cs).map (GN s.p)).Nodup then
    some (.tup [],h.set b ((Lc s.p (chunk z n cs)).flatten++cs.drop (n * z)))
   else none
  | _,_=>none
 | _=>none
end
section
def woCQ (z:Nat):QF:=⟨10,[.tmp 4],(sr [op 3 (.box (.t 0)),op 4 (.mov (.c zb))] (.seq (.reg (some [[],[],[0,1],[],[2,0,1,3],[4,2,0,1,3]]) [op 5 (l1' 1),op 6 (.load false z (.t 3)),op 7 (kt' 5 [.t 6]),op 8 (l1' 2),op 9 (.eq (.sc (.i .u64)) false (.t 7) (.t 8)),mv 4 9]) (.ret [4])))⟩
def woQ (cl clos del:Nat):QF:=⟨19,[.tmp 6,.tmp 7],(sr [op 4 (.box (.t 1)),op 5 (.box (.t 2)),op 6 (.mov (.c zs0)),op 7 (.mov (.c zb))] (sr [mv 9 0,op 10 (.call (.c (.fn cl [])) [.t 9]),op 11 (.mkfn clos [.t 5,.t 4]),op 12 (.call (.c (.fn del [])) [.t 10,.t 11]),mv 8 12] (sr [mv 13 8,mv 14 8,op 15 (ln' 14),mv 16 0,op 17 (ln' 16),op 18 (bt .lss 15 17),mv 6 13,mv 7 18] (.ret [6,7]))))⟩
def wiQ (z b wo clos srt:Nat)(zero:List V):QF:=⟨26,[.tmp 6],(sr [op 4 (.box (.t 1)),op 5 (.box (.t 2)),op 6 (.mov (.c zs0))] (.seq (.reg (some [[],[],[],[1,2],[],[0,4,3,1,2],[5,0,4,3,1,2],[6,5,0,4,3,1,2],[6,5,0,4,3,1,2],[7,6,5,0,4,3,1,2],[8,9,7,6,5,0,4,3,1,2]]) [mv 10 0,op 11 (l1' 5),op 12 (.load false z (.t 4)),op 13 (kt' 11 [.t 12]),op 14 (l1' 5),op 15 (.call (.c (.fn wo [])) [.t 10,.t 13,.t 14]),mv 9 15,op 16 (.ext (.t 9) 0),op 17 (.ext (.t 9) 1),mv 7 16,mv 8 17]) (sr [mv 18 7,op 19 (.load false z (.t 4)),op 20 (.buildS z 1 zero [(0,z,(.t 19))]),op 21 (.app z b (.t 18) (.t 20)),mv 7 21] (sr [mv 22 7,op 23 (.mkfn clos [.t 5]),op 24 (.call (.c (.fn srt [])) [.t 22,.t 23])] (sr [mv 25 7,mv 6 25] (.ret [6]))))))⟩
section
variable {E:Calls'}{T:FuncId->Option QF}{val:FuncId->Bool}
theorem zR {n b o m z:Nat}{cap:Option Nat}{l:List V}(hb:n<=b):¬ V.under n (.tup (.row b o m cap z::l))=true:=by
 simp [V.under,V.under.go];omega
end
end
