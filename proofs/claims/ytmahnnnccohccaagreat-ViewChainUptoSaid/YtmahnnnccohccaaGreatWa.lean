/- code.Writer: bytes of one's own, field behind field. -/
import Derived.Test.YtmahnnnccohccaaGreatCp
import Derived.KernelRfl
set_option maxRecDepth 100000
set_option linter.unusedVariables false
set_option linter.unusedSimpArgs false
namespace Go.Proofs.YtmahnnnccohccaaGreat
def nilchkv (x:V) (h:Hp):Option (V × Hp):=match x with
 | .ptr b o=>some (.ptr b o,h)
 | .eptr cs o=>some (.eptr cs o,h)
 | .fn f cs=>some (.fn f cs,h)
 | .mfn f cs=>some (.mfn f cs,h)
 | _=>none
section
variable {C:Calls'} {ev:X -> V} {h:Hp}
@[simp] theorem opE_nilchk {x:X}:opE C (.nilchk x) ev h = nilchkv (ev x) h:=(rfl)
@[simp] theorem nilchk_ptr {b o:Nat}:nilchkv (.ptr b o) h = some (.ptr b o,h):=(rfl)
@[simp] theorem eqv_ptr {b o:Nat} {neg:Bool}:eqv .ptr neg (.ptr b o) (.d .nilp) h = some (.d (.bool (false != neg)),h):=(rfl)
end
def wrow (bs:List Blk) (p:Nat):Option Nat:=match getB bs p with
 | some [.row b _ _ _ _]=>some b
 | _=>none
def Wr (bs:List Blk) (p:Nat) (l:List Int):Prop :=
 (l = [] /\ getB bs p = some [.d (.slice true [])]) \/ (l ≠ [] /\ ∃ b,b ≠ p /\ getB bs p = some [.row b 0 l.length none 1] /\ getB bs b = some (l.map (iv .u8)))
def Fx (p:Nat) (bs bs':List Blk):Prop:=bs.length <= bs'.length /\ ∀ x cs,x ≠ p -> wrow bs p ≠ some x -> getB bs x = some cs -> getB bs' x = some cs /\ wrow bs' p ≠ some x
theorem Fx.refl (p:Nat) (bs:List Blk):Fx p bs bs:=⟨Nat.le_refl _,fun x cs _ h2 h3=>⟨h3,h2⟩⟩
theorem Fx.trans {p:Nat} {a b c:List Blk} (h:Fx p a b) (k:Fx p b c):Fx p a c :=
 ⟨Nat.le_trans h.1 k.1,fun x cs h1 h2 h3=>k.2 x cs h1 (h.2 x cs h1 h2 h3).2 (h.2 x cs h1 h2 h3).1⟩
theorem Wr.len {bs:List Blk} {p:Nat} {l:List Int} (h:Wr bs p l):p < bs.length:=by
 rcases h with ⟨_,h⟩ | ⟨_,b,_,h,_⟩ <;> exact getB_len h
theorem Wr.row_lt {bs:List Blk} {p:Nat} {l:List Int} (h:Wr bs p l) {x:Nat} (hx:wrow bs p = some x):x < bs.length:=by
 rcases h with ⟨_,h⟩ | ⟨_,b,_,h,h2⟩
 · simp [wrow,h] at hx
 · simp only [wrow,h,Option.some.injEq] at hx
   subst hx; exact getB_len h2
theorem wrow_lay {bs:List Blk} {p:Nat} (h:p < bs.length) (ys:List Blk):wrow (bs ++ ys) p = wrow bs p:=by
 simp only [wrow,getB_lt h]
theorem Wr.lay {bs:List Blk} {p:Nat} {l:List Int} (h:Wr bs p l) (ys:List Blk):Wr (bs ++ ys) p l:=by
 rcases h with ⟨h1,h2⟩ | ⟨h1,b,h2,h3,h4⟩
 · exact .inl ⟨h1,getB_of h2⟩
 · exact .inr ⟨h1,b,h2,getB_of h3,getB_of h4⟩
theorem Fx.lay {p:Nat} {bs:List Blk} (h:p < bs.length) (ys:List Blk):Fx p bs (bs ++ ys) :=
 ⟨by simp,fun x cs h1 h2 h3=>⟨getB_of h3,by rw [wrow_lay h]; exact h2⟩⟩
theorem getB_set {bs:List Blk} {b x:Nat} {cs:List V}:getB (bs.set b (.cells cs)) x = if b = x then (if b < bs.length then some cs else none) else getB bs x:=by
 unfold getB
 rw [List.getElem?_set]
 by_cases h:b = x
 · subst h
   by_cases hb:b < bs.length <;> simp [hb]
 · simp [h]
theorem Wr.app {bs:List Blk} {p:Nat} {l:List Int} (h:Wr bs p l) {x:V} {xs:List Int} {m lo:Nat} (hr:rowCells ⟨bs,lo⟩ x 1 = some (m,xs.map (iv .u8))) (hm:m = xs.length) (hl:l.length + xs.length <= big) :
 ∃ v v' bs1 lo1,getB bs p = some [v] /\ nu v = some v /\ nu v' = some v' /\ v'.cells = some [v'] /\ appv ⟨bs,lo⟩ 1 1 v x = some (v',⟨bs1,lo1⟩) /\ p < bs1.length /\ getB bs1 p = some [v] /\ Wr (bs1.set p (.cells [v'])) p (l ++ xs) /\ Fx p bs (bs1.set p (.cells [v'])):=by
 subst hm
 have hp:=h.len
 have hroom:roomy (l.length + xs.length) 1 = true:=by
  simp only [roomy,Bool.and_eq_true,decide_eq_true_eq]; exact ⟨hl,by decide⟩
 rcases h with ⟨rfl,h2⟩ | ⟨h1,b,h2,h3,h4⟩
 · by_cases hx:xs = []
   · subst hx
     refine ⟨.d (.slice true []),.d (.slice true []),bs,lo,h2,rfl,rfl,rfl,?_,hp,h2,.inl ⟨rfl,by simp [getB_set,hp]⟩,?_⟩
     · simp [appv,hr,appendAt]
     · refine ⟨by simp,fun y cs k1 k2 k3=>⟨by rw [getB_set,if_neg (Ne.symm k1)]; exact k3,?_⟩⟩
       simp [wrow,getB_set,hp]
   · have hx0:¬ xs.length = 0:=by simpa using hx
     have hroom':roomy xs.length 1 = true:=by simpa using hroom
     refine ⟨.d (.slice true []),.row bs.length 0 xs.length none 1,bs ++ [.cells (xs.map (iv .u8))],lo,h2,rfl,rfl,rfl,?_,by simp; omega,getB_of h2,.inr ⟨by simpa using hx,bs.length,by omega,?_,?_⟩,?_⟩
     · simp [appv,hr,appendAt,hx0,hx,hroom']
     · rw [getB_set,if_pos rfl,if_pos (by simp; omega)]; simp
     · rw [getB_set,if_neg (by omega),getB_at]; simp
     · refine ⟨by simp,fun y cs k1 k2 k3=>⟨by rw [getB_set,if_neg (Ne.symm k1)]; exact getB_of k3,?_⟩⟩
       have:=getB_len k3
       simp [wrow,getB_set]
       rw [if_pos (by omega)]
       simp; omega
 · have hbl:=getB_len h4
   have hpos:0 < l.length:=List.length_pos_iff.2 h1
   by_cases hx:xs = []
   · subst hx
     refine ⟨.row b 0 l.length none 1,.row b 0 l.length none 1,bs,lo,h3,rfl,rfl,rfl,?_,hp,h3,.inr ⟨by simpa using h1,b,h2,?_,?_⟩,?_⟩
     · simp [appv,hr,appendAt]
     · rw [getB_set,if_pos rfl,if_pos hp]; simp
     · rw [getB_set,if_neg (Ne.symm h2)]; simpa using h4
     · refine ⟨by simp,fun y cs k1 k2 k3=>⟨by rw [getB_set,if_neg (Ne.symm k1)]; exact k3,?_⟩⟩
       simp only [wrow,h3] at k2
       simpa [wrow,getB_set,hp] using k2
   · have hx0:¬ xs.length = 0:=by simpa using hx
     have hsub:sub (l.map (iv .u8)) 0 (l.length * 1) = some (l.map (iv .u8)):=sub_all (by simp)
     refine ⟨.row b 0 l.length none 1,.row bs.length 0 (l.length + xs.length) none 1,bs.set b (.cells []) ++ [.cells ((l ++ xs).map (iv .u8))],min lo b,h3,rfl,rfl,rfl,?_,by simp; omega,?_,.inr ⟨by simp [h1],bs.length,by omega,?_,?_⟩,?_⟩
     · simp only [appv,hr,appendAt,get_eq,h4,hsub,hroom]
       simp [hx0,hx,hpos,Hp.set]
     · refine getB_of ?_
       rw [getB_set,if_neg h2]; exact h3
     · rw [getB_set,if_pos rfl,if_pos (by simp; omega)]; simp
     · rw [getB_set,if_neg (by omega)]
       have:=getB_at (bs:=bs.set b (.cells [])) (ys:=[.cells ((l ++ xs).map (iv .u8))])
       simp only [List.length_set] at this
       rw [this]; rfl
     · refine ⟨by simp,fun y cs k1 k2 k3=>?_⟩
       simp only [wrow,h3,ne_eq,Option.some.injEq] at k2
       have:=getB_len k3
       refine ⟨by rw [getB_set,if_neg (Ne.symm k1)]; exact getB_of (by rw [getB_set,if_neg k2]; exact k3),?_⟩
       simp [wrow,getB_set]
       rw [if_pos (by omega)]
       simp; omega
section
variable {E:Calls'}
end
end Go.Proofs.YtmahnnnccohccaaGreat
namespace Go.Proofs.YtmahnnnccohccaaGreat
variable {E:Calls'}
def lenTab:ByteArray:=⟨#[0,1,2,2,3,3,3,3,4,4,4,4,4,4,4,4,5,5,5,5,5,5,5,5,5,5,5,5,5,5,5,5,6,6,6,6,6,6,6,6,6,6,6,6,6,6,6,6,6,6,6,6,6,6,6,6,6,6,6,6,6,6,6,6,7,7,7,7,7,7,7,7,7,7,7,7,7,7,7,7,7,7,7,7,7,7,7,7,7,7,7,7,7,7,7,7,7,7,7,7,7,7,7,7,7,7,7,7,7,7,7,7,7,7,7,7,7,7,7,7,7,7,7,7,7,7,7,7,8,8,8,8,8,8,8,8,8,8,8,8,8,8,8,8,8,8,8,8,8,8,8,8,8,8,8,8,8,8,8,8,8,8,8,8,8,8,8,8,8,8,8,8,8,8,8,8,8,8,8,8,8,8,8,8,8,8,8,8,8,8,8,8,8,8,8,8,8,8,8,8,8,8,8,8,8,8,8,8,8,8,8,8,8,8,8,8,8,8,8,8,8,8,8,8,8,8,8,8,8,8,8,8,8,8,8,8,8,8,8,8,8,8,8,8,8,8,8,8,8,8,8,8,8,8,8,8]⟩
def lenL:List UInt8:=lenTab.data.toList
theorem lenL_len:lenL.length = 256:=by decide +kernel
theorem lenL_small:lenL.all (fun b=>decide (b.toNat <= 8)) = true:=by decide +kernel
def lenT (i:Nat):Int:=match lenL[i]? with
 | some b=>b.toNat
 | none=>0
theorem lenT_le (i:Nat):0 <= lenT i /\ lenT i <= 8:=by
 unfold lenT
 split
 · rename_i b hb
   have:=List.all_eq_true.1 lenL_small b (List.mem_of_getElem? hb)
   simp at this
   omega
 · omega
theorem wrap8 (n:Int):0 <= IntKind.wrap .u8 n /\ IntKind.wrap .u8 n < 256:=by
 simp [IntKind.wrap,IntKind.bits,IntKind.signed]
 omega
theorem len_at {n:Int} {h:Hp}:idxSv (.d (.str lenTab)) (.d (.int .u8 (IntKind.wrap .u8 n))) h = some (.d (.int .u8 (lenT (IntKind.wrap .u8 n).toNat)),h):=by
 obtain ⟨h0,h1⟩:=wrap8 n
 generalize IntKind.wrap .u8 n = m at *
 have hlt:m.toNat < lenL.length:=by rw [lenL_len]; omega
 have hb:lenTab.toList[m.toNat]? = some lenL[m.toNat]:=by rw [bytes_toList]; exact List.getElem?_eq_getElem hlt
 simp only [idxSv,if_pos h0,hb,lenT,List.getElem?_eq_getElem hlt]
def lenA (x:Int):Int:=if x >= 4294967296 then x.fdiv 4294967296 else x
def lenB (x:Int):Int:=if x >= 65536 then x.fdiv 65536 else x
def lenC (x:Int):Int:=if x >= 256 then x.fdiv 256 else x
def len64 (x:Int):Int:=(if x >= 4294967296 then 32 else 0) + (if lenA x >= 65536 then 16 else 0) + (if lenB (lenA x) >= 256 then 8 else 0) + lenT (IntKind.wrap .u8 (lenC (lenB (lenA x)))).toNat
theorem lenA_c (x:Int):(x >= 4294967296 /\ binD .shr (.d (.int .u64 x)) (.d (.int .u64 32)) = some (.int .u64 (lenA x))) \/ (¬ x >= 4294967296 /\ lenA x = x):=by
 by_cases c:x >= 4294967296
 · exact .inl ⟨c,by rw [bin_shr (by decide),lenA,if_pos c]; rfl⟩
 · exact .inr ⟨c,if_neg c⟩
theorem lenB_c (x:Int):(x >= 65536 /\ binD .shr (.d (.int .u64 x)) (.d (.int .u64 16)) = some (.int .u64 (lenB x))) \/ (¬ x >= 65536 /\ lenB x = x):=by
 by_cases c:x >= 65536
 · exact .inl ⟨c,by rw [bin_shr (by decide),lenB,if_pos c]; rfl⟩
 · exact .inr ⟨c,if_neg c⟩
theorem lenC_c (x:Int):(x >= 256 /\ binD .shr (.d (.int .u64 x)) (.d (.int .u64 8)) = some (.int .u64 (lenC x))) \/ (¬ x >= 256 /\ lenC x = x):=by
 by_cases c:x >= 256
 · exact .inl ⟨c,by rw [bin_shr (by decide),lenC,if_pos c]; rfl⟩
 · exact .inr ⟨c,if_neg c⟩
theorem S338 (x:Int) (h:Hp):Sm E TT valT 447 [.d (u64 x)] h = some (.d (i64 (len64 x)),h):=by
 rw [Sm_v t338 v338]
 have htab:(⟨#[0,1,2,2,3,3,3,3,4,4,4,4,4,4,4,4,5,5,5,5,5,5,5,5,5,5,5,5,5,5,5,5,6,6,6,6,6,6,6,6,6,6,6,6,6,6,6,6,6,6,6,6,6,6,6,6,6,6,6,6,6,6,6,6,7,7,7,7,7,7,7,7,7,7,7,7,7,7,7,7,7,7,7,7,7,7,7,7,7,7,7,7,7,7,7,7,7,7,7,7,7,7,7,7,7,7,7,7,7,7,7,7,7,7,7,7,7,7,7,7,7,7,7,7,7,7,7,7,8,8,8,8,8,8,8,8,8,8,8,8,8,8,8,8,8,8,8,8,8,8,8,8,8,8,8,8,8,8,8,8,8,8,8,8,8,8,8,8,8,8,8,8,8,8,8,8,8,8,8,8,8,8,8,8,8,8,8,8,8,8,8,8,8,8,8,8,8,8,8,8,8,8,8,8,8,8,8,8,8,8,8,8,8,8,8,8,8,8,8,8,8,8,8,8,8,8,8,8,8,8,8,8,8,8,8,8,8,8,8,8,8,8,8,8,8,8,8,8,8,8,8,8,8,8,8,8]⟩:ByteArray) = lenTab:=rfl
 have hl:=lenT_le (IntKind.wrap .u8 (lenC (lenB (lenA x)))).toNat
 have hL:=fun h=>len_at (n:=lenC (lenB (lenA x))) (h:=h)
 unfold len64
 have hA:=lenA_c x
 have hB:=lenB_c (lenA x)
 have hC:=lenC_c (lenB (lenA x))
 have hw:∀ n:Int,0 <= n -> n <= 1000 -> IntKind.wrap .i64 n = n:=fun n h1 h2=>wrap64 (by omega) (by omega)
 have w16:=hw 16 (by omega) (by omega)
 have w40:=hw 40 (by omega) (by omega)
 have w48:=hw 48 (by omega) (by omega)
 have w56:=hw 56 (by omega) (by omega)
 have w24:=hw 24 (by omega) (by omega)
 have w8:=hw 8 (by omega) (by omega)
 generalize lenA x = a at *
 generalize lenB a = b at *
 generalize lenC b = c at *
 generalize lenT (IntKind.wrap .u8 c).toNat = L at *
 have wL:=hw L (by omega) (by omega)
 have v1:=hw (8 + L) (by omega) (by omega)
 have v2:=hw (16 + L) (by omega) (by omega)
 have v3:=hw (24 + L) (by omega) (by omega)
 have v4:=hw (32 + L) (by omega) (by omega)
 have v5:=hw (40 + L) (by omega) (by omega)
 have v6:=hw (48 + L) (by omega) (by omega)
 have v7:=hw (56 + L) (by omega) (by omega)
 rcases hA with ⟨a1,a2⟩ | ⟨a1,rfl⟩ <;> rcases hB with ⟨b1,b2⟩ | ⟨b1,rfl⟩ <;> rcases hC with ⟨c1,c2⟩ | ⟨c1,rfl⟩ <;> simp [Bd_mk,q338,htab,hL,wL,w16,w40,w48,w56,w24,w8,v1,v2,v3,v4,v5,v6,v7, *]
def grpT (x:Int):Int:=if (len64 x + 6).tdiv 7 > 1 then (len64 x + 6).tdiv 7 else 1
def orI (k:IntKind) (a b:Int):Int:=k.wrap ((BitVec.ofInt k.bits a ||| BitVec.ofInt k.bits b).toNat)
def uintG:Nat -> Int -> List Int
 | 0,x=>[IntKind.wrap .u8 x]
 | k + 1,x=>orI .u8 (IntKind.wrap .u8 x) 128 :: uintG k (x.fdiv 128)
def uintB (x:Int):List Int:=uintG ((grpT x).toNat - 1) x
def u32B (x:Int):List Int:=[IntKind.wrap .u8 x,IntKind.wrap .u8 (x.fdiv 256),IntKind.wrap .u8 (x.fdiv 65536),IntKind.wrap .u8 (x.fdiv 16777216)]
def convSBv (x:V) (h:Hp):Option (V × Hp):=match x with
 | .d (.str s)=>if s.size <= 2 ^ 40 then some (.row h.size 0 s.size none 1,h.alloc (s.toList.map fun b=>.d (.int .u8 b.toNat))) else none
 | _=>none
@[simp] theorem opE_convSB {C:Calls'} {ev:X -> V} {h:Hp} {x:X}:opE C (.convSB x) ev h = convSBv (ev x) h:=(rfl)
def textB (s:ByteArray):List Int:=uintB s.size ++ s.toList.map fun b=>(b.toNat:Int)
end Go.Proofs.YtmahnnnccohccaaGreat
namespace Go.Proofs.YtmahnnnccohccaaGreat
variable {E:Calls'}
def seqB {α:Type} (enc:α -> List Int) (l:List α):List Int:=uintB l.length ++ l.flatMap enc
end Go.Proofs.YtmahnnnccohccaaGreat
namespace Go.Proofs.YtmahnnnccohccaaGreat
variable {E:Calls'}
theorem Fx.new {p:Nat} {bs bs':List Blk} {l:List Int} {cs:List V} {ys:List Blk} (h:Wr bs p l) (k:Fx p (bs ++ (.cells cs :: ys)) bs'):bs.length ≠ p /\ wrow bs' p ≠ some bs.length /\ getB bs' bs.length = some cs:=by
 have hp:=h.len
 have h1:wrow (bs ++ (.cells cs :: ys)) p ≠ some bs.length:=by
  rw [wrow_lay hp]
  intro hh
  exact Nat.lt_irrefl _ (h.row_lt hh)
 obtain ⟨a,b⟩:=k.2 bs.length cs (by omega) h1 (by simp)
 exact ⟨by omega,b,a⟩
theorem Wr.fresh {p:Nat} {bs:List Blk} {l:List Int} (h:Wr bs p l) (ys:List Blk):bs.length ≠ p /\ wrow (bs ++ ys) p ≠ some bs.length:=by
 have hp:=h.len
 refine ⟨by omega,?_⟩
 rw [wrow_lay hp]
 intro hh
 exact Nat.lt_irrefl _ (h.row_lt hh)
def termE (t:Term):List Int:=IntKind.wrap .u8 t.kind :: textB t.text
def cidrE (c:Cidr):List Int:=u32B c.addr ++ [IntKind.wrap .u8 c.bits]
def portE (n:Int):List Int:=uintB (IntKind.wrap .u64 n)
def rowsE (ls:List (Sl Term)):List Int:=ls.flatMap fun s=>seqB termE s.l
def sourceE (s:Source):List Int:=rowsE [s.names,s.spaces] ++ seqB cidrE s.nets.l
def targetE (t:Target):List Int:=seqB portE t.ports.l ++ rowsE [t.methods,t.paths,t.hosts]
def whenE (w:When):List Int:=textB w.head ++ rowsE [w.terms]
def ruleE (r:Rule):List Int:=seqB sourceE r.frm.l ++ (seqB targetE r.to.l ++ seqB whenE r.whn.l)
end Go.Proofs.YtmahnnnccohccaaGreat
namespace Go.Proofs.YtmahnnnccohccaaGreat
variable {E:Calls'}
def polE (p:Pol):List Int:=uintB p.id ++ (textB p.ns ++ ([p.service,IntKind.wrap .u64 p.deny].flatMap uintB ++ seqB ruleE p.rules.l))
section
variable (h385:∀ t:Target,t.wf big -> ∀ h,E 537 [ag t.c] h = some (bl (targetMay t),h))
include h385
end
end Go.Proofs.YtmahnnnccohccaaGreat
namespace Go.Proofs.YtmahnnnccohccaaGreat
variable {E:Calls'}
def podE (p:Pod):List Int:=[p.uid].flatMap uintB ++ (textB p.ns ++ (textB p.sa ++ [IntKind.wrap .u64 p.host,IntKind.wrap .u64 p.addr,IntKind.wrap .u64 p.port,p.service].flatMap uintB))
def svcE (s:Svc):List Int:=[s.id].flatMap uintB ++ (textB s.ns ++ [IntKind.wrap .u64 s.addr,IntKind.wrap .u64 s.port,s.way].flatMap uintB)
def wayE (w:Way):List Int:=[w.id,IntKind.wrap .u64 w.node].flatMap uintB
def strOf (l:List Int):ByteArray:=⟨(l.map fun n=>UInt8.ofNat n.toNat).toArray⟩
def polTE (p:Pol):List Int:=textB (strOf (polE p))
def convBSv (x:V) (h:Hp):Option (V × Hp):=match x with
 | .d (.str _)=>none
 | v=>match rowCells h v 1 with
  | some (_,cs)=>match cs.mapM (fun v=>match v with | .d (.int .u8 n)=>some (UInt8.ofNat n.toNat) | _=>none) with
   | some l=>some (.d (.str ⟨l.toArray⟩),h)
   | none=>none
  | none=>none
@[simp] theorem opE_convBS {C:Calls'} {ev:X -> V} {h:Hp} {x:X}:opE C (.convBS x) ev h = convBSv (ev x) h:=(rfl)
section
variable (h385:∀ t:Target,t.wf big -> ∀ h,E 537 [ag t.c] h = some (bl (targetMay t),h))
include h385
end
end Go.Proofs.YtmahnnnccohccaaGreat
namespace Go.Proofs.YtmahnnnccohccaaGreat
variable {E:Calls'}
def bytesE (c:Cfg):List Int:=[c.epoch,c.next,IntKind.wrap .u64 c.hosts,IntKind.wrap .u64 c.ways,(c.pods.l.length:Int)].flatMap uintB ++ (c.pods.l.flatMap podE ++ ([(c.services.l.length:Int)].flatMap uintB ++ (c.services.l.flatMap svcE ++ ([(c.bound.l.length:Int)].flatMap uintB ++ (c.bound.l.flatMap wayE ++ ([(c.policies.l.length:Int)].flatMap uintB ++ c.policies.l.flatMap polTE))))))
section
variable (h385:∀ t:Target,t.wf big -> ∀ h,E 537 [ag t.c] h = some (bl (targetMay t),h))
include h385
def cfgMay (c:Cfg):Bool:=smallT c && mayT c && decide (((bytesE c).length:Int) <= 8192)
end
end Go.Proofs.YtmahnnnccohccaaGreat
namespace Go.Proofs.YtmahnnnccohccaaGreat
theorem risesL_pair:∀ {l:List Int},risesL l = true -> l.Pairwise (· < ·)
 | [],_=>.nil
 | [x],_=>by simp
 | x :: y :: l,h=>by
  simp only [risesL,Bool.and_eq_true,decide_eq_true_eq] at h
  have ih:=risesL_pair h.2
  refine List.pairwise_cons.2 ⟨fun z hz=>?_,ih⟩
  rcases List.mem_cons.1 hz with rfl | hz
  · exact h.1
  · exact Int.lt_trans h.1 ((List.pairwise_cons.1 ih).1 z hz)
theorem find_key {α:Type} {f:α -> Int}:∀ {l:List α},(l.map f).Nodup -> ∀ {x:α},x ∈ l -> l.find? (fun y=>f y == f x) = some x
 | [],_,x,h=>by simp at h
 | y :: l,hn,x,h=>by
  simp only [List.map_cons,List.nodup_cons] at hn
  rcases List.mem_cons.1 h with rfl | h
  · simp
  · have:f y ≠ f x:=fun hh=>hn.1 (hh ▸ List.mem_map_of_mem h)
    rw [List.find?_cons]
    have hb:(f y == f x) = false:=by simpa using this
    simp only [hb]
    exact find_key hn.2 h
structure Fair (c:Cfg):Prop where
 uid:(c.pods.l.map Pod.uid).Pairwise (· < ·)
 ids:(c.services.l.map Svc.id).Nodup
 id0:(0:Int) ∉ c.services.l.map Svc.id
 adr:(c.pods.l.map Pod.addr ++ c.services.l.map Svc.addr).Nodup
 svc:∀ p ∈ c.pods.l,p.service = 0 \/ p.service ∈ c.services.l.map Svc.id
 way:∀ s ∈ c.services.l,s.way = 0 \/ ∃ w,c.bound.l.find? (fun w=>w.id == s.way) = some w /\ w.id = s.way
 few:c.pods.l.length <= 16 /\ c.services.l.length <= 6
theorem Fair.pod {c:Cfg} (h:Fair c) {p:Pod} (hp:p ∈ c.pods.l):c.pods.l.find? (fun q=>q.uid == p.uid) = some p:=find_key (f:=Pod.uid) (h.uid.imp fun h=>by omega) hp
theorem Fair.wayT {c:Cfg} (h:Fair c) {s:Svc} (hs:s ∈ c.services.l):(s.way = 0 /\ Go.Proofs.YtmahnnnccohccaaGreat.wayT c s.id = none) \/ (s.way ≠ 0 /\ ∃ w,Go.Proofs.YtmahnnnccohccaaGreat.wayT c s.id = some w /\ w.id = s.way):=by
 have e1:=find_key (f:=Svc.id) h.ids hs
 by_cases h0:s.way = 0
 · exact .inl ⟨h0,by simp [Go.Proofs.YtmahnnnccohccaaGreat.wayT,e1,h0]⟩
 · rcases h.way s hs with hw | ⟨w,h1,h2⟩
   · exact absurd hw h0
   · exact .inr ⟨h0,w,by simp [Go.Proofs.YtmahnnnccohccaaGreat.wayT,e1,h0,h1],h2⟩
theorem Fair.ends {c:Cfg} (h:Fair c) {n:Int}:(∀ p ∈ endsT c n,p.service = n) /\ ((endsT c n).map Pod.uid).Pairwise (· < ·):=by
 refine ⟨fun p hp=>?_,?_⟩
 · have:=(List.mem_filter.1 hp).2
   simp only [endQ,Bool.not_eq_true',Bool.or_eq_false_iff,bne_eq_false_iff_eq] at this
   exact this.2
 · exact h.uid.sublist ((List.filter_sublist).map _)
end Go.Proofs.YtmahnnnccohccaaGreat
