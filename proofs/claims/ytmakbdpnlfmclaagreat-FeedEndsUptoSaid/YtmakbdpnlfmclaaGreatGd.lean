/- Go's library on rows: Clone, DeleteFunc. -/
import Derived.Test.YtmakbdpnlfmclaaGreatSy
set_option maxRecDepth 100000
set_option linter.unusedVariables false
set_option linter.unusedSimpArgs false
namespace Go.Proofs.YtmakbdpnlfmclaaGreat
theorem uu {z:Nat}:∀ {es:List (List D)} {ds:List D},(∀ e∈es,e.length=z)->dataV.chunks z (es.flatten++ds) es.length=es
 | [],_,_=>rfl
 | e::es,ds,h=>by
  have he:=h e (by simp);have ih:=uu (es:=es) (ds:=ds) (λe he=>h e (List.mem_cons_of_mem _ he));have h1:List.take z (e++(es.flatten++ds))=e:=by rw [← he]; simp
  have h2:List.drop z (e++(es.flatten++ds))=es.flatten++ds:=by rw [← he]; simp
  simp only [List.flatten_cons,List.append_assoc,ch,dataV.chunks,h1,h2,ih]
def flat (es:List (List D)):List V:=es.flatten.map .d
theorem ky (e:List D)(es:List (List D)):flat (e::es)=e.map .d++flat es:=by simp [flat]
theorem kH (a b:List (List D)):flat (a++b)=flat a++flat b:=by simp only [flat,List.flatten_append,List.map_append]
@[simp] theorem q8:flat []=[]:=rfl
theorem oG {z:Nat}{es:List (List D)}(hz:∀ e∈es,e.length=z):(flat es).length=es.length * z:=by
 simp only [flat,bx,uD hz]
theorem bz {h:Hp}{k b z n:Nat}{cap:Option Nat}{es:List (List D)}{rest:List V}(hz:∀ e∈es,e.length=z)(hn:n=es.length)(hb:ai h.bs b=some (flat es++rest)) :
 dataV h (k+1) (.row b 0 n cap z)=some (.slice false es):=by
 subst hn;have hl:=oG hz;have hs:sub (flat es++rest) 0 (es.length * z)=some (flat es):=by
  rw [eT,if_pos (by rw [am,hl]; omega),List.drop_zero,← hl,List.take_left]
 have hc:=uu (ds:=[]) hz;rw [List.append_nil] at hc;simp only [dataV,get_eq,hb,hs];simp only [flat,qj,hc]
section
variable {E:Calls'}{T:FuncId->Option QF}{val:FuncId->Bool}
def bH (z:Nat)(nl:Bool)(es:List (List D))(bs:List Blk)(lo:Nat):V×Hp:=match nl,es with
 | true,_=>(.d (.slice true []),⟨bs,lo⟩)
 | false,[]=>(.row bs.length 0 0 (some 0) z,⟨bs++[.cells []],lo⟩)
 | false,e::es=>(.row (bs.length+1) 0 (es.length+1) none z,⟨bs++[.cells [],.cells (flat (e::es))],lo⟩)
theorem Ea {z b:Nat}{zero:List V}(hz0:0<z)(hb:b<=4096){nl:Bool}{es:List (List D)}(hz:∀ e∈es,e.length=z)(hlen:es.length<=big)(bs:List Blk)(lo:Nat) :
 Bd E T val (cloneQ z b zero) [.d (.slice nl es)] ⟨bs,lo⟩=some (bH z nl es bs lo):=by
 have hzz:z≠0:=by omega
 cases nl with
 | true=>simp [cloneQ,aa,bH]
 | false =>
  cases es with
  | nil=>simp [cloneQ,aa,dZ,aF,aD,hzz,bH]
  | cons e es =>
   have hrc:aF ⟨bs++[.cells []],lo⟩ (.d (.slice false (e::es))) z=some (es.length+1,flat (e::es)):=by
    have hall:((e::es).all λe=>e.length==z)=true:=ck.2 λx hx=>by simp [hz x hx]
    simp only [aF,hall,if_true,flat]; rfl
   generalize hF:flat (e::es)=F at hrc;have hr:roomy (es.length+1) b=true:=by
    simp only [roomy,aq,br];exact ⟨hlen,hb⟩
   simp [cloneQ,aa,dZ,hrc,aD,hzz,hr,bH,hF]
theorem dE {α:Type}{cells:α->List D}{z b:Nat}{zero:List V}{id:FuncId}(ht:T id=some (cloneQ z b zero))(hv:val id=true)(hz0:0<z)(hb:b<=4096)(hz:∀ x,(cells x).length=z){s:Sl α}(hs:short s)(h:Hp) :
 Sm E T val id [.d (s.d cells)] h=some (.d (s.d cells),h):=by
 rw [aN ht hv];obtain ⟨nl,l⟩:=s;have hl:∀ e∈l.map cells,e.length=z:=by simp; intro a _; exact hz a
 have hB:=Ea (E:=E) (T:=T) (val:=val) (zero:=zero) hz0 hb (nl:=nl) hl (by simpa using hs.1) [] 0;simp only [Sl.d];simp only [List.mapM_cons,List.mapM_nil,R6,Option.pure_def,Option.bind_eq_bind,Option.bind_some,w9,hB,Iy];cases nl with
 | true=>have:=hs.2 rfl; simp at this; subst this; simp [bH]
 | false =>
  cases l with
  | nil =>
   have:=bz (h:=⟨[.cells []],0⟩) (k:=7) (b:=0) (n:=0) (cap:=some 0) (es:=[]) (z:=z) (rest:=[]) (by simp) rfl rfl;simp [bH,this]
  | cons x l =>
   have:=bz (h:=⟨[.cells [],.cells (flat ((x::l).map cells))],0⟩) (k:=7) (b:=1) (n:=l.length+1) (cap:=none) (es:=(x::l).map cells) (rest:=[]) hl (by simp) (by simp);simp only [co] at this;simp [bH,this]
theorem iO {z b:Nat}{zero:List V}{id:FuncId}(ht:T id=some (cloneQ z b zero))(hv:val id=false)(hz0:0<z)(hb:b<=4096){nl:Bool}{es:List (List D)}(hz:∀ e∈es,e.length=z)(hlen:es.length<=big)(h:Hp) :
 Sm E T val id [.d (.slice nl es)] h=some ((bH z nl es h.bs h.low).1,⟨(bH z nl es h.bs h.low).2.bs,if nl then h.low else min h.low h.bs.length⟩):=by
 rw [ax ht hv,Ea hz0 hb hz hlen];cases nl with
 | true=>simp [gm,bH,V.under]
 | false=>cases es<;>simp [gm,bH,V.under]<;>(intro hh; omega)
theorem fF {α:Type}(cells:α->List D){z idx id:Nat}{zero:List V}(hti:T idx=some (idxQ z))(hvi:val idx=false)(ht:T id=some (delQ z idx zero))(hv:val id=false){v:V}{es:List α}{f:FuncId}{caps:List V}{q:α->Bool}{h:Hp}
 (hr:RowIs h.bs v z (es.map cells)) (hlen:es.length<2 ^ 62) (hf:∀ e∈es,∀ lo,Sm E T val f (.agg ((cells e).map .d)::caps) ⟨h.bs,lo⟩=some (.d (.bool (q e)),⟨h.bs,lo⟩)) (hq:∀ e∈es,q e=false) :
 Sm E T val id [v,.fn f caps] h=some (v,h):=by
 rw [ax ht hv];have h1:=xH (h:=⟨h.bs,h.bs.length⟩) cells hti hvi hr hlen hf;have h2:mh es q=-1:=by
  obtain ⟨_,e⟩ | ⟨k,x,e,_,_⟩:=iI es q
  . exact e
  . exact absurd (List.find?_some e) (by simp [hq x (List.mem_of_find?_eq_some e)])
 have hok:=hr.ok;have hokv:okV v=true:=by obtain ⟨nl,rfl⟩ | ⟨b,o,cap,cs,rfl,_⟩:=hr.2<;>rfl
 have hu:V.under h.bs.length v=true:=by
  obtain ⟨nl,rfl⟩ | ⟨b,o,cap,cs,rfl,hb,_⟩:=hr.2
  . rfl
  . simpa [V.under] using aI hb
 simp [delQ,aa,hok,hokv,h1,h2,hu]
structure Thin {α:Type} (cells:α->List D) (z:Nat) (es:List α) (bs0:List Blk) (b:Nat) (kept:List α) (bs:List Blk):Prop where
 len:bs0.length<=bs.length
 old:∀ x,x≠b->x<bs0.length->bs[x]?=bs0[x]?
 row:ai bs b=some (flat (kept.map cells)++(flat (es.map cells)).drop (kept.length * z))
section
variable {α:Type}{cells:α->List D}{z:Nat}(hz:∀ x,(cells x).length=z){es:List α}{bs0:List Blk}{b:Nat}
include hz
theorem bu (l:List α):(flat (l.map cells)).length=l.length * z:=by
 rw [oG (z:=z) (by simp; intro a _; exact hz a)]; simp
theorem Thin.read {kept:List α}{bs:List Blk}(h:Thin cells z es bs0 b kept bs){j:Nat}(hj:kept.length<=j)(hlt:j<es.length):sub (flat (kept.map cells)++(flat (es.map cells)).drop (kept.length * z)) (j * z) z=some ((cells es[j]).map .d):=by
 have h1:=bu hz kept;have h2:=bu hz es;have h3:kept.length * z<=j * z:=Nat.mul_le_mul_right z hj;have h4:(j+1) * z<=es.length * z:=Nat.mul_le_mul_right z hlt;rw [Nat.add_mul,Nat.one_mul] at h4;rw [eT,if_pos (by simp only [am,List.length_drop,h1,h2]; omega)];have h5:j * z=(flat (kept.map cells)).length+(j * z-kept.length * z):=by omega
 rw [h5,← be,List.drop_left,be,show kept.length * z+(j * z-kept.length * z)=j * z by omega];have hf:=oH (α:=V) (es:=(es.map cells).map (·.map .d)) (i:=j) (z:=z) (by simp; intro a _; exact hz a) (by simpa using hlt);simp only [List.getElem_map] at hf;rw [← hf,flat,List.map_flatten]
omit hz in
theorem Thin.lay {kept:List α}{bs:List Blk}(h:Thin cells z es bs0 b kept bs)(x:Blk):Thin cells z es bs0 b kept (bs++[x]):=by
 refine ⟨by simp; have:=h.len; omega,λy hy hlt=>?_,az h.row⟩;rw [al (by have:=h.len; omega)];exact h.old y hy hlt
theorem Thin.keep {kept:List α}{bs:List Blk}(h:Thin cells z es bs0 b kept bs){e:α}(hlt:kept.length<es.length) :
 ∃ cs,put (flat (kept.map cells)++(flat (es.map cells)).drop (kept.length * z)) (kept.length * z) ((cells e).map .d)=some cs/\Thin cells z es bs0 b (kept++[e]) (bs.set b (.cells cs)):=by
 have h1:=bu hz kept;have h2:=bu hz es;have h4:(kept.length+1) * z<=es.length * z:=Nat.mul_le_mul_right z hlt;rw [Nat.add_mul,Nat.one_mul] at h4;refine ⟨flat (kept.map cells)++(cells e).map .d++(flat (es.map cells)).drop ((kept.length+1) * z),?_,?_⟩
 . unfold put;rw [if_pos (by simp only [am,List.length_drop,bx,h1,h2,hz]; omega)]
   congr 1
   rw [← h1,List.take_left,bx,hz,← be,List.drop_left,be,h1,Nat.add_mul,Nat.one_mul]
 . have hb:=aI h.row;refine ⟨by simpa using h.len,λy hy hlt=>?_,?_⟩
   . rw [ac (λq=>hy q.symm)]; exact h.old y hy hlt
   . simp only [ai,List.getElem?_set_self hb,List.map_append,co,List.map_nil,kH,ky,q8,List.append_nil,am,ch,cj]
end
theorem Js {α:Type}{cells:α->List D}{z:Nat}(hz:∀ x,(cells x).length=z)(hz0:0<z){zero:List V}(hzero:zero.length=z){es:List α}{bs0:List Blk}{b:Nat}(hb0:b<bs0.length){cap:Option Nat}{f:FuncId}{caps:List V}{q:α->Bool}(hlen:es.length<2 ^ 62)
 (hf:∀ e∈es,∀ bs lo,bs0.length<=bs.length->(∀ x,x≠b->x<bs0.length->bs[x]?=bs0[x]?)->Sm E T val f (.agg ((cells e).map .d)::caps) ⟨bs,lo⟩=some (.d (.bool (q e)),⟨bs,lo⟩)) :
 ∀ (m j:Nat) (kept:List α) (bs:List Blk) (lo:Nat),j+m=es.length->kept.length<j->Thin cells z es bs0 b kept bs->lo<=bs.length →
  ∃ bs' lo',Cd E T val (.loop [0,1,5,6] (CS z zero)) [(0,.row b 0 es.length cap z),(1,.fn f caps),(5,.d (.int .i64 kept.length)),(6,.d (.int .i64 j))] ⟨bs,lo⟩ =
   some (.exit 0,[(0,.row b 0 es.length cap z),(5,.d (.int .i64 (kept++(es.drop j).filter λe=>!q e).length))],⟨bs',lo'⟩)/\Thin cells z es bs0 b (kept++(es.drop j).filter λe=>!q e) bs':=by
 intro m;have key:=ak (E:=E) (T:=T) (val:=val) [0,1,5,6] (CS z zero);generalize Cd E T val (.loop [0,1,5,6] (CS z zero))=W at key ⊢
 induction m with
 | zero =>
  intro j kept bs lo hj hk ht hlo;have h0:es.drop j=[]:=ba (by omega);refine ⟨bs,lo,?_,by simpa [h0] using ht⟩;rw [key];simp [CS,h0,show ¬ ((j:Int)<es.length) from by omega]
 | succ m ih =>
  intro j kept bs lo hj hk ht hlo;have hlt:j<es.length:=by omega
  have hd:es.drop j=es[j]::es.drop (j+1):=aw hlt;have hread:=ht.read hz (by omega) hlt;have hrow:=ht.row;have hmem:es[j]∈es:=bh hlt;generalize es[j]=x at *;have hput:put zero 0 ((cells x).map V.d)=some ((cells x).map .d):=by
   simp [put,hz,hzero]
  have ht1:=ht.lay (.cells ((cells x).map .d));have hcall:=hf x hmem (bs++[.cells ((cells x).map .d)]) lo ht1.len ht1.old;have hsubx:sub (cells x) 0 z=some (cells x):=bL (hz x);have hix:iB none z (.row b 0 es.length cap z) (.d (.int .i64 j)) ⟨bs,lo⟩=some (.ptr b (j * z),⟨bs,lo⟩):=by
   simp only [iB]; rw [if_pos ⟨by omega,by omega,trivial⟩]; simp
  have hw:IntKind.wrap .i64 ((j:Int)+1)=((j+1:Nat):Int):=by rw [wrap64]<;>omega
  rw [key,hd];have hok:okV (V.agg ((cells x).map .d))=true:=rfl;have hcall:=λlo=>hf x hmem (bs++[.cells ((cells x).map .d)]) lo ht1.len ht1.old;rw [I4] at hok;simp only [I4] at hcall;cases hq:q x with
  | true =>
   obtain ⟨bs',lo',k1,k2⟩:=ih (j+1) kept (bs++[.cells ((cells x).map .d)]) (min lo bs.length) (by omega) (by omega) ht1 (by simp; omega);refine ⟨bs',lo',?_,by simpa [hq] using k2⟩;simp [CS,hix,ldv,hrow,hread,hput,hcall,hq,hw,hz,hz0,hsubx,show ((j:Int)<es.length) from by omega];simpa using k1
  | false =>
   obtain ⟨cs,hcs,ht2⟩:=ht1.keep hz (e:=x) (by omega);have hrow1:=ht1.row;have hix2:∀ lo,iB none z (.row b 0 es.length cap z) (.d (.int .i64 kept.length)) ⟨bs++[.cells ((cells x).map .d)],lo⟩=some (.ptr b (kept.length * z),⟨bs++[.cells ((cells x).map .d)],lo⟩):=by
    intro lo; simp only [iB]; rw [if_pos ⟨by omega,by omega,trivial⟩]; simp
   have hw2:IntKind.wrap .i64 ((kept.length:Int)+1)=((kept.length+1:Nat):Int):=by rw [wrap64]<;>omega
   have hset:∀ lo,Hp.set ⟨bs++[Blk.cells ((cells x).map V.d)],lo⟩ b cs=⟨(bs++[Blk.cells ((cells x).map V.d)]).set b (Blk.cells cs),min lo b⟩:=λ_=>rfl;obtain ⟨bs',lo',k1,k2⟩:=ih (j+1) (kept++[x]) _ (min (min lo bs.length) b) (by omega) (by simp; omega) ht2 (by simp; omega);refine ⟨bs',lo',?_,by simpa [hq] using k2⟩;generalize hB:(bs++[Blk.cells ((cells x).map .d)]).set b (Blk.cells cs)=B at *;simp [CS,hix,ldv,hrow,hread,hput,hcall,hq,hw,hz,hz0,hsubx,hix2,hrow1,hcs,hset,hw2,show ((j:Int)<es.length) from by omega];simp at k1;rw [show ((kept.length:Int)+1)=(kept.length:Int)+1 from rfl] at k1;simpa [Int.add_assoc,Int.add_comm,Int.add_left_comm] using k1
theorem LA {h:Hp}{ev:X->V}{b len z:Nat}{cap:Option Nat}{x:X}{n:Nat}(hx:ev x=.d (.int .i64 n))(hn:n<len):∃ cap',eD h ev .sl z (.row b 0 len cap z) (some x) none none=some (.row b (n * z) (len-n) cap' z):=by
 simp only [eD,eu,hx];rw [if_pos (by omega)];simp only [Int.toNat_natCast];rw [if_pos ⟨by omega,by omega,trivial⟩];by_cases h0:n=0
 . subst h0; exact ⟨cap,by simp⟩
 . exact ⟨_,by rw [if_neg h0,if_pos hn,Nat.zero_add]⟩
theorem rW {h:Hp}{ev:X->V}{b len z:Nat}{cap:Option Nat}{x:X}{n:Nat}(hx:ev x=.d (.int .i64 n))(hn:n<=len):eD h ev .sl z (.row b 0 len cap z) none (some x) none=some (.row b 0 n cap z):=by
 simp only [eD,eu,hx];rw [if_pos (by omega)];simp only [Int.toNat_natCast];rw [if_pos ⟨by omega,by omega,trivial⟩];simp
theorem qc {α:Type}{cells:α->List D}{z idx id:Nat}{zero:List V}(hz:∀ x,(cells x).length=z)(hz0:0<z)(hzero:zero.length=z)(hti:T idx=some (idxQ z))(hvi:val idx=false)(ht:T id=some (delQ z idx zero))(hv:val id=false)
 {es:List α} {b:Nat} {cap:Option Nat} {f:FuncId} {caps:List V} {q:α->Bool} {h:Hp} (hb:ai h.bs b=some (flat (es.map cells))) (hlen:es.length<2 ^ 62)
 (hf:∀ e∈es,∀ bs lo,h.bs.length<=bs.length->(∀ x,x≠b->x<h.bs.length->bs[x]?=h.bs[x]?)->Sm E T val f (.agg ((cells e).map .d)::caps) ⟨bs,lo⟩=some (.d (.bool (q e)),⟨bs,lo⟩)) (hq:∃ e∈es,q e=true) :
 ∃ bs' lo' rest,Sm E T val id [.row b 0 es.length cap z,.fn f caps] h=some (.row b 0 (es.filter λe=>!q e).length cap z,⟨bs',lo'⟩)/\h.bs.length<=bs'.length/\(∀ x,x≠b->x<h.bs.length->bs'[x]?=h.bs[x]?) ∧
  ai bs' b=some (flat ((es.filter λe=>!q e).map cells)++rest)/\lo'<=b/\rest.length=(es.length-(es.filter λe=>!q e).length) * z:=by
 obtain ⟨k,x,e1,e2,e3⟩:∃ k e,es.find? q=some e/\mh es q=(k:Nat)/\es[k]?=some e:=by
  obtain ⟨e,_⟩ | h:=iI es q
  . obtain ⟨y,y1,y2⟩:=hq;exact absurd y2 (by simpa using List.find?_eq_none.1 e y y1)
  . exact h
 have hk:k<es.length:=(bw.1 e3).1;have hxk:es[k]=x:=(bw.1 e3).2;have hqx:q x=true:=List.find?_some e1;have hfirst:∀ y∈es.take k,q y=false:=by
  rw [List.find?_eq_some_iff_getElem] at e1;obtain ⟨_,i,hi,hxi,hlt⟩:=e1;have hik:i=k\/i≠k:=by omega
  intro y hy;obtain ⟨j,hj,rfl⟩:=List.mem_iff_getElem.1 hy;simp only [List.length_take] at hj;rw [List.getElem_take];have h2:mh es q=(i:Nat):=by
   unfold mh;rw [List.findIdx?_eq_some_iff_getElem.2 ⟨hi,by rw [hxi]; exact hqx,λj hj=>by simpa using hlt j hj⟩]
  have:i=k:=by rw [h2] at e2; omega
  subst this;simpa using hlt j (by omega)
 have htk:es.take k++(es.drop (k+1)).filter (λe=>!q e)=es.filter λe=>!q e:=by
  conv=>rhs; rw [← List.take_append_drop k es,List.filter_append]
  congr 1
  . exact (List.filter_eq_self.2 λy hy=>by simp [hfirst y hy]).symm
  . rw [aw hk,hxk,List.filter_cons]; simp [hqx]
 have hT0:Thin cells z es h.bs b (es.take k) h.bs:=by
  refine ⟨bp _,λ_ _ _=>rfl,?_⟩;have h1:=bu hz (es.take k);have hs:flat (es.map cells)=flat ((es.take k).map cells)++flat ((es.drop k).map cells):=by rw [← kH,← List.map_append,List.take_append_drop]
  rw [hb,hs,← h1,List.drop_left]
 have hbl:=aI hb;have hrowis:RowIs h.bs (.row b 0 es.length cap z) z (es.map cells):=by
  refine ⟨by simp; intro a _; exact hz a,.inr ⟨b,0,cap,_,by simp,hb,?_⟩⟩;rw [eT,if_pos (by rw [bu hz]; simp)];rw [List.drop_zero,bx,← bu hz,List.take_length]; rfl
 have h1:=xH (E:=E) (h:=⟨h.bs,h.bs.length⟩) cells hti hvi hrowis hlen (λe he lo=>hf e he h.bs lo (bp _) λ_ _ _=>rfl);obtain ⟨bs',lo',k1,k2⟩:=Js (E:=E) (T:=T) (val:=val) hz hz0 hzero hbl (cap:=cap) hlen hf (es.length-(k+1)) (k+1) (es.take k) h.bs h.bs.length (by omega) (by simp; omega) hT0 (bp _);rw [htk] at k1 k2;have hkl:(es.take k).length=k:=by simp; omega
 have hfl:(es.filter λe=>!q e).length<es.length:=by
  rw [← htk,am,hkl];have:=List.length_filter_le (λe=>!q e) (es.drop (k+1));simp only [List.length_drop] at this;omega
 rw [hkl] at k1;generalize hK:es.filter (λe=>!q e)=K at *;rw [ax ht hv];have hw:IntKind.wrap .i64 ((k:Int)+1)=((k+1:Nat):Int):=by rw [wrap64]<;>omega
 have hrow:=k2.row;have hlenT:=bu hz K;have hlenE:=bu hz es;have hbl2:=aI hrow;have hmul:K.length * z<es.length * z:=Nat.mul_lt_mul_of_pos_right hfl hz0;have hput:put (flat (K.map cells)++(flat (es.map cells)).drop (K.length * z)) (K.length * z) (List.replicate (es.length-K.length) zero).flatten=some (flat (K.map cells)++(List.replicate (es.length-K.length) zero).flatten):=by
  have hr:((List.replicate (es.length-K.length) zero).flatten).length=(es.length-K.length) * z:=by simp [hzero]
  unfold put;rw [if_pos (by rw [am,List.length_drop,hlenT,hlenE,hr,Nat.sub_mul]; omega),← hlenT,List.take_left,hlenT,hr,ba (by rw [am,List.length_drop,hlenT,hlenE,Nat.sub_mul]; omega),List.append_nil]
 have hclr:∀ (e:EA) (cap':Option Nat),e.get 38=.row b (K.length * z) (es.length-K.length) cap' z->opE (Sm E T val) (.clear z zero (.t 38)) (X.ea e) ⟨bs',lo'⟩=some (.undef,⟨bs'.set b (.cells (flat (K.map cells)++(List.replicate (es.length-K.length) zero).flatten)),min lo' b⟩):=by
  intro e cap' he;have hne:¬ (es.length-K.length) * z=0:=by rw [Nat.sub_mul]; omega
  simp only [opE,bt2,he,if_true,get_eq,hrow,if_neg hne,hput,Po]
 refine ⟨bs'.set b (.cells (flat (K.map cells)++(List.replicate (es.length-K.length) zero).flatten)),min h.low (min lo' b),(List.replicate (es.length-K.length) zero).flatten,?_,by simpa using k2.len,λy hy hlt=>by rw [ac (λq=>hy q.symm)]; exact k2.old y hy hlt,by simp [ai,List.getElem?_set_self hbl2],by omega,by simp [hzero]⟩;have hne:¬ (h.bs.length<=lo'/\h.bs.length<=b/\b<h.bs.length):=by omega
 generalize hZ:flat (K.map cells)++(List.replicate (es.length-K.length) zero).flatten=Z at *;simp [delQ,aa,h1,e2,hw];rw [aj];simp at k1;simp [k1];obtain ⟨cap',hsl⟩:=LA (h:=⟨bs',lo'⟩) (ev:=X.ea [(37,.d (.int .i64 K.length)),(36,.row b 0 es.length cap z),(0,.row b 0 es.length cap z),(5,.d (.int .i64 K.length))]) (x:=.t 37) (b:=b) (z:=z) (cap:=cap) (n:=K.length) (by simp) hfl;simp [hsl];rw [hclr _ cap' (by simp)];have hsh:=rW (h:=⟨bs'.set b (.cells Z),min lo' b⟩) (ev:=X.ea [(40,.d (.int .i64 K.length)),(39,.row b 0 es.length cap z),(38,.row b (K.length * z) (es.length-K.length) cap' z),(37,.d (.int .i64 K.length)),(36,.row b 0 es.length cap z),(0,.row b 0 es.length cap z),(5,.d (.int .i64 K.length))]) (x:=.t 40) (b:=b) (z:=z) (len:=es.length) (cap:=cap) (n:=K.length) (by simp) (by omega);simp [hsh,V.under];intro h1 h2;exfalso;omega
end
structure Acc (base:List Blk) (z:Nat) (acc:List (List D)) (bs:List Blk) (v:V):Prop where
 len:base.length<=bs.length
 old:∀ x,x<base.length->bs[x]?=base[x]?
 is:(acc=[]/\v=.d (.slice true []))\/(acc≠[]/\∃ b,base.length<=b/\v=.row b 0 acc.length none z/\ai bs b=some (flat acc))
 wid:∀ e∈acc,e.length=z
theorem Acc.nil (base:List Blk)(z:Nat):Acc base z [] base (.d (.slice true [])):=⟨bp _,λ_ _=>rfl,.inl ⟨rfl,rfl⟩,by simp⟩
theorem Acc.nu {base:List Blk}{z:Nat}{acc:List (List D)}{bs:List Blk}{v:V}(h:Acc base z acc bs v):nu v=some v:=by
 obtain ⟨_,rfl⟩ | ⟨_,b,_,rfl,_⟩:=h.is<;>rfl
theorem Acc.get {base:List Blk}{z:Nat}{acc:List (List D)}{bs:List Blk}{v:V}(h:Acc base z acc bs v){x:Nat}{cs:List V}(hx:ai base x=some cs):ai bs x=some cs:=by
 have:=h.old x (aI hx);unfold ai at hx ⊢;rw [this]; exact hx
theorem Acc.lay {base:List Blk}{z:Nat}{acc:List (List D)}{bs:List Blk}{v:V}(h:Acc base z acc bs v)(ys:List Blk):Acc base z acc (bs++ys) v:=by
 have:=h.len;refine ⟨by simp; omega,λx hx=>by rw [al (by omega)]; exact h.old x hx,?_,h.wid⟩;obtain h1 | ⟨h1,b,h2,h3,h4⟩:=h.is
 . exact .inl h1
 . exact .inr ⟨h1,b,h2,h3,az h4⟩
theorem Acc.app {base:List Blk}{z:Nat}{acc:List (List D)}{bs:List Blk}{v:V}(h:Acc base z acc bs v)(hz0:0<z){by_:Nat}(hby:by_<=4096){e:List D}(he:e.length=z)(hl:acc.length<big)(lo:Nat){r:Nat}{cap:Option Nat}(hr:ai bs r=some (e.map .d)) :
 ∃ v' bs' lo',dZ ⟨bs,lo⟩ z by_ v (.row r 0 1 cap z)=some (v',⟨bs',lo'⟩)/\Acc base z (acc++[e]) bs' v':=by
 have hrc:aF ⟨bs,lo⟩ (.row r 0 1 cap z) z=some (1,e.map .d):=by
  have:sub (e.map V.d) 0 z=some (e.map .d):=bL (by simpa using he);simp only [aF,if_true,get_eq,hr,Nat.one_mul,this,Option.map_some]
 have hroom:∀ n,n<=big->roomy n by_=true:=λn hn=>by simp only [roomy,aq,br]; exact ⟨hn,hby⟩
 have hw:∀ x∈acc++[e],x.length=z:=by
  intro x hx;obtain hx | hx:=List.mem_append.1 hx
  . exact h.wid x hx
  . simp at hx; subst hx; exact he
 have hne:acc++[e]≠[]:=by simp
 have hlen:=h.len;obtain ⟨h1,rfl⟩ | ⟨h1,b,h2,rfl,h4⟩:=h.is
 . subst h1;refine ⟨_,_,_,by simp only [dZ,hrc,aD,if_neg (show ¬ (1=0) by decide),if_neg (show ¬ z=0 by omega),hroom 1 (by decide),if_true]; rfl,?_⟩;refine ⟨by simp; omega,λx hx=>?_,.inr ⟨hne,bs.length,hlen,rfl,?_⟩,hw⟩
   . simp only []; rw [al (by omega)]; exact h.old x hx
   . simp [flat]
 . have hf:=oG h.wid;have hsub:sub (flat acc) 0 (acc.length * z)=some (flat acc):=bL hf;have hpos:0<(flat acc).length:=by
    rw [hf];exact Nat.mul_pos (List.length_pos_iff.2 h1) hz0
   refine ⟨_,_,_,by simp only [dZ,hrc,aD,ne_eq,not_true_eq_false,false_or,if_neg (show ¬ (1=0) by decide),if_neg (show ¬ z=0 by omega),get_eq,h4,hsub,hroom (acc.length+1) (by omega),Bool.not_true,bm,if_false,hpos,and_self,if_true]; rfl,?_⟩;refine ⟨by simp [Hp.set]; omega,λx hx=>?_,.inr ⟨hne,bs.length,hlen,by simp [Hp.size],?_⟩,hw⟩
   . simp only [Hp.set];rw [al (by simp; omega),ac (by omega)];exact h.old x hx
   . simp only [Hp.set];have:ai (bs.set b (.cells [])++[.cells (flat acc++e.map .d)]) (bs.set b (.cells [])).length=some (flat acc++e.map .d):=by rw [eG]; rfl
     rw [List.length_set] at this;rw [this,kH,ky,q8,List.append_nil]
theorem Acc.dat {base:List Blk}{z:Nat}{acc:List (List D)}{bs:List Blk}{v:V}(h:Acc base z acc bs v)(lo k:Nat):dataV ⟨bs,lo⟩ (k+1) v=some (.slice acc.isEmpty acc):=by
 obtain ⟨rfl,rfl⟩ | ⟨h1,b,_,rfl,h4⟩:=h.is
 . rfl
 . rw [bz h.wid rfl (rest:=[]) (by simpa using h4)];cases acc with
   | nil=>exact absurd rfl h1
   | cons x l=>rfl
theorem Acc.frz {base:List Blk}{z:Nat}{acc:List (List D)}{bs:List Blk}{v:V}(h:Acc base z acc bs v)(lo:Nat):frz ⟨bs,lo⟩ v=some (.d (.slice acc.isEmpty acc))/\iY ⟨bs,lo⟩ v=some (.d (.slice acc.isEmpty acc)):=by
 have h1:=h.dat lo 7;obtain ⟨rfl,rfl⟩ | ⟨_,b,_,rfl,_⟩:=h.is
 . exact ⟨rfl,rfl⟩
 . simp only [Nj,AO,h1,and_self]
theorem Acc.tup {base:List Blk}{z:Nat}{acc:List (List D)}{bs:List Blk}{v:V}(h:Acc base z acc bs v):aY [v]=v:=rfl
