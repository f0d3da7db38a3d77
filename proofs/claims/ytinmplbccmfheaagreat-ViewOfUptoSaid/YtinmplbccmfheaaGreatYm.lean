/- What Go's library does on rows, whose cells are any values. -/
import Derived.Test.YtinmplbccmfheaaGreatXq
set_option maxRecDepth 100000
set_option linter.unusedVariables false
set_option linter.unusedSimpArgs false
namespace Go.Proofs.YtinmplbccmfheaaGreat
open IntKind (wrap)
namespace Vr
def RowIs (bs:List Blk)(v:V)(z:Nat)(es:List (List V)):Prop :=
 (∀ e∈es,e.length=z)/\((∃ nl,v=.d (.slice nl [])/\es=[])\/∃ b o cap cs,v=.row b o es.length cap z/\ah bs b=some cs/\sub cs o (es.length * z)=some es.flatten)
def flat (es:List (List V)):List V:=es.flatten
theorem flat_cons (e:List V)(es:List (List V)):flat (e::es)=e++flat es:=by simp [flat]
theorem mq (a b:List (List V)):flat (a++b)=flat a++flat b:=by simp only [flat,List.flatten_append]
@[simp] theorem rY:flat []=[]:=rfl
theorem flat_len {z:Nat}{es:List (List V)}(hz:∀ e∈es,e.length=z):(flat es).length=es.length * z:=by
 simp only [flat,oN hz]
theorem RowIs.len {bs:List Blk}{v:V}{z:Nat}{es:List (List V)}(h:RowIs bs v z es)(hp:Hp):qO false v hp=some (.d (.int .i64 es.length),hp):=by
 obtain ⟨nl,rfl,he0⟩ | ⟨b,o,cap,cs,rfl,_⟩:=h.2<;>simp [*]
theorem RowIs.ok {bs:List Blk}{v:V}{z:Nat}{es:List (List V)}(h:RowIs bs v z es):nu v=some v:=by
 obtain ⟨nl,rfl,he0⟩ | ⟨b,o,cap,cs,rfl,_⟩:=h.2<;>simp
theorem RowIs.elem {bs:List Blk}{v:V}{z:Nat}{es:List (List V)}(h:RowIs bs v z es){i:Nat}(hi:i<es.length){l:Nat} :
 ∃ p,eP none z v (.d (.int .i64 i)) ⟨bs,l⟩=some (p,⟨bs,l⟩)/\loadAt ⟨bs,l⟩ p z=some (es[i]):=by
 have hzi:=h.1 _ (bj hi);obtain ⟨nl,rfl,he0⟩ | ⟨b,o,cap,cs,rfl,h1,h2⟩:=h.2
 . subst he0; simp at hi
 . refine ⟨.ptr b (o+i * z),?_,?_⟩
   . simp only [eP];rw [if_pos ⟨by omega,by omega,trivial⟩];simp
   . simp only [mY,get_eq,h1];rw [eG] at h2 ⊢;split at h2
     . rename_i hle;simp only [be] at h2;have hiz:(i+1) * z<=es.length * z:=Nat.mul_le_mul_right z hi;rw [Nat.add_mul,Nat.one_mul] at hiz;rw [if_pos (by omega)]
       congr 1
       have hf:=lh (α:=V) (es:=es) (i:=i) (z:=z) h.1 hi;rw [← h2] at hf
       skip
       rw [← hf,List.drop_take,bh,List.take_take,Nat.min_eq_left (by omega)]
     . cases h2
section
variable {E:Calls'}{T:FuncId->Option QF}{val:FuncId->Bool}
theorem RowIs.at {α:Type}{cells:α->List V}{bs:List Blk}{v:V}{z:Nat}{es:List α}(h:RowIs bs v z (es.map cells)){i:Nat}(hi:i<es.length){l:Nat} :
 ∃ p,eP none z v (.d (.int .i64 i)) ⟨bs,l⟩=some (p,⟨bs,l⟩)/\loadAt ⟨bs,l⟩ p z=some (cells es[i]):=by
 have:=h.elem (i:=i) (by simpa using hi) (l:=l);simpa using this
theorem RowIs.lenT {α:Type}{cells:α->List V}{bs:List Blk}{v:V}{z:Nat}{es:List α}(h:RowIs bs v z (es.map cells))(hp:Hp):qO false v hp=some (.d (.int .i64 es.length),hp):=by
 simpa using h.len hp
theorem xI {α:Type}{cells:α->List V}{z:Nat}{bs:List Blk}{lo:Nat}{v:V}{es:List α}(hr:RowIs bs v z (es.map cells)){f:FuncId}{caps:List V}{q:α->Bool}(hlen:es.length<2 ^ 62)
 (hf:∀ e∈es,Sm E T val f (.agg (cells e)::caps) ⟨bs,lo⟩=some (.d (.bool (q e)),⟨bs,lo⟩)):∀ (m i:Nat),i+m=es.length →
   Cd E T val (.loop [0,1,7,8] (uy z)) [(0,v),(1,.fn f caps),(7,.d (.int .i64 es.length)),(8,.d (.int .i64 i))] ⟨bs,lo⟩ =
    match (es.drop i).findIdx? q with
    | some k=>some (.ret,[(4,.d (.int .i64 (i+k:Nat)))],⟨bs,lo⟩)
    | none=>some (.exit 0,[],⟨bs,lo⟩):=by
 intro m;have key:=ay (E:=E) (T:=T) (val:=val) [0,1,7,8] (uy z);generalize Cd E T val (.loop [0,1,7,8] (uy z))=W at key ⊢
 induction m with
 | zero =>
  intro i hi;have h0:es.drop i=[]:=bb (by omega);rw [key];simp [uy,h0,show ¬ ((i:Int)<es.length) from by omega]
 | succ m ih =>
  intro i hi;have hlt:i<es.length:=by omega
  have hd:es.drop i=es[i]::es.drop (i+1):=ba hlt;obtain ⟨p,hp1,hp2⟩:=hr.at hlt (l:=lo);have hv:=hr.ok;have hcall:=hf _ (bj hlt);generalize es[i]=x at *;rw [key,hd];cases hq:q x with
  | true=>simp [uy,hv,hp1,ldv,hp2,hcall,hq,List.findIdx?_cons,show ((i:Int)<es.length) from by omega,show okV (V.agg (cells x))=true from rfl]
  | false =>
   have hw:wrap .i64 ((i:Int)+1)=((i+1:Nat):Int):=by rw [wrap64]<;>omega
   have:=ih (i+1) (by omega);simp [uy,hv,hp1,ldv,hp2,hcall,hq,List.findIdx?_cons,hw,show ((i:Int)<es.length) from by omega,show okV (V.agg (cells x))=true from rfl];rw [show ((i:Int)+1)=((i+1:Nat):Int) from by omega,this];cases hfi:(es.drop (i+1)).findIdx? q with
   | none=>rfl
   | some k=>simp; omega
theorem S_idx {α:Type}(cells:α->List V){z:Nat}{id:FuncId}(ht:T id=some (idxQ z))(hvl:val id=false){v:V}{es:List α}{f:FuncId}{caps:List V}{q:α->Bool}{h:Hp}(hr:RowIs h.bs v z (es.map cells))(hlen:es.length<2 ^ 62)
 (hf:∀ e∈es,∀ lo,Sm E T val f (.agg (cells e)::caps) ⟨h.bs,lo⟩=some (.d (.bool (q e)),⟨h.bs,lo⟩)):Sm E T val id [v,.fn f caps] h=some (.d (.int .i64 (ib es q)),h):=by
 rw [aJ ht hvl];have hl:=xI hr hlen (λe he=>hf e he h.bs.length) es.length 0 (by omega);have hv:=hr.ok;have hn:=hr.lenT;simp [idxQ,af,hv,hn,ib];rw [aj];simp at hl;simp [hl];cases es.findIdx? q with
 | none=>simp [V.under]
 | some k=>simp [V.under]
theorem jo {α:Type}(cells:α->List V){z idx id:Nat}{zero:List V}(hti:T idx=some (idxQ z))(hvi:val idx=false)(ht:T id=some (delQ z idx zero))(hv:val id=false){v:V}{es:List α}{f:FuncId}{caps:List V}{q:α->Bool}{h:Hp}
 (hr:RowIs h.bs v z (es.map cells)) (hlen:es.length<2 ^ 62) (hf:∀ e∈es,∀ lo,Sm E T val f (.agg (cells e)::caps) ⟨h.bs,lo⟩=some (.d (.bool (q e)),⟨h.bs,lo⟩)) (hq:∀ e∈es,q e=false) :
 Sm E T val id [v,.fn f caps] h=some (v,h):=by
 rw [aJ ht hv];have h1:=S_idx (h:=⟨h.bs,h.bs.length⟩) cells hti hvi hr hlen hf;have h2:ib es q=-1:=by
  obtain ⟨_,e⟩ | ⟨k,x,e,_,_⟩:=dE es q
  . exact e
  . exact absurd (List.find?_some e) (by simp [hq x (List.mem_of_find?_eq_some e)])
 have hok:=hr.ok;have hokv:okV v=true:=by obtain ⟨nl,rfl,he0⟩ | ⟨b,o,cap,cs,rfl,_⟩:=hr.2<;>rfl
 have hu:V.under h.bs.length v=true:=by
  obtain ⟨nl,rfl,he0⟩ | ⟨b,o,cap,cs,rfl,hb,_⟩:=hr.2
  . rfl
  . simpa [V.under] using aK hb
 simp [delQ,af,hok,hokv,h1,h2,hu]
structure Thin {α:Type} (cells:α->List V) (z:Nat) (es:List α) (bs0:List Blk) (b:Nat) (kept:List α) (bs:List Blk):Prop where
 len:bs0.length<=bs.length
 old:∀ x,x≠b->x<bs0.length->bs[x]?=bs0[x]?
 row:ah bs b=some (flat (kept.map cells)++(flat (es.map cells)).drop (kept.length * z))
section
variable {α:Type}{cells:α->List V}{z:Nat}(hz:∀ x,(cells x).length=z){es:List α}{bs0:List Blk}{b:Nat}
include hz
theorem dP (l:List α):(flat (l.map cells)).length=l.length * z:=by
 rw [flat_len (z:=z) (by simp; intro a _; exact hz a)]; simp
theorem Thin.read {kept:List α}{bs:List Blk}(h:Thin cells z es bs0 b kept bs){j:Nat}(hj:kept.length<=j)(hlt:j<es.length):sub (flat (kept.map cells)++(flat (es.map cells)).drop (kept.length * z)) (j * z) z=some (cells es[j]):=by
 have h1:=dP hz kept;have h2:=dP hz es;have h3:kept.length * z<=j * z:=Nat.mul_le_mul_right z hj;have h4:(j+1) * z<=es.length * z:=Nat.mul_le_mul_right z hlt;rw [Nat.add_mul,Nat.one_mul] at h4;rw [eG,if_pos (by simp only [aw,List.length_drop,h1,h2]; omega)];have h5:j * z=(flat (kept.map cells)).length+(j * z-kept.length * z):=by omega
 rw [h5,← bh,List.drop_left,bh,show kept.length * z+(j * z-kept.length * z)=j * z by omega];have hf:=lh (α:=V) (es:=es.map cells) (i:=j) (z:=z) (by simp; intro a _; exact hz a) (by simpa using hlt);simp only [List.getElem_map] at hf;rw [← hf,flat]
omit hz in
theorem Thin.lay {kept:List α}{bs:List Blk}(h:Thin cells z es bs0 b kept bs)(x:Blk):Thin cells z es bs0 b kept (bs++[x]):=by
 refine ⟨by simp; have:=h.len; omega,λy hy hlt=>?_,av h.row⟩;rw [aq (by have:=h.len; omega)];exact h.old y hy hlt
theorem Thin.keep {kept:List α}{bs:List Blk}(h:Thin cells z es bs0 b kept bs){e:α}(hlt:kept.length<es.length) :
 ∃ cs,put (flat (kept.map cells)++(flat (es.map cells)).drop (kept.length * z)) (kept.length * z) (cells e)=some cs/\Thin cells z es bs0 b (kept++[e]) (bs.set b (.cells cs)):=by
 have h1:=dP hz kept;have h2:=dP hz es;have h4:(kept.length+1) * z<=es.length * z:=Nat.mul_le_mul_right z hlt;rw [Nat.add_mul,Nat.one_mul] at h4;refine ⟨flat (kept.map cells)++(cells e)++(flat (es.map cells)).drop ((kept.length+1) * z),?_,?_⟩
 . unfold put;rw [if_pos (by simp only [aw,List.length_drop,b9,h1,h2,hz]; omega)]
   congr 1
   rw [← h1,List.take_left,hz,← bh,List.drop_left,bh,h1,Nat.add_mul,Nat.one_mul]
 . have hb:=aK h.row;refine ⟨by simpa using h.len,λy hy hlt=>?_,?_⟩
   . rw [am (λq=>hy q.symm)]; exact h.old y hy hlt
   . simp only [ah,List.getElem?_set_self hb,List.map_append,cn,List.map_nil,mq,flat_cons,rY,List.append_nil,aw,cg,ch]
end
theorem Jm {α:Type}{cells:α->List V}{z:Nat}(hz:∀ x,(cells x).length=z)(hz0:0<z){zero:List V}(hzero:zero.length=z){es:List α}{bs0:List Blk}{b:Nat}(hb0:b<bs0.length){cap:Option Nat}{f:FuncId}{caps:List V}{q:α->Bool}(hlen:es.length<2 ^ 62)
 (hf:∀ e∈es,∀ bs lo,bs0.length<=bs.length->(∀ x,x≠b->x<bs0.length->bs[x]?=bs0[x]?)->Sm E T val f (.agg (cells e)::caps) ⟨bs,lo⟩=some (.d (.bool (q e)),⟨bs,lo⟩)) :
 ∀ (m j:Nat) (kept:List α) (bs:List Blk) (lo:Nat),j+m=es.length->kept.length<j->Thin cells z es bs0 b kept bs->lo<=bs.length →
  ∃ bs' lo',Cd E T val (.loop [0,1,5,6] (D8 z zero)) [(0,.row b 0 es.length cap z),(1,.fn f caps),(5,.d (.int .i64 kept.length)),(6,.d (.int .i64 j))] ⟨bs,lo⟩ =
   some (.exit 0,[(0,.row b 0 es.length cap z),(5,.d (.int .i64 (kept++(es.drop j).filter λe=>!q e).length))],⟨bs',lo'⟩)/\Thin cells z es bs0 b (kept++(es.drop j).filter λe=>!q e) bs':=by
 intro m;have key:=ay (E:=E) (T:=T) (val:=val) [0,1,5,6] (D8 z zero);generalize Cd E T val (.loop [0,1,5,6] (D8 z zero))=W at key ⊢
 induction m with
 | zero =>
  intro j kept bs lo hj hk ht hlo;have h0:es.drop j=[]:=bb (by omega);refine ⟨bs,lo,?_,by simpa [h0] using ht⟩;rw [key];simp [D8,h0,show ¬ ((j:Int)<es.length) from by omega]
 | succ m ih =>
  intro j kept bs lo hj hk ht hlo;have hlt:j<es.length:=by omega
  have hd:es.drop j=es[j]::es.drop (j+1):=ba hlt;have hread:=ht.read hz (by omega) hlt;have hrow:=ht.row;have hmem:es[j]∈es:=bj hlt;generalize es[j]=x at *;have hxl:(cells x).length=z:=by simp [hz]
  have hput:put zero 0 (cells x)=some (cells x):=by
   simp [put,hz,hzero]
  have ht1:=ht.lay (.cells (cells x));have hcall:=hf x hmem (bs++[.cells (cells x)]) lo ht1.len ht1.old;have hsubx:sub (cells x) 0 z=some (cells x):=bN (hz x);have hix:eP none z (.row b 0 es.length cap z) (.d (.int .i64 j)) ⟨bs,lo⟩=some (.ptr b (j * z),⟨bs,lo⟩):=by
   simp only [eP]; rw [if_pos ⟨by omega,by omega,trivial⟩]; simp
  have hw:wrap .i64 ((j:Int)+1)=((j+1:Nat):Int):=by rw [wrap64]<;>omega
  rw [key,hd];have hld:loadAt ⟨bs,lo⟩ (.ptr b (j * z)) z=some (cells x):=by simp only [mY,get_eq,hrow,hread]
  have hok:okV (V.agg (cells x))=true:=rfl;have hcall:=λlo=>hf x hmem (bs++[.cells (cells x)]) lo ht1.len ht1.old;cases hq:q x with
  | true =>
   obtain ⟨bs',lo',k1,k2⟩:=ih (j+1) kept (bs++[.cells (cells x)]) (min lo bs.length) (by omega) (by omega) ht1 (by simp; omega);refine ⟨bs',lo',?_,by simpa [hq] using k2⟩;simp [D8,hix,ldv,hrow,hread,hput,hcall,hq,hw,hz,hz0,hsubx,show ((j:Int)<es.length) from by omega];simpa using k1
  | false =>
   obtain ⟨cs,hcs,ht2⟩:=ht1.keep hz (e:=x) (by omega);have hrow1:=ht1.row;have hix2:∀ lo,eP none z (.row b 0 es.length cap z) (.d (.int .i64 kept.length)) ⟨bs++[.cells (cells x)],lo⟩=some (.ptr b (kept.length * z),⟨bs++[.cells (cells x)],lo⟩):=by
    intro lo; simp only [eP]; rw [if_pos ⟨by omega,by omega,trivial⟩]; simp
   have hw2:wrap .i64 ((kept.length:Int)+1)=((kept.length+1:Nat):Int):=by rw [wrap64]<;>omega
   have hset:∀ lo,Hp.set ⟨bs++[Blk.cells (cells x)],lo⟩ b cs=⟨(bs++[Blk.cells (cells x)]).set b (Blk.cells cs),min lo b⟩:=λ_=>rfl;obtain ⟨bs',lo',k1,k2⟩:=ih (j+1) (kept++[x]) _ (min (min lo bs.length) b) (by omega) (by simp; omega) ht2 (by simp; omega);refine ⟨bs',lo',?_,by simpa [hq] using k2⟩;generalize hB:(bs++[Blk.cells (cells x)]).set b (Blk.cells cs)=B at *;simp [D8,hix,ldv,hrow,hread,hput,hcall,hq,hw,hz,hz0,hsubx,hix2,hrow1,hcs,hset,hw2,show ((j:Int)<es.length) from by omega];simp at k1;rw [show ((kept.length:Int)+1)=(kept.length:Int)+1 from rfl] at k1;simpa [Int.add_assoc,Int.add_comm,Int.add_left_comm] using k1
theorem La {h:Hp}{ev:X->V}{b len z:Nat}{cap:Option Nat}{x:X}{n:Nat}(hx:ev x=.d (.int .i64 n))(hn:n<len):∃ cap',dH h ev .sl z (.row b 0 len cap z) (some x) none none=some (.row b (n * z) (len-n) cap' z):=by
 simp only [dH,dL,hx];rw [if_pos (by omega)];simp only [Int.toNat_natCast];rw [if_pos ⟨by omega,by omega,trivial⟩];by_cases h0:n=0
 . subst h0; exact ⟨cap,by simp⟩
 . exact ⟨_,by rw [if_neg h0,if_pos hn,Nat.zero_add]⟩
theorem pF {h:Hp}{ev:X->V}{b len z:Nat}{cap:Option Nat}{x:X}{n:Nat}(hx:ev x=.d (.int .i64 n))(hn:n<=len):dH h ev .sl z (.row b 0 len cap z) none (some x) none=some (.row b 0 n cap z):=by
 simp only [dH,dL,hx];rw [if_pos (by omega)];simp only [Int.toNat_natCast];rw [if_pos ⟨by omega,by omega,trivial⟩];simp
theorem wZ {α:Type}{cells:α->List V}{z idx id:Nat}{zero:List V}(hz:∀ x,(cells x).length=z)(hz0:0<z)(hzero:zero.length=z)(hti:T idx=some (idxQ z))(hvi:val idx=false)(ht:T id=some (delQ z idx zero))(hv:val id=false)
 {es:List α} {b:Nat} {cap:Option Nat} {f:FuncId} {caps:List V} {q:α->Bool} {h:Hp} (hb:ah h.bs b=some (flat (es.map cells))) (hlen:es.length<2 ^ 62)
 (hf:∀ e∈es,∀ bs lo,h.bs.length<=bs.length->(∀ x,x≠b->x<h.bs.length->bs[x]?=h.bs[x]?)->Sm E T val f (.agg (cells e)::caps) ⟨bs,lo⟩=some (.d (.bool (q e)),⟨bs,lo⟩)) (hq:∃ e∈es,q e=true) :
 ∃ bs' lo' rest,Sm E T val id [.row b 0 es.length cap z,.fn f caps] h=some (.row b 0 (es.filter λe=>!q e).length cap z,⟨bs',lo'⟩)/\h.bs.length<=bs'.length/\(∀ x,x≠b->x<h.bs.length->bs'[x]?=h.bs[x]?) ∧
  ah bs' b=some (flat ((es.filter λe=>!q e).map cells)++rest)/\lo'<=b/\rest.length=(es.length-(es.filter λe=>!q e).length) * z:=by
 obtain ⟨k,x,e1,e2,e3⟩:∃ k e,es.find? q=some e/\ib es q=(k:Nat)/\es[k]?=some e:=by
  obtain ⟨e,_⟩ | h:=dE es q
  . obtain ⟨y,y1,y2⟩:=hq;exact absurd y2 (by simpa using List.find?_eq_none.1 e y y1)
  . exact h
 have hk:k<es.length:=(bx.1 e3).1;have hxk:es[k]=x:=(bx.1 e3).2;have hqx:q x=true:=List.find?_some e1;have hfirst:∀ y∈es.take k,q y=false:=by
  rw [List.find?_eq_some_iff_getElem] at e1;obtain ⟨_,i,hi,hxi,hlt⟩:=e1;have hik:i=k\/i≠k:=by omega
  intro y hy;obtain ⟨j,hj,rfl⟩:=List.mem_iff_getElem.1 hy;simp only [List.length_take] at hj;rw [List.getElem_take];have h2:ib es q=(i:Nat):=by
   unfold ib;rw [List.findIdx?_eq_some_iff_getElem.2 ⟨hi,by rw [hxi]; exact hqx,λj hj=>by simpa using hlt j hj⟩]
  have:i=k:=by rw [h2] at e2; omega
  subst this;simpa using hlt j (by omega)
 have htk:es.take k++(es.drop (k+1)).filter (λe=>!q e)=es.filter λe=>!q e:=by
  conv=>rhs; rw [← List.take_append_drop k es,List.filter_append]
  congr 1
  . exact (List.filter_eq_self.2 λy hy=>by simp [hfirst y hy]).symm
  . rw [ba hk,hxk,List.filter_cons]; simp [hqx]
 have hT0:Thin cells z es h.bs b (es.take k) h.bs:=by
  refine ⟨br _,λ_ _ _=>rfl,?_⟩;have h1:=dP hz (es.take k);have hs:flat (es.map cells)=flat ((es.take k).map cells)++flat ((es.drop k).map cells):=by rw [← mq,← List.map_append,List.take_append_drop]
  rw [hb,hs,← h1,List.drop_left]
 have hbl:=aK hb;have hrowis:RowIs h.bs (.row b 0 es.length cap z) z (es.map cells):=by
  refine ⟨by simp; intro a _; exact hz a,.inr ⟨b,0,cap,_,by simp,hb,?_⟩⟩;rw [eG,if_pos (by rw [dP hz]; simp)];rw [List.drop_zero,b9,← dP hz,List.take_length]; rfl
 have h1:=S_idx (E:=E) (h:=⟨h.bs,h.bs.length⟩) cells hti hvi hrowis hlen (λe he lo=>hf e he h.bs lo (br _) λ_ _ _=>rfl);obtain ⟨bs',lo',k1,k2⟩:=Jm (E:=E) (T:=T) (val:=val) hz hz0 hzero hbl (cap:=cap) hlen hf (es.length-(k+1)) (k+1) (es.take k) h.bs h.bs.length (by omega) (by simp; omega) hT0 (br _);rw [htk] at k1 k2;have hkl:(es.take k).length=k:=by simp; omega
 have hfl:(es.filter λe=>!q e).length<es.length:=by
  rw [← htk,aw,hkl];have:=List.length_filter_le (λe=>!q e) (es.drop (k+1));simp only [List.length_drop] at this;omega
 rw [hkl] at k1;generalize hK:es.filter (λe=>!q e)=K at *;rw [aJ ht hv];have hw:wrap .i64 ((k:Int)+1)=((k+1:Nat):Int):=by rw [wrap64]<;>omega
 have hrow:=k2.row;have hlenT:=dP hz K;have hlenE:=dP hz es;have hbl2:=aK hrow;have hmul:K.length * z<es.length * z:=Nat.mul_lt_mul_of_pos_right hfl hz0;have hput:put (flat (K.map cells)++(flat (es.map cells)).drop (K.length * z)) (K.length * z) (List.replicate (es.length-K.length) zero).flatten=some (flat (K.map cells)++(List.replicate (es.length-K.length) zero).flatten):=by
  have hr:((List.replicate (es.length-K.length) zero).flatten).length=(es.length-K.length) * z:=by simp [hzero]
  unfold put;rw [if_pos (by rw [aw,List.length_drop,hlenT,hlenE,hr,Nat.sub_mul]; omega),← hlenT,List.take_left,hlenT,hr,bb (by rw [aw,List.length_drop,hlenT,hlenE,Nat.sub_mul]; omega),List.append_nil]
 have hclr:∀ (e:EA) (cap':Option Nat),e.get 38=.row b (K.length * z) (es.length-K.length) cap' z->opE (Sm E T val) (.clear z zero (.t 38)) (X.ea e) ⟨bs',lo'⟩=some (.undef,⟨bs'.set b (.cells (flat (K.map cells)++(List.replicate (es.length-K.length) zero).flatten)),min lo' b⟩):=by
  intro e cap' he;have hne:¬ (es.length-K.length) * z=0:=by rw [Nat.sub_mul]; omega
  simp only [opE,ay6,he,if_true,get_eq,hrow,if_neg hne,hput,O0]
 refine ⟨bs'.set b (.cells (flat (K.map cells)++(List.replicate (es.length-K.length) zero).flatten)),min h.low (min lo' b),(List.replicate (es.length-K.length) zero).flatten,?_,by simpa using k2.len,λy hy hlt=>by rw [am (λq=>hy q.symm)]; exact k2.old y hy hlt,by simp [ah,List.getElem?_set_self hbl2],by omega,by simp [hzero]⟩;have hne:¬ (h.bs.length<=lo'/\h.bs.length<=b/\b<h.bs.length):=by omega
 generalize hZ:flat (K.map cells)++(List.replicate (es.length-K.length) zero).flatten=Z at *;simp [delQ,af,h1,e2,hw];rw [aj];simp at k1;simp [k1];obtain ⟨cap',hsl⟩:=La (h:=⟨bs',lo'⟩) (ev:=X.ea [(37,.d (.int .i64 K.length)),(36,.row b 0 es.length cap z),(0,.row b 0 es.length cap z),(5,.d (.int .i64 K.length))]) (x:=.t 37) (b:=b) (z:=z) (cap:=cap) (n:=K.length) (by simp) hfl;simp [hsl];rw [hclr _ cap' (by simp)];have hsh:=pF (h:=⟨bs'.set b (.cells Z),min lo' b⟩) (ev:=X.ea [(40,.d (.int .i64 K.length)),(39,.row b 0 es.length cap z),(38,.row b (K.length * z) (es.length-K.length) cap' z),(37,.d (.int .i64 K.length)),(36,.row b 0 es.length cap z),(0,.row b 0 es.length cap z),(5,.d (.int .i64 K.length))]) (x:=.t 40) (b:=b) (z:=z) (len:=es.length) (cap:=cap) (n:=K.length) (by simp) (by omega);simp [hsh,V.under];intro h1 h2;exfalso;omega
end
end Vr
namespace Vr
section
variable {E:Calls'}{T:FuncId->Option QF}{val:FuncId->Bool}
theorem IY {bs:List Blk}{z by_:Nat}{K:List (List V)}{v:V}{x:List V}(hw:∀ e∈K,e.length=z)(hx:x.length=z)(hz0:0<z)(hby:by_<=4096)(hl:K.length<big){r:Nat}{c:Option Nat}(hr:ah bs r=some x){m:Nat}
 (hv:(K=[]/\v=.d (.slice true []))\/(∃ B,K=[]/\m<=B/\v=.row B 0 0 (some 0) z/\ah bs B=some [])\/(∃ B rest q,m<=B/\v=.row B 0 K.length none z/\ah bs B=some (flat K++rest)/\rest.length=q * z/\0<K.length+q)) (hm:m<=bs.length) :
 ∃ (B:Nat) (cap:Option Nat) (bs':List Blk) (rest:List V) (f:Nat->Nat),(∀ lo,d9 ⟨bs,lo⟩ z by_ v (.row r 0 1 c z)=some (.row B 0 (K.length+1) cap z,⟨bs',f lo⟩))/\m<=B/\ah bs' B=some (flat (K++[x])++rest)/\∀ y,y<m->bs'[y]?=bs[y]?:=by
 have hrc:∀ lo,aH ⟨bs,lo⟩ (.row r 0 1 c z) z=some (1,x):=by
  intro lo;have:sub x 0 z=some x:=bN (by simpa using hx);simp only [aH,if_true,get_eq,hr,Nat.one_mul,this,Option.map_some]
 have hroom:∀ n,n<=big->roomy n by_=true:=λn hn=>by simp only [roomy,aE,bw]; exact ⟨hn,hby⟩
 have hfx:flat (K++[x])=flat K++x:=by rw [mq,flat_cons,rY,List.append_nil]
 obtain ⟨h1,rfl⟩ | ⟨B,h1,h2,rfl,h4⟩ | ⟨B,rest,q,h2,rfl,h4,h5,h6⟩:=hv
 . subst h1;refine ⟨bs.length,none,bs++[.cells x],[],λlo=>lo,λlo=>by simp only [d9,hrc,aI,if_neg (show ¬ (1=0) by decide),if_neg (show ¬ z=0 by omega),hroom 1 (by decide),if_true]; rfl,hm,by simp [Hp.alloc,flat],λy hy=>?_⟩;rw [aq (by omega)]
 . subst h1;have hsub:sub ([]:List V) 0 (0 * z)=some []:=by simp [sub]
   refine ⟨bs.length,none,bs++[.cells ([]++x)],[],λlo=>lo,λlo=>by simp only [d9,hrc,aI,ne_eq,not_true_eq_false,false_or,if_neg (show ¬ (1=0) by decide),if_neg (show ¬ z=0 by omega),get_eq,h4,hsub,hroom (0+1) (by decide),Bool.not_true,bo,if_false,if_neg (show ¬ (0+1<=0) by decide)]; rfl,hm,by simp [Hp.alloc,flat],λy hy=>?_⟩;rw [aq (by omega)]
 . have hf:=flat_len hw;have hsub:sub (flat K++rest) 0 (K.length * z)=some (flat K):=by
    rw [eG,if_pos (by rw [aw,hf]; omega),List.drop_zero,← hf,List.take_left]
   have hbl:=aK h4;obtain hq | hq:=Nat.eq_zero_or_pos q
   . subst hq;have hr0:rest=[]:=List.eq_nil_of_length_eq_zero (by simpa using h5);subst hr0;have hpos:0<(flat K).length:=by rw [hf]; exact Nat.mul_pos (by omega) hz0
     simp only [List.append_nil] at h4 hsub;refine ⟨bs.length,none,bs.set B (.cells [])++[.cells (flat K++x)],[],λlo=>min lo B,λlo=>by simp only [d9,hrc,aI,ne_eq,not_true_eq_false,false_or,if_neg (show ¬ (1=0) by decide),if_neg (show ¬ z=0 by omega),get_eq,h4,hsub,hroom (K.length+1) (by omega),Bool.not_true,bo,if_false,hpos,and_self,if_true,Hp.size,Hp.alloc,Hp.set,List.length_set],hm,?_,λy hy=>?_⟩
     . have:ah (bs.set B (.cells [])++[.cells (flat K++x)]) (bs.set B (.cells [])).length=some (flat K++x):=by rw [dU]; rfl
       rw [List.length_set] at this;rw [this,hfx,List.append_nil]
     . rw [aq (by simp; omega),am (by omega)]
   . have hqz:z<=q * z:=by have:=Nat.mul_le_mul_right z hq; rwa [Nat.one_mul] at this
     have hne:¬ (True/\(flat K).length=(flat K++rest).length/\0<(flat K++rest).length):=by
      rw [aw]; omega
     have hfit:0+(K.length+1) * z<=(flat K++rest).length:=by
      rw [aw,hf,Nat.add_mul]; omega
     have hput:put (flat K++rest) (0+K.length * z) x=some (flat K++x++rest.drop z):=by
      unfold put;rw [if_pos (by rw [aw,hx,hf]; omega),Nat.zero_add,← hf,List.take_left,hx,List.drop_append,bb (by omega),Nat.add_sub_cancel_left];simp
     refine ⟨B,none,bs.set B (.cells (flat K++x++rest.drop z)),rest.drop z,λlo=>min lo B,λlo=>by simp only [d9,hrc,aI,ne_eq,not_true_eq_false,false_or,if_neg (show ¬ (1=0) by decide),if_neg (show ¬ z=0 by omega),get_eq,h4,hsub,hroom (K.length+1) (by omega),Bool.not_true,bo,if_false,if_neg hne,if_pos hfit,hput]; rfl,h2,?_,λy hy=>?_⟩
     . simp [ah,hbl,hfx,Hp.set]
     . rw [am (by omega)]
theorem xq {z:Nat}:∀ {l:List (List V)} {rest:List V},(∀ e∈l,e.length=z)->chunk z l.length (flat l++rest)=l
 | [],rest,_=>rfl
 | e::l,rest,h=>by
  have he:=h e (by simp);have ih:=xq (l:=l) (rest:=rest) λx hx=>h x (List.mem_cons_of_mem _ hx);have hl:e.length=z:=by simp [he]
  simp only [chunk,cg,List.range_succ_eq_map,cn,List.map_map,flat_cons,List.append_assoc] at ih ⊢
  congr 1
  . rw [Nat.zero_mul,List.drop_zero,← hl,List.take_left]
  . conv=>rhs; rw [← ih]
    refine List.map_congr_left λi _=>?_;simp only [Function.comp,Nat.succ_eq_add_one,Nat.add_mul,Nat.one_mul];rw [List.drop_append,bb (by omega),hl,List.nil_append,Nat.add_sub_cancel]
theorem Ih {α:Type}{cells:α->List V}{key:α->Int}{z p:Nat}{g idf:FuncId}(hz:∀ x,(cells x).length=z)(hkey:∀ x,(cells x)[p]?=some (.d (.int .u64 (key x)))){L:List α}(hnd:(L.map key).Nodup)(hne:L≠[])(hlen:L.length<=2 ^ 40){h:Hp}{b c:Nat}{cap:Option Nat}{rest:List V}
 (hb:ah h.bs b=some (flat (L.map cells)++rest)) (hc:ah h.bs c=some [.fn idf []]) (hbc:b≠c) :
 Bf ⟨z,p,g,idf⟩ [.row b 0 L.length cap z,.fn g [.ptr c 0]] h=some (.tup [],h.set b (flat ((L.mergeSort λx y=>decide (key x<=key y)).map cells)++rest)):=by
 have hw:∀ e∈L.map cells,e.length=z:=by simp; intro a _; exact hz a
 have hch:=xq (rest:=rest) hw;rw [b9] at hch;have hkv:∀ x,MG p (cells x)=some (key x):=λx=>by simp [MG,hkey]
 have hki:∀ x,GN p (cells x)=key x:=λx=>by simp [GN,hkv]
 have hfl:=dP hz L;have h1:(L.map cells).map (GN p)=L.map key:=by
  rw [List.map_map];exact List.map_congr_left λx _=>hki x
 have h2:Lc p (L.map cells)=((L.mergeSort λx y=>decide (key x<=key y)).map cells):=by
  rw [Lc]
  symm
  refine List.map_mergeSort λx _ y _=>?_;simp only [Function.comp,hki]
 have h3:∀ l:List (List V),l.flatten=flat l:=λl=>by simp only [flat,List.map_flatten]
 simp only [Bf,get_eq,hb,hc];rw [if_pos]
 . rw [hch,h2,h3,← hfl,List.drop_left]
 . refine ⟨trivial,trivial,trivial,hbc,List.length_pos_iff.2 hne,hlen,by rw [aw,hfl]; omega,?_,?_⟩
   . rw [hch];intro r hr;obtain ⟨x,_,rfl⟩:=cb.1 hr;rw [hkv]; rfl
   . rw [hch,h1]; exact hnd
end
end Vr
namespace Vr
section
variable {E:Calls'}{T:FuncId->Option QF}{val:FuncId->Bool}
structure ArgIs (bs:List Blk) (a:V) (z:Nat) (nl:Bool) (es:List (List V)):Prop where
 nil:nl=true->a=.d (.slice true [])
 row:nl=false->∃ b cap rest,a=.row b 0 es.length cap z/\ah bs b=some (flat es++rest)
theorem ArgIs.lay {bs:List Blk}{a:V}{z:Nat}{nl:Bool}{es:List (List V)}(h:ArgIs bs a z nl es)(ys:List Blk):ArgIs (bs++ys) a z nl es:=⟨h.nil,λhn=>by
 obtain ⟨b,cap,rest,h1,h2⟩:=h.row hn;exact ⟨b,cap,rest,h1,av h2⟩⟩
def bO (z:Nat)(nl:Bool)(es:List (List V))(bs:List Blk)(lo:Nat):V×Hp:=match nl,es with
 | true,_=>(.d (.slice true []),⟨bs,lo⟩)
 | false,[]=>(.row bs.length 0 0 (some 0) z,⟨bs++[.cells []],lo⟩)
 | false,e::es=>(.row (bs.length+1) 0 (es.length+1) none z,⟨bs++[.cells [],.cells (flat (e::es))],lo⟩)
theorem Bq {z b:Nat}{zero:List V}{id:FuncId}{a:V}(ht:T id=some (cloneQ z b zero))(hv:val id=false)(hz0:0<z)(hb:b<=4096){nl:Bool}{es:List (List V)}(hz:∀ e∈es,e.length=z)(hlen:es.length<=big)(h:Hp)(ha:ArgIs h.bs a z nl es) :
 Sm E T val id [a] h=some ((bO z nl es h.bs h.low).1,⟨(bO z nl es h.bs h.low).2.bs,if nl then h.low else min h.low h.bs.length⟩):=by
 have hzz:z≠0:=by omega
 rw [aJ ht hv];cases nl with
 | true =>
  obtain rfl:=ha.nil rfl;simp [cloneQ,af,bO,V.under]
 | false =>
  obtain ⟨b0,cap,rest,rfl,h0⟩:=ha.row rfl;have hfl:=flat_len hz;have hr:roomy es.length b=true:=by
   simp only [roomy,aE,bw];exact ⟨hlen,hb⟩
  have hrc:aH ⟨h.bs++[.cells []],h.bs.length⟩ (.row b0 0 es.length cap z) z=some (es.length,flat es):=by
   have hs:sub (flat es++rest) 0 (es.length * z)=some (flat es):=by rw [yC (by omega)]; exact bN hfl
   simp only [aH,if_true,get_eq,av h0,hs,Option.map_some]
  cases es with
  | nil =>
   simp only [ch] at hrc hr ⊢;simp [cloneQ,af,d9,hrc,aI,hzz,bO,V.under];try (intro hh; omega)
  | cons e es =>
   simp only [cg] at hrc hr ⊢;simp [cloneQ,af,d9,hrc,aI,hzz,hr,bO,V.under];try (intro hh; omega)
theorem VZ {α:Type}{cells:α->List V}{z c idf:FuncId}{key:α->Int}(ht:T c=some (woCQ z))(hv:val c=false){e:α}(hz:(cells e).length=z)(hid:∀ h,Sm E T val idf [.agg (cells e)] h=some (.d (u64 (key e)),h)){n:Int}{p r:Nat}{h:Hp}(hp:ah h.bs p=some [.fn idf []])(hr:ah h.bs r=some [.d (u64 n)]) :
 Sm E T val c [.agg (cells e),.ptr p 0,.ptr r 0] h=some (bl (key e==n),h):=by
 rw [aJ ht hv];have hsub:sub (cells e) 0 z=some (cells e):=bN hz;simp [woCQ,af,ai,aa,az,ae,Tr.mute,av hp,av hr,hid,hsub,V.under]
def Left {α:Type}(cells:α->List V)(z:Nat)(nl:Bool)(l:List α)(K:List α)(b0:List Blk)(r:V)(bs':List Blk)(lo lo':Nat):Prop :=
 (nl=true/\K=[]/\r=.d (.slice true [])/\bs'=b0/\lo'=lo) ∨
 (nl=false/\l=[]/\K=[]/\r=.row b0.length 0 0 (some 0) z/\bs'=b0++[.cells []]/\lo'=min lo b0.length) ∨
 (nl=false/\l≠[]/\r=.row (b0.length+1) 0 K.length none z/\b0.length+1<bs'.length/\(∀ x,x<b0.length+1->bs'[x]?=(b0++[.cells []])[x]?) ∧
   ∃ rest,ah bs' (b0.length+1)=some (flat (K.map cells)++rest)/\rest.length=(l.length-K.length) * z)
theorem ai1 {α:Type}{cells:α->List V}{z b cl clos del idx idf:Nat}{zero:List V}{key:α->Int}(tcl:T cl=some (cloneQ z b zero))(vcl:val cl=false)(tdel:T del=some (delQ z idx zero))(vdel:val del=false)(tidx:T idx=some (idxQ z))(vidx:val idx=false)
 (tc:T clos=some (woCQ z)) (vc:val clos=false) (hz:∀ x,(cells x).length=z) (hz0:0<z) (hzero:zero.length=z) (hb:b<=4096) {nl:Bool} {l:List α} (hs:l.length<=big/\(nl=true->l=[])) (hid:∀ e∈l,∀ h,Sm E T val idf [.agg (cells e)] h=some (.d (u64 (key e)),h)) (n:Int) (bs:List Blk) (lo:Nat) {a:V} (ha:ArgIs bs a z nl (l.map cells)) :
 ∃ r bs' lo',Bd E T val (woQ cl clos del) [a,.d (u64 n),.fn idf []] ⟨bs,lo⟩=some (.tup [r,bl (decide ((l.filter λe=>!(key e==n)).length<l.length))],⟨bs',lo'⟩) ∧
  Left cells z nl l (l.filter λe=>!(key e==n)) (bs++[.cells [.d (u64 n)],.cells [.fn idf []]]) r bs' lo lo':=by
 have hp:∀ ys,ah (bs++([.cells [.d (u64 n)],.cells [.fn idf []]]++ys)) (bs.length+1)=some [.fn idf []]:=λys=>by unfold ah; rw [bm (by omega)]; simp
 have hr:∀ ys,ah (bs++([.cells [.d (u64 n)],.cells [.fn idf []]]++ys)) bs.length=some [.d (u64 n)]:=λys=>by unfold ah; rw [bm (by omega)]; simp
 have hcl:=Bq (E:=E) (T:=T) (val:=val) (a:=a) tcl vcl hz0 hb (nl:=nl) (es:=l.map cells) (by simp; intro a _; exact hz a) (by simpa using hs.1) ⟨bs++[.cells [.d (u64 n)],.cells [.fn idf []]],lo⟩ (ha.lay _);have hlen:l.length<2 ^ 62:=ce hs.1 (by decide);cases nl with
 | true =>
  have hl:=hs.2 rfl;subst hl;obtain rfl:=ha.nil rfl;have h1:=jo (E:=E) (T:=T) (val:=val) cells (es:=[]) (z:=z) (idx:=idx) (zero:=zero) tidx vidx tdel vdel (v:=.d (.slice true [])) (f:=clos) (caps:=[.ptr (bs.length+1) 0,.ptr bs.length 0]) (q:=λ_=>false) (h:=⟨bs++[.cells [.d (u64 n)],.cells [.fn idf []]],lo⟩) ⟨by simp,.inl ⟨true,rfl,rfl⟩⟩ (by simp) (by simp) (by simp);simp [bO] at hcl;refine ⟨.d (.slice true []),bs++[.cells [.d (u64 n)],.cells [.fn idf []]],lo,?_,.inl ⟨rfl,rfl,rfl,rfl,rfl⟩⟩;simp [af,woQ,Sl.d,hcl,h1]
 | false =>
  obtain ⟨ab,acap,arest,rfl,hab⟩:=ha.row rfl;cases hll:l with
  | nil =>
   subst hll;have h1:=jo (E:=E) (T:=T) (val:=val) cells (es:=[]) (z:=z) (idx:=idx) (zero:=zero) tidx vidx tdel vdel (v:=.row (bs.length+2) 0 0 (some 0) z) (f:=clos) (caps:=[.ptr (bs.length+1) 0,.ptr bs.length 0]) (q:=λ_=>false) (h:=⟨bs++[.cells [.d (u64 n)],.cells [.fn idf []],.cells []],min lo (bs.length+2)⟩) ⟨by simp,.inr ⟨bs.length+2,0,some 0,[],rfl,by unfold ah; rw [bm (by omega)]; simp,by simp⟩⟩ (by simp) (by simp) (by simp);simp [bO] at hcl;refine ⟨.row (bs.length+2) 0 0 (some 0) z,bs++[.cells [.d (u64 n)],.cells [.fn idf []],.cells []],min lo (bs.length+2),?_,.inr (.inl ⟨rfl,rfl,rfl,by simp,by simp,by simp⟩)⟩;simp [af,woQ,Sl.d,hcl,h1]
  | cons p l' =>
   have hne:l≠[]:=by rw [hll]; simp
   rw [← hll];have hc2:bO z false (l.map cells) (bs++[.cells [.d (u64 n)],.cells [.fn idf []]]) lo=(.row (bs.length+3) 0 l.length none z,⟨bs++[.cells [.d (u64 n)],.cells [.fn idf []],.cells [],.cells (flat (l.map cells))],lo⟩):=by
    rw [hll]; simp [bO]
   rw [hc2] at hcl;simp at hcl;have hbF:ah (bs++[.cells [.d (u64 n)],.cells [.fn idf []],.cells [],.cells (flat (l.map cells))]) (bs.length+3)=some (flat (l.map cells)):=by unfold ah; rw [bm (by omega)]; simp
   have hcall:∀ e∈l,∀ bs2 lo2,(∀ x,x≠bs.length+3->x<bs.length+4->bs2[x]?=(bs++[.cells [.d (u64 n)],.cells [.fn idf []],.cells [],.cells (flat (l.map cells))])[x]?)->Sm E T val clos (.agg (cells e)::[.ptr (bs.length+1) 0,.ptr bs.length 0]) ⟨bs2,lo2⟩=some (.d (.bool (key e==n)),⟨bs2,lo2⟩):=by
    intro e he bs2 lo2 ho;refine VZ tc vc (hz e) (hid e he) ?_ ?_
    . have:=ho (bs.length+1) (by omega) (by omega);simp only [ah];rw [this,bm (by omega)]; simp
    . have:=ho bs.length (by omega) (by omega);simp only [ah];rw [this,bm (by omega)]; simp
   by_cases hq:∃ e∈l,(key e==n)=true
   . obtain ⟨bs',lo',rest,k1,k2,k3,k4,k5,k6⟩:=wZ (E:=E) (T:=T) (val:=val) hz hz0 hzero tidx vidx tdel vdel (es:=l) (b:=bs.length+3) (cap:=none) (f:=clos) (caps:=[.ptr (bs.length+1) 0,.ptr bs.length 0]) (q:=λe=>key e==n) (h:=⟨bs++[.cells [.d (u64 n)],.cells [.fn idf []],.cells [],.cells (flat (l.map cells))],min lo (bs.length+2)⟩) hbF hlen (λe he bs2 lo2 _ ho=>hcall e he bs2 lo2 (by simpa using ho)) hq;refine ⟨.row (bs.length+3) 0 (l.filter λe=>!(key e==n)).length none z,bs',lo',?_,.inr (.inr ⟨rfl,hne,by simp,by simp at k2 ⊢; omega,?_,rest,by simpa using k4,k6⟩)⟩
     . simp [af,woQ,Sl.d,hcl,k1]
     . intro x hx;simp at hx;rw [k3 x (by omega) (by simp; omega)];have:∀ ys:List Blk,ys=bs++[.cells [.d (u64 n)],.cells [.fn idf []],.cells []]->(bs++[.cells [.d (u64 n)],.cells [.fn idf []],.cells [],.cells (flat (l.map cells))])[x]?=ys[x]?:=by
        rintro ys rfl;rw [show bs++[.cells [.d (u64 n)],.cells [.fn idf []],.cells [],.cells (flat (l.map cells))]=(bs++[.cells [.d (u64 n)],.cells [.fn idf []],.cells []])++[.cells (flat (l.map cells))] by simp,aq (by simp; omega)]
       exact this _ (by simp)
   . have hall:∀ e∈l,(key e==n)=false:=by
      intro e he;cases hh:(key e==n) with
      | false=>rfl
      | true=>exact absurd ⟨e,he,hh⟩ hq
     have hK:l.filter (λe=>!(key e==n))=l:=List.filter_eq_self.2 λe he=>by simp [hall e he]
     have h1:=jo (E:=E) (T:=T) (val:=val) cells (es:=l) (z:=z) (idx:=idx) (zero:=zero) tidx vidx tdel vdel (v:=.row (bs.length+3) 0 l.length none z) (f:=clos) (caps:=[.ptr (bs.length+1) 0,.ptr bs.length 0]) (q:=λe=>key e==n) (h:=⟨bs++[.cells [.d (u64 n)],.cells [.fn idf []],.cells [],.cells (flat (l.map cells))],min lo (bs.length+2)⟩)
      ⟨by simp; intro a _; exact hz a,.inr ⟨bs.length+3,0,none,_,by simp,hbF,by
       rw [eG,if_pos (by rw [dP hz]; simp),List.drop_zero,b9,← dP hz,List.take_length]; rfl⟩⟩ hlen (λe he lo2=>hcall e he _ lo2 λ_ _ _=>rfl) hall
     rw [hK];refine ⟨.row (bs.length+3) 0 l.length none z,bs++[.cells [.d (u64 n)],.cells [.fn idf []],.cells [],.cells (flat (l.map cells))],min lo (bs.length+2),?_,.inr (.inr ⟨rfl,hne,by simp,by simp,?_,[],by
      have e:(bs++[Blk.cells [V.d (u64 n)],.cells [.fn idf []]]).length+1=bs.length+3:=by simp
      rw [e,hbF]; simp,by simp⟩)⟩
     . simp [af,woQ,Sl.d,hcl,h1]
     . intro x hx;simp at hx;have:∀ ys:List Blk,ys=bs++[.cells [.d (u64 n)],.cells [.fn idf []],.cells []]->(bs++[.cells [.d (u64 n)],.cells [.fn idf []],.cells [],.cells (flat (l.map cells))])[x]?=ys[x]?:=by
        rintro ys rfl;rw [show bs++[.cells [.d (u64 n)],.cells [.fn idf []],.cells [],.cells (flat (l.map cells))]=(bs++[.cells [.d (u64 n)],.cells [.fn idf []],.cells []])++[.cells (flat (l.map cells))] by simp,aq (by simp; omega)]
       exact this _ (by simp)
theorem S_wo_ref {α:Type}{cells:α->List V}{z b cl clos del idx idf wo:Nat}{zero:List V}{key:α->Int}(tcl:T cl=some (cloneQ z b zero))(vcl:val cl=false)(tdel:T del=some (delQ z idx zero))(vdel:val del=false)(tidx:T idx=some (idxQ z))(vidx:val idx=false)
 (tc:T clos=some (woCQ z)) (vc:val clos=false) (two:T wo=some (woQ cl clos del)) (vwo:val wo=false) (hz:∀ x,(cells x).length=z) (hz0:0<z) (hzero:zero.length=z) (hb:b<=4096) {nl:Bool} {l:List α} (hs:l.length<=big/\(nl=true->l=[])) (hid:∀ e∈l,∀ h,Sm E T val idf [.agg (cells e)] h=some (.d (u64 (key e)),h)) (n:Int) (h:Hp) {a:V} (ha:ArgIs h.bs a z nl (l.map cells)) :
 ∃ r bs' lo',Sm E T val wo [a,.d (u64 n),.fn idf []] h=some (.tup [r,bl (decide ((l.filter λe=>!(key e==n)).length<l.length))],⟨bs',lo'⟩)/\h.bs.length<=bs'.length/\(∀ x,x<h.bs.length->bs'[x]?=h.bs[x]?) ∧
  ((nl=true/\(l.filter λe=>!(key e==n))=[]/\r=.d (.slice true []))\/(∃ B,(l.filter λe=>!(key e==n))=[]/\h.bs.length<=B/\r=.row B 0 0 (some 0) z/\ah bs' B=some []) ∨
   (∃ B rest q,h.bs.length<=B/\r=.row B 0 (l.filter λe=>!(key e==n)).length none z/\ah bs' B=some (flat ((l.filter λe=>!(key e==n)).map cells)++rest)/\rest.length=q * z/\0<(l.filter λe=>!(key e==n)).length+q)):=by
 obtain ⟨r,bs',lo',k1,k2⟩:=ai1 (E:=E) (T:=T) (val:=val) tcl vcl tdel vdel tidx vidx tc vc hz hz0 hzero hb hs hid n h.bs h.bs.length ha;have hfl:(l.filter λe=>!(key e==n)).length<=l.length:=List.length_filter_le _ _;generalize hK:l.filter (λe=>!(key e==n))=K at *;rw [aJ two vwo,k1,ed];obtain ⟨h1,h2,h3,h4,h5⟩ | ⟨h1,h2,h3,h4,h5,h6⟩ | ⟨h1,h2,h3,h4,h5,rest,h6,h7⟩:=k2
 . refine ⟨r,h.bs,h.low,?_,br _,λ_ _=>rfl,.inl ⟨h1,h2,h3⟩⟩;rw [if_pos ⟨by simp [h5],by subst h3; rfl⟩]
 . refine ⟨r,bs',min h.low lo',?_,by rw [h5]; simp,λx hx=>?_,.inr (.inl ⟨_,h3,?_,h4,?_⟩)⟩
   . rw [if_neg (λhh=>by have hu:=hh.2; subst h4; exact zR (by simp) hu)]
   . rw [h5,List.append_assoc,aq hx]
   . simp
   . rw [h5]; simp [ah]
 . refine ⟨r,bs',min h.low lo',?_,by simp at h4; omega,λx hx=>?_,.inr (.inr ⟨_,rest,l.length-K.length,?_,h3,h6,h7,?_⟩)⟩
   . rw [if_neg (λhh=>by have hu:=hh.2; subst h3; exact zR (by simp; omega) hu)]
   . rw [h5 x (by simp; omega),List.append_assoc,aq hx]
   . simp; omega
   . have:=List.length_pos_iff.2 h2;omega
end
end Vr
namespace Vr
section
variable {E:Calls'}{T:FuncId->Option QF}{val:FuncId->Bool}
theorem ArgIs.ok {bs:List Blk}{a:V}{z:Nat}{nl:Bool}{es:List (List V)}(h:ArgIs bs a z nl es):okV a=true/\nu a=some a:=by
 cases nl with
 | true=>rw [h.nil rfl]; exact ⟨rfl,rfl⟩
 | false=>obtain ⟨b,cap,_,h1,_⟩:=h.row rfl; rw [h1]; exact ⟨rfl,rfl⟩
theorem S_wiR {α:Type}{cells:α->List V}{z b cl clos del idx idf wo wi g srt p:Nat}{zero:List V}{key:α->Int}(tcl:T cl=some (cloneQ z b zero))(vcl:val cl=false)(tdel:T del=some (delQ z idx zero))(vdel:val del=false)(tidx:T idx=some (idxQ z))(vidx:val idx=false)
 (tc:T clos=some (woCQ z)) (vc:val clos=false) (two:T wo=some (woQ cl clos del)) (vwo:val wo=false) (twi:T wi=some (wiQ z b wo g srt zero)) (vwi:val wi=false) (tsrt:T srt=none) (hE:∀ args h,E srt args h=Bf ⟨z,p,g,idf⟩ args h)
 (hz:∀ x,(cells x).length=z) (hz0:0<z) (hzero:zero.length=z) (hb:b<=4096) (hkey:∀ x,(cells x)[p]?=some (.d (.int .u64 (key x)))) {nl:Bool} {l:List α} (hs:l.length<=big/\(nl=true->l=[])) (hl:l.length<big) (hnd:(l.map key).Nodup) {x:α}
 (hid:∀ e,e∈l\/e=x->∀ h,Sm E T val idf [.agg (cells e)] h=some (.d (u64 (key e)),h)) (base:List Blk) (lo:Nat) {a:V} (ha:ArgIs base a z nl (l.map cells)) :
 ∃ B cap bs' lo' rest,Sm E T val wi [a,.agg (cells x),.fn idf []] ⟨base,lo⟩=some (.row B 0 (Ht key x l).length cap z,⟨bs',lo'⟩)/\base.length<=B/\ah bs' B=some (flat ((Ht key x l).map cells)++rest)/\∀ y,y<base.length->bs'[y]?=base[y]?:=by
 have hix:=hid x (.inr rfl);obtain ⟨oka,nua⟩:=ha.ok;obtain ⟨r,bs1,lo1,k1,k2,k3,k4⟩:=S_wo_ref (E:=E) (T:=T) (val:=val) tcl vcl tdel vdel tidx vidx tc vc two vwo hz hz0 hzero hb hs (λe he=>hid e (.inl he)) (key x) ⟨base++[.cells (cells x),.cells [.fn idf []]],base.length+2⟩ (ha.lay _);simp only [aw,cg,ch] at k2 k3 k4;have hfl:(l.filter λe=>!(key e==key x)).length<=l.length:=List.length_filter_le _ _;have hndK:((l.filter λe=>!(key e==key x)).map key).Nodup:=List.Pairwise.sublist (List.Sublist.map key List.filter_sublist) hnd;have hxK:∀ e∈l.filter (λe=>!(key e==key x)),key e≠key x:=λe he=>by simpa using (List.mem_filter.1 he).2
 have hput:Ht key x l=((l.filter λe=>!(key e==key x))++[x]).mergeSort λa b=>decide (key a<=key b):=rfl;generalize l.filter (λe=>!(key e==key x))=K at *;generalize Ht key x l=PL at *;have hw:∀ e∈K.map cells,e.length=z:=by simp; intro a _; exact hz a
 have hndL:((K++[x]).map key).Nodup:=by
  rw [List.map_append,List.nodup_append];refine ⟨hndK,by simp,?_⟩;intro a ha b hb hab;obtain ⟨e,he,rfl⟩:=cb.1 ha;simp at hb;exact hxK e he (hab.trans hb)
 have hsrc:ah (bs1++[.cells (cells x)]) bs1.length=some (cells x):=by rw [dU]; rfl
 obtain ⟨B,cap,bs2,rest2,f,a1,a2,a3,a4⟩:=IY (bs:=bs1++[.cells (cells x)]) (by_:=b) (K:=K.map cells) (v:=r) (x:=cells x) hw (hz x) hz0 hb (by simp; omega) hsrc (c:=some 1) (m:=base.length+2) (by
  obtain ⟨q1,q2,q3⟩ | ⟨B,q1,q2,q3,q4⟩ | ⟨B,rest,q,q1,q2,q3,q4,q5⟩:=k4
  . exact .inl ⟨by rw [q2]; rfl,q3⟩
  . exact .inr (.inl ⟨B,by rw [q1]; rfl,by simpa using q2,q3,av q4⟩)
  . exact .inr (.inr ⟨B,rest,q,by simpa using q1,by simpa using q2,av q3,q4,by simpa using q5⟩)) (by simp; omega)
 have hold:∀ y,y<base.length+2->bs2[y]?=(base++[Blk.cells (cells x),.cells [.fn idf []]])[y]?:=λy hy=>by
  rw [a4 y hy,aq (by omega),k3 y (by omega)]
 have hc:ah bs2 (base.length+1)=some [.fn idf []]:=by
  unfold ah; rw [hold _ (by omega)]; simp
 have hs':=λlo2=>Ih (g:=g) (idf:=idf) hz hkey (L:=K++[x]) hndL (by simp) (by simp; simp only [big] at hl; omega) (h:=⟨bs2,lo2⟩) (b:=B) (c:=base.length+1) (cap:=cap) (rest:=rest2) (by simpa using a3) hc (by omega);rw [← hput] at hs';have hsm:∀ lo2,Sm E T val srt [.row B 0 (K.length+1) cap z,.fn g [.ptr (base.length+1) 0]] ⟨bs2,lo2⟩=some (.tup [],⟨bs2.set B (.cells (flat (PL.map cells)++rest2)),min lo2 B⟩):=by
  intro lo2;rw [bB tsrt,hE];simpa using hs' lo2
 have hbl:=aK a3;have hpl:PL.length=K.length+1:=by rw [hput]; simp
 have hf1:∀ {ev:X->V} {t:X},ev t=.agg (cells x)->aL ev zero [(0,z,t)]=some (cells x):=λhe=>Gy hzero (by simp [hz x]) he;have hsub:sub (cells x) 0 z=some (cells x):=bN (hz x);have hb10:ah bs1 base.length=some (cells x):=by
  unfold ah; rw [k3 _ (by omega)]; simp
 simp only [b9] at a1;have hnu:nu r=some r:=by
  obtain ⟨q1,q2,q3⟩ | ⟨B,q1,q2,q3,q4⟩ | ⟨B,rest,q,q1,q2,q3,q4,q5⟩:=k4<;>rw [‹r=_›]<;>rfl
 have hap:∀ (pr:List (List Nat)) (L N:Nat) (bl:Bl) (bg:Bool),pr=[[],[],[],[1,2],[],[0,4,3,1,2],[5,0,4,3,1,2],[6,5,0,4,3,1,2],[6,5,0,4,3,1,2],[7,6,5,0,4,3,1,2],[8,9,7,6,5,0,4,3,1,2]] →
  bz pr [⟨false,false,[],[],L,L,0⟩,⟨false,false,[base.length+1],[],L,L,0⟩,⟨false,false,[base.length],[],L,L,0⟩,⟨true,false,[],[],L,L,0⟩,⟨false,false,[base.length+1],[],L,L,0⟩,⟨true,bg,[],[],L,N,bl⟩,
   ⟨false,false,[],[],N,N,0⟩,⟨false,false,[],[],N,N,0⟩,⟨false,false,[],[],N,N,0⟩,⟨false,false,[],[],N,N,0⟩,⟨false,false,[],[],N,N,0⟩]=true:=by
  rintro pr L N bl bg rfl;exact DK 5 (by rfl) (by simp [Tr.mute])
 have hB:(Bd E T val (wiQ z b wo g srt zero) [a,.agg (cells x),.fn idf []] ⟨base,base.length⟩).map (λo=>(o.1,o.2.bs))=some (.row B 0 (K.length+1) cap z,bs2.set B (.cells (flat (PL.map cells)++rest2))):=by
  by_cases c1:base.length+2<=lo1
  . by_cases c2:bs1.length=base.length+2
    . have hbb:bs1=base++[.cells (cells x),.cells [.fn idf []]]:=by
       refine List.ext_getElem? λi=>?_;obtain hi | hi:=cm i (base.length+2)
       . exact k3 i (by omega)
       . rw [bd (by omega),bd (by simpa using hi)]
      rw [hbb] at a1 hb10;simp at a1 hb10;simp +decide [wiQ,af,ai,aa,az,hix,k1,c1,c2,oka,nua,hsub,hb10,hf1,a1,hsm,hnu,hap]
    . simp +decide [wiQ,af,ai,aa,az,hix,k1,c1,c2,oka,nua,hsub,hb10,hf1,a1,hsm,hnu,hap]
  . simp +decide [wiQ,af,ai,aa,az,hix,k1,c1,oka,nua,hsub,hb10,hf1,a1,hsm,hnu,hap]
 cases hbd:Bd E T val (wiQ z b wo g srt zero) [a,.agg (cells x),.fn idf []] ⟨base,base.length⟩ with
 | none=>rw [hbd] at hB; cases hB
 | some o =>
  obtain ⟨v,bs3,lo3⟩:=o;rw [hbd] at hB;simp at hB;obtain ⟨rfl,rfl⟩:=hB;refine ⟨B,cap,bs2.set B (.cells (flat (PL.map cells)++rest2)),min lo lo3,rest2,?_,by omega,?_,λy hy=>?_⟩
  . rw [aJ twi vwi];show eU ⟨base,lo⟩ (Bd E T val (wiQ z b wo g srt zero) [a,.agg (cells x),.fn idf []] ⟨base,base.length⟩)=_;rw [hbd,ed,if_neg (λhh=>by have:=hh.2; simp [V.under] at this; omega),hpl]
  . simp [ah,hbl]
  . rw [am (by omega),hold y (by omega),aq hy]
end
end Vr
section
variable {E:Calls'}{T:FuncId->Option QF}{val:FuncId->Bool}
theorem Vr.S_any {α:Type}(cells:α->List V){z:Nat}{idx id:FuncId}(hti:T idx=some (idxQ z))(hvi:val idx=false)(ht:T id=some (anyQ idx))(hv:val id=false){v:V}{es:List α}{f:FuncId}{caps:List V}{q:α->Bool}{h:Hp}(hr:Vr.RowIs h.bs v z (es.map cells))(hlen:es.length<2 ^ 62)
 (hf:∀ e∈es,∀ lo,Sm E T val f (.agg (cells e)::caps) ⟨h.bs,lo⟩=some (.d (.bool (q e)),⟨h.bs,lo⟩)):Sm E T val id [v,.fn f caps] h=some (bl (es.any q),h):=by
 have hokv:okV v=true:=by obtain ⟨nl,rfl,_⟩ | ⟨b,o,cap,cs,rfl,_⟩:=hr.2<;>rfl
 rw [DC ht hv hr.ok hokv (Vr.S_idx (h:=⟨h.bs,h.bs.length⟩) cells hti hvi hr hlen hf),kL]
theorem D5 {h:Hp}{k:Nat}{c:V}{d:D}(hd:dataV h k c=some d)(hn:∀ nl es,d≠.slice nl es):c=.d d:=by
 cases c with
 | d x=>rw [Fy] at hd; cases hd; rfl
 | row b o n cap z =>
  cases k with
  | zero=>simp [dataV] at hd
  | succ k =>
   obtain ⟨l,rfl⟩:=jZ hd;exact absurd rfl (hn _ _)
 | _=>cases k<;>simp [dataV] at hd
theorem Eb {h:Hp}{r:V}{b:Bool}(hr:cO h r=some (bl b)):r=bl b:=by
 cases r with
 | d x=>simpa using hr
 | row b' o n cap z =>
  exfalso;simp only [cO] at hr;cases hd:dataV h 8 (.row b' o n cap z) with
  | none=>rw [hd] at hr; cases hr
  | some d =>
   rw [hd] at hr;obtain ⟨l,rfl⟩:=jZ hd;cases hr
 | ptr b' o=>simp [cO,dataV] at hr
 | eptr cs o=>simp [cO,dataV] at hr
 | undef=>simp [cO] at hr
 | fn f cs=>cases cs<;>simp [cO] at hr
 | mfn f cs=>simp [cO,dataV] at hr
 | agg cs =>
  simp only [cO] at hr;split at hr<;>cases hr
 | tup vs=>simp [cO,dataV] at hr
theorem vC {h:Hp}:∀ {cs:List V} {p:List D},fA h cs=some p->(∀ d∈p,∀ nl es,d≠.slice nl es)->cs=p.map .d
 | [],p,hc,_=>by simp at hc; subst hc; rfl
 | c::cs,p,hc,hp=>by
  simp only [fA,List.mapM_cons] at hc;cases h1:dataV h 8 c with
  | none=>rw [h1] at hc; cases hc
  | some d =>
   rw [h1] at hc;cases h2:cs.mapM (dataV h 8) with
   | none=>rw [h2] at hc; cases hc
   | some ds =>
    rw [h2] at hc;simp at hc;subst hc;rw [D5 h1 (hp d (by simp)),vC (p:=ds) h2 λd hd=>hp d (by simp [hd])];rfl
theorem GH {h:Hp}{r:V}{p:List D}(hp:∀ d∈p,∀ nl es,d≠.slice nl es)(hr:cO h r=some (ag p)):r=ag p:=by
 cases r with
 | d x=>simp at hr; cases hr
 | row b' o n cap z =>
  exfalso;simp only [cO] at hr;cases hd:dataV h 8 (.row b' o n cap z) with
  | none=>rw [hd] at hr; cases hr
  | some d=>rw [hd] at hr; cases hr
 | ptr b' o=>simp [cO,dataV] at hr
 | eptr cs o=>simp [cO,dataV] at hr
 | undef=>simp [cO] at hr; cases hr
 | fn f cs=>cases cs with
  | nil=>simp [cO] at hr; cases hr
  | cons _ _=>simp [cO] at hr
 | mfn f cs=>simp [cO,dataV] at hr
 | agg cs =>
  rw [JA] at hr;cases hc:fA h cs with
  | none=>rw [hc] at hr; cases hr
  | some l =>
   rw [hc] at hr;have:l=p:=by
    have h2:ag l=ag p:=by simpa using hr
    have h3:l.map V.d=p.map V.d:=by
     have:=congrArg (λv=>match v with | V.agg cs=>cs | _=>[]) h2;exact this
    exact (List.map_inj_right (λa b h=>by cases h; rfl)).1 h3
   subst this;rw [vC hc hp];rfl
 | tup vs=>simp [cO,dataV] at hr
theorem He {h:Hp}{p:List D}{b:Bool}(hp:∀ d∈p,∀ nl es,d≠.slice nl es):ownR h (.tup [ag p,bl b])=true:=by
 have h1:∀ d∈p,mZ h 8 (.d d)=true:=λd hd=>by
  cases d with
  | slice nl es=>exact absurd rfl (hp _ hd nl es)
  | _=>rfl
 simp only [ownR,List.all_cons,List.all_nil,Bool.and_true,aE];refine ⟨?_,rfl⟩;show (p.map V.d).all (mZ h 8)=true;rw [cj];intro v hv;obtain ⟨d,hd,rfl⟩:=cb.1 hv;exact h1 d hd
theorem Dr {f:FuncId}{q:QF}(ht:T f=some q)(hv:val f=true){l p:List D}{x:D}{b:Bool}(hp:∀ d∈p,∀ nl es,d≠.slice nl es)(h0:∀ h,Sm E T val f [ag l,.d x] h=some (.tup [ag p,bl b],h)){a:V}{h:Hp}(ha:frz h a=some (ag l)):Sm E T val f [a,.d x] h=some (.tup [ag p,bl b],h):=by
 have h1:=h0 h;rw [aU ht hv] at h1 ⊢;simp only [List.mapM_cons,List.mapM_nil,Al,Ec,ha,Option.pure_def,Option.bind_eq_bind,Option.bind_some,rG,E8] at h1 ⊢;cases hB:Bd E T val q [ag l,.d x] ⟨[],0⟩ with
 | none=>rw [hB] at h1; cases h1
 | some o =>
  obtain ⟨r,h'⟩:=o;rw [hB] at h1;simp only [Iw] at h1 ⊢;cases hr:frz h' r with
  | none=>rw [hr] at h1; cases h1
  | some r' =>
   rw [hr] at h1;have e1:r'=.tup [ag p,bl b]:=by
    simp at h1; exact h1
   subst e1;have hrr:r=.tup [ag p,bl b]:=by
    cases r with
    | tup vs =>
     rw [Ms] at hr;cases hm:vs.mapM (cO h') with
     | none=>rw [hm] at hr; cases hr
     | some ws =>
      rw [hm] at hr;have hw:ws=[ag p,bl b]:=by simpa using hr
      subst hw
      match vs,hm with
      | [],hm=>simp at hm
      | [v1],hm =>
       simp only [List.mapM_cons,List.mapM_nil,Option.pure_def,Option.bind_eq_bind] at hm;cases q1:cO h' v1<;>rw [q1] at hm<;>simp at hm
      | v1::v2::v3::t,hm =>
       simp only [List.mapM_cons,Option.pure_def,Option.bind_eq_bind] at hm;cases q1:cO h' v1<;>cases q2:cO h' v2<;>cases q3:cO h' v3<;>cases q4:t.mapM (cO h')<;>rw [q1] at hm<;>simp [q2,q3,q4] at hm
      | [v1,v2],hm =>
       simp only [List.mapM_cons,List.mapM_nil,Option.pure_def,Option.bind_eq_bind] at hm;cases q1:cO h' v1 with
       | none=>rw [q1] at hm; simp at hm
       | some w1 =>
        cases q2:cO h' v2 with
        | none=>rw [q1,q2] at hm; simp at hm
        | some w2 =>
         rw [q1,q2] at hm;simp at hm;obtain ⟨rfl,rfl⟩:=hm;rw [GH hp q1,Eb q2]
    | d y=>simp at hr
    | row b' o n cap z =>
     exfalso;simp only [frz,cO] at hr;cases hd:dataV h' 8 (.row b' o n cap z) with
     | none=>rw [hd] at hr; cases hr
     | some d=>rw [hd] at hr; cases hr
    | ptr b' o=>simp [frz,cO,dataV] at hr
    | eptr cs o=>simp [frz,cO,dataV] at hr
    | undef=>simp [frz,cO] at hr
    | fn f cs=>cases cs<;>simp [frz,cO] at hr
    | mfn f cs=>simp [frz,cO,dataV] at hr
    | agg cs =>
     exfalso;simp only [frz,cO] at hr;split at hr<;>cases hr
   subst hrr;simp [He hp]
end
section
variable {E:Calls'}{T:FuncId->Option QF}{val:FuncId->Bool}
end
set_option maxHeartbeats 4000000
section
variable {E:Calls'}{T:FuncId->Option QF}{val:FuncId->Bool}
end
set_option maxHeartbeats 4000000
section
variable {E:Calls'}{T:FuncId->Option QF}{val:FuncId->Bool}
end
set_option maxHeartbeats 4000000
section
variable {E:Calls'}{T:FuncId->Option QF}{val:FuncId->Bool}
end
section
variable {E:Calls'}{T:FuncId->Option QF}{val:FuncId->Bool}
end
section
variable {E:Calls'}{T:FuncId->Option QF}{val:FuncId->Bool}
end
section
variable {E:Calls'}{T:FuncId->Option QF}{val:FuncId->Bool}
end
section
def RowG (K:Nat->Prop)(bs:List Blk)(z:Nat)(es:List (List V))(v:V):Prop:=(es=[]/\v=.d (.slice true []))\/∃ b cap rest,K b/\v=.row b 0 es.length cap z/\ah bs b=some (Vr.flat es++rest)
section
variable {K:Nat->Prop}{bs:List Blk}{z:Nat}{es:List (List V)}{v:V}
theorem RowG.on {K':Nat->Prop}{bs':List Blk}(h:RowG K bs z es v)(ho:∀ x,K x->K' x/\bs'[x]?=bs[x]?):RowG K' bs' z es v:=by
 obtain h | ⟨b,cap,rest,h1,h2,h3⟩:=h
 . exact .inl h
 . exact .inr ⟨b,cap,rest,(ho b h1).1,h2,dW (ho b h1).2 h3⟩
theorem RowG.arg (h:RowG K bs z es v):∃ nl,(nl=true->es=[])/\Vr.ArgIs bs v z nl es:=by
 obtain ⟨h1,rfl⟩ | ⟨b,cap,rest,h1,h2,h3⟩:=h
 . exact ⟨true,λ_=>h1,⟨λ_=>rfl,(λh=>nomatch h)⟩⟩
 . exact ⟨false,(λh=>nomatch h),⟨(λh=>nomatch h),λ_=>⟨b,cap,rest,h2,h3⟩⟩⟩
theorem RowG.okv (h:RowG K bs z es v):okV v=true/\nu v=some v/\v.cells=some [v]:=by
 obtain ⟨h1,rfl⟩ | ⟨b,cap,rest,h1,rfl,h3⟩:=h<;>exact ⟨rfl,rfl,rfl⟩
theorem RowG.ok2 (h:RowG K bs z es v):okV v=true/\nu v=some v:=⟨h.okv.1,h.okv.2.1⟩
theorem RowG.rowIs (h:RowG K bs z es v)(hz:∀ e∈es,e.length=z):Vr.RowIs bs v z es:=by
 refine ⟨hz,?_⟩;obtain ⟨h1,rfl⟩ | ⟨b,cap,rest,h1,rfl,h3⟩:=h
 . exact .inl ⟨true,rfl,h1⟩
 . exact .inr ⟨b,0,cap,_,rfl,h3,by
    have:=Vr.flat_len hz;rw [eG,if_pos (by rw [aw,this]; omega),List.drop_zero,← this,List.take_left]; rfl⟩
end
def Ps (bs bs':List Blk):Nat->Prop:=λx=>bs.length<=x/\x<bs'.length
section
variable {E:Calls'}{T:FuncId->Option QF}{val:FuncId->Bool}
theorem RowG.wo {α:Type}{cells:α->List V}{z b cl clos del idx idf wo:Nat}{zero:List V}{key:α->Int}(tcl:T cl=some (cloneQ z b zero))(vcl:val cl=false)(tdel:T del=some (delQ z idx zero))(vdel:val del=false)(tidx:T idx=some (idxQ z))(vidx:val idx=false)
 (tc:T clos=some (woCQ z)) (vc:val clos=false) (two:T wo=some (woQ cl clos del)) (vwo:val wo=false) (hz:∀ x,(cells x).length=z) (hz0:0<z) (hzero:zero.length=z) (hb:b<=4096) {l:List α} (hl:l.length<=big) (hid:∀ e∈l,∀ h,Sm E T val idf [.agg (cells e)] h=some (.d (u64 (key e)),h)) (n:Int) {K:Nat->Prop} {bs:List Blk} {v:V} (hr:RowG K bs z (l.map cells) v) (lo:Nat) :
 ∃ r bs' lo',Sm E T val wo [v,.d (u64 n),.fn idf []] ⟨bs,lo⟩=some (.tup [r,bl (decide ((l.filter λe=>!(key e==n)).length<l.length))],⟨bs',lo'⟩)/\bs.length<=bs'.length/\(∀ x,x<bs.length->bs'[x]?=bs[x]?)/\RowG (Ps bs bs') bs' z ((l.filter λe=>!(key e==n)).map cells) r:=by
 obtain ⟨nl,h1,h2⟩:=hr.arg;obtain ⟨r,bs',lo',k1,k2,k3,k4⟩:=Vr.S_wo_ref (E:=E) (T:=T) (val:=val) tcl vcl tdel vdel tidx vidx tc vc two vwo hz hz0 hzero hb (nl:=nl) (l:=l) ⟨hl,λh=>by simpa using h1 h⟩ hid n ⟨bs,lo⟩ h2;refine ⟨r,bs',lo',k1,k2,k3,?_⟩;obtain ⟨_,q2,q3⟩ | ⟨B,q1,q2,q3,q4⟩ | ⟨B,rest,q,q2,q3,q4,_⟩:=k4
 . exact .inl ⟨by rw [q2]; rfl,q3⟩
 . exact .inr ⟨B,some 0,[],⟨q2,aK q4⟩,by rw [q1]; exact q3,by rw [q1]; exact q4⟩
 . exact .inr ⟨B,none,rest,⟨q2,aK q4⟩,by rw [b9]; exact q3,q4⟩
theorem RowG.wi {α:Type}{cells:α->List V}{z b cl clos del idx idf wo wi g srt p:Nat}{zero:List V}{key:α->Int}(tcl:T cl=some (cloneQ z b zero))(vcl:val cl=false)(tdel:T del=some (delQ z idx zero))(vdel:val del=false)(tidx:T idx=some (idxQ z))(vidx:val idx=false)
 (tc:T clos=some (woCQ z)) (vc:val clos=false) (two:T wo=some (woQ cl clos del)) (vwo:val wo=false) (twi:T wi=some (wiQ z b wo g srt zero)) (vwi:val wi=false) (tsrt:T srt=none) (hE:∀ args h,E srt args h=Bf ⟨z,p,g,idf⟩ args h)
 (hz:∀ x,(cells x).length=z) (hz0:0<z) (hzero:zero.length=z) (hb:b<=4096) (hkey:∀ x,(cells x)[p]?=some (.d (.int .u64 (key x)))) {l:List α} (hl:l.length<big) (hnd:(l.map key).Nodup) {x:α}
 (hid:∀ e,e∈l\/e=x->∀ h,Sm E T val idf [.agg (cells e)] h=some (.d (u64 (key e)),h)) {K:Nat->Prop} {bs:List Blk} {v:V} (hr:RowG K bs z (l.map cells) v) (lo:Nat) :
 ∃ B cap bs' lo' rest,Sm E T val wi [v,.agg (cells x),.fn idf []] ⟨bs,lo⟩=some (.row B 0 (Ht key x l).length cap z,⟨bs',lo'⟩)/\bs.length<=B/\ah bs' B=some (Vr.flat ((Ht key x l).map cells)++rest)/\∀ y,y<bs.length->bs'[y]?=bs[y]?:=by
 obtain ⟨nl,h1,h2⟩:=hr.arg;exact Vr.S_wiR (E:=E) (T:=T) (val:=val) tcl vcl tdel vdel tidx vidx tc vc two vwo twi vwi tsrt hE hz hz0 hzero hb hkey (nl:=nl) ⟨Nat.le_of_lt hl,λh=>by simpa using h1 h⟩ hl hnd hid bs lo h2
end
section
variable {E:Calls'}
def um (p:Pod):List V:=p.c.map .d
def qx (p:Svc):List V:=p.c.map .d
def BK (p:Way):List V:=p.c.map .d
def iJ (x:Pol×V):List V:=pq x.1 x.2
variable {K:Nat->Prop}{bs:List Blk}{v:V}
end
end
section
def nZ:V->Bool
 | .d _=>true
 | _=>false
def ky (x:Pol×V):Pol:={ x.1 with rules:=⟨nZ x.2,x.1.rules.l.map Rule.own⟩ }
def vS (d:Cfg)(pl:List (Pol×V))(v4 v5 v6 v7:V):Cfg:={ d with pods:=⟨nZ v4,d.pods.l⟩,services:=⟨nZ v5,d.services.l⟩,bound:=⟨nZ v6,d.bound.l⟩,policies:=⟨nZ v7,pl.map ky⟩ }
structure OwnS (L0:Nat) (tag:Nat->Nat) (bs:List Blk) (d:Cfg) (pl:List (Pol×V)) (v4 v5 v6 v7:V):Prop where
 r4:RowG (Tg L0 bs.length tag 4) bs 7 (d.pods.l.map um) v4
 r5:RowG (Tg L0 bs.length tag 5) bs 5 (d.services.l.map qx) v5
 r6:RowG (Tg L0 bs.length tag 6) bs 2 (d.bound.l.map BK) v6
 r7:RowG (Tg L0 bs.length tag 7) bs 5 (pl.map iJ) v7
 r8:∀ x∈pl,RowG (Tg L0 bs.length tag 8) bs 3 (x.1.rules.l.map λr=>r.own.c.map V.d) x.2
 pol:d.policies.l=pl.map λx=>x.1.own
theorem RowG.step {L:Nat}{tag tag':Nat->Nat}{bs bs':List Blk}{i z:Nat}{es:List (List V)}{v:V}(h:RowG (Tg L bs.length tag i) bs z es v)(hi:i≠0)(hl:bs.length<=bs'.length)(ho:∀ x,L<=x->x<bs.length->tag x≠0->bs'[x]?=bs[x]?)(ht:∀ x,x<bs.length->tag' x=tag x):RowG (Tg L bs'.length tag' i) bs' z es v :=
 h.on λx hx=>⟨⟨hx.1,cd hx.2.1 hl,(ht x hx.2.1).trans hx.2.2⟩,ho x hx.1 hx.2.1 (by rw [hx.2.2]; exact hi)⟩
theorem OwnS.next {L0:Nat}{tag tag':Nat->Nat}{bs bs':List Blk}{d:Cfg}{pl:List (Pol×V)}{v4 v5 v6 v7:V}(S:OwnS L0 tag bs d pl v4 v5 v6 v7)(hl:bs.length<=bs'.length)(ho:∀ x,L0<=x->x<bs.length->tag x≠0->bs'[x]?=bs[x]?)(ht:∀ x,x<bs.length->tag' x=tag x):OwnS L0 tag' bs' d pl v4 v5 v6 v7 :=
 ⟨S.r4.step (by decide) hl ho ht,S.r5.step (by decide) hl ho ht,S.r6.step (by decide) hl ho ht,S.r7.step (by decide) hl ho ht,λx hx=>(S.r8 x hx).step (by decide) hl ho ht,S.pol⟩
theorem Hng.rowR {K:Nat->Prop}{bs:List Blk}{k b n z:Nat}{cap:Option Nat}{cs rest:List V}{es:List (List D)}(hKb:K b)(hb:ah bs b=some (cs++rest))(hcs:Hngs false K bs k cs es.flatten)(hz:∀ e∈es,e.length=z)(hn:n=es.length) :
 Hng false K bs (.row b 0 n cap z) (.slice false es) (k+1):=by
 intro bs' lo h j hj;cases j with
 | zero=>omega
 | succ j =>
  have hg:Hp.get ⟨bs',lo⟩ b=some (cs++rest):=by
   rw [get_eq]; exact dW (h b hKb) hb
  obtain ⟨m1,m2⟩:=Hngs.mapM (lo:=lo) h (show k<=j by omega) hcs;have hlen:cs.length=n * z:=by
   rw [hcs.len,hn,List.length_flatten];have:es.map List.length=List.replicate es.length z:=by
    rw [List.eq_replicate_iff];exact ⟨by simp,λx hx=>by obtain ⟨e,he,rfl⟩:=cb.1 hx; exact hz e he⟩
   rw [this]; simp
  have hs:sub (cs++rest) 0 (n * z)=some cs:=by
   rw [eG,if_pos (by rw [aw,hlen]; omega),List.drop_zero,← hlen,List.take_left]
  refine ⟨?_,λhw=>by cases hw⟩;simp only [dataV,hg,hs,m1];rw [hn,mP es hz]
theorem RowG.nil {K:Nat->Prop}{bs:List Blk}{z:Nat}{es:List (List V)}{v:V}(h:RowG K bs z es v)(hv:nZ v=true):es=[]:=by
 obtain ⟨h1,rfl⟩ | ⟨b,cap,rest,h1,rfl,h3⟩:=h
 . exact h1
 . cases hv
theorem RowG.nilT {K:Nat->Prop}{bs:List Blk}{z:Nat}{α:Type}{f:α->List V}{l:List α}{v:V}(h:RowG K bs z (l.map f) v)(hv:nZ v=true):l=[]:=by simpa using h.nil hv
theorem RowG.hng {K:Nat->Prop}{bs:List Blk}{z:Nat}{es:List (List V)}{v:V}(h:RowG K bs z es v){ds:List (List D)}{k:Nat}(hcs:Hngs false K bs k es.flatten ds.flatten)(hz:∀ e∈ds,e.length=z)(hl:ds.length=es.length):Hng false K bs v (.slice (nZ v) ds) (k+1):=by
 obtain ⟨h1,rfl⟩ | ⟨b,cap,rest,h1,rfl,h3⟩:=h
 . have:ds=[]:=List.length_eq_zero_iff.1 (by rw [hl,h1]; rfl);subst this;exact Hng.data
 . exact Hng.rowR h1 h3 hcs hz hl.symm
theorem Q5 {α:Type}(f:α->List D)(l:List α):(l.map λx=>(f x).map V.d).flatten=(l.map f).flatten.map V.d:=by
 simp [List.map_flatten,ck]
theorem RowG.hngD {K:Nat->Prop}{bs:List Blk}{z:Nat}{α:Type}{f:α->List D}{l:List α}{v:V}(h:RowG K bs z (l.map λx=>(f x).map V.d) v)(hz:∀ x,(f x).length=z):Hng false K bs v (.slice (nZ v) (l.map f)) 1 :=
 h.hng (k:=0) (by rw [Q5]; exact Hngs.data) (λe he=>by obtain ⟨x,_,rfl⟩:=cb.1 he; exact hz x) (by simp)
def TgA (L M:Nat)(tag:Nat->Nat):Nat->Prop:=λx=>L<=x/\x<M/\tag x≠0
theorem RowG.all {L:Nat}{tag:Nat->Nat}{bs:List Blk}{i z:Nat}{es:List (List V)}{v:V}(h:RowG (Tg L bs.length tag i) bs z es v)(hi:i≠0):RowG (TgA L bs.length tag) bs z es v :=
 h.on λx hx=>⟨⟨hx.1,hx.2.1,by rw [hx.2.2]; exact hi⟩,rfl⟩
section
variable {L0:Nat}{tag:Nat->Nat}{bs:List Blk}{d:Cfg}{pl:List (Pol×V)}{v4 v5 v6 v7:V}(S:OwnS L0 tag bs d pl v4 v5 v6 v7)
include S
theorem OwnS.hpol:∀ l:List (Pol×V),(∀ x∈l,x∈pl)->Hngs false (TgA L0 bs.length tag) bs 1 (l.map iJ).flatten (l.map λx=>(ky x).c).flatten
 | [],_=>trivial
 | x::l,h=>by
  have ih:=OwnS.hpol l λy hy=>h y (List.mem_cons_of_mem _ hy);have hr:=((S.r8 x (h x (by simp))).all (by decide)).hngD (f:=λr:Rule=>r.own.c) (λ_=>rfl);have he:(ky x).c=[u64 x.1.id,.str x.1.ns,u64 x.1.service,i64 x.1.deny,.slice (nZ x.2) (x.1.rules.l.map λr=>r.own.c)]:=by
   simp [ky,Pol.c,Sl.d,ck]
  rw [cn,cn,List.flatten_cons,List.flatten_cons,he];exact Hngs.app ⟨Hng.data,Hng.data,Hng.data,Hng.data,hr,trivial⟩ ih
theorem OwnS.fz (bs2:List Blk)(lo2:Nat)(h:∀ x,L0<=x->x<bs.length->tag x≠0->bs2[x]?=bs[x]?):fA ⟨bs2,lo2⟩ (cq d v4 v5 v6 v7)=some (vS d pl v4 v5 v6 v7).c:=by
 have hK:∀ x,TgA L0 bs.length tag x->bs2[x]?=bs[x]?:=λx hx=>h x hx.1 hx.2.1 hx.2.2;have h4:=(((S.r4.all (by decide)).hngD (f:=Pod.c) (λ_=>rfl)) bs2 lo2 hK 8 (by decide)).1;have h5:=(((S.r5.all (by decide)).hngD (f:=Svc.c) (λ_=>rfl)) bs2 lo2 hK 8 (by decide)).1;have h6:=(((S.r6.all (by decide)).hngD (f:=Way.c) (λ_=>rfl)) bs2 lo2 hK 8 (by decide)).1;have h7:=(((S.r7.all (by decide)).hng (k:=1) (S.hpol pl λ_ h=>h) (λe he=>by obtain ⟨x,_,rfl⟩:=cb.1 he; rfl) (by simp)) bs2 lo2 hK 8 (by decide)).1;rw [zh h4 h5 h6 h7];simp [vS,Cfg.c,Sl.d,ck]
theorem OwnS.frz (bs2:List Blk)(lo2:Nat)(h:∀ x,L0<=x->x<bs.length->tag x≠0->bs2[x]?=bs[x]?):frz ⟨bs2,lo2⟩ (.agg (cq d v4 v5 v6 v7))=some (ag (vS d pl v4 v5 v6 v7).c):=by
 rw [rZ,S.fz bs2 lo2 h]
theorem OwnS.nf:(vS d pl v4 v5 v6 v7).nf=d.nf:=by
 refine QT rfl rfl rfl rfl rfl rfl rfl ?_;simp [vS,S.pol,ky,Pol.nf,Pol.own,Sl.nf,ck]
theorem OwnS.ok (hd:d.ok):(vS d pl v4 v5 v6 v7).ok:=by
 refine ⟨⟨hd.1.1,S.r4.nilT⟩,⟨hd.2.1.1,S.r5.nilT⟩,⟨hd.2.2.1.1,S.r6.nilT⟩,⟨?_,λh=>?_⟩,λp hp=>?_⟩
 . have:=hd.2.2.2.1.1;rw [S.pol] at this;simpa [vS] using this
 . have:=S.r7.nilT h;simp [vS,this]
 . obtain ⟨x,hx,rfl⟩:=cb.1 hp;have hm:x.1.own∈d.policies.l:=by rw [S.pol]; exact List.mem_map_of_mem hx
   have hf:=hd.2.2.2.2 _ hm;exact ⟨⟨hf.1.1,λh=>by simp [ky,(S.r8 x hx).nilT h]⟩,hf.2⟩
theorem OwnS.wf {B:Nat}(hd:d.wf B):(vS d pl v4 v5 v6 v7).wf B:=by
 obtain ⟨h1,h2,h3,h4,h5,h6,h7,h8⟩:=hd;refine ⟨h1,h2,h3,h4,⟨⟨h5.1.1,S.r4.nilT⟩,h5.2⟩,⟨⟨h6.1.1,S.r5.nilT⟩,h6.2⟩,⟨⟨h7.1.1,S.r6.nilT⟩,h7.2⟩,⟨⟨?_,λh=>?_⟩,λp hp=>?_⟩⟩
 . have:=h8.1.1;rw [S.pol] at this;simpa [vS] using this
 . have:=S.r7.nilT h;simp [vS,this]
 . obtain ⟨x,hx,rfl⟩:=cb.1 hp;have hm:x.1.own∈d.policies.l:=by rw [S.pol]; exact List.mem_map_of_mem hx
   obtain ⟨f1,f2,f3,f4,f5⟩:=h8.2 _ hm;exact ⟨f1,f2,f3,f4,⟨f5.1.1,λh=>by simp [ky,(S.r8 x hx).nilT h]⟩,f5.2⟩
end
def Rc (n:Nat)(tag:Nat->Nat)(i:Nat):Nat->Nat:=λx=>if x<n then tag x else i
theorem RowG.fresh {L0 n b i z:Nat}{tag:Nat->Nat}{bs0 b2:List Blk}{X:List V}{es:List (List V)}{r:V}(h:RowG (Ps bs0 b2) b2 z es r)(hL:L0<=n)(hn:n<=bs0.length)(hb:b<n):RowG (Tg L0 (b2.set b (.cells X)).length (Rc n tag i) i) (b2.set b (.cells X)) z es r :=
 h.on λx hx=>⟨⟨by have:=hx.1; omega,by simpa using hx.2,if_neg (by have:=hx.1; omega)⟩,am (by have:=hx.1; omega)⟩
end
section
theorem GD {α:Type}(f:α->List D)(l:List α):flat (l.map f)=Vr.flat (l.map λx=>(f x).map V.d):=by
 simp [flat,Vr.flat,List.map_flatten,ck]
theorem Row1.g {α:Type}{f:α->List D}{l:List α}{L M L0 i z:Nat}{tag:Nat->Nat}{bs:List Blk}{v:V}(h:Row1 L M bs z (l.map f) v)(hL:L0<=L)(hM:M<=bs.length)(ht:∀ x,L<=x->x<M->tag x=i):RowG (Tg L0 bs.length tag i) bs z (l.map λx=>(f x).map V.d) v:=by
 obtain ⟨h1,h2⟩ | ⟨b,cap,h1,h2,h3,h4,_⟩:=h.2
 . exact .inl ⟨by simpa using h1,h2⟩
 . exact .inr ⟨b,cap,[],⟨by omega,by omega,ht b h1 h2⟩,by simpa using h3,by rw [h4,GD,List.append_nil]⟩
theorem FW {Lq Mq:Nat}{bs:List Blk}:∀ (l:List Pol) (css:List (List V)),css.length=l.length->(∀ (j:Nat) (p:Pol),l[j]?=some p->∃ cs,css[j]?=some cs/\RulV Lq Mq bs p cs) →
 ∃ pl:List (Pol×V),pl.map iJ=css/\pl.map Prod.fst=l/\∀ x∈pl,Row1 Lq Mq bs 3 (x.1.rules.l.map λr=>r.own.c) x.2
 | [],[],_,_=>⟨[],rfl,rfl,by simp⟩
 | [],_::_,h,_=>by simp at h
 | _::_,[],h,_=>by simp at h
 | p::l,cs::css,h,hr=>by
  obtain ⟨pl,h1,h2,h3⟩:=FW l css (by simpa using h) λj q hj=>hr (j+1) q (by simpa using hj);obtain ⟨cs',q1,rv,q2,q3,_⟩:=hr 0 p (by simp);have:cs=cs':=by simpa using q1
  subst this;refine ⟨(p,rv)::pl,by simp [iJ,q2,h1],by simp [h2],λx hx=>?_⟩;obtain rfl | hx:=List.mem_cons.1 hx
  . exact q3
  . exact h3 x hx
theorem mV {z:Nat}:∀ {es:List (List V)} {rest:List V},(∀ e∈es,e.length=z)->∀ {i j:Nat} {e:List V},es[i]?=some e->j<z->(Vr.flat es++rest)[i * z+j]?=e[j]?
 | [],_,_,_,_,_,h,_=>by simp at h
 | a::es,rest,hz,0,j,e,h,hj=>by
  have:a=e:=by simpa using h
  subst this;have ha:=hz a (by simp);rw [Vr.flat_cons,List.append_assoc,aq (by omega)]
  congr 1
  omega
 | a::es,rest,hz,i+1,j,e,h,hj=>by
  have ha:=hz a (by simp);have ih:=mV (es:=es) (rest:=rest) (λx hx=>hz x (by simp [hx])) (i:=i) (j:=j) (e:=e) (by simpa using h) hj;rw [Vr.flat_cons,List.append_assoc,bm (by rw [ha,Nat.add_mul]; omega),← ih]
  congr 1
  rw [ha,Nat.add_mul];omega
theorem RowG.idRow {α:Type}{f:α->List V}{l:List α}{K:Nat->Prop}{bs:List Blk}{z:Nat}{v:V}(h:RowG K bs z (l.map f) v)(hz:∀ x,(f x).length=z)(hz0:0<z)(hk:∀ x,∃ n,(f x)[0]?=some (.d (u64 n)))(hl:l.length<2 ^ 62):IdRow K bs z v:=by
 obtain ⟨h1,rfl⟩ | ⟨b,cap,rest,h1,rfl,h3⟩:=h
 . exact .inl ⟨true,rfl⟩
 . refine .inr ⟨b,l.length,cap,_,h1,by simp,hl,h3,λi hi=>?_⟩;obtain ⟨n,hn⟩:=hk l[i];refine ⟨n,?_⟩;have:=mV (rest:=rest) (es:=l.map f) (z:=z) (by simp; intro a _; exact hz a) (i:=i) (j:=0) (e:=f l[i]) (by simp [hi]) hz0;rw [← hn,← this];simp
theorem OwnS.spoils {L0:Nat}{tag:Nat->Nat}{bs:List Blk}{d:Cfg}{pl:List (Pol×V)}{v4 v5 v6 v7:V}(S:OwnS L0 tag bs d pl v4 v5 v6 v7)(hd:d.ok)(hL:L0<=bs.length):Spoils L0 bs.length bs (cq d v4 v5 v6 v7):=by
 have hpll:pl.length=d.policies.l.length:=by rw [S.pol]; simp
 refine ⟨rfl,hL,br _,tag,v4,v5,v6,v7,rfl,rfl,rfl,rfl,S.r4.idRow (λ_=>rfl) (by decide) (λx=>⟨x.uid,rfl⟩) hd.1.lt,S.r5.idRow (λ_=>rfl) (by decide) (λx=>⟨x.id,rfl⟩) hd.2.1.lt,S.r6.idRow (λ_=>rfl) (by decide) (λx=>⟨x.id,rfl⟩) hd.2.2.1.lt,?_⟩;obtain ⟨h1,h2⟩ | ⟨b,cap,rest,h1,h2,h3⟩:=S.r7
 . exact .inl ⟨true,h2⟩
 . have hcl:∀ e∈pl.map iJ,e.length=5:=λe he=>by obtain ⟨x,_,rfl⟩:=cb.1 he; rfl
   refine .inr ⟨b,pl.length,cap,_,⟨h1.1,h1.2.1,.inl h1.2.2⟩,by simpa using h2,by rw [hpll]; exact hd.2.2.2.1.lt,h3,λi hi=>?_,λi hi=>?_⟩
   . have:=mV (rest:=rest) hcl (i:=i) (j:=0) (e:=iJ pl[i]) (by simp [hi]) (by decide);have h2:(iJ pl[i])[0]?=some (.d (u64 pl[i].1.id)):=rfl;exact ⟨pl[i].1.id,by rw [← h2,← this]; simp⟩
   . have:=mV (rest:=rest) hcl (i:=i) (j:=4) (e:=iJ pl[i]) (by simp [hi]) (by decide);have hm:=bj hi;generalize pl[i]=x at *;refine ⟨x.2,this,?_⟩;have ho:x.1.own∈d.policies.l:=by rw [S.pol]; exact List.mem_map_of_mem hm
     have hf:=(hd.2.2.2.2 _ ho).1.1;simp only [Pol.own,b9] at hf;obtain ⟨q1,q2⟩ | ⟨b',cap',rest',q1,q2,q3⟩:=S.r8 x hm
     . exact .inl ⟨true,q2⟩
     . refine .inr ⟨b',x.1.rules.l.length,cap',_,⟨q1.1,q1.2.1,.inr q1.2.2⟩,?_,by simpa using q2,ce hf (by decide),q3,?_⟩
       . rintro rfl;have e1:=q1.2.2;have e2:=h1.2.2;omega
       . rw [aw,Vr.flat_len (z:=3) (by intro e he; obtain ⟨r,_,rfl⟩:=cb.1 he; rfl)];simp
theorem OwnS.none {L0:Nat}{tag:Nat->Nat}{bs:List Blk}{d:Cfg}{pl:List (Pol×V)}{v4 v5 v6 v7:V}(S:OwnS L0 tag bs d pl v4 v5 v6 v7){n:Nat}(hn:n<=L0)(h4:v4.under n=true)(h5:v5.under n=true)(h6:v6.under n=true)(h7:v7.under n=true)(L1:Nat)(tag1:Nat->Nat)(bs1:List Blk):OwnS L1 tag1 bs1 d pl v4 v5 v6 v7:=by
 have row:∀ {i z:Nat} {es:List (List V)} {v:V},RowG (Tg L0 bs.length tag i) bs z es v->v.under n=true->es=[]/\v=.d (.slice true []):=λh hu=>by
  obtain h | ⟨b,cap,rest,h1,rfl,h3⟩:=h
  . exact h
  . have:=h1.1;simp [V.under] at hu;omega
 have hpl:pl=[]:=by simpa using (row S.r7 h7).1
 exact ⟨.inl (row S.r4 h4),.inl (row S.r5 h5),.inl (row S.r6 h6),.inl (row S.r7 h7),by rw [hpl]; simp,S.pol⟩
theorem cs0 {c:Cfg}{a b d e:V}:sub (cq c a b d e) 0 1=some [.d (u64 c.epoch)]:=(rfl)
end
section
variable {E:Calls'}
def aY (n:Int):List D:=[u32 n]
structure Vw where
 epoch:Int
 covers:Sl Int
 pods:Sl Pod
 services:Sl Svc
 bound:Sl Way
 policies:Sl Pol
def Vw.c (x:Vw):List D:=[u64 x.epoch,x.covers.d aY,x.pods.d Pod.c,x.services.d Svc.c,x.bound.d Way.c,x.policies.d Pol.c]
abbrev Vw.v (x:Vw):V:=ag x.c
def Vw.cfg (x:Vw):Cfg:=⟨0,0,0,0,x.pods,x.services,x.bound,x.policies⟩
abbrev Vw.ok (x:Vw):Prop:=short x.covers/\x.cfg.ok
@[simp] theorem Vw.len {x:Vw}:x.c.length=6:=(rfl)
@[simp] theorem Vw.all {x:Vw}:sub x.c 0 6=some x.c:=(rfl)
@[simp] theorem Vw.s0_1 {x:Vw}:sub x.c 0 1=some [u64 x.epoch]:=(rfl)
@[simp] theorem Vw.s1_1 {x:Vw}:sub x.c 1 1=some [x.covers.d aY]:=(rfl)
@[simp] theorem Vw.s2_1 {x:Vw}:sub x.c 2 1=some [x.pods.d Pod.c]:=(rfl)
@[simp] theorem Vw.s3_1 {x:Vw}:sub x.c 3 1=some [x.services.d Svc.c]:=(rfl)
@[simp] theorem Vw.s4_1 {x:Vw}:sub x.c 4 1=some [x.bound.d Way.c]:=(rfl)
@[simp] theorem Vw.s5_1 {x:Vw}:sub x.c 5 1=some [x.policies.d Pol.c]:=(rfl)
structure Fnd where
 kind:Int
 pod:Pod
 service:Svc
 way:Way
def Fnd.c (x:Fnd):List D:=i64 x.kind::(x.pod.c++(x.service.c++x.way.c))
abbrev Fnd.v (x:Fnd):V:=ag x.c
def fnd0:Fnd:=⟨0,bd2,svc0,way0⟩
@[simp] theorem Fnd.len {x:Fnd}:x.c.length=15:=(rfl)
@[simp] theorem Fnd.all {x:Fnd}:sub x.c 0 15=some x.c:=(rfl)
@[simp] theorem Fnd.s1_7 {x:Fnd}:sub x.c 1 7=some x.pod.c:=(rfl)
@[simp] theorem Fnd.s7_1 {x:Fnd}:sub x.c 7 1=some [u64 x.pod.service]:=(rfl)
@[simp] theorem Fnd.s8_5 {x:Fnd}:sub x.c 8 5=some x.service.c:=(rfl)
@[simp] theorem cr7:[(V.d (.int .i64 0)),(.d (.int .u64 0)),(.d (.str ⟨#[]⟩)),(.d (.str ⟨#[]⟩)),(.d (.int .i64 0)),(.d (.int .u32 0)),(.d (.int .i64 0)),(.d (.int .u64 0)),(.d (.int .u64 0)),(.d (.str ⟨#[]⟩)),(.d (.int .u32 0)),(.d (.int .i64 0)),(.d (.int .u64 0)),(.d (.int .u64 0)),(.d (.int .i64 0))]=fnd0.c.map .d:=(rfl)
@[simp] theorem ay9 {x:Fnd}{k:Int}:put (x.c.map V.d) 0 [.d (i64 k)]=some ((Fnd.c { x with kind:=k }).map .d):=(rfl)
@[simp] theorem cr6 {x:Fnd}{k:Int}:V.d (.int .i64 k)::(x.c.map V.d).tail=(Fnd.c { x with kind:=k }).map .d:=(rfl)
@[simp] theorem cr5 {x:Fnd}:(x.c.map V.d).drop 15=[]:=(rfl)
@[simp] theorem az0 {x:Fnd}{p:Pod}:put (x.c.map V.d) 1 (p.c.map .d)=some ((Fnd.c { x with pod:=p }).map .d):=(rfl)
@[simp] theorem az1 {x:Fnd}{p:Svc}:put (x.c.map V.d) 8 (p.c.map .d)=some ((Fnd.c { x with service:=p }).map .d):=(rfl)
@[simp] theorem ad6 {x:Fnd}{p:Way}:put (x.c.map V.d) 13 (p.c.map .d)=some ((Fnd.c { x with way:=p }).map .d):=(rfl)
@[simp] theorem ad7 {x y:Fnd}:put (x.c.map V.d) 0 (y.c.map .d)=some (y.c.map .d):=(rfl)
def Fnd.eqB (x y:Fnd):Bool:=x.kind==y.kind&&(x.pod.uid==y.pod.uid&&(eqS x.pod.ns y.pod.ns&&(eqS x.pod.sa y.pod.sa&&(x.pod.host==y.pod.host&&(x.pod.addr==y.pod.addr&&(x.pod.port==y.pod.port&&(x.pod.service==y.pod.service&&(x.service.id==y.service.id&&(eqS x.service.ns y.service.ns&&(x.service.addr==y.service.addr&&(x.service.port==y.service.port&&(x.service.way==y.service.way&&(x.way.id==y.way.id&&(x.way.node==y.way.node&&true))))))))))))))
@[simp] theorem ac9 {h:Hp}{n:Bool}{x y:Fnd}:eqv (.agg [(.i .i64),(.i .u64),.s,.s,(.i .i64),(.i .u32),(.i .i64),(.i .u64),(.i .u64),.s,(.i .u32),(.i .i64),(.i .u64),(.i .u64),(.i .i64)]) n (ag x.c) (ag y.c) h=some (.d (.bool (x.eqB y != n)),h):=by
 simp [eqv,iy,ag,Fnd.c,Pod.c,Svc.c,Way.c,bJ,ol,Fnd.eqB,eqS]
@[simp] theorem Fnd.eqB_refl (x:Fnd):x.eqB x=true:=by simp [Fnd.eqB]
end
