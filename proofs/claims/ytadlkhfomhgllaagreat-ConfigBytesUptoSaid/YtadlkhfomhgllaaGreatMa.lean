/- slices.IndexFunc over rows of scalars, slices.ContainsFunc, policy.all: at any width. -/
import Derived.Test.YtadlkhfomhgllaaGreatQl
import Derived.Test.YtadlkhfomhgllaaGreatF8
import Derived.KernelRfl
import Derived.Laws.RangeString
set_option maxRecDepth 100000
set_option linter.unusedVariables false
set_option linter.unusedSimpArgs false
namespace Go.Proofs.YtadlkhfomhgllaaGreat
open IntKind (wrap)
section
section
variable {E:Calls'}{T:FuncId->Option QF}{val:FuncId->Bool}
theorem Ga {α:Type}{cell:α->D}{bs:List Blk}{lo:Nat}{v:V}{es:List α}(hr:RowIs bs v 1 (es.map λx=>[cell x])){f:FuncId}{caps:List V}{q:α->Bool}(hlen:es.length<2 ^ 62)
 (hf:∀ e∈es,Sm E T val f (.d (cell e)::caps) ⟨bs,lo⟩=some (.d (.bool (q e)),⟨bs,lo⟩)):∀ (m i:Nat),i+m=es.length →
   Cd E T val (.loop [0,1,7,8] wO) [(0,v),(1,.fn f caps),(7,.d (.int .i64 es.length)),(8,.d (.int .i64 i))] ⟨bs,lo⟩ =
    match (es.drop i).findIdx? q with
    | some k=>some (.ret,[(4,.d (.int .i64 (i+k:Nat)))],⟨bs,lo⟩)
    | none=>some (.exit 0,[],⟨bs,lo⟩):=by
 intro m;have key:=aB (E:=E) (T:=T) (val:=val) [0,1,7,8] wO;generalize Cd E T val (.loop [0,1,7,8] wO)=W at key ⊢
 induction m with
 | zero =>
  intro i hi;have h0:es.drop i=[]:=aw (by omega);rw [key];simp [wO,h0,show ¬ ((i:Int)<es.length) from by omega]
 | succ m ih =>
  intro i hi;have hlt:i<es.length:=by omega
  have hd:es.drop i=es[i]::es.drop (i+1):=aq hlt;obtain ⟨p,hp1,hp2⟩:=hr.at hlt (l:=lo);have hv:=hr.ok;have hcall:=hf _ (bd hlt);generalize es[i]=x at *;rw [key,hd];cases hq:q x with
  | true=>simp [wO,hv,hp1,ldv,hp2,hcall,hq,List.findIdx?_cons,show ((i:Int)<es.length) from by omega]
  | false =>
   have hw:wrap .i64 ((i:Int)+1)=((i+1:Nat):Int):=by rw [wrap64]<;>omega
   have:=ih (i+1) (by omega);simp [wO,hv,hp1,ldv,hp2,hcall,hq,List.findIdx?_cons,hw,show ((i:Int)<es.length) from by omega];rw [show ((i:Int)+1)=((i+1:Nat):Int) from by omega,this];cases hfi:(es.drop (i+1)).findIdx? q with
   | none=>rfl
   | some k=>simp; omega
theorem Qo {α:Type}(cell:α->D){id:FuncId}(ht:T id=some idx1Q)(hvl:val id=false){v:V}{es:List α}{f:FuncId}{caps:List V}{q:α->Bool}{h:Hp}(hr:RowIs h.bs v 1 (es.map λx=>[cell x]))(hlen:es.length<2 ^ 62)
 (hf:∀ e∈es,∀ lo,Sm E T val f (.d (cell e)::caps) ⟨h.bs,lo⟩=some (.d (.bool (q e)),⟨h.bs,lo⟩)):Sm E T val id [v,.fn f caps] h=some (.d (.int .i64 (kL es q)),h):=by
 rw [aM ht hvl];have hl:=Ga hr hlen (λe he=>hf e he h.bs.length) es.length 0 (by omega);have hv:=hr.ok;have hn:=hr.lenT;simp [idx1Q,ae,hv,hn,kL];rw [ai];simp at hl;simp [hl];cases es.findIdx? q with
 | none=>simp [V.under]
 | some k=>simp [V.under]
theorem mf {α:Type}(es:List α)(q:α->Bool):decide (kL es q>=0)=es.any q:=by
 obtain ⟨h1,h2⟩ | ⟨k,e,h1,h2,h3⟩:=kF es q
 . rw [h2];have:es.any q=false:=by
    rw [List.any_eq_false];intro x hx;simpa using List.find?_eq_none.1 h1 x hx
   rw [this]; rfl
 . rw [h2];have:es.any q=true:=List.any_eq_true.2 ⟨e,List.mem_of_find?_eq_some h1,List.find?_some h1⟩;rw [this];simp
theorem RowIs.okv {bs:List Blk}{v:V}{z:Nat}{es:List (List D)}(h:RowIs bs v z es):okV v=true:=by
 obtain ⟨nl,rfl⟩ | ⟨b,o,cap,cs,rfl,_⟩:=h.2<;>rfl
theorem Ip {id idx:FuncId}(ht:T id=some (anyQ idx))(hv:val id=false){v:V}{f:FuncId}{caps:List V}{n:Int}{h:Hp}(hnu:nu v=some v)(hok:okV v=true)(hi:Sm E T val idx [v,.fn f caps] ⟨h.bs,h.bs.length⟩=some (.d (.int .i64 n),⟨h.bs,h.bs.length⟩)) :
 Sm E T val id [v,.fn f caps] h=some (bl (decide (n>=0)),h):=by
 rw [aM ht hv];simp [anyQ,ae,hnu,hok,hi,V.under]
theorem yn {α:Type}(cells:α->List D){z:Nat}{idx id:FuncId}(hti:T idx=some (idxQ z))(hvi:val idx=false)(ht:T id=some (anyQ idx))(hv:val id=false){v:V}{es:List α}{f:FuncId}{caps:List V}{q:α->Bool}{h:Hp}(hr:RowIs h.bs v z (es.map cells))(hlen:es.length<2 ^ 62)
 (hf:∀ e∈es,∀ lo,Sm E T val f (.agg ((cells e).map .d)::caps) ⟨h.bs,lo⟩=some (.d (.bool (q e)),⟨h.bs,lo⟩)):Sm E T val id [v,.fn f caps] h=some (bl (es.any q),h):=by
 rw [Ip ht hv hr.ok hr.okv (OD (h:=⟨h.bs,h.bs.length⟩) cells hti hvi hr hlen hf),mf]
theorem Io {α:Type}(cell:α->D){idx id:FuncId}(hti:T idx=some idx1Q)(hvi:val idx=false)(ht:T id=some (anyQ idx))(hv:val id=false){v:V}{es:List α}{f:FuncId}{caps:List V}{q:α->Bool}{h:Hp}(hr:RowIs h.bs v 1 (es.map λx=>[cell x]))(hlen:es.length<2 ^ 62)
 (hf:∀ e∈es,∀ lo,Sm E T val f (.d (cell e)::caps) ⟨h.bs,lo⟩=some (.d (.bool (q e)),⟨h.bs,lo⟩)):Sm E T val id [v,.fn f caps] h=some (bl (es.any q),h):=by
 rw [Ip ht hv hr.ok hr.okv (Qo (h:=⟨h.bs,h.bs.length⟩) cell hti hvi hr hlen hf),mf]
theorem Vw {id:FuncId}{z:Nat}(ht:T id=some (notQ z))(hv:val id=false){c:List D}(hc:c.length=z){f:FuncId}{x:Nat}{p:Bool}{h:Hp}(hp:aa h.bs x=some [.fn f []])
 (hf:∀ h,Sm E T val f [ag c] h=some (bl p,h)):Sm E T val id [ag c,.ptr x 0] h=some (bl (!p),h):=by
 rw [aM ht hv];have hs:=bB hc;simp [notQ,ae,ay hp,hf,hs,V.under]
theorem Qp {id:FuncId}(ht:T id=some not1Q)(hv:val id=false){c:D}{f:FuncId}{x:Nat}{p:Bool}{h:Hp}(hp:aa h.bs x=some [.fn f []])
 (hf:∀ h,Sm E T val f [.d c] h=some (bl p,h)):Sm E T val id [.d c,.ptr x 0] h=some (bl (!p),h):=by
 rw [aM ht hv];simp [not1Q,ae,hp,hf,V.under]
theorem uU {α:Type}(l:List α)(p:α->Bool):(!l.any λx=>!p x)=l.all p:=by
 induction l with
 | nil=>rfl
 | cons x l ih=>simp only [List.any_cons,List.all_cons,Bool.not_or,Bool.not_not,ih]
theorem Am {α:Type}{cells:α->List D}{z:Nat}{idx con clo id:FuncId}(hti:T idx=some (idxQ z))(hvi:val idx=false)(htc:T con=some (anyQ idx))(hvc:val con=false)(htn:T clo=some (notQ z))(hvn:val clo=false)(ht:T id=some (allQ con clo))(hv:val id=true)
 (hz:∀ x,(cells x).length=z) {s:Sl α} (hs:short s) {m:Int} {f:FuncId} {p:α->Bool} (hf:∀ e∈s.l,∀ h,Sm E T val f [ag (cells e)] h=some (bl (p e),h)) (h:Hp) :
 Sm E T val id [.d (i64 m),.d (s.d cells),.fn f []] h=some (bl (decide ((s.l.length:Int)<=m)&&s.l.all p),h):=by
 rw [aY ht hv];have hfr:frz h (.fn f [])=some (.fn f []):=rfl;have hlen:s.l.length<2 ^ 62:=hs.lt;have hany:=yn (E:=E) (T:=T) (val:=val) cells (z:=z) hti hvi htc hvc (v:=.d (s.d cells)) (es:=s.l) (f:=clo) (caps:=[.ptr 0 0]) (q:=λx=>!p x) (h:=⟨[.cells [.fn f []]],0⟩) (RowIs.of hz _) hlen (λe he lo=>Vw htn hvn (hz e) (by simp [aa]) (hf e he));by_cases hm:(s.l.length:Int)<=m
 . simp [ae,allQ,hfr,hm,hany,au,fI,← uU]
 . simp [ae,allQ,hfr,hm,au,fI]
theorem Qm {α:Type}{cell:α->D}{idx con clo id:FuncId}(hti:T idx=some idx1Q)(hvi:val idx=false)(htc:T con=some (anyQ idx))(hvc:val con=false)(htn:T clo=some not1Q)(hvn:val clo=false)(ht:T id=some (allQ con clo))(hv:val id=true)
 {s:Sl α} (hs:short s) {m:Int} {f:FuncId} {p:α->Bool} (hf:∀ e∈s.l,∀ h,Sm E T val f [.d (cell e)] h=some (bl (p e),h)) (h:Hp) :
 Sm E T val id [.d (i64 m),.d (s.d λx=>[cell x]),.fn f []] h=some (bl (decide ((s.l.length:Int)<=m)&&s.l.all p),h):=by
 rw [aY ht hv];have hfr:frz h (.fn f [])=some (.fn f []):=rfl;have hlen:s.l.length<2 ^ 62:=hs.lt;have hany:=Io (E:=E) (T:=T) (val:=val) cell hti hvi htc hvc (v:=.d (s.d λx=>[cell x])) (es:=s.l) (f:=clo) (caps:=[.ptr 0 0]) (q:=λx=>!p x) (h:=⟨[.cells [.fn f []]],0⟩) (RowIs.of (cells:=λx=>[cell x]) (z:=1) (λ_=>rfl) _) hlen (λe he lo=>Qp htn hvn (by simp [aa]) (hf e he));by_cases hm:(s.l.length:Int)<=m
 . simp [ae,allQ,hfr,hm,hany,au,fI,← uU]
 . simp [ae,allQ,hfr,hm,au,fI]
end
end
section
theorem uC {z:Nat}:∀ {es:List (List D)} {ds:List D},(∀ e∈es,e.length=z)->dataV.chunks z (es.flatten++ds) es.length=es
 | [],_,_=>rfl
 | e::es,ds,h=>by
  have he:=h e (by simp);have ih:=uC (es:=es) (ds:=ds) (λe he=>h e (List.mem_cons_of_mem _ he));have h1:List.take z (e++(es.flatten++ds))=e:=by rw [← he]; simp
  have h2:List.drop z (e++(es.flatten++ds))=es.flatten++ds:=by rw [← he]; simp
  simp only [List.flatten_cons,List.append_assoc,cj,dataV.chunks,h1,h2,ih]
def flat (es:List (List D)):List V:=es.flatten.map .d
theorem flat_cons (e:List D)(es:List (List D)):flat (e::es)=e.map .d++flat es:=by simp [flat]
theorem Bf (a b:List (List D)):flat (a++b)=flat a++flat b:=by simp only [flat,List.flatten_append,List.map_append]
@[simp] theorem Bg:flat []=[]:=rfl
theorem flat_len {z:Nat}{es:List (List D)}(hz:∀ e∈es,e.length=z):(flat es).length=es.length * z:=by
 simp only [flat,cc,nT hz]
theorem iO {h:Hp}{k b z n:Nat}{cap:Option Nat}{es:List (List D)}{rest:List V}(hz:∀ e∈es,e.length=z)(hn:n=es.length)(hb:aa h.bs b=some (flat es++rest)) :
 dataV h (k+1) (.row b 0 n cap z)=some (.slice false es):=by
 subst hn;have hl:=flat_len hz;have hs:sub (flat es++rest) 0 (es.length * z)=some (flat es):=by
  rw [iy,if_pos (by rw [ao,hl]; omega),List.drop_zero,← hl,List.take_left]
 have hc:=uC (ds:=[]) hz;rw [List.append_nil] at hc;simp only [dataV,get_eq,hb,hs];simp only [flat,fM,hc]
section
variable {E:Calls'}{T:FuncId->Option QF}{val:FuncId->Bool}
def gH (z:Nat)(nl:Bool)(es:List (List D))(bs:List Blk)(lo:Nat):V×Hp:=match nl,es with
 | true,_=>(.d (.slice true []),⟨bs,lo⟩)
 | false,[]=>(.row bs.length 0 0 (some 0) z,⟨bs++[.cells []],lo⟩)
 | false,e::es=>(.row (bs.length+1) 0 (es.length+1) none z,⟨bs++[.cells [],.cells (flat (e::es))],lo⟩)
theorem Eo {z b:Nat}{zero:List V}(hz0:0<z)(hb:b<=4096){nl:Bool}{es:List (List D)}(hz:∀ e∈es,e.length=z)(hlen:es.length<=big)(bs:List Blk)(lo:Nat) :
 Bd E T val (cloneQ z b zero) [.d (.slice nl es)] ⟨bs,lo⟩=some (gH z nl es bs lo):=by
 have hzz:z≠0:=by omega
 cases nl with
 | true=>simp [cloneQ,ae,gH]
 | false =>
  cases es with
  | nil=>simp [cloneQ,ae,dY,aF,aI,hzz,gH]
  | cons e es =>
   have hrc:aF ⟨bs++[.cells []],lo⟩ (.d (.slice false (e::es))) z=some (es.length+1,flat (e::es)):=by
    have hall:((e::es).all λe=>e.length==z)=true:=cm.2 λx hx=>by simp [hz x hx]
    simp only [aF,hall,if_true,flat]; rfl
   generalize hF:flat (e::es)=F at hrc;have hr:roomy (es.length+1) b=true:=by
    simp only [roomy,ap,br];exact ⟨hlen,hb⟩
   simp [cloneQ,ae,dY,hrc,aI,hzz,hr,gH,hF]
theorem vX {α:Type}{cells:α->List D}{z b:Nat}{zero:List V}{id:FuncId}(ht:T id=some (cloneQ z b zero))(hv:val id=true)(hz0:0<z)(hb:b<=4096)(hz:∀ x,(cells x).length=z){s:Sl α}(hs:short s)(h:Hp) :
 Sm E T val id [.d (s.d cells)] h=some (.d (s.d cells),h):=by
 rw [aY ht hv];obtain ⟨nl,l⟩:=s;have hl:∀ e∈l.map cells,e.length=z:=by simp; intro a _; exact hz a
 have hB:=Eo (E:=E) (T:=T) (val:=val) (zero:=zero) hz0 hb (nl:=nl) hl (by simpa using hs.1) [] 0;simp only [Sl.d];simp only [List.mapM_cons,List.mapM_nil,Ji,Option.pure_def,Option.bind_eq_bind,Option.bind_some,qQ,hB,Cx];cases nl with
 | true=>have:=hs.2 rfl; simp at this; subst this; simp [gH]
 | false =>
  cases l with
  | nil =>
   have:=iO (h:=⟨[.cells []],0⟩) (k:=7) (b:=0) (n:=0) (cap:=some 0) (es:=[]) (z:=z) (rest:=[]) (by simp) rfl rfl;simp [gH,this]
  | cons x l =>
   have:=iO (h:=⟨[.cells [],.cells (flat ((x::l).map cells))],0⟩) (k:=7) (b:=1) (n:=l.length+1) (cap:=none) (es:=(x::l).map cells) (rest:=[]) hl (by simp) (by simp);simp only [cr] at this;simp [gH,this]
theorem qW {z b:Nat}{zero:List V}{id:FuncId}(ht:T id=some (cloneQ z b zero))(hv:val id=false)(hz0:0<z)(hb:b<=4096){nl:Bool}{es:List (List D)}(hz:∀ e∈es,e.length=z)(hlen:es.length<=big)(h:Hp) :
 Sm E T val id [.d (.slice nl es)] h=some ((gH z nl es h.bs h.low).1,⟨(gH z nl es h.bs h.low).2.bs,if nl then h.low else min h.low h.bs.length⟩):=by
 rw [aM ht hv,Eo hz0 hb hz hlen];cases nl with
 | true=>simp [fC,gH,V.under]
 | false=>cases es<;>simp [fC,gH,V.under]<;>(intro hh; omega)
section
variable {α:Type}{cells:α->List D}{z:Nat}(hz:∀ x,(cells x).length=z){es:List α}{bs0:List Blk}{b:Nat}
include hz
end
theorem Cm {h:Hp}{ev:X->V}{b len z:Nat}{cap:Option Nat}{x:X}{n:Nat}(hx:ev x=.d (.int .i64 n))(hn:n<=len):bM h ev .sl z (.row b 0 len cap z) none (some x) none=some (.row b 0 n cap z):=by
 simp only [bM,bD,hx];rw [if_pos (by omega)];simp only [Int.toNat_natCast];rw [if_pos ⟨by omega,by omega,trivial⟩];simp
end
structure Acc (base:List Blk) (z:Nat) (acc:List (List D)) (bs:List Blk) (v:V):Prop where
 len:base.length<=bs.length
 old:∀ x,x<base.length->bs[x]?=base[x]?
 is:(acc=[]/\v=.d (.slice true []))\/(acc≠[]/\∃ b,base.length<=b/\v=.row b 0 acc.length none z/\aa bs b=some (flat acc))
 wid:∀ e∈acc,e.length=z
theorem Acc.nil (base:List Blk)(z:Nat):Acc base z [] base (nV):=⟨bo _,λ_ _=>rfl,.inl ⟨rfl,rfl⟩,by simp⟩
theorem Acc.nu {base:List Blk}{z:Nat}{acc:List (List D)}{bs:List Blk}{v:V}(h:Acc base z acc bs v):nu v=some v:=by
 obtain ⟨_,rfl⟩ | ⟨_,b,_,rfl,_⟩:=h.is<;>rfl
theorem Acc.get {base:List Blk}{z:Nat}{acc:List (List D)}{bs:List Blk}{v:V}(h:Acc base z acc bs v){x:Nat}{cs:List V}(hx:aa base x=some cs):aa bs x=some cs:=by
 have:=h.old x (aN hx);unfold aa at hx ⊢;rw [this]; exact hx
theorem Acc.lay {base:List Blk}{z:Nat}{acc:List (List D)}{bs:List Blk}{v:V}(h:Acc base z acc bs v)(ys:List Blk):Acc base z acc (bs++ys) v:=by
 have:=h.len;refine ⟨by simp; omega,λx hx=>by rw [am (by omega)]; exact h.old x hx,?_,h.wid⟩;obtain h1 | ⟨h1,b,h2,h3,h4⟩:=h.is
 . exact .inl h1
 . exact .inr ⟨h1,b,h2,h3,ay h4⟩
theorem Acc.app {base:List Blk}{z:Nat}{acc:List (List D)}{bs:List Blk}{v:V}(h:Acc base z acc bs v)(hz0:0<z){by_:Nat}(hby:by_<=4096){e:List D}(he:e.length=z)(hl:acc.length<big)(lo:Nat){r:Nat}{cap:Option Nat}(hr:aa bs r=some (e.map .d)) :
 ∃ v' bs' lo',dY ⟨bs,lo⟩ z by_ v (.row r 0 1 cap z)=some (v',⟨bs',lo'⟩)/\Acc base z (acc++[e]) bs' v':=by
 have hrc:aF ⟨bs,lo⟩ (.row r 0 1 cap z) z=some (1,e.map .d):=by
  have:sub (e.map V.d) 0 z=some (e.map .d):=bB (by simpa using he);simp only [aF,if_true,get_eq,hr,Nat.one_mul,this,Option.map_some]
 have hroom:∀ n,n<=big->roomy n by_=true:=λn hn=>by simp only [roomy,ap,br]; exact ⟨hn,hby⟩
 have hw:∀ x∈acc++[e],x.length=z:=by
  intro x hx;obtain hx | hx:=List.mem_append.1 hx
  . exact h.wid x hx
  . simp at hx; subst hx; exact he
 have hne:acc++[e]≠[]:=by simp
 have hlen:=h.len;obtain ⟨h1,rfl⟩ | ⟨h1,b,h2,rfl,h4⟩:=h.is
 . subst h1;refine ⟨_,_,_,by simp only [dY,hrc,aI,if_neg (show ¬ (1=0) by decide),if_neg (show ¬ z=0 by omega),hroom 1 (by decide),if_true]; rfl,?_⟩;refine ⟨by simp; omega,λx hx=>?_,.inr ⟨hne,bs.length,hlen,rfl,?_⟩,hw⟩
   . simp only []; rw [am (by omega)]; exact h.old x hx
   . simp [flat]
 . have hf:=flat_len h.wid;have hsub:sub (flat acc) 0 (acc.length * z)=some (flat acc):=bB hf;have hpos:0<(flat acc).length:=by
    rw [hf];exact Nat.mul_pos (List.length_pos_iff.2 h1) hz0
   refine ⟨_,_,_,by simp only [dY,hrc,aI,ne_eq,not_true_eq_false,false_or,if_neg (show ¬ (1=0) by decide),if_neg (show ¬ z=0 by omega),get_eq,h4,hsub,hroom (acc.length+1) (by omega),Bool.not_true,bk,if_false,hpos,and_self,if_true]; rfl,?_⟩;refine ⟨by simp [Hp.set]; omega,λx hx=>?_,.inr ⟨hne,bs.length,hlen,by simp [Hp.size],?_⟩,hw⟩
   . simp only [Hp.set];rw [am (by simp; omega),ac (by omega)];exact h.old x hx
   . simp only [Hp.set];have:aa (bs.set b (.cells [])++[.cells (flat acc++e.map .d)]) (bs.set b (.cells [])).length=some (flat acc++e.map .d):=by rw [gu]; rfl
     rw [List.length_set] at this;rw [this,Bf,flat_cons,Bg,List.append_nil]
theorem Acc.dat {base:List Blk}{z:Nat}{acc:List (List D)}{bs:List Blk}{v:V}(h:Acc base z acc bs v)(lo k:Nat):dataV ⟨bs,lo⟩ (k+1) v=some (.slice acc.isEmpty acc):=by
 obtain ⟨rfl,rfl⟩ | ⟨h1,b,_,rfl,h4⟩:=h.is
 . rfl
 . rw [iO h.wid rfl (rest:=[]) (by simpa using h4)];cases acc with
   | nil=>exact absurd rfl h1
   | cons x l=>rfl
theorem Acc.frz {base:List Blk}{z:Nat}{acc:List (List D)}{bs:List Blk}{v:V}(h:Acc base z acc bs v)(lo:Nat):frz ⟨bs,lo⟩ v=some (.d (.slice acc.isEmpty acc))/\dh ⟨bs,lo⟩ v=some (.d (.slice acc.isEmpty acc)):=by
 have h1:=h.dat lo 7;obtain ⟨rfl,rfl⟩ | ⟨_,b,_,rfl,_⟩:=h.is
 . exact ⟨rfl,rfl⟩
 . simp only [LW,Jh,h1,and_self]
theorem Acc.tup {base:List Blk}{z:Nat}{acc:List (List D)}{bs:List Blk}{v:V}(h:Acc base z acc bs v):dB [v]=v:=rfl
end
section
def bm1:List (Nat×QF):=[(38,q29),(4,q31),(17,q40),(9,q41),(96,q86),(18,q87),(28,q92),(29,q93),(25,q94),(68,Rk),(59,MF),(70,JS),(71,Rl),(139,Rm),(141,Rn),(63,yf),(161,MG),(162,MH),(64,Ro),(60,MI),(61,MJ),(62,MK),(115,ML),(118,MM),(121,Rp),(125,MN),(126,Rq),(130,Rs),(86,MO),(87,MP),(88,MQ),(89,MR),(90,MS),(76,MU),(77,MV),(78,MW),(79,MX),(80,MZ),(132,M0),(111,BZ),(112,RB),(194,RD),(104,xk),(189,RH),(142,M5),(143,M6),(144,RI),(145,JU),(146,RJ),(147,M7),(148,M8),(149,M9),(150,RL),(151,RN),(152,RP),(153,Ca),(154,RQ),(133,Na),(134,Nb),(135,WJ),(136,RS),(176,WK),(177,R4),(178,WL),(179,R5),(180,WM),(181,R6),(211,Nh),(238,R7),(207,R8),(170,WN),(171,R9),(163,Nl),(201,WO),(202,Sd),(203,WP),(204,Sg),(205,WQ),(206,Si),(230,WR),(231,WS),(232,Sj),(217,WT),(218,WU),(219,WV),(220,Sk),(221,WW),(223,WX),(224,Sn),(241,Sr),(242,WY),(243,Su),(244,Sv),(245,Sw),(246,WZ),(247,Sy),(252,W9),(253,Xd),(254,Xe),(255,Sz),(256,Xf),(257,JX),(258,Xg),(259,Xh),(261,Xi),(263,Xj),(264,Xk),(265,SA),(294,Xl),(295,SB),(300,Xm),(301,Xn),(302,SC),(303,Nu),(304,Xo),(305,Xp),(306,SE),(307,Xq),(309,Xr),(310,Xt),(311,Xu),(312,q477),(333,Xv),(334,Xw),(335,SG),(336,SH),(337,Xx),(347,Xy),(354,Xz)]
def TT:FuncId->Option QF:=lu bm1
def aj (f:FuncId):Bool:=[38,4,17,9,96,18,28,29,25,70,139,141,63,161,162,64,115,118,125,130,86,87,88,89,90,79,111,112,104,142,143,144,148,149,150,152,154,176,177,178,179,180,181,211,170,171,163,230,231,232,219,220,221,223,224,255,256,257,261,265,303,306,312,336].any λn=>Nat.beq n f
theorem t29:TT 38=some q29:=by kernel_rfl
theorem v29:aj 38=true:=by kernel_rfl
theorem t31:TT 4=some q31:=by kernel_rfl
theorem v31:aj 4=true:=by kernel_rfl
theorem t40:TT 17=some q40:=by kernel_rfl
theorem v40:aj 17=true:=by kernel_rfl
theorem t41:TT 9=some q41:=by kernel_rfl
theorem v41:aj 9=true:=by kernel_rfl
theorem t86:TT 96=some q86:=by kernel_rfl
theorem v86:aj 96=true:=by kernel_rfl
theorem t87:TT 18=some q87:=by kernel_rfl
theorem v87:aj 18=true:=by kernel_rfl
theorem t92:TT 28=some q92:=by kernel_rfl
theorem v92:aj 28=true:=by kernel_rfl
theorem t93:TT 29=some q93:=by kernel_rfl
theorem v93:aj 29=true:=by kernel_rfl
theorem t94:TT 25=some q94:=by kernel_rfl
theorem v94:aj 25=true:=by kernel_rfl
theorem Yz:TT 68=some Rk:=by kernel_rfl
theorem YP:aj 68=false:=by kernel_rfl
theorem YA:TT 59=some MF:=by kernel_rfl
theorem YQ:aj 59=false:=by kernel_rfl
theorem ba7:TT 70=some JS:=by kernel_rfl
theorem bq1:aj 70=true:=by kernel_rfl
theorem t109:TT 71=some Rl:=by kernel_rfl
theorem v109:aj 71=false:=by kernel_rfl
theorem YB:TT 139=some Rm:=by kernel_rfl
theorem YR:aj 139=true:=by kernel_rfl
theorem YC:TT 141=some Rn:=by kernel_rfl
theorem YS:aj 141=true:=by kernel_rfl
theorem Ea:TT 63=some yf:=by kernel_rfl
theorem Ei:aj 63=true:=by kernel_rfl
theorem t183:TT 161=some MG:=by kernel_rfl
theorem v183:aj 161=true:=by kernel_rfl
theorem ba8:TT 162=some MH:=by kernel_rfl
theorem bq2:aj 162=true:=by kernel_rfl
theorem ba9:TT 64=some Ro:=by kernel_rfl
theorem bq3:aj 64=true:=by kernel_rfl
theorem YD:TT 60=some MI:=by kernel_rfl
theorem YT:aj 60=false:=by kernel_rfl
theorem YE:TT 61=some MJ:=by kernel_rfl
theorem YU:aj 61=false:=by kernel_rfl
theorem YF:TT 62=some MK:=by kernel_rfl
theorem YV:aj 62=false:=by kernel_rfl
theorem bb4:TT 115=some ML:=by kernel_rfl
theorem bq4:aj 115=true:=by kernel_rfl
theorem t193:TT 118=some MM:=by kernel_rfl
theorem v193:aj 118=true:=by kernel_rfl
theorem t196:TT 121=some Rp:=by kernel_rfl
theorem v196:aj 121=false:=by kernel_rfl
theorem bb5:TT 125=some MN:=by kernel_rfl
theorem bq5:aj 125=true:=by kernel_rfl
theorem t201:TT 126=some Rq:=by kernel_rfl
theorem v201:aj 126=false:=by kernel_rfl
theorem bb6:TT 130=some Rs:=by kernel_rfl
theorem bq6:aj 130=true:=by kernel_rfl
theorem bb7:TT 86=some MO:=by kernel_rfl
theorem bq7:aj 86=true:=by kernel_rfl
theorem t208:TT 87=some MP:=by kernel_rfl
theorem v208:aj 87=true:=by kernel_rfl
theorem bb8:TT 88=some MQ:=by kernel_rfl
theorem bq8:aj 88=true:=by kernel_rfl
theorem t210:TT 89=some MR:=by kernel_rfl
theorem v210:aj 89=true:=by kernel_rfl
theorem bb9:TT 90=some MS:=by kernel_rfl
theorem bq9:aj 90=true:=by kernel_rfl
theorem t212:TT 76=some MU:=by kernel_rfl
theorem v212:aj 76=false:=by kernel_rfl
theorem t213:TT 77=some MV:=by kernel_rfl
theorem br0:aj 77=false:=by kernel_rfl
theorem bc4:TT 78=some MW:=by kernel_rfl
theorem br1:aj 78=false:=by kernel_rfl
theorem bc5:TT 79=some MX:=by kernel_rfl
theorem br2:aj 79=true:=by kernel_rfl
theorem bc6:TT 80=some MZ:=by kernel_rfl
theorem br3:aj 80=false:=by kernel_rfl
theorem t229:TT 132=some M0:=by kernel_rfl
theorem v229:aj 132=false:=by kernel_rfl
theorem Ct:TT 111=some BZ:=by kernel_rfl
theorem Cw:aj 111=true:=by kernel_rfl
theorem bc7:TT 112=some RB:=by kernel_rfl
theorem br4:aj 112=true:=by kernel_rfl
theorem bc8:TT 194=some RD:=by kernel_rfl
theorem br5:aj 194=false:=by kernel_rfl
theorem YG:TT 104=some xk:=by kernel_rfl
theorem YW:aj 104=true:=by kernel_rfl
theorem bc9:TT 189=some RH:=by kernel_rfl
theorem br6:aj 189=false:=by kernel_rfl
theorem bd0:TT 142=some M5:=by kernel_rfl
theorem br7:aj 142=true:=by kernel_rfl
theorem bd1:TT 143=some M6:=by kernel_rfl
theorem br8:aj 143=true:=by kernel_rfl
theorem bd2:TT 144=some RI:=by kernel_rfl
theorem br9:aj 144=true:=by kernel_rfl
theorem bd3:TT 145=some JU:=by kernel_rfl
theorem bt0:aj 145=false:=by kernel_rfl
theorem bd4:TT 146=some RJ:=by kernel_rfl
theorem YX:aj 146=false:=by kernel_rfl
theorem bd5:TT 147=some M7:=by kernel_rfl
theorem bt1:aj 147=false:=by kernel_rfl
theorem bd6:TT 148=some M8:=by kernel_rfl
theorem bt2:aj 148=true:=by kernel_rfl
theorem bd7:TT 149=some M9:=by kernel_rfl
theorem bt3:aj 149=true:=by kernel_rfl
theorem bd8:TT 150=some RL:=by kernel_rfl
theorem bt4:aj 150=true:=by kernel_rfl
theorem bd9:TT 151=some RN:=by kernel_rfl
theorem bt5:aj 151=false:=by kernel_rfl
theorem be0:TT 152=some RP:=by kernel_rfl
theorem bt6:aj 152=true:=by kernel_rfl
theorem be1:TT 153=some Ca:=by kernel_rfl
theorem bt7:aj 153=false:=by kernel_rfl
theorem be2:TT 154=some RQ:=by kernel_rfl
theorem bt8:aj 154=true:=by kernel_rfl
theorem be3:TT 133=some Na:=by kernel_rfl
theorem bt9:aj 133=false:=by kernel_rfl
theorem be4:TT 134=some Nb:=by kernel_rfl
theorem bu0:aj 134=false:=by kernel_rfl
theorem be5:TT 135=some WJ:=by kernel_rfl
theorem bu1:aj 135=false:=by kernel_rfl
theorem be6:TT 136=some RS:=by kernel_rfl
theorem bu2:aj 136=false:=by kernel_rfl
theorem be7:TT 176=some WK:=by kernel_rfl
theorem bu3:aj 176=true:=by kernel_rfl
theorem be8:TT 177=some R4:=by kernel_rfl
theorem bu4:aj 177=true:=by kernel_rfl
theorem be9:TT 178=some WL:=by kernel_rfl
theorem bu5:aj 178=true:=by kernel_rfl
theorem bf0:TT 179=some R5:=by kernel_rfl
theorem bu6:aj 179=true:=by kernel_rfl
theorem bf1:TT 180=some WM:=by kernel_rfl
theorem bu7:aj 180=true:=by kernel_rfl
theorem bf2:TT 181=some R6:=by kernel_rfl
theorem bu8:aj 181=true:=by kernel_rfl
theorem bf3:TT 211=some Nh:=by kernel_rfl
theorem bu9:aj 211=true:=by kernel_rfl
theorem bf4:TT 238=some R7:=by kernel_rfl
theorem bv0:aj 238=false:=by kernel_rfl
theorem bf5:TT 207=some R8:=by kernel_rfl
theorem YY:aj 207=false:=by kernel_rfl
theorem bf6:TT 170=some WN:=by kernel_rfl
theorem bv1:aj 170=true:=by kernel_rfl
theorem bf7:TT 171=some R9:=by kernel_rfl
theorem bv3:aj 171=true:=by kernel_rfl
theorem bf8:TT 163=some Nl:=by kernel_rfl
theorem bv4:aj 163=true:=by kernel_rfl
theorem bf9:TT 201=some WO:=by kernel_rfl
theorem bv5:aj 201=false:=by kernel_rfl
theorem bg0:TT 202=some Sd:=by kernel_rfl
theorem bv6:aj 202=false:=by kernel_rfl
theorem bg1:TT 203=some WP:=by kernel_rfl
theorem bv7:aj 203=false:=by kernel_rfl
theorem bg2:TT 204=some Sg:=by kernel_rfl
theorem bv8:aj 204=false:=by kernel_rfl
theorem bg3:TT 205=some WQ:=by kernel_rfl
theorem bv9:aj 205=false:=by kernel_rfl
theorem bg4:TT 206=some Si:=by kernel_rfl
theorem bw0:aj 206=false:=by kernel_rfl
theorem bg5:TT 230=some WR:=by kernel_rfl
theorem bw1:aj 230=true:=by kernel_rfl
theorem bg6:TT 231=some WS:=by kernel_rfl
theorem bw3:aj 231=true:=by kernel_rfl
theorem bg7:TT 232=some Sj:=by kernel_rfl
theorem bw4:aj 232=true:=by kernel_rfl
theorem bg8:TT 217=some WT:=by kernel_rfl
theorem bw5:aj 217=false:=by kernel_rfl
theorem bg9:TT 218=some WU:=by kernel_rfl
theorem bw6:aj 218=false:=by kernel_rfl
theorem bh0:TT 219=some WV:=by kernel_rfl
theorem bw7:aj 219=true:=by kernel_rfl
theorem bh2:TT 220=some Sk:=by kernel_rfl
theorem bw8:aj 220=true:=by kernel_rfl
theorem bh3:TT 221=some WW:=by kernel_rfl
theorem bw9:aj 221=true:=by kernel_rfl
theorem bh4:TT 223=some WX:=by kernel_rfl
theorem bx2:aj 223=true:=by kernel_rfl
theorem bh5:TT 224=some Sn:=by kernel_rfl
theorem bx3:aj 224=true:=by kernel_rfl
theorem bh6:TT 241=some Sr:=by kernel_rfl
theorem bx4:aj 241=false:=by kernel_rfl
theorem bh7:TT 242=some WY:=by kernel_rfl
theorem bx5:aj 242=false:=by kernel_rfl
theorem bh8:TT 243=some Su:=by kernel_rfl
theorem bx6:aj 243=false:=by kernel_rfl
theorem bh9:TT 244=some Sv:=by kernel_rfl
theorem bx7:aj 244=false:=by kernel_rfl
theorem bi0:TT 245=some Sw:=by kernel_rfl
theorem bx8:aj 245=false:=by kernel_rfl
theorem bi1:TT 246=some WZ:=by kernel_rfl
theorem bx9:aj 246=false:=by kernel_rfl
theorem bi2:TT 247=some Sy:=by kernel_rfl
theorem by0:aj 247=false:=by kernel_rfl
theorem bi3:TT 252=some W9:=by kernel_rfl
theorem by1:aj 252=false:=by kernel_rfl
theorem bi4:TT 253=some Xd:=by kernel_rfl
theorem by2:aj 253=false:=by kernel_rfl
theorem bi5:TT 254=some Xe:=by kernel_rfl
theorem by3:aj 254=false:=by kernel_rfl
theorem bi6:TT 255=some Sz:=by kernel_rfl
theorem by4:aj 255=true:=by kernel_rfl
theorem bi7:TT 256=some Xf:=by kernel_rfl
theorem by5:aj 256=true:=by kernel_rfl
theorem bi8:TT 257=some JX:=by kernel_rfl
theorem by6:aj 257=true:=by kernel_rfl
theorem bi9:TT 258=some Xg:=by kernel_rfl
theorem by7:aj 258=false:=by kernel_rfl
theorem bj0:TT 259=some Xh:=by kernel_rfl
theorem by8:aj 259=false:=by kernel_rfl
theorem bj1:TT 261=some Xi:=by kernel_rfl
theorem by9:aj 261=true:=by kernel_rfl
theorem bj2:TT 263=some Xj:=by kernel_rfl
theorem bz0:aj 263=false:=by kernel_rfl
theorem bj3:TT 264=some Xk:=by kernel_rfl
theorem bz1:aj 264=false:=by kernel_rfl
theorem bj4:TT 265=some SA:=by kernel_rfl
theorem bz2:aj 265=true:=by kernel_rfl
theorem bj5:TT 294=some Xl:=by kernel_rfl
theorem bz3:aj 294=false:=by kernel_rfl
theorem bj6:TT 295=some SB:=by kernel_rfl
theorem bz4:aj 295=false:=by kernel_rfl
theorem bj7:TT 300=some Xm:=by kernel_rfl
theorem bz5:aj 300=false:=by kernel_rfl
theorem bj8:TT 301=some Xn:=by kernel_rfl
theorem bz6:aj 301=false:=by kernel_rfl
theorem bj9:TT 302=some SC:=by kernel_rfl
theorem bz7:aj 302=false:=by kernel_rfl
theorem bk0:TT 303=some Nu:=by kernel_rfl
theorem bz8:aj 303=true:=by kernel_rfl
theorem bk3:TT 304=some Xo:=by kernel_rfl
theorem bz9:aj 304=false:=by kernel_rfl
theorem bk4:TT 305=some Xp:=by kernel_rfl
theorem ca0:aj 305=false:=by kernel_rfl
theorem bk5:TT 306=some SE:=by kernel_rfl
theorem ca1:aj 306=true:=by kernel_rfl
theorem bk6:TT 307=some Xq:=by kernel_rfl
theorem ca2:aj 307=false:=by kernel_rfl
theorem bk7:TT 309=some Xr:=by kernel_rfl
theorem ca3:aj 309=false:=by kernel_rfl
theorem bk8:TT 310=some Xt:=by kernel_rfl
theorem ca4:aj 310=false:=by kernel_rfl
theorem bk9:TT 311=some Xu:=by kernel_rfl
theorem ca5:aj 311=false:=by kernel_rfl
theorem bl0:TT 312=some q477:=by kernel_rfl
theorem ca6:aj 312=true:=by kernel_rfl
theorem bl1:TT 333=some Xv:=by kernel_rfl
theorem ca7:aj 333=false:=by kernel_rfl
theorem bl2:TT 334=some Xw:=by kernel_rfl
theorem ca9:aj 334=false:=by kernel_rfl
theorem bl3:TT 335=some SG:=by kernel_rfl
theorem cb0:aj 335=false:=by kernel_rfl
theorem bl4:TT 336=some SH:=by kernel_rfl
theorem cb1:aj 336=true:=by kernel_rfl
theorem bl5:TT 337=some Xx:=by kernel_rfl
theorem cb2:aj 337=false:=by kernel_rfl
theorem bl6:TT 347=some Xy:=by kernel_rfl
theorem cb3:aj 347=false:=by kernel_rfl
theorem bl7:TT 354=some Xz:=by kernel_rfl
theorem cb4:aj 354=false:=by kernel_rfl
theorem Fj:nG Tryz.prog TT:=gM (oks (by kernel_rfl) (by decide +kernel))
end
section
variable {E:Calls'}
theorem ai3 (p:Svc)(b:Int)(x:Nat)(h:Hp)(hp:aa h.bs x=some [.d (u64 b)]):Sm E TT aj 132 [p.v,.ptr x 0] h=some (bl (p.id==b),h):=by
 rw [aM t229 v229];simp [ae,M0,ay hp,V.under]
theorem Al {s:Sl Svc}(hs:short s){x:Nat}{n:Int}{h:Hp}(hp:aa h.bs x=some [.d (u64 n)]):Sm E TT aj 68 [.d (s.d Svc.c),.fn 132 [.ptr x 0]] h=some (.d (i64 (kL s.l λp=>p.id==n)),h) :=
 OD Svc.c (z:=5) Yz YP (RowIs.of (cells:=Svc.c) (λ_=>rfl) _) hs.lt λp _ lo=>ai3 p n x _ hp
theorem af9 (c:Cfg)(hc:c.ok)(n:Int)(h:Hp):Sm E TT aj 70 [c.v,.d (u64 n)] h=some (.tup (match c.services.l.find? (λp=>p.id==n) with | some p=>[p.v,bl true] | none=>[svc0.v,bl false]),h):=by
 rw [aY ba7 bq1];obtain ⟨h1,h2⟩ | ⟨k,p,h1,h2,h3⟩:=kF c.services.l (λp=>p.id==n)
 . simp [ae,JS,Al hc.2.1,h1,h2,svc0];first | done | rfl
 . simp [ae,JS,Al hc.2.1,h1,h2,aA (z:=5) _ h3 (cells:=Svc.c) rfl];first | done | rfl
theorem aa4 (c:Cfg)(hc:short c.services)(n:Int)(bs:List Blk)(lo:Nat)(hb:aa bs 0=some (c.c.map .d)):∀ (m i:Nat),i+m=c.services.l.length →
 Cd E TT aj (.loop [1,2,5] mO) [(1,.d (u64 n)),(2,.ptr 0 0),(5,.d (i64 i))] ⟨bs,lo⟩ =
  match (c.services.l.drop i).findIdx? (λp=>p.id==n) with
  | some k=>some (.ret,[(4,.d (i64 (i+k:Nat)))],⟨bs,lo⟩)
  | none=>some (.exit 0,[],⟨bs,lo⟩):=by
 have hlt:=hc.lt;intro m;have key:=aB (E:=E) (T:=TT) (val:=aj) [1,2,5] mO;generalize Cd E TT aj (.loop [1,2,5] mO)=W at key ⊢
 induction m with
 | zero =>
  intro i hi;have h0:c.services.l.drop i=[]:=aw (by omega);rw [key];simp [mO,hb,h0,Sl.d,show ¬ ((i:Int)<c.services.l.length) from by omega]
 | succ m ih =>
  intro i hi;have hlt:i<c.services.l.length:=by omega
  have hd:c.services.l.drop i=c.services.l[i]::c.services.l.drop (i+1):=aq hlt;have hg:c.services.l[i]?=some c.services.l[i]:=ab hlt;generalize c.services.l[i]=x at *;have hx:=λh=>aA (z:=5) h hg (cells:=Svc.c) rfl;rw [key,hd];have hl:pW false (.d (Sl.d Svc.c c.services)) ⟨bs,lo⟩=some (.d (i64 c.services.l.length),⟨bs,lo⟩):=by simp [Sl.d]
  by_cases hq:x.id=n
  . simp [mO,hb,hl,hx,hq,List.findIdx?_cons,show ((i:Int)<c.services.l.length) from by omega]
  . have hq':(x.id==n)=false:=by simpa using hq
    have hw:wrap .i64 ((i:Int)+1)=((i+1:Nat):Int):=by rw [wrap64]<;>omega
    have:=ih (i+1) (by omega);simp [mO,hb,hl,hx,hq',List.findIdx?_cons,hw,show ((i:Int)<c.services.l.length) from by omega];rw [show ((i:Int)+1)=((i+1:Nat):Int) from by omega,this];cases hfi:(c.services.l.drop (i+1)).findIdx? (λp=>p.id==n) with
    | none=>rfl
    | some k=>simp; omega
theorem ag0 (c:Cfg)(hc:c.ok)(n:Int)(h:Hp):Sm E TT aj 139 [c.v,.d (u64 n)] h=some (.d (i64 (kL c.services.l λp=>p.id==n)),h):=by
 rw [aY YB YR];have hl:=aa4 (E:=E) c hc.2.1 n [.cells (c.c.map .d)] 0 rfl c.services.l.length 0 (by omega);simp at hl;simp [Rm,ae];rw [ai];simp [hl,kL];cases c.services.l.findIdx? (λp=>p.id==n)<;>simp
theorem aa5 (c:Cfg)(hc:short c.bound)(n:Int)(bs:List Blk)(lo:Nat)(hb:aa bs 0=some (c.c.map .d)):∀ (m i:Nat),i+m=c.bound.l.length →
 Cd E TT aj (.loop [1,2,5] mP) [(1,.d (u64 n)),(2,.ptr 0 0),(5,.d (i64 i))] ⟨bs,lo⟩ =
  match (c.bound.l.drop i).findIdx? (λp=>p.id==n) with
  | some k=>some (.ret,[(4,.d (i64 (i+k:Nat)))],⟨bs,lo⟩)
  | none=>some (.exit 0,[],⟨bs,lo⟩):=by
 have hlt:=hc.lt;intro m;have key:=aB (E:=E) (T:=TT) (val:=aj) [1,2,5] mP;generalize Cd E TT aj (.loop [1,2,5] mP)=W at key ⊢
 induction m with
 | zero =>
  intro i hi;have h0:c.bound.l.drop i=[]:=aw (by omega);rw [key];simp [mP,hb,h0,Sl.d,show ¬ ((i:Int)<c.bound.l.length) from by omega]
 | succ m ih =>
  intro i hi;have hlt:i<c.bound.l.length:=by omega
  have hd:c.bound.l.drop i=c.bound.l[i]::c.bound.l.drop (i+1):=aq hlt;have hg:c.bound.l[i]?=some c.bound.l[i]:=ab hlt;generalize c.bound.l[i]=x at *;have hx:=λh=>aA (z:=2) h hg (cells:=Way.c) rfl;rw [key,hd];have hl:pW false (.d (Sl.d Way.c c.bound)) ⟨bs,lo⟩=some (.d (i64 c.bound.l.length),⟨bs,lo⟩):=by simp [Sl.d]
  by_cases hq:x.id=n
  . simp [mP,hb,hl,hx,hq,List.findIdx?_cons,show ((i:Int)<c.bound.l.length) from by omega]
  . have hq':(x.id==n)=false:=by simpa using hq
    have hw:wrap .i64 ((i:Int)+1)=((i+1:Nat):Int):=by rw [wrap64]<;>omega
    have:=ih (i+1) (by omega);simp [mP,hb,hl,hx,hq',List.findIdx?_cons,hw,show ((i:Int)<c.bound.l.length) from by omega];rw [show ((i:Int)+1)=((i+1:Nat):Int) from by omega,this];cases hfi:(c.bound.l.drop (i+1)).findIdx? (λp=>p.id==n) with
    | none=>rfl
    | some k=>simp; omega
theorem ag1 (c:Cfg)(hc:c.ok)(n:Int)(h:Hp):Sm E TT aj 141 [c.v,.d (u64 n)] h=some (.d (i64 (kL c.bound.l λp=>p.id==n)),h):=by
 rw [aY YC YS];have hl:=aa5 (E:=E) c hc.2.2.1 n [.cells (c.c.map .d)] 0 rfl c.bound.l.length 0 (by omega);simp at hl;simp [Rn,ae];rw [ai];simp [hl,kL];cases c.bound.l.findIdx? (λp=>p.id==n)<;>simp
end
section
section
variable {E:Calls'}{T:FuncId->Option QF}{val:FuncId->Bool}
def Gm (z b:Nat)(zero:List V):QC:=(sr [op 11 (bt .lss 10 9)] (.seq (.cond (.t 11) .skip (.exit 0 [5])) (.seq (.block 1 (sr [op 12 (.idxA none z (.t 8) (.t 10)),op 13 (.load false z (.t 12)),op 7 (.new zero),⟨none,none,.store z (.t 7) (.t 13)⟩] (.reg none [mv 14 5,mv 15 1,op 16 (.load false z (.t 7)),op 17 (kt' 15 [.t 16]),op 18 (.buildS z 1 zero [(0,z,(.t 17))]),op 19 (.app z b (.t 14) (.t 18)),mv 5 19]))) (.reg none [op 20 (bc .add 10 1),mv 10 20]))))
def mapQ (z b:Nat)(zero:List V):QF:=⟨22,[.tmp 4],(sr [op 4 (.mov (.c zs0))] (sr [op 5 (.mov (.c zs0))] (.seq (sr [mv 8 0,op 9 (ln' 8),oc' 10 0] (.block 0 (.loop [1,5,8,9,10] (Gm z b zero)))) (sr [mv 21 5,mv 4 21] (.ret [4])))))⟩
theorem Jv {α:Type}{cells:α->List D}{z by_:Nat}(hz:∀ x,(cells x).length=z)(hz0:0<z)(hby:by_<=4096){zero:List V}(hzero:zero.length=z){s:Sl α}(hs:short s){f:FuncId}{g:α->α}{base:List Blk}
 (hf:∀ e∈s.l,∀ h,Sm E T val f [ag (cells e)] h=some (ag (cells (g e)),h)) :
 ∀ (m i:Nat) (acc:List (List D)) (bs:List Blk) (lo:Nat) (v:V),i+m=s.l.length->acc.length<=i->Acc base z acc bs v →
  ∃ bs' lo' v',Cd E T val (.loop [1,5,8,9,10] (Gm z by_ zero)) [(1,.fn f []),(5,v),(8,.d (s.d cells)),(9,.d (.int .i64 s.l.length)),(10,.d (.int .i64 i))] ⟨bs,lo⟩ =
   some (.exit 0,[(5,v')],⟨bs',lo'⟩)/\Acc base z (acc++((s.l.drop i).map λx=>cells (g x))) bs' v':=by
 intro m;have hlen:=hs.lt;have key:=aB (E:=E) (T:=T) (val:=val) [1,5,8,9,10] (Gm z by_ zero);generalize Cd E T val (.loop [1,5,8,9,10] (Gm z by_ zero))=W at key ⊢
 induction m with
 | zero =>
  intro i acc bs lo v hi hai ha;have h0:s.l.drop i=[]:=aw (by omega);refine ⟨bs,lo,v,?_,by simpa [h0] using ha⟩;rw [key];simp [Gm,show ¬ ((i:Int)<s.l.length) from by omega]
 | succ m ih =>
  intro i acc bs lo v hi hai ha;have hlt:i<s.l.length:=by omega
  have hd:s.l.drop i=s.l[i]::s.l.drop (i+1):=aq hlt;have hg:s.l[i]?=some s.l[i]:=ab hlt;have hcall:=hf _ (bd hlt);generalize s.l[i]=x at *;have hx:=λh=>aA (z:=z) h hg (cells:=cells) (hz x);have hput:∀ y:α,put zero 0 ((cells y).map V.d)=some ((cells y).map .d):=by intro y; simp [put,hz,hzero]
  have hsubx:sub (cells x) 0 z=some (cells x):=bB (hz x);have hw:wrap .i64 ((i:Int)+1)=((i+1:Nat):Int):=by rw [wrap64]<;>omega
  have hnu:=ha.nu;have ha1:=ha.lay [.cells ((cells x).map .d),.cells ((cells (g x)).map .d)];have hbig:acc.length<big:=by have:=hs.1; omega
  obtain ⟨v1,bs1,lo1,k1,k2⟩:=ha1.app hz0 hby (e:=cells (g x)) (hz _) hbig (min lo bs.length) (r:=bs.length+1) (cap:=some 1) (by simp);have hnu1:=k2.nu;obtain ⟨bs',lo',v',q1,q2⟩:=ih (i+1) (acc++[cells (g x)]) bs1 lo1 v1 (by omega) (by simp; omega) k2;refine ⟨bs',lo',v',?_,by simpa [hd] using q2⟩;rw [key];simp [Gm,hx,hput,hsubx,hcall,hw,hnu,hz,hz0,az,k1,hnu1,show ((i:Int)<s.l.length) from by omega];simpa using q1
theorem Iq {α:Type}{cells:α->List D}{z by_ id:Nat}{zero:List V}(ht:T id=some (mapQ z by_ zero))(hv:val id=true)(hz:∀ x,(cells x).length=z)(hz0:0<z)(hby:by_<=4096)(hzero:zero.length=z){s:Sl α}(hs:short s){f:FuncId}{g:α->α}
 (hf:∀ e∈s.l,∀ h,Sm E T val f [ag (cells e)] h=some (ag (cells (g e)),h)) (h:Hp) :
 Sm E T val id [.d (s.d cells),.fn f []] h=some (.d (Sl.d cells ⟨s.l.isEmpty,s.l.map g⟩),h):=by
 rw [aY ht hv];obtain ⟨bs',lo',v',q1,q2⟩:=Jv (E:=E) (T:=T) (val:=val) hz hz0 hby hzero hs hf s.l.length 0 [] [] 0 _ (by omega) (by simp) (Acc.nil [] z);have hn:=q2.nu;have hfz:=(q2.frz lo').1;have hfr:frz h (.fn f [])=some (.fn f []):=rfl;have hl:pW false (.d (Sl.d cells s)) ⟨[],0⟩=some (.d (i64 s.l.length),⟨[],0⟩):=by simp [Sl.d]
 have hfm:(s.l.map λx=>cells (g x)).isEmpty=s.l.isEmpty:=by cases s.l<;>rfl
 simp at q1;simp [ae,mapQ,hfr,hl];rw [ai];simp [q1,hn];simp only [List.nil_append,List.drop_zero] at hfz;rw [hfz];simp [hfm,Sl.d,fI]
end
end
section
variable {E:Calls'}
def OZ:List V:=[(.d (.int .u64 0)),(.d (.str ⟨#[]⟩)),(.d (.str ⟨#[]⟩)),(.d (.int .i64 0)),(.d (.int .u32 0)),(.d (.int .i64 0)),(.d (.int .u64 0))]
end
section
theorem bJ (a:ByteArray):a.toList=a.data.toList:=by
 simp [ByteArray.toList_eq]
theorem eqS_iff {a b:ByteArray}:eqS a b=true↔a=b:=by
 simp only [eqS,beq_iff_eq,bJ];constructor
 . intro h;cases a; cases b;simp at h;rw [h]
 . rintro rfl; rfl
@[simp] theorem VU (a:ByteArray):eqS a a=true:=eqS_iff.2 rfl
def Pod.eqB (x y:Pod):Bool:=x.uid==y.uid&&(eqS x.ns y.ns&&(eqS x.sa y.sa&&(x.host==y.host&&(x.addr==y.addr&&(x.port==y.port&&(x.service==y.service&&true))))))
def Svc.eqB (x y:Svc):Bool:=x.id==y.id&&(eqS x.ns y.ns&&(x.addr==y.addr&&(x.port==y.port&&(x.way==y.way&&true))))
def Way.eqB (x y:Way):Bool:=x.id==y.id&&(x.node==y.node&&true)
def Term.eqB (x y:Term):Bool:=x.kind==y.kind&&(eqS x.text y.text&&true)
def Cidr.eqB (x y:Cidr):Bool:=x.addr==y.addr&&(x.bits==y.bits&&true)
theorem Pod.eqB_iff {x y:Pod}:x.eqB y=true↔x=y:=by
 cases x; cases y; simp [Pod.eqB,eqS_iff]
theorem Svc.eqB_iff {x y:Svc}:x.eqB y=true↔x=y:=by
 cases x; cases y; simp [Svc.eqB,eqS_iff]
theorem Way.eqB_iff {x y:Way}:x.eqB y=true↔x=y:=by
 cases x; cases y; simp [Way.eqB]
theorem Term.eqB_iff {x y:Term}:x.eqB y=true↔x=y:=by
 cases x; cases y; simp [Term.eqB,eqS_iff]
theorem Cidr.eqB_iff {x y:Cidr}:x.eqB y=true↔x=y:=by
 cases x; cases y; simp [Cidr.eqB]
section
variable {h:Hp}{n:Bool}
@[simp] theorem LJ {x y:Pod}:eqv (.agg [(.i .u64),.s,.s,(.i .i64),(.i .u32),(.i .i64),(.i .u64)]) n (ag x.c) (ag y.c) h=some (.d (.bool (x.eqB y != n)),h):=by
 simp [eqv,jd,ag,Pod.c,bP,oh,Pod.eqB,eqS]
@[simp] theorem LK {x y:Svc}:eqv (.agg [(.i .u64),.s,(.i .u32),(.i .i64),(.i .u64)]) n (ag x.c) (ag y.c) h=some (.d (.bool (x.eqB y != n)),h):=by
 simp [eqv,jd,ag,Svc.c,bP,oh,Svc.eqB,eqS]
@[simp] theorem LM {x y:Way}:eqv (.agg [(.i .u64),(.i .i64)]) n (ag x.c) (ag y.c) h=some (.d (.bool (x.eqB y != n)),h):=by
 simp [eqv,jd,ag,Way.c,bP,oh,Way.eqB]
@[simp] theorem Je {x y:Term}:eqv (.agg [(.i .i64),.s]) n (ag x.c) (ag y.c) h=some (.d (.bool (x.eqB y != n)),h):=by
 simp [eqv,jd,ag,Term.c,bP,oh,Term.eqB,eqS]
@[simp] theorem Jd {x y:Cidr}:eqv (.agg [(.i .u32),(.i .i64)]) n (ag x.c) (ag y.c) h=some (.d (.bool (x.eqB y != n)),h):=by
 simp [eqv,jd,ag,Cidr.c,bP,oh,Cidr.eqB]
end
def all2 {α β:Type}(f:α->β->Bool):List α->List β->Bool
 | [],[]=>true
 | x::l,y::m=>f x y&&all2 f l m
 | _,_=>false
theorem Aq {α β:Type}{f:α->β->Bool}:∀ {l:List α} {m:List β},all2 f l m=true->l.length=m.length
 | [],[],_=>rfl
 | x::l,y::m,h=>by simp [all2] at h; simp [Aq h.2]
 | [],y::m,h=>by simp [all2] at h
 | x::l,[],h=>by simp [all2] at h
theorem gq {α β:Type}{f:α->β->Bool}{l:List α}{m:List β}(h:l.length≠m.length):all2 f l m=false:=by
 cases hx:all2 f l m with
 | false=>rfl
 | true=>exact absurd (Aq hx) h
theorem dW {α:Type}{f:α->α->Bool}(hf:∀ x,f x x=true):∀ l:List α,all2 f l l=true
 | []=>rfl
 | x::l=>by simp [all2,hf,dW hf l]
theorem Au {α β γ:Type}{f:α->β->Bool}(g:γ->α):∀ (l:List γ) (m:List β),all2 f (l.map g) m=all2 (λx y=>f (g x) y) l m
 | [],[]=>rfl
 | x::l,y::m=>by simp [all2,Au g l m]
 | [],y::m=>rfl
 | x::l,[]=>rfl
theorem fU {α β:Type}{f:α->β->Bool}{l:List α}{m:List β}{i:Nat}(h1:i<l.length)(h2:i<m.length):all2 f (l.drop i) (m.drop i)=(f l[i] m[i]&&all2 f (l.drop (i+1)) (m.drop (i+1))):=by
 rw [aq h1,aq h2]; rfl
def Source.same (a b:Source):Bool:=all2 Term.eqB a.names.l b.names.l&&(all2 Term.eqB a.spaces.l b.spaces.l&&all2 Cidr.eqB a.nets.l b.nets.l)
def Target.same (a b:Target):Bool:=all2 Term.eqB a.methods.l b.methods.l&&(all2 Term.eqB a.paths.l b.paths.l&&(all2 Term.eqB a.hosts.l b.hosts.l&&all2 (λx y:Int=>x==y) a.ports.l b.ports.l))
def When.same (a b:When):Bool:=eqS a.head b.head&&all2 Term.eqB a.terms.l b.terms.l
def Rule.same (a b:Rule):Bool:=all2 Source.same a.frm.l b.frm.l&&(all2 Target.same a.to.l b.to.l&&all2 When.same a.whn.l b.whn.l)
def Pol.same (a b:Pol):Bool:=a.id==b.id&&(eqS a.ns b.ns&&(a.service==b.service&&(a.deny==b.deny&&all2 Rule.same a.rules.l b.rules.l)))
theorem qO (l:List Term):all2 Term.eqB l l=true:=dW (λ_=>Term.eqB_iff.2 rfl) l
theorem Source.same_refl (a:Source):a.same a=true:=by simp [Source.same,qO,dW (λ_=>Cidr.eqB_iff.2 rfl)]
theorem Target.same_refl (a:Target):a.same a=true:=by simp [Target.same,qO,dW]
theorem When.same_refl (a:When):a.same a=true:=by simp [When.same,qO]
theorem Rule.same_refl (a:Rule):a.same a=true:=by simp [Rule.same,dW Source.same_refl,dW Target.same_refl,dW When.same_refl]
theorem Pol.same_refl (a:Pol):a.same a=true:=by simp [Pol.same,dW Rule.same_refl]
end
section
variable {E:Calls'}
theorem FE {s:Sl Term}(hs:short s)(h:Hp):Sm E TT aj 230 [.d (s.d Term.c)] h=some (.d (s.d Term.c),h) :=
 vX (z:=2) (b:=24) (zero:=[(.d (.int .i64 0)),(.d (.str ⟨#[]⟩))]) bg5 bw1 (by decide) (by decide) (λ_=>rfl) hs h
theorem al8 {s:Sl Cidr}(hs:short s)(h:Hp):Sm E TT aj 231 [.d (s.d Cidr.c)] h=some (.d (s.d Cidr.c),h) :=
 vX (z:=2) (b:=16) (zero:=[(.d (.int .u32 0)),(.d (.int .i64 0))]) bg6 bw3 (by decide) (by decide) (λ_=>rfl) hs h
theorem al9 {s:Sl Int}(hs:short s)(h:Hp):Sm E TT aj 232 [.d (s.d fE)] h=some (.d (s.d fE),h) :=
 vX (z:=1) (b:=8) (zero:=[(.d (.int .i64 0))]) bg7 bw4 (by decide) (by decide) (λ_=>rfl) hs h
theorem ak4 (s:Source)(hs:s.fits big)(h:Hp):Sm E TT aj 177 [ag s.c] h=some (ag s.c,h):=by
 rw [aY be8 bu4];simp +decide [ae,R4,aL,aC,FE hs.1,FE hs.2.1,al8 hs.2.2];rfl
theorem ak6 (s:Target)(hs:s.fits big)(h:Hp):Sm E TT aj 179 [ag s.c] h=some (ag s.c,h):=by
 rw [aY bf0 bu6];simp +decide [ae,R5,aL,aC,al9 hs.1,FE hs.2.1,FE hs.2.2.1,FE hs.2.2.2];rfl
@[simp] theorem When.p1 {x:When}{v:V}:put (x.c.map V.d) 1 [v]=some [.d (.str x.head),v]:=rfl
@[simp] theorem Pol.p4 {x:Pol}{v:V}:put (x.c.map V.d) 4 [v]=some (plL x.id x.ns x.service x.deny v):=rfl
theorem ak8 (s:When)(hs:s.fits big)(h:Hp):Sm E TT aj 181 [ag s.c] h=some (ag s.c,h):=by
 rw [aY bf2 bu8];simp [ae,R6,FE hs];rfl
def sl0 (n:Nat):List V:=List.replicate n (.d (.slice true []))
theorem ak3 {s:Sl Source}(hs:short s)(hf:∀ x∈s.l,x.fits big)(h:Hp):Sm E TT aj 176 [.d (s.d Source.c),.fn 177 []] h=some (.d (Sl.d Source.c ⟨s.l.isEmpty,s.l⟩),h):=by
 have:=Iq (E:=E) (T:=TT) (val:=aj) (cells:=Source.c) (z:=3) (by_:=72) (zero:=sl0 3) be7 bu3 (λ_=>rfl) (by decide) (by decide) rfl hs (f:=177) (g:=id) (λe he h=>ak4 e (hf e he) h) h;simpa using this
theorem ak5 {s:Sl Target}(hs:short s)(hf:∀ x∈s.l,x.fits big)(h:Hp):Sm E TT aj 178 [.d (s.d Target.c),.fn 179 []] h=some (.d (Sl.d Target.c ⟨s.l.isEmpty,s.l⟩),h):=by
 have:=Iq (E:=E) (T:=TT) (val:=aj) (cells:=Target.c) (z:=4) (by_:=96) (zero:=sl0 4) be9 bu5 (λ_=>rfl) (by decide) (by decide) rfl hs (f:=179) (g:=id) (λe he h=>ak6 e (hf e he) h) h;simpa using this
theorem ak7 {s:Sl When}(hs:short s)(hf:∀ x∈s.l,x.fits big)(h:Hp):Sm E TT aj 180 [.d (s.d When.c),.fn 181 []] h=some (.d (Sl.d When.c ⟨s.l.isEmpty,s.l⟩),h):=by
 have:=Iq (E:=E) (T:=TT) (val:=aj) (cells:=When.c) (z:=2) (by_:=40) (zero:=[(.d (.str ⟨#[]⟩)),(nV)]) bf1 bu7 (λ_=>rfl) (by decide) (by decide) rfl hs (f:=181) (g:=id) (λe he h=>ak8 e (hf e he) h) h;simpa using this
def Rule.own (r:Rule):Rule:=⟨⟨r.frm.l.isEmpty,r.frm.l⟩,⟨r.to.l.isEmpty,r.to.l⟩,⟨r.whn.l.isEmpty,r.whn.l⟩⟩
def Pol.own (p:Pol):Pol:={ p with rules:=⟨p.rules.l.isEmpty,p.rules.l.map Rule.own⟩ }
theorem ai4 (r:Rule)(hr:r.fits big)(h:Hp):Sm E TT aj 112 [ag r.c] h=some (ag r.own.c,h):=by
 rw [aY bc7 br4];simp +decide [ae,RB,aL,aC,ak3 hr.1.1 hr.1.2,ak5 hr.2.1.1 hr.2.1.2,ak7 hr.2.2.1 hr.2.2.2];rfl
end
section
variable {E:Calls'}
theorem ax {i n:Nat}(h:i<n)(hn:n<2 ^ 62):wrap .i64 ((i:Int)+1)=((i+1:Nat):Int):=by rw [wrap64]<;>omega
theorem aa6 {a b:Sl Term}(ha:short a)(hl:a.l.length=b.l.length)(h:Hp):∀ (m i:Nat),i+m=a.l.length →
 Cd E TT aj (.loop [0,1,5] mQ) [(0,.d (a.d Term.c)),(1,.d (b.d Term.c)),(5,.d (i64 i))] h=if all2 Term.eqB (a.l.drop i) (b.l.drop i)=true then some (.exit 0,[],h) else some (.ret,[(4,bl false)],h):=by
 have hlt:=ha.lt;intro m;have key:=aB (E:=E) (T:=TT) (val:=aj) [0,1,5] mQ;generalize Cd E TT aj (.loop [0,1,5] mQ)=W at key ⊢
 induction m with
 | zero =>
  intro i hi;rw [key,aw (by omega),aw (by omega)];simp [mQ,all2,show ¬ ((i:Int)<a.l.length) from by omega]
 | succ m ih =>
  intro i hi;have h1:i<a.l.length:=by omega
  have h2:i<b.l.length:=by omega
  have hx:=λh=>aA (z:=2) h (ab h1) (cells:=Term.c) rfl;have hy:=λh=>aA (z:=2) h (ab h2) (cells:=Term.c) rfl;have hw:=ax h1 hlt;have:=ih (i+1) (by omega);rw [key,fU h1 h2];cases hq:Term.eqB a.l[i] b.l[i] with
  | true =>
   simp [mQ,hx,hy,hq,hw,show ((i:Int)<a.l.length) from by omega];simpa using this
  | false=>simp [mQ,hx,hy,hq,show ((i:Int)<a.l.length) from by omega]
theorem lK {a b:Sl Term}(ha:short a)(h:Hp):Sm E TT aj 161 [.d (a.d Term.c),.d (b.d Term.c)] h=some (bl (all2 Term.eqB a.l b.l),h):=by
 rw [aY t183 v183];by_cases hl:a.l.length=b.l.length
 . have hL:=aa6 (E:=E) ha hl ⟨[],0⟩ a.l.length 0 (by omega);simp at hL;simp [ae,MG,hl];rw [ai];simp [hL];cases hq:all2 Term.eqB a.l b.l<;>simp
 . have hl':¬ ((a.l.length:Int)=b.l.length):=by omega
   simp [ae,MG,hl',gq hl]
theorem aa7 {a b:Sl Cidr}(ha:short a)(hl:a.l.length=b.l.length)(h:Hp):∀ (m i:Nat),i+m=a.l.length →
 Cd E TT aj (.loop [0,1,5] mR) [(0,.d (a.d Cidr.c)),(1,.d (b.d Cidr.c)),(5,.d (i64 i))] h=if all2 Cidr.eqB (a.l.drop i) (b.l.drop i)=true then some (.exit 0,[],h) else some (.ret,[(4,bl false)],h):=by
 have hlt:=ha.lt;intro m;have key:=aB (E:=E) (T:=TT) (val:=aj) [0,1,5] mR;generalize Cd E TT aj (.loop [0,1,5] mR)=W at key ⊢
 induction m with
 | zero =>
  intro i hi;rw [key,aw (by omega),aw (by omega)];simp [mR,all2,show ¬ ((i:Int)<a.l.length) from by omega]
 | succ m ih =>
  intro i hi;have h1:i<a.l.length:=by omega
  have h2:i<b.l.length:=by omega
  have hx:=λh=>aA (z:=2) h (ab h1) (cells:=Cidr.c) rfl;have hy:=λh=>aA (z:=2) h (ab h2) (cells:=Cidr.c) rfl;have hw:=ax h1 hlt;have:=ih (i+1) (by omega);rw [key,fU h1 h2];cases hq:Cidr.eqB a.l[i] b.l[i] with
  | true =>
   simp [mR,hx,hy,hq,hw,show ((i:Int)<a.l.length) from by omega];simpa using this
  | false=>simp [mR,hx,hy,hq,show ((i:Int)<a.l.length) from by omega]
theorem Vf {a b:Sl Cidr}(ha:short a)(h:Hp):Sm E TT aj 162 [.d (a.d Cidr.c),.d (b.d Cidr.c)] h=some (bl (all2 Cidr.eqB a.l b.l),h):=by
 rw [aY ba8 bq2];by_cases hl:a.l.length=b.l.length
 . have hL:=aa7 (E:=E) ha hl ⟨[],0⟩ a.l.length 0 (by omega);simp at hL;simp [ae,MH,hl];rw [ai];simp [hL];cases hq:all2 Cidr.eqB a.l b.l<;>simp
 . have hl':¬ ((a.l.length:Int)=b.l.length):=by omega
   simp [ae,MH,hl',gq hl]
theorem UG {a b:Rule}(ha:a.fits big)(hl:a.frm.l.length=b.frm.l.length):∀ (m i:Nat) (J:List Blk),i+m=a.frm.l.length →
 ∃ J',Cd E TT aj (.loop [2,3,5] qF) [(2,.ptr 0 0),(3,.ptr 1 0),(5,.d (i64 i))] ⟨.cells (a.c.map .d)::.cells (b.c.map .d)::J,0⟩ =
  if all2 Source.same (a.frm.l.drop i) (b.frm.l.drop i)=true then some (.exit 0,[(2,.ptr 0 0),(3,.ptr 1 0)],⟨.cells (a.c.map .d)::.cells (b.c.map .d)::J',0⟩)
  else some (.ret,[(4,bl false)],⟨.cells (a.c.map .d)::.cells (b.c.map .d)::J',0⟩):=by
 have hlt:=ha.1.1.lt;intro m;have key:=aB (E:=E) (T:=TT) (val:=aj) [2,3,5] qF;generalize Cd E TT aj (.loop [2,3,5] qF)=W at key ⊢
 induction m with
 | zero =>
  intro i J hi;refine ⟨J,?_⟩;rw [key,aw (by omega),aw (by omega)];simp [qF,all2,show ¬ ((i:Int)<a.frm.l.length) from by omega]
 | succ m ih =>
  intro i J hi;have h1:i<a.frm.l.length:=by omega
  have h2:i<b.frm.l.length:=by omega
  have hx:=λh=>aA (z:=3) h (ab h1) (cells:=Source.c) rfl;have hy:=λh=>aA (z:=3) h (ab h2) (cells:=Source.c) rfl;have hw:=ax h1 hlt;have hfx:=ha.1.2 _ (bd h1);rw [fU h1 h2];generalize a.frm.l[i]=x at *;generalize b.frm.l[i]=y at *;obtain ⟨J',hJ⟩:=ih (i+1) (J++[.cells (x.c.map .d),.cells (y.c.map .d)]) (by omega);cases hA:all2 Term.eqB x.names.l y.names.l<;>cases hB:all2 Term.eqB x.spaces.l y.spaces.l<;>cases hC:all2 Cidr.eqB x.nets.l y.nets.l
  case true.true.true =>
   refine ⟨J',?_⟩;rw [key];simp [qF,hx,hy,aL,bI,Tr.spares,List.range,List.range.loop,lK hfx.1,lK hfx.2.1,Vf hfx.2.2,hA,hB,hC,hw,Source.same,show ((i:Int)<a.frm.l.length) from by omega];simpa using hJ
  all_goals
   refine ⟨J++[.cells (x.c.map .d),.cells (y.c.map .d)],?_⟩;rw [key];simp [qF,hx,hy,aL,bI,Tr.spares,List.range,List.range.loop,lK hfx.1,lK hfx.2.1,Vf hfx.2.2,hA,hB,hC,Source.same,show ((i:Int)<a.frm.l.length) from by omega]
theorem UH {x y:Target}(hx:short x.ports)(hl:x.ports.l.length=y.ports.l.length){h:Hp}{p q:Nat}{t2 t3 t8:V}(hp:aa h.bs p=some (x.c.map .d))(hq:aa h.bs q=some (y.c.map .d)):∀ (m i:Nat),i+m=x.ports.l.length →
 Cd E TT aj (.loop [2,3,8,9,10,11] qG) [(2,t2),(3,t3),(8,t8),(9,.ptr p 0),(10,.ptr q 0),(11,.d (i64 i))] h =
  if all2 (λx y:Int=>x==y) (x.ports.l.drop i) (y.ports.l.drop i)=true then some (.exit 4,[(2,t2),(3,t3),(8,t8)],h) else some (.ret,[(4,bl false)],h):=by
 have hlt:=hx.lt;intro m;have key:=aB (E:=E) (T:=TT) (val:=aj) [2,3,8,9,10,11] qG;generalize Cd E TT aj (.loop [2,3,8,9,10,11] qG)=W at key ⊢
 induction m with
 | zero =>
  intro i hi;rw [key,aw (by omega),aw (by omega)];simp [qG,all2,hp,show ¬ ((i:Int)<x.ports.l.length) from by omega]
 | succ m ih =>
  intro i hi;have h1:i<x.ports.l.length:=by omega
  have h2:i<y.ports.l.length:=by omega
  have hx:=λh=>aA (z:=1) h (ab h1) (cells:=fE) rfl;have hy:=λh=>aA (z:=1) h (ab h2) (cells:=fE) rfl;have hw:=ax h1 hlt;have:=ih (i+1) (by omega);rw [key,fU h1 h2];generalize x.ports.l[i]=u at *;generalize y.ports.l[i]=w at *;by_cases hu:u=w
  . subst hu;simp [qG,hp,hq,hx,hy,hw,fE,show ((i:Int)<x.ports.l.length) from by omega];simpa using this
  . simp [qG,hp,hq,hx,hy,hu,fE,show ((i:Int)<x.ports.l.length) from by omega]
theorem UI {a b:Rule}(ha:a.fits big)(hl:a.to.l.length=b.to.l.length):∀ (m i:Nat) (J:List Blk),i+m=a.to.l.length →
 ∃ J',Cd E TT aj (.loop [2,3,8] kV) [(2,.ptr 0 0),(3,.ptr 1 0),(8,.d (i64 i))] ⟨.cells (a.c.map .d)::.cells (b.c.map .d)::J,0⟩ =
  if all2 Target.same (a.to.l.drop i) (b.to.l.drop i)=true then some (.exit 2,[(2,.ptr 0 0),(3,.ptr 1 0)],⟨.cells (a.c.map .d)::.cells (b.c.map .d)::J',0⟩)
  else some (.ret,[(4,bl false)],⟨.cells (a.c.map .d)::.cells (b.c.map .d)::J',0⟩):=by
 have hlt:=ha.2.1.1.lt;intro m;have key:=aB (E:=E) (T:=TT) (val:=aj) [2,3,8] kV;generalize Cd E TT aj (.loop [2,3,8] kV)=W at key ⊢
 induction m with
 | zero =>
  intro i J hi;refine ⟨J,?_⟩;rw [key,aw (by omega),aw (by omega)];simp [kV,all2,show ¬ ((i:Int)<a.to.l.length) from by omega]
 | succ m ih =>
  intro i J hi;have h1:i<a.to.l.length:=by omega
  have h2:i<b.to.l.length:=by omega
  have hx:=λh=>aA (z:=4) h (ab h1) (cells:=Target.c) rfl;have hy:=λh=>aA (z:=4) h (ab h2) (cells:=Target.c) rfl;have hw:=ax h1 hlt;have hfx:=ha.2.1.2 _ (bd h1);rw [fU h1 h2];generalize a.to.l[i]=x at *;generalize b.to.l[i]=y at *;obtain ⟨J',hJ⟩:=ih (i+1) (J++[.cells (x.c.map .d),.cells (y.c.map .d)]) (by omega);by_cases hA:all2 Term.eqB x.methods.l y.methods.l=true
  case neg =>
   refine ⟨J++[.cells (x.c.map .d),.cells (y.c.map .d)],?_⟩;simp only [Bool.not_eq_true] at hA;rw [key];simp [kV,hx,hy,aL,bI,Tr.spares,List.range,List.range.loop,lK hfx.2.1,hA,Target.same,show ((i:Int)<a.to.l.length) from by omega]
  by_cases hB:all2 Term.eqB x.paths.l y.paths.l=true
  case neg =>
   refine ⟨J++[.cells (x.c.map .d),.cells (y.c.map .d)],?_⟩;simp only [Bool.not_eq_true] at hB;rw [key];simp [kV,hx,hy,aL,bI,Tr.spares,List.range,List.range.loop,lK hfx.2.1,lK hfx.2.2.1,hA,hB,Target.same,show ((i:Int)<a.to.l.length) from by omega]
  by_cases hC:all2 Term.eqB x.hosts.l y.hosts.l=true
  case neg =>
   refine ⟨J++[.cells (x.c.map .d),.cells (y.c.map .d)],?_⟩;simp only [Bool.not_eq_true] at hC;rw [key];simp [kV,hx,hy,aL,bI,Tr.spares,List.range,List.range.loop,lK hfx.2.1,lK hfx.2.2.1,lK hfx.2.2.2,hA,hB,hC,Target.same,show ((i:Int)<a.to.l.length) from by omega]
  by_cases hD:x.ports.l.length=y.ports.l.length
  case neg =>
   refine ⟨J++[.cells (x.c.map .d),.cells (y.c.map .d)],?_⟩;have hD':¬ ((x.ports.l.length:Int)=y.ports.l.length):=by omega
   rw [key];simp [kV,hx,hy,aL,bI,Tr.spares,List.range,List.range.loop,lK hfx.2.1,lK hfx.2.2.1,lK hfx.2.2.2,hA,hB,hC,hD',gq hD,Target.same,show ((i:Int)<a.to.l.length) from by omega]
  have hin:=UH (E:=E) (x:=x) (y:=y) hfx.1 hD (h:=⟨.cells (a.c.map .d)::.cells (b.c.map .d)::(J++[.cells (x.c.map .d),.cells (y.c.map .d)]),0⟩) (p:=J.length+1+1) (q:=J.length+1+1+1) (t2:=.ptr 0 0) (t3:=.ptr 1 0) (t8:=.d (i64 i)) (by simp) (by simp) x.ports.l.length 0 (by omega);simp at hin;by_cases hF:all2 (λx y:Int=>x==y) x.ports.l y.ports.l=true
  . refine ⟨J',?_⟩;rw [key];simp [kV,hx,hy,aL,bI,Tr.spares,List.range,List.range.loop,lK hfx.2.1,lK hfx.2.2.1,lK hfx.2.2.2,hA,hB,hC,hD,Target.same,show ((i:Int)<a.to.l.length) from by omega];rw [ai];simp [hin,hF,hw];simpa using hJ
  . refine ⟨J++[.cells (x.c.map .d),.cells (y.c.map .d)],?_⟩;rw [key];simp [kV,hx,hy,aL,bI,Tr.spares,List.range,List.range.loop,lK hfx.2.1,lK hfx.2.2.1,lK hfx.2.2.2,hA,hB,hC,hD,Target.same,show ((i:Int)<a.to.l.length) from by omega];rw [ai];simp [hin,hF]
theorem UJ {a b:Rule}(ha:a.fits big)(hl:a.whn.l.length=b.whn.l.length)(J:List Blk):∀ (m i:Nat),i+m=a.whn.l.length →
 Cd E TT aj (.loop [2,3,12] nX) [(2,.ptr 0 0),(3,.ptr 1 0),(12,.d (i64 i))] ⟨.cells (a.c.map .d)::.cells (b.c.map .d)::J,0⟩ =
  if all2 When.same (a.whn.l.drop i) (b.whn.l.drop i)=true then some (.exit 6,[],⟨.cells (a.c.map .d)::.cells (b.c.map .d)::J,0⟩)
  else some (.ret,[(4,bl false)],⟨.cells (a.c.map .d)::.cells (b.c.map .d)::J,0⟩):=by
 have hlt:=ha.2.2.1.lt;intro m;have key:=aB (E:=E) (T:=TT) (val:=aj) [2,3,12] nX;generalize Cd E TT aj (.loop [2,3,12] nX)=W at key ⊢
 induction m with
 | zero =>
  intro i hi;rw [key,aw (by omega),aw (by omega)];simp [nX,all2,show ¬ ((i:Int)<a.whn.l.length) from by omega]
 | succ m ih =>
  intro i hi;have h1:i<a.whn.l.length:=by omega
  have h2:i<b.whn.l.length:=by omega
  have hx:=λh=>aA (z:=2) h (ab h1) (cells:=When.c) rfl;have hy:=λh=>aA (z:=2) h (ab h2) (cells:=When.c) rfl;have hw:=ax h1 hlt;have hfx:=ha.2.2.2 _ (bd h1);have:=ih (i+1) (by omega);rw [key,fU h1 h2];generalize a.whn.l[i]=x at *;generalize b.whn.l[i]=y at *;cases hA:eqS x.head y.head
  case false=>simp [nX,hx,hy,aL,bI,Tr.spares,bR,List.range,List.range.loop,hA,When.same,show ((i:Int)<a.whn.l.length) from by omega]
  cases hB:all2 Term.eqB x.terms.l y.terms.l
  case false=>simp [nX,hx,hy,aL,aC,bI,Tr.spares,List.range,List.range.loop,lK hfx,hA,hB,When.same,show ((i:Int)<a.whn.l.length) from by omega]
  simp [nX,hx,hy,aL,aC,bI,Tr.spares,List.range,List.range.loop,lK hfx,hA,hB,hw,When.same,show ((i:Int)<a.whn.l.length) from by omega];simpa using this
end
section
variable {E:Calls'}
theorem S86 (a b:Rule)(ha:a.fits big)(h:Hp):Sm E TT aj 96 [ag a.c,ag b.c] h=some (bl (a.same b),h):=by
 rw [aY t86 v86];by_cases h1:a.frm.l.length=b.frm.l.length
 case neg =>
  have h1':¬ ((a.frm.l.length:Int)=b.frm.l.length):=by omega
  simp [ae,q86,h1',Rule.same,gq h1]
 by_cases h2:a.to.l.length=b.to.l.length
 case neg =>
  have h1':¬ ((a.to.l.length:Int)=b.to.l.length):=by omega
  simp [ae,q86,h1,h1',Rule.same,gq h2]
 by_cases h3:a.whn.l.length=b.whn.l.length
 case neg =>
  have h1':¬ ((a.whn.l.length:Int)=b.whn.l.length):=by omega
  simp [ae,q86,h1,h2,h1',Rule.same,gq h3]
 obtain ⟨J1,k1⟩:=UG (E:=E) ha h1 a.frm.l.length 0 [] (by omega);obtain ⟨J2,k2⟩:=UI (E:=E) ha h2 a.to.l.length 0 J1 (by omega);have k3:=UJ (E:=E) ha h3 J2 a.whn.l.length 0 (by omega);simp at k1 k2 k3;simp [ae,q86,h1,h2,h3];rw [ai];simp [k1];cases hA:all2 Source.same a.frm.l b.frm.l
 case false=>simp [Rule.same,hA]
 simp;rw [ai];simp [k2];cases hB:all2 Target.same a.to.l b.to.l
 case false=>simp [Rule.same,hA,hB]
 simp;rw [ai];simp [k3];cases hC:all2 When.same a.whn.l b.whn.l
 case false=>simp [Rule.same,hA,hB,hC]
 simp [Rule.same,hA,hB,hC]
theorem L29 {a b:Pol}(ha:a.ok)(hl:a.rules.l.length=b.rules.l.length):∀ (m i:Nat),i+m=a.rules.l.length →
 Cd E TT aj (.loop [2,3,5] qB) [(2,.ptr 0 0),(3,.ptr 1 0),(5,.d (i64 i))] ⟨[.cells (a.c.map .d),.cells (b.c.map .d)],0⟩ =
  if all2 Rule.same (a.rules.l.drop i) (b.rules.l.drop i)=true then some (.exit 0,[],⟨[.cells (a.c.map .d),.cells (b.c.map .d)],0⟩)
  else some (.ret,[(4,bl false)],⟨[.cells (a.c.map .d),.cells (b.c.map .d)],0⟩):=by
 have hlt:=ha.1.lt;intro m;have key:=aB (E:=E) (T:=TT) (val:=aj) [2,3,5] qB;generalize Cd E TT aj (.loop [2,3,5] qB)=W at key ⊢
 induction m with
 | zero =>
  intro i hi;rw [key,aw (by omega),aw (by omega)];simp [qB,all2,show ¬ ((i:Int)<a.rules.l.length) from by omega]
 | succ m ih =>
  intro i hi;have h1:i<a.rules.l.length:=by omega
  have h2:i<b.rules.l.length:=by omega
  have hx:=λh=>aA (z:=3) h (ab h1) (cells:=Rule.c) rfl;have hy:=λh=>aA (z:=3) h (ab h2) (cells:=Rule.c) rfl;have hw:=ax h1 hlt;have hfx:=ha.2 _ (bd h1);have:=ih (i+1) (by omega);rw [key,fU h1 h2];generalize a.rules.l[i]=x at *;generalize b.rules.l[i]=y at *;cases hA:x.same y
  case false=>simp +decide [qB,hx,hy,aL,aC,S86 x y hfx,hA,show ((i:Int)<a.rules.l.length) from by omega]
  simp +decide [qB,hx,hy,aL,aC,S86 x y hfx,hA,hw,show ((i:Int)<a.rules.l.length) from by omega];simpa using this
theorem S29 (a b:Pol)(ha:a.ok)(h:Hp):Sm E TT aj 38 [ag a.c,ag b.c] h=some (bl (a.same b),h):=by
 rw [aY t29 v29];by_cases h1:a.id=b.id
 case neg=>simp [ae,q29,h1,Pol.same]
 cases h2:eqS a.ns b.ns
 case false=>simp [ae,q29,h1,h2,Pol.same]
 by_cases h3:a.service=b.service
 case neg=>simp [ae,q29,h1,h2,h3,Pol.same]
 by_cases h4:a.deny=b.deny
 case neg=>simp [ae,q29,h1,h2,h3,h4,Pol.same]
 by_cases h5:a.rules.l.length=b.rules.l.length
 case neg =>
  have h1':¬ ((a.rules.l.length:Int)=b.rules.l.length):=by omega
  simp [ae,q29,h1,h2,h3,h4,h1',Pol.same,gq h5]
 have k:=L29 (E:=E) ha h5 a.rules.l.length 0 (by omega);simp at k;simp [ae,q29,h1,h2,h3,h4,h5];rw [ai];simp [k];cases hA:all2 Rule.same a.rules.l b.rules.l
 case false=>simp [Pol.same,hA]
 simp [Pol.same,hA,h1,h2,h3,h4]
theorem Av:∀ (l:List Rule),all2 Rule.same (l.map Rule.own) l=true
 | []=>rfl
 | r::l=>by
  have h1:r.own.same r=true:=by
   have:=r.same_refl;simpa [Rule.same,Rule.own] using this
  simp [all2,h1,Av l]
theorem own_same (p:Pol):p.own.same p=true:=by
 simp [Pol.same,Pol.own,Av]
theorem JJ {p:Pol}(hp:p.fits big):p.own.fits big:=by
 have hf:∀ {α:Type} (l:List α),l.isEmpty=true->l=[]:=by intro α l h; cases l<;>simp_all
 refine ⟨⟨by simpa [Pol.own] using hp.1.1,by intro h; simp [Pol.own] at h ⊢; exact h⟩,?_⟩;intro r hr;simp only [Pol.own,cd] at hr;obtain ⟨r0,h0,rfl⟩:=hr;have:=hp.2 r0 h0;exact ⟨⟨⟨this.1.1.1,λh=>hf _ h⟩,this.1.2⟩,⟨⟨this.2.1.1.1,λh=>hf _ h⟩,this.2.1.2⟩,⟨this.2.2.1.1,λh=>hf _ h⟩,this.2.2.2⟩
end
section
variable {E:Calls'}
end
section
variable {E:Calls'}
@[simp] theorem TD (a b:Nat):(a<b\/b<=a)↔True:=⟨λ_=>trivial,λ_=>co a b⟩
@[simp] theorem em' {p:Prop}:(¬ p\/p)↔True:=⟨λ_=>trivial,λ_=>(Classical.em p).symm⟩
end
section
variable {E:Calls'}
theorem lX {n:Int}:∃ m,bK .quo (.d (.int .i64 n)) (.d (.int .i64 64))=some (.int .i64 m):=⟨_,by simp [bK,fB]; rfl⟩
theorem aa8 {s:Sl Term}(hs:short s)(h:Hp):∀ (m i:Nat) (n:Int),i+m=s.l.length →
 ∃ n',Cd E TT aj (.loop [0,3,4] mU) [(0,.d (s.d Term.c)),(3,.d (i64 n)),(4,.d (i64 i))] h=some (.exit 0,[(3,.d (i64 n'))],h):=by
 have hlt:=hs.lt;intro m;have key:=aB (E:=E) (T:=TT) (val:=aj) [0,3,4] mU;generalize Cd E TT aj (.loop [0,3,4] mU)=W at key ⊢
 induction m with
 | zero =>
  intro i n hi;refine ⟨n,?_⟩;rw [key];simp [mU,show ¬ ((i:Int)<s.l.length) from by omega]
 | succ m ih =>
  intro i n hi;have hlt:i<s.l.length:=by omega
  have hx:=λh=>aA (z:=2) h (ab hlt) (cells:=Term.c) rfl;have hw:=ax hlt (by omega);by_cases hn:n<=2000
  . generalize s.l[i]=x at *;obtain ⟨k,hq⟩:=lX (n:=x.text.size);obtain ⟨n',q1⟩:=ih (i+1) (wrap .i64 (n+k)) (by omega);refine ⟨n',?_⟩;rw [key];simp [mU,hx,hq,hw,hn,show ((i:Int)<s.l.length) from by omega];simpa using q1
  . refine ⟨n,?_⟩;rw [key];simp [mU,hn,show ((i:Int)<s.l.length) from by omega]
theorem FC {s:Sl Term}(hs:short s):∃ n':Int,∀ h,Sm E TT aj 64 [.d (s.d Term.c)] h=some (.d (i64 n'),h):=by
 obtain ⟨n',q1⟩:=aa8 (E:=E) hs ⟨[],0⟩ s.l.length 0 s.l.length (by omega);refine ⟨n',λh=>?_⟩;rw [aY ba9 bq3];simp at q1;simp [ae,Ro];rw [ai];simp [q1]
def Tr.mute (t:Tr):Bool:=!t.big&&t.wr.isEmpty&&t.lo==t.hi
theorem aH {pr:List (List Nat)}{l:List Tr}(h:l.all Tr.mute=true):bI pr l=true:=by
 have hm:∀ t∈l,t.big=false/\t.wr=[]/\t.lo=t.hi:=by
  intro t ht;have:=cm.1 h t ht;simp only [Tr.mute,ap,Bool.not_eq_true',List.isEmpty_iff,beq_iff_eq] at this;exact ⟨this.1.1,this.1.2,this.2⟩
 simp only [bI,cm,List.mem_range,Bool.or_eq_true];intro i hi j hj;right;rw [ab hi,ab hj];obtain ⟨a1,a2,a3⟩:=hm _ (bd hi);obtain ⟨b1,b2,b3⟩:=hm _ (bd hj);simp only [Tr.spares,a1,b1,a2,a3,Bool.or_self,bk,if_false];split
 . simp
 . simp only [cm];intro b _;simp
theorem UK {r:Rule}(hr:r.fits big){h:Hp}{q:Nat}{t1 t4:V}(hq:aa h.bs q=some (r.c.map .d)):∀ (m i:Nat) (n:Int),i+m=r.frm.l.length →
 ∃ n',Cd E TT aj (.loop [1,3,4,5,6] qH) [(1,t1),(3,.d (i64 n)),(4,t4),(5,.ptr q 0),(6,.d (i64 i))] h=some (.exit 2,[(1,t1),(3,.d (i64 n')),(4,t4),(5,.ptr q 0)],h):=by
 have hlt:=hr.1.1.lt;intro m;have key:=aB (E:=E) (T:=TT) (val:=aj) [1,3,4,5,6] qH;generalize Cd E TT aj (.loop [1,3,4,5,6] qH)=W at key ⊢
 induction m with
 | zero =>
  intro i n hi;refine ⟨n,?_⟩;rw [key];simp [qH,hq,show ¬ ((i:Int)<r.frm.l.length) from by omega]
 | succ m ih =>
  intro i n hi;have h1:i<r.frm.l.length:=by omega
  have hx:=λh=>aA (z:=3) h (ab h1) (cells:=Source.c) rfl;have hw:=ax h1 hlt;have hfx:=hr.1.2 _ (bd h1);by_cases hn:n<=2000
  . generalize r.frm.l[i]=x at *;obtain ⟨k0,hk0⟩:=FC (E:=E) (s:=x.names) hfx.1;obtain ⟨k1,hk1⟩:=FC (E:=E) (s:=x.spaces) hfx.2.1;rw [key];simp [qH,hq,hx,aL,aC,aH,Tr.mute,hk0,hk1,hw,hn,show ((i:Int)<r.frm.l.length) from by omega];rw [show ((i:Int)+1)=((i+1:Nat):Int) from by omega];exact ih (i+1) _ (by omega)
  . refine ⟨n,?_⟩;rw [key];simp [qH,hq,hn,show ((i:Int)<r.frm.l.length) from by omega]
theorem UL {r:Rule}(hr:r.fits big){h:Hp}{q:Nat}{t1 t4:V}(hq:aa h.bs q=some (r.c.map .d)):∀ (m i:Nat) (n:Int),i+m=r.to.l.length →
 ∃ n',Cd E TT aj (.loop [1,3,4,5,7] qI) [(1,t1),(3,.d (i64 n)),(4,t4),(5,.ptr q 0),(7,.d (i64 i))] h=some (.exit 4,[(1,t1),(3,.d (i64 n')),(4,t4),(5,.ptr q 0)],h):=by
 have hlt:=hr.2.1.1.lt;intro m;have key:=aB (E:=E) (T:=TT) (val:=aj) [1,3,4,5,7] qI;generalize Cd E TT aj (.loop [1,3,4,5,7] qI)=W at key ⊢
 induction m with
 | zero =>
  intro i n hi;refine ⟨n,?_⟩;rw [key];simp [qI,hq,show ¬ ((i:Int)<r.to.l.length) from by omega]
 | succ m ih =>
  intro i n hi;have h1:i<r.to.l.length:=by omega
  have hx:=λh=>aA (z:=4) h (ab h1) (cells:=Target.c) rfl;have hw:=ax h1 hlt;have hfx:=hr.2.1.2 _ (bd h1);by_cases hn:n<=2000
  . generalize r.to.l[i]=x at *;obtain ⟨k0,hk0⟩:=FC (E:=E) (s:=x.methods) hfx.2.1;obtain ⟨k1,hk1⟩:=FC (E:=E) (s:=x.paths) hfx.2.2.1;obtain ⟨k2,hk2⟩:=FC (E:=E) (s:=x.hosts) hfx.2.2.2;rw [key];simp [qI,hq,hx,aL,aC,aH,Tr.mute,hk0,hk1,hk2,hw,hn,show ((i:Int)<r.to.l.length) from by omega];rw [show ((i:Int)+1)=((i+1:Nat):Int) from by omega];exact ih (i+1) _ (by omega)
  . refine ⟨n,?_⟩;rw [key];simp [qI,hq,hn,show ((i:Int)<r.to.l.length) from by omega]
theorem UM {r:Rule}(hr:r.fits big){h:Hp}{q:Nat}{t1 t4:V}(hq:aa h.bs q=some (r.c.map .d)):∀ (m i:Nat) (n:Int),i+m=r.whn.l.length →
 ∃ n',Cd E TT aj (.loop [1,3,4,5,8] qJ) [(1,t1),(3,.d (i64 n)),(4,t4),(5,.ptr q 0),(8,.d (i64 i))] h=some (.exit 6,[(1,t1),(3,.d (i64 n')),(4,t4)],h):=by
 have hlt:=hr.2.2.1.lt;intro m;have key:=aB (E:=E) (T:=TT) (val:=aj) [1,3,4,5,8] qJ;generalize Cd E TT aj (.loop [1,3,4,5,8] qJ)=W at key ⊢
 induction m with
 | zero =>
  intro i n hi;refine ⟨n,?_⟩;rw [key];simp [qJ,hq,show ¬ ((i:Int)<r.whn.l.length) from by omega]
 | succ m ih =>
  intro i n hi;have h1:i<r.whn.l.length:=by omega
  have hx:=λh=>aA (z:=2) h (ab h1) (cells:=When.c) rfl;have hw:=ax h1 hlt;have hfx:=hr.2.2.2 _ (bd h1);by_cases hn:n<=2000
  . generalize r.whn.l[i]=x at *;obtain ⟨k0,hk0⟩:=FC (E:=E) (s:=x.terms) hfx;obtain ⟨w,hw2⟩:=lX (n:=x.head.size);rw [key];simp [qJ,hq,hx,aL,aC,aH,Tr.mute,hk0,hw,hn,hw2,show ((i:Int)<r.whn.l.length) from by omega];rw [show ((i:Int)+1)=((i+1:Nat):Int) from by omega];exact ih (i+1) _ (by omega)
  . refine ⟨n,?_⟩;rw [key];simp [qJ,hq,hn,show ((i:Int)<r.whn.l.length) from by omega]
end
section
variable {E:Calls'}
theorem UN {p:Pol}(hp:p.ok):∀ (m i:Nat) (n:Int) (J:List Blk),i+m=p.rules.l.length →
 ∃ n' J',Cd E TT aj (.loop [1,3,4] qK) [(1,.ptr 0 0),(3,.d (i64 n)),(4,.d (i64 i))] ⟨.cells (p.c.map .d)::J,0⟩=some (.exit 0,[(3,.d (i64 n'))],⟨.cells (p.c.map .d)::J',0⟩):=by
 have hlt:=hp.1.lt;intro m;have key:=aB (E:=E) (T:=TT) (val:=aj) [1,3,4] qK;generalize Cd E TT aj (.loop [1,3,4] qK)=W at key ⊢
 induction m with
 | zero =>
  intro i n J hi;refine ⟨n,J,?_⟩;rw [key];simp [qK,show ¬ ((i:Int)<p.rules.l.length) from by omega]
 | succ m ih =>
  intro i n J hi;have h1:i<p.rules.l.length:=by omega
  have hx:=λh=>aA (z:=3) h (ab h1) (cells:=Rule.c) rfl;have hw:=ax h1 hlt;have hfx:=hp.2 _ (bd h1);by_cases hn:n<=2000
  . generalize p.rules.l[i]=x at *;obtain ⟨n1,q1⟩:=UK (E:=E) hfx (h:=⟨.cells (p.c.map .d)::(J++[.cells (x.c.map .d)]),0⟩) (q:=J.length+1) (t1:=.ptr 0 0) (t4:=.d (i64 i)) (by simp) x.frm.l.length 0 (wrap .i64 (n+wrap .i64 (wrap .i64 (wrap .i64 (1+(x.frm.l.length:Int))+(x.to.l.length:Int))+(x.whn.l.length:Int)))) (by omega);obtain ⟨n2,q2⟩:=UL (E:=E) hfx (h:=⟨.cells (p.c.map .d)::(J++[.cells (x.c.map .d)]),0⟩) (q:=J.length+1) (t1:=.ptr 0 0) (t4:=.d (i64 i)) (by simp) x.to.l.length 0 n1 (by omega);obtain ⟨n3,q3⟩:=UM (E:=E) hfx (h:=⟨.cells (p.c.map .d)::(J++[.cells (x.c.map .d)]),0⟩) (q:=J.length+1) (t1:=.ptr 0 0) (t4:=.d (i64 i)) (by simp) x.whn.l.length 0 n2 (by omega);simp at q1 q2 q3;rw [key];simp [qK,hx,hn,show ((i:Int)<p.rules.l.length) from by omega];rw [ai];simp [q1];rw [ai];simp [q2];rw [ai];simp [q3,hw];rw [show ((i:Int)+1)=((i+1:Nat):Int) from by omega];exact ih (i+1) _ _ (by omega)
  . refine ⟨n,J,?_⟩;rw [key];simp [qK,hn,show ((i:Int)<p.rules.l.length) from by omega]
theorem S87 (p:Pol)(hp:p.ok):∃ n':Int,∀ h,Sm E TT aj 18 [ag p.c] h=some (.d (i64 n'),h):=by
 obtain ⟨k,hk⟩:=lX (n:=p.ns.size);obtain ⟨n',J',q1⟩:=UN (E:=E) hp p.rules.l.length 0 (wrap .i64 (1+k)) [] (by omega);refine ⟨n',λh=>?_⟩;rw [aY t87 v87];simp at q1;simp [ae,q87,hk];rw [ai];simp [q1]
theorem Uu (c:Cfg)(hc:c.ok):∀ (m i:Nat) (n:Int),i+m=c.pods.l.length →
 ∃ n',Cd E TT aj (.loop [1,3,4] qC) [(1,.ptr 0 0),(3,.d (i64 n)),(4,.d (i64 i))] ⟨[.cells (c.c.map .d)],0⟩=some (.exit 0,[(1,.ptr 0 0),(3,.d (i64 n'))],⟨[.cells (c.c.map .d)],0⟩):=by
 have hlt:=hc.1.lt;intro m;have key:=aB (E:=E) (T:=TT) (val:=aj) [1,3,4] qC;generalize Cd E TT aj (.loop [1,3,4] qC)=W at key ⊢
 induction m with
 | zero =>
  intro i n hi;refine ⟨n,?_⟩;rw [key];simp [qC,show ¬ ((i:Int)<c.pods.l.length) from by omega]
 | succ m ih =>
  intro i n hi;have h1:i<c.pods.l.length:=by omega
  have hx:=λh=>aA (z:=7) h (ab h1) (cells:=Pod.c) rfl;have hw:=ax h1 hlt;by_cases hn:n<=2000
  . generalize c.pods.l[i]=x at *;obtain ⟨k,hk⟩:=lX (n:=wrap .i64 ((x.ns.size:Int)+(x.sa.size:Int)));rw [key];simp [qC,hx,hk,hw,hn,show ((i:Int)<c.pods.l.length) from by omega];rw [show ((i:Int)+1)=((i+1:Nat):Int) from by omega];exact ih (i+1) _ (by omega)
  . refine ⟨n,?_⟩;rw [key];simp [qC,hn,show ((i:Int)<c.pods.l.length) from by omega]
theorem Uv (c:Cfg)(hc:c.ok):∀ (m i:Nat) (n:Int),i+m=c.services.l.length →
 ∃ n',Cd E TT aj (.loop [1,3,5] qD) [(1,.ptr 0 0),(3,.d (i64 n)),(5,.d (i64 i))] ⟨[.cells (c.c.map .d)],0⟩=some (.exit 2,[(1,.ptr 0 0),(3,.d (i64 n'))],⟨[.cells (c.c.map .d)],0⟩):=by
 have hlt:=hc.2.1.lt;intro m;have key:=aB (E:=E) (T:=TT) (val:=aj) [1,3,5] qD;generalize Cd E TT aj (.loop [1,3,5] qD)=W at key ⊢
 induction m with
 | zero =>
  intro i n hi;refine ⟨n,?_⟩;rw [key];simp [qD,show ¬ ((i:Int)<c.services.l.length) from by omega]
 | succ m ih =>
  intro i n hi;have h1:i<c.services.l.length:=by omega
  have hx:=λh=>aA (z:=5) h (ab h1) (cells:=Svc.c) rfl;have hw:=ax h1 hlt;by_cases hn:n<=2000
  . generalize c.services.l[i]=x at *;obtain ⟨k,hk⟩:=lX (n:=x.ns.size);rw [key];simp [qD,hx,hk,hw,hn,show ((i:Int)<c.services.l.length) from by omega];rw [show ((i:Int)+1)=((i+1:Nat):Int) from by omega];exact ih (i+1) _ (by omega)
  . refine ⟨n,?_⟩;rw [key];simp [qD,hn,show ((i:Int)<c.services.l.length) from by omega]
theorem Uw (c:Cfg)(hc:c.ok):∀ (m i:Nat) (n:Int),i+m=c.policies.l.length →
 ∃ n',Cd E TT aj (.loop [1,3,6] qE) [(1,.ptr 0 0),(3,.d (i64 n)),(6,.d (i64 i))] ⟨[.cells (c.c.map .d)],0⟩=some (.exit 4,[(3,.d (i64 n'))],⟨[.cells (c.c.map .d)],0⟩):=by
 have hlt:=hc.2.2.2.1.lt;intro m;have key:=aB (E:=E) (T:=TT) (val:=aj) [1,3,6] qE;generalize Cd E TT aj (.loop [1,3,6] qE)=W at key ⊢
 induction m with
 | zero =>
  intro i n hi;refine ⟨n,?_⟩;rw [key];simp [qE,show ¬ ((i:Int)<c.policies.l.length) from by omega]
 | succ m ih =>
  intro i n hi;have h1:i<c.policies.l.length:=by omega
  have hx:=λh=>aA (z:=5) h (ab h1) (cells:=Pol.c) rfl;have hw:=ax h1 hlt;have hfx:=hc.2.2.2.2 _ (bd h1);by_cases hn:n<=2000
  . generalize c.policies.l[i]=x at *;obtain ⟨k,hk⟩:=S87 (E:=E) x hfx;rw [key];simp [qE,hx,hk,hw,hn,show ((i:Int)<c.policies.l.length) from by omega];rw [show ((i:Int)+1)=((i+1:Nat):Int) from by omega];exact ih (i+1) _ (by omega)
  . refine ⟨n,?_⟩;rw [key];simp [qE,hn,show ((i:Int)<c.policies.l.length) from by omega]
theorem S31 (c:Cfg)(hc:c.ok):∃ b:Bool,∀ h,Sm E TT aj 4 [c.v] h=some (bl b,h):=by
 obtain ⟨n1,q1⟩:=Uu (E:=E) c hc c.pods.l.length 0 (wrap .i64 (wrap .i64 ((c.pods.l.length:Int)+(c.services.l.length:Int))+(c.bound.l.length:Int))) (by omega);obtain ⟨n2,q2⟩:=Uv (E:=E) c hc c.services.l.length 0 n1 (by omega);obtain ⟨n3,q3⟩:=Uw (E:=E) c hc c.policies.l.length 0 n2 (by omega);refine ⟨decide (2000<n3),λh=>?_⟩;rw [aY t31 v31];simp at q1 q2 q3;simp [ae,q31];rw [ai];simp [q1];rw [ai];simp [q2];rw [ai];simp [q3]
end
section
def uJ (x i:V)(h:Hp):Option (V×Hp):=match i,x with
 | .d (.int _ i),.d (.str s)=>if 0<=i then (match s.toList[i.toNat]? with | some b=>some (.d (.int .u8 b.toNat),h) | none=>none) else none
 | _,_=>none
section
variable {C:Calls'}{ev:X->V}{h:Hp}
@[simp] theorem WC {x i:X}:opE C (.idxS x i) ev h=uJ (ev x) (ev i) h:=(rfl)
end
theorem iB {s:ByteArray}{k:Nat}{b:UInt8}{h:Hp}(hk:s.toList[k]?=some b):uJ (.d (.str s)) (.d (.int .i64 k)) h=some (.d (.int .u8 b.toNat),h):=by
 simp [uJ,hk]
theorem eX (s:ByteArray):s.toList.length=s.size:=by rw [bJ]; rfl
variable {E:Calls'}
def pV (b:UInt8):Bool:=decide ((b.toNat:Int)<33)||(decide ((b.toNat:Int)>126)||((b.toNat:Int)==42||(b.toNat:Int)==44))
def jX:List UInt8->Bool
 | []=>false
 | b::l=>pV b||jX l
def fO (t:Term):Bool:=!jX t.text.toList&&(if t.kind==4 then eqS t.text ⟨#[]⟩ else decide (1<=t.kind)&&(decide (t.kind<=3)&&(decide ((t.text.size:Int)>=1)&&decide ((t.text.size:Int)<=64))))
theorem ac8 (t:Term)(ht:t.text.size<=big):∀ (m i:Nat),i+m=t.text.size →
 Cd E TT aj (.loop [1,3] jF) [(1,.ptr 0 0),(3,.d (i64 i))] ⟨[.cells (t.c.map .d)],0⟩ =
  if jX (t.text.toList.drop i) then some (.ret,[(2,bl false)],⟨[.cells (t.c.map .d)],0⟩) else some (.exit 0,[(1,.ptr 0 0)],⟨[.cells (t.c.map .d)],0⟩):=by
 have hlt:t.text.size<2 ^ 62:=cg ht (by decide);have hsl:=eX t.text;intro m;have key:=aB (E:=E) (T:=TT) (val:=aj) [1,3] jF;generalize Cd E TT aj (.loop [1,3] jF)=W at key ⊢
 induction m with
 | zero =>
  intro i hi;rw [key,aw (by omega)];simp [jF,jX,show ¬ ((i:Int)<t.text.size) from by omega]
 | succ m ih =>
  intro i hi;have h1:i<t.text.toList.length:=by omega
  have hx:=λh=>iB (h:=h) (ab h1);have hw:=ax (show i<t.text.size by omega) hlt;have:=ih (i+1) (by omega);rw [key,aq h1];generalize t.text.toList[i]=b at *;have h0:((i:Int)<t.text.size):=by omega
  by_cases c1:(b.toNat:Int)<33
  . simp [jF,hx,c1,jX,pV,au,h0]
  . by_cases c2:(b.toNat:Int)>126
    . simp [jF,hx,c1,c2,jX,pV,au,h0]
    . by_cases c3:(b.toNat:Int)=42
      . simp [jF,hx,c3,jX,pV,au,h0]
      . by_cases c4:(b.toNat:Int)=44
        . simp [jF,hx,c4,jX,pV,au,h0]
        . have hb:pV b=false:=by simp [pV,c1,c2,c3,c4]
          simp [jX,hb,jF,hx,c1,c2,c3,c4,au,h0,hw];simpa using this
theorem ao8 (t:Term)(ht:t.text.size<=big)(h:Hp):Sm E TT aj 336 [ag t.c] h=some (bl (fO t),h):=by
 rw [aY bl4 cb1];have k1:=ac8 (E:=E) t ht t.text.size 0 (by omega);simp at k1;simp [ae,SH];rw [ai];simp [k1];cases hb:jX t.text.toList with
 | true=>simp [fO,hb]
 | false =>
  by_cases c0:t.kind=4
  . simp [fO,hb,c0]
  . by_cases c1:t.kind>=1<;>by_cases c2:t.kind<=3<;>by_cases c3:(t.text.size:Int)>=1<;>simp [fO,hb,c0,au,c1,c2,c3]
theorem bp9:TT 354=some (idxQ 2):=bl7
theorem bp6:TT 334=some (anyQ 354):=bl2
theorem bp5:TT 333=some idx1Q:=bl1
theorem bo8:TT 301=some (anyQ 333):=bj8
theorem ao7 (t:Term)(ht:t.text.size<=big)(h:Hp):Sm E TT aj 335 [ag t.c] h=some (bl (!fO t),h):=by
 rw [aM bl3 cb0];simp [ae,SG,ao8 t ht,V.under]
def aU (s:Sl Term):Bool:=decide ((s.l.length:Int)<=6)&&s.l.all fO
theorem ao2 (s:Sl Term)(hs:short s)(ht:∀ t∈s.l,t.text.size<=big)(h:Hp):Sm E TT aj 303 [.d (s.d Term.c)] h=some (bl (aU s),h):=by
 rw [aY bk0 bz8];have hany:=yn (E:=E) (T:=TT) (val:=aj) Term.c (z:=2) bp9 cb4 bp6 ca9 (v:=.d (s.d Term.c)) (es:=s.l) (f:=335) (caps:=[]) (q:=λt=>!fO t) (h:=⟨[],0⟩) (RowIs.of (cells:=Term.c) (z:=2) (λ_=>rfl) _) hs.lt (λe he lo=>ao7 e (ht e he) _);by_cases hm:(s.l.length:Int)<=6
 . simp [ae,Nu,hm,hany,au,aU,← uU]
 . simp [ae,Nu,hm,au,aU]
theorem ao1 (s:Sl Term)(hs:short s)(ht:∀ t∈s.l,t.text.size<=big)(h:Hp):Sm E TT aj 302 [.d (s.d Term.c)] h=some (bl (!aU s),h):=by
 rw [aM bj9 bz7];simp [ae,SC,ao2 s hs ht,V.under]
theorem Qk (ls:List (Sl Term))(hl:ls.length<2 ^ 62)(hs:∀ s∈ls,short s/\∀ t∈s.l,t.text.size<=big)(a:V)(h:Hp)(ha:frz h a=some (.d (.slice false (ls.map λs=>[s.d Term.c])))):Sm E TT aj 255 [a] h=some (bl (ls.all aU),h):=by
 rw [aY bi6 by4];have hr:RowIs ([]:List Blk) (.d (.slice false (ls.map λs=>[s.d Term.c]))) 1 (ls.map λs=>[s.d Term.c]):=⟨by simp,.inl ⟨false,rfl⟩⟩;have hany:=Io (E:=E) (T:=TT) (val:=aj) (Sl.d Term.c) bp5 ca7 bo8 bz6 (es:=ls) (f:=302) (caps:=[]) (q:=λs=>!aU s) (h:=⟨[],0⟩) hr hl (λe he lo=>ao1 e (hs e he).1 (hs e he).2 _);simp [ae,Sz,ha,hany,← uU,ownR,rV,lS]
end
section
def rO (mx:Bool)(l:List V)(h:Hp):Option (V×Hp):=match l with
 | []=>none
 | x::xs=>match iG mx x xs with
  | some v=>some (v,h)
  | none=>none
def IQ (k:IntKind)(x:V)(h:Hp):Option (V×Hp):=match x with
 | .d (.int _ n)=>some (.d (.int k (k.wrap n)),h)
 | _=>none
section
variable {C:Calls'}{ev:X->V}{h:Hp}
@[simp] theorem Q4 {mx:Bool}{a b:X}:opE C (.minmax mx [a,b]) ev h=if okV (ev a)&&(okV (ev b)&&true) then rO mx [ev a,ev b] h else none:=(rfl)
@[simp] theorem TR {k:IntKind}{x:X}:opE C (.convI k x) ev h=IQ k (ev x) h:=(rfl)
@[simp] theorem QB {k k':IntKind}{n:Int}:IQ k (.d (.int k' n)) h=some (.d (.int k (k.wrap n)),h):=(rfl)
@[simp] theorem Wm {k:IntKind}{a b:Int}:rO true [.d (.int k a),.d (.int k b)] h=some (.d (.int k (if b>a then b else a)),h):=by simp [rO,iG]
@[simp] theorem Wl {k:IntKind}{a b:Int}:rO false [.d (.int k a),.d (.int k b)] h=some (.d (.int k (if b<a then b else a)),h):=by simp [rO,iG]
end
section
variable {k k':IntKind}{a b:Int}
theorem mF (hb:0<=b):bK .shl (.d (.int k a)) (.d (.int k' b))=some (.int k (k.wrap (a * 2 ^ (min b.toNat k.bits)))):=by simp [bK,show ¬ b<0 by omega]
theorem iE (hb:0<=b):bK .shr (.d (.int k a)) (.d (.int k' b))=some (.int k (a.fdiv (2 ^ (min b.toNat k.bits)))):=by simp [bK,show ¬ b<0 by omega]
def qZ (k:IntKind)(a b:Int):Int:=k.wrap ((BitVec.ofInt k.bits a &&& ~~~ BitVec.ofInt k.bits b).toNat)
theorem CW:bK .andNot (.d (.int k a)) (.d (.int k b))=some (.int k (qZ k a b)):=by simp [bK,fB,qZ]
end
variable {E:Calls'}
theorem Vk (n:Int)(h:Hp):Sm E TT aj 143 [.d (i64 n)] h=some (bl (decide (n>=1)&&decide (n<=65535)),h):=by
 rw [aY bd1 br8];by_cases c1:n>=1<;>simp [ae,M6,au,c1]
theorem aj4 (n:Int)(h:Hp):Sm E TT aj 148 [.d (u64 n)] h=some (bl (decide (n>=1)&&decide (n<=4611686018427387903)),h):=by
 rw [aY bd6 bt2];by_cases c1:n>=1<;>simp [ae,M8,au,c1]
def rM (n:Int):Int:=wrap .u32 (wrap .u64 (4294967296-wrap .u64 (1 * 2 ^ (min (wrap .i64 (32-n)).toNat 64))))
theorem ao3 (n:Int)(h0:0<=n)(h1:n<=32)(h:Hp):Sm E TT aj 306 [.d (i64 n)] h=some (.d (u32 (rM n)),h):=by
 rw [aY bk5 ca1];have hw:wrap .i64 (32-n)=32-n:=wrap64 (by omega) (by omega);have hs:=mF (k:=.u64) (k':=.i64) (a:=1) (b:=32-n) (by omega);have e1:(if (0:Int)>n then 0 else n)=n:=if_neg (by omega);have e2:(if (32:Int)<n then 32 else n)=n:=if_neg (by omega);simp [ae,SE,hw,hs,e1,e2,rM,IntKind.bits]
def iU (c:Cidr):Bool:=decide (c.bits>=0)&&(decide (c.bits<=32)&&(qZ .u32 c.addr (rM c.bits)==0))
theorem an5 (c:Cidr)(h:Hp):Sm E TT aj 257 [ag c.c] h=some (bl (iU c),h):=by
 rw [aY bi8 by6];by_cases c1:c.bits>=0
 . by_cases c2:c.bits<=32
   . simp +decide [ae,JX,c1,c2,iU,ao3 c.bits c1 c2,CW,aL,aC]
   . simp +decide [ae,JX,c1,c2,iU,aL,bR]
 . simp +decide [ae,JX,c1,iU,aL,bR]
end
section
theorem C9 (s:ByteArray)(pos:Nat)(h:pos<s.size)(ha:¬ (s[pos]'h).toNat<128):128<=(Utf8.decode s pos).1:=by
 have e:s.get! (pos+0)=s[pos]'h:=by
  show s.get! pos=_;simp [ByteArray.get!,getElem!_pos,h];rfl
 simp only [Utf8.decode,e,ha,if_false]
 repeat' split
 all_goals first | (simp only [Utf8.runeError]; omega) | (rename_i hh; simp only [ap,br] at hh; dsimp only; omega) | (rename_i hh; simp only [ap,br] at hh; have:=hh.1; dsimp only; omega) | (dsimp only; omega)
def J7 (x:V)(h:Hp):Option (V×Hp):=match x with
 | .d (.str s)=>some (.ptr h.size 0,{ h with bs:=h.bs++[.iter s 0] })
 | _=>none
def uM (x:V)(h:Hp):Option (V×Hp):=match x with
 | .ptr b 0=>match h.bs[b]? with
  | some (.iter s pos) =>
   if pos<s.size then
    let (c,w):=Utf8.decode s pos
    some (.tup [.d (.bool true),.d (.int .i64 pos),.d (.int .i32 c)],⟨h.bs.set b (.iter s (pos+w)),min h.low b⟩)
   else some (.tup [.d (.bool false)],h)
  | _=>none
 | _=>none
section
variable {C:Calls'}{ev:X->V}{h:Hp}
@[simp] theorem TU {x:X}:opE C (.range x) ev h=J7 (ev x) h:=(rfl)
@[simp] theorem WF {x:X}:opE C (.next x) ev h=uM (ev x) h:=(rfl)
@[simp] theorem XL {s:ByteArray}:J7 (.d (.str s)) ⟨[],0⟩=some (.ptr 0 0,⟨[.iter s 0],0⟩):=(rfl)
end
theorem Gr {s:ByteArray}{pos:Nat}(h:¬ pos<s.size):uM (.ptr 0 0) ⟨[.iter s pos],0⟩=some (.tup [bl false],⟨[.iter s pos],0⟩):=by simp [uM,h]
theorem BF {s:ByteArray}{pos:Nat}{b:UInt8}(hb:s.toList[pos]?=some b)(ha:b.toNat<128):uM (.ptr 0 0) ⟨[.iter s pos],0⟩=some (.tup [bl true,.d (i64 pos),.d (.int .i32 b.toNat)],⟨[.iter s (pos+1)],0⟩):=by
 have hl:=eX s;have h:pos<s.size:=by rw [← hl]; exact (bx.1 hb).1
 have he:s[pos]'h=b:=by
  have:=(bx.1 hb).2;simp only [bJ] at this;exact this
 have hd:=decode_ascii s pos h (by rw [he]; exact ha);simp [uM,h,hd,he]
theorem Gq {s:ByteArray}{pos:Nat}{b:UInt8}(hb:s.toList[pos]?=some b)(ha:¬ b.toNat<128):∃ (c:Nat) (q:Nat),128<=c/\uM (.ptr 0 0) ⟨[.iter s pos],0⟩=some (.tup [bl true,.d (i64 pos),.d (.int .i32 c)],⟨[.iter s q],0⟩):=by
 have hl:=eX s;have h:pos<s.size:=by rw [← hl]; exact (bx.1 hb).1
 have he:s[pos]'h=b:=by
  have:=(bx.1 hb).2;simp only [bJ] at this;exact this
 have hd:=C9 s pos h (by rw [he]; exact ha);exact ⟨(Utf8.decode s pos).1,pos+(Utf8.decode s pos).2,hd,by simp [uM,h]⟩
end
section
end
section
variable {E:Calls'}
def xZ (n i c:Nat):Bool:=!((decide ((c:Int)>=97)&&decide ((c:Int)<=122))||((decide ((c:Int)>=48)&&decide ((c:Int)<=57))||(((c:Int)==45)&&!(((i:Int)==0)||((i:Int)+1==n)))))
def kM (n:Nat):Nat->List UInt8->Bool
 | _,[]=>false
 | i,b::l=>xZ n i b.toNat||kM n (i+1) l
def aZ (s:ByteArray):Bool:=!kM s.size 0 s.toList&&(decide ((s.size:Int)>=1)&&decide ((s.size:Int)<=20))
theorem af0 (s:ByteArray)(i c:Nat)(bs bs':List Blk)(hn:uM (.ptr 0 0) ⟨bs,0⟩=some (.tup [bl true,.d (i64 i),.d (.int .i32 c)],⟨bs',0⟩))(hi:i<s.size)(hs:s.size<2 ^ 62)(W:EA->Hp->dx) :
 bH [0,7] W (Cd E TT aj mW [(0,.d (.str s)),(7,.ptr 0 0)] ⟨bs,0⟩)=(if xZ s.size i c then some (.ret,[(2,bl false)],⟨bs',0⟩) else W [(0,.d (.str s)),(7,.ptr 0 0)] ⟨bs',0⟩):=by
 have hw:=ax hi hs;have e0:∃ t,((i:Int)==0)=t:=⟨_,rfl⟩;obtain ⟨t0,e0⟩:=e0;have e1:∃ t,((i:Int)+1==s.size)=t:=⟨_,rfl⟩;obtain ⟨t1,e1⟩:=e1;by_cases c1:(c:Int)>=97<;>by_cases c2:(c:Int)<=122<;>by_cases c3:(c:Int)>=48<;>by_cases c4:(c:Int)<=57<;>by_cases c5:(c:Int)=45<;>first
  | (exfalso; omega)
  | (simp only [xZ,c1,c2,c3,c4,c5,e0,e1]; cases t0<;>cases t1<;>simp [mW,hn,au,hw,e0,e1,c1,c2,c3,c4,c5])
theorem Bp {n i c:Nat}(h:128<=c):xZ n i c=true:=by
 have h1:¬ ((c:Int)<=122):=by omega
 have h2:¬ ((c:Int)<=57):=by omega
 have h3:¬ ((c:Int)=45):=by omega
 simp [xZ,h1,h2,h3]
theorem ab6 (s:ByteArray)(hs:s.size<2 ^ 62):∀ (m i:Nat),i+m=s.size →
 ∃ q,Cd E TT aj (.loop [0,7] mW) [(0,.d (.str s)),(7,.ptr 0 0)] ⟨[.iter s i],0⟩ =
  if kM s.size i (s.toList.drop i) then some (.ret,[(2,bl false)],⟨[.iter s q],0⟩) else some (.exit 0,[(0,.d (.str s))],⟨[.iter s q],0⟩):=by
 have hsl:=eX s;intro m;have key:=aB (E:=E) (T:=TT) (val:=aj) [0,7] mW;have hk:bq [0,7] [(0,.d (.str s)),(7,.ptr 0 0)]=[(0,.d (.str s)),(7,.ptr 0 0)]:=rfl;have hR:=λi c bs bs' hn hi=>af0 (E:=E) s i c bs bs' hn hi hs;generalize Cd E TT aj (.loop [0,7] mW)=W at key ⊢
 induction m with
 | zero =>
  intro i hi;refine ⟨i,?_⟩;rw [key,aw (by omega)];simp [mW,kM,Gr (show ¬ i<s.size by omega)]
 | succ m ih =>
  intro i hi;have h1:i<s.toList.length:=by omega
  have hb:=ab h1;rw [aq h1];obtain ⟨q,hq⟩:=ih (i+1) (by omega);generalize s.toList[i]=b at *;by_cases ha:b.toNat<128
  . refine ⟨if xZ s.size i b.toNat then i+1 else q,?_⟩;rw [key,hk,hR i b.toNat _ _ (BF hb ha) (by omega) W];cases hl:xZ s.size i b.toNat with
    | true=>simp [kM,hl]
    | false=>simp [kM,hl,hq]
  . obtain ⟨c,q',hc,hn⟩:=Gq hb ha;refine ⟨q',?_⟩;have hl:xZ s.size i b.toNat=true:=Bp (by omega);rw [key,hk,hR i c _ _ hn (by omega) W,Bp hc];simp [kM,hl]
theorem Lh (s:ByteArray)(hs:s.size<=big)(h:Hp):Sm E TT aj 149 [.d (.str s)] h=some (bl (aZ s),h):=by
 rw [aY bd7 bt3];obtain ⟨q,k1⟩:=ab6 (E:=E) s (cg hs (by decide)) s.size 0 (by omega);simp at k1;simp [ae,M9];rw [ai];simp [k1];cases hb:kM s.size 0 s.toList with
 | true=>simp [aZ,hb]
 | false=>by_cases c1:(s.size:Int)>=1<;>simp [aZ,hb,au,c1]
theorem ai9 (a b:ByteArray)(ha:a.size<=big)(hb:b.size<=big)(h:Hp):Sm E TT aj 142 [ag [.str a,.str b]] h=some (bl (aZ a&&aZ b),h):=by
 rw [aY bd0 br7];have h1:=Lh (E:=E) a ha;have h2:=Lh (E:=E) b hb;cases hl:aZ a<;>simp [ae,M5,h1,h2,hl,au]
end
section
variable {E:Calls'}
def tokN:List Int:=[0,0,0,0,0,0,0,0,0,0,0,0,0,0,0,0,0,0,0,0,0,0,0,0,0,0,0,0,0,0,0,0,0,1,0,1,1,1,1,1,0,0,1,1,0,1,1,0,1,1,1,1,1,1,1,1,1,1,0,0,0,0,0,0,0,0,0,0,0,0,0,0,0,0,0,0,0,0,0,0,0,0,0,0,0,0,0,0,0,0,0,0,0,0,1,1,1,1,1,1,1,1,1,1,1,1,1,1,1,1,1,1,1,1,1,1,1,1,1,1,1,1,1,0,1,0,1,0,0,0,0,0,0,0,0,0,0,0,0,0,0,0,0,0,0,0,0,0,0,0,0,0,0,0,0,0,0,0,0,0,0,0,0,0,0,0,0,0,0,0,0,0,0,0,0,0,0,0,0,0,0,0,0,0,0,0,0,0,0,0,0,0,0,0,0,0,0,0,0,0,0,0,0,0,0,0,0,0,0,0,0,0,0,0,0,0,0,0,0,0,0,0,0,0,0,0,0,0,0,0,0,0,0,0,0,0,0,0,0,0,0,0,0,0,0,0,0,0,0,0,0,0,0,0,0,0]
def tokL:List D:=tokN.map i64
theorem Cv:tokL.length=256:=rfl
theorem Z9 (C:Calls'):aW C 300 q477.code [] ⟨[],0⟩=some (.ret,[(0,.ptr 0 0)],⟨[.cells (tokL.map .d),.iter ⟨#[97,98,99,100,101,102,103,104,105,106,107,108,109,110,111,112,113,114,115,116,117,118,119,120,121,122,48,49,50,51,52,53,54,55,56,57,33,35,36,37,38,39,42,43,45,46,94,95,96,124,126]⟩ 51],0⟩):=by kernel_rfl
theorem ao5 (h:Hp):Sm E TT aj 312 [] h=some (ag tokL,h):=by
 rw [aY bl0 ca6];have h1:Cd E TT aj q477.code (jY 0 []) ⟨[],0⟩=_:=gW (k:=0) (Z9 _);have hr:q477.res=[.cell 0 false 256]:=rfl;have hs:=bB Cv;have h2:Bd E TT aj q477 [] ⟨[],0⟩=some (ag tokL,⟨[.cells (tokL.map .d),.iter ⟨#[97,98,99,100,101,102,103,104,105,106,107,108,109,110,111,112,113,114,115,116,117,118,119,120,121,122,48,49,50,51,52,53,54,55,56,57,33,35,36,37,38,39,42,43,45,46,94,95,96,124,126]⟩ 51],0⟩):=by
  show fin q477.res (Cd E TT aj q477.code (jY 0 []) ⟨[],0⟩)=_;rw [h1,hr];generalize tokL=L at hs ⊢;simp [hs]
 simp only [List.mapM_nil,Option.pure_def,qQ,h2,KR,qp,Tu];simp
def Eg (b:UInt8):Int:=tokN.getD b.toNat 0
def kz:List UInt8->Bool
 | []=>false
 | b::l=>Eg b==0||kz l
def iY (s:ByteArray):Bool:=!kz s.toList&&(decide ((s.size:Int)>=1)&&decide ((s.size:Int)<=64))
theorem Tn (b:UInt8):sub tokL b.toNat 1=some [i64 (Eg b)]:=by
 have hb:b.toNat<256:=b.toNat_lt;have hl:tokN.length=256:=rfl;have e1:(tokN.drop b.toNat).take 1=[tokN[b.toNat]]:=by rw [aq (by omega)]; rfl
 rw [tokL,Og,iy,if_pos (by omega),e1,Eg,bm,ab (by omega)];rfl
theorem ac4 (s:ByteArray)(hs:s.size<2 ^ 62):∀ (m i:Nat),i+m=s.size →
 Cd E TT aj (.loop [0,3,4] mZ) [(0,.d (.str s)),(3,.ptr 0 0),(4,.d (i64 i))] ⟨[.cells (tokL.map .d)],0⟩ =
  if kz (s.toList.drop i) then some (.ret,[(2,bl false)],⟨[.cells (tokL.map .d)],0⟩) else some (.exit 0,[(0,.d (.str s))],⟨[.cells (tokL.map .d)],0⟩):=by
 have hsl:=eX s;have htok:=Tn;generalize tokL=TL at htok ⊢;intro m;have key:=aB (E:=E) (T:=TT) (val:=aj) [0,3,4] mZ;generalize Cd E TT aj (.loop [0,3,4] mZ)=W at key ⊢
 induction m with
 | zero =>
  intro i hi;rw [key,aw (by omega)];simp [mZ,kz,show ¬ ((i:Int)<s.size) from by omega]
 | succ m ih =>
  intro i hi;have h1:i<s.toList.length:=by omega
  have hx:=λh=>iB (h:=h) (ab h1);have hw:=ax (show i<s.size by omega) hs;have:=ih (i+1) (by omega);rw [key,aq h1];generalize s.toList[i]=b at *;have h0:((i:Int)<s.size):=by omega
  have hb:b.toNat<256:=b.toNat_lt;have hix:∀ h,eY (some 256) 1 (.ptr 0 0) (.d (.int .u8 b.toNat)) h=some (.ptr 0 b.toNat,h):=λh=>by simp [eY]; omega
  by_cases c1:Eg b=0
  . simp [mZ,hx,hix,htok,c1,kz,h0]
  . have c2:(Eg b==0)=false:=by simpa using c1
    simp [mZ,hx,hix,htok,c2,kz,h0,hw];simpa using this
theorem an6 (s:ByteArray)(hs:s.size<=big)(h:Hp):Sm E TT aj 265 [.d (.str s)] h=some (bl (iY s),h):=by
 rw [aY bj4 bz2];have k1:=ac4 (E:=E) s (cg hs (by decide)) s.size 0 (by omega);have h477:=ao5 (E:=E);have hl:=Cv;generalize hTL:tokL=TL at *;simp at k1;simp [ae,SA,h477,hl];rw [ai];simp [k1];cases hb:kz s.toList with
 | true=>simp [iY,hb]
 | false=>by_cases c1:(s.size:Int)>=1<;>simp [iY,hb,au,c1]
end
