/- slices.IndexFunc over rows of scalars, slices.ContainsFunc, policy.all: at any width. -/
import Derived.Test.YtmcchclfpneglaaGreatQl
import Derived.Test.YtmcchclfpneglaaGreatF8
import Derived.KernelRfl
import Derived.Laws.RangeString
set_option maxRecDepth 100000
set_option linter.unusedVariables false
set_option linter.unusedSimpArgs false
namespace Go.Proofs.YtmcchclfpneglaaGreat
open IntKind (wrap)
section
section
variable {E:Calls'}{T:FuncId->Option QF}{val:FuncId->Bool}
theorem FE {α:Type}{cell:α->D}{bs:List Blk}{lo:Nat}{v:V}{es:List α}(hr:RowIs bs v 1 (es.map fun x=>[cell x])){f:FuncId}{caps:List V}{q:α->Bool}(hlen:es.length<2 ^ 62)
 (hf:∀ e∈es,Sm E T val f (.d (cell e)::caps) ⟨bs,lo⟩=some (.d (.bool (q e)),⟨bs,lo⟩)):∀ (m i:Nat),i+m=es.length →
   Cd E T val (.loop [0,1,7,8] ww) [(0,v),(1,.fn f caps),(7,.d (.int .i64 es.length)),(8,.d (.int .i64 i))] ⟨bs,lo⟩ =
    match (es.drop i).findIdx? q with
    | some k=>some (.ret,[(4,.d (.int .i64 (i+k:Nat)))],⟨bs,lo⟩)
    | none=>some (.exit 0,[],⟨bs,lo⟩):=by
 intro m;have key:=aC (E:=E) (T:=T) (val:=val) [0,1,7,8] ww;generalize Cd E T val (.loop [0,1,7,8] ww)=W at key ⊢
 induction m with
 | zero =>
  intro i hi;have h0:es.drop i=[]:=ba (by omega);rw [key];simp [ww,h0,show ¬ ((i:Int)<es.length) from by omega]
 | succ m ih =>
  intro i hi;have hlt:i<es.length:=by omega
  have hd:es.drop i=es[i]::es.drop (i+1):=aw hlt;obtain ⟨p,hp1,hp2⟩:=hr.at hlt (l:=lo);have hv:=hr.ok;have hcall:=hf _ (bh hlt);generalize es[i]=x at *;rw [key,hd];cases hq:q x with
  | true=>simp [ww,hv,hp1,ldv,hp2,hcall,hq,List.findIdx?_cons,show ((i:Int)<es.length) from by omega]
  | false =>
   have hw:wrap .i64 ((i:Int)+1)=((i+1:Nat):Int):=by rw [wrap64]<;>omega
   have:=ih (i+1) (by omega);simp [ww,hv,hp1,ldv,hp2,hcall,hq,List.findIdx?_cons,hw,show ((i:Int)<es.length) from by omega];rw [show ((i:Int)+1)=((i+1:Nat):Int) from by omega,this];cases hfi:(es.drop (i+1)).findIdx? q with
   | none=>rfl
   | some k=>simp; omega
theorem NN {α:Type}(cell:α->D){id:FuncId}(ht:T id=some idx1Q)(hvl:val id=false){v:V}{es:List α}{f:FuncId}{caps:List V}{q:α->Bool}{h:Hp}(hr:RowIs h.bs v 1 (es.map fun x=>[cell x]))(hlen:es.length<2 ^ 62)
 (hf:∀ e∈es,∀ lo,Sm E T val f (.d (cell e)::caps) ⟨h.bs,lo⟩=some (.d (.bool (q e)),⟨h.bs,lo⟩)):Sm E T val id [v,.fn f caps] h=some (.d (.int .i64 (cu es q)),h):=by
 rw [aN ht hvl];have hl:=FE hr hlen (fun e he=>hf e he h.bs.length) es.length 0 (by omega);have hv:=hr.ok;have hn:=hr.lenT;simp [idx1Q,ae,hv,hn,cu];rw [au];simp at hl;simp [hl];cases es.findIdx? q with
 | none=>simp [V.under]
 | some k=>simp [V.under]
theorem kw {α:Type}(es:List α)(q:α->Bool):decide (cu es q>=0)=es.any q:=by
 rcases gL es q with ⟨h1,h2⟩ | ⟨k,e,h1,h2,h3⟩
 · rw [h2];have:es.any q=false:=by
    rw [List.any_eq_false];intro x hx;simpa using List.find?_eq_none.1 h1 x hx
   rw [this]; rfl
 · rw [h2];have:es.any q=true:=List.any_eq_true.2 ⟨e,List.mem_of_find?_eq_some h1,List.find?_some h1⟩;rw [this];simp
theorem RowIs.okv {bs:List Blk}{v:V}{z:Nat}{es:List (List D)}(h:RowIs bs v z es):okV v=true:=by
 rcases h.2 with ⟨nl,rfl⟩ | ⟨b,o,cap,cs,rfl,_⟩<;>rfl
theorem CB {id idx:FuncId}(ht:T id=some (anyQ idx))(hv:val id=false){v:V}{f:FuncId}{caps:List V}{n:Int}{h:Hp}(hnu:nu v=some v)(hok:okV v=true)(hi:Sm E T val idx [v,.fn f caps] ⟨h.bs,h.bs.length⟩=some (.d (.int .i64 n),⟨h.bs,h.bs.length⟩)) :
 Sm E T val id [v,.fn f caps] h=some (bl (decide (n>=0)),h):=by
 rw [aN ht hv];simp [anyQ,ae,hnu,hok,hi,V.under]
theorem S_any {α:Type}(cells:α->List D){z:Nat}{idx id:FuncId}(hti:T idx=some (idxQ z))(hvi:val idx=false)(ht:T id=some (anyQ idx))(hv:val id=false){v:V}{es:List α}{f:FuncId}{caps:List V}{q:α->Bool}{h:Hp}(hr:RowIs h.bs v z (es.map cells))(hlen:es.length<2 ^ 62)
 (hf:∀ e∈es,∀ lo,Sm E T val f (.agg ((cells e).map .d)::caps) ⟨h.bs,lo⟩=some (.d (.bool (q e)),⟨h.bs,lo⟩)):Sm E T val id [v,.fn f caps] h=some (bl (es.any q),h):=by
 rw [CB ht hv hr.ok hr.okv (S_idx (h:=⟨h.bs,h.bs.length⟩) cells hti hvi hr hlen hf),kw]
theorem G7 {α:Type}(cell:α->D){idx id:FuncId}(hti:T idx=some idx1Q)(hvi:val idx=false)(ht:T id=some (anyQ idx))(hv:val id=false){v:V}{es:List α}{f:FuncId}{caps:List V}{q:α->Bool}{h:Hp}(hr:RowIs h.bs v 1 (es.map fun x=>[cell x]))(hlen:es.length<2 ^ 62)
 (hf:∀ e∈es,∀ lo,Sm E T val f (.d (cell e)::caps) ⟨h.bs,lo⟩=some (.d (.bool (q e)),⟨h.bs,lo⟩)):Sm E T val id [v,.fn f caps] h=some (bl (es.any q),h):=by
 rw [CB ht hv hr.ok hr.okv (NN (h:=⟨h.bs,h.bs.length⟩) cell hti hvi hr hlen hf),kw]
theorem SN {id:FuncId}{z:Nat}(ht:T id=some (notQ z))(hv:val id=false){c:List D}(hc:c.length=z){f:FuncId}{x:Nat}{p:Bool}{h:Hp}(hp:af h.bs x=some [.fn f []])
 (hf:∀ h,Sm E T val f [ag c] h=some (bl p,h)):Sm E T val id [ag c,.ptr x 0] h=some (bl (!p),h):=by
 rw [aN ht hv];have hs:=bH hc;simp [notQ,ae,ax hp,hf,hs,V.under]
theorem NP {id:FuncId}(ht:T id=some not1Q)(hv:val id=false){c:D}{f:FuncId}{x:Nat}{p:Bool}{h:Hp}(hp:af h.bs x=some [.fn f []])
 (hf:∀ h,Sm E T val f [.d c] h=some (bl p,h)):Sm E T val id [.d c,.ptr x 0] h=some (bl (!p),h):=by
 rw [aN ht hv];simp [not1Q,ae,hp,hf,V.under]
theorem uL {α:Type}(l:List α)(p:α->Bool):(!l.any fun x=>!p x)=l.all p:=by
 induction l with
 | nil=>rfl
 | cons x l ih=>simp only [List.any_cons,List.all_cons,Bool.not_or,Bool.not_not,ih]
theorem Ad {α:Type}{cells:α->List D}{z:Nat}{idx con clo id:FuncId}(hti:T idx=some (idxQ z))(hvi:val idx=false)(htc:T con=some (anyQ idx))(hvc:val con=false)(htn:T clo=some (notQ z))(hvn:val clo=false)(ht:T id=some (allQ con clo))(hv:val id=true)
 (hz:∀ x,(cells x).length=z) {s:Sl α} (hs:short s) {m:Int} {f:FuncId} {p:α->Bool} (hf:∀ e∈s.l,∀ h,Sm E T val f [ag (cells e)] h=some (bl (p e),h)) (h:Hp) :
 Sm E T val id [.d (i64 m),.d (s.d cells),.fn f []] h=some (bl (decide ((s.l.length:Int)<=m)&&s.l.all p),h):=by
 rw [aV ht hv];have hfr:frz h (.fn f [])=some (.fn f []):=rfl;have hlen:s.l.length<2 ^ 62:=hs.lt;have hany:=S_any (E:=E) (T:=T) (val:=val) cells (z:=z) hti hvi htc hvc (v:=.d (s.d cells)) (es:=s.l) (f:=clo) (caps:=[.ptr 0 0]) (q:=fun x=>!p x) (h:=⟨[.cells [.fn f []]],0⟩) (RowIs.of hz _) hlen (fun e he lo=>SN htn hvn (hz e) (by simp [af]) (hf e he));by_cases hm:(s.l.length:Int)<=m
 · simp [ae,allQ,hfr,hm,hany,az,iE,← uL]
 · simp [ae,allQ,hfr,hm,hany,az,iE]
theorem NM {α:Type}{cell:α->D}{idx con clo id:FuncId}(hti:T idx=some idx1Q)(hvi:val idx=false)(htc:T con=some (anyQ idx))(hvc:val con=false)(htn:T clo=some not1Q)(hvn:val clo=false)(ht:T id=some (allQ con clo))(hv:val id=true)
 {s:Sl α} (hs:short s) {m:Int} {f:FuncId} {p:α->Bool} (hf:∀ e∈s.l,∀ h,Sm E T val f [.d (cell e)] h=some (bl (p e),h)) (h:Hp) :
 Sm E T val id [.d (i64 m),.d (s.d fun x=>[cell x]),.fn f []] h=some (bl (decide ((s.l.length:Int)<=m)&&s.l.all p),h):=by
 rw [aV ht hv];have hfr:frz h (.fn f [])=some (.fn f []):=rfl;have hlen:s.l.length<2 ^ 62:=hs.lt;have hany:=G7 (E:=E) (T:=T) (val:=val) cell hti hvi htc hvc (v:=.d (s.d fun x=>[cell x])) (es:=s.l) (f:=clo) (caps:=[.ptr 0 0]) (q:=fun x=>!p x) (h:=⟨[.cells [.fn f []]],0⟩) (RowIs.of (cells:=fun x=>[cell x]) (z:=1) (fun _=>rfl) _) hlen (fun e he lo=>NP htn hvn (by simp [af]) (hf e he));by_cases hm:(s.l.length:Int)<=m
 · simp [ae,allQ,hfr,hm,hany,az,iE,← uL]
 · simp [ae,allQ,hfr,hm,hany,az,iE]
end
end
section
theorem uo {z:Nat}:∀ {es:List (List D)} {ds:List D},(∀ e∈es,e.length=z)->dataV.chunks z (es.flatten++ds) es.length=es
 | [],_,_=>rfl
 | e::es,ds,h=>by
  have he:=h e (by simp);have ih:=uo (es:=es) (ds:=ds) (fun e he=>h e (List.mem_cons_of_mem _ he));have h1:List.take z (e++(es.flatten++ds))=e:=by rw [← he]; simp
  have h2:List.drop z (e++(es.flatten++ds))=es.flatten++ds:=by rw [← he]; simp
  simp only [List.flatten_cons,List.append_assoc,cf,dataV.chunks,h1,h2,ih]
def flat (es:List (List D)):List V:=es.flatten.map .d
theorem flat_cons (e:List D)(es:List (List D)):flat (e::es)=e.map .d++flat es:=by simp [flat]
theorem jE (a b:List (List D)):flat (a++b)=flat a++flat b:=by simp only [flat,List.flatten_append,List.map_append]
@[simp] theorem qL:flat []=[]:=rfl
theorem flat_len {z:Nat}{es:List (List D)}(hz:∀ e∈es,e.length=z):(flat es).length=es.length * z:=by
 simp only [flat,bx,nz hz]
theorem dX {h:Hp}{k b z n:Nat}{cap:Option Nat}{es:List (List D)}{rest:List V}(hz:∀ e∈es,e.length=z)(hn:n=es.length)(hb:af h.bs b=some (flat es++rest)) :
 dataV h (k+1) (.row b 0 n cap z)=some (.slice false es):=by
 subst hn;have hl:=flat_len hz;have hs:sub (flat es++rest) 0 (es.length * z)=some (flat es):=by
  rw [eY,if_pos (by rw [ap,hl]; omega),List.drop_zero,← hl,List.take_left]
 have hc:=uo (ds:=[]) hz;rw [List.append_nil] at hc;simp only [dataV,get_eq,hb,hs];simp only [flat,pX,hc]
section
variable {E:Calls'}{T:FuncId->Option QF}{val:FuncId->Bool}
def dx (z:Nat)(nl:Bool)(es:List (List D))(bs:List Blk)(lo:Nat):V×Hp:=match nl,es with
 | true,_=>(.d (.slice true []),⟨bs,lo⟩)
 | false,[]=>(.row bs.length 0 0 (some 0) z,⟨bs++[.cells []],lo⟩)
 | false,e::es=>(.row (bs.length+1) 0 (es.length+1) none z,⟨bs++[.cells [],.cells (flat (e::es))],lo⟩)
theorem Ec {z b:Nat}{zero:List V}(hz0:0<z)(hb:b<=4096){nl:Bool}{es:List (List D)}(hz:∀ e∈es,e.length=z)(hlen:es.length<=big)(bs:List Blk)(lo:Nat) :
 Bd E T val (cloneQ z b zero) [.d (.slice nl es)] ⟨bs,lo⟩=some (dx z nl es bs lo):=by
 have hzz:z≠0:=by omega
 cases nl with
 | true=>simp [cloneQ,ae,dx]
 | false =>
  cases es with
  | nil=>simp [cloneQ,ae,dZ,aD,aF,hzz,dx]
  | cons e es =>
   have hrc:aD ⟨bs++[.cells []],lo⟩ (.d (.slice false (e::es))) z=some (es.length+1,flat (e::es)):=by
    have hall:((e::es).all fun e=>e.length==z)=true:=ch.2 fun x hx=>by simp [hz x hx]
    simp only [aD,hall,if_true,flat]; rfl
   generalize hF:flat (e::es)=F at hrc;have hr:roomy (es.length+1) b=true:=by
    simp only [roomy,aq,br];exact ⟨hlen,hb⟩
   simp [cloneQ,ae,dZ,hrc,aF,hzz,hr,dx,hF]
theorem vG {α:Type}{cells:α->List D}{z b:Nat}{zero:List V}{id:FuncId}(ht:T id=some (cloneQ z b zero))(hv:val id=true)(hz0:0<z)(hb:b<=4096)(hz:∀ x,(cells x).length=z){s:Sl α}(hs:short s)(h:Hp) :
 Sm E T val id [.d (s.d cells)] h=some (.d (s.d cells),h):=by
 rw [aV ht hv];obtain ⟨nl,l⟩:=s;have hl:∀ e∈l.map cells,e.length=z:=by simp; intro a _; exact hz a
 have hB:=Ec (E:=E) (T:=T) (val:=val) (zero:=zero) hz0 hb (nl:=nl) hl (by simpa using hs.1) [] 0;simp only [Sl.d];simp only [List.mapM_cons,List.mapM_nil,Da,Option.pure_def,Option.bind_eq_bind,Option.bind_some,lq,hB,zX];cases nl with
 | true=>have:=hs.2 rfl; simp at this; subst this; simp [dx]
 | false =>
  cases l with
  | nil =>
   have:=dX (h:=⟨[.cells []],0⟩) (k:=7) (b:=0) (n:=0) (cap:=some 0) (es:=[]) (z:=z) (rest:=[]) (by simp) rfl rfl;simp [dx,this]
  | cons x l =>
   have:=dX (h:=⟨[.cells [],.cells (flat ((x::l).map cells))],0⟩) (k:=7) (b:=1) (n:=l.length+1) (cap:=none) (es:=(x::l).map cells) (rest:=[]) hl (by simp) (by simp);simp only [cm] at this;simp [dx,this]
theorem qF {z b:Nat}{zero:List V}{id:FuncId}(ht:T id=some (cloneQ z b zero))(hv:val id=false)(hz0:0<z)(hb:b<=4096){nl:Bool}{es:List (List D)}(hz:∀ e∈es,e.length=z)(hlen:es.length<=big)(h:Hp) :
 Sm E T val id [.d (.slice nl es)] h=some ((dx z nl es h.bs h.low).1,⟨(dx z nl es h.bs h.low).2.bs,if nl then h.low else min h.low h.bs.length⟩):=by
 rw [aN ht hv,Ec hz0 hb hz hlen];cases nl with
 | true=>simp [dU,dx,V.under]
 | false=>cases es<;>simp [dU,dx,V.under]<;>(intro hh; omega)
section
variable {α:Type}{cells:α->List D}{z:Nat}(hz:∀ x,(cells x).length=z){es:List α}{bs0:List Blk}{b:Nat}
include hz
end
theorem rZ {h:Hp}{ev:X->V}{b len z:Nat}{cap:Option Nat}{x:X}{n:Nat}(hx:ev x=.d (.int .i64 n))(hn:n<=len):bP h ev .sl z (.row b 0 len cap z) none (some x) none=some (.row b 0 n cap z):=by
 simp only [bP,cZ,hx];rw [if_pos (by omega)];simp only [Int.toNat_natCast];rw [if_pos ⟨by omega,by omega,trivial⟩];simp
end
structure Acc (base:List Blk) (z:Nat) (acc:List (List D)) (bs:List Blk) (v:V):Prop where
 len:base.length<=bs.length
 old:∀ x,x<base.length->bs[x]?=base[x]?
 is:(acc=[]/\v=.d (.slice true []))\/(acc≠[]/\∃ b,base.length<=b/\v=.row b 0 acc.length none z/\af bs b=some (flat acc))
 wid:∀ e∈acc,e.length=z
theorem Acc.nil (base:List Blk)(z:Nat):Acc base z [] base (.d (.slice true [])):=⟨bp _,fun _ _=>rfl,.inl ⟨rfl,rfl⟩,by simp⟩
theorem Acc.nu {base:List Blk}{z:Nat}{acc:List (List D)}{bs:List Blk}{v:V}(h:Acc base z acc bs v):nu v=some v:=by
 rcases h.is with ⟨_,rfl⟩ | ⟨_,b,_,rfl,_⟩<;>rfl
theorem Acc.get {base:List Blk}{z:Nat}{acc:List (List D)}{bs:List Blk}{v:V}(h:Acc base z acc bs v){x:Nat}{cs:List V}(hx:af base x=some cs):af bs x=some cs:=by
 have:=h.old x (aI hx);unfold af at hx ⊢;rw [this]; exact hx
theorem Acc.lay {base:List Blk}{z:Nat}{acc:List (List D)}{bs:List Blk}{v:V}(h:Acc base z acc bs v)(ys:List Blk):Acc base z acc (bs++ys) v:=by
 have:=h.len;refine ⟨by simp; omega,fun x hx=>by rw [ao (by omega)]; exact h.old x hx,?_,h.wid⟩;rcases h.is with h1 | ⟨h1,b,h2,h3,h4⟩
 · exact .inl h1
 · exact .inr ⟨h1,b,h2,h3,ax h4⟩
theorem Acc.app {base:List Blk}{z:Nat}{acc:List (List D)}{bs:List Blk}{v:V}(h:Acc base z acc bs v)(hz0:0<z){by_:Nat}(hby:by_<=4096){e:List D}(he:e.length=z)(hl:acc.length<big)(lo:Nat){r:Nat}{cap:Option Nat}(hr:af bs r=some (e.map .d)) :
 ∃ v' bs' lo',dZ ⟨bs,lo⟩ z by_ v (.row r 0 1 cap z)=some (v',⟨bs',lo'⟩)/\Acc base z (acc++[e]) bs' v':=by
 have hrc:aD ⟨bs,lo⟩ (.row r 0 1 cap z) z=some (1,e.map .d):=by
  have:sub (e.map V.d) 0 z=some (e.map .d):=bH (by simpa using he);simp only [aD,if_true,get_eq,hr,Nat.one_mul,this,Option.map_some]
 have hroom:∀ n,n<=big->roomy n by_=true:=fun n hn=>by simp only [roomy,aq,br]; exact ⟨hn,hby⟩
 have hw:∀ x∈acc++[e],x.length=z:=by
  intro x hx;rcases List.mem_append.1 hx with hx | hx
  · exact h.wid x hx
  · simp at hx; subst hx; exact he
 have hne:acc++[e]≠[]:=by simp
 have hlen:=h.len;rcases h.is with ⟨h1,rfl⟩ | ⟨h1,b,h2,rfl,h4⟩
 · subst h1;refine ⟨_,_,_,by simp only [dZ,hrc,aF,if_neg (show ¬ (1=0) by decide),if_neg (show ¬ z=0 by omega),hroom 1 (by decide),if_true]; rfl,?_⟩;refine ⟨by simp; omega,fun x hx=>?_,.inr ⟨hne,bs.length,hlen,rfl,?_⟩,hw⟩
   · simp only [Hp.alloc]; rw [ao (by omega)]; exact h.old x hx
   · simp [Hp.alloc,flat]
 · have hf:=flat_len h.wid;have hsub:sub (flat acc) 0 (acc.length * z)=some (flat acc):=bH hf;have hpos:0<(flat acc).length:=by
    rw [hf];exact Nat.mul_pos (List.length_pos_iff.2 h1) hz0
   have hbl:=aI h4;refine ⟨_,_,_,by simp only [dZ,hrc,aF,ne_eq,not_true_eq_false,false_or,if_neg (show ¬ (1=0) by decide),if_neg (show ¬ z=0 by omega),get_eq,h4,hsub,hroom (acc.length+1) (by omega),Bool.not_true,bm,if_false,hpos,and_self,if_true]; rfl,?_⟩;refine ⟨by simp [Hp.alloc,Hp.set]; omega,fun x hx=>?_,.inr ⟨hne,bs.length,hlen,by simp [Hp.size],?_⟩,hw⟩
   · simp only [Hp.alloc,Hp.set];rw [ao (by simp; omega),am (by omega)];exact h.old x hx
   · simp only [Hp.alloc,Hp.set];have:af (bs.set b (.cells [])++[.cells (flat acc++e.map .d)]) (bs.set b (.cells [])).length=some (flat acc++e.map .d):=by rw [di]; rfl
     rw [List.length_set] at this;rw [this,jE,flat_cons,qL,List.append_nil]
theorem Acc.dat {base:List Blk}{z:Nat}{acc:List (List D)}{bs:List Blk}{v:V}(h:Acc base z acc bs v)(lo k:Nat):dataV ⟨bs,lo⟩ (k+1) v=some (.slice acc.isEmpty acc):=by
 rcases h.is with ⟨rfl,rfl⟩ | ⟨h1,b,_,rfl,h4⟩
 · rfl
 · rw [dX h.wid rfl (rest:=[]) (by simpa using h4)];cases acc with
   | nil=>exact absurd rfl h1
   | cons x l=>rfl
theorem Acc.frz {base:List Blk}{z:Nat}{acc:List (List D)}{bs:List Blk}{v:V}(h:Acc base z acc bs v)(lo:Nat):frz ⟨bs,lo⟩ v=some (.d (.slice acc.isEmpty acc))/\bQ ⟨bs,lo⟩ v=some (.d (.slice acc.isEmpty acc)):=by
 have h1:=h.dat lo 7;rcases h.is with ⟨rfl,rfl⟩ | ⟨_,b,_,rfl,_⟩
 · exact ⟨rfl,rfl⟩
 · simp only [yY,Ik,h1,and_self]
theorem Acc.tup {base:List Blk}{z:Nat}{acc:List (List D)}{bs:List Blk}{v:V}(h:Acc base z acc bs v):bG [v]=v:=rfl
end
section
def am5:List (Nat×QF):=[(13,q29),(4,q31),(5,q32),(20,q41),(51,q42),(77,q46),(31,q86),(14,q87),(22,q91),(23,q92),(24,q93),(25,q94),(34,Ja),(99,Lc),(36,Jb),(42,Gj),(38,Jc),(39,Jd),(80,O6),(82,O7),(47,xJ),(92,Ld),(93,Le),(32,O8),(44,Gl),(45,Gm),(46,Gn),(48,wK),(50,BI),(53,BJ),(56,Lf),(60,BK),(61,Lh),(65,Dl),(67,Lj),(68,Ll),(69,Lm),(70,Lp),(71,Lr),(72,Ls),(73,Lt),(74,Lu),(75,Lv),(76,Lx),(94,LB),(95,BL),(96,Pw),(109,LC),(128,wM),(104,LD),(116,LF),(117,LG),(118,PG),(119,Je),(120,PH),(121,LH),(122,LJ),(123,LK),(124,PI),(125,PK),(126,PM),(127,BM),(129,PN),(130,LM),(131,LP),(132,Uy),(133,PO),(141,Uz),(142,PU),(143,UA),(144,PV),(145,UB),(146,PW),(179,LW),(152,Jf),(155,PX),(156,UC),(157,PY),(158,L6),(159,UD),(160,PZ),(161,UE),(162,P5),(163,UF),(164,P6),(166,UG),(167,UH),(168,P7),(196,UI),(197,UJ),(198,UK),(199,P8),(200,UL),(202,UM),(203,P9),(204,Qb),(205,UN),(206,Qc),(207,Qd),(208,Qe),(209,UO),(210,Qf),(234,UQ),(235,UR),(236,UT),(237,Qg),(238,UU),(239,Ji),(240,UV),(241,UW),(243,UX),(245,UY),(246,UZ),(247,Qh),(248,U0),(249,Qi),(258,U1),(259,U2),(260,Qj),(261,Mf),(262,U3),(263,U4),(264,Qk),(265,U5),(267,U6),(268,U7),(269,U8),(270,q477),(273,U9),(274,Va),(275,Qm),(276,Qn),(277,Vb),(287,Vd),(288,Ve)]
def TT:FuncId->Option QF:=kz am5
def aj (f:FuncId):Bool:=[13,4,5,20,51,77,31,14,23,24,25,38,80,82,47,92,93,32,50,53,60,65,67,68,69,70,71,75,95,96,128,116,117,118,122,123,124,126,129,141,142,143,144,145,146,179,156,157,158,166,167,168,198,199,200,202,203,237,238,239,243,247,261,264,270,276].any fun n=>Nat.beq n f
theorem t29:TT 13=some q29:=by kernel_rfl
theorem v29:aj 13=true:=by kernel_rfl
theorem t31:TT 4=some q31:=by kernel_rfl
theorem v31:aj 4=true:=by kernel_rfl
theorem t32:TT 5=some q32:=by kernel_rfl
theorem v32:aj 5=true:=by kernel_rfl
theorem t41:TT 20=some q41:=by kernel_rfl
theorem v41:aj 20=true:=by kernel_rfl
theorem t42:TT 51=some q42:=by kernel_rfl
theorem v42:aj 51=true:=by kernel_rfl
theorem t46:TT 77=some q46:=by kernel_rfl
theorem v46:aj 77=true:=by kernel_rfl
theorem t86:TT 31=some q86:=by kernel_rfl
theorem v86:aj 31=true:=by kernel_rfl
theorem t87:TT 14=some q87:=by kernel_rfl
theorem v87:aj 14=true:=by kernel_rfl
theorem t91:TT 22=some q91:=by kernel_rfl
theorem v91:aj 22=false:=by kernel_rfl
theorem t92:TT 23=some q92:=by kernel_rfl
theorem v92:aj 23=true:=by kernel_rfl
theorem t93:TT 24=some q93:=by kernel_rfl
theorem v93:aj 24=true:=by kernel_rfl
theorem t94:TT 25=some q94:=by kernel_rfl
theorem v94:aj 25=true:=by kernel_rfl
theorem ab7:TT 34=some Ja:=by kernel_rfl
theorem aq8:aj 34=false:=by kernel_rfl
theorem ab8:TT 99=some Lc:=by kernel_rfl
theorem aq9:aj 99=false:=by kernel_rfl
theorem Vk:TT 36=some Jb:=by kernel_rfl
theorem Vy:aj 36=false:=by kernel_rfl
theorem Vl:TT 42=some Gj:=by kernel_rfl
theorem Vz:aj 42=false:=by kernel_rfl
theorem ab9:TT 38=some Jc:=by kernel_rfl
theorem ar0:aj 38=true:=by kernel_rfl
theorem t109:TT 39=some Jd:=by kernel_rfl
theorem v109:aj 39=false:=by kernel_rfl
theorem Vm:TT 80=some O6:=by kernel_rfl
theorem VA:aj 80=true:=by kernel_rfl
theorem Vn:TT 82=some O7:=by kernel_rfl
theorem VB:aj 82=true:=by kernel_rfl
theorem DW:TT 47=some xJ:=by kernel_rfl
theorem D8:aj 47=true:=by kernel_rfl
theorem t183:TT 92=some Ld:=by kernel_rfl
theorem v183:aj 92=true:=by kernel_rfl
theorem ac0:TT 93=some Le:=by kernel_rfl
theorem ar1:aj 93=true:=by kernel_rfl
theorem ac1:TT 32=some O8:=by kernel_rfl
theorem ar2:aj 32=true:=by kernel_rfl
theorem Vo:TT 44=some Gl:=by kernel_rfl
theorem VC:aj 44=false:=by kernel_rfl
theorem Vp:TT 45=some Gm:=by kernel_rfl
theorem VD:aj 45=false:=by kernel_rfl
theorem Vq:TT 46=some Gn:=by kernel_rfl
theorem VE:aj 46=false:=by kernel_rfl
theorem JM:TT 48=some wK:=by kernel_rfl
theorem VF:aj 48=false:=by kernel_rfl
theorem ac2:TT 50=some BI:=by kernel_rfl
theorem ar3:aj 50=true:=by kernel_rfl
theorem t193:TT 53=some BJ:=by kernel_rfl
theorem v193:aj 53=true:=by kernel_rfl
theorem t196:TT 56=some Lf:=by kernel_rfl
theorem v196:aj 56=false:=by kernel_rfl
theorem ac3:TT 60=some BK:=by kernel_rfl
theorem ar4:aj 60=true:=by kernel_rfl
theorem t201:TT 61=some Lh:=by kernel_rfl
theorem v201:aj 61=false:=by kernel_rfl
theorem ac4:TT 65=some Dl:=by kernel_rfl
theorem ar5:aj 65=true:=by kernel_rfl
theorem ac5:TT 67=some Lj:=by kernel_rfl
theorem ar6:aj 67=true:=by kernel_rfl
theorem t208:TT 68=some Ll:=by kernel_rfl
theorem v208:aj 68=true:=by kernel_rfl
theorem ac6:TT 69=some Lm:=by kernel_rfl
theorem ar7:aj 69=true:=by kernel_rfl
theorem t210:TT 70=some Lp:=by kernel_rfl
theorem v210:aj 70=true:=by kernel_rfl
theorem ac7:TT 71=some Lr:=by kernel_rfl
theorem ar8:aj 71=true:=by kernel_rfl
theorem t212:TT 72=some Ls:=by kernel_rfl
theorem v212:aj 72=false:=by kernel_rfl
theorem t213:TT 73=some Lt:=by kernel_rfl
theorem ar9:aj 73=false:=by kernel_rfl
theorem ac8:TT 74=some Lu:=by kernel_rfl
theorem as0:aj 74=false:=by kernel_rfl
theorem ac9:TT 75=some Lv:=by kernel_rfl
theorem as2:aj 75=true:=by kernel_rfl
theorem ad1:TT 76=some Lx:=by kernel_rfl
theorem as3:aj 76=false:=by kernel_rfl
theorem t229:TT 94=some LB:=by kernel_rfl
theorem v229:aj 94=false:=by kernel_rfl
theorem Cj:TT 95=some BL:=by kernel_rfl
theorem Cn:aj 95=true:=by kernel_rfl
theorem ad2:TT 96=some Pw:=by kernel_rfl
theorem as4:aj 96=true:=by kernel_rfl
theorem ad3:TT 109=some LC:=by kernel_rfl
theorem as5:aj 109=false:=by kernel_rfl
theorem ad4:TT 128=some wM:=by kernel_rfl
theorem as6:aj 128=true:=by kernel_rfl
theorem ad5:TT 104=some LD:=by kernel_rfl
theorem as7:aj 104=false:=by kernel_rfl
theorem ad6:TT 116=some LF:=by kernel_rfl
theorem as8:aj 116=true:=by kernel_rfl
theorem ad7:TT 117=some LG:=by kernel_rfl
theorem as9:aj 117=true:=by kernel_rfl
theorem ad8:TT 118=some PG:=by kernel_rfl
theorem at0:aj 118=true:=by kernel_rfl
theorem ad9:TT 119=some Je:=by kernel_rfl
theorem at1:aj 119=false:=by kernel_rfl
theorem ae0:TT 120=some PH:=by kernel_rfl
theorem VG:aj 120=false:=by kernel_rfl
theorem ae1:TT 121=some LH:=by kernel_rfl
theorem at5:aj 121=false:=by kernel_rfl
theorem ae2:TT 122=some LJ:=by kernel_rfl
theorem at6:aj 122=true:=by kernel_rfl
theorem ae3:TT 123=some LK:=by kernel_rfl
theorem at7:aj 123=true:=by kernel_rfl
theorem ae4:TT 124=some PI:=by kernel_rfl
theorem au0:aj 124=true:=by kernel_rfl
theorem ae5:TT 125=some PK:=by kernel_rfl
theorem au1:aj 125=false:=by kernel_rfl
theorem ae6:TT 126=some PM:=by kernel_rfl
theorem au2:aj 126=true:=by kernel_rfl
theorem ae7:TT 127=some BM:=by kernel_rfl
theorem au3:aj 127=false:=by kernel_rfl
theorem ae8:TT 129=some PN:=by kernel_rfl
theorem au4:aj 129=true:=by kernel_rfl
theorem ae9:TT 130=some LM:=by kernel_rfl
theorem au5:aj 130=false:=by kernel_rfl
theorem af0:TT 131=some LP:=by kernel_rfl
theorem au6:aj 131=false:=by kernel_rfl
theorem af1:TT 132=some Uy:=by kernel_rfl
theorem au7:aj 132=false:=by kernel_rfl
theorem af2:TT 133=some PO:=by kernel_rfl
theorem au8:aj 133=false:=by kernel_rfl
theorem af3:TT 141=some Uz:=by kernel_rfl
theorem au9:aj 141=true:=by kernel_rfl
theorem af4:TT 142=some PU:=by kernel_rfl
theorem av0:aj 142=true:=by kernel_rfl
theorem af5:TT 143=some UA:=by kernel_rfl
theorem av1:aj 143=true:=by kernel_rfl
theorem af6:TT 144=some PV:=by kernel_rfl
theorem av2:aj 144=true:=by kernel_rfl
theorem af7:TT 145=some UB:=by kernel_rfl
theorem av3:aj 145=true:=by kernel_rfl
theorem af8:TT 146=some PW:=by kernel_rfl
theorem av4:aj 146=true:=by kernel_rfl
theorem af9:TT 179=some LW:=by kernel_rfl
theorem av5:aj 179=true:=by kernel_rfl
theorem ag0:TT 152=some Jf:=by kernel_rfl
theorem av6:aj 152=false:=by kernel_rfl
theorem ag1:TT 155=some PX:=by kernel_rfl
theorem VH:aj 155=false:=by kernel_rfl
theorem ag2:TT 156=some UC:=by kernel_rfl
theorem av7:aj 156=true:=by kernel_rfl
theorem ag3:TT 157=some PY:=by kernel_rfl
theorem av8:aj 157=true:=by kernel_rfl
theorem ag4:TT 158=some L6:=by kernel_rfl
theorem av9:aj 158=true:=by kernel_rfl
theorem ag5:TT 159=some UD:=by kernel_rfl
theorem aw0:aj 159=false:=by kernel_rfl
theorem ag6:TT 160=some PZ:=by kernel_rfl
theorem aw1:aj 160=false:=by kernel_rfl
theorem ag7:TT 161=some UE:=by kernel_rfl
theorem aw2:aj 161=false:=by kernel_rfl
theorem ag8:TT 162=some P5:=by kernel_rfl
theorem aw3:aj 162=false:=by kernel_rfl
theorem ag9:TT 163=some UF:=by kernel_rfl
theorem aw4:aj 163=false:=by kernel_rfl
theorem ah0:TT 164=some P6:=by kernel_rfl
theorem aw5:aj 164=false:=by kernel_rfl
theorem ah1:TT 166=some UG:=by kernel_rfl
theorem aw6:aj 166=true:=by kernel_rfl
theorem ah2:TT 167=some UH:=by kernel_rfl
theorem aw7:aj 167=true:=by kernel_rfl
theorem ah3:TT 168=some P7:=by kernel_rfl
theorem aw8:aj 168=true:=by kernel_rfl
theorem ah4:TT 196=some UI:=by kernel_rfl
theorem aw9:aj 196=false:=by kernel_rfl
theorem ah5:TT 197=some UJ:=by kernel_rfl
theorem ax0:aj 197=false:=by kernel_rfl
theorem ah6:TT 198=some UK:=by kernel_rfl
theorem ax1:aj 198=true:=by kernel_rfl
theorem ah7:TT 199=some P8:=by kernel_rfl
theorem ax2:aj 199=true:=by kernel_rfl
theorem ah8:TT 200=some UL:=by kernel_rfl
theorem ax3:aj 200=true:=by kernel_rfl
theorem ah9:TT 202=some UM:=by kernel_rfl
theorem ax4:aj 202=true:=by kernel_rfl
theorem ai0:TT 203=some P9:=by kernel_rfl
theorem ax5:aj 203=true:=by kernel_rfl
theorem ai1:TT 204=some Qb:=by kernel_rfl
theorem ax6:aj 204=false:=by kernel_rfl
theorem ai2:TT 205=some UN:=by kernel_rfl
theorem ax7:aj 205=false:=by kernel_rfl
theorem ai3:TT 206=some Qc:=by kernel_rfl
theorem ax8:aj 206=false:=by kernel_rfl
theorem ai4:TT 207=some Qd:=by kernel_rfl
theorem ax9:aj 207=false:=by kernel_rfl
theorem ai5:TT 208=some Qe:=by kernel_rfl
theorem ay0:aj 208=false:=by kernel_rfl
theorem ai6:TT 209=some UO:=by kernel_rfl
theorem ay1:aj 209=false:=by kernel_rfl
theorem ai7:TT 210=some Qf:=by kernel_rfl
theorem ay2:aj 210=false:=by kernel_rfl
theorem ai8:TT 234=some UQ:=by kernel_rfl
theorem ay3:aj 234=false:=by kernel_rfl
theorem ai9:TT 235=some UR:=by kernel_rfl
theorem ay4:aj 235=false:=by kernel_rfl
theorem aj0:TT 236=some UT:=by kernel_rfl
theorem ay5:aj 236=false:=by kernel_rfl
theorem aj1:TT 237=some Qg:=by kernel_rfl
theorem ay6:aj 237=true:=by kernel_rfl
theorem aj2:TT 238=some UU:=by kernel_rfl
theorem ay7:aj 238=true:=by kernel_rfl
theorem aj3:TT 239=some Ji:=by kernel_rfl
theorem ay8:aj 239=true:=by kernel_rfl
theorem aj4:TT 240=some UV:=by kernel_rfl
theorem ay9:aj 240=false:=by kernel_rfl
theorem aj5:TT 241=some UW:=by kernel_rfl
theorem az0:aj 241=false:=by kernel_rfl
theorem aj6:TT 243=some UX:=by kernel_rfl
theorem az1:aj 243=true:=by kernel_rfl
theorem aj7:TT 245=some UY:=by kernel_rfl
theorem az2:aj 245=false:=by kernel_rfl
theorem aj8:TT 246=some UZ:=by kernel_rfl
theorem az3:aj 246=false:=by kernel_rfl
theorem aj9:TT 247=some Qh:=by kernel_rfl
theorem az4:aj 247=true:=by kernel_rfl
theorem ak0:TT 248=some U0:=by kernel_rfl
theorem az5:aj 248=false:=by kernel_rfl
theorem ak1:TT 249=some Qi:=by kernel_rfl
theorem az6:aj 249=false:=by kernel_rfl
theorem ak2:TT 258=some U1:=by kernel_rfl
theorem az7:aj 258=false:=by kernel_rfl
theorem ak3:TT 259=some U2:=by kernel_rfl
theorem az8:aj 259=false:=by kernel_rfl
theorem ak4:TT 260=some Qj:=by kernel_rfl
theorem az9:aj 260=false:=by kernel_rfl
theorem ak5:TT 261=some Mf:=by kernel_rfl
theorem ba0:aj 261=true:=by kernel_rfl
theorem ak6:TT 262=some U3:=by kernel_rfl
theorem ba1:aj 262=false:=by kernel_rfl
theorem ak7:TT 263=some U4:=by kernel_rfl
theorem ba2:aj 263=false:=by kernel_rfl
theorem ak8:TT 264=some Qk:=by kernel_rfl
theorem ba3:aj 264=true:=by kernel_rfl
theorem ak9:TT 265=some U5:=by kernel_rfl
theorem ba4:aj 265=false:=by kernel_rfl
theorem al0:TT 267=some U6:=by kernel_rfl
theorem ba5:aj 267=false:=by kernel_rfl
theorem al1:TT 268=some U7:=by kernel_rfl
theorem ba6:aj 268=false:=by kernel_rfl
theorem al2:TT 269=some U8:=by kernel_rfl
theorem ba7:aj 269=false:=by kernel_rfl
theorem al3:TT 270=some q477:=by kernel_rfl
theorem ba8:aj 270=true:=by kernel_rfl
theorem al4:TT 273=some U9:=by kernel_rfl
theorem ba9:aj 273=false:=by kernel_rfl
theorem al5:TT 274=some Va:=by kernel_rfl
theorem bb4:aj 274=false:=by kernel_rfl
theorem al6:TT 275=some Qm:=by kernel_rfl
theorem bb5:aj 275=false:=by kernel_rfl
theorem al7:TT 276=some Qn:=by kernel_rfl
theorem bb6:aj 276=true:=by kernel_rfl
theorem al8:TT 277=some Vb:=by kernel_rfl
theorem bb7:aj 277=false:=by kernel_rfl
theorem al9:TT 287=some Vd:=by kernel_rfl
theorem bb8:aj 287=false:=by kernel_rfl
theorem am0:TT 288=some Ve:=by kernel_rfl
theorem bb9:aj 288=false:=by kernel_rfl
theorem ET:mQ Tryz.prog TT:=gW (oks (by kernel_rfl) (by decide +kernel))
end
section
variable {E:Calls'}
theorem X4 (p:Pod)(b:Int)(x:Nat)(h:Hp)(hp:af h.bs x=some [.d (u64 b)]):Sm E TT aj 99 [p.v,.ptr x 0] h=some (bl (p.uid==b),h):=by
 rw [aN ab8 aq9];simp [ae,Lc,ax hp,V.under]
theorem Yr (p:Svc)(b:Int)(x:Nat)(h:Hp)(hp:af h.bs x=some [.d (u64 b)]):Sm E TT aj 94 [p.v,.ptr x 0] h=some (bl (p.id==b),h):=by
 rw [aN t229 v229];simp [ae,LB,ax hp,V.under]
theorem Ab {s:Sl Pod}(hs:short s){x:Nat}{n:Int}{h:Hp}(hp:af h.bs x=some [.d (u64 n)]):Sm E TT aj 34 [.d (s.d Pod.c),.fn 99 [.ptr x 0]] h=some (.d (i64 (cu s.l fun p=>p.uid==n)),h) :=
 S_idx Pod.c (z:=7) ab7 aq8 (RowIs.of (cells:=Pod.c) (fun _=>rfl) _) hs.lt fun p _ lo=>X4 p n x _ hp
theorem Ac {s:Sl Svc}(hs:short s){x:Nat}{n:Int}{h:Hp}(hp:af h.bs x=some [.d (u64 n)]):Sm E TT aj 36 [.d (s.d Svc.c),.fn 94 [.ptr x 0]] h=some (.d (i64 (cu s.l fun p=>p.id==n)),h) :=
 S_idx Svc.c (z:=5) Vk Vy (RowIs.of (cells:=Svc.c) (fun _=>rfl) _) hs.lt fun p _ lo=>Yr p n x _ hp
theorem S42 (c:Cfg)(hc:c.ok)(n:Int)(h:Hp):Sm E TT aj 51 [c.v,.d (u64 n)] h=some (.tup (match c.pods.l.find? (fun p=>p.uid==n) with | some p=>[p.v,bl true] | none=>[pod0.v,bl false]),h):=by
 rw [aV t42 v42];rcases gL c.pods.l (fun p=>p.uid==n) with ⟨h1,h2⟩ | ⟨k,p,h1,h2,h3⟩
 · simp [ae,q42,Ab hc.1,h1,h2,pod0];first | done | rfl
 · simp [ae,q42,Ab hc.1,h1,h2,ay (z:=7) _ h3 (cells:=Pod.c) rfl];first | done | rfl
theorem X5 (c:Cfg)(hc:c.ok)(n:Int)(h:Hp):Sm E TT aj 38 [c.v,.d (u64 n)] h=some (.tup (match c.services.l.find? (fun p=>p.id==n) with | some p=>[p.v,bl true] | none=>[svc0.v,bl false]),h):=by
 rw [aV ab9 ar0];rcases gL c.services.l (fun p=>p.id==n) with ⟨h1,h2⟩ | ⟨k,p,h1,h2,h3⟩
 · simp [ae,Jc,Ac hc.2.1,h1,h2,svc0];first | done | rfl
 · simp [ae,Jc,Ac hc.2.1,h1,h2,ay (z:=5) _ h3 (cells:=Svc.c) rfl];first | done | rfl
theorem L46 (c:Cfg)(hc:short c.pods)(n:Int)(bs:List Blk)(lo:Nat)(hb:af bs 0=some (c.c.map .d)):∀ (m i:Nat),i+m=c.pods.l.length →
 Cd E TT aj (.loop [1,2,5] qh) [(1,.d (u64 n)),(2,.ptr 0 0),(5,.d (i64 i))] ⟨bs,lo⟩ =
  match (c.pods.l.drop i).findIdx? (fun p=>p.uid==n) with
  | some k=>some (.ret,[(4,.d (i64 (i+k:Nat)))],⟨bs,lo⟩)
  | none=>some (.exit 0,[],⟨bs,lo⟩):=by
 have hlt:=hc.lt;intro m;have key:=aC (E:=E) (T:=TT) (val:=aj) [1,2,5] qh;generalize Cd E TT aj (.loop [1,2,5] qh)=W at key ⊢
 induction m with
 | zero =>
  intro i hi;have h0:c.pods.l.drop i=[]:=ba (by omega);rw [key];simp [qh,hb,h0,Sl.d,show ¬ ((i:Int)<c.pods.l.length) from by omega]
 | succ m ih =>
  intro i hi;have hlt:i<c.pods.l.length:=by omega
  have hd:c.pods.l.drop i=c.pods.l[i]::c.pods.l.drop (i+1):=aw hlt;have hg:c.pods.l[i]?=some c.pods.l[i]:=ac hlt;generalize c.pods.l[i]=x at *;have hx:=fun h=>ay (z:=7) h hg (cells:=Pod.c) rfl;rw [key,hd];have hl:nG false (.d (Sl.d Pod.c c.pods)) ⟨bs,lo⟩=some (.d (i64 c.pods.l.length),⟨bs,lo⟩):=by simp [Sl.d]
  by_cases hq:x.uid=n
  · simp [qh,hb,hl,hx,hq,List.findIdx?_cons,show ((i:Int)<c.pods.l.length) from by omega]
  · have hq':(x.uid==n)=false:=by simpa using hq
    have hw:wrap .i64 ((i:Int)+1)=((i+1:Nat):Int):=by rw [wrap64]<;>omega
    have:=ih (i+1) (by omega);simp [qh,hb,hl,hx,hq',hq,List.findIdx?_cons,hw,show ((i:Int)<c.pods.l.length) from by omega];rw [show ((i:Int)+1)=((i+1:Nat):Int) from by omega,this];cases hfi:(c.pods.l.drop (i+1)).findIdx? (fun p=>p.uid==n) with
    | none=>rfl
    | some k=>simp; omega
theorem S46 (c:Cfg)(hc:c.ok)(n:Int)(h:Hp):Sm E TT aj 77 [c.v,.d (u64 n)] h=some (.d (i64 (cu c.pods.l fun p=>p.uid==n)),h):=by
 rw [aV t46 v46];have hl:=L46 (E:=E) c hc.1 n [.cells (c.c.map .d)] 0 rfl c.pods.l.length 0 (by omega);simp at hl;simp [q46,ae];rw [au];simp [hl,cu];cases c.pods.l.findIdx? (fun p=>p.uid==n)<;>simp
theorem Xn (c:Cfg)(hc:short c.services)(n:Int)(bs:List Blk)(lo:Nat)(hb:af bs 0=some (c.c.map .d)):∀ (m i:Nat),i+m=c.services.l.length →
 Cd E TT aj (.loop [1,2,5] ma) [(1,.d (u64 n)),(2,.ptr 0 0),(5,.d (i64 i))] ⟨bs,lo⟩ =
  match (c.services.l.drop i).findIdx? (fun p=>p.id==n) with
  | some k=>some (.ret,[(4,.d (i64 (i+k:Nat)))],⟨bs,lo⟩)
  | none=>some (.exit 0,[],⟨bs,lo⟩):=by
 have hlt:=hc.lt;intro m;have key:=aC (E:=E) (T:=TT) (val:=aj) [1,2,5] ma;generalize Cd E TT aj (.loop [1,2,5] ma)=W at key ⊢
 induction m with
 | zero =>
  intro i hi;have h0:c.services.l.drop i=[]:=ba (by omega);rw [key];simp [ma,hb,h0,Sl.d,show ¬ ((i:Int)<c.services.l.length) from by omega]
 | succ m ih =>
  intro i hi;have hlt:i<c.services.l.length:=by omega
  have hd:c.services.l.drop i=c.services.l[i]::c.services.l.drop (i+1):=aw hlt;have hg:c.services.l[i]?=some c.services.l[i]:=ac hlt;generalize c.services.l[i]=x at *;have hx:=fun h=>ay (z:=5) h hg (cells:=Svc.c) rfl;rw [key,hd];have hl:nG false (.d (Sl.d Svc.c c.services)) ⟨bs,lo⟩=some (.d (i64 c.services.l.length),⟨bs,lo⟩):=by simp [Sl.d]
  by_cases hq:x.id=n
  · simp [ma,hb,hl,hx,hq,List.findIdx?_cons,show ((i:Int)<c.services.l.length) from by omega]
  · have hq':(x.id==n)=false:=by simpa using hq
    have hw:wrap .i64 ((i:Int)+1)=((i+1:Nat):Int):=by rw [wrap64]<;>omega
    have:=ih (i+1) (by omega);simp [ma,hb,hl,hx,hq',hq,List.findIdx?_cons,hw,show ((i:Int)<c.services.l.length) from by omega];rw [show ((i:Int)+1)=((i+1:Nat):Int) from by omega,this];cases hfi:(c.services.l.drop (i+1)).findIdx? (fun p=>p.id==n) with
    | none=>rfl
    | some k=>simp; omega
theorem X6 (c:Cfg)(hc:c.ok)(n:Int)(h:Hp):Sm E TT aj 80 [c.v,.d (u64 n)] h=some (.d (i64 (cu c.services.l fun p=>p.id==n)),h):=by
 rw [aV Vm VA];have hl:=Xn (E:=E) c hc.2.1 n [.cells (c.c.map .d)] 0 rfl c.services.l.length 0 (by omega);simp at hl;simp [O6,ae];rw [au];simp [hl,cu];cases c.services.l.findIdx? (fun p=>p.id==n)<;>simp
theorem Xo (c:Cfg)(hc:short c.bound)(n:Int)(bs:List Blk)(lo:Nat)(hb:af bs 0=some (c.c.map .d)):∀ (m i:Nat),i+m=c.bound.l.length →
 Cd E TT aj (.loop [1,2,5] mf) [(1,.d (u64 n)),(2,.ptr 0 0),(5,.d (i64 i))] ⟨bs,lo⟩ =
  match (c.bound.l.drop i).findIdx? (fun p=>p.id==n) with
  | some k=>some (.ret,[(4,.d (i64 (i+k:Nat)))],⟨bs,lo⟩)
  | none=>some (.exit 0,[],⟨bs,lo⟩):=by
 have hlt:=hc.lt;intro m;have key:=aC (E:=E) (T:=TT) (val:=aj) [1,2,5] mf;generalize Cd E TT aj (.loop [1,2,5] mf)=W at key ⊢
 induction m with
 | zero =>
  intro i hi;have h0:c.bound.l.drop i=[]:=ba (by omega);rw [key];simp [mf,hb,h0,Sl.d,show ¬ ((i:Int)<c.bound.l.length) from by omega]
 | succ m ih =>
  intro i hi;have hlt:i<c.bound.l.length:=by omega
  have hd:c.bound.l.drop i=c.bound.l[i]::c.bound.l.drop (i+1):=aw hlt;have hg:c.bound.l[i]?=some c.bound.l[i]:=ac hlt;generalize c.bound.l[i]=x at *;have hx:=fun h=>ay (z:=2) h hg (cells:=Way.c) rfl;rw [key,hd];have hl:nG false (.d (Sl.d Way.c c.bound)) ⟨bs,lo⟩=some (.d (i64 c.bound.l.length),⟨bs,lo⟩):=by simp [Sl.d]
  by_cases hq:x.id=n
  · simp [mf,hb,hl,hx,hq,List.findIdx?_cons,show ((i:Int)<c.bound.l.length) from by omega]
  · have hq':(x.id==n)=false:=by simpa using hq
    have hw:wrap .i64 ((i:Int)+1)=((i+1:Nat):Int):=by rw [wrap64]<;>omega
    have:=ih (i+1) (by omega);simp [mf,hb,hl,hx,hq',hq,List.findIdx?_cons,hw,show ((i:Int)<c.bound.l.length) from by omega];rw [show ((i:Int)+1)=((i+1:Nat):Int) from by omega,this];cases hfi:(c.bound.l.drop (i+1)).findIdx? (fun p=>p.id==n) with
    | none=>rfl
    | some k=>simp; omega
theorem X7 (c:Cfg)(hc:c.ok)(n:Int)(h:Hp):Sm E TT aj 82 [c.v,.d (u64 n)] h=some (.d (i64 (cu c.bound.l fun p=>p.id==n)),h):=by
 rw [aV Vn VB];have hl:=Xo (E:=E) c hc.2.2.1 n [.cells (c.c.map .d)] 0 rfl c.bound.l.length 0 (by omega);simp at hl;simp [O7,ae];rw [au];simp [hl,cu];cases c.bound.l.findIdx? (fun p=>p.id==n)<;>simp
end
section
section
variable {E:Calls'}{T:FuncId->Option QF}{val:FuncId->Bool}
def FR (z b:Nat)(zero:List V):QC:=(sr [op 11 (bt .lss 10 9)] (.seq (.cond (.t 11) .skip (.exit 0 [5])) (.seq (.block 1 (sr [op 12 (.idxA none z (.t 8) (.t 10)),op 13 (.load false z (.t 12)),op 7 (.new zero),⟨none,none,.store z (.t 7) (.t 13)⟩] (.reg none [mv 14 5,mv 15 1,op 16 (.load false z (.t 7)),op 17 (kt' 15 [.t 16]),op 18 (.buildS z 1 zero [(0,z,(.t 17))]),op 19 (.app z b (.t 14) (.t 18)),mv 5 19]))) (.reg none [op 20 (bc .add 10 1),mv 10 20]))))
def mapQ (z b:Nat)(zero:List V):QF:=⟨22,[.tmp 4],(sr [op 4 (.mov (.c zs0))] (sr [op 5 (.mov (.c zs0))] (.seq (sr [mv 8 0,op 9 (ln' 8),oc' 10 0] (.block 0 (.loop [1,5,8,9,10] (FR z b zero)))) (sr [mv 21 5,mv 4 21] (.ret [4])))))⟩
theorem IE {α:Type}{cells:α->List D}{z by_:Nat}(hz:∀ x,(cells x).length=z)(hz0:0<z)(hby:by_<=4096){zero:List V}(hzero:zero.length=z){s:Sl α}(hs:short s){f:FuncId}{g:α->α}{base:List Blk}
 (hf:∀ e∈s.l,∀ h,Sm E T val f [ag (cells e)] h=some (ag (cells (g e)),h)) :
 ∀ (m i:Nat) (acc:List (List D)) (bs:List Blk) (lo:Nat) (v:V),i+m=s.l.length->acc.length<=i->Acc base z acc bs v →
  ∃ bs' lo' v',Cd E T val (.loop [1,5,8,9,10] (FR z by_ zero)) [(1,.fn f []),(5,v),(8,.d (s.d cells)),(9,.d (.int .i64 s.l.length)),(10,.d (.int .i64 i))] ⟨bs,lo⟩ =
   some (.exit 0,[(5,v')],⟨bs',lo'⟩)/\Acc base z (acc++((s.l.drop i).map fun x=>cells (g x))) bs' v':=by
 intro m;have hlen:=hs.lt;have key:=aC (E:=E) (T:=T) (val:=val) [1,5,8,9,10] (FR z by_ zero);generalize Cd E T val (.loop [1,5,8,9,10] (FR z by_ zero))=W at key ⊢
 induction m with
 | zero =>
  intro i acc bs lo v hi hai ha;have h0:s.l.drop i=[]:=ba (by omega);refine ⟨bs,lo,v,?_,by simpa [h0] using ha⟩;rw [key];simp [FR,show ¬ ((i:Int)<s.l.length) from by omega]
 | succ m ih =>
  intro i acc bs lo v hi hai ha;have hlt:i<s.l.length:=by omega
  have hd:s.l.drop i=s.l[i]::s.l.drop (i+1):=aw hlt;have hg:s.l[i]?=some s.l[i]:=ac hlt;have hcall:=hf _ (bh hlt);generalize s.l[i]=x at *;have hx:=fun h=>ay (z:=z) h hg (cells:=cells) (hz x);have hput:∀ y:α,put zero 0 ((cells y).map V.d)=some ((cells y).map .d):=by intro y; simp [put,hz,hzero]
  have hsubx:sub (cells x) 0 z=some (cells x):=bH (hz x);have hw:wrap .i64 ((i:Int)+1)=((i+1:Nat):Int):=by rw [wrap64]<;>omega
  have hnu:=ha.nu;have ha1:=ha.lay [.cells ((cells x).map .d),.cells ((cells (g x)).map .d)];have hbig:acc.length<big:=by have:=hs.1; omega
  obtain ⟨v1,bs1,lo1,k1,k2⟩:=ha1.app hz0 hby (e:=cells (g x)) (hz _) hbig (min lo bs.length) (r:=bs.length+1) (cap:=some 1) (by simp);have hnu1:=k2.nu;obtain ⟨bs',lo',v',q1,q2⟩:=ih (i+1) (acc++[cells (g x)]) bs1 lo1 v1 (by omega) (by simp; omega) k2;refine ⟨bs',lo',v',?_,by simpa [hd] using q2⟩;rw [key];simp [FR,hx,hput,hsubx,hcall,hw,hnu,hz,hz0,aH,k1,hnu1,show ((i:Int)<s.l.length) from by omega];simpa using q1
theorem G9 {α:Type}{cells:α->List D}{z by_ id:Nat}{zero:List V}(ht:T id=some (mapQ z by_ zero))(hv:val id=true)(hz:∀ x,(cells x).length=z)(hz0:0<z)(hby:by_<=4096)(hzero:zero.length=z){s:Sl α}(hs:short s){f:FuncId}{g:α->α}
 (hf:∀ e∈s.l,∀ h,Sm E T val f [ag (cells e)] h=some (ag (cells (g e)),h)) (h:Hp) :
 Sm E T val id [.d (s.d cells),.fn f []] h=some (.d (Sl.d cells ⟨s.l.isEmpty,s.l.map g⟩),h):=by
 rw [aV ht hv];obtain ⟨bs',lo',v',q1,q2⟩:=IE (E:=E) (T:=T) (val:=val) hz hz0 hby hzero hs hf s.l.length 0 [] [] 0 _ (by omega) (by simp) (Acc.nil [] z);have hn:=q2.nu;have hfz:=(q2.frz lo').1;have hfr:frz h (.fn f [])=some (.fn f []):=rfl;have hl:nG false (.d (Sl.d cells s)) ⟨[],0⟩=some (.d (i64 s.l.length),⟨[],0⟩):=by simp [Sl.d]
 have hfm:(s.l.map fun x=>cells (g x)).isEmpty=s.l.isEmpty:=by cases s.l<;>rfl
 simp at q1;simp [ae,mapQ,hfr,hl];rw [au];simp [q1,hn];simp only [List.nil_append,List.drop_zero] at hfz;rw [hfz];simp [hfm,Sl.d,iE]
end
end
section
variable {E:Calls'}
def EI:List V:=[(.d (.int .u64 0)),(.d (.str ⟨#[]⟩)),(.d (.str ⟨#[]⟩)),(.d (.int .i64 0)),(.d (.int .u32 0)),(.d (.int .i64 0)),(.d (.int .u64 0))]
end
section
theorem bM (a:ByteArray):a.toList=a.data.toList:=by
 simp [ByteArray.toList_eq]
theorem eqS_iff {a b:ByteArray}:eqS a b=true↔a=b:=by
 simp only [eqS,beq_iff_eq,bM];constructor
 · intro h;cases a; cases b;simp at h;rw [h]
 · rintro rfl; rfl
@[simp] theorem Tj (a:ByteArray):eqS a a=true:=eqS_iff.2 rfl
def Pod.eqB (x y:Pod):Bool:=x.uid==y.uid&&(eqS x.ns y.ns&&(eqS x.sa y.sa&&(x.host==y.host&&(x.addr==y.addr&&(x.port==y.port&&(x.service==y.service&&true))))))
def Svc.eqB (x y:Svc):Bool:=x.id==y.id&&(eqS x.ns y.ns&&(x.addr==y.addr&&(x.port==y.port&&(x.way==y.way&&true))))
def Way.eqB (x y:Way):Bool:=x.id==y.id&&(x.node==y.node&&true)
def Term.eqB (x y:Term):Bool:=x.kind==y.kind&&(eqS x.text y.text&&true)
def Cidr.eqB (x y:Cidr):Bool:=x.addr==y.addr&&(x.bits==y.bits&&true)
theorem Pod.eqB_iff {x y:Pod}:x.eqB y=true↔x=y:=by
 cases x; cases y; simp [Pod.eqB,eqS_iff]
theorem Svc.eqB_iff {x y:Svc}:x.eqB y=true↔x=y:=by
 cases x; cases y; simp [Svc.eqB,eqS_iff]
theorem Way.eqB_iff {x y:Way}:x.eqB y=true↔x=y:=by
 cases x; cases y; simp [Way.eqB]
theorem Term.eqB_iff {x y:Term}:x.eqB y=true↔x=y:=by
 cases x; cases y; simp [Term.eqB,eqS_iff]
theorem Cidr.eqB_iff {x y:Cidr}:x.eqB y=true↔x=y:=by
 cases x; cases y; simp [Cidr.eqB]
section
variable {h:Hp}{n:Bool}
@[simp] theorem V3 {x y:Pod}:eqv (.agg [(.i .u64),.s,.s,(.i .i64),(.i .u32),(.i .i64),(.i .u64)]) n (ag x.c) (ag y.c) h=some (.d (.bool (x.eqB y != n)),h):=by
 simp [eqv,iH,ag,Pod.c,bJ,nQ,Pod.eqB,eqS]
@[simp] theorem V5 {x y:Svc}:eqv (.agg [(.i .u64),.s,(.i .u32),(.i .i64),(.i .u64)]) n (ag x.c) (ag y.c) h=some (.d (.bool (x.eqB y != n)),h):=by
 simp [eqv,iH,ag,Svc.c,bJ,nQ,Svc.eqB,eqS]
@[simp] theorem V6 {x y:Way}:eqv (.agg [(.i .u64),(.i .i64)]) n (ag x.c) (ag y.c) h=some (.d (.bool (x.eqB y != n)),h):=by
 simp [eqv,iH,ag,Way.c,bJ,nQ,Way.eqB]
@[simp] theorem Tm {x y:Term}:eqv (.agg [(.i .i64),.s]) n (ag x.c) (ag y.c) h=some (.d (.bool (x.eqB y != n)),h):=by
 simp [eqv,iH,ag,Term.c,bJ,nQ,Term.eqB,eqS]
@[simp] theorem Tk {x y:Cidr}:eqv (.agg [(.i .u32),(.i .i64)]) n (ag x.c) (ag y.c) h=some (.d (.bool (x.eqB y != n)),h):=by
 simp [eqv,iH,ag,Cidr.c,bJ,nQ,Cidr.eqB]
end
def all2 {α β:Type}(f:α->β->Bool):List α->List β->Bool
 | [],[]=>true
 | x::l,y::m=>f x y&&all2 f l m
 | _,_=>false
theorem Af {α β:Type}{f:α->β->Bool}:∀ {l:List α} {m:List β},all2 f l m=true->l.length=m.length
 | [],[],_=>rfl
 | x::l,y::m,h=>by simp [all2] at h; simp [Af h.2]
 | [],y::m,h=>by simp [all2] at h
 | x::l,[],h=>by simp [all2] at h
theorem iI {α β:Type}{f:α->β->Bool}{l:List α}{m:List β}(h:l.length≠m.length):all2 f l m=false:=by
 cases hx:all2 f l m with
 | false=>rfl
 | true=>exact absurd (Af hx) h
theorem dV {α:Type}{f:α->α->Bool}(hf:∀ x,f x x=true):∀ l:List α,all2 f l l=true
 | []=>rfl
 | x::l=>by simp [all2,hf,dV hf l]
theorem Ag {α β γ:Type}{f:α->β->Bool}(g:γ->α):∀ (l:List γ) (m:List β),all2 f (l.map g) m=all2 (fun x y=>f (g x) y) l m
 | [],[]=>rfl
 | x::l,y::m=>by simp [all2,Ag g l m]
 | [],y::m=>rfl
 | x::l,[]=>rfl
theorem iY {α β:Type}{f:α->β->Bool}{l:List α}{m:List β}{i:Nat}(h1:i<l.length)(h2:i<m.length):all2 f (l.drop i) (m.drop i)=(f l[i] m[i]&&all2 f (l.drop (i+1)) (m.drop (i+1))):=by
 rw [aw h1,aw h2]; rfl
def Source.same (a b:Source):Bool:=all2 Term.eqB a.names.l b.names.l&&(all2 Term.eqB a.spaces.l b.spaces.l&&all2 Cidr.eqB a.nets.l b.nets.l)
def Target.same (a b:Target):Bool:=all2 Term.eqB a.methods.l b.methods.l&&(all2 Term.eqB a.paths.l b.paths.l&&(all2 Term.eqB a.hosts.l b.hosts.l&&all2 (fun x y:Int=>x==y) a.ports.l b.ports.l))
def When.same (a b:When):Bool:=eqS a.head b.head&&all2 Term.eqB a.terms.l b.terms.l
def Rule.same (a b:Rule):Bool:=all2 Source.same a.frm.l b.frm.l&&(all2 Target.same a.to.l b.to.l&&all2 When.same a.whn.l b.whn.l)
def Pol.same (a b:Pol):Bool:=a.id==b.id&&(eqS a.ns b.ns&&(a.service==b.service&&(a.deny==b.deny&&all2 Rule.same a.rules.l b.rules.l)))
theorem qz (l:List Term):all2 Term.eqB l l=true:=dV (fun _=>Term.eqB_iff.2 rfl) l
theorem Source.same_refl (a:Source):a.same a=true:=by simp [Source.same,qz,dV (fun _=>Cidr.eqB_iff.2 rfl)]
theorem Target.same_refl (a:Target):a.same a=true:=by simp [Target.same,qz,dV]
theorem When.same_refl (a:When):a.same a=true:=by simp [When.same,qz]
theorem Rule.same_refl (a:Rule):a.same a=true:=by simp [Rule.same,dV Source.same_refl,dV Target.same_refl,dV When.same_refl]
theorem Pol.same_refl (a:Pol):a.same a=true:=by simp [Pol.same,dV Rule.same_refl]
end
section
variable {E:Calls'}
theorem Fe {s:Sl Term}(hs:short s)(h:Hp):Sm E TT aj 166 [.d (s.d Term.c)] h=some (.d (s.d Term.c),h) :=
 vG (z:=2) (b:=24) (zero:=[(.d (.int .i64 0)),(.d (.str ⟨#[]⟩))]) ah1 aw6 (by decide) (by decide) (fun _=>rfl) hs h
theorem YX {s:Sl Cidr}(hs:short s)(h:Hp):Sm E TT aj 167 [.d (s.d Cidr.c)] h=some (.d (s.d Cidr.c),h) :=
 vG (z:=2) (b:=16) (zero:=[(.d (.int .u32 0)),(.d (.int .i64 0))]) ah2 aw7 (by decide) (by decide) (fun _=>rfl) hs h
theorem YY {s:Sl Int}(hs:short s)(h:Hp):Sm E TT aj 168 [.d (s.d gV)] h=some (.d (s.d gV),h) :=
 vG (z:=1) (b:=8) (zero:=[(.d (.int .i64 0))]) ah3 aw8 (by decide) (by decide) (fun _=>rfl) hs h
theorem YL (s:Source)(hs:s.fits big)(h:Hp):Sm E TT aj 142 [ag s.c] h=some (ag s.c,h):=by
 rw [aV af4 av0];simp +decide [ae,PU,ai,aa,Fe hs.1,Fe hs.2.1,YX hs.2.2];rfl
theorem YN (s:Target)(hs:s.fits big)(h:Hp):Sm E TT aj 144 [ag s.c] h=some (ag s.c,h):=by
 rw [aV af6 av2];simp +decide [ae,PV,ai,aa,YY hs.1,Fe hs.2.1,Fe hs.2.2.1,Fe hs.2.2.2];rfl
@[simp] theorem When.p1 {x:When}{v:V}:put (x.c.map V.d) 1 [v]=some [.d (.str x.head),v]:=rfl
@[simp] theorem Pol.p4 {x:Pol}{v:V}:put (x.c.map V.d) 4 [v]=some [.d (u64 x.id),.d (.str x.ns),.d (u64 x.service),.d (i64 x.deny),v]:=rfl
theorem YP (s:When)(hs:s.fits big)(h:Hp):Sm E TT aj 146 [ag s.c] h=some (ag s.c,h):=by
 rw [aV af8 av4];simp [ae,PW,Fe hs];rfl
def sl0 (n:Nat):List V:=List.replicate n (.d (.slice true []))
theorem YK {s:Sl Source}(hs:short s)(hf:∀ x∈s.l,x.fits big)(h:Hp):Sm E TT aj 141 [.d (s.d Source.c),.fn 142 []] h=some (.d (Sl.d Source.c ⟨s.l.isEmpty,s.l⟩),h):=by
 have:=G9 (E:=E) (T:=TT) (val:=aj) (cells:=Source.c) (z:=3) (by_:=72) (zero:=sl0 3) af3 au9 (fun _=>rfl) (by decide) (by decide) rfl hs (f:=142) (g:=id) (fun e he h=>YL e (hf e he) h) h;simpa using this
theorem YM {s:Sl Target}(hs:short s)(hf:∀ x∈s.l,x.fits big)(h:Hp):Sm E TT aj 143 [.d (s.d Target.c),.fn 144 []] h=some (.d (Sl.d Target.c ⟨s.l.isEmpty,s.l⟩),h):=by
 have:=G9 (E:=E) (T:=TT) (val:=aj) (cells:=Target.c) (z:=4) (by_:=96) (zero:=sl0 4) af5 av1 (fun _=>rfl) (by decide) (by decide) rfl hs (f:=144) (g:=id) (fun e he h=>YN e (hf e he) h) h;simpa using this
theorem YO {s:Sl When}(hs:short s)(hf:∀ x∈s.l,x.fits big)(h:Hp):Sm E TT aj 145 [.d (s.d When.c),.fn 146 []] h=some (.d (Sl.d When.c ⟨s.l.isEmpty,s.l⟩),h):=by
 have:=G9 (E:=E) (T:=TT) (val:=aj) (cells:=When.c) (z:=2) (by_:=40) (zero:=[(.d (.str ⟨#[]⟩)),(.d (.slice true []))]) af7 av3 (fun _=>rfl) (by decide) (by decide) rfl hs (f:=146) (g:=id) (fun e he h=>YP e (hf e he) h) h;simpa using this
def Rule.own (r:Rule):Rule:=⟨⟨r.frm.l.isEmpty,r.frm.l⟩,⟨r.to.l.isEmpty,r.to.l⟩,⟨r.whn.l.isEmpty,r.whn.l⟩⟩
def Pol.own (p:Pol):Pol:={ p with rules:=⟨p.rules.l.isEmpty,p.rules.l.map Rule.own⟩ }
theorem Yt (r:Rule)(hr:r.fits big)(h:Hp):Sm E TT aj 96 [ag r.c] h=some (ag r.own.c,h):=by
 rw [aV ad2 as4];simp +decide [ae,Pw,ai,aa,YK hr.1.1 hr.1.2,YM hr.2.1.1 hr.2.1.2,YO hr.2.2.1 hr.2.2.2];rfl
end
section
variable {E:Calls'}
theorem ak {i n:Nat}(h:i<n)(hn:n<2 ^ 62):wrap .i64 ((i:Int)+1)=((i+1:Nat):Int):=by rw [wrap64]<;>omega
theorem Xp {a b:Sl Term}(ha:short a)(hl:a.l.length=b.l.length)(h:Hp):∀ (m i:Nat),i+m=a.l.length →
 Cd E TT aj (.loop [0,1,5] mg) [(0,.d (a.d Term.c)),(1,.d (b.d Term.c)),(5,.d (i64 i))] h=if all2 Term.eqB (a.l.drop i) (b.l.drop i)=true then some (.exit 0,[],h) else some (.ret,[(4,bl false)],h):=by
 have hlt:=ha.lt;intro m;have key:=aC (E:=E) (T:=TT) (val:=aj) [0,1,5] mg;generalize Cd E TT aj (.loop [0,1,5] mg)=W at key ⊢
 induction m with
 | zero =>
  intro i hi;rw [key,ba (by omega),ba (by omega)];simp [mg,all2,show ¬ ((i:Int)<a.l.length) from by omega]
 | succ m ih =>
  intro i hi;have h1:i<a.l.length:=by omega
  have h2:i<b.l.length:=by omega
  have hx:=fun h=>ay (z:=2) h (ac h1) (cells:=Term.c) rfl;have hy:=fun h=>ay (z:=2) h (ac h2) (cells:=Term.c) rfl;have hw:=ak h1 hlt;have:=ih (i+1) (by omega);rw [key,iY h1 h2];cases hq:Term.eqB a.l[i] b.l[i] with
  | true =>
   simp [mg,hx,hy,hq,hw,show ((i:Int)<a.l.length) from by omega];simpa using this
  | false=>simp [mg,hx,hy,hq,show ((i:Int)<a.l.length) from by omega]
theorem kX {a b:Sl Term}(ha:short a)(h:Hp):Sm E TT aj 92 [.d (a.d Term.c),.d (b.d Term.c)] h=some (bl (all2 Term.eqB a.l b.l),h):=by
 rw [aV t183 v183];by_cases hl:a.l.length=b.l.length
 · have hL:=Xp (E:=E) ha hl ⟨[],0⟩ a.l.length 0 (by omega);simp at hL;simp [ae,Ld,hl];rw [au];simp [hL];cases hq:all2 Term.eqB a.l b.l<;>simp
 · have hl':¬ ((a.l.length:Int)=b.l.length):=by omega
   simp [ae,Ld,hl,hl',iI hl]
theorem Xq {a b:Sl Cidr}(ha:short a)(hl:a.l.length=b.l.length)(h:Hp):∀ (m i:Nat),i+m=a.l.length →
 Cd E TT aj (.loop [0,1,5] mh) [(0,.d (a.d Cidr.c)),(1,.d (b.d Cidr.c)),(5,.d (i64 i))] h=if all2 Cidr.eqB (a.l.drop i) (b.l.drop i)=true then some (.exit 0,[],h) else some (.ret,[(4,bl false)],h):=by
 have hlt:=ha.lt;intro m;have key:=aC (E:=E) (T:=TT) (val:=aj) [0,1,5] mh;generalize Cd E TT aj (.loop [0,1,5] mh)=W at key ⊢
 induction m with
 | zero =>
  intro i hi;rw [key,ba (by omega),ba (by omega)];simp [mh,all2,show ¬ ((i:Int)<a.l.length) from by omega]
 | succ m ih =>
  intro i hi;have h1:i<a.l.length:=by omega
  have h2:i<b.l.length:=by omega
  have hx:=fun h=>ay (z:=2) h (ac h1) (cells:=Cidr.c) rfl;have hy:=fun h=>ay (z:=2) h (ac h2) (cells:=Cidr.c) rfl;have hw:=ak h1 hlt;have:=ih (i+1) (by omega);rw [key,iY h1 h2];cases hq:Cidr.eqB a.l[i] b.l[i] with
  | true =>
   simp [mh,hx,hy,hq,hw,show ((i:Int)<a.l.length) from by omega];simpa using this
  | false=>simp [mh,hx,hy,hq,show ((i:Int)<a.l.length) from by omega]
theorem Sv {a b:Sl Cidr}(ha:short a)(h:Hp):Sm E TT aj 93 [.d (a.d Cidr.c),.d (b.d Cidr.c)] h=some (bl (all2 Cidr.eqB a.l b.l),h):=by
 rw [aV ac0 ar1];by_cases hl:a.l.length=b.l.length
 · have hL:=Xq (E:=E) ha hl ⟨[],0⟩ a.l.length 0 (by omega);simp at hL;simp [ae,Le,hl];rw [au];simp [hL];cases hq:all2 Cidr.eqB a.l b.l<;>simp
 · have hl':¬ ((a.l.length:Int)=b.l.length):=by omega
   simp [ae,Le,hl,hl',iI hl]
theorem RX {a b:Rule}(ha:a.fits big)(hl:a.frm.l.length=b.frm.l.length):∀ (m i:Nat) (J:List Blk),i+m=a.frm.l.length →
 ∃ J',Cd E TT aj (.loop [2,3,5] qi) [(2,.ptr 0 0),(3,.ptr 1 0),(5,.d (i64 i))] ⟨.cells (a.c.map .d)::.cells (b.c.map .d)::J,0⟩ =
  if all2 Source.same (a.frm.l.drop i) (b.frm.l.drop i)=true then some (.exit 0,[(2,.ptr 0 0),(3,.ptr 1 0)],⟨.cells (a.c.map .d)::.cells (b.c.map .d)::J',0⟩)
  else some (.ret,[(4,bl false)],⟨.cells (a.c.map .d)::.cells (b.c.map .d)::J',0⟩):=by
 have hlt:=ha.1.1.lt;intro m;have key:=aC (E:=E) (T:=TT) (val:=aj) [2,3,5] qi;generalize Cd E TT aj (.loop [2,3,5] qi)=W at key ⊢
 induction m with
 | zero =>
  intro i J hi;refine ⟨J,?_⟩;rw [key,ba (by omega),ba (by omega)];simp [qi,all2,show ¬ ((i:Int)<a.frm.l.length) from by omega]
 | succ m ih =>
  intro i J hi;have h1:i<a.frm.l.length:=by omega
  have h2:i<b.frm.l.length:=by omega
  have hx:=fun h=>ay (z:=3) h (ac h1) (cells:=Source.c) rfl;have hy:=fun h=>ay (z:=3) h (ac h2) (cells:=Source.c) rfl;have hw:=ak h1 hlt;have hfx:=ha.1.2 _ (bh h1);rw [iY h1 h2];generalize a.frm.l[i]=x at *;generalize b.frm.l[i]=y at *;obtain ⟨J',hJ⟩:=ih (i+1) (J++[.cells (x.c.map .d),.cells (y.c.map .d)]) (by omega);cases hA:all2 Term.eqB x.names.l y.names.l<;>cases hB:all2 Term.eqB x.spaces.l y.spaces.l<;>cases hC:all2 Cidr.eqB x.nets.l y.nets.l
  case true.true.true =>
   refine ⟨J',?_⟩;rw [key];simp [qi,hx,hy,ai,aT,Tr.spares,List.range,List.range.loop,kX hfx.1,kX hfx.2.1,Sv hfx.2.2,hA,hB,hC,hw,Source.same,show ((i:Int)<a.frm.l.length) from by omega];simpa using hJ
  all_goals
   refine ⟨J++[.cells (x.c.map .d),.cells (y.c.map .d)],?_⟩;rw [key];simp [qi,hx,hy,ai,aT,Tr.spares,List.range,List.range.loop,kX hfx.1,kX hfx.2.1,Sv hfx.2.2,hA,hB,hC,Source.same,show ((i:Int)<a.frm.l.length) from by omega]
theorem RY {x y:Target}(hx:short x.ports)(hl:x.ports.l.length=y.ports.l.length){h:Hp}{p q:Nat}{t2 t3 t8:V}(hp:af h.bs p=some (x.c.map .d))(hq:af h.bs q=some (y.c.map .d)):∀ (m i:Nat),i+m=x.ports.l.length →
 Cd E TT aj (.loop [2,3,8,9,10,11] qj) [(2,t2),(3,t3),(8,t8),(9,.ptr p 0),(10,.ptr q 0),(11,.d (i64 i))] h =
  if all2 (fun x y:Int=>x==y) (x.ports.l.drop i) (y.ports.l.drop i)=true then some (.exit 4,[(2,t2),(3,t3),(8,t8)],h) else some (.ret,[(4,bl false)],h):=by
 have hlt:=hx.lt;intro m;have key:=aC (E:=E) (T:=TT) (val:=aj) [2,3,8,9,10,11] qj;generalize Cd E TT aj (.loop [2,3,8,9,10,11] qj)=W at key ⊢
 induction m with
 | zero =>
  intro i hi;rw [key,ba (by omega),ba (by omega)];simp [qj,all2,hp,show ¬ ((i:Int)<x.ports.l.length) from by omega]
 | succ m ih =>
  intro i hi;have h1:i<x.ports.l.length:=by omega
  have h2:i<y.ports.l.length:=by omega
  have hx:=fun h=>ay (z:=1) h (ac h1) (cells:=gV) rfl;have hy:=fun h=>ay (z:=1) h (ac h2) (cells:=gV) rfl;have hw:=ak h1 hlt;have:=ih (i+1) (by omega);rw [key,iY h1 h2];generalize x.ports.l[i]=u at *;generalize y.ports.l[i]=w at *;by_cases hu:u=w
  · subst hu;simp [qj,hp,hq,hx,hy,hw,gV,show ((i:Int)<x.ports.l.length) from by omega];simpa using this
  · simp [qj,hp,hq,hx,hy,hu,gV,show ((i:Int)<x.ports.l.length) from by omega]
theorem RZ {a b:Rule}(ha:a.fits big)(hl:a.to.l.length=b.to.l.length):∀ (m i:Nat) (J:List Blk),i+m=a.to.l.length →
 ∃ J',Cd E TT aj (.loop [2,3,8] kH) [(2,.ptr 0 0),(3,.ptr 1 0),(8,.d (i64 i))] ⟨.cells (a.c.map .d)::.cells (b.c.map .d)::J,0⟩ =
  if all2 Target.same (a.to.l.drop i) (b.to.l.drop i)=true then some (.exit 2,[(2,.ptr 0 0),(3,.ptr 1 0)],⟨.cells (a.c.map .d)::.cells (b.c.map .d)::J',0⟩)
  else some (.ret,[(4,bl false)],⟨.cells (a.c.map .d)::.cells (b.c.map .d)::J',0⟩):=by
 have hlt:=ha.2.1.1.lt;intro m;have key:=aC (E:=E) (T:=TT) (val:=aj) [2,3,8] kH;generalize Cd E TT aj (.loop [2,3,8] kH)=W at key ⊢
 induction m with
 | zero =>
  intro i J hi;refine ⟨J,?_⟩;rw [key,ba (by omega),ba (by omega)];simp [kH,all2,show ¬ ((i:Int)<a.to.l.length) from by omega]
 | succ m ih =>
  intro i J hi;have h1:i<a.to.l.length:=by omega
  have h2:i<b.to.l.length:=by omega
  have hx:=fun h=>ay (z:=4) h (ac h1) (cells:=Target.c) rfl;have hy:=fun h=>ay (z:=4) h (ac h2) (cells:=Target.c) rfl;have hw:=ak h1 hlt;have hfx:=ha.2.1.2 _ (bh h1);rw [iY h1 h2];generalize a.to.l[i]=x at *;generalize b.to.l[i]=y at *;obtain ⟨J',hJ⟩:=ih (i+1) (J++[.cells (x.c.map .d),.cells (y.c.map .d)]) (by omega);by_cases hA:all2 Term.eqB x.methods.l y.methods.l=true
  case neg =>
   refine ⟨J++[.cells (x.c.map .d),.cells (y.c.map .d)],?_⟩;simp only [Bool.not_eq_true] at hA;rw [key];simp [kH,hx,hy,ai,aT,Tr.spares,List.range,List.range.loop,kX hfx.2.1,hA,Target.same,show ((i:Int)<a.to.l.length) from by omega]
  by_cases hB:all2 Term.eqB x.paths.l y.paths.l=true
  case neg =>
   refine ⟨J++[.cells (x.c.map .d),.cells (y.c.map .d)],?_⟩;simp only [Bool.not_eq_true] at hB;rw [key];simp [kH,hx,hy,ai,aT,Tr.spares,List.range,List.range.loop,kX hfx.2.1,kX hfx.2.2.1,hA,hB,Target.same,show ((i:Int)<a.to.l.length) from by omega]
  by_cases hC:all2 Term.eqB x.hosts.l y.hosts.l=true
  case neg =>
   refine ⟨J++[.cells (x.c.map .d),.cells (y.c.map .d)],?_⟩;simp only [Bool.not_eq_true] at hC;rw [key];simp [kH,hx,hy,ai,aT,Tr.spares,List.range,List.range.loop,kX hfx.2.1,kX hfx.2.2.1,kX hfx.2.2.2,hA,hB,hC,Target.same,show ((i:Int)<a.to.l.length) from by omega]
  by_cases hD:x.ports.l.length=y.ports.l.length
  case neg =>
   refine ⟨J++[.cells (x.c.map .d),.cells (y.c.map .d)],?_⟩;have hD':¬ ((x.ports.l.length:Int)=y.ports.l.length):=by omega
   rw [key];simp [kH,hx,hy,ai,aT,Tr.spares,List.range,List.range.loop,kX hfx.2.1,kX hfx.2.2.1,kX hfx.2.2.2,hA,hB,hC,hD',iI hD,Target.same,show ((i:Int)<a.to.l.length) from by omega]
  have hin:=RY (E:=E) (x:=x) (y:=y) hfx.1 hD (h:=⟨.cells (a.c.map .d)::.cells (b.c.map .d)::(J++[.cells (x.c.map .d),.cells (y.c.map .d)]),0⟩) (p:=J.length+1+1) (q:=J.length+1+1+1) (t2:=.ptr 0 0) (t3:=.ptr 1 0) (t8:=.d (i64 i)) (by simp) (by simp) x.ports.l.length 0 (by omega);simp at hin;by_cases hF:all2 (fun x y:Int=>x==y) x.ports.l y.ports.l=true
  · refine ⟨J',?_⟩;rw [key];simp [kH,hx,hy,ai,aT,Tr.spares,List.range,List.range.loop,kX hfx.2.1,kX hfx.2.2.1,kX hfx.2.2.2,hA,hB,hC,hD,Target.same,show ((i:Int)<a.to.l.length) from by omega];rw [au];simp [hin,hF,hw];simpa using hJ
  · refine ⟨J++[.cells (x.c.map .d),.cells (y.c.map .d)],?_⟩;rw [key];simp [kH,hx,hy,ai,aT,Tr.spares,List.range,List.range.loop,kX hfx.2.1,kX hfx.2.2.1,kX hfx.2.2.2,hA,hB,hC,hD,Target.same,show ((i:Int)<a.to.l.length) from by omega];rw [au];simp [hin,hF]
theorem R3 {a b:Rule}(ha:a.fits big)(hl:a.whn.l.length=b.whn.l.length)(J:List Blk):∀ (m i:Nat),i+m=a.whn.l.length →
 Cd E TT aj (.loop [2,3,12] nM) [(2,.ptr 0 0),(3,.ptr 1 0),(12,.d (i64 i))] ⟨.cells (a.c.map .d)::.cells (b.c.map .d)::J,0⟩ =
  if all2 When.same (a.whn.l.drop i) (b.whn.l.drop i)=true then some (.exit 6,[],⟨.cells (a.c.map .d)::.cells (b.c.map .d)::J,0⟩)
  else some (.ret,[(4,bl false)],⟨.cells (a.c.map .d)::.cells (b.c.map .d)::J,0⟩):=by
 have hlt:=ha.2.2.1.lt;intro m;have key:=aC (E:=E) (T:=TT) (val:=aj) [2,3,12] nM;generalize Cd E TT aj (.loop [2,3,12] nM)=W at key ⊢
 induction m with
 | zero =>
  intro i hi;rw [key,ba (by omega),ba (by omega)];simp [nM,all2,show ¬ ((i:Int)<a.whn.l.length) from by omega]
 | succ m ih =>
  intro i hi;have h1:i<a.whn.l.length:=by omega
  have h2:i<b.whn.l.length:=by omega
  have hx:=fun h=>ay (z:=2) h (ac h1) (cells:=When.c) rfl;have hy:=fun h=>ay (z:=2) h (ac h2) (cells:=When.c) rfl;have hw:=ak h1 hlt;have hfx:=ha.2.2.2 _ (bh h1);have:=ih (i+1) (by omega);rw [key,iY h1 h2];generalize a.whn.l[i]=x at *;generalize b.whn.l[i]=y at *;cases hA:eqS x.head y.head
  case false=>simp [nM,hx,hy,ai,aa,aT,Tr.spares,av,List.range,List.range.loop,hA,When.same,show ((i:Int)<a.whn.l.length) from by omega]
  cases hB:all2 Term.eqB x.terms.l y.terms.l
  case false=>simp [nM,hx,hy,ai,aa,aT,Tr.spares,av,List.range,List.range.loop,kX hfx,hA,hB,When.same,show ((i:Int)<a.whn.l.length) from by omega]
  simp [nM,hx,hy,ai,aa,aT,Tr.spares,av,List.range,List.range.loop,kX hfx,hA,hB,hw,When.same,show ((i:Int)<a.whn.l.length) from by omega];simpa using this
end
section
variable {E:Calls'}
theorem S86 (a b:Rule)(ha:a.fits big)(h:Hp):Sm E TT aj 31 [ag a.c,ag b.c] h=some (bl (a.same b),h):=by
 rw [aV t86 v86];by_cases h1:a.frm.l.length=b.frm.l.length
 case neg =>
  have h1':¬ ((a.frm.l.length:Int)=b.frm.l.length):=by omega
  simp [ae,q86,h1',Rule.same,iI h1]
 by_cases h2:a.to.l.length=b.to.l.length
 case neg =>
  have h1':¬ ((a.to.l.length:Int)=b.to.l.length):=by omega
  simp [ae,q86,h1,h1',Rule.same,iI h2]
 by_cases h3:a.whn.l.length=b.whn.l.length
 case neg =>
  have h1':¬ ((a.whn.l.length:Int)=b.whn.l.length):=by omega
  simp [ae,q86,h1,h2,h1',Rule.same,iI h3]
 obtain ⟨J1,k1⟩:=RX (E:=E) ha h1 a.frm.l.length 0 [] (by omega);obtain ⟨J2,k2⟩:=RZ (E:=E) ha h2 a.to.l.length 0 J1 (by omega);have k3:=R3 (E:=E) ha h3 J2 a.whn.l.length 0 (by omega);simp at k1 k2 k3;simp [ae,q86,h1,h2,h3];rw [au];simp [k1];cases hA:all2 Source.same a.frm.l b.frm.l
 case false=>simp [Rule.same,hA]
 simp;rw [au];simp [k2];cases hB:all2 Target.same a.to.l b.to.l
 case false=>simp [Rule.same,hA,hB]
 simp;rw [au];simp [k3];cases hC:all2 When.same a.whn.l b.whn.l
 case false=>simp [Rule.same,hA,hB,hC]
 simp [Rule.same,hA,hB,hC]
theorem L29 {a b:Pol}(ha:a.ok)(hl:a.rules.l.length=b.rules.l.length):∀ (m i:Nat),i+m=a.rules.l.length →
 Cd E TT aj (.loop [2,3,5] qc) [(2,.ptr 0 0),(3,.ptr 1 0),(5,.d (i64 i))] ⟨[.cells (a.c.map .d),.cells (b.c.map .d)],0⟩ =
  if all2 Rule.same (a.rules.l.drop i) (b.rules.l.drop i)=true then some (.exit 0,[],⟨[.cells (a.c.map .d),.cells (b.c.map .d)],0⟩)
  else some (.ret,[(4,bl false)],⟨[.cells (a.c.map .d),.cells (b.c.map .d)],0⟩):=by
 have hlt:=ha.1.lt;intro m;have key:=aC (E:=E) (T:=TT) (val:=aj) [2,3,5] qc;generalize Cd E TT aj (.loop [2,3,5] qc)=W at key ⊢
 induction m with
 | zero =>
  intro i hi;rw [key,ba (by omega),ba (by omega)];simp [qc,all2,show ¬ ((i:Int)<a.rules.l.length) from by omega]
 | succ m ih =>
  intro i hi;have h1:i<a.rules.l.length:=by omega
  have h2:i<b.rules.l.length:=by omega
  have hx:=fun h=>ay (z:=3) h (ac h1) (cells:=Rule.c) rfl;have hy:=fun h=>ay (z:=3) h (ac h2) (cells:=Rule.c) rfl;have hw:=ak h1 hlt;have hfx:=ha.2 _ (bh h1);have:=ih (i+1) (by omega);rw [key,iY h1 h2];generalize a.rules.l[i]=x at *;generalize b.rules.l[i]=y at *;cases hA:x.same y
  case false=>simp +decide [qc,hx,hy,ai,aa,S86 x y hfx,hA,show ((i:Int)<a.rules.l.length) from by omega]
  simp +decide [qc,hx,hy,ai,aa,S86 x y hfx,hA,hw,show ((i:Int)<a.rules.l.length) from by omega];simpa using this
theorem S29 (a b:Pol)(ha:a.ok)(h:Hp):Sm E TT aj 13 [ag a.c,ag b.c] h=some (bl (a.same b),h):=by
 rw [aV t29 v29];by_cases h1:a.id=b.id
 case neg=>simp [ae,q29,h1,Pol.same]
 cases h2:eqS a.ns b.ns
 case false=>simp [ae,q29,h1,h2,Pol.same]
 by_cases h3:a.service=b.service
 case neg=>simp [ae,q29,h1,h2,h3,Pol.same]
 by_cases h4:a.deny=b.deny
 case neg=>simp [ae,q29,h1,h2,h3,h4,Pol.same]
 by_cases h5:a.rules.l.length=b.rules.l.length
 case neg =>
  have h1':¬ ((a.rules.l.length:Int)=b.rules.l.length):=by omega
  simp [ae,q29,h1,h2,h3,h4,h1',Pol.same,iI h5]
 have k:=L29 (E:=E) ha h5 a.rules.l.length 0 (by omega);simp at k;simp [ae,q29,h1,h2,h3,h4,h5];rw [au];simp [k];cases hA:all2 Rule.same a.rules.l b.rules.l
 case false=>simp [Pol.same,hA]
 simp [Pol.same,hA,h1,h2,h3,h4]
theorem Ah:∀ (l:List Rule),all2 Rule.same (l.map Rule.own) l=true
 | []=>rfl
 | r::l=>by
  have h1:r.own.same r=true:=by
   have:=r.same_refl;simpa [Rule.same,Rule.own] using this
  simp [all2,h1,Ah l]
theorem own_same (p:Pol):p.own.same p=true:=by
 simp [Pol.same,Pol.own,Ah]
end
section
variable {E:Calls'}
end
section
variable {E:Calls'}
@[simp] theorem QJ (a b:Nat):(a<b\/b<=a)↔True:=⟨fun _=>trivial,fun _=>ck a b⟩
@[simp] theorem em' {p:Prop}:(¬ p\/p)↔True:=⟨fun _=>trivial,fun _=>(Classical.em p).symm⟩
end
section
variable {E:Calls'}
theorem lC {n:Int}:∃ m,bV .quo (.d (.int .i64 n)) (.d (.int .i64 64))=some (.int .i64 m):=⟨_,by simp [bV,fP]; rfl⟩
theorem Xr {s:Sl Term}(hs:short s)(h:Hp):∀ (m i:Nat) (n:Int),i+m=s.l.length →
 ∃ n',Cd E TT aj (.loop [0,3,4] mi) [(0,.d (s.d Term.c)),(3,.d (i64 n)),(4,.d (i64 i))] h=some (.exit 0,[(3,.d (i64 n'))],h):=by
 have hlt:=hs.lt;intro m;have key:=aC (E:=E) (T:=TT) (val:=aj) [0,3,4] mi;generalize Cd E TT aj (.loop [0,3,4] mi)=W at key ⊢
 induction m with
 | zero =>
  intro i n hi;refine ⟨n,?_⟩;rw [key];simp [mi,show ¬ ((i:Int)<s.l.length) from by omega]
 | succ m ih =>
  intro i n hi;have hlt:i<s.l.length:=by omega
  have hx:=fun h=>ay (z:=2) h (ac hlt) (cells:=Term.c) rfl;have hw:=ak hlt (by omega);by_cases hn:n<=2000
  · generalize s.l[i]=x at *;obtain ⟨k,hq⟩:=lC (n:=x.text.size);obtain ⟨n',q1⟩:=ih (i+1) (wrap .i64 (n+k)) (by omega);refine ⟨n',?_⟩;rw [key];simp [mi,hx,hq,hw,hn,show ((i:Int)<s.l.length) from by omega];simpa using q1
  · refine ⟨n,?_⟩;rw [key];simp [mi,hn,show ((i:Int)<s.l.length) from by omega]
theorem Fa {s:Sl Term}(hs:short s):∃ n':Int,∀ h,Sm E TT aj 32 [.d (s.d Term.c)] h=some (.d (i64 n'),h):=by
 obtain ⟨n',q1⟩:=Xr (E:=E) hs ⟨[],0⟩ s.l.length 0 s.l.length (by omega);refine ⟨n',fun h=>?_⟩;rw [aV ac1 ar2];simp at q1;simp [ae,O8];rw [au];simp [q1]
def Tr.mute (t:Tr):Bool:=!t.big&&t.wr.isEmpty&&t.lo==t.hi
theorem aA {pr:List (List Nat)}{l:List Tr}(h:l.all Tr.mute=true):aT pr l=true:=by
 have hm:∀ t∈l,t.big=false/\t.wr=[]/\t.lo=t.hi:=by
  intro t ht;have:=ch.1 h t ht;simp only [Tr.mute,aq,Bool.not_eq_true',List.isEmpty_iff,beq_iff_eq] at this;exact ⟨this.1.1,this.1.2,this.2⟩
 simp only [aT,ch,List.mem_range,Bool.or_eq_true];intro i hi j hj;right;rw [ac hi,ac hj];obtain ⟨a1,a2,a3⟩:=hm _ (bh hi);obtain ⟨b1,b2,b3⟩:=hm _ (bh hj);simp only [Tr.spares,a1,b1,a2,a3,Bool.or_self,bm,if_false];split
 · simp
 · simp only [ch];intro b _;simp
theorem R4 {r:Rule}(hr:r.fits big){h:Hp}{q:Nat}{t1 t4:V}(hq:af h.bs q=some (r.c.map .d)):∀ (m i:Nat) (n:Int),i+m=r.frm.l.length →
 ∃ n',Cd E TT aj (.loop [1,3,4,5,6] qm) [(1,t1),(3,.d (i64 n)),(4,t4),(5,.ptr q 0),(6,.d (i64 i))] h=some (.exit 2,[(1,t1),(3,.d (i64 n')),(4,t4),(5,.ptr q 0)],h):=by
 have hlt:=hr.1.1.lt;intro m;have key:=aC (E:=E) (T:=TT) (val:=aj) [1,3,4,5,6] qm;generalize Cd E TT aj (.loop [1,3,4,5,6] qm)=W at key ⊢
 induction m with
 | zero =>
  intro i n hi;refine ⟨n,?_⟩;rw [key];simp [qm,hq,show ¬ ((i:Int)<r.frm.l.length) from by omega]
 | succ m ih =>
  intro i n hi;have h1:i<r.frm.l.length:=by omega
  have hx:=fun h=>ay (z:=3) h (ac h1) (cells:=Source.c) rfl;have hw:=ak h1 hlt;have hfx:=hr.1.2 _ (bh h1);by_cases hn:n<=2000
  · generalize r.frm.l[i]=x at *;obtain ⟨k0,hk0⟩:=Fa (E:=E) (s:=x.names) hfx.1;obtain ⟨k1,hk1⟩:=Fa (E:=E) (s:=x.spaces) hfx.2.1;rw [key];simp [qm,hq,hx,ai,aa,aA,Tr.mute,hk0,hk1,hw,hn,show ((i:Int)<r.frm.l.length) from by omega];rw [show ((i:Int)+1)=((i+1:Nat):Int) from by omega];exact ih (i+1) _ (by omega)
  · refine ⟨n,?_⟩;rw [key];simp [qm,hq,hn,show ((i:Int)<r.frm.l.length) from by omega]
theorem R5 {r:Rule}(hr:r.fits big){h:Hp}{q:Nat}{t1 t4:V}(hq:af h.bs q=some (r.c.map .d)):∀ (m i:Nat) (n:Int),i+m=r.to.l.length →
 ∃ n',Cd E TT aj (.loop [1,3,4,5,7] qo) [(1,t1),(3,.d (i64 n)),(4,t4),(5,.ptr q 0),(7,.d (i64 i))] h=some (.exit 4,[(1,t1),(3,.d (i64 n')),(4,t4),(5,.ptr q 0)],h):=by
 have hlt:=hr.2.1.1.lt;intro m;have key:=aC (E:=E) (T:=TT) (val:=aj) [1,3,4,5,7] qo;generalize Cd E TT aj (.loop [1,3,4,5,7] qo)=W at key ⊢
 induction m with
 | zero =>
  intro i n hi;refine ⟨n,?_⟩;rw [key];simp [qo,hq,show ¬ ((i:Int)<r.to.l.length) from by omega]
 | succ m ih =>
  intro i n hi;have h1:i<r.to.l.length:=by omega
  have hx:=fun h=>ay (z:=4) h (ac h1) (cells:=Target.c) rfl;have hw:=ak h1 hlt;have hfx:=hr.2.1.2 _ (bh h1);by_cases hn:n<=2000
  · generalize r.to.l[i]=x at *;obtain ⟨k0,hk0⟩:=Fa (E:=E) (s:=x.methods) hfx.2.1;obtain ⟨k1,hk1⟩:=Fa (E:=E) (s:=x.paths) hfx.2.2.1;obtain ⟨k2,hk2⟩:=Fa (E:=E) (s:=x.hosts) hfx.2.2.2;rw [key];simp [qo,hq,hx,ai,aa,aA,Tr.mute,hk0,hk1,hk2,hw,hn,show ((i:Int)<r.to.l.length) from by omega];rw [show ((i:Int)+1)=((i+1:Nat):Int) from by omega];exact ih (i+1) _ (by omega)
  · refine ⟨n,?_⟩;rw [key];simp [qo,hq,hn,show ((i:Int)<r.to.l.length) from by omega]
theorem R6 {r:Rule}(hr:r.fits big){h:Hp}{q:Nat}{t1 t4:V}(hq:af h.bs q=some (r.c.map .d)):∀ (m i:Nat) (n:Int),i+m=r.whn.l.length →
 ∃ n',Cd E TT aj (.loop [1,3,4,5,8] qp) [(1,t1),(3,.d (i64 n)),(4,t4),(5,.ptr q 0),(8,.d (i64 i))] h=some (.exit 6,[(1,t1),(3,.d (i64 n')),(4,t4)],h):=by
 have hlt:=hr.2.2.1.lt;intro m;have key:=aC (E:=E) (T:=TT) (val:=aj) [1,3,4,5,8] qp;generalize Cd E TT aj (.loop [1,3,4,5,8] qp)=W at key ⊢
 induction m with
 | zero =>
  intro i n hi;refine ⟨n,?_⟩;rw [key];simp [qp,hq,show ¬ ((i:Int)<r.whn.l.length) from by omega]
 | succ m ih =>
  intro i n hi;have h1:i<r.whn.l.length:=by omega
  have hx:=fun h=>ay (z:=2) h (ac h1) (cells:=When.c) rfl;have hw:=ak h1 hlt;have hfx:=hr.2.2.2 _ (bh h1);by_cases hn:n<=2000
  · generalize r.whn.l[i]=x at *;obtain ⟨k0,hk0⟩:=Fa (E:=E) (s:=x.terms) hfx;obtain ⟨w,hw2⟩:=lC (n:=x.head.size);rw [key];simp [qp,hq,hx,ai,aa,aA,Tr.mute,hk0,hw,hn,hw2,show ((i:Int)<r.whn.l.length) from by omega];rw [show ((i:Int)+1)=((i+1:Nat):Int) from by omega];exact ih (i+1) _ (by omega)
  · refine ⟨n,?_⟩;rw [key];simp [qp,hq,hn,show ((i:Int)<r.whn.l.length) from by omega]
end
section
variable {E:Calls'}
theorem R7 {p:Pol}(hp:p.ok):∀ (m i:Nat) (n:Int) (J:List Blk),i+m=p.rules.l.length →
 ∃ n' J',Cd E TT aj (.loop [1,3,4] qw) [(1,.ptr 0 0),(3,.d (i64 n)),(4,.d (i64 i))] ⟨.cells (p.c.map .d)::J,0⟩=some (.exit 0,[(3,.d (i64 n'))],⟨.cells (p.c.map .d)::J',0⟩):=by
 have hlt:=hp.1.lt;intro m;have key:=aC (E:=E) (T:=TT) (val:=aj) [1,3,4] qw;generalize Cd E TT aj (.loop [1,3,4] qw)=W at key ⊢
 induction m with
 | zero =>
  intro i n J hi;refine ⟨n,J,?_⟩;rw [key];simp [qw,show ¬ ((i:Int)<p.rules.l.length) from by omega]
 | succ m ih =>
  intro i n J hi;have h1:i<p.rules.l.length:=by omega
  have hx:=fun h=>ay (z:=3) h (ac h1) (cells:=Rule.c) rfl;have hw:=ak h1 hlt;have hfx:=hp.2 _ (bh h1);by_cases hn:n<=2000
  · generalize p.rules.l[i]=x at *;obtain ⟨n1,q1⟩:=R4 (E:=E) hfx (h:=⟨.cells (p.c.map .d)::(J++[.cells (x.c.map .d)]),0⟩) (q:=J.length+1) (t1:=.ptr 0 0) (t4:=.d (i64 i)) (by simp) x.frm.l.length 0 (wrap .i64 (n+wrap .i64 (wrap .i64 (wrap .i64 (1+(x.frm.l.length:Int))+(x.to.l.length:Int))+(x.whn.l.length:Int)))) (by omega);obtain ⟨n2,q2⟩:=R5 (E:=E) hfx (h:=⟨.cells (p.c.map .d)::(J++[.cells (x.c.map .d)]),0⟩) (q:=J.length+1) (t1:=.ptr 0 0) (t4:=.d (i64 i)) (by simp) x.to.l.length 0 n1 (by omega);obtain ⟨n3,q3⟩:=R6 (E:=E) hfx (h:=⟨.cells (p.c.map .d)::(J++[.cells (x.c.map .d)]),0⟩) (q:=J.length+1) (t1:=.ptr 0 0) (t4:=.d (i64 i)) (by simp) x.whn.l.length 0 n2 (by omega);simp at q1 q2 q3;rw [key];simp [qw,hx,hn,show ((i:Int)<p.rules.l.length) from by omega];rw [au];simp [q1];rw [au];simp [q2];rw [au];simp [q3,hw];rw [show ((i:Int)+1)=((i+1:Nat):Int) from by omega];exact ih (i+1) _ _ (by omega)
  · refine ⟨n,J,?_⟩;rw [key];simp [qw,hn,show ((i:Int)<p.rules.l.length) from by omega]
theorem S87 (p:Pol)(hp:p.ok):∃ n':Int,∀ h,Sm E TT aj 14 [ag p.c] h=some (.d (i64 n'),h):=by
 obtain ⟨k,hk⟩:=lC (n:=p.ns.size);obtain ⟨n',J',q1⟩:=R7 (E:=E) hp p.rules.l.length 0 (wrap .i64 (1+k)) [] (by omega);refine ⟨n',fun h=>?_⟩;rw [aV t87 v87];simp at q1;simp [ae,q87,hk];rw [au];simp [q1]
theorem RB (c:Cfg)(hc:c.ok):∀ (m i:Nat) (n:Int),i+m=c.pods.l.length →
 ∃ n',Cd E TT aj (.loop [1,3,4] qd) [(1,.ptr 0 0),(3,.d (i64 n)),(4,.d (i64 i))] ⟨[.cells (c.c.map .d)],0⟩=some (.exit 0,[(1,.ptr 0 0),(3,.d (i64 n'))],⟨[.cells (c.c.map .d)],0⟩):=by
 have hlt:=hc.1.lt;intro m;have key:=aC (E:=E) (T:=TT) (val:=aj) [1,3,4] qd;generalize Cd E TT aj (.loop [1,3,4] qd)=W at key ⊢
 induction m with
 | zero =>
  intro i n hi;refine ⟨n,?_⟩;rw [key];simp [qd,show ¬ ((i:Int)<c.pods.l.length) from by omega]
 | succ m ih =>
  intro i n hi;have h1:i<c.pods.l.length:=by omega
  have hx:=fun h=>ay (z:=7) h (ac h1) (cells:=Pod.c) rfl;have hw:=ak h1 hlt;by_cases hn:n<=2000
  · generalize c.pods.l[i]=x at *;obtain ⟨k,hk⟩:=lC (n:=wrap .i64 ((x.ns.size:Int)+(x.sa.size:Int)));rw [key];simp [qd,hx,hk,hw,hn,show ((i:Int)<c.pods.l.length) from by omega];rw [show ((i:Int)+1)=((i+1:Nat):Int) from by omega];exact ih (i+1) _ (by omega)
  · refine ⟨n,?_⟩;rw [key];simp [qd,hn,show ((i:Int)<c.pods.l.length) from by omega]
theorem RD (c:Cfg)(hc:c.ok):∀ (m i:Nat) (n:Int),i+m=c.services.l.length →
 ∃ n',Cd E TT aj (.loop [1,3,5] qf) [(1,.ptr 0 0),(3,.d (i64 n)),(5,.d (i64 i))] ⟨[.cells (c.c.map .d)],0⟩=some (.exit 2,[(1,.ptr 0 0),(3,.d (i64 n'))],⟨[.cells (c.c.map .d)],0⟩):=by
 have hlt:=hc.2.1.lt;intro m;have key:=aC (E:=E) (T:=TT) (val:=aj) [1,3,5] qf;generalize Cd E TT aj (.loop [1,3,5] qf)=W at key ⊢
 induction m with
 | zero =>
  intro i n hi;refine ⟨n,?_⟩;rw [key];simp [qf,show ¬ ((i:Int)<c.services.l.length) from by omega]
 | succ m ih =>
  intro i n hi;have h1:i<c.services.l.length:=by omega
  have hx:=fun h=>ay (z:=5) h (ac h1) (cells:=Svc.c) rfl;have hw:=ak h1 hlt;by_cases hn:n<=2000
  · generalize c.services.l[i]=x at *;obtain ⟨k,hk⟩:=lC (n:=x.ns.size);rw [key];simp [qf,hx,hk,hw,hn,show ((i:Int)<c.services.l.length) from by omega];rw [show ((i:Int)+1)=((i+1:Nat):Int) from by omega];exact ih (i+1) _ (by omega)
  · refine ⟨n,?_⟩;rw [key];simp [qf,hn,show ((i:Int)<c.services.l.length) from by omega]
theorem RG (c:Cfg)(hc:c.ok):∀ (m i:Nat) (n:Int),i+m=c.policies.l.length →
 ∃ n',Cd E TT aj (.loop [1,3,6] qg) [(1,.ptr 0 0),(3,.d (i64 n)),(6,.d (i64 i))] ⟨[.cells (c.c.map .d)],0⟩=some (.exit 4,[(3,.d (i64 n'))],⟨[.cells (c.c.map .d)],0⟩):=by
 have hlt:=hc.2.2.2.1.lt;intro m;have key:=aC (E:=E) (T:=TT) (val:=aj) [1,3,6] qg;generalize Cd E TT aj (.loop [1,3,6] qg)=W at key ⊢
 induction m with
 | zero =>
  intro i n hi;refine ⟨n,?_⟩;rw [key];simp [qg,show ¬ ((i:Int)<c.policies.l.length) from by omega]
 | succ m ih =>
  intro i n hi;have h1:i<c.policies.l.length:=by omega
  have hx:=fun h=>ay (z:=5) h (ac h1) (cells:=Pol.c) rfl;have hw:=ak h1 hlt;have hfx:=hc.2.2.2.2 _ (bh h1);by_cases hn:n<=2000
  · generalize c.policies.l[i]=x at *;obtain ⟨k,hk⟩:=S87 (E:=E) x hfx;rw [key];simp [qg,hx,hk,hw,hn,show ((i:Int)<c.policies.l.length) from by omega];rw [show ((i:Int)+1)=((i+1:Nat):Int) from by omega];exact ih (i+1) _ (by omega)
  · refine ⟨n,?_⟩;rw [key];simp [qg,hn,show ((i:Int)<c.policies.l.length) from by omega]
theorem S31 (c:Cfg)(hc:c.ok):∃ b:Bool,∀ h,Sm E TT aj 4 [c.v] h=some (bl b,h):=by
 obtain ⟨n1,q1⟩:=RB (E:=E) c hc c.pods.l.length 0 (wrap .i64 (wrap .i64 ((c.pods.l.length:Int)+(c.services.l.length:Int))+(c.bound.l.length:Int))) (by omega);obtain ⟨n2,q2⟩:=RD (E:=E) c hc c.services.l.length 0 n1 (by omega);obtain ⟨n3,q3⟩:=RG (E:=E) c hc c.policies.l.length 0 n2 (by omega);refine ⟨decide (2000<n3),fun h=>?_⟩;rw [aV t31 v31];simp at q1 q2 q3;simp [ae,q31];rw [au];simp [q1];rw [au];simp [q2];rw [au];simp [q3]
end
section
def uC (x i:V)(h:Hp):Option (V×Hp):=match i,x with
 | .d (.int _ i),.d (.str s)=>if 0<=i then (match s.toList[i.toNat]? with | some b=>some (.d (.int .u8 b.toNat),h) | none=>none) else none
 | _,_=>none
section
variable {C:Calls'}{ev:X->V}{h:Hp}
@[simp] theorem Un {x i:X}:opE C (.idxS x i) ev h=uC (ev x) (ev i) h:=(rfl)
end
theorem gU {s:ByteArray}{k:Nat}{b:UInt8}{h:Hp}(hk:s.toList[k]?=some b):uC (.d (.str s)) (.d (.int .i64 k)) h=some (.d (.int .u8 b.toNat),h):=by
 simp [uC,hk]
theorem fw (s:ByteArray):s.toList.length=s.size:=by rw [bM]; rfl
variable {E:Calls'}
def oW (b:UInt8):Bool:=decide ((b.toNat:Int)<33)||(decide ((b.toNat:Int)>126)||((b.toNat:Int)==42||(b.toNat:Int)==44))
def jO:List UInt8->Bool
 | []=>false
 | b::l=>oW b||jO l
def fH (t:Term):Bool:=!jO t.text.toList&&(if t.kind==4 then eqS t.text ⟨#[]⟩ else decide (1<=t.kind)&&(decide (t.kind<=3)&&(decide ((t.text.size:Int)>=1)&&decide ((t.text.size:Int)<=64))))
theorem XP (t:Term)(ht:t.text.size<=big):∀ (m i:Nat),i+m=t.text.size →
 Cd E TT aj (.loop [1,3] jr) [(1,.ptr 0 0),(3,.d (i64 i))] ⟨[.cells (t.c.map .d)],0⟩ =
  if jO (t.text.toList.drop i) then some (.ret,[(2,bl false)],⟨[.cells (t.c.map .d)],0⟩) else some (.exit 0,[(1,.ptr 0 0)],⟨[.cells (t.c.map .d)],0⟩):=by
 have hlt:t.text.size<2 ^ 62:=cd ht (by decide);have hsl:=fw t.text;intro m;have key:=aC (E:=E) (T:=TT) (val:=aj) [1,3] jr;generalize Cd E TT aj (.loop [1,3] jr)=W at key ⊢
 induction m with
 | zero =>
  intro i hi;rw [key,ba (by omega)];simp [jr,jO,show ¬ ((i:Int)<t.text.size) from by omega]
 | succ m ih =>
  intro i hi;have h1:i<t.text.toList.length:=by omega
  have hx:=fun h=>gU (h:=h) (ac h1);have hw:=ak (show i<t.text.size by omega) hlt;have:=ih (i+1) (by omega);rw [key,aw h1];generalize t.text.toList[i]=b at *;have h0:((i:Int)<t.text.size):=by omega
  by_cases c1:(b.toNat:Int)<33
  · simp [jr,hx,c1,jO,oW,az,h0]
  · by_cases c2:(b.toNat:Int)>126
    · simp [jr,hx,c1,c2,jO,oW,az,h0]
    · by_cases c3:(b.toNat:Int)=42
      · simp [jr,hx,c3,jO,oW,az,h0]
      · by_cases c4:(b.toNat:Int)=44
        · simp [jr,hx,c4,jO,oW,az,h0]
        · have hb:oW b=false:=by simp [oW,c1,c2,c3,c4]
          simp [jO,hb,jr,hx,c1,c2,c3,c4,az,h0,hw];simpa using this
theorem Zn (t:Term)(ht:t.text.size<=big)(h:Hp):Sm E TT aj 276 [ag t.c] h=some (bl (fH t),h):=by
 rw [aV al7 bb6];have k1:=XP (E:=E) t ht t.text.size 0 (by omega);simp at k1;simp [ae,Qn];rw [au];simp [k1];cases hb:jO t.text.toList with
 | true=>simp [fH,hb]
 | false =>
  by_cases c0:t.kind=4
  · simp [fH,hb,c0]
  · by_cases c1:t.kind>=1<;>by_cases c2:t.kind<=3<;>by_cases c3:(t.text.size:Int)>=1<;>simp [fH,hb,c0,az,c1,c2,c3]
theorem aq6:TT 288=some (idxQ 2):=am0
theorem aq3:TT 274=some (anyQ 288):=al5
theorem aq2:TT 273=some idx1Q:=al4
theorem ap5:TT 259=some (anyQ 273):=ak3
theorem Zm (t:Term)(ht:t.text.size<=big)(h:Hp):Sm E TT aj 275 [ag t.c] h=some (bl (!fH t),h):=by
 rw [aN al6 bb5];simp [ae,Qm,Zn t ht,V.under]
def aU (s:Sl Term):Bool:=decide ((s.l.length:Int)<=6)&&s.l.all fH
theorem Zi (s:Sl Term)(hs:short s)(ht:∀ t∈s.l,t.text.size<=big)(h:Hp):Sm E TT aj 261 [.d (s.d Term.c)] h=some (bl (aU s),h):=by
 rw [aV ak5 ba0];have hany:=S_any (E:=E) (T:=TT) (val:=aj) Term.c (z:=2) aq6 bb9 aq3 bb4 (v:=.d (s.d Term.c)) (es:=s.l) (f:=275) (caps:=[]) (q:=fun t=>!fH t) (h:=⟨[],0⟩) (RowIs.of (cells:=Term.c) (z:=2) (fun _=>rfl) _) hs.lt (fun e he lo=>Zm e (ht e he) _);by_cases hm:(s.l.length:Int)<=6
 · simp [ae,Mf,hm,hany,az,aU,← uL]
 · simp [ae,Mf,hm,hany,az,aU]
theorem Zh (s:Sl Term)(hs:short s)(ht:∀ t∈s.l,t.text.size<=big)(h:Hp):Sm E TT aj 260 [.d (s.d Term.c)] h=some (bl (!aU s),h):=by
 rw [aN ak4 az9];simp [ae,Qj,Zi s hs ht,V.under]
theorem NK (ls:List (Sl Term))(hl:ls.length<2 ^ 62)(hs:∀ s∈ls,short s/\∀ t∈s.l,t.text.size<=big)(a:V)(h:Hp)(ha:frz h a=some (.d (.slice false (ls.map fun s=>[s.d Term.c])))):Sm E TT aj 237 [a] h=some (bl (ls.all aU),h):=by
 rw [aV aj1 ay6];have hr:RowIs ([]:List Blk) (.d (.slice false (ls.map fun s=>[s.d Term.c]))) 1 (ls.map fun s=>[s.d Term.c]):=⟨by simp,.inl ⟨false,rfl⟩⟩;have hany:=G7 (E:=E) (T:=TT) (val:=aj) (Sl.d Term.c) aq2 ba9 ap5 az8 (es:=ls) (f:=260) (caps:=[]) (q:=fun s=>!aU s) (h:=⟨[],0⟩) hr hl (fun e he lo=>Zh e (hs e he).1 (hs e he).2 _);simp [ae,Qg,ha,hany,← uL,ownR,xH,ll]
end
section
def q8 (mx:Bool)(l:List V)(h:Hp):Option (V×Hp):=match l with
 | []=>none
 | x::xs=>match ig mx x xs with
  | some v=>some (v,h)
  | none=>none
def H5 (k:IntKind)(x:V)(h:Hp):Option (V×Hp):=match x with
 | .d (.int _ n)=>some (.d (.int k (k.wrap n)),h)
 | _=>none
section
variable {C:Calls'}{ev:X->V}{h:Hp}
@[simp] theorem OP {mx:Bool}{a b:X}:opE C (.minmax mx [a,b]) ev h=if okV (ev a)&&(okV (ev b)&&true) then q8 mx [ev a,ev b] h else none:=(rfl)
@[simp] theorem QU {k:IntKind}{x:X}:opE C (.convI k x) ev h=H5 k (ev x) h:=(rfl)
@[simp] theorem Oc {k k':IntKind}{n:Int}:H5 k (.d (.int k' n)) h=some (.d (.int k (k.wrap n)),h):=(rfl)
@[simp] theorem TU {k:IntKind}{a b:Int}:q8 true [.d (.int k a),.d (.int k b)] h=some (.d (.int k (if b>a then b else a)),h):=by simp [q8,ig]
@[simp] theorem TR {k:IntKind}{a b:Int}:q8 false [.d (.int k a),.d (.int k b)] h=some (.d (.int k (if b<a then b else a)),h):=by simp [q8,ig]
end
section
variable {k k':IntKind}{a b:Int}
theorem Km (hb:0<=b):bV .shl (.d (.int k a)) (.d (.int k' b))=some (.int k (k.wrap (a * 2 ^ (min b.toNat k.bits)))):=by simp [bV,show ¬ b<0 by omega]
theorem ib (hb:0<=b):bV .shr (.d (.int k a)) (.d (.int k' b))=some (.int k (a.fdiv (2 ^ (min b.toNat k.bits)))):=by simp [bV,show ¬ b<0 by omega]
def qI (k:IntKind)(a b:Int):Int:=k.wrap ((BitVec.ofInt k.bits a &&& ~~~ BitVec.ofInt k.bits b).toNat)
theorem CQ:bV .andNot (.d (.int k a)) (.d (.int k b))=some (.int k (qI k a b)):=by simp [bV,fP,qI]
end
variable {E:Calls'}
theorem SB (n:Int)(h:Hp):Sm E TT aj 117 [.d (i64 n)] h=some (bl (decide (n>=1)&&decide (n<=65535)),h):=by
 rw [aV ad7 as9];by_cases c1:n>=1<;>simp [ae,LG,az,c1]
theorem YA (n:Int)(h:Hp):Sm E TT aj 122 [.d (u64 n)] h=some (bl (decide (n>=1)&&decide (n<=4611686018427387903)),h):=by
 rw [aV ae2 at6];by_cases c1:n>=1<;>simp [ae,LJ,az,c1]
def qZ (n:Int):Int:=wrap .u32 (wrap .u64 (4294967296-wrap .u64 (1 * 2 ^ (min (wrap .i64 (32-n)).toNat 64))))
theorem Zj (n:Int)(h0:0<=n)(h1:n<=32)(h:Hp):Sm E TT aj 264 [.d (i64 n)] h=some (.d (u32 (qZ n)),h):=by
 rw [aV ak8 ba3];have hw:wrap .i64 (32-n)=32-n:=wrap64 (by omega) (by omega);have hs:=Km (k:=.u64) (k':=.i64) (a:=1) (b:=32-n) (by omega);have e1:(if (0:Int)>n then 0 else n)=n:=if_neg (by omega);have e2:(if (32:Int)<n then 32 else n)=n:=if_neg (by omega);simp [ae,Qk,hw,hs,e1,e2,qZ,IntKind.bits]
def iL (c:Cidr):Bool:=decide (c.bits>=0)&&(decide (c.bits<=32)&&(qI .u32 c.addr (qZ c.bits)==0))
theorem Zb (c:Cidr)(h:Hp):Sm E TT aj 239 [ag c.c] h=some (bl (iL c),h):=by
 rw [aV aj3 ay8];by_cases c1:c.bits>=0
 · by_cases c2:c.bits<=32
   · simp +decide [ae,Ji,az,c1,c2,iL,Zj c.bits c1 c2,CQ,ai,aa,av]
   · simp +decide [ae,Ji,az,c1,c2,iL,ai,av]
 · simp +decide [ae,Ji,az,c1,iL,ai,av]
end
section
theorem CY (s:ByteArray)(pos:Nat)(h:pos<s.size)(ha:¬ (s[pos]'h).toNat<128):128<=(Utf8.decode s pos).1:=by
 have e:s.get! (pos+0)=s[pos]'h:=by
  show s.get! pos=_;simp [ByteArray.get!,getElem!_pos,h];rfl
 simp only [Utf8.decode,e,ha,if_false]
 repeat' split
 all_goals first | (simp only [Utf8.runeError]; omega) | (rename_i hh; simp only [aq,br] at hh; dsimp only; omega) | (rename_i hh; simp only [aq,br] at hh; have:=hh.1; dsimp only; omega) | (dsimp only; omega)
def Jk (x:V)(h:Hp):Option (V×Hp):=match x with
 | .d (.str s)=>some (.ptr h.size 0,{ h with bs:=h.bs++[.iter s 0] })
 | _=>none
def uF (x:V)(h:Hp):Option (V×Hp):=match x with
 | .ptr b 0=>match h.bs[b]? with
  | some (.iter s pos) =>
   if pos<s.size then
    let (c,w):=Utf8.decode s pos
    some (.tup [.d (.bool true),.d (.int .i64 pos),.d (.int .i32 c)],⟨h.bs.set b (.iter s (pos+w)),min h.low b⟩)
   else some (.tup [.d (.bool false)],h)
  | _=>none
 | _=>none
section
variable {C:Calls'}{ev:X->V}{h:Hp}
@[simp] theorem QV {x:X}:opE C (.range x) ev h=Jk (ev x) h:=(rfl)
@[simp] theorem Uq {x:X}:opE C (.next x) ev h=uF (ev x) h:=(rfl)
@[simp] theorem Vf {s:ByteArray}:Jk (.d (.str s)) ⟨[],0⟩=some (.ptr 0 0,⟨[.iter s 0],0⟩):=(rfl)
end
theorem FX {s:ByteArray}{pos:Nat}(h:¬ pos<s.size):uF (.ptr 0 0) ⟨[.iter s pos],0⟩=some (.tup [bl false],⟨[.iter s pos],0⟩):=by simp [uF,h]
theorem Bo {s:ByteArray}{pos:Nat}{b:UInt8}(hb:s.toList[pos]?=some b)(ha:b.toNat<128):uF (.ptr 0 0) ⟨[.iter s pos],0⟩=some (.tup [bl true,.d (i64 pos),.d (.int .i32 b.toNat)],⟨[.iter s (pos+1)],0⟩):=by
 have hl:=fw s;have h:pos<s.size:=by rw [← hl]; exact (bw.1 hb).1
 have he:s[pos]'h=b:=by
  have:=(bw.1 hb).2;simp only [bM] at this;exact this
 have hd:=decode_ascii s pos h (by rw [he]; exact ha);simp [uF,h,hd,he]
theorem FW {s:ByteArray}{pos:Nat}{b:UInt8}(hb:s.toList[pos]?=some b)(ha:¬ b.toNat<128):∃ (c:Nat) (q:Nat),128<=c/\uF (.ptr 0 0) ⟨[.iter s pos],0⟩=some (.tup [bl true,.d (i64 pos),.d (.int .i32 c)],⟨[.iter s q],0⟩):=by
 have hl:=fw s;have h:pos<s.size:=by rw [← hl]; exact (bw.1 hb).1
 have he:s[pos]'h=b:=by
  have:=(bw.1 hb).2;simp only [bM] at this;exact this
 have hd:=CY s pos h (by rw [he]; exact ha);exact ⟨(Utf8.decode s pos).1,pos+(Utf8.decode s pos).2,hd,by simp [uF,h]⟩
end
section
end
section
variable {E:Calls'}
def xE (n i c:Nat):Bool:=!((decide ((c:Int)>=97)&&decide ((c:Int)<=122))||((decide ((c:Int)>=48)&&decide ((c:Int)<=57))||(((c:Int)==45)&&!(((i:Int)==0)||((i:Int)+1==n)))))
def ky (n:Nat):Nat->List UInt8->Bool
 | _,[]=>false
 | i,b::l=>xE n i b.toNat||ky n (i+1) l
def bf (s:ByteArray):Bool:=!ky s.size 0 s.toList&&(decide ((s.size:Int)>=1)&&decide ((s.size:Int)<=20))
theorem X3 (s:ByteArray)(i c:Nat)(bs bs':List Blk)(hn:uF (.ptr 0 0) ⟨bs,0⟩=some (.tup [bl true,.d (i64 i),.d (.int .i32 c)],⟨bs',0⟩))(hi:i<s.size)(hs:s.size<2 ^ 62)(W:EA->Hp->fZ) :
 eD [0,7] W (Cd E TT aj mq [(0,.d (.str s)),(7,.ptr 0 0)] ⟨bs,0⟩)=(if xE s.size i c then some (.ret,[(2,bl false)],⟨bs',0⟩) else W [(0,.d (.str s)),(7,.ptr 0 0)] ⟨bs',0⟩):=by
 have hw:=ak hi hs;have e0:∃ t,((i:Int)==0)=t:=⟨_,rfl⟩;obtain ⟨t0,e0⟩:=e0;have e1:∃ t,((i:Int)+1==s.size)=t:=⟨_,rfl⟩;obtain ⟨t1,e1⟩:=e1;by_cases c1:(c:Int)>=97<;>by_cases c2:(c:Int)<=122<;>by_cases c3:(c:Int)>=48<;>by_cases c4:(c:Int)<=57<;>by_cases c5:(c:Int)=45<;>first
  | (exfalso; omega)
  | (simp only [xE,c1,c2,c3,c4,c5,e0,e1]; cases t0<;>cases t1<;>simp [mq,hn,az,hw,e0,e1,c1,c2,c3,c4,c5])
theorem A9 {n i c:Nat}(h:128<=c):xE n i c=true:=by
 have h1:¬ ((c:Int)<=122):=by omega
 have h2:¬ ((c:Int)<=57):=by omega
 have h3:¬ ((c:Int)=45):=by omega
 simp [xE,h1,h2,h3]
theorem XD (s:ByteArray)(hs:s.size<2 ^ 62):∀ (m i:Nat),i+m=s.size →
 ∃ q,Cd E TT aj (.loop [0,7] mq) [(0,.d (.str s)),(7,.ptr 0 0)] ⟨[.iter s i],0⟩ =
  if ky s.size i (s.toList.drop i) then some (.ret,[(2,bl false)],⟨[.iter s q],0⟩) else some (.exit 0,[(0,.d (.str s))],⟨[.iter s q],0⟩):=by
 have hsl:=fw s;intro m;have key:=aC (E:=E) (T:=TT) (val:=aj) [0,7] mq;have hk:bU [0,7] [(0,.d (.str s)),(7,.ptr 0 0)]=[(0,.d (.str s)),(7,.ptr 0 0)]:=rfl;have hR:=fun i c bs bs' hn hi=>X3 (E:=E) s i c bs bs' hn hi hs;generalize Cd E TT aj (.loop [0,7] mq)=W at key ⊢
 induction m with
 | zero =>
  intro i hi;refine ⟨i,?_⟩;rw [key,ba (by omega)];simp [mq,ky,FX (show ¬ i<s.size by omega)]
 | succ m ih =>
  intro i hi;have h1:i<s.toList.length:=by omega
  have hb:=ac h1;rw [aw h1];obtain ⟨q,hq⟩:=ih (i+1) (by omega);generalize s.toList[i]=b at *;by_cases ha:b.toNat<128
  · refine ⟨if xE s.size i b.toNat then i+1 else q,?_⟩;rw [key,hk,hR i b.toNat _ _ (Bo hb ha) (by omega) W];cases hl:xE s.size i b.toNat with
    | true=>simp [ky,hl]
    | false=>simp [ky,hl,hq]
  · obtain ⟨c,q',hc,hn⟩:=FW hb ha;refine ⟨q',?_⟩;have hl:xE s.size i b.toNat=true:=A9 (by omega);rw [key,hk,hR i c _ _ hn (by omega) W,A9 hc];simp [ky,hl]
theorem Kb (s:ByteArray)(hs:s.size<=big)(h:Hp):Sm E TT aj 123 [.d (.str s)] h=some (bl (bf s),h):=by
 rw [aV ae3 at7];obtain ⟨q,k1⟩:=XD (E:=E) s (cd hs (by decide)) s.size 0 (by omega);simp at k1;simp [ae,LK];rw [au];simp [k1];cases hb:ky s.size 0 s.toList with
 | true=>simp [bf,hb]
 | false=>by_cases c1:(s.size:Int)>=1<;>simp [bf,hb,az,c1]
theorem Yv (a b:ByteArray)(ha:a.size<=big)(hb:b.size<=big)(h:Hp):Sm E TT aj 116 [ag [.str a,.str b]] h=some (bl (bf a&&bf b),h):=by
 rw [aV ad6 as8];have h1:=Kb (E:=E) a ha;have h2:=Kb (E:=E) b hb;cases hl:bf a<;>simp [ae,LF,h1,h2,hl,az]
end
section
variable {E:Calls'}
def tokN:List Int:=[0,0,0,0,0,0,0,0,0,0,0,0,0,0,0,0,0,0,0,0,0,0,0,0,0,0,0,0,0,0,0,0,0,1,0,1,1,1,1,1,0,0,1,1,0,1,1,0,1,1,1,1,1,1,1,1,1,1,0,0,0,0,0,0,0,0,0,0,0,0,0,0,0,0,0,0,0,0,0,0,0,0,0,0,0,0,0,0,0,0,0,0,0,0,1,1,1,1,1,1,1,1,1,1,1,1,1,1,1,1,1,1,1,1,1,1,1,1,1,1,1,1,1,0,1,0,1,0,0,0,0,0,0,0,0,0,0,0,0,0,0,0,0,0,0,0,0,0,0,0,0,0,0,0,0,0,0,0,0,0,0,0,0,0,0,0,0,0,0,0,0,0,0,0,0,0,0,0,0,0,0,0,0,0,0,0,0,0,0,0,0,0,0,0,0,0,0,0,0,0,0,0,0,0,0,0,0,0,0,0,0,0,0,0,0,0,0,0,0,0,0,0,0,0,0,0,0,0,0,0,0,0,0,0,0,0,0,0,0,0,0,0,0,0,0,0,0,0,0,0,0,0,0,0,0,0]
def tokL:List D:=tokN.map i64
theorem Cm:tokL.length=256:=rfl
theorem WY (C:Calls'):aW C 300 q477.code [] ⟨[],0⟩=some (.ret,[(0,.ptr 0 0)],⟨[.cells (tokL.map .d),.iter ⟨#[97,98,99,100,101,102,103,104,105,106,107,108,109,110,111,112,113,114,115,116,117,118,119,120,121,122,48,49,50,51,52,53,54,55,56,57,33,35,36,37,38,39,42,43,45,46,94,95,96,124,126]⟩ 51],0⟩):=by kernel_rfl
theorem Zk (h:Hp):Sm E TT aj 270 [] h=some (ag tokL,h):=by
 rw [aV al3 ba8];have h1:Cd E TT aj q477.code (jP 0 []) ⟨[],0⟩=_:=gK (k:=0) (WY _);have hr:q477.res=[.cell 0 false 256]:=rfl;have hs:=bH Cm;have h2:Bd E TT aj q477 [] ⟨[],0⟩=some (ag tokL,⟨[.cells (tokL.map .d),.iter ⟨#[97,98,99,100,101,102,103,104,105,106,107,108,109,110,111,112,113,114,115,116,117,118,119,120,121,122,48,49,50,51,52,53,54,55,56,57,33,35,36,37,38,39,42,43,45,46,94,95,96,124,126]⟩ 51],0⟩):=by
  show fin q477.res (Cd E TT aj q477.code (jP 0 []) ⟨[],0⟩)=_;rw [h1,hr];generalize tokL=L at hs ⊢;simp [hs]
 simp only [List.mapM_nil,Option.pure_def,lq,h2,JQ,lg,QA];simp
def D6 (b:UInt8):Int:=tokN.getD b.toNat 0
def jU:List UInt8->Bool
 | []=>false
 | b::l=>D6 b==0||jU l
def iN (s:ByteArray):Bool:=!jU s.toList&&(decide ((s.size:Int)>=1)&&decide ((s.size:Int)<=64))
theorem Qw (b:UInt8):sub tokL b.toNat 1=some [i64 (D6 b)]:=by
 have hb:b.toNat<256:=b.toNat_lt;have hl:tokN.length=256:=rfl;have e1:(tokN.drop b.toNat).take 1=[tokN[b.toNat]]:=by rw [aw (by omega)]; rfl
 rw [tokL,MI,eY,if_pos (by omega),e1,D6,bo,ac (by omega)];rfl
theorem XL (s:ByteArray)(hs:s.size<2 ^ 62):∀ (m i:Nat),i+m=s.size →
 Cd E TT aj (.loop [0,3,4] mD) [(0,.d (.str s)),(3,.ptr 0 0),(4,.d (i64 i))] ⟨[.cells (tokL.map .d)],0⟩ =
  if jU (s.toList.drop i) then some (.ret,[(2,bl false)],⟨[.cells (tokL.map .d)],0⟩) else some (.exit 0,[(0,.d (.str s))],⟨[.cells (tokL.map .d)],0⟩):=by
 have hsl:=fw s;have htok:=Qw;generalize tokL=TL at htok ⊢;intro m;have key:=aC (E:=E) (T:=TT) (val:=aj) [0,3,4] mD;generalize Cd E TT aj (.loop [0,3,4] mD)=W at key ⊢
 induction m with
 | zero =>
  intro i hi;rw [key,ba (by omega)];simp [mD,jU,show ¬ ((i:Int)<s.size) from by omega]
 | succ m ih =>
  intro i hi;have h1:i<s.toList.length:=by omega
  have hx:=fun h=>gU (h:=h) (ac h1);have hw:=ak (show i<s.size by omega) hs;have:=ih (i+1) (by omega);rw [key,aw h1];generalize s.toList[i]=b at *;have h0:((i:Int)<s.size):=by omega
  have hb:b.toNat<256:=b.toNat_lt;have hix:∀ h,eP (some 256) 1 (.ptr 0 0) (.d (.int .u8 b.toNat)) h=some (.ptr 0 b.toNat,h):=fun h=>by simp [eP]; omega
  by_cases c1:D6 b=0
  · simp [mD,hx,hix,htok,c1,jU,h0]
  · have c2:(D6 b==0)=false:=by simpa using c1
    simp [mD,hx,hix,htok,c1,c2,jU,h0,hw];simpa using this
theorem Zc (s:ByteArray)(hs:s.size<=big)(h:Hp):Sm E TT aj 247 [.d (.str s)] h=some (bl (iN s),h):=by
 rw [aV aj9 az4];have k1:=XL (E:=E) s (cd hs (by decide)) s.size 0 (by omega);have h477:=Zk (E:=E);have hl:=Cm;have hln:(tokL.map V.d).length=256:=by simp [hl]
 generalize hTL:tokL=TL at *;simp at k1;simp [ae,Qh,h477,hl];rw [au];simp [k1];cases hb:jU s.toList with
 | true=>simp [iN,hb]
 | false=>by_cases c1:(s.size:Int)>=1<;>simp [iN,hb,az,c1]
end
