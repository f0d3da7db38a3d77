/- Layer 17: what stands at an address, of the document. -/
import Derived.Test.YtoecipeaknldaaaGreatSa
import Derived.Laws.RangeString
import Derived.KernelRfl
import Derived.Shelf.Sort.Plain
import Derived.Shelf.Slices.In.SortNone
set_option maxRecDepth 100000
set_option linter.unusedVariables false
set_option linter.unusedSimpArgs false
namespace Go.Proofs.YtoecipeaknldaaaGreat
open IntKind (wrap)
section
variable {E:Calls'}
theorem PW (v:Vw)(hv:v.ok)(p:Pod):∀ (m i:Nat),i+m=v.services.l.length →
 Cd E TT ak (.loop [2,4,6,7] mZ) [(2,.ptr 0 0),(4,.ptr 1 0),(6,.ptr 2 0),(7,.d (i64 i))] ⟨[.cells (v.c.map .d),.cells (fnd0.c.map .d),.cells ((Fnd.c ⟨2,p,EO,way0⟩).map .d)],0⟩ =
  match (v.services.l.drop i).find? (λs=>!(p.service==0)&&s.id==p.service) with
  | some s=>some (.ret,[(4,.ptr 1 0)],⟨[.cells (v.c.map .d),.cells ((Fnd.c ⟨2,p,s,gM v s⟩).map .d),.cells ((Fnd.c ⟨2,p,s,gM v s⟩).map .d)],0⟩)
  | none=>some (.exit 2,[(4,.ptr 1 0),(6,.ptr 2 0)],⟨[.cells (v.c.map .d),.cells (fnd0.c.map .d),.cells ((Fnd.c ⟨2,p,EO,way0⟩).map .d)],0⟩):=by
 have hlt:v.services.l.length<2 ^ 62:=fit.lt hv.2.2.1;intro m;have key:=aF (E:=E) (T:=TT) (val:=ak) [2,4,6,7] mZ;generalize Cd E TT ak (.loop [2,4,6,7] mZ)=W at key ⊢
 induction m with
 | zero =>
  intro i hi;rw [key,aq (by omega)];simp [mZ,show ¬ ((i:Int)<v.services.l.length) from by omega]
 | succ m ih =>
  intro i hi;have h1:i<v.services.l.length:=by omega
  have hx:=λh=>av (z:=5) h (ab h1) (cells:=Svc.c) rfl;have hw:=ay h1 hlt;have:=ih (i+1) (by omega);rw [key,ap h1];generalize v.services.l[i]=x at *;by_cases hz:p.service=0
  . simp [hz] at this;simp [mZ,hx,hz,hw,aA,show ((i:Int)<v.services.l.length) from by omega];simpa using this
  . by_cases hq:x.id=p.service
    . simp [mZ,hx,hq,hz,aA,Qk v hv,List.find?_cons,show ((i:Int)<v.services.l.length) from by omega];first | done | rfl
    . simp [hz] at this;simp [mZ,hx,hq,hz,hw,aA,List.find?_cons,show ((i:Int)<v.services.l.length) from by omega];simpa using this
theorem PX (v:Vw)(hv:v.ok)(n:Int):∀ (m i:Nat),i+m=v.pods.l.length →
 ∃ J,Cd E TT ak (.loop [1,2,4,5] oQ) [(1,.d (u32 n)),(2,.ptr 0 0),(4,.ptr 1 0),(5,.d (i64 i))] ⟨[.cells (v.c.map .d),.cells (fnd0.c.map .d)],0⟩ =
  match (v.pods.l.drop i).find? (λp=>p.addr==n) with
  | some p=>some (.ret,[(4,.ptr 1 0)],⟨.cells (v.c.map .d)::.cells ((og v p).c.map .d)::J,0⟩)
  | none=>some (.exit 0,[(1,.d (u32 n)),(2,.ptr 0 0),(4,.ptr 1 0)],⟨[.cells (v.c.map .d),.cells (fnd0.c.map .d)],0⟩):=by
 have hlt:v.pods.l.length<2 ^ 62:=fit.lt hv.2.1;intro m;have key:=aF (E:=E) (T:=TT) (val:=ak) [1,2,4,5] oQ;generalize Cd E TT ak (.loop [1,2,4,5] oQ)=W at key ⊢
 induction m with
 | zero =>
  intro i hi;refine ⟨[],?_⟩;rw [key,aq (by omega)];simp [oQ,show ¬ ((i:Int)<v.pods.l.length) from by omega]
 | succ m ih =>
  intro i hi;have h1:i<v.pods.l.length:=by omega
  have hx:=λh=>av (z:=7) h (ab h1) (cells:=Pod.c) rfl;have hw:=ay h1 hlt;have:=ih (i+1) (by omega);rw [key,ap h1];generalize v.pods.l[i]=x at *;by_cases hq:x.addr=n
  . have k0:=PW (E:=E) v hv x v.services.l.length 0 (by omega);simp at k0;refine ⟨[.cells ((og v x).c.map .d)],?_⟩;simp [oQ,hx,hq,aB,List.find?_cons,fnd0,show ((i:Int)<v.pods.l.length) from by omega];rw [au];simp [fnd0] at k0;simp [k0,og];cases v.services.l.find? (λs=>!(x.service==0)&&s.id==x.service) with
    | some s=>simp
    | none=>simp
  . obtain ⟨J,this⟩:=this;refine ⟨J,?_⟩;simp [oQ,hx,hq,hw,List.find?_cons,show ((i:Int)<v.pods.l.length) from by omega];simpa using this
theorem PY (v:Vw)(hv:v.ok)(n:Int):∀ (m i:Nat),i+m=v.services.l.length →
 Cd E TT ak (.loop [1,2,4,8] oU) [(1,.d (u32 n)),(2,.ptr 0 0),(4,.ptr 1 0),(8,.d (i64 i))] ⟨[.cells (v.c.map .d),.cells (fnd0.c.map .d)],0⟩ =
  match (v.services.l.drop i).find? (λs=>s.addr==n) with
  | some s=>some (.ret,[(4,.ptr 1 0)],⟨[.cells (v.c.map .d),.cells ((Fnd.c ⟨3,pod0,s,gM v s⟩).map .d)],0⟩)
  | none=>some (.exit 4,[(4,.ptr 1 0)],⟨[.cells (v.c.map .d),.cells (fnd0.c.map .d)],0⟩):=by
 have hlt:v.services.l.length<2 ^ 62:=fit.lt hv.2.2.1;intro m;have key:=aF (E:=E) (T:=TT) (val:=ak) [1,2,4,8] oU;generalize Cd E TT ak (.loop [1,2,4,8] oU)=W at key ⊢
 induction m with
 | zero =>
  intro i hi;rw [key,aq (by omega)];simp [oU,show ¬ ((i:Int)<v.services.l.length) from by omega]
 | succ m ih =>
  intro i hi;have h1:i<v.services.l.length:=by omega
  have hx:=λh=>av (z:=5) h (ab h1) (cells:=Svc.c) rfl;have hw:=ay h1 hlt;have:=ih (i+1) (by omega);rw [key,ap h1];generalize v.services.l[i]=x at *;by_cases hq:x.addr=n
  . simp +decide [oU,hx,hq,az,ae,Qk v hv,aB,fnd0,List.find?_cons,show ((i:Int)<v.services.l.length) from by omega];first | done | rfl
  . simp [oU,hx,hq,hw,List.find?_cons,show ((i:Int)<v.services.l.length) from by omega];simpa using this
theorem S74 (v:Vw)(hv:v.ok)(n:Int)(h:Hp):Sm E TT ak 30 [v.v,.d (u32 n)] h=some ((mD v n).v,h):=by
 rw [aQ t74 v74];obtain ⟨J,k1⟩:=PX (E:=E) v hv n v.pods.l.length 0 (by omega);have k2:=PY (E:=E) v hv n v.services.l.length 0 (by omega);have k3:=λh=>Yc (E:=E) hv.1 n h;simp at k1 k2;simp [aa,q74];rw [au];simp [k1];cases h1:v.pods.l.find? (λp=>p.addr==n) with
 | some p=>simp [mD,h1]
 | none =>
  simp;by_cases hc:bE v.covers.l n=true
  . simp [k3,hc];rw [au];simp [k2];cases h2:v.services.l.find? (λp=>p.addr==n) with
    | some p=>simp [mD,h1,h2,hc]
    | none =>
     simp [mD,h1,h2,hc,aB,fnd0];first | done | exact ⟨rfl,rfl⟩ | rfl
  . have hc':bE v.covers.l n=false:=by simpa using hc
    simp [k3,hc',mD,h1];first | done | rfl
end
section
section
variable {E:Calls'}{T:FuncId->Option QF}{val:FuncId->Bool}
theorem AJ {z b:Nat}{zero:List V}(hz0:0<z)(hb:b<=4096){es:List (List D)}(hz:∀ e∈es,e.length=z)(hlen:es.length<=big){bs:List Blk}(lo:Nat){r:Nat}{cap:Option Nat}{rest:List V}(hr:ai bs r=some (flat es++rest)) :
 Bd E T val (cloneQ z b zero) [.row r 0 es.length cap z] ⟨bs,lo⟩=some (cloneR z false es bs lo):=by
 have hzz:z≠0:=by omega
 have hl:=jV hz;have hs:sub (flat es++rest) 0 (es.length * z)=some (flat es):=by
  rw [eT,if_pos (by rw [am,hl]; omega),List.drop_zero,← hl,List.take_left]
 have hg:=aj (ys:=[.cells []]) hr;have hrc:aO ⟨bs++[.cells []],lo⟩ (.row r 0 es.length cap z) z=some (es.length,flat es):=by
  simp only [aO,get_eq,hg,hs]; simp
 cases es with
 | nil=>simp at hrc; simp [cloneQ,aa,fw,hrc,aI,hzz,cloneR]
 | cons e es =>
  generalize hF:flat (e::es)=F at hrc;have hr:roomy (es.length+1) b=true:=by
   simp only [roomy,ao,br];exact ⟨hlen,hb⟩
  simp at hrc;simp [cloneQ,aa,fw,hrc,aI,hzz,hr,cloneR,hF]
theorem AR {z b:Nat}{zero:List V}{id:FuncId}(ht:T id=some (cloneQ z b zero))(hv:val id=false)(hz0:0<z)(hb:b<=4096){es:List (List D)}(hz:∀ e∈es,e.length=z)(hlen:es.length<=big)(h:Hp){r:Nat}{cap:Option Nat}{rest:List V}(hr:ai h.bs r=some (flat es++rest)) :
 Sm E T val id [.row r 0 es.length cap z] h=some ((cloneR z false es h.bs h.low).1,⟨(cloneR z false es h.bs h.low).2.bs,min h.low h.bs.length⟩):=by
 have hrl:=aJ hr;rw [aT ht hv,AJ hz0 hb hz hlen _ hr];cases es<;>simp [dY,cloneR,V.under]<;>(try intro hh)<;>omega
end
section
variable {E:Calls'}
def Lc:List V:=[(.d (.int .u64 0)),(.d (.str ⟨#[]⟩)),(.d (.int .u64 0)),(.d (.int .i64 0)),(.d (.slice true []))]
end
end
section
variable {E:Calls'}
end
section
variable {E:Calls'}
end
section
variable {E:Calls'}
def mo (v:Vw)(x:Pod):List Pol:=v.policies.l.filter λp=>cB p x.ns x.service
def GL (v:Vw):Cfg:=⟨0,0,0,0,⟨true,[]⟩,⟨true,[]⟩,⟨true,[]⟩,v.policies⟩
theorem Ej {v:Vw}(hv:v.ok):(GL v).ok:=⟨⟨Nat.zero_le _,λ_=>rfl⟩,⟨Nat.zero_le _,λ_=>rfl⟩,⟨Nat.zero_le _,λ_=>rfl⟩,hv.2.2.2.2.1,hv.2.2.2.2.2⟩
theorem S72 (v:Vw)(hv:v.ok)(x:Pod)(h:Hp):Sm E TT ak 34 [v.v,x.v] h=some (.d (Sl.d Pol.c ⟨(mo v x).isEmpty,mo v x⟩),h):=by
 rw [aQ t72 v72];have h51:∀ h,Sm E TT ak 75 [.agg [.d (.int .u64 0),.d (.int .u64 0),.d (.int .i64 0),.d (.int .i64 0),.d (.slice true []),.d (.slice true []),.d (.slice true []),.d (v.policies.d Pol.c)],ag x.c] h=some (.d (Sl.d Pol.c ⟨(mo v x).isEmpty,mo v x⟩),h):=λh=>S51 (E:=E) (GL v) (Ej hv) x h;simp [aa,q72,aB,put,h51]
theorem S70 (v:Vw)(hv:v.ok):∃ b:Bool,∀ h,Sm E TT ak 18 [v.v] h=some (bl b,h):=by
 obtain ⟨b,hb⟩:=S31 (E:=E) v.cfg hv.2;have h31:∀ h,Sm E TT ak 36 [.agg [.d (.int .u64 0),.d (.int .u64 0),.d (.int .i64 0),.d (.int .i64 0),.d (v.pods.d Pod.c),.d (v.services.d Svc.c),.d (v.bound.d Way.c),.d (v.policies.d Pol.c)]] h=some (bl b,h):=hb;by_cases hc:(v.covers.l.length:Int)>1000
 . refine ⟨true,λh=>?_⟩;rw [aQ t70 v70];simp [aa,q70,aB,put,h31,hc,aA]
 . refine ⟨b,λh=>?_⟩;rw [aQ t70 v70];simp [aa,q70,aB,put,h31,hc,aA]
end
section
def sK (x i:V)(h:Hp):Option (V×Hp):=match i,x with
 | .d (.int _ i),.d (.str s)=>if 0<=i then (match s.toList[i.toNat]? with | some b=>some (.d (.int .u8 b.toNat),h) | none=>none) else none
 | _,_=>none
section
variable {C:Calls'}{ev:X->V}{h:Hp}
@[simp] theorem SV {x i:X}:opE C (.idxS x i) ev h=sK (ev x) (ev i) h:=(rfl)
end
theorem iA {s:ByteArray}{k:Nat}{b:UInt8}{h:Hp}(hk:s.toList[k]?=some b):sK (.d (.str s)) (.d (.int .i64 k)) h=some (.d (.int .u8 b.toNat),h):=by
 simp [sK,hk]
theorem gJ (s:ByteArray):s.toList.length=s.size:=by rw [bO]; rfl
variable {E:Calls'}
def nV (b:UInt8):Bool:=decide ((b.toNat:Int)<33)||(decide ((b.toNat:Int)>126)||((b.toNat:Int)==42||(b.toNat:Int)==44))
def jK:List UInt8->Bool
 | []=>false
 | b::l=>nV b||jK l
def fQ (t:Term):Bool:=!jK t.text.toList&&(if t.kind==4 then eqS t.text ⟨#[]⟩ else decide (1<=t.kind)&&(decide (t.kind<=3)&&(decide ((t.text.size:Int)>=1)&&decide ((t.text.size:Int)<=64))))
theorem X3 (t:Term)(ht:t.text.size<=big):∀ (m i:Nat),i+m=t.text.size →
 Cd E TT ak (.loop [1,3] jc) [(1,.ptr 0 0),(3,.d (i64 i))] ⟨[.cells (t.c.map .d)],0⟩ =
  if jK (t.text.toList.drop i) then some (.ret,[(2,bl false)],⟨[.cells (t.c.map .d)],0⟩) else some (.exit 0,[(1,.ptr 0 0)],⟨[.cells (t.c.map .d)],0⟩):=by
 have hlt:t.text.size<2 ^ 62:=ce ht (by decide);have hsl:=gJ t.text;intro m;have key:=aF (E:=E) (T:=TT) (val:=ak) [1,3] jc;generalize Cd E TT ak (.loop [1,3] jc)=W at key ⊢
 induction m with
 | zero =>
  intro i hi;rw [key,aq (by omega)];simp [jc,jK,show ¬ ((i:Int)<t.text.size) from by omega]
 | succ m ih =>
  intro i hi;have h1:i<t.text.toList.length:=by omega
  have hx:=λh=>iA (h:=h) (ab h1);have hw:=ay (show i<t.text.size by omega) hlt;have:=ih (i+1) (by omega);rw [key,ap h1];generalize t.text.toList[i]=b at *;have h0:((i:Int)<t.text.size):=by omega
  by_cases c1:(b.toNat:Int)<33
  . simp [jc,hx,c1,jK,nV,aA,h0]
  . by_cases c2:(b.toNat:Int)>126
    . simp [jc,hx,c1,c2,jK,nV,aA,h0]
    . by_cases c3:(b.toNat:Int)=42
      . simp [jc,hx,c3,jK,nV,aA,h0]
      . by_cases c4:(b.toNat:Int)=44
        . simp [jc,hx,c4,jK,nV,aA,h0]
        . have hb:nV b=false:=by simp [nV,c1,c2,c3,c4]
          simp [jK,hb,jc,hx,c1,c2,c3,c4,aA,h0,hw];simpa using this
theorem YS (t:Term)(ht:t.text.size<=big)(h:Hp):Sm E TT ak 280 [ag t.c] h=some (bl (fQ t),h):=by
 rw [aQ am4 aw9];have k1:=X3 (E:=E) t ht t.text.size 0 (by omega);simp at k1;simp [aa,Oy];rw [au];simp [k1];cases hb:jK t.text.toList with
 | true=>simp [fQ,hb]
 | false =>
  by_cases c0:t.kind=4
  . simp [fQ,hb,c0]
  . by_cases c1:t.kind>=1<;>by_cases c2:t.kind<=3<;>by_cases c3:(t.text.size:Int)>=1<;>simp [fQ,hb,c0,aA,c1,c2,c3]
theorem aq0:TT 292=some (idxQ 2):=am7
theorem ap7:TT 278=some (anyQ 292):=am2
theorem ap6:TT 277=some idx1Q:=am1
theorem ao9:TT 265=some (anyQ 277):=al0
theorem YR (t:Term)(ht:t.text.size<=big)(h:Hp):Sm E TT ak 279 [ag t.c] h=some (bl (!fQ t),h):=by
 rw [aT am3 aw8];simp [aa,Ox,YS t ht,V.under]
def aZ (s:Sl Term):Bool:=decide ((s.l.length:Int)<=6)&&s.l.all fQ
theorem YN (s:Sl Term)(hs:short s)(ht:∀ t∈s.l,t.text.size<=big)(h:Hp):Sm E TT ak 267 [.d (s.d Term.c)] h=some (bl (aZ s),h):=by
 rw [aQ al2 av7];have hany:=rX (E:=E) (T:=TT) (val:=ak) Term.c (z:=2) aq0 ax2 ap7 aw7 (v:=.d (s.d Term.c)) (es:=s.l) (f:=279) (caps:=[]) (q:=λt=>!fQ t) (h:=⟨[],0⟩) (RowIs.of (cells:=Term.c) (z:=2) (λ_=>rfl) _) hs.lt (λe he lo=>YR e (ht e he) _);by_cases hm:(s.l.length:Int)<=6
 . simp [aa,Kc,hm,hany,aA,aZ,← sU]
 . simp [aa,Kc,hm,hany,aA,aZ]
theorem YM (s:Sl Term)(hs:short s)(ht:∀ t∈s.l,t.text.size<=big)(h:Hp):Sm E TT ak 266 [.d (s.d Term.c)] h=some (bl (!aZ s),h):=by
 rw [aT al1 av6];simp [aa,Ou,YN s hs ht,V.under]
theorem Ma (ls:List (Sl Term))(hl:ls.length<2 ^ 62)(hs:∀ s∈ls,short s/\∀ t∈s.l,t.text.size<=big)(a:V)(h:Hp)(ha:frz h a=some (.d (.slice false (ls.map λs=>[s.d Term.c])))):Sm E TT ak 247 [a] h=some (bl (ls.all aZ),h):=by
 rw [aQ ak0 au5];have hr:RowIs ([]:List Blk) (.d (.slice false (ls.map λs=>[s.d Term.c]))) 1 (ls.map λs=>[s.d Term.c]):=⟨by simp,.inl ⟨false,rfl⟩⟩;have hany:=Fj (E:=E) (T:=TT) (val:=ak) (Sl.d Term.c) ap6 aw6 ao9 av5 (es:=ls) (f:=266) (caps:=[]) (q:=λs=>!aZ s) (h:=⟨[],0⟩) hr hl (λe he lo=>YM e (hs e he).1 (hs e he).2 _);simp [aa,Oq,ha,hany,← sU,ownR,xJ,mq]
end
section
def qh (mx:Bool)(l:List V)(h:Hp):Option (V×Hp):=match l with
 | []=>none
 | x::xs=>match gH mx x xs with
  | some v=>some (v,h)
  | none=>none
def FL (k:IntKind)(x:V)(h:Hp):Option (V×Hp):=match x with
 | .d (.int _ n)=>some (.d (.int k (k.wrap n)),h)
 | _=>none
section
variable {C:Calls'}{ev:X->V}{h:Hp}
@[simp] theorem M8 {mx:Bool}{a b:X}:opE C (.minmax mx [a,b]) ev h=if okV (ev a)&&(okV (ev b)&&true) then qh mx [ev a,ev b] h else none:=(rfl)
@[simp] theorem Pm {k:IntKind}{x:X}:opE C (.convI k x) ev h=FL k (ev x) h:=(rfl)
@[simp] theorem MF {k k':IntKind}{n:Int}:FL k (.d (.int k' n)) h=some (.d (.int k (k.wrap n)),h):=(rfl)
@[simp] theorem Sr {k:IntKind}{a b:Int}:qh true [.d (.int k a),.d (.int k b)] h=some (.d (.int k (if b>a then b else a)),h):=by simp [qh,gH]
@[simp] theorem Sq {k:IntKind}{a b:Int}:qh false [.d (.int k a),.d (.int k b)] h=some (.d (.int k (if b<a then b else a)),h):=by simp [qh,gH]
end
section
variable {k k':IntKind}{a b:Int}
theorem IP (hb:0<=b):dW .shl (.d (.int k a)) (.d (.int k' b))=some (.int k (k.wrap (a * 2 ^ (min b.toNat k.bits)))):=by simp [dW,show ¬ b<0 by omega]
theorem xc (hb:0<=b):dW .shr (.d (.int k a)) (.d (.int k' b))=some (.int k (a.fdiv (2 ^ (min b.toNat k.bits)))):=by simp [dW,show ¬ b<0 by omega]
def pQ (k:IntKind)(a b:Int):Int:=k.wrap ((BitVec.ofInt k.bits a &&& ~~~ BitVec.ofInt k.bits b).toNat)
theorem A8:dW .andNot (.d (.int k a)) (.d (.int k b))=some (.int k (pQ k a b)):=by simp [dW,fZ,pQ]
end
variable {E:Calls'}
theorem Yn (n:Int)(h:Hp):Sm E TT ak 254 [.d (i64 n)] h=some (bl (decide (n>=1)&&decide (n<=65535)),h):=by
 rw [aQ ah6 ar5];by_cases c1:n>=1<;>simp [aa,N8,aA,c1]
def qg (n:Int):Int:=wrap .u32 (wrap .u64 (4294967296-wrap .u64 (1 * 2 ^ (min (wrap .i64 (32-n)).toNat 64))))
theorem YO (n:Int)(h0:0<=n)(h1:n<=32)(h:Hp):Sm E TT ak 270 [.d (i64 n)] h=some (.d (u32 (qg n)),h):=by
 rw [aQ al5 aw0];have hw:wrap .i64 (32-n)=32-n:=wrap64 (by omega) (by omega);have hs:=IP (k:=.u64) (k':=.i64) (a:=1) (b:=32-n) (by omega);have e1:(if (0:Int)>n then 0 else n)=n:=if_neg (by omega);have e2:(if (32:Int)<n then 32 else n)=n:=if_neg (by omega);simp [aa,Ov,hw,hs,e1,e2,qg,IntKind.bits]
def ig (c:Cidr):Bool:=decide (c.bits>=0)&&(decide (c.bits<=32)&&(pQ .u32 c.addr (qg c.bits)==0))
theorem YI (c:Cidr)(h:Hp):Sm E TT ak 249 [ag c.c] h=some (bl (ig c),h):=by
 rw [aQ ak2 au7];by_cases c1:c.bits>=0
 . by_cases c2:c.bits<=32
   . simp +decide [aa,He,aA,c1,c2,ig,YO c.bits c1 c2,A8,az,ae,aL]
   . simp +decide [aa,He,aA,c1,c2,ig,az,aL]
 . simp +decide [aa,He,aA,c1,ig,az,aL]
end
section
theorem Bg (s:ByteArray)(pos:Nat)(h:pos<s.size)(ha:¬ (s[pos]'h).toNat<128):128<=(Utf8.decode s pos).1:=by
 have e:s.get! (pos+0)=s[pos]'h:=by
  show s.get! pos=_;simp [ByteArray.get!,getElem!_pos,h];rfl
 simp only [Utf8.decode,e,ha,if_false]
 repeat' split
 all_goals first | (simp only [Utf8.runeError]; omega) | (rename_i hh; simp only [ao,br] at hh; dsimp only; omega) | (rename_i hh; simp only [ao,br] at hh; have:=hh.1; dsimp only; omega) | (dsimp only; omega)
def Hg (x:V)(h:Hp):Option (V×Hp):=match x with
 | .d (.str s)=>some (.ptr h.size 0,{ h with bs:=h.bs++[.iter s 0] })
 | _=>none
def sO (x:V)(h:Hp):Option (V×Hp):=match x with
 | .ptr b 0=>match h.bs[b]? with
  | some (.iter s pos) =>
   if pos<s.size then
    let (c,w):=Utf8.decode s pos
    some (.tup [.d (.bool true),.d (.int .i64 pos),.d (.int .i32 c)],⟨h.bs.set b (.iter s (pos+w)),min h.low b⟩)
   else some (.tup [.d (.bool false)],h)
  | _=>none
 | _=>none
section
variable {C:Calls'}{ev:X->V}{h:Hp}
@[simp] theorem Pn {x:X}:opE C (.range x) ev h=Hg (ev x) h:=(rfl)
@[simp] theorem SY {x:X}:opE C (.next x) ev h=sO (ev x) h:=(rfl)
@[simp] theorem Ur {s:ByteArray}:Hg (.d (.str s)) ⟨[],0⟩=some (.ptr 0 0,⟨[.iter s 0],0⟩):=(rfl)
end
theorem Ea {s:ByteArray}{pos:Nat}(h:¬ pos<s.size):sO (.ptr 0 0) ⟨[.iter s pos],0⟩=some (.tup [bl false],⟨[.iter s pos],0⟩):=by simp [sO,h]
theorem zN {s:ByteArray}{pos:Nat}{b:UInt8}(hb:s.toList[pos]?=some b)(ha:b.toNat<128):sO (.ptr 0 0) ⟨[.iter s pos],0⟩=some (.tup [bl true,.d (i64 pos),.d (.int .i32 b.toNat)],⟨[.iter s (pos+1)],0⟩):=by
 have hl:=gJ s;have h:pos<s.size:=by rw [← hl]; exact (bw.1 hb).1
 have he:s[pos]'h=b:=by
  have:=(bw.1 hb).2;simp only [bO] at this;exact this
 have hd:=decode_ascii s pos h (by rw [he]; exact ha);simp [sO,h,hd,he]
theorem D9 {s:ByteArray}{pos:Nat}{b:UInt8}(hb:s.toList[pos]?=some b)(ha:¬ b.toNat<128):∃ (c:Nat) (q:Nat),128<=c/\sO (.ptr 0 0) ⟨[.iter s pos],0⟩=some (.tup [bl true,.d (i64 pos),.d (.int .i32 c)],⟨[.iter s q],0⟩):=by
 have hl:=gJ s;have h:pos<s.size:=by rw [← hl]; exact (bw.1 hb).1
 have he:s[pos]'h=b:=by
  have:=(bw.1 hb).2;simp only [bO] at this;exact this
 have hd:=Bg s pos h (by rw [he]; exact ha);exact ⟨(Utf8.decode s pos).1,pos+(Utf8.decode s pos).2,hd,by simp [sO,h]⟩
end
section
end
section
variable {E:Calls'}
def vN (n i c:Nat):Bool:=!((decide ((c:Int)>=97)&&decide ((c:Int)<=122))||((decide ((c:Int)>=48)&&decide ((c:Int)<=57))||(((c:Int)==45)&&!(((i:Int)==0)||((i:Int)+1==n)))))
def jZ (n:Nat):Nat->List UInt8->Bool
 | _,[]=>false
 | i,b::l=>vN n i b.toNat||jZ n (i+1) l
def iC (s:ByteArray):Bool:=!jZ s.size 0 s.toList&&(decide ((s.size:Int)>=1)&&decide ((s.size:Int)<=20))
theorem X9 (s:ByteArray)(i c:Nat)(bs bs':List Blk)(hn:sO (.ptr 0 0) ⟨bs,0⟩=some (.tup [bl true,.d (i64 i),.d (.int .i32 c)],⟨bs',0⟩))(hi:i<s.size)(hs:s.size<2 ^ 62)(W:EA->Hp->fu) :
 dJ [0,7] W (Cd E TT ak lV [(0,.d (.str s)),(7,.ptr 0 0)] ⟨bs,0⟩)=(if vN s.size i c then some (.ret,[(2,bl false)],⟨bs',0⟩) else W [(0,.d (.str s)),(7,.ptr 0 0)] ⟨bs',0⟩):=by
 have hw:=ay hi hs;have e0:∃ t,((i:Int)==0)=t:=⟨_,rfl⟩;obtain ⟨t0,e0⟩:=e0;have e1:∃ t,((i:Int)+1==s.size)=t:=⟨_,rfl⟩;obtain ⟨t1,e1⟩:=e1;by_cases c1:(c:Int)>=97<;>by_cases c2:(c:Int)<=122<;>by_cases c3:(c:Int)>=48<;>by_cases c4:(c:Int)<=57<;>by_cases c5:(c:Int)=45<;>first
  | (exfalso; omega)
  | (simp only [vN,c1,c2,c3,c4,c5,e0,e1]; cases t0<;>cases t1<;>simp [lV,hn,aA,hw,e0,e1,c1,c2,c3,c4,c5])
theorem zD {n i c:Nat}(h:128<=c):vN n i c=true:=by
 have h1:¬ ((c:Int)<=122):=by omega
 have h2:¬ ((c:Int)<=57):=by omega
 have h3:¬ ((c:Int)=45):=by omega
 simp [vN,h1,h2,h3]
theorem XO (s:ByteArray)(hs:s.size<2 ^ 62):∀ (m i:Nat),i+m=s.size →
 ∃ q,Cd E TT ak (.loop [0,7] lV) [(0,.d (.str s)),(7,.ptr 0 0)] ⟨[.iter s i],0⟩ =
  if jZ s.size i (s.toList.drop i) then some (.ret,[(2,bl false)],⟨[.iter s q],0⟩) else some (.exit 0,[(0,.d (.str s))],⟨[.iter s q],0⟩):=by
 have hsl:=gJ s;intro m;have key:=aF (E:=E) (T:=TT) (val:=ak) [0,7] lV;have hk:bN [0,7] [(0,.d (.str s)),(7,.ptr 0 0)]=[(0,.d (.str s)),(7,.ptr 0 0)]:=rfl;have hR:=λi c bs bs' hn hi=>X9 (E:=E) s i c bs bs' hn hi hs;generalize Cd E TT ak (.loop [0,7] lV)=W at key ⊢
 induction m with
 | zero =>
  intro i hi;refine ⟨i,?_⟩;rw [key,aq (by omega)];simp [lV,jZ,Ea (show ¬ i<s.size by omega)]
 | succ m ih =>
  intro i hi;have h1:i<s.toList.length:=by omega
  have hb:=ab h1;rw [ap h1];obtain ⟨q,hq⟩:=ih (i+1) (by omega);generalize s.toList[i]=b at *;by_cases ha:b.toNat<128
  . refine ⟨if vN s.size i b.toNat then i+1 else q,?_⟩;rw [key,hk,hR i b.toNat _ _ (zN hb ha) (by omega) W];cases hl:vN s.size i b.toNat with
    | true=>simp [jZ,hl]
    | false=>simp [jZ,hl,hq]
  . obtain ⟨c,q',hc,hn⟩:=D9 hb ha;refine ⟨q',?_⟩;have hl:vN s.size i b.toNat=true:=zD (by omega);rw [key,hk,hR i c _ _ hn (by omega) W,zD hc];simp [jZ,hl]
theorem Yo (s:ByteArray)(hs:s.size<=big)(h:Hp):Sm E TT ak 170 [.d (.str s)] h=some (bl (iC s),h):=by
 rw [aQ ah7 ar6];obtain ⟨q,k1⟩:=XO (E:=E) s (ce hs (by decide)) s.size 0 (by omega);simp at k1;simp [aa,N9];rw [au];simp [k1];cases hb:jZ s.size 0 s.toList with
 | true=>simp [iC,hb]
 | false=>by_cases c1:(s.size:Int)>=1<;>simp [iC,hb,aA,c1]
end
section
variable {E:Calls'}
def tokN:List Int:=[0,0,0,0,0,0,0,0,0,0,0,0,0,0,0,0,0,0,0,0,0,0,0,0,0,0,0,0,0,0,0,0,0,1,0,1,1,1,1,1,0,0,1,1,0,1,1,0,1,1,1,1,1,1,1,1,1,1,0,0,0,0,0,0,0,0,0,0,0,0,0,0,0,0,0,0,0,0,0,0,0,0,0,0,0,0,0,0,0,0,0,0,0,0,1,1,1,1,1,1,1,1,1,1,1,1,1,1,1,1,1,1,1,1,1,1,1,1,1,1,1,1,1,0,1,0,1,0,0,0,0,0,0,0,0,0,0,0,0,0,0,0,0,0,0,0,0,0,0,0,0,0,0,0,0,0,0,0,0,0,0,0,0,0,0,0,0,0,0,0,0,0,0,0,0,0,0,0,0,0,0,0,0,0,0,0,0,0,0,0,0,0,0,0,0,0,0,0,0,0,0,0,0,0,0,0,0,0,0,0,0,0,0,0,0,0,0,0,0,0,0,0,0,0,0,0,0,0,0,0,0,0,0,0,0,0,0,0,0,0,0,0,0,0,0,0,0,0,0,0,0,0,0,0,0,0]
def tokL:List D:=tokN.map i64
theorem Az:tokL.length=256:=rfl
theorem Xu (C:Calls'):aV C 300 q477.code [] ⟨[],0⟩=some (.ret,[(0,.ptr 0 0)],⟨[.cells (tokL.map .d),.iter ⟨#[97,98,99,100,101,102,103,104,105,106,107,108,109,110,111,112,113,114,115,116,117,118,119,120,121,122,48,49,50,51,52,53,54,55,56,57,33,35,36,37,38,39,42,43,45,46,94,95,96,124,126]⟩ 51],0⟩):=by kernel_rfl
theorem YP (h:Hp):Sm E TT ak 276 [] h=some (ag tokL,h):=by
 rw [aQ am0 aw5];have h1:Cd E TT ak q477.code (jL 0 []) ⟨[],0⟩=_:=fO (k:=0) (Xu _);have hr:q477.res=[.cell 0 false 256]:=rfl;have hs:=eB Az;have h2:Bd E TT ak q477 [] ⟨[],0⟩=some (ag tokL,⟨[.cells (tokL.map .d),.iter ⟨#[97,98,99,100,101,102,103,104,105,106,107,108,109,110,111,112,113,114,115,116,117,118,119,120,121,122,48,49,50,51,52,53,54,55,56,57,33,35,36,37,38,39,42,43,45,46,94,95,96,124,126]⟩ 51],0⟩):=by
  show fin q477.res (Cd E TT ak q477.code (jL 0 []) ⟨[],0⟩)=_;rw [h1,hr];generalize tokL=L at hs ⊢;simp [hs]
 simp only [List.mapM_nil,Option.pure_def,nD,h2,Il,oq,OZ];simp
def Ca (b:UInt8):Int:=tokN.getD b.toNat 0
def jO:List UInt8->Bool
 | []=>false
 | b::l=>Ca b==0||jO l
def jN (s:ByteArray):Bool:=!jO s.toList&&(decide ((s.size:Int)>=1)&&decide ((s.size:Int)<=64))
theorem OV (b:UInt8):sub tokL b.toNat 1=some [i64 (Ca b)]:=by
 have hb:b.toNat<256:=b.toNat_lt;have hl:tokN.length=256:=rfl;have e1:(tokN.drop b.toNat).take 1=[tokN[b.toNat]]:=by rw [ap (by omega)]; rfl
 rw [tokL,Kz,eT,if_pos (by omega),e1,Ca,bo,ab (by omega)];rfl
theorem XX (s:ByteArray)(hs:s.size<2 ^ 62):∀ (m i:Nat),i+m=s.size →
 Cd E TT ak (.loop [0,3,4] lX) [(0,.d (.str s)),(3,.ptr 0 0),(4,.d (i64 i))] ⟨[.cells (tokL.map .d)],0⟩ =
  if jO (s.toList.drop i) then some (.ret,[(2,bl false)],⟨[.cells (tokL.map .d)],0⟩) else some (.exit 0,[(0,.d (.str s))],⟨[.cells (tokL.map .d)],0⟩):=by
 have hsl:=gJ s;have htok:=OV;generalize tokL=TL at htok ⊢;intro m;have key:=aF (E:=E) (T:=TT) (val:=ak) [0,3,4] lX;generalize Cd E TT ak (.loop [0,3,4] lX)=W at key ⊢
 induction m with
 | zero =>
  intro i hi;rw [key,aq (by omega)];simp [lX,jO,show ¬ ((i:Int)<s.size) from by omega]
 | succ m ih =>
  intro i hi;have h1:i<s.toList.length:=by omega
  have hx:=λh=>iA (h:=h) (ab h1);have hw:=ay (show i<s.size by omega) hs;have:=ih (i+1) (by omega);rw [key,ap h1];generalize s.toList[i]=b at *;have h0:((i:Int)<s.size):=by omega
  have hb:b.toNat<256:=b.toNat_lt;have hix:∀ h,cZ (some 256) 1 (.ptr 0 0) (.d (.int .u8 b.toNat)) h=some (.ptr 0 b.toNat,h):=λh=>by simp [cZ]; omega
  by_cases c1:Ca b=0
  . simp [lX,hx,hix,htok,c1,jO,h0]
  . have c2:(Ca b==0)=false:=by simpa using c1
    simp [lX,hx,hix,htok,c1,c2,jO,h0,hw];simpa using this
theorem YJ (s:ByteArray)(hs:s.size<=big)(h:Hp):Sm E TT ak 258 [.d (.str s)] h=some (bl (jN s),h):=by
 rw [aQ ak8 av3];have k1:=XX (E:=E) s (ce hs (by decide)) s.size 0 (by omega);have h477:=YP (E:=E);have hl:=Az;have hln:(tokL.map V.d).length=256:=by simp [hl]
 generalize hTL:tokL=TL at *;simp at k1;simp [aa,Ot,h477,hl];rw [au];simp [k1];cases hb:jO s.toList with
 | true=>simp [jN,hb]
 | false=>by_cases c1:(s.size:Int)>=1<;>simp [jN,hb,aA,c1]
end
section
def chg:List Int->Nat
 | x::y::l=>(if x=y then 0 else 1)+chg (y::l)
 | _=>0
theorem uq:∀ l:List Int,chg l<=l.length-1
 | []=>by simp [chg]
 | [_]=>by simp [chg]
 | x::y::l=>by
  have:=uq (y::l);simp only [chg,cg] at this ⊢;split<;>omega
theorem y9 {zs:List Int}{i:Nat}(h:i+1<zs.length):chg (zs.drop i)=(if zs[i]=zs[i+1] then 0 else 1)+chg (zs.drop (i+1)):=by
 rw [ap (show i<zs.length by omega),ap h];simp only [chg]
def pR (zs:List Int):Nat:=if zs=[] then 0 else 1+chg zs
def iv (kd:IntKind)(z:Int):V:=.d (.int kd z)
def Mr (bs:List Blk)(b:Nat)(cur:List V)(lo:Nat):Hp:=⟨bs.set b (.cells cur),lo⟩
section
variable {bs:List Blk}{b lo:Nat}{cur:List V}
theorem AP (hb:b<bs.length):ai (Mr bs b cur lo).bs b=some cur:=by simp [Mr,ai,hb]
theorem Cg (hb:b<bs.length){k:Nat}{v:V}(hk:cur[k]?=some v):ldv (Mr bs b cur lo) (.ptr b k) 1 true=some (v,Mr bs b cur lo):=by
 obtain ⟨h1,h2⟩:=bw.1 hk;have hs:sub cur k 1=some [v]:=by
  rw [eT,if_pos (by omega),ap h1,h2]; rfl
 rw [p9,get_eq,AP hb];simp only [hs]; rfl
theorem Qh (hb:b<bs.length){k:Nat}{x:D}(hk:k<cur.length):stv (Mr bs b cur lo) (.ptr b k) (.d x) 1=some (.undef,Mr bs b (cur.set k (.d x)) (min lo b)):=by
 have hp:put cur k [V.d x]=some (cur.set k (.d x)):=by
  unfold put;rw [if_pos (by simp only [cg,ch]; omega),List.set_eq_take_append_cons_drop,if_pos hk]; simp
 have hg:=AP (lo:=lo) (cur:=cur) hb;simp [stv,V.cells,storeAt,hg,hp];simp [Hp.set,Mr]
theorem uK {b o n z:Nat}{cap:Option Nat}{kd:IntKind}{i:Nat}{h:Hp}(hi:i<n):cZ none z (.row b o n cap z) (.d (.int kd i)) h=some (.ptr b (o+i * z),h):=by
 simp [cZ,hi]
end
section
variable {E:Calls'}{T:FuncId->Option QF}{val:FuncId->Bool}{kd:IntKind}
theorem MC {bs:List Blk}{b:Nat}(hb:b<bs.length){zs:List Int}{cap cap2:Option Nat}(hn:zs.length<2 ^ 62){k0:Nat}(hk0:1<=k0)(hk1:k0<zs.length):∀ (m i k:Nat) (cur:List V) (lo:Nat),k0+i+m=zs.length->1<=i->k<k0+i->cur.length=zs.length->(∀ j (hj:j<zs.length),k<=j->cur[j]?=some (iv kd zs[j])) →
 ∃ cur' lo',Cd E T val (.loop [0,3,4,5] (uw kd)) [(0,.row b 0 zs.length cap 1),(3,.d (i64 k)),(4,.row b k0 (zs.length-k0) cap2 1),(5,.d (i64 i))] (Mr bs b cur lo) =
  some (.exit 2,[(0,.row b 0 zs.length cap 1),(3,.d (i64 (k+chg (zs.drop (k0+i-1)):Nat)))],Mr bs b cur' lo')/\cur'.length=zs.length/\(lo'=lo\/lo'=min lo b):=by
 intro m;have key:=aF (E:=E) (T:=T) (val:=val) [0,3,4,5] (uw kd);generalize Cd E T val (.loop [0,3,4,5] (uw kd))=W at key ⊢
 induction m with
 | zero =>
  intro i k cur lo hi h1 hk hl hc;have h0:chg (zs.drop (k0+i-1))=0:=by
   have:=uq (zs.drop (k0+i-1));simp only [List.length_drop] at this;omega
  refine ⟨cur,lo,?_,hl,.inl rfl⟩;rw [key,h0];simp [uw,show ¬ ((i:Int)<((zs.length-k0:Nat):Int)) from by omega]
 | succ m ih =>
  intro i k cur lo hi h1 hk hl hc;have hlt:i<zs.length-k0:=by omega
  have e1:=hc (k0+i) (by omega) (by omega);have e0:=hc (k0+i-1) (by omega) (by omega);have hd:=y9 (zs:=zs) (i:=k0+i-1) (by omega);have hs:k0+i-1+1=k0+i:=by omega
  simp only [hs] at hd;rw [hd];have hw:=ay (show i<zs.length by omega) hn;have hwk:=ay (show k<zs.length by omega) hn;have hwm:wrap .i64 ((i:Int)-1)=((i-1:Nat):Int):=by rw [wrap64]<;>omega
  have i1:=λh=>uK (b:=b) (o:=k0) (z:=1) (cap:=cap2) (kd:=.i64) (h:=h) hlt;have i0:=λh=>uK (b:=b) (o:=k0) (z:=1) (cap:=cap2) (kd:=.i64) (h:=h) (show i-1<zs.length-k0 by omega);have ik:=λh=>uK (b:=b) (o:=0) (z:=1) (cap:=cap) (kd:=.i64) (h:=h) (show k<zs.length by omega);simp only [Nat.mul_one,show k0+(i-1)=k0+i-1 by omega,Nat.zero_add] at i1 i0 ik;have l1:=Cg (lo:=lo) hb e1;have l0:=Cg (lo:=lo) hb e0;generalize zs[k0+i]'(by omega)=y at *;generalize zs[k0+i-1]'(by omega)=x at *;by_cases hxy:x=y
  . obtain ⟨cur',lo',k1,k2,k3⟩:=ih (i+1) k cur lo (by omega) (by omega) (by omega) hl hc;refine ⟨cur',lo',?_,k2,k3⟩;rw [key];simp only [hxy,if_true,Nat.zero_add];simp only [show k0+(i+1)-1=k0+i by omega] at k1;subst hxy;simp [uw,i1,i0,l1,l0,iv,hw,hwm,show ((i:Int)<((zs.length-k0:Nat):Int)) from by omega,-p9];simpa using k1
  . have st:=Qh (lo:=lo) (x:=.int kd y) hb (show k<cur.length by omega);obtain ⟨cur',lo',k1,k2,k3⟩:=ih (i+1) (k+1) (cur.set k (.d (.int kd y))) (min lo b) (by omega) (by omega) (by omega) (by simpa using hl) (by
     intro j hj hkj;rw [ac (by omega)];exact hc j hj (by omega))
    refine ⟨cur',lo',?_,k2,by obtain k3 | k3:=k3<;>omega⟩;rw [key];simp only [hxy,if_false];simp only [show k0+(i+1)-1=k0+i by omega] at k1;have hyx:¬ y=x:=λh=>hxy h.symm;simp [uw,i1,i0,ik,l1,l0,st,iv,hw,hwk,hwm,hyx,show ((i:Int)<((zs.length-k0:Nat):Int)) from by omega,-p9,-Kw];rw [show ((k:Int)+(1+(chg (zs.drop (k0+i)):Int)))=((k+1+chg (zs.drop (k0+i)):Nat):Int) by omega];simpa using k1
theorem FK {h:Hp}{ev:X->V}{b n:Nat}{cap:Option Nat}{x:X}{k:Nat}(hx:ev x=.d (i64 k))(hk:k<n)(h1:1<=k):d9 h ev .sl 1 (.row b 0 n cap 1) (some x) none none=some (.row b k (n-k) (cap.map (· - k)) 1):=by
 simp only [d9,dK,hx];rw [if_pos (by omega)];simp only [Int.toNat_natCast];rw [if_pos ⟨by omega,by omega,trivial⟩,if_neg (by omega),if_pos hk]; simp
theorem IU {C:Calls'}{bs:List Blk}{b lo:Nat}{cur:List V}(hb:b<bs.length){n k:Nat}{cap:Option Nat}{e:EA}{x:X}{zero:V}(he:x.ea e=.row b k (n-k) cap 1)(hc:cur.length=n)(hk:k<n) :
 ∃ cur',cur'.length=n/\opE C (.clear 1 [zero] x) (X.ea e) (Mr bs b cur lo)=some (.undef,Mr bs b cur' (min lo b)):=by
 have hr:((List.replicate (n-k) [zero]).flatten).length=n-k:=by simp
 have hp:put cur k (List.replicate (n-k) [zero]).flatten=some (cur.take k++(List.replicate (n-k) [zero]).flatten++cur.drop (k+(n-k))):=by
  unfold put;rw [if_pos (by rw [hr]; omega),hr]
 refine ⟨cur.take k++(List.replicate (n-k) [zero]).flatten++cur.drop (k+(n-k)),by simp only [am,hr,List.length_take,List.length_drop]; omega,?_⟩;have hne:¬ (n-k) * 1=0:=by omega
 simp only [opE,he,if_true,get_eq,AP hb,if_neg hne,hp];simp [Hp.set,Mr]
theorem IV {bs:List Blk}{b lo:Nat}(hb:b<bs.length){zs:List Int}{cap:Option Nat}(hn:zs.length<2 ^ 62):∀ (m k:Nat),k+m=zs.length->1<=k →
 ∃ cur' lo',(Cd E T val (.loop [0,3] (sw kd)) [(0,.row b 0 zs.length cap 1),(3,.d (i64 k))] (Mr bs b (zs.map (iv kd)) lo)=some (.ret,[(2,.row b 0 (k+chg (zs.drop (k-1))) cap 1)],Mr bs b cur' lo')/\cur'.length=zs.length/\lo'=min lo b ∨
  Cd E T val (.loop [0,3] (sw kd)) [(0,.row b 0 zs.length cap 1),(3,.d (i64 k))] (Mr bs b (zs.map (iv kd)) lo)=some (.exit 0,[(0,.row b 0 zs.length cap 1)],Mr bs b (zs.map (iv kd)) lo)/\k+chg (zs.drop (k-1))=zs.length):=by
 intro m;have key:=aF (E:=E) (T:=T) (val:=val) [0,3] (sw kd);generalize Cd E T val (.loop [0,3] (sw kd))=W at key ⊢
 induction m with
 | zero =>
  intro k hk h1;have h0:chg (zs.drop (k-1))=0:=by
   have:=uq (zs.drop (k-1));simp only [List.length_drop] at this;omega
  refine ⟨[],0,.inr ⟨?_,by omega⟩⟩;rw [key];simp [sw,show ¬ ((k:Int)<(zs.length:Int)) from by omega]
 | succ m ih =>
  intro k hk h1;have hlt:k<zs.length:=by omega
  have e1:(zs.map (iv kd))[k]?=some (iv kd zs[k]):=by simp [hlt]
  have e0:(zs.map (iv kd))[k-1]?=some (iv kd (zs[k-1]'(by omega))):=by rw [List.getElem?_map,ab (show k-1<zs.length by omega)]; rfl
  have hd:=y9 (zs:=zs) (i:=k-1) (by omega);have hs:k-1+1=k:=by omega
  simp only [hs] at hd;have hw:=ay hlt hn;have hwm:wrap .i64 ((k:Int)-1)=((k-1:Nat):Int):=by rw [wrap64]<;>omega
  have i1:=λh=>uK (b:=b) (o:=0) (z:=1) (cap:=cap) (kd:=.i64) (h:=h) hlt;have i0:=λh=>uK (b:=b) (o:=0) (z:=1) (cap:=cap) (kd:=.i64) (h:=h) (show k-1<zs.length by omega);simp only [Nat.mul_one,Nat.zero_add] at i1 i0;have l1:=Cg (lo:=lo) hb e1;have l0:=Cg (lo:=lo) hb e0;have hin:=MC (E:=E) (T:=T) (val:=val) (kd:=kd) hb (zs:=zs) (cap:=cap) (cap2:=cap.map (· - k)) hn h1 hlt (zs.length-k-1) 1 k (zs.map (iv kd)) lo (by omega) (by omega) (by omega) (by simp) (λj hj _=>by simp [hj]);have hcl:=uq (zs.drop k);simp only [List.length_drop] at hcl;rw [hd];generalize zs[k]'(by omega)=y at *;generalize zs[k-1]'(by omega)=x at *;by_cases hxy:x=y
  . obtain ⟨cur',lo',k1,k2,k3⟩:=hin;simp only [show k+1-1=k by omega] at k1;have hK:k+chg (zs.drop k)<zs.length:=by omega
    generalize hKe:k+chg (zs.drop k)=K at *;obtain ⟨cur2,c1,c2⟩:=IU (C:=Sm E T val) (lo:=lo') hb (cur:=cur') (e:=[(56,.row b K (zs.length-K) (cap.map (· - K)) 1),(55,.d (i64 K)),(54,.row b 0 zs.length cap 1),(0,.row b 0 zs.length cap 1),(3,.d (i64 K))]) (x:=.t 56) (n:=zs.length) (k:=K) (cap:=cap.map (· - K)) (zero:=.d (.int kd 0)) (by simp) k2 hK;have sl1:=λh=>FK (h:=h) (ev:=X.ea [(27,.d (i64 k)),(26,.row b 0 zs.length cap 1),(25,.d (.bool true)),(24,iv kd x),(23,.ptr b (k-1)),(22,.d (i64 (k-1:Nat))),(21,.d (i64 k)),(20,.row b 0 zs.length cap 1),(19,iv kd y),(18,.ptr b k),(17,.d (i64 k)),(16,.row b 0 zs.length cap 1),(13,.d (.bool true)),(12,.d (i64 zs.length)),(11,.row b 0 zs.length cap 1),(10,.d (i64 k)),(0,.row b 0 zs.length cap 1),(3,.d (i64 k))]) (x:=.t 27) (b:=b) (n:=zs.length) (cap:=cap) (k:=k) (by simp) hlt h1;have sl2:=λh=>FK (h:=h) (ev:=X.ea [(55,.d (i64 K)),(54,.row b 0 zs.length cap 1),(0,.row b 0 zs.length cap 1),(3,.d (i64 K))]) (x:=.t 55) (b:=b) (n:=zs.length) (cap:=cap) (k:=K) (by simp) hK (by omega);have sl3:=λh=>Ao (h:=h) (ev:=X.ea [(58,.d (i64 K)),(57,.row b 0 zs.length cap 1),(56,.row b K (zs.length-K) (cap.map (· - K)) 1),(55,.d (i64 K)),(54,.row b 0 zs.length cap 1),(0,.row b 0 zs.length cap 1),(3,.d (i64 K))]) (x:=.t 58) (b:=b) (z:=1) (len:=zs.length) (cap:=cap) (n:=K) (by simp) (by omega);refine ⟨cur2,min lo' b,.inl ⟨?_,c1,by obtain k3 | k3:=k3<;>omega⟩⟩;rw [key];simp only [hxy,if_true,Nat.zero_add]
    subst hxy;simp [iv] at sl1;simp [sw,i1,i0,l1,l0,iv,hwm,hlt,sl1,-p9];rw [au];simp at k1;simp [k1,sl2];rw [c2];simp [sl3,hKe]
  . obtain ⟨cur',lo',hh⟩:=ih (k+1) (by omega) (by omega);simp only [show k+1-1=k by omega] at hh;refine ⟨cur',lo',?_⟩;rw [key];have hyx:¬ y=x:=λh=>hxy h.symm;have hadd:k+(1+chg (zs.drop k))=k+1+chg (zs.drop k):=by omega
    simp only [hxy,if_false,hadd];simp [sw,i1,i0,l1,l0,iv,hwm,hw,hlt,hyx,-p9];simpa using hh
theorem vV {id:FuncId}(ht:T id=some (cmpQ kd))(hv:val id=false){zs:List Int}{b:Nat}{cap:Option Nat}{h:Hp}(hb:ai h.bs b=some (zs.map (iv kd)))(hn:zs.length<2 ^ 62) :
 ∃ h',Sm E T val id [.row b 0 zs.length cap 1] h=some (.row b 0 (pR zs) cap 1,h')/\(h'=h\/∃ cur,h'=⟨h.bs.set b (.cells cur),min h.low b⟩):=by
 have hbl:=aJ hb;have hset:h.bs.set b (.cells (zs.map (iv kd)))=h.bs:=by
  apply List.ext_getElem?;intro i;by_cases hi:b=i
  . subst hi;rw [List.getElem?_set_self hbl];unfold ai at hb;split at hb
    . rename_i hh; cases hb; exact hh.symm
    . cases hb
  . rw [ac hi]
 have hM:(⟨h.bs,h.bs.length⟩:Hp)=Mr h.bs b (zs.map (iv kd)) h.bs.length:=by simp [Mr,hset]
 rw [aT ht hv,hM];by_cases h2:zs.length<2
 . refine ⟨h,?_,.inl rfl⟩;have:pR zs=zs.length:=by
    match zs,h2 with
    | [],_=>rfl
    | [x],_=>rfl
    | _::_::_,h2=>simp at h2; omega
   simp [cmpQ,aa,show ((zs.length:Int)<2) from by omega,this,V.under,hbl];simp [Mr]
 . have hne:zs≠[]:=by rintro rfl; simp at h2
   obtain ⟨cur',lo',hh | hh⟩:=IV (E:=E) (T:=T) (val:=val) (kd:=kd) (lo:=h.bs.length) (cap:=cap) hbl hn (zs.length-1) 1 (by omega) (by omega)
   . obtain ⟨k1,k2,k3⟩:=hh;have hlo:lo'=b:=by omega
     subst hlo;refine ⟨_,?_,.inr ⟨cur',rfl⟩⟩;simp at k1;simp [cmpQ,aa,show ¬ ((zs.length:Int)<2) from by omega];rw [au];simp [k1,pR,hne,V.under,hbl];simp [Mr,show ¬ (h.bs.length<=lo') from by omega]
   . obtain ⟨k1,k2⟩:=hh;refine ⟨h,?_,.inl rfl⟩;simp at k1 k2;simp [cmpQ,aa,show ¬ ((zs.length:Int)<2) from by omega];rw [au];simp [k1,pR,hne,V.under,hbl,k2];simp [Mr]
end
end
section
open Go.Sort Go.Shelf Go.RowKit
def ek (zs:List Int):List V:=zs.map λz=>.d (.int .i64 z)
def asInt:V->Option Int
 | .d (.int .i64 z)=>some z
 | _=>none
theorem AZ {v:V}{z:Int}(h:asInt v=some z):v=.d (.int .i64 z):=by
 unfold asInt at h;split at h
 . cases h; rfl
 . cases h
theorem Mo {cs:List V}{zs:List Int}(h:cs.mapM asInt=some zs):cs=ek zs:=by
 induction cs generalizing zs with
 | nil=>simp at h; subst h; rfl
 | cons c cs ih =>
  simp only [List.mapM_cons,Option.pure_def,Option.bind_eq_bind,Option.bind_eq_some_iff] at h;obtain ⟨z,h1,zs',h2,h3⟩:=h;cases h3;rw [AZ h1,ih h2]; rfl
def dz (zs:List Int):List Int:=zs.mergeSort λx y=>decide (x<=y)
def nY (args:List V)(h:Hp):Option (V×Hp):=match args with
 | [.d (.slice true [])]=>some (.tup [],h)
 | [.row b 0 n _ 1]=>if n=0 then some (.tup [],h) else match h.get b with
  | some cs=>match cs.mapM asInt with
   | some zs=>if zs.length=n/\n<=2 ^ 30 then some (.tup [],h.set b (ek (dz zs))) else none
   | none=>none
  | none=>none
 | _=>none
theorem EE {args:List V}{h:Hp}{r:V}{h':Hp}(hm:nY args h=some (r,h')):LowOk h h':=by
 unfold nY at hm;split at hm
 . cases hm; exact LowOk.refl _
 . split at hm
   . cases hm; exact LowOk.refl _
   . split at hm
     . split at hm
       . split at hm
         . cases hm; exact LowOk.set _ _ _
         . cases hm
       . cases hm
     . cases hm
 . cases hm
variable {P:Program}{ρr:Ren}
theorem H6 (Ly:Lays.n189 P ρr){B:Nat}{ρ:Rh}{h:Hp}{w:World}{args:List V}{vs:Array Value}{r:V}{h':Hp}(hR:Rel B ρ h w)(hv:VRs ρ (St ρ w) w args vs.toList)(hm:nY args h=some (r,h')) :
 Calls P (ρr.f 189) vs w (kF B ρ h w r h'):=by
 have one:∀ {x:V},args=[x]->∃ u,vs=#[u]/\VR ρ (St ρ w) w x u:=by
  rintro x rfl;simp only [VRs] at hv;obtain ⟨u,us,h1,h2,rfl⟩:=hv;refine ⟨u,?_,h2⟩;have:vs.toList=(#[u]:Array Value).toList:=by simpa using h1
  exact Array.toList_inj.1 this
 have none_:∀ {u:Value} {p:Option Addr} {c:Nat},u=.slice p 0 c->r=.tup []->h'=h->vs=#[u]->Calls P (ρr.f 189) vs w (kF B ρ h w r h'):=by
  rintro u p c rfl rfl rfl rfl;refine (Any.slices_Sort_int_none Ly p c w).mono ?_;rintro e w' ⟨rfl,rfl⟩;exact ⟨_,ρ,rfl,hR,Goes.refl _ _ _,by simp only [VRx,VR,VRs]; exact ⟨_,rfl,rfl⟩⟩
 unfold nY at hm;split at hm
 . obtain ⟨u,e1,h2⟩:=one rfl;simp only [VR,DR] at h2;obtain ⟨a,c,rfl,_⟩:=h2;cases hm;exact none_ rfl rfl rfl e1
 . rename_i b n cap;obtain ⟨u,e1,h2⟩:=one rfl;simp only [VR] at h2;obtain ⟨hb,c,rfl,hc1,hc2,_⟩:=h2;split at hm
   . rename_i hn;subst hn;cases hm;exact none_ rfl rfl rfl e1
   . rename_i hn;split at hm
     . rename_i cs hg;split at hm
       . rename_i zs hzs;split at hm
         . rename_i hlen;obtain ⟨hlen,hsmall⟩:=hlen;cases hm;have hcs:=Mo hzs;subst hcs;subst e1;have hne:ek zs≠[]:=λhh=>hn (by rw [← hlen]; have:=congrArg List.length hh; simpa [ek] using this);have hll:(ek zs).length=zs.length:=by simp [ek]
           obtain ⟨arr,el,fz,k1,k2,k3,k4⟩:=gm hR hg hne;obtain ⟨hbl,hbe⟩:=mQ hg;have hcell:∀ j (hj:j<zs.length) (hj2:j<arr.size),arr[j]=Value.int .i64 zs[j]:=by
            intro j hj hj2;have:=(k4 j (by omega) hj2).1;simpa [ek,VR,DR] using this
           have hH:Holds (Value.int .i64) w (ρ b) 0 zs.toArray:=by
            intro j hj;have hj':j<zs.length:=by simpa using hj
            have hj2:j<arr.size:=by omega
            refine ⟨?_,by simpa using k3 j hj2⟩;have:zs.toArray[j]! = zs[j]:=by rw [getElem!_pos _ j hj]; simp
            rw [this];simp [World.cell?,k1,hj2,hcell j hj' hj2]
           have hlt:=(hR.lo b hb).2;subst hlen;refine (Any.slices_Sort_int Ly (ρ b) 0 c zs w hH hlt (by omega)).mono ?_;rintro e w' ⟨rfl,nn,os,rfl⟩;have hlive:h.bs[b].live=true:=by
            rw [hbe];cases hh:ek zs with
            | nil=>exact absurd hh hne
            | cons _ _=>rfl
           have hsl:(dz zs).length=zs.length:=List.length_mergeSort _
           let w1:=putRow (Value.int .i64) (Sort.ahead w nn) (ρ b) 0 (dz zs).toArray
           have hheap:w1.heap=w.heap.modify (ρ b) (onCells (putCells (Value.int .i64) 0 (dz zs).toArray)):=rfl;have hsz:w1.heap.size=w.heap.size:=by rw [hheap]; simp
           have hoth:∀ k,k≠ρ b->w1.heap[k]?=w.heap[k]?:=λk hk=>by
            rw [hheap,Array.getElem?_modify,if_neg (Ne.symm hk)]
           have hat:w1.heap[ρ b]?=some (.cells (putCells (Value.int .i64) 0 (dz zs).toArray arr) el fz):=by
            rw [hheap,Array.getElem?_modify,if_pos rfl,k1]; rfl
           have hps:(putCells (Value.int .i64) 0 (dz zs).toArray arr).size=arr.size:=by simp [putCells]
           have hown:∀ arr' e' fz',w.heap[ρ b]?=some (.cells arr' e' fz')->∃ arr'' fz'',w1.heap[ρ b]?=some (.cells arr'' e' fz'')/\arr''.size=arr'.size:=by
            intro arr' e' fz' hh;rw [k1] at hh;cases hh;exact ⟨_,_,hat,hps⟩
           have hbr:BR ρ w1 (ρ b) (.cells (ek (dz zs))):=by
            have hl2:(ek (dz zs)).length=zs.length:=by simp [ek,hsl]
            have hne2:ek (dz zs)≠[]:=λhh=>by
             rw [hh] at hl2; exact hn hl2.symm
            have core:∃ arr' e' fz',w1.heap[ρ b]?=some (.cells arr' e' fz')/\(ek (dz zs)).length<=arr'.size/\(∀ j,j<arr'.size->w1.frozen? ⟨ρ b,j,none⟩=false) ∧
             ∀ (j:Nat) (h1:j<(ek (dz zs)).length) (h2:j<arr'.size),VR ρ (St ρ w1) w1 (ek (dz zs))[j] arr'[j]/\arr'[j].oneCell'=true:=by
             refine ⟨_,_,_,hat,by rw [hps,hl2,← hll]; exact k2,λj hj=>?_,λj h1 h2=>?_⟩
             . have:=k3 j (by rw [← hps]; exact hj);rw [← this];exact frozen?_mapBlock (Sort.ahead w nn) (ρ b) _ _
             . have hj:j<(dz zs).length:=by rw [hsl]; omega
               have hv:(putCells (Value.int .i64) 0 (dz zs).toArray arr)[j]=Value.int .i64 (dz zs)[j]:=by
                simp only [putCells,Array.getElem_mapIdx];rw [if_pos ⟨Nat.zero_le _,by simpa using hj⟩];simp [getElem!_pos,hj]
               rw [hv];exact ⟨by simp [ek,VR,DR],rfl⟩
            revert core hne2
            cases ek (dz zs) with
            | nil=>intro hne2 _; exact absurd rfl hne2
            | cons x xs=>intro _ core; simpa only [BR] using core
           have q1:=qN hR hbl hlive hsz hoth hown rfl rfl rfl (.cells (ek (dz zs))) hbr (min h.low b);have q2:=kz hR (hR.live b hbl hlive) hsz hoth hown rfl rfl rfl;have hbel:Below w1.heap.size w1 (grow w1 os):=⟨rfl,rfl,rfl,by simp [grow],λk hk=>by simp [grow,Array.getElem?_append_left hk]⟩;obtain ⟨q3,q4⟩:=qZ q1 hbel;exact ⟨_,ρ,rfl,q3,q2.trans q4,by simp only [VRx,VR,VRs]; exact ⟨_,rfl,rfl⟩⟩
         . cases hm
       . cases hm
     . cases hm
 . cases hm
end
section
def Inr (k:IntKind)(n:Int):Prop:=(Lit.int k n).wf=true
def Pod.wf (B:Nat)(p:Pod):Prop:=Inr .u64 p.uid/\p.ns.size<=B/\p.sa.size<=B/\Inr .i64 p.host/\Inr .u32 p.addr/\Inr .i64 p.port/\Inr .u64 p.service
def Svc.wf (B:Nat)(p:Svc):Prop:=Inr .u64 p.id/\p.ns.size<=B/\Inr .u32 p.addr/\Inr .i64 p.port/\Inr .u64 p.way
def Way.wf (B:Nat)(p:Way):Prop:=Inr .u64 p.id/\Inr .i64 p.node
def Term.wf (B:Nat)(p:Term):Prop:=Inr .i64 p.kind/\p.text.size<=B
def Cidr.wf (B:Nat)(p:Cidr):Prop:=Inr .u32 p.addr/\Inr .i64 p.bits
def KY (B:Nat)(n:Int):Prop:=Inr .i64 n
def Sl.wf {α:Type}(B:Nat)(f:Nat->α->Prop)(s:Sl α):Prop:=fit B s/\∀ x∈s.l,f B x
def Source.wf (B:Nat)(p:Source):Prop:=p.names.wf B Term.wf/\p.spaces.wf B Term.wf/\p.nets.wf B Cidr.wf
def Target.wf (B:Nat)(p:Target):Prop:=p.ports.wf B KY/\p.methods.wf B Term.wf/\p.paths.wf B Term.wf/\p.hosts.wf B Term.wf
def When.wf (B:Nat)(p:When):Prop:=p.head.size<=B/\p.terms.wf B Term.wf
def Rule.wf (B:Nat)(p:Rule):Prop:=p.frm.wf B Source.wf/\p.to.wf B Target.wf/\p.whn.wf B When.wf
def Pol.wf (B:Nat)(p:Pol):Prop:=Inr .u64 p.id/\p.ns.size<=B/\Inr .u64 p.service/\Inr .i64 p.deny/\p.rules.wf B Rule.wf
def Cfg.wf (B:Nat)(c:Cfg):Prop:=Inr .u64 c.epoch/\Inr .u64 c.next/\Inr .i64 c.hosts/\Inr .i64 c.ways/\c.pods.wf B Pod.wf/\c.services.wf B Svc.wf/\c.bound.wf B Way.wf/\c.policies.wf B Pol.wf
theorem Source.wf.fits {B:Nat}{s:Source}(h:s.wf B):s.fits B:=⟨h.1.1,h.2.1.1,h.2.2.1⟩
theorem Target.wf.fits {B:Nat}{s:Target}(h:s.wf B):s.fits B:=⟨h.1.1,h.2.1.1,h.2.2.1.1,h.2.2.2.1⟩
theorem When.wf.fits {B:Nat}{s:When}(h:s.wf B):s.fits B:=h.2.1
theorem Rule.wf.fits {B:Nat}{s:Rule}(h:s.wf B):s.fits B:=⟨⟨h.1.1,λx hx=>(h.1.2 x hx).fits⟩,⟨h.2.1.1,λx hx=>(h.2.1.2 x hx).fits⟩,h.2.2.1,λx hx=>(h.2.2.2 x hx).fits⟩
theorem Pol.wf.fits {B:Nat}{s:Pol}(h:s.wf B):s.fits B:=⟨h.2.2.2.2.1,λx hx=>(h.2.2.2.2.2 x hx).fits⟩
theorem Cfg.wf.fits {B:Nat}{c:Cfg}(h:c.wf B):c.fits B:=⟨h.2.2.2.2.1.1,h.2.2.2.2.2.1.1,h.2.2.2.2.2.2.1.1,h.2.2.2.2.2.2.2.1,λx hx=>(h.2.2.2.2.2.2.2.2 x hx).fits⟩
theorem fit.le {α:Type}{B B':Nat}{s:Sl α}(hB:B<=B')(h:fit B s):fit B' s:=⟨cf h.1 hB,h.2⟩
theorem Source.fits.le {B B':Nat}(hB:B<=B'){s:Source}(h:s.fits B):s.fits B':=⟨h.1.le hB,h.2.1.le hB,h.2.2.le hB⟩
theorem Target.fits.le {B B':Nat}(hB:B<=B'){s:Target}(h:s.fits B):s.fits B':=⟨h.1.le hB,h.2.1.le hB,h.2.2.1.le hB,h.2.2.2.le hB⟩
theorem When.fits.le {B B':Nat}(hB:B<=B'){s:When}(h:s.fits B):s.fits B':=fit.le hB h
theorem Rule.fits.le {B B':Nat}(hB:B<=B'){s:Rule}(h:s.fits B):s.fits B':=⟨⟨h.1.1.le hB,λx hx=>(h.1.2 x hx).le hB⟩,⟨h.2.1.1.le hB,λx hx=>(h.2.1.2 x hx).le hB⟩,h.2.2.1.le hB,λx hx=>When.fits.le hB (h.2.2.2 x hx)⟩
theorem Pol.fits.le {B B':Nat}(hB:B<=B'){s:Pol}(h:s.fits B):s.fits B':=⟨h.1.le hB,λx hx=>(h.2 x hx).le hB⟩
theorem Cfg.fits.le {B B':Nat}(hB:B<=B'){c:Cfg}(h:c.fits B):c.fits B':=⟨h.1.le hB,h.2.1.le hB,h.2.2.1.le hB,h.2.2.2.1.le hB,λx hx=>(h.2.2.2.2 x hx).le hB⟩
theorem Cfg.wf.ok {B:Nat}{c:Cfg}(h:c.wf B)(hB:B<=big):c.ok:=h.fits.le hB
end
section
noncomputable def E1:Calls':=λf args h=>match Nat.beq f 252 with
 | true=>nY args h
 | false=>Sm (λ_ _ _=>none) TT ak f args h
def am9:List (Nat×QF):=[(222,Ha),(238,Oj),(255,af5)]
def TP:FuncId->Option QF:=iN am9
def pI (f:FuncId):Bool:=Nat.beq 222 f
theorem Nb:TP 222=some Ha:=rfl
theorem Na:TP 238=some (cloneQ 1 8 [(.d (.int .i64 0))]):=by kernel_rfl
theorem Nc:TP 255=some (cmpQ .i64):=by kernel_rfl
theorem ad5:TP 252=none:=rfl
theorem ad4:TP 247=none:=rfl
theorem ad6:TP 253=none:=rfl
theorem MI {args:List V}{h:Hp}:Sm E1 TP pI 252 args h=nY args h:=by rw [aU ad5]; rfl
theorem FQ {args:List V}{h:Hp}:Sm E1 TP pI 247 args h=Sm (λ_ _ _=>none) TT ak 247 args h:=by rw [aU ad4]; rfl
theorem FR {args:List V}{h:Hp}:Sm E1 TP pI 253 args h=Sm (λ_ _ _=>none) TT ak 253 args h:=by rw [aU ad6]; rfl
variable {E:Calls'}
def kH (n:Int):Bool:=decide (n>=1)&&decide (n<=65535)
theorem ap3:TT 273=some (anyQ 291):=al7
theorem ap9:TT 291=some idx1Q:=am6
theorem ap4:TT 274=some not1Q:=al8
theorem ao5:TT 253=some (allQ 273 274):=ak5
theorem Mc (s:Sl Int)(hs:short s)(h:Hp):Sm E TT ak 253 [.d (i64 6),.d (s.d iB),.fn 254 []] h=some (bl (decide ((s.l.length:Int)<=6)&&s.l.all kH),h) :=
 Md (cell:=λn=>i64 n) ap9 ax1 ap3 aw2 ap4 aw3 ao5 av0 hs (λe he h=>Yn e h) h
def bq (t:Target):Bool:=(aZ t.methods&&(aZ t.paths&&(aZ t.hosts&&true)))&&(decide ((t.ports.l.length:Int)<=6)&&t.ports.l.all kH)&&((pR (dz t.ports.l):Int)==(t.ports.l.length:Int))
theorem vG {T:FuncId->Option QF}{val:FuncId->Bool}{kd:IntKind}{id:FuncId}(ht:T id=some (cmpQ kd))(hv:val id=false)(h:Hp):Sm E T val id [.d (.slice true [])] h=some (.d (.slice true []),h):=by
 rw [aT ht hv];simp [cmpQ,aa,V.under]
theorem uF {h:Hp}{b n:Nat}{cap:Option Nat}{ds:List D}(hb:ai h.bs b=some (ds.map .d))(hn:n=ds.length):frz h (.row b 0 n cap 1)=some (.d (.slice false (ds.map λd=>[d]))):=by
 have h1:ai h.bs b=some (flat (ds.map λd=>[d])++[]):=by
  have hf:∀ l:List D,(l.map λd=>[d]).flatten=l:=by
   intro l
   induction l with
   | nil=>rfl
   | cons d l ih=>simp only [cn,List.flatten_cons,ih]; rfl
  rw [hb,List.append_nil,flat,hf]
 have:=eH (h:=h) (k:=7) (b:=b) (n:=n) (cap:=cap) (z:=1) (es:=ds.map λd=>[d]) (rest:=[]) (by simp) (by simpa using hn) h1;simp only [frz,bZ,this]
def qL (t:Target):Bool:=aZ t.methods&&(aZ t.paths&&(aZ t.hosts&&true))
def ko (t:Target):Bool:=decide ((t.ports.l.length:Int)<=6)&&t.ports.l.all kH
theorem L8 (t:Target)(ht:t.wf big)(b:Nat)(cap:Option Nat)(h:Hp)(hb:ai h.bs b=some [.d (t.methods.d Term.c),.d (t.paths.d Term.c),.d (t.hosts.d Term.c)]):Sm E TT ak 247 [.row b 0 3 cap 1] h=some (bl (qL t),h):=by
 refine Ma [t.methods,t.paths,t.hosts] (by simp) ?_ _ h (uF (ds:=[t.methods.d Term.c,t.paths.d Term.c,t.hosts.d Term.c]) hb rfl)
 . intro s hs;simp only [List.mem_cons,List.not_mem_nil,or_false] at hs;obtain rfl | rfl | rfl:=hs
   . exact ⟨ht.2.1.1,λx hx=>(ht.2.1.2 x hx).2⟩
   . exact ⟨ht.2.2.1.1,λx hx=>(ht.2.2.1.2 x hx).2⟩
   . exact ⟨ht.2.2.2.1,λx hx=>(ht.2.2.2.2 x hx).2⟩
theorem Fh (t:Target)(ht:t.wf big)(hl:t.ports.l=[])(hnl:t.ports.nl=true)(h:Hp):Sm E1 TP pI 222 [ag t.c] h=some (bl (bq t),h):=by
 have hp:t.ports.d iB=.slice true []:=by simp [Sl.d,hl,hnl]
 have c1:=λh=>jT (E:=E1) (T:=TP) (val:=pI) Na rfl (by decide) (by decide) (nl:=true) (es:=[]) (by simp) (by simp) h;have c3:=λh=>vG (E:=E1) (T:=TP) (val:=pI) Nc rfl h;have c2:∀ h,nY [.d (.slice true [])] h=some (.tup [],h):=λ_=>rfl;have r1:=λb cap h hb=>L8 (E:=λ_ _ _=>none) t ht b cap h hb;have a1:=λh=>Mc (E:=λ_ _ _=>none) t.ports ht.1.1 h;rw [← hp] at c1;have hlen:t.ports.l.length=0:=by rw [hl]; rfl
 rw [aQ Nb rfl];have hT:bq t=(qL t&&ko t&&true):=by simp [bq,qL,ko,hl,pR,dz]
 rw [hT];simp [aa,Ha,c1,cloneR,MI,c2];cases hR:qL t<;>cases hP:ko t;all_goals
  simp only [hR] at r1;have a2:=hP;unfold ko at a2;simp only [a2] at a1;simp +decide [az,ae,FQ,FR,r1,a1,c3,aB,aL,hlen]
theorem Dz (l:List Int):flat (l.map iB)=ek l:=by
 simp only [flat,ek]
 induction l with
 | nil=>rfl
 | cons x l ih=>simp only [cn,List.flatten_cons,List.map_append,ih]; rfl
theorem DN (l:List Int):(ek l).mapM asInt=some l:=by
 induction l with
 | nil=>rfl
 | cons x l ih =>
  simp only [ek,cn,List.mapM_cons] at ih ⊢;simp [ih,asInt]
theorem EG (l:List Int):(dz l).length=l.length:=List.length_mergeSort _
theorem AQ (t:Target)(ht:t.wf big)(hl:t.ports.l=[])(hnl:t.ports.nl=false)(h:Hp):Sm E1 TP pI 222 [ag t.c] h=some (bl (bq t),h):=by
 have hp:t.ports.d iB=.slice false []:=by simp [Sl.d,hl,hnl]
 have c1:=λh=>jT (E:=E1) (T:=TP) (val:=pI) Na rfl (by decide) (by decide) (nl:=false) (es:=[]) (by simp) (by simp) h;have c3:=vV (E:=E1) (T:=TP) (val:=pI) Nc rfl (zs:=[]) (b:=1) (cap:=some 0) (h:=⟨[.cells (t.c.map .d),.cells [],.cells [.d (t.methods.d Term.c),.d (t.paths.d Term.c),.d (t.hosts.d Term.c)]],3⟩) (by simp) (by simp);have c2:∀ b c h,nY [.row b 0 0 c 1] h=some (.tup [],h):=λ_ _ _=>rfl;have r1:=λb cap h hb=>L8 (E:=λ_ _ _=>none) t ht b cap h hb;have a1:=λh=>Mc (E:=λ_ _ _=>none) t.ports ht.1.1 h;rw [← hp] at c1;have hlen:t.ports.l.length=0:=by rw [hl]; rfl
 rw [aQ Nb rfl];have hT:bq t=(qL t&&ko t&&true):=by simp [bq,qL,ko,hl,pR,dz]
 rw [hT];obtain ⟨h',c3,c4⟩:=c3;simp [pR] at c3;simp [aa,Ha,c1,cloneR,MI,c2];cases hR:qL t<;>cases hP:ko t;all_goals
  simp only [hR] at r1;have a2:=hP;unfold ko at a2;simp only [a2] at a1;obtain rfl | ⟨cur,rfl⟩:=c4<;>first | (simp +decide [az,ae,FQ,FR,r1,a1,c3,aB,aL,hlen]; done) | (simp +decide [az,ae,FQ,FR,r1,a1,c3,aB,aL,hlen]; rw [if_pos (ui (by rfl))]; simp)
theorem Dn (t:Target)(ht:t.wf big)(hl:t.ports.l≠[])(h:Hp):Sm E1 TP pI 222 [ag t.c] h=some (bl (bq t),h):=by
 have hnl:t.ports.nl=false:=by
  cases hh:t.ports.nl with
  | false=>rfl
  | true=>exact absurd (ht.1.1.2 hh) hl
 have hsl:=EG t.ports.l;have hne0:¬ t.ports.l.length=0:=by simpa using hl
 have hlb:t.ports.l.length<=big:=ht.1.1.1;have hp:t.ports.d iB=.slice false (t.ports.l.map iB):=by simp [Sl.d,hnl]
 have c1:∀ h,Sm E1 TP pI 238 [.d (t.ports.d iB)] h=some (.row (h.bs.length+1) 0 t.ports.l.length none 1,⟨h.bs++[.cells [],.cells (ek t.ports.l)],min h.low h.bs.length⟩):=by
  intro h;have:=jT (E:=E1) (T:=TP) (val:=pI) Na rfl (by decide) (by decide) (nl:=false) (es:=t.ports.l.map iB) (by simp [iB]) (by simpa using hlb) h;rw [hp,this];have hf:=Dz t.ports.l
  revert hf hl
  cases t.ports.l with
  | nil=>intro hl; exact absurd rfl hl
  | cons x l =>
   intro _ hf;simp only [cn] at hf;simp [cloneR,hf]
 have c2:∀ lo,nY [.row 2 0 t.ports.l.length none 1] ⟨[.cells (t.c.map .d),.cells [],.cells (ek t.ports.l)],lo⟩=some (.tup [],⟨[.cells (t.c.map .d),.cells [],.cells (ek (dz t.ports.l))],min lo 2⟩):=by
  intro lo;simp only [nY,if_neg hne0,get_eq,DI,DJ,DN];rw [if_pos ⟨trivial,hlb⟩];rfl
 have c3:=vV (E:=E1) (T:=TP) (val:=pI) Nc rfl (zs:=dz t.ports.l) (b:=2) (cap:=none) (h:=⟨[.cells (t.c.map .d),.cells [],.cells (ek (dz t.ports.l)),.cells [.d (t.methods.d Term.c),.d (t.paths.d Term.c),.d (t.hosts.d Term.c)]],4⟩) (by simp; rfl) (by rw [hsl]; exact ce hlb (by decide));have r1:=λb cap h hb=>L8 (E:=λ_ _ _=>none) t ht b cap h hb;have a1:=λh=>Mc (E:=λ_ _ _=>none) t.ports ht.1.1 h;rw [aQ Nb rfl];have hT:bq t=(qL t&&ko t&&((pR (dz t.ports.l):Int)==(t.ports.l.length:Int))):=rfl;rw [hT];obtain ⟨h',c3,c4⟩:=c3;rw [hsl] at c3;generalize pR (dz t.ports.l)=K at *;generalize ek (dz t.ports.l)=Z at *;generalize ek t.ports.l=Z0 at *;simp [aa,Ha,c1,MI,c2];cases hR:qL t<;>cases hP:ko t;all_goals
  simp only [hR] at r1;have a2:=hP;unfold ko at a2;simp only [a2] at a1;obtain rfl | ⟨cur,rfl⟩:=c4<;>first | (simp +decide [az,ae,FQ,FR,r1,a1,c3,aB,aL]; done) | (simp +decide [az,ae,FQ,FR,r1,a1,c3,aB,aL]; rw [if_pos (ui (by rfl))]; simp)
theorem Qs (t:Target)(ht:t.wf big)(h:Hp):Sm E1 TP pI 222 [ag t.c] h=some (bl (bq t),h):=by
 by_cases hl:t.ports.l=[]
 . cases hnl:t.ports.nl with
   | true=>exact Fh t ht hl hnl h
   | false=>exact AQ t ht hl hnl h
 . exact Dn t ht hl h
end
section
variable {E:Calls'}
theorem ap0:TT 268=some (anyQ 281):=al3
theorem ap8:TT 281=some (idxQ 2):=am5
theorem ap1:TT 269=some (notQ 2):=al4
theorem ao2:TT 248=some (allQ 268 269):=ak1
theorem ao0:TT 245=some (anyQ 264):=aj8
theorem ao8:TT 264=some (idxQ 3):=ak9
theorem ao1:TT 246=some (notQ 3):=aj9
theorem an6:TT 219=some (allQ 245 246):=aj2
theorem ao3:TT 250=some (anyQ 271):=ak3
theorem ap2:TT 271=some (idxQ 4):=al6
theorem ao4:TT 251=some (notQ 4):=ak4
theorem an7:TT 221=some (allQ 250 251):=aj4
theorem ao6:TT 256=some (anyQ 275):=ak6
theorem ap5:TT 275=some (idxQ 2):=al9
theorem ao7:TT 257=some (notQ 2):=ak7
theorem an8:TT 223=some (allQ 256 257):=aj5
theorem an4:TT 217=some (anyQ 244):=aj0
theorem an9:TT 244=some (idxQ 3):=aj7
theorem an5:TT 218=some (notQ 3):=aj1
theorem an3:TT 171=some (allQ 217 218):=ai5
theorem ac1:TT 222=none:=by kernel_rfl
def nJ (s:Sl Cidr):Bool:=decide ((s.l.length:Int)<=6)&&s.l.all ig
theorem YH (s:Sl Cidr)(hs:short s)(h:Hp):Sm E TT ak 248 [.d (i64 6),.d (s.d Cidr.c),.fn 249 []] h=some (bl (nJ s),h) :=
 yM (cells:=Cidr.c) ap8 ax0 ap0 av8 ap1 av9 ao2 au6 (λ_=>rfl) hs (λe he h=>YI e h) h
def dm (s:Source):Bool:=(aZ s.names&&(aZ s.spaces&&true))&&nJ s.nets
theorem YC (s:Source)(hs:s.wf big)(h:Hp):Sm E TT ak 220 [ag s.c] h=some (bl (dm s),h):=by
 have r1:∀ b cap h,ai h.bs b=some [.d (s.names.d Term.c),.d (s.spaces.d Term.c)]->Sm E TT ak 247 [.row b 0 2 cap 1] h=some (bl ([s.names,s.spaces].all aZ),h):=by
  intro b cap h hb;refine Ma [s.names,s.spaces] (by simp) ?_ _ h (uF (ds:=[s.names.d Term.c,s.spaces.d Term.c]) hb rfl);intro x hx;simp only [List.mem_cons,List.not_mem_nil,or_false] at hx;obtain rfl | rfl:=hx
  . exact ⟨hs.1.1,λx hx=>(hs.1.2 x hx).2⟩
  . exact ⟨hs.2.1.1,λx hx=>(hs.2.1.2 x hx).2⟩
 have a1:=λh=>YH (E:=E) s.nets hs.2.2.1 h;have hT:dm s=([s.names,s.spaces].all aZ&&nJ s.nets):=rfl;rw [hT];generalize [s.names,s.spaces].all aZ=A at *;generalize nJ s.nets=B at *;rw [aQ aj3 at6];cases A<;>simp +decide [aa,Ol,az,ae,r1,a1,aB,aL]
def gK (w:When):Bool:=jN w.head&&(aZ w.terms&&true)&&decide ((w.terms.l.length:Int)>0)
theorem YD (w:When)(hw:w.wf big)(h:Hp):Sm E TT ak 224 [ag w.c] h=some (bl (gK w),h):=by
 have r1:∀ b cap h,ai h.bs b=some [.d (w.terms.d Term.c)]->Sm E TT ak 247 [.row b 0 1 cap 1] h=some (bl ([w.terms].all aZ),h):=by
  intro b cap h hb;refine Ma [w.terms] (by simp) ?_ _ h (uF (ds:=[w.terms.d Term.c]) hb rfl);intro x hx;simp only [List.mem_cons,List.not_mem_nil,or_false] at hx;subst hx;exact ⟨hw.2.1,λx hx=>(hw.2.2 x hx).2⟩
 have a1:=λh=>YJ (E:=E) w.head hw.1 h;have hT:gK w=(jN w.head&&[w.terms].all aZ&&decide ((w.terms.l.length:Int)>0)):=rfl;rw [hT];generalize [w.terms].all aZ=A at *;generalize jN w.head=B at *;rw [aQ aj6 au1];cases B<;>cases A<;>simp +decide [aa,Om,az,ae,r1,a1,aB,aL]
def fB (r:Rule):Bool:=(decide ((r.frm.l.length:Int)<=3)&&r.frm.l.all dm)&&(decide ((r.to.l.length:Int)<=3)&&r.to.l.all bq)&&(decide ((r.whn.l.length:Int)<=3)&&r.whn.l.all gK)
section
variable (h385:∀ t:Target,t.wf big->∀ h,E 222 [ag t.c] h=some (bl (bq t),h))
include h385
theorem Qt (t:Target)(ht:t.wf big)(h:Hp):Sm E TT ak 222 [ag t.c] h=some (bl (bq t),h):=by rw [aU ac1]; exact h385 t ht h
theorem Yy (r:Rule)(hr:r.wf big)(h:Hp):Sm E TT ak 172 [ag r.c] h=some (bl (fB r),h):=by
 have k1:=λh=>yM (E:=E) (T:=TT) (val:=ak) (cells:=Source.c) ao8 av4 ao0 au3 ao1 au4 an6 at5 (λ_=>rfl) (s:=r.frm) hr.1.1 (m:=3) (f:=220) (p:=dm) (λe he h=>YC e (hr.1.2 e he) h) h;have k2:=λh=>yM (E:=E) (T:=TT) (val:=ak) (cells:=Target.c) ap2 aw1 ao3 au8 ao4 au9 an7 at7 (λ_=>rfl) (s:=r.to) hr.2.1.1 (m:=3) (f:=222) (p:=bq) (λe he h=>Qt h385 e (hr.2.1.2 e he) h) h;have k3:=λh=>yM (E:=E) (T:=TT) (val:=ak) (cells:=When.c) ap5 aw4 ao6 av1 ao7 av2 an8 au0 (λ_=>rfl) (s:=r.whn) hr.2.2.1 (m:=3) (f:=224) (p:=gK) (λe he h=>YD e (hr.2.2.2 e he) h) h;unfold fB;generalize (decide ((r.frm.l.length:Int)<=3)&&r.frm.l.all dm)=A at *;generalize (decide ((r.to.l.length:Int)<=3)&&r.to.l.all bq)=B at *;generalize (decide ((r.whn.l.length:Int)<=3)&&r.whn.l.all gK)=C at *;rw [aQ ai6 as6];cases A<;>cases B<;>simp +decide [aa,Og,az,ae,k1,k2,k3,aL]
def dw (p:Pol):Bool:=decide (p.id>=1)&&decide (p.id<=4611686018427387903)&&(eqS p.ns ⟨#[]⟩||iC p.ns)&&decide (p.service<=4611686018427387903)&&((p.deny==0)||(p.deny==1))&&(decide ((p.rules.l.length:Int)<=6)&&p.rules.l.all fB)
theorem Qr (p:Pol)(hp:p.wf big)(h:Hp):Sm E TT ak 140 [ag p.c] h=some (bl (dw p),h):=by
 have k1:=λh=>yM (E:=E) (T:=TT) (val:=ak) (cells:=Rule.c) an9 au2 an4 at0 an5 at1 an3 as5 (λ_=>rfl) (s:=p.rules) hp.2.2.2.2.1 (m:=6) (f:=172) (p:=fB) (λe he h=>Yy h385 e (hp.2.2.2.2.2 e he) h) h;have k2:=λh=>Yo (E:=E) p.ns hp.2.1 h;unfold dw;generalize (decide ((p.rules.l.length:Int)<=6)&&p.rules.l.all fB)=A at *;generalize iC p.ns=B at *;have ho:eqS p.ns ⟨#[]⟩=eqS p.ns ⟨#[]⟩:=rfl;rw [aQ ah5 ar4];by_cases c1:p.id>=1
 case neg=>simp +decide [aa,uX,az,ae,aL,c1]
 by_cases c2:p.id<=4611686018427387903
 case neg=>simp +decide [aa,uX,az,ae,aL,c1,c2]
 cases c3:eqS p.ns ⟨#[]⟩
 case false =>
  cases B
  case false=>simp +decide [aa,uX,az,ae,aL,c1,c2,c3,k2]
  by_cases c4:p.service<=4611686018427387903
  case neg=>simp +decide [aa,uX,az,ae,aL,c1,c2,c3,k2,c4]
  by_cases c5:p.deny=0
  case pos=>simp +decide [aa,uX,az,ae,aL,c1,c2,c3,k2,c4,c5,k1]
  by_cases c6:p.deny=1<;>simp +decide [aa,uX,az,ae,aL,c1,c2,c3,k2,c4,c5,c6,k1]
 case true =>
  by_cases c4:p.service<=4611686018427387903
  case neg=>simp +decide [aa,uX,az,ae,aL,c1,c2,c3,k2,c4]
  by_cases c5:p.deny=0
  case pos=>simp +decide [aa,uX,az,ae,aL,c1,c2,c3,k2,c4,c5,k1]
  by_cases c6:p.deny=1<;>simp +decide [aa,uX,az,ae,aL,c1,c2,c3,k2,c4,c5,c6,k1]
end
end
section
variable {E:Calls'}
end
section
variable {E:Calls'}
end
section
variable {E:Calls'}
end
section
variable {E:Calls'}
end
section
variable {E:Calls'}
end
section
def CG (x:V)(h:Hp):Option (V×Hp):=match x with
 | .ptr b o=>some (.ptr b o,h)
 | .eptr cs o=>some (.eptr cs o,h)
 | .fn f cs=>some (.fn f cs,h)
 | .mfn f cs=>some (.mfn f cs,h)
 | _=>none
section
variable {C:Calls'}{ev:X->V}{h:Hp}
@[simp] theorem M9 {x:X}:opE C (.nilchk x) ev h=CG (ev x) h:=(rfl)
@[simp] theorem MZ {b o:Nat}:CG (.ptr b o) h=some (.ptr b o,h):=(rfl)
@[simp] theorem Wt {b o:Nat}{neg:Bool}:eqv .ptr neg (.ptr b o) (.d .nilp) h=some (.d (.bool (false != neg)),h):=(rfl)
end
end
section
variable {E:Calls'}
def lenTab:ByteArray:=⟨#[0,1,2,2,3,3,3,3,4,4,4,4,4,4,4,4,5,5,5,5,5,5,5,5,5,5,5,5,5,5,5,5,6,6,6,6,6,6,6,6,6,6,6,6,6,6,6,6,6,6,6,6,6,6,6,6,6,6,6,6,6,6,6,6,7,7,7,7,7,7,7,7,7,7,7,7,7,7,7,7,7,7,7,7,7,7,7,7,7,7,7,7,7,7,7,7,7,7,7,7,7,7,7,7,7,7,7,7,7,7,7,7,7,7,7,7,7,7,7,7,7,7,7,7,7,7,7,7,8,8,8,8,8,8,8,8,8,8,8,8,8,8,8,8,8,8,8,8,8,8,8,8,8,8,8,8,8,8,8,8,8,8,8,8,8,8,8,8,8,8,8,8,8,8,8,8,8,8,8,8,8,8,8,8,8,8,8,8,8,8,8,8,8,8,8,8,8,8,8,8,8,8,8,8,8,8,8,8,8,8,8,8,8,8,8,8,8,8,8,8,8,8,8,8,8,8,8,8,8,8,8,8,8,8,8,8,8,8,8,8,8,8,8,8,8,8,8,8,8,8,8,8,8,8,8,8]⟩
def lenL:List UInt8:=lenTab.data.toList
theorem Gp:lenL.length=256:=by decide +kernel
theorem Br:lenL.all (λb=>decide (b.toNat<=8))=true:=by decide +kernel
def lenT (i:Nat):Int:=match lenL[i]? with
 | some b=>b.toNat
 | none=>0
theorem Ji (i:Nat):0<=lenT i/\lenT i<=8:=by
 unfold lenT;split
 . rename_i b hb;have:=cj.1 Br b (cb hb);simp at this;omega
 . omega
theorem VO (n:Int):0<=wrap .u8 n/\wrap .u8 n<256:=by
 simp [wrap,IntKind.bits,IntKind.signed];omega
theorem MV {n:Int}{h:Hp}:sK (.d (.str lenTab)) (.d (.int .u8 (wrap .u8 n))) h=some (.d (.int .u8 (lenT (wrap .u8 n).toNat)),h):=by
 obtain ⟨h0,h1⟩:=VO n;generalize wrap .u8 n=m at *;have hlt:m.toNat<lenL.length:=by rw [Gp]; omega
 have hb:lenTab.toList[m.toNat]?=some lenL[m.toNat]:=by rw [bO]; exact ab hlt
 simp only [sK,if_pos h0,hb,lenT,ab hlt]
def uN (x:Int):Int:=if x>=4294967296 then x.fdiv 4294967296 else x
def xz (x:Int):Int:=if x>=65536 then x.fdiv 65536 else x
def Bq (x:Int):Int:=if x>=256 then x.fdiv 256 else x
def mh (x:Int):Int:=(if x>=4294967296 then 32 else 0)+(if uN x>=65536 then 16 else 0)+(if xz (uN x)>=256 then 8 else 0)+lenT (wrap .u8 (Bq (xz (uN x)))).toNat
theorem MR (x:Int):(x>=4294967296/\dW .shr (.d (.int .u64 x)) (.d (.int .u64 32))=some (.int .u64 (uN x)))\/(¬ x>=4294967296/\uN x=x):=by
 by_cases c:x>=4294967296
 . exact .inl ⟨c,by rw [xc (by decide),uN,if_pos c]; rfl⟩
 . exact .inr ⟨c,if_neg c⟩
theorem MS (x:Int):(x>=65536/\dW .shr (.d (.int .u64 x)) (.d (.int .u64 16))=some (.int .u64 (xz x)))\/(¬ x>=65536/\xz x=x):=by
 by_cases c:x>=65536
 . exact .inl ⟨c,by rw [xc (by decide),xz,if_pos c]; rfl⟩
 . exact .inr ⟨c,if_neg c⟩
theorem MU (x:Int):(x>=256/\dW .shr (.d (.int .u64 x)) (.d (.int .u64 8))=some (.int .u64 (Bq x)))\/(¬ x>=256/\Bq x=x):=by
 by_cases c:x>=256
 . exact .inl ⟨c,by rw [xc (by decide),Bq,if_pos c]; rfl⟩
 . exact .inr ⟨c,if_neg c⟩
theorem Yx (x:Int)(h:Hp):Sm E TT ak 182 [.d (u64 x)] h=some (.d (i64 (mh x)),h):=by
 rw [aQ ai4 as4];have htab:(⟨#[0,1,2,2,3,3,3,3,4,4,4,4,4,4,4,4,5,5,5,5,5,5,5,5,5,5,5,5,5,5,5,5,6,6,6,6,6,6,6,6,6,6,6,6,6,6,6,6,6,6,6,6,6,6,6,6,6,6,6,6,6,6,6,6,7,7,7,7,7,7,7,7,7,7,7,7,7,7,7,7,7,7,7,7,7,7,7,7,7,7,7,7,7,7,7,7,7,7,7,7,7,7,7,7,7,7,7,7,7,7,7,7,7,7,7,7,7,7,7,7,7,7,7,7,7,7,7,7,8,8,8,8,8,8,8,8,8,8,8,8,8,8,8,8,8,8,8,8,8,8,8,8,8,8,8,8,8,8,8,8,8,8,8,8,8,8,8,8,8,8,8,8,8,8,8,8,8,8,8,8,8,8,8,8,8,8,8,8,8,8,8,8,8,8,8,8,8,8,8,8,8,8,8,8,8,8,8,8,8,8,8,8,8,8,8,8,8,8,8,8,8,8,8,8,8,8,8,8,8,8,8,8,8,8,8,8,8,8,8,8,8,8,8,8,8,8,8,8,8,8,8,8,8,8,8,8]⟩:ByteArray)=lenTab:=rfl;have hl:=Ji (wrap .u8 (Bq (xz (uN x)))).toNat;have hL:=λh=>MV (n:=Bq (xz (uN x))) (h:=h);unfold mh;have hA:=MR x;have hB:=MS (uN x);have hC:=MU (xz (uN x));have hw:∀ n:Int,0<=n->n<=1000->wrap .i64 n=n:=λn h1 h2=>wrap64 (by omega) (by omega);have w16:=hw 16 (by omega) (by omega);have w40:=hw 40 (by omega) (by omega);have w48:=hw 48 (by omega) (by omega);have w56:=hw 56 (by omega) (by omega);have w24:=hw 24 (by omega) (by omega);have w8:=hw 8 (by omega) (by omega);generalize uN x=a at *;generalize xz a=b at *;generalize Bq b=c at *;generalize lenT (wrap .u8 c).toNat=L at *;have wL:=hw L (by omega) (by omega);have v1:=hw (8+L) (by omega) (by omega);have v2:=hw (16+L) (by omega) (by omega);have v3:=hw (24+L) (by omega) (by omega);have v4:=hw (32+L) (by omega) (by omega);have v5:=hw (40+L) (by omega) (by omega)
 have v6:=hw (48+L) (by omega) (by omega);have v7:=hw (56+L) (by omega) (by omega);obtain ⟨a1,a2⟩ | ⟨a1,rfl⟩:=hA<;>obtain ⟨b1,b2⟩ | ⟨b1,rfl⟩:=hB<;>obtain ⟨c1,c2⟩ | ⟨c1,rfl⟩:=hC<;>simp [aa,JU,htab,hL,wL,w16,w40,w48,w56,w24,w8,v1,v2,v3,v4,v5,v6,v7, *]
def IY (x:V)(h:Hp):Option (V×Hp):=match x with
 | .d (.str s)=>if s.size<=2 ^ 40 then some (.row h.size 0 s.size none 1,h.alloc (s.toList.map λb=>.d (.int .u8 b.toNat))) else none
 | _=>none
@[simp] theorem M7 {C:Calls'}{ev:X->V}{h:Hp}{x:X}:opE C (.convSB x) ev h=IY (ev x) h:=(rfl)
end
section
variable {E:Calls'}
end
section
variable {E:Calls'}
end
section
variable {E:Calls'}
end
section
variable {E:Calls'}
def IX (x:V)(h:Hp):Option (V×Hp):=match x with
 | .d (.str _)=>none
 | v=>match aO h v 1 with
  | some (_,cs)=>match cs.mapM (λv=>match v with | .d (.int .u8 n)=>some (UInt8.ofNat n.toNat) | _=>none) with
   | some l=>some (.d (.str ⟨l.toArray⟩),h)
   | none=>none
  | none=>none
@[simp] theorem M6 {C:Calls'}{ev:X->V}{h:Hp}{x:X}:opE C (.convBS x) ev h=IX (ev x) h:=(rfl)
end
section
variable {E:Calls'}
end
section
theorem ny:∀ {l:List Int},aX l=true->l.Pairwise (·<·)
 | [],_=>.nil
 | [x],_=>by simp
 | x::y::l,h=>by
  simp only [aX,ao,br] at h;have ih:=ny h.2;refine List.pairwise_cons.2 ⟨λz hz=>?_,ih⟩;obtain rfl | hz:=List.mem_cons.1 hz
  . exact h.1
  . exact Int.lt_trans h.1 ((List.pairwise_cons.1 ih).1 z hz)
end
section
end
