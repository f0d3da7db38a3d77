/- Layer 17: what stands at an address, of the program and of the document. -/
import Derived.Test.YtinmplbccmfheaaGreatYm
import Derived.KernelRfl
import Derived.Sort.Defs
set_option maxRecDepth 100000
set_option linter.unusedVariables false
set_option linter.unusedSimpArgs false
namespace Go.Proofs.YtinmplbccmfheaaGreat
open IntKind (wrap)
section
variable {E:Calls'}
@[simp] theorem Q4 {α:Type}(l:List α):l.find? (λ_=>false)=none:=by simp [List.find?_eq_none]
theorem aj7 {s:Sl Int}(hs:short s)(n:Int)(h:Hp):∀ (m i:Nat),i+m=s.l.length →
 Cd E TT au (.loop [0,1,7,8] nE) [(0,.d (s.d aY)),(1,.d (u32 n)),(7,.d (i64 s.l.length)),(8,.d (i64 i))] h =
  match (s.l.drop i).findIdx? (λx=>x==n) with
  | some k=>some (.ret,[(4,.d (i64 (i+k:Nat)))],h)
  | none=>some (.exit 0,[],h):=by
 have hlt:=hs.lt;intro m;have key:=ay (E:=E) (T:=TT) (val:=au) [0,1,7,8] nE;generalize Cd E TT au (.loop [0,1,7,8] nE)=W at key ⊢
 induction m with
 | zero =>
  intro i hi;have h0:s.l.drop i=[]:=bb (by omega);rw [key];simp [nE,h0,show ¬ ((i:Int)<s.l.length) from by omega]
 | succ m ih =>
  intro i hi;have h1:i<s.l.length:=by omega
  have hx:=λh=>aA (z:=1) h (ac h1) (cells:=aY) rfl;have hw:=ax h1 hlt;have:=ih (i+1) (by omega);rw [key,ba h1];generalize s.l[i]=x at *;by_cases hq:x=n
  . simp [nE,hx,hq,aY,List.findIdx?_cons,show ((i:Int)<s.l.length) from by omega]
  . have hq':(x==n)=false:=by simpa using hq
    have hq2:¬ n=x:=λh=>hq h.symm;simp [nE,hx,hq',hq,hq2,aY,hw,List.findIdx?_cons,show ((i:Int)<s.l.length) from by omega];rw [show ((i:Int)+1)=((i+1:Nat):Int) from by omega,this];cases hfi:(s.l.drop (i+1)).findIdx? (λp=>p==n) with
    | none=>rfl
    | some k=>simp; omega
theorem VL {s:Sl Int}(hs:short s)(n:Int)(h:Hp):Sm E TT au 74 [.d (s.d aY),.d (u32 n)] h=some (.d (i64 (ib s.l λx=>x==n)),h):=by
 rw [aU t232 v232];have k1:=λh=>aj7 (E:=E) hs n h s.l.length 0 (by omega);simp at k1;simp [af,NT];rw [aj];simp [k1,ib];cases s.l.findIdx? (λx=>x==n) with
 | none=>simp
 | some k=>simp
def dz (l:List Int)(n:Int):Bool:=(l.find? λx=>x==n).isSome
theorem am6 {s:Sl Int}(hs:short s)(n:Int)(h:Hp):Sm E TT au 22 [.d (s.d aY),.d (u32 n)] h=some (bl (dz s.l n),h):=by
 rw [aU t117 v117];obtain ⟨g1,g2⟩ | ⟨k,p,g1,g2,g3⟩:=dE s.l (λx=>x==n)
 . simp [af,Ko,VL hs,g2,dz,g1]
 . simp [af,Ko,VL hs,g2,dz,g1]
theorem ai6 {s:Sl Int}(hs:short s)(n:Int)(h:Hp):∀ (m i:Nat),i+m=s.l.length →
 Cd E TT au (.loop [0,1,5] nk) [(0,.d (s.d aY)),(1,.d (u32 n)),(5,.d (i64 i))] h =
  match (s.l.drop i).find? (λx=>x==n) with
  | some k=>some (.ret,[(4,bl true)],h)
  | none=>some (.exit 0,[],h):=by
 have hlt:=hs.lt;intro m;have key:=ay (E:=E) (T:=TT) (val:=au) [0,1,5] nk;generalize Cd E TT au (.loop [0,1,5] nk)=W at key ⊢
 induction m with
 | zero =>
  intro i hi;have h0:s.l.drop i=[]:=bb (by omega);rw [key];simp [nk,h0,show ¬ ((i:Int)<s.l.length) from by omega]
 | succ m ih =>
  intro i hi;have h1:i<s.l.length:=by omega
  have hx:=λh=>aA (z:=1) h (ac h1) (cells:=aY) rfl;have hw:=ax h1 hlt;have:=ih (i+1) (by omega);rw [key,ba h1];generalize s.l[i]=x at *;by_cases hq:x=n
  . simp [nk,hx,hq,aY,List.find?_cons,show ((i:Int)<s.l.length) from by omega]
  . simp [nk,hx,hq,aY,hw,List.find?_cons,show ((i:Int)<s.l.length) from by omega];simpa using this
theorem am8 {s:Sl Int}(hs:short s)(n:Int)(h:Hp):Sm E TT au 51 [.d (s.d aY),.d (u32 n)] h=some (bl (dz s.l n),h):=by
 rw [aU bi1 bz0];have k1:=λh=>ai6 (E:=E) hs n h s.l.length 0 (by omega);simp at k1;simp [af,RS];rw [aj];simp [k1,dz];cases s.l.find? (λx=>x==n) with
 | none=>simp
 | some k=>simp
end
section
variable {E:Calls'}
end
section
section
variable {E:Calls'}
end
end
section
variable {E:Calls'}
end
section
variable {E:Calls'}
end
section
variable {E:Calls'}
end
section
end
section
structure Scp where
 node:Int
 addrs:Sl Int
def fT (c:Cfg)(node:Int)(x:Svc):Bool:=match nV c x.id with
 | some w=>w.node==node
 | none=>false
def nX (c:Cfg)(p:Pod)(so:Svc->Bool):Bool:=c.services.l.any λx=>x.id==p.service&&so x
def og (c:Cfg)(node:Int)(p:Pod):Bool:=p.host==node||nX c p (fT c node)
def qC (c:Cfg)(s:Scp)(p:Pod):Bool:=og c s.node p||(dz s.addrs.l p.addr||nX c p λx=>dz s.addrs.l x.addr)
def ja (c:Cfg)(s:Scp):List Pod:=c.pods.l.filter (qC c s)
def Dj (c:Cfg)(s:Scp)(x:Svc):Bool:=dz s.addrs.l x.addr||(fT c s.node x||(ja c s).any λp=>p.service==x.id)
def jb (c:Cfg)(s:Scp):List Svc:=c.services.l.filter (Dj c s)
def LA (c:Cfg)(s:Scp)(w:Way):Bool:=w.node==s.node||(jb c s).any λx=>x.way==w.id
def lY (c:Cfg)(s:Scp):List Way:=c.bound.l.filter (LA c s)
def fu (c:Cfg)(node:Int)(p:Pol):Bool:=c.pods.l.any λx=>og c node x&&jv p x.ns x.service
def Cov (c:Cfg)(s:Scp)(cov:Sl Int):Prop:=∀ a,a∈cov.l↔a∈s.addrs.l\/∃ x∈c.services.l,fT c s.node x=true/\x.addr=a
theorem hasT_iff {l:List Int}{n:Int}:dz l n=true↔n∈l:=by
 simp [dz,List.find?_isSome]
end
section
def cmpL:List Int->List Int
 | []=>[]
 | [x]=>[x]
 | x::y::l=>if x=y then cmpL (y::l) else x::cmpL (y::l)
theorem cmpL_mem {x:Int}:∀ {l:List Int},x∈cmpL l↔x∈l
 | []=>by simp [cmpL]
 | [y]=>by simp [cmpL]
 | y::z::l=>by
  have ih:=cmpL_mem (x:=x) (l:=z::l);rw [cmpL];split
  . rename_i h; subst h;rw [ih]; simp
  . rw [List.mem_cons,ih,List.mem_cons (b:=y)]
theorem zn:∀ {l:List Int},l.Pairwise (·<=·)->(cmpL l).Pairwise (·<·)
 | [],_=>.nil
 | [y],_=>by simp [cmpL]
 | y::z::l,h=>by
  obtain ⟨h1,h2⟩:=List.pairwise_cons.1 h;have ih:=zn h2;rw [cmpL];split
  . exact ih
  . rename_i hne;refine List.pairwise_cons.2 ⟨λw hw=>?_,ih⟩;have h3:=h1 z (by simp);obtain rfl | h4:=List.mem_cons.1 (cmpL_mem.1 hw)
    . omega
    . have:=(List.pairwise_cons.1 h2).1 w h4; omega
theorem Ij {x:Int}{l:List Int}:x∈bM l↔x∈l:=(List.mergeSort_perm _ _).mem_iff
theorem Ld (l:List Int):(bM l).Pairwise (·<=·):=by
 have:=List.pairwise_mergeSort (le:=λa b:Int=>decide (a<=b)) (by intro a b c h1 h2; simp at *; omega) (by intro a b; simp; omega) l;exact this.imp (by intro a b h; simpa using h)
def lV (c:Cfg)(s:Scp):List Int:=cmpL (bM (s.addrs.l++(c.services.l.filter (fT c s.node)).map Svc.addr))
theorem Gx {c:Cfg}{s:Scp}{nl:Bool}:Cov c s ⟨nl,lV c s⟩:=by
 intro a;show a∈lV c s↔_;rw [lV,cmpL_mem,Ij,List.mem_append,cb];constructor
 . rintro (h | ⟨x,h1,h2⟩)
   . exact .inl h
   . exact .inr ⟨x,(List.mem_filter.1 h1).1,(List.mem_filter.1 h1).2,h2⟩
 . rintro (h | ⟨x,h1,h2,h3⟩)
   . exact .inl h
   . exact .inr ⟨x,List.mem_filter.2 ⟨h1,h2⟩,h3⟩
def mQ (l:List Int)(most:Int):Bool:=(bQ l&&decide ((l.length:Int)<=most))&&!dz l 0
def dw (s:Scp):Bool:=decide (s.node>=2)&&(decide (s.node<=9)&&mQ s.addrs.l 32)
end
section
end
namespace Vr
section
variable {E:Calls'}{T:FuncId->Option QF}{val:FuncId->Bool}
theorem QD {id:FuncId}{z:Nat}(ht:T id=some (notQ z))(hv:val id=false){c:List V}(hc:c.length=z){f:FuncId}{caps:List V}{x:Nat}{p:Bool}{h:Hp}(hp:ah h.bs x=some [.fn f caps])
 (hf:∀ ys lo,Sm E T val f (.agg c::caps) ⟨h.bs++ys,lo⟩=some (bl p,⟨h.bs++ys,lo⟩)):Sm E T val id [.agg c,.ptr x 0] h=some (bl (!p),h):=by
 rw [aJ ht hv];have hs:sub c 0 z=some c:=bN hc;simp [notQ,af,av hp,hf,hs,V.under]
def KeptR {α:Type}(cells:α->List V)(z n:Nat)(nl:Bool)(l:List α)(bs:List Blk)(v:V):Prop :=
 (nl=true/\l=[]/\v=.d (.slice true []))\/(nl=false/\∃ B cap rest,n<=B/\v=.row B 0 l.length cap z/\ah bs B=some (flat (l.map cells)++rest))
theorem S_keep {α:Type}{cells:α->List V}{z b cl clos del idx id:Nat}{zero:List V}(tcl:T cl=some (cloneQ z b zero))(vcl:val cl=false)(tdel:T del=some (delQ z idx zero))(vdel:val del=false)(tidx:T idx=some (idxQ z))(vidx:val idx=false)
 (tc:T clos=some (notQ z)) (vc:val clos=false) (tid:T id=some (keepQ cl clos del)) (vid:val id=false) (hz:∀ x,(cells x).length=z) (hz0:0<z) (hzero:zero.length=z) (hb:b<=4096) {nl:Bool} {l:List α} (hs:l.length<=big/\(nl=true->l=[])) {a:V} {f:FuncId} {caps:List V} {q:α->Bool} {h:Hp}
 (ha:ArgIs h.bs a z nl (l.map cells)) (hq:∀ e∈l,∀ bs lo,h.bs.length<=bs.length->(∀ x,x<h.bs.length->bs[x]?=h.bs[x]?)->Sm E T val f (.agg (cells e)::caps) ⟨bs,lo⟩=some (bl (q e),⟨bs,lo⟩)) :
 ∃ r bs' lo',Sm E T val id [a,.fn f caps] h=some (r,⟨bs',lo'⟩)/\h.bs.length<=bs'.length/\(∀ x,x<h.bs.length->bs'[x]?=h.bs[x]?)/\KeptR cells z h.bs.length nl (l.filter q) bs' r:=by
 obtain ⟨bs,lo0⟩:=h;simp only at hq ha ⊢;have hcl:=Bq (E:=E) (T:=T) (val:=val) (a:=a) tcl vcl hz0 hb (nl:=nl) (es:=l.map cells) (by simp; intro a _; exact hz a) (by simpa using hs.1) ⟨bs++[.cells [.fn f caps]],bs.length⟩ (ha.lay _);have hlen:l.length<2 ^ 62:=ce hs.1 (by decide);obtain ⟨aok,anu⟩:=ha.ok;have hout:∀ {r:V} {bs':List Blk} {lo':Nat},r.under bs.length=false->eU ⟨bs,lo0⟩ (some (r,⟨bs',lo'⟩))=some (r,⟨bs',min lo0 lo'⟩):=λhu=>by
  rw [ed,if_neg (λhh=>by rw [hu] at hh; cases hh.2)]
 have hun:∀ {B o n z:Nat} {cap:Option Nat},bs.length<=B->V.under bs.length (.row B o n cap z)=false:=λh=>by simp [V.under]; omega
 rw [aJ tid vid];cases nl with
 | true =>
  have hl:=hs.2 rfl;subst hl;obtain rfl:=ha.nil rfl;have h1:=jo (E:=E) (T:=T) (val:=val) cells (es:=[]) (z:=z) (idx:=idx) (zero:=zero) tidx vidx tdel vdel (v:=.d (.slice true [])) (f:=clos) (caps:=[.ptr bs.length 0]) (q:=λ_=>false) (h:=⟨bs++[.cells [.fn f caps]],bs.length⟩) ⟨by simp,.inl ⟨true,rfl,by simp⟩⟩ (by simp) (by simp) (by simp);simp [bO] at hcl;refine ⟨.d (.slice true []),bs,lo0,?_,br _,λ_ _=>rfl,.inl ⟨rfl,by simp,rfl⟩⟩;simp [af,keepQ,aok,anu,hcl,h1,V.under,bK]
 | false =>
  obtain ⟨ab,acap,arest,rfl,hab⟩:=ha.row rfl;cases hll:l with
  | nil =>
   subst hll;have h1:=λlo=>jo (E:=E) (T:=T) (val:=val) cells (es:=[]) (z:=z) (idx:=idx) (zero:=zero) tidx vidx tdel vdel (v:=.row (bs.length+1) 0 0 (some 0) z) (f:=clos) (caps:=[.ptr bs.length 0]) (q:=λ_=>false) (h:=⟨bs++[.cells [.fn f caps],.cells []],lo⟩) ⟨by simp,.inr ⟨bs.length+1,0,some 0,[],rfl,by unfold ah; rw [bm (by omega)]; simp,by simp [eG]⟩⟩ (by simp) (by simp) (by simp);simp [bO] at hcl;refine ⟨.row (bs.length+1) 0 0 (some 0) z,bs++[.cells [.fn f caps],.cells []],min lo0 bs.length,?_,by simp,λx hx=>by rw [aq hx],.inr ⟨rfl,bs.length+1,some 0,[],by omega,rfl,by unfold ah; rw [bm (by omega)]; simp⟩⟩;refine Eq.trans ?_ (hout (lo':=bs.length) (hun (by omega)))
   congr 1
   simp [af,keepQ,aok,anu,hcl,h1,bK]
  | cons p l' =>
   have hne:l≠[]:=by rw [hll]; simp
   rw [← hll];have hc2:bO z false (l.map cells) (bs++[.cells [.fn f caps]]) bs.length=(.row (bs.length+2) 0 l.length none z,⟨bs++[.cells [.fn f caps],.cells [],.cells (flat (l.map cells))],bs.length⟩):=by
    rw [hll]; simp [bO]
   rw [hc2] at hcl;simp at hcl;have hbF:ah (bs++[.cells [.fn f caps],.cells [],.cells (flat (l.map cells))]) (bs.length+2)=some (flat (l.map cells)):=by unfold ah; rw [bm (by omega)]; simp
   have hold:∀ x,x<bs.length->(bs++[Blk.cells [.fn f caps],.cells [],.cells (flat (l.map cells))])[x]?=bs[x]?:=λx hx=>by rw [aq hx]
   have hcall:∀ e∈l,∀ bs2 lo2,bs.length+3<=bs2.length->(∀ x,x≠bs.length+2->x<bs.length+3->bs2[x]?=(bs++[.cells [.fn f caps],.cells [],.cells (flat (l.map cells))])[x]?)->Sm E T val clos (.agg (cells e)::[.ptr bs.length 0]) ⟨bs2,lo2⟩=some (.d (.bool (!q e)),⟨bs2,lo2⟩):=by
    intro e he bs2 lo2 hle ho;refine QD tc vc (hz e) (f:=f) (caps:=caps) (p:=q e) ?_ λys lo=>?_
    . have:=ho bs.length (by omega) (by omega);simp only [ah];rw [this,bm (by omega)]; simp
    . refine hq e he _ lo (by simp; omega) λx hx=>?_;simp only;rw [aq (by omega),ho x (by omega) (by omega)];exact hold x hx
   have hnn:(l.filter λe=>!(!q e))=l.filter q:=by simp
   by_cases hqq:∃ e∈l,(!q e)=true
   . obtain ⟨bs',lo',rest,k1,k2,k3,k4,k5,k6⟩:=wZ (E:=E) (T:=T) (val:=val) hz hz0 hzero tidx vidx tdel vdel (es:=l) (b:=bs.length+2) (cap:=none) (f:=clos) (caps:=[.ptr bs.length 0]) (q:=λe=>!q e) (h:=⟨bs++[.cells [.fn f caps],.cells [],.cells (flat (l.map cells))],bs.length⟩) hbF hlen (λe he bs2 lo2 a b=>hcall e he bs2 lo2 (by simpa using a) (λx h1 h2=>b x h1 (by simp; omega))) hqq;rw [hnn] at k1 k4;refine ⟨.row (bs.length+2) 0 (l.filter q).length none z,bs',min lo0 lo',?_,by simp at k2; omega,λx hx=>by rw [k3 x (by omega) (by simp; omega)]; exact hold x hx,.inr ⟨rfl,bs.length+2,none,rest,by omega,rfl,k4⟩⟩;refine Eq.trans ?_ (hout (lo':=lo') (hun (by omega)))
     congr 1
     simp [af,keepQ,aok,anu,hcl,k1,bK]
   . have hall:∀ e∈l,(!q e)=false:=by
      intro e he;cases hh:(!q e) with
      | false=>rfl
      | true=>exact absurd ⟨e,he,hh⟩ hqq
     have hK:l.filter q=l:=List.filter_eq_self.2 λe he=>by have:=hall e he; simpa using this
     have h1:=jo (E:=E) (T:=T) (val:=val) cells (es:=l) (z:=z) (idx:=idx) (zero:=zero) tidx vidx tdel vdel (v:=.row (bs.length+2) 0 l.length none z) (f:=clos) (caps:=[.ptr bs.length 0]) (q:=λe=>!q e) (h:=⟨bs++[.cells [.fn f caps],.cells [],.cells (flat (l.map cells))],bs.length⟩)
      ⟨by simp; intro a _; exact hz a,.inr ⟨bs.length+2,0,none,_,by simp,hbF,by
       rw [eG,if_pos (by rw [dP hz]; simp),List.drop_zero,b9,← dP hz,List.take_length]; rfl⟩⟩ hlen (λe he lo2=>hcall e he _ lo2 (by simp) λ_ _ _=>rfl) hall
     rw [hK];refine ⟨.row (bs.length+2) 0 l.length none z,bs++[.cells [.fn f caps],.cells [],.cells (flat (l.map cells))],min lo0 bs.length,?_,by simp,hold,.inr ⟨rfl,bs.length+2,none,[],by omega,rfl,by rw [hbF]; simp⟩⟩;refine Eq.trans ?_ (hout (lo':=bs.length) (hun (by omega)))
     congr 1
     simp [af,keepQ,aok,anu,hcl,h1,bK]
end
end Vr
section
def bt6:List (Nat×QF):=[(7,q64),(10,q67),(19,q90),(59,YF),(61,Ng),(81,YG),(69,Nh),(76,Ni),(73,xY),(20,Nk),(21,Nl),(23,Kr),(25,Nn),(26,YH),(27,Np),(28,Nq),(29,YI),(32,YK),(33,Nr),(34,RU),(35,YL),(36,Ns),(37,YM),(38,Nt),(39,YN),(40,Nu),(41,Nv),(42,YO),(43,RX),(44,RY),(53,Ny),(70,NB),(71,NC),(72,ND),(111,AJ),(78,NU),(82,YP),(83,YQ),(84,YR),(85,YS),(86,YT),(87,YU),(88,YV),(89,be4),(95,NW),(96,NY),(125,Ol)]
def TJ:FuncId->Option QF:=kN bt6
def aV (f:FuncId):Bool:=[10,53,95].any λn=>Nat.beq n f
theorem XA:TJ 7=some (q64):=by kernel_rfl
theorem Yc:aV 7=false:=by kernel_rfl
theorem az9:TJ 10=some (q67):=by kernel_rfl
theorem ba1:aV 10=true:=by kernel_rfl
theorem ba0:TJ 19=some (q90):=by kernel_rfl
theorem ba2:aV 19=false:=by kernel_rfl
theorem JJ:TJ 59=some (idxQ 7):=by kernel_rfl
theorem JL:aV 59=false:=by kernel_rfl
theorem JK:TJ 61=some (idxQ 5):=by kernel_rfl
theorem JM:aV 61=false:=by kernel_rfl
theorem WL:TJ 81=some (delQ 7 59 [(.d (.int .u64 0)),(.d (.str ⟨#[]⟩)),(.d (.str ⟨#[]⟩)),(.d (.int .i64 0)),(.d (.int .u32 0)),(.d (.int .i64 0)),(.d (.int .u64 0))]):=by kernel_rfl
theorem XB:aV 81=false:=by kernel_rfl
theorem PH:TJ 69=some (cloneQ 7 72 [(.d (.int .u64 0)),(.d (.str ⟨#[]⟩)),(.d (.str ⟨#[]⟩)),(.d (.int .i64 0)),(.d (.int .u32 0)),(.d (.int .i64 0)),(.d (.int .u64 0))]):=by kernel_rfl
theorem PS:aV 69=false:=by kernel_rfl
theorem WM:TJ 76=some (idxQ 2):=by kernel_rfl
theorem XC:aV 76=false:=by kernel_rfl
theorem WN:TJ 73=some (xY):=by kernel_rfl
theorem XD:aV 73=false:=by kernel_rfl
theorem WO:TJ 20=some (Nk):=by kernel_rfl
theorem XE:aV 20=false:=by kernel_rfl
theorem WP:TJ 21=some (Nl):=by kernel_rfl
theorem XF:aV 21=false:=by kernel_rfl
theorem WQ:TJ 23=some (Kr):=by kernel_rfl
theorem XG:aV 23=false:=by kernel_rfl
theorem WR:TJ 25=some (Nn):=by kernel_rfl
theorem XH:aV 25=false:=by kernel_rfl
theorem PK:TJ 26=some (someQ 78):=by kernel_rfl
theorem PT:aV 26=false:=by kernel_rfl
theorem WS:TJ 27=some (Np):=by kernel_rfl
theorem XI:aV 27=false:=by kernel_rfl
theorem WT:TJ 28=some (Nq):=by kernel_rfl
theorem XJ:aV 28=false:=by kernel_rfl
theorem WU:TJ 29=some (cloneQ 1 4 [(.d (.int .u32 0))]):=by kernel_rfl
theorem XK:aV 29=false:=by kernel_rfl
theorem WX:TJ 32=some (keepQ 69 82 81):=by kernel_rfl
theorem XL:aV 32=false:=by kernel_rfl
theorem WY:TJ 33=some (Nr):=by kernel_rfl
theorem XM:aV 33=false:=by kernel_rfl
theorem WZ:TJ 34=some (RU):=by kernel_rfl
theorem XN:aV 34=false:=by kernel_rfl
theorem W9:TJ 35=some (keepQ 70 84 83):=by kernel_rfl
theorem XO:aV 35=false:=by kernel_rfl
theorem Xd:TJ 36=some (Ns):=by kernel_rfl
theorem XP:aV 36=false:=by kernel_rfl
theorem PM:TJ 37=some (someQ 85):=by kernel_rfl
theorem PU:aV 37=false:=by kernel_rfl
theorem Xe:TJ 38=some (Nt):=by kernel_rfl
theorem XQ:aV 38=false:=by kernel_rfl
theorem Xf:TJ 39=some (keepQ 71 87 86):=by kernel_rfl
theorem XR:aV 39=false:=by kernel_rfl
theorem Xg:TJ 40=some (Nu):=by kernel_rfl
theorem XT:aV 40=false:=by kernel_rfl
theorem Xh:TJ 41=some (Nv):=by kernel_rfl
theorem XU:aV 41=false:=by kernel_rfl
theorem Xi:TJ 42=some (keepQ 72 89 88):=by kernel_rfl
theorem XV:aV 42=false:=by kernel_rfl
theorem Xj:TJ 43=some (RX):=by kernel_rfl
theorem XW:aV 43=false:=by kernel_rfl
theorem Xk:TJ 44=some (RY):=by kernel_rfl
theorem XX:aV 44=false:=by kernel_rfl
theorem Xl:TJ 53=some (Ny):=by kernel_rfl
theorem XY:aV 53=true:=by kernel_rfl
theorem PN:TJ 70=some (cloneQ 5 48 [(.d (.int .u64 0)),(.d (.str ⟨#[]⟩)),(.d (.int .u32 0)),(.d (.int .i64 0)),(.d (.int .u64 0))]):=by kernel_rfl
theorem PV:aV 70=false:=by kernel_rfl
theorem PO:TJ 71=some (cloneQ 2 16 [(.d (.int .u64 0)),(.d (.int .i64 0))]):=by kernel_rfl
theorem PW:aV 71=false:=by kernel_rfl
theorem PP:TJ 72=some (cloneQ 5 64 [(.d (.int .u64 0)),(.d (.str ⟨#[]⟩)),(.d (.int .u64 0)),(.d (.int .i64 0)),(.d (.slice true []))]):=by kernel_rfl
theorem PX:aV 72=false:=by kernel_rfl
theorem Xm:TJ 111=some (AJ):=by kernel_rfl
theorem XZ:aV 111=false:=by kernel_rfl
theorem PQ:TJ 78=some (anyQ 61):=by kernel_rfl
theorem PY:aV 78=false:=by kernel_rfl
theorem Xo:TJ 82=some (notQ 7):=by kernel_rfl
theorem X0:aV 82=false:=by kernel_rfl
theorem Xp:TJ 83=some (delQ 5 61 [(.d (.int .u64 0)),(.d (.str ⟨#[]⟩)),(.d (.int .u32 0)),(.d (.int .i64 0)),(.d (.int .u64 0))]):=by kernel_rfl
theorem X3:aV 83=false:=by kernel_rfl
theorem Xq:TJ 84=some (notQ 5):=by kernel_rfl
theorem X4:aV 84=false:=by kernel_rfl
theorem PR:TJ 85=some (anyQ 59):=by kernel_rfl
theorem PZ:aV 85=false:=by kernel_rfl
theorem Xr:TJ 86=some (delQ 2 76 [(.d (.int .u64 0)),(.d (.int .i64 0))]):=by kernel_rfl
theorem X5:aV 86=false:=by kernel_rfl
theorem Xt:TJ 87=some (notQ 2):=by kernel_rfl
theorem X6:aV 87=false:=by kernel_rfl
theorem Xu:TJ 88=some (delQ 5 125 [(.d (.int .u64 0)),(.d (.str ⟨#[]⟩)),(.d (.int .u64 0)),(.d (.int .i64 0)),(.d (.slice true []))]):=by kernel_rfl
theorem X7:aV 88=false:=by kernel_rfl
theorem Xv:TJ 89=some (notQ 5):=by kernel_rfl
theorem X8:aV 89=false:=by kernel_rfl
theorem Xw:TJ 95=some (NW):=by kernel_rfl
theorem X9:aV 95=true:=by kernel_rfl
theorem Xx:TJ 96=some (NY):=by kernel_rfl
theorem Ya:aV 96=false:=by kernel_rfl
theorem Xy:TJ 125=some (idxQ 5):=by kernel_rfl
theorem Yb:aV 125=false:=by kernel_rfl
theorem Xz:TJ 18=none:=by kernel_rfl
theorem az7:TJ 24=none:=by kernel_rfl
theorem az8:TJ 45=none:=by kernel_rfl
theorem PI:TJ 22=none:=by kernel_rfl
theorem WV:TJ 30=none:=by kernel_rfl
theorem WW:TJ 31=none:=by kernel_rfl
theorem Xn:TJ 112=none:=by kernel_rfl
def Scp.c (x:Scp):List D:=[i64 x.node,x.addrs.d aY]
@[simp] theorem Scp.len {x:Scp}:x.c.length=2:=(rfl)
@[simp] theorem Scp.all {x:Scp}:sub x.c 0 2=some x.c:=(rfl)
@[simp] theorem Scp.s0_1 {x:Scp}:sub x.c 0 1=some [i64 x.node]:=(rfl)
@[simp] theorem Scp.s1_1 {x:Scp}:sub x.c 1 1=some [x.addrs.d aY]:=(rfl)
theorem oO {bs ys:List Blk}:ah (bs++ys) (bs.length+1)=ah ys 1:=by
 unfold ah; rw [bm (by omega)]; simp
theorem DX (x:Pod):(um x).length=7:=rfl
theorem xn (x:Svc):(qx x).length=5:=rfl
theorem QQ (x:Way):(BK x).length=2:=rfl
theorem QP (x:Pol×V):(iJ x).length=5:=rfl
theorem RowG.rowT {α:Type}{f:α->List V}{l:List α}{K:Nat->Prop}{bs:List Blk}{z:Nat}{v:V}(h:RowG K bs z (l.map f) v)(hz:∀ x,(f x).length=z):Vr.RowIs bs v z (l.map f) :=
 h.rowIs λe he=>by obtain ⟨x,_,rfl⟩:=cb.1 he; exact hz x
theorem Vr.RowIs.lay {bs:List Blk}{v:V}{z:Nat}{es:List (List V)}(h:Vr.RowIs bs v z es)(ys:List Blk):Vr.RowIs (bs++ys) v z es:=by
 refine ⟨h.1,?_⟩;obtain h1 | ⟨b,o,cap,cs,h1,h2,h3⟩:=h.2
 . exact .inl h1
 . exact .inr ⟨b,o,cap,cs,h1,av h2,h3⟩
theorem Vr.RowIs.okv {bs:List Blk}{v:V}{z:Nat}{es:List (List V)}(h:Vr.RowIs bs v z es):okV v=true:=by
 obtain ⟨nl,rfl,_⟩ | ⟨b,o,cap,cs,rfl,_⟩:=h.2<;>rfl
structure OfM (n:Nat) (B:List Blk) (c:Cfg) (s:Scp) (v4 v5 v6 v7:V) (bs:List Blk):Prop where
 b0:ah bs n=some (cq c v4 v5 v6 v7)
 b1:ah bs (n+1)=some (s.c.map .d)
 b3:ah bs B.length=some [.fn 20 [.ptr (n+1) 0]]
 b4:ah bs (B.length+1)=some [.fn 21 [.ptr (n+1) 0]]
 b5:ah bs (B.length+2)=some [.fn 23 [.ptr n 0,.ptr B.length 0]]
 b6:ah bs (B.length+3)=some [.fn 25 [.ptr n 0]]
 b7:ah bs (B.length+4)=some [.fn 28 [.ptr (n+1) 0,.ptr (B.length+3) 0,.ptr (B.length+2) 0]]
 keep:∀ x,x≠n->x≠n+2->x<B.length->bs[x]?=B[x]?
section
variable {n:Nat}{B:List Blk}{tag:Nat->Nat}{c:Cfg}{pl:List (Pol×V)}{s:Scp}{v4 v5 v6 v7:V}
theorem OfM.old {bs:List Blk}(h:OfM n B c s v4 v5 v6 v7 bs)(x:Nat)(h1:n+3<=x)(h2:x<B.length):bs[x]?=B[x]?:=h.keep x (by omega) (by omega) h2
theorem OfM.len {bs:List Blk}(h:OfM n B c s v4 v5 v6 v7 bs):B.length+4<bs.length:=aK h.b7
theorem OfM.lay {bs:List Blk}(h:OfM n B c s v4 v5 v6 v7 bs)(ys:List Blk):OfM n B c s v4 v5 v6 v7 (bs++ys) :=
 ⟨av h.b0,av h.b1,av h.b3,av h.b4,av h.b5,av h.b6,av h.b7,λx h0 h1 h2=>by
  have:=h.len;rw [aq (by omega)];exact h.keep x h0 h1 h2⟩
theorem OfM.like {bs bs':List Blk}(h:OfM n B c s v4 v5 v6 v7 bs)(h3:n+3<=B.length)(ho:∀ x,x<B.length+5->bs'[x]?=bs[x]?):OfM n B c s v4 v5 v6 v7 bs':=by
 have g:∀ x cs,x<B.length+5->ah bs x=some cs->ah bs' x=some cs:=λx cs hx hg=>by
  unfold ah at hg ⊢; rw [ho x hx]; exact hg
 exact ⟨g _ _ (by omega) h.b0,g _ _ (by omega) h.b1,g _ _ (by omega) h.b3,g _ _ (by omega) h.b4,g _ _ (by omega) h.b5,g _ _ (by omega) h.b6,g _ _ (by omega) h.b7,λx h0 h1 h2=>(ho x (by omega)).trans (h.keep x h0 h1 h2)⟩
structure OfC (E:Calls'):Prop where
 h45:∀ c:Cfg,c.ok->∀ n a h,frz h a=some (ag c.c)->E 24 [a,.d (u64 n)] h=some (.tup (match nV c n with | some w=>[w.v,bl true] | none=>[way0.v,bl false]),h)
 h52:∀ (p:Pol) (x:Pod) a h,frz h a=some (ag p.c)->E 45 [a,x.v] h=some (bl (jv p x.ns x.service),h)
 h117:∀ s:Sl Int,short s->∀ n h,E 22 [.d (s.d aY),.d (u32 n)] h=some (bl (dz s.l n),h)
theorem WG {L0:Nat}{bs:List Blk}{d:Cfg}(S:OwnS L0 tag bs d pl v4 v5 v6 v7){x:Pol×V}(hx:x∈pl)(bs2:List Blk)(lo2:Nat)(h:∀ x,L0<=x->x<bs.length->bs2[x]?=bs[x]?):frz ⟨bs2,lo2⟩ (.agg (iJ x))=some (ag (ky x).c):=by
 have hr:=((S.r8 x hx).all (by decide)).hngD (f:=λr:Rule=>r.own.c) (λ_=>rfl);have he:(ky x).c=[u64 x.1.id,.str x.1.ns,u64 x.1.service,i64 x.1.deny,.slice (nZ x.2) (x.1.rules.l.map λr=>r.own.c)]:=by
  simp [ky,Pol.c,Sl.d,ck]
 have hh:Hngs false (TgA L0 bs.length tag) bs 1 (iJ x) (ky x).c:=by
  rw [he]; exact ⟨Hng.data,Hng.data,Hng.data,Hng.data,hr,trivial⟩
 have hm:=(Hngs.mapM (lo:=lo2) (bs':=bs2) (λy hy=>h y hy.1 hy.2.1) (show 1<=8 by decide) hh).1;rw [rZ];have:fA ⟨bs2,lo2⟩ (iJ x)=some (ky x).c:=hm;rw [this]
variable {E:Calls'}(H:OfC E)
theorem V3 {h:Hp}(hE:OfM n B c s v4 v5 v6 v7 h.bs)(w:Way):Sm E TJ aV 20 [ag w.c,.ptr (n+1) 0] h=some (bl (w.node==s.node),h):=by
 rw [aJ WO XE];simp [af,Nk,av hE.b1,V.under,Way.c]
include H in
theorem QG {h:Hp}(hE:OfM n B c s v4 v5 v6 v7 h.bs)(hs:short s.addrs)(a:Int):Sm E TJ aV 21 [.d (u32 a),.ptr (n+1) 0] h=some (bl (dz s.addrs.l a),h):=by
 have m:∀ h,Sm E TJ aV 22 [.d (s.addrs.d aY),.d (u32 a)] h=some (bl (dz s.addrs.l a),h):=λh=>by rw [bB PI]; exact H.h117 _ hs a h
 rw [aJ WP XF];simp [af,Nl,hE.b1,m,V.under]
variable (S:OwnS (n+3) tag B c pl v4 v5 v6 v7)(hc:c.ok)
include H S hc
theorem W45 {h:Hp}(hE:OfM n B c s v4 v5 v6 v7 h.bs)(m:Int):Sm E TJ aV 24 [.agg (cq c v4 v5 v6 v7),.d (u64 m)] h=some (.tup (match nV c m with | some w=>[w.v,bl true] | none=>[way0.v,bl false]),h):=by
 rw [bB az7];exact H.h45 (vS c pl v4 v5 v6 v7) (S.ok hc) m _ h (S.frz h.bs h.low λx h1 h2 _=>hE.old x h1 h2)
theorem QH {h:Hp}(hE:OfM n B c s v4 v5 v6 v7 h.bs)(x:Svc):Sm E TJ aV 23 [ag x.c,.ptr n 0,.ptr B.length 0] h=some (bl (fT c s.node x),h):=by
 have mm:=λys lo=>W45 H S hc (h:=⟨h.bs++ys,lo⟩) (hE.lay ys) x.id;have k:=λw ys lo=>V3 (E:=E) (h:=⟨h.bs++ys,lo⟩) (hE.lay ys) w;rw [aJ WQ XG];unfold fT;have hw:∀ w:Way,w.c.map V.d++List.drop 2 [V.d (D.int .u64 0),.d (.int .i64 0)]=w.c.map V.d:=λ_=>rfl;cases hx:nV c x.id with
 | none =>
  simp only [hx] at mm;simp +decide [af,Kr,av hE.b0,cs8,mm,ai,aa,az,aB,V.under]
 | some w =>
  simp only [hx] at mm;simp +decide [af,Kr,av hE.b0,av hE.b3,cs8,mm,hw,k,ai,aa,az,aB,V.under]
omit H S hc in
theorem aw9 {h:Hp}{x:Svc}{p:Pod}{P Q:Nat}{f:FuncId}{caps:List V}{so:Svc->Bool}(hP:ah h.bs P=some (p.c.map .d))(hQ:ah h.bs Q=some [.fn f caps])
 (hso:∀ ys lo,Sm E TJ aV f (ag x.c::caps) ⟨h.bs++ys,lo⟩=some (bl (so x),⟨h.bs++ys,lo⟩)):Sm E TJ aV 27 [ag x.c,.ptr P 0,.ptr Q 0] h=some (bl (x.id==p.service&&so x),h):=by
 rw [aJ WS XI];cases e:(x.id==p.service)<;>simp +decide [af,Np,av hP,av hQ,hso,e,ai,aa,az,aB,V.under]
omit H in
theorem V4 {h:Hp}(hE:OfM n B c s v4 v5 v6 v7 h.bs){p:Pod}{f:FuncId}{caps:List V}{so:Svc->Bool}
 (hso:∀ x∈c.services.l,∀ ys lo,Sm E TJ aV f (ag x.c::caps) ⟨h.bs++ys,lo⟩=some (bl (so x),⟨h.bs++ys,lo⟩)):Sm E TJ aV 25 [ag p.c,.fn f caps,.ptr n 0] h=some (bl (nX c p so),h):=by
 rw [aJ WR XH];have hr5:RowG (Tg (n+3) B.length tag 5) h.bs 5 (c.services.l.map qx) v5:=S.r5.on λx hx=>⟨hx,hE.old x hx.1 hx.2.1⟩;have hrow:=hr5.rowT xn;have hany:∀ lo,Sm E TJ aV 26 [v5,.fn 27 [.ptr h.bs.length 0,.ptr (h.bs.length+1) 0]] ⟨h.bs++[.cells (p.c.map .d),.cells [.fn f caps]],lo⟩=some (bl (nX c p so),⟨h.bs++[.cells (p.c.map .d),.cells [.fn f caps]],lo⟩):=λlo =>
  oq (E:=E) (T:=TJ) (val:=aV) PK PT hr5.okv.2.1 hr5.okv.1 (Vr.S_any (E:=E) qx (z:=5) JK JM PQ PY (hrow.lay _) hc.2.1.lt λe he lo2=>aw9 (p:=p) (f:=f) (caps:=caps) (so:=so) (by simp) (by simp [oO]) (λys lo3=>by
   have:=hso e he ([.cells (p.c.map .d),.cells [.fn f caps]]++ys) lo3;simpa using this))
 simp +decide [af,Nn,av hE.b0,cs5,hr5.okv,hany,V.under]
end
end
section
section
variable {n:Nat}{B:List Blk}{tag:Nat->Nat}{c:Cfg}{pl:List (Pol×V)}{s:Scp}{v4 v5 v6 v7:V}
variable {E:Calls'}(H:OfC E)(S:OwnS (n+3) tag B c pl v4 v5 v6 v7)(hc:c.ok)
include H S hc
theorem V5 {h:Hp}(hE:OfM n B c s v4 v5 v6 v7 h.bs)(p:Pod):Sm E TJ aV 28 [ag p.c,.ptr (n+1) 0,.ptr (B.length+3) 0,.ptr (B.length+2) 0] h=some (bl (og c s.node p),h):=by
 have m:∀ ys lo,Sm E TJ aV 25 [ag p.c,.fn 23 [.ptr n 0,.ptr B.length 0],.ptr n 0] ⟨h.bs++ys,lo⟩=some (bl (nX c p (fT c s.node)),⟨h.bs++ys,lo⟩):=λys lo =>
  V4 S hc (h:=⟨h.bs++ys,lo⟩) (hE.lay ys) λx _ zs lo2=>QH H S hc (h:=⟨h.bs++ys++zs,lo2⟩) ((hE.lay ys).lay zs) x
 rw [aJ WT XJ];unfold og;cases e:(p.host==s.node)<;>simp +decide [af,Nq,av hE.b1,av hE.b5,av hE.b6,e,m,ai,aa,az,aB,V.under]
omit S hc in
theorem ax1 {h:Hp}(hE:OfM n B c s v4 v5 v6 v7 h.bs)(hs:short s.addrs)(x:Svc):Sm E TJ aV 34 [ag x.c,.ptr (B.length+1) 0] h=some (bl (dz s.addrs.l x.addr),h):=by
 have m:=λys lo=>QG (E:=E) H (h:=⟨h.bs++ys,lo⟩) (hE.lay ys) hs x.addr;rw [aJ WZ XN];simp [af,RU,av hE.b4,m,V.under]
theorem ax0 {h:Hp}(hE:OfM n B c s v4 v5 v6 v7 h.bs)(hs:short s.addrs)(p:Pod):Sm E TJ aV 33 [ag p.c,.ptr (B.length+4) 0,.ptr (B.length+1) 0,.ptr (B.length+3) 0] h=some (bl (qC c s p),h):=by
 have m1:=λys lo=>V5 H S hc (h:=⟨h.bs++ys,lo⟩) (hE.lay ys) p;have m2:=λys lo=>QG (E:=E) H (h:=⟨h.bs++ys,lo⟩) (hE.lay ys) hs p.addr;have m3:∀ ys lo,Sm E TJ aV 25 [ag p.c,.fn 34 [.ptr (B.length+1) 0],.ptr n 0] ⟨h.bs++ys,lo⟩=some (bl (nX c p λx=>dz s.addrs.l x.addr),⟨h.bs++ys,lo⟩):=λys lo =>
  V4 S hc (h:=⟨h.bs++ys,lo⟩) (hE.lay ys) λx _ zs lo2=>ax1 H (h:=⟨h.bs++ys++zs,lo2⟩) ((hE.lay ys).lay zs) hs x
 rw [aJ WY XM];unfold qC;cases e1:og c s.node p<;>cases e2:dz s.addrs.l p.addr<;>simp +decide [af,Nr,av hE.b4,av hE.b6,av hE.b7,e1,e2,m1,m2,m3,ai,aa,az,aB,V.under]
omit H S hc in
theorem ax3 {h:Hp}{x:Svc}{P:Nat}(hP:ah h.bs P=some (x.c.map .d))(p:Pod):Sm E TJ aV 38 [ag p.c,.ptr P 0] h=some (bl (p.service==x.id),h):=by
 rw [aJ Xe XQ];simp +decide [af,Nt,av hP,V.under]
def aC (e:Int)(v1 v2 v3 v4 v5:V):List V:=[.d (u64 e),v1,v2,v3,v4,v5]
theorem ax2 {h:Hp}(hE:OfM n B c s v4 v5 v6 v7 h.bs)(hs:short s.addrs){e:Int}{w1 w2 w3 w4 w5:V}{D:Nat}(hD:ah h.bs D=some (aC e w1 w2 w3 w4 w5)){l:List Pod}(hl:l.length<2 ^ 62)(hr:Vr.RowIs h.bs w2 7 (l.map um))(x:Svc) :
 Sm E TJ aV 36 [ag x.c,.ptr (B.length+1) 0,.ptr (B.length+2) 0,.ptr D 0] h=some (bl (dz s.addrs.l x.addr||(fT c s.node x||l.any λp=>p.service==x.id)),h):=by
 have m1:=λys lo=>QG (E:=E) H (h:=⟨h.bs++ys,lo⟩) (hE.lay ys) hs x.addr;have m2:=λys lo=>QH H S hc (h:=⟨h.bs++ys,lo⟩) (hE.lay ys) x;have m3:∀ lo,Sm E TJ aV 37 [w2,.fn 38 [.ptr h.bs.length 0]] ⟨h.bs++[.cells (x.c.map .d)],lo⟩=some (bl (l.any λp=>p.service==x.id),⟨h.bs++[.cells (x.c.map .d)],lo⟩):=λlo =>
  oq (E:=E) (T:=TJ) (val:=aV) PM PU hr.ok hr.okv (Vr.S_any (E:=E) um (z:=7) JJ JL PR PZ (hr.lay _) hl λe he lo2=>ax3 (by simp) e)
 rw [aJ Xd XP];have hd:sub (aC e w1 w2 w3 w4 w5) 2 1=some [w2]:=rfl;have hn:=hr.ok;have ho:=hr.okv;cases e1:dz s.addrs.l x.addr<;>cases e2:fT c s.node x<;>simp +decide [af,Ns,av hE.b4,av hE.b5,av hD,hd,e1,e2,m1,m2,m3,ai,aa,az,aB,V.under,hn,ho]
omit H S hc in
theorem ax5 {h:Hp}{w:Way}{P:Nat}(hP:ah h.bs P=some (w.c.map .d))(x:Svc):Sm E TJ aV 41 [ag x.c,.ptr P 0] h=some (bl (x.way==w.id),h):=by
 rw [aJ Xh XU];simp +decide [af,Nv,av hP,V.under]
omit H S hc in
theorem ax4 {h:Hp}(hE:OfM n B c s v4 v5 v6 v7 h.bs){e:Int}{w1 w2 w3 w4 w5:V}{D:Nat}(hD:ah h.bs D=some (aC e w1 w2 w3 w4 w5)){l:List Svc}(hl:l.length<2 ^ 62)(hr:Vr.RowIs h.bs w3 5 (l.map qx))(w:Way) :
 Sm E TJ aV 40 [ag w.c,.ptr B.length 0,.ptr D 0] h=some (bl (w.node==s.node||l.any λx=>x.way==w.id),h):=by
 have m1:=λys lo=>V3 (E:=E) (h:=⟨h.bs++ys,lo⟩) (hE.lay ys) w;have m3:∀ lo,Sm E TJ aV 26 [w3,.fn 41 [.ptr h.bs.length 0]] ⟨h.bs++[.cells (w.c.map .d)],lo⟩=some (bl (l.any λx=>x.way==w.id),⟨h.bs++[.cells (w.c.map .d)],lo⟩):=λlo =>
  oq (E:=E) (T:=TJ) (val:=aV) PK PT hr.ok hr.okv (Vr.S_any (E:=E) qx (z:=5) JK JM PQ PY (hr.lay _) hl λe he lo2=>ax5 (by simp) e)
 rw [aJ Xg XT];have hd:sub (aC e w1 w2 w3 w4 w5) 3 1=some [w3]:=rfl;have hn:=hr.ok;have ho:=hr.okv;cases e1:(w.node==s.node)<;>simp +decide [af,Nu,av hE.b3,av hD,hd,e1,m1,m3,ai,aa,az,aB,V.under,hn,ho]
theorem ax7 {h:Hp}(hE:OfM n B c s v4 v5 v6 v7 h.bs){p:Pol×V}(hp:p∈pl){P:Nat}(hP:ah h.bs P=some (iJ p))(x:Pod):Sm E TJ aV 44 [ag x.c,.ptr (B.length+4) 0,.ptr P 0] h=some (bl (og c s.node x&&jv p.1 x.ns x.service),h):=by
 have m1:=λys lo=>V5 H S hc (h:=⟨h.bs++ys,lo⟩) (hE.lay ys) x;have m2:∀ ys lo,Sm E TJ aV 45 [.agg (iJ p),ag x.c] ⟨h.bs++ys,lo⟩=some (bl (jv p.1 x.ns x.service),⟨h.bs++ys,lo⟩):=λys lo=>by
  rw [bB az8];exact H.h52 (ky p) x _ ⟨h.bs++ys,lo⟩ (WG S hp _ _ λy h1 h2=>(hE.lay ys).old y h1 h2)
 have hsp:sub (iJ p) 0 5=some (iJ p):=rfl;rw [aJ Xk XX];cases e1:og c s.node x<;>simp +decide [af,RY,av hE.b7,av hP,hsp,e1,m1,m2,ai,aa,az,aB,V.under]
theorem ax6 {h:Hp}(hE:OfM n B c s v4 v5 v6 v7 h.bs){p:Pol×V}(hp:p∈pl):Sm E TJ aV 43 [.agg (iJ p),.ptr n 0,.ptr (B.length+4) 0] h=some (bl (fu c s.node p.1),h):=by
 have hr4:RowG (Tg (n+3) B.length tag 4) h.bs 7 (c.pods.l.map um) v4:=S.r4.on λx hx=>⟨hx,hE.old x hx.1 hx.2.1⟩;have hrow:=hr4.rowT DX;have m3:∀ lo,Sm E TJ aV 37 [v4,.fn 44 [.ptr (B.length+4) 0,.ptr h.bs.length 0]] ⟨h.bs++[.cells (iJ p)],lo⟩=some (bl (fu c s.node p.1),⟨h.bs++[.cells (iJ p)],lo⟩):=λlo =>
  oq (E:=E) (T:=TJ) (val:=aV) PM PU hr4.okv.2.1 hr4.okv.1 (Vr.S_any (E:=E) um (z:=7) JJ JL PR PZ (hrow.lay _) hc.1.lt λe he lo2=>by
   have k:=ax7 H S hc (s:=s) (p:=p) (P:=h.bs.length) (h:=⟨h.bs++[.cells (iJ p)],lo2⟩) (hE.lay [.cells (iJ p)]) hp (by simp) e;exact k)
 rw [aJ Xj XW];simp +decide [af,RX,av hE.b0,cs4,hr4.okv,m3,V.under]
end
end
section
abbrev Scp.v (x:Scp):V:=ag x.c
section
variable {E:Calls'}
theorem ay1 (a:Int)(h:Hp):Sm E TJ aV 96 [.d (u32 a)] h=some (.d (u32 a),h):=by
 rw [aJ Xx Ya];simp [af,NY,V.under]
theorem JI {s:Sl Int}{i:Nat}(hi:i<s.l.length){kd:IntKind}{h:Hp}:eP none 1 (.d (s.d aY)) (.d (.int kd i)) h=some (.eptr (aY s.l[i]) 0,h) :=
 wz (cells:=aY) (λ_=>rfl) hi
theorem VB {s:Sl Int}(hs:s.l.length<2 ^ 62)(most:Int):∀ (m i:Nat),i+m=s.l.length->1<=i →
 Cd E TJ aV (.loop [0,1,2,9,10] je) [(0,.d (s.d aY)),(1,.d (i64 most)),(2,.fn 96 []),(9,.d (i64 s.l.length)),(10,.d (i64 i))] ⟨[],0⟩ =
  if bQ (s.l.drop (i-1)) then some (.exit 0,[(0,.d (s.d aY)),(1,.d (i64 most))],⟨[],0⟩) else some (.ret,[(6,bl false)],⟨[],0⟩):=by
 intro m;have key:=ay (E:=E) (T:=TJ) (val:=aV) [0,1,2,9,10] je;generalize Cd E TJ aV (.loop [0,1,2,9,10] je)=W at key ⊢
 induction m with
 | zero =>
  intro i hi h1;rw [key,yu (by omega)];simp [je,show ¬ ((i:Int)<s.l.length) from by omega]
 | succ m ih =>
  intro i hi h1;have hlt:i<s.l.length:=by omega
  have hd:=vQ (l:=s.l) (i:=i-1) (by omega);have hs1:i-1+1=i:=by omega
  simp only [hs1] at hd;have hp1:=λh=>JI hlt (kd:=.i64) (h:=h);have hp0:=λh=>JI (show i-1<s.l.length by omega) (kd:=.i64) (h:=h);have c1:=ay1 (E:=E);have hw:=ax hlt hs;have hwm:wrap .i64 ((i:Int)-1)=((i-1:Nat):Int):=by rw [wrap64]<;>omega
  have hpos:0<i:=h1;have hih:=ih (i+1) (by omega) (by omega);simp only [show i+1-1=i by omega] at hih;rw [key,hd];generalize s.l[i]=y at *;generalize s.l[i-1]=x at *;by_cases hg:x<y
  . simp +decide [je,hp1,hp0,aY,hwm,hw,hpos,c1,hlt,hg,ai,aa,az,show ¬ (x>=y) from by omega];simpa using hih
  . simp +decide [je,hp1,hp0,aY,hwm,hw,hpos,c1,hlt,hg,ai,aa,az,show x>=y from by omega]
theorem ay0 {s:Sl Int}(hs:s.l.length<2 ^ 62)(most:Int)(h:Hp):Sm E TJ aV 95 [.d (s.d aY),.d (i64 most),.fn 96 []] h=some (bl (bQ s.l&&decide ((s.l.length:Int)<=most)),h):=by
 rw [aU Xw X9];have hfr:frz h (.fn 96 [])=some (.fn 96 []):=rfl;have key:=ay (E:=E) (T:=TJ) (val:=aV) [0,1,2,9,10] je;have hl:=VB (E:=E) hs most;simp [af,NW,hfr];rw [aj];simp only [xJ,zA];simp;generalize Cd E TJ aV (.loop [0,1,2,9,10] je)=W at key hl ⊢;by_cases h0:s.l=[]
 . rw [key];simp [je,h0,bQ,gY]
 . have hpos:0<s.l.length:=List.length_pos_iff.2 h0;have h1:=hl (s.l.length-1) 1 (by omega) (by omega);simp at h1;rw [key];have hw:=ax hpos hs;simp at hw;simp +decide [je,ai,az,hpos,hw,h1];cases bQ s.l<;>simp [gY]
variable (h117:∀ s:Sl Int,short s->∀ n h,E 22 [.d (s.d aY),.d (u32 n)] h=some (bl (dz s.l n),h))
include h117
theorem ax8 {s:Sl Int}(hs:short s)(most:Int)(h:Hp):Sm E TJ aV 53 [.d (s.d aY),.d (i64 most)] h=some (bl (mQ s.l most),h):=by
 have m:∀ h,Sm E TJ aV 22 [.d (s.d aY),.d (u32 0)] h=some (bl (dz s.l 0),h):=λh=>by rw [bB PI]; exact h117 _ hs 0 h
 rw [aU Xl XY];cases e:(bQ s.l&&decide ((s.l.length:Int)<=most))<;>simp +decide [af,Ny,ay0 hs.lt most,m,e,mQ,ai,aa,az,aB]
theorem W67 {s:Scp}(hs:short s.addrs)(h:Hp):Sm E TJ aV 10 [s.v] h=some (bl (dw s),h):=by
 rw [aU az9 ba1];have hv:=λh=>ax8 (E:=E) h117 hs 32 h;unfold dw;by_cases e1:s.node>=2<;>by_cases e2:s.node<=9<;>simp +decide [af,q67,hv,e1,e2,ai,aa,az,aB,V.under]
end
end
section
open Go.Sort (swp)
def zsV (kd:IntKind)(d:Array Int):List V:=d.toList.map (iv kd)
theorem Po {kd:IntKind}{d:Array Int}:(zsV kd d).length=d.size:=by simp [zsV]
theorem Un {kd:IntKind}{d:Array Int}{i:Nat}(h:i<d.size):(zsV kd d)[i]?=some (iv kd d[i]!):=by
 simp [zsV,h,getElem!_pos]
theorem Pp {kd:IntKind}{d:Array Int}{i:Nat}{x:Int}:(zsV kd d).set i (iv kd x)=zsV kd (d.setIfInBounds i x):=by
 simp [zsV]
abbrev Mz (kd:IntKind) (bs:List Blk) (b:Nat) (d:Array Int) (lo:Nat):Hp:=Mr bs b (zsV kd d) lo
section
variable {kd:IntKind}{bs:List Blk}{b lo:Nat}{d:Array Int}
theorem bH (hb:b<bs.length){i:Nat}(hi:i<d.size):ldv (Mz kd bs b d lo) (.ptr b i) 1 true=some (.d (.int kd d[i]!),Mz kd bs b d lo):=rO hb (Un hi)
theorem Pv (hb:b<bs.length){i:Nat}{x:Int}(hi:i<d.size):stv (Mz kd bs b d lo) (.ptr b i) (.d (.int kd x)) 1=some (.undef,Mz kd bs b (d.setIfInBounds i x) (min lo b)):=by
 have:=IK (lo:=lo) hb (k:=i) (x:=.int kd x) (cur:=zsV kd d) (by rw [Po]; exact hi);rw [this];have h2:=Pp (kd:=kd) (d:=d) (i:=i) (x:=x);rw [iv] at h2;rw [h2]
end
def Kz (b lo:Nat)(d:Array Int)(lo':Nat)(d':Array Int):Prop:=(lo'<=b)\/(d'=d/\lo'=lo)
theorem Kz.refl {b lo:Nat}{d:Array Int}:Kz b lo d lo d:=.inr ⟨rfl,rfl⟩
theorem Kz.trans {b lo lo' lo'':Nat}{d d' d'':Array Int}(h:Kz b lo d lo' d')(k:Kz b lo' d' lo'' d''):Kz b lo d lo'' d'':=by
 obtain k | ⟨rfl,rfl⟩:=k
 . exact .inl k
 . exact h
theorem cu {d:Array Int}{i j:Nat}:(swp d i j).size=d.size:=by simp [swp]
theorem fE {kd:IntKind}{bs:List Blk}{b lo:Nat}{d:Array Int}(hb:b<bs.length){i j:Nat}(hi:i<d.size)(hj:j<d.size) :
 stv (Mz kd bs b d lo) (.ptr b i) (.d (.int kd d[j]!)) 1=some (.undef,Mz kd bs b (d.setIfInBounds i d[j]!) (min lo b)) ∧
 ∀ lo,stv (Mz kd bs b (d.setIfInBounds i d[j]!) lo) (.ptr b j) (.d (.int kd d[i]!)) 1=some (.undef,Mz kd bs b (swp d i j) (min lo b)) :=
 ⟨Pv hb hi,λlo=>Pv hb (by simpa using hj)⟩
theorem lg {kd:IntKind}{bs:List Blk}{b lo lo':Nat}{d d':Array Int}{r:V}(hb:b<bs.length)(hr:r.under bs.length=true)(hk:Kz b bs.length d lo' d') :
 ∃ lo2,eU (Mz kd bs b d lo) (some (r,Mz kd bs b d' lo'))=some (r,Mz kd bs b d' lo2)/\Kz b lo d lo2 d':=by
 have hl:(Mz kd bs b d lo).bs.length=bs.length:=by simp [Mz,Mr]
 rw [ed];obtain hk | ⟨rfl,rfl⟩:=hk
 . rw [if_neg (λhh=>by have:=hh.1; rw [hl] at this; simp only [Mz,Mr] at this; omega)];exact ⟨min lo lo',rfl,.inl (by omega)⟩
 . rw [if_pos ⟨by rw [hl]; exact br _,by rw [hl]; exact hr⟩];exact ⟨lo,rfl,.refl⟩
end
section
open Go.Sort (swp ltInt insInner insOuter insertionSort)
def bt9:List (Nat×QF):=[(79,Hu),(114,Kw),(115,SL),(116,SN),(117,CV),(118,SQ),(119,SV),(121,SX),(122,Oi),(180,Tf),(183,Tk),(184,Tm),(220,OB),(181,Ti),(182,Tj)]
def TS:FuncId->Option QF:=kN bt9
def aW (f:FuncId):Bool:=[181].any λn=>Nat.beq n f
theorem ZG:TS 114=some Kw:=by kernel_rfl
theorem ab2:aW 114=false:=by kernel_rfl
theorem bg5:TS 120=none:=by kernel_rfl
section
variable {E:Calls'}(h334:∀ x y h,E 120 [.d (u32 x),.d (u32 y)] h=some (bl (ltInt x y),h))
include h334
theorem ui (x y:Int)(h:Hp):Sm E TS aW 120 [.d (u32 x),.d (u32 y)] h=some (bl (ltInt x y),h):=by rw [bB bg5]; exact h334 x y h
theorem MC {bs:List Blk}{b:Nat}(hb:b<bs.length){n a:Nat}(hn:n<2 ^ 62)(ha:a<=n){cap:Option Nat}(t2 t6:V):∀ (m:Nat) (d:Array Int) (lo:Nat),m<n->d.size=n →
 ∃ lo',Cd E TS aW (.loop [0,1,2,6,7] lv) [(0,.row b 0 n cap 1),(1,.d (i64 a)),(2,t2),(6,t6),(7,.d (i64 m))] (Mz .u32 bs b d lo) =
  some (.exit 2,[(0,.row b 0 n cap 1),(1,.d (i64 a)),(2,t2),(6,t6)],Mz .u32 bs b (insInner ltInt a m d) lo')/\Kz b lo d lo' (insInner ltInt a m d)/\(insInner ltInt a m d).size=n:=by
 intro m;have key:=ay (E:=E) (T:=TS) (val:=aW) [0,1,2,6,7] lv;generalize Cd E TS aW (.loop [0,1,2,6,7] lv)=W at key ⊢
 induction m with
 | zero =>
  intro d lo hm hd;refine ⟨lo,?_,.refl,hd⟩;rw [key];simp +decide [lv,ai,az,ae,Tr.mute,insInner,show ¬ ((a:Int)<0) from by omega]
 | succ m ih =>
  intro d lo hm hd;have hw1:wrap .i64 (((m+1:Nat):Int)-1)=(m:Int):=by rw [wrap64]<;>omega
  have ix1:=λh=>fQ (b:=b) (o:=0) (z:=1) (cap:=cap) (kd:=.i64) (h:=h) (show m+1<n by omega);have ix0:=λh=>fQ (b:=b) (o:=0) (z:=1) (cap:=cap) (kd:=.i64) (h:=h) (show m<n by omega);simp only [Nat.zero_add,Nat.mul_one] at ix1 ix0;have l1:=bH (kd:=.u32) (lo:=lo) hb (d:=d) (i:=m+1) (by omega);have l0:=bH (kd:=.u32) (lo:=lo) hb (d:=d) (i:=m) (by omega);obtain ⟨st1,st2⟩:=fE (kd:=.u32) (lo:=lo) hb (d:=d) (i:=m+1) (j:=m) (by omega) (by omega);have q:=ih (swp d (m+1) m) (min (min lo b) b) (by omega) (by rw [cu]; exact hd);have c:=λh=>ui h334 d[m+1]! d[m]! h;simp only [insInner];generalize hx:d[m+1]! = x at *;generalize hy:d[m]! = y at *;generalize d.setIfInBounds (m+1) y=d1 at *;generalize swp d (m+1) m=d2 at *;generalize hk:m+1=k at *;have hkm:(k:Int)-1=(m:Int):=by omega
  rw [key];generalize hM:Mz .u32 bs b d lo=M0 at *;generalize hM1:Mz .u32 bs b d1=M1 at *;by_cases c1:k>a
  . by_cases c2:ltInt x y=true
    . obtain ⟨lo',q1,q2,q3⟩:=q;refine ⟨lo',?_,?_,?_⟩
      . simp +decide [lv,ai,aa,az,ae,Tr.mute,ix1,ix0,l1,l0,c,c1,c2,hw1,st1,st2,-aG,-aN];simpa using q1
      . have:Kz b lo d (min (min lo b) b) d2:=.inl (by omega);simpa [c1,c2] using this.trans q2
      . simpa [c1,c2] using q3
    . refine ⟨lo,?_,?_,?_⟩
      . simp +decide [lv,ai,aa,az,ae,Tr.mute,ix1,ix0,l1,l0,c,c1,c2,hw1,hM,-aG,-aN]
      . simpa [c1,c2] using Kz.refl
      . simpa [c1,c2] using hd
  . refine ⟨lo,?_,?_,?_⟩
    . simp +decide [lv,ai,aa,az,ae,Tr.mute,c1,hM,-aG,-aN]
    . simpa [c1] using Kz.refl
    . simpa [c1] using hd
theorem JG {bs:List Blk}{b:Nat}(hb:b<bs.length){n a e:Nat}(hn:n<2 ^ 62)(ha:a<=n)(he:e<=n){cap:Option Nat}:∀ (m i:Nat) (d:Array Int) (lo:Nat),i+m=e\/(m=0/\e<=i)->i<2 ^ 62->d.size=n →
 ∃ lo',Cd E TS aW (.loop [0,1,2,6] nJ) [(0,.row b 0 n cap 1),(1,.d (i64 a)),(2,.d (i64 e)),(6,.d (i64 i))] (Mz .u32 bs b d lo) =
  some (.exit 0,[],Mz .u32 bs b (insOuter ltInt a e i d) lo')/\Kz b lo d lo' (insOuter ltInt a e i d)/\(insOuter ltInt a e i d).size=n:=by
 intro m;have key:=ay (E:=E) (T:=TS) (val:=aW) [0,1,2,6] nJ;have hin:=MC h334 hb hn ha (cap:=cap) (.d (i64 e));generalize Cd E TS aW (.loop [0,1,2,6] nJ)=W at key ⊢
 induction m with
 | zero =>
  intro i d lo hi hi2 hd;have hu:insOuter ltInt a e i d=d:=by rw [insOuter,if_neg (by omega)]
  rw [hu];refine ⟨lo,?_,.refl,hd⟩;rw [key];simp [nJ,show ¬ ((i:Int)<(e:Int)) from by omega]
 | succ m ih =>
  intro i d lo hi hi2 hd;have hlt:i<e:=by omega
  have hu:insOuter ltInt a e i d=insOuter ltInt a e (i+1) (insInner ltInt a i d):=by rw [insOuter,if_pos hlt]
  rw [hu];obtain ⟨lo1,a1,a2,a3⟩:=hin (.d (i64 i)) i d lo (by omega) hd;obtain ⟨lo',q1,q2,q3⟩:=ih (i+1) (insInner ltInt a i d) lo1 (by omega) (by omega) a3;have hw:wrap .i64 ((i:Int)+1)=((i+1:Nat):Int):=by rw [wrap64]<;>omega
  refine ⟨lo',?_,a2.trans q2,q3⟩;generalize insOuter ltInt a e (i+1) (insInner ltInt a i d)=D at *;generalize insInner ltInt a i d=d1 at *;generalize Mz .u32 bs b d lo=M0 at *;generalize Mz .u32 bs b d1 lo1=M1 at *;rw [key];simp [nJ,show ((i:Int)<(e:Int)) from by omega];rw [aj];try simp at a1
  simp [a1,hw];simpa using q1
theorem ar3 {bs:List Blk}{b:Nat}(hb:b<bs.length){n a e:Nat}(hn:n<2 ^ 61)(ha:a<=n)(he:e<=n){cap:Option Nat}(d:Array Int)(lo:Nat)(hd:d.size=n) :
 ∃ lo',Sm E TS aW 114 [.row b 0 n cap 1,.d (i64 a),.d (i64 e)] (Mz .u32 bs b d lo)=some (.tup [],Mz .u32 bs b (insertionSort ltInt d a e) lo')/\Kz b lo d lo' (insertionSort ltInt d a e)/\(insertionSort ltInt d a e).size=n:=by
 have hw:wrap .i64 ((a:Int)+1)=((a+1:Nat):Int):=by rw [wrap64]<;>omega
 obtain ⟨lo1,q1,q2,q3⟩:=JG h334 hb (by omega) ha he (cap:=cap) (e-(a+1)) (a+1) d (Mz .u32 bs b d lo).bs.length (by omega) (by omega) hd;have hl:(Mz .u32 bs b d lo).bs.length=bs.length:=by simp [Mz,Mr]
 rw [hl] at q1 q2;obtain ⟨lo2,r1,r2⟩:=lg (kd:=.u32) (lo:=lo) (r:=.tup []) hb rfl q2;refine ⟨lo2,?_,r2,q3⟩;have hM:(⟨(Mz .u32 bs b d lo).bs,bs.length⟩:Hp)=Mz .u32 bs b d bs.length:=rfl;rw [aJ ZG ab2,hl,hM];refine Eq.trans ?_ r1
 congr 1
 generalize Mz .u32 bs b (insOuter ltInt a e (a+1) d) lo1=M1 at *;generalize Mz .u32 bs b d bs.length=M0 at *;simp [af,Kw,hw];rw [aj];simp at q1;simp [q1];rfl
end
end
section
open Go.Sort (swp ltInt siftDown heapBuild heapPop heapSort)
@[simp] theorem ac1 {k:IntKind}{a b:Int}:bC .mul (.d (.int k a)) (.d (.int k b))=some (.int k (k.wrap (a * b))):=by simp [bC,fw]
theorem bg7:TS 180=some Tf:=by kernel_rfl
theorem cp1:aW 180=false:=by kernel_rfl
theorem bg0:TS 115=some SL:=by kernel_rfl
theorem co4:aW 115=false:=by kernel_rfl
theorem yF {x y:Nat}{k:Nat}(h:x+y=k)(hk:k<2 ^ 62):wrap .i64 ((x:Int)+(y:Int))=(k:Int):=by rw [wrap64]<;>omega
theorem iA {x:Nat}{k:Nat}(h:x+1=k)(hk:k<2 ^ 62):wrap .i64 ((x:Int)+1)=(k:Int):=by rw [wrap64]<;>omega
theorem gZ {x:Nat}{k:Nat}(h:x=k+1)(hk:k<2 ^ 62):wrap .i64 ((x:Int)-1)=(k:Int):=by rw [wrap64]<;>omega
theorem vU {x y:Nat}{k:Nat}(h:x=k+y)(hk:x<2 ^ 62):wrap .i64 ((x:Int)-(y:Int))=(k:Int):=by rw [wrap64]<;>omega
theorem ixz {b n i:Nat}{cap:Option Nat}{h:Hp}(hi:i<n):eP none 1 (.row b 0 n cap 1) (.d (.int .i64 i)) h=some (.ptr b i,h):=by
 have:=fQ (b:=b) (o:=0) (z:=1) (cap:=cap) (kd:=.i64) (h:=h) hi;simpa using this
section
variable {E:Calls'}(h334:∀ x y h,E 120 [.d (u32 x),.d (u32 y)] h=some (bl (ltInt x y),h))
include h334
theorem Ib {bs:List Blk}{b:Nat}(hb:b<bs.length){n hi fi:Nat}(hn:n<2 ^ 60)(hf:fi+hi<=n){cap:Option Nat}:∀ (m root:Nat) (d:Array Int) (lo:Nat),hi-root<=m->root<=hi->d.size=n →
 ∃ lo' ex,(ex=Ex.exit 0\/ex=Ex.ret)/\Cd E TS aW (.loop [0,2,3,8] iG) [(0,.row b 0 n cap 1),(2,.d (i64 hi)),(3,.d (i64 fi)),(8,.d (i64 root))] (Mz .u32 bs b d lo) =
  some (ex,[],Mz .u32 bs b (siftDown ltInt hi fi root d) lo')/\Kz b lo d lo' (siftDown ltInt hi fi root d)/\(siftDown ltInt hi fi root d).size=n:=by
 intro m;have key:=ay (E:=E) (T:=TS) (val:=aW) [0,2,3,8] iG;generalize Cd E TS aW (.loop [0,2,3,8] iG)=W at key ⊢
 induction m with
 | zero =>
  intro root d lo hm hr hd;have hu:siftDown ltInt hi fi root d=d:=by rw [siftDown,dif_pos (by omega)]
  rw [hu];refine ⟨lo,.exit 0,.inl rfl,?_,.refl,hd⟩;have hw1:wrap .i64 (2 * (root:Int))=2 * (root:Int):=by rw [wrap64]<;>omega
  have hw2:wrap .i64 (2 * (root:Int)+1)=2 * (root:Int)+1:=by rw [wrap64]<;>omega
  rw [key];simp +decide [iG,ai,az,hw1,hw2,show ((2:Int) * (root:Int)+1>=hi) from by omega]
 | succ m ih =>
  intro root d lo hm hr hd;have hw1:wrap .i64 (2 * (root:Int))=2 * (root:Int):=by rw [wrap64]<;>omega
  by_cases hlt:2 * root+1>=hi
  . have hu:siftDown ltInt hi fi root d=d:=by rw [siftDown,dif_pos hlt]
    rw [hu];refine ⟨lo,.exit 0,.inl rfl,?_,.refl,hd⟩;have hw2:wrap .i64 (2 * (root:Int)+1)=2 * (root:Int)+1:=by rw [wrap64]<;>omega
    rw [key];simp +decide [iG,ai,az,hw1,hw2,show ((2:Int) * (root:Int)+1>=hi) from by omega]
  rw [siftDown,dif_neg hlt];obtain ⟨c,hc⟩:∃ c,c=2 * root+1:=⟨_,rfl⟩;have hw2:wrap .i64 (2 * (root:Int)+1)=(c:Int):=by rw [wrap64]<;>omega
  obtain ⟨k,hk⟩:∃ k,k=c+1:=⟨_,rfl⟩;have wk:=iA (x:=c) hk.symm (by omega);obtain ⟨fr,hfr⟩:∃ k,k=fi+root:=⟨_,rfl⟩;obtain ⟨fc,hfc⟩:∃ k,k=fi+c:=⟨_,rfl⟩;obtain ⟨fk,hfk⟩:∃ j,j=fi+k:=⟨_,rfl⟩;have wfr:=yF (x:=fi) (y:=root) hfr.symm (by omega);have wfc:=yF (x:=fi) (y:=c) hfc.symm (by omega);have wfk:=yF (x:=fi) (y:=k) hfk.symm (by omega);have wfk2:=iA (x:=fc) (k:=fk) (by omega) (by omega);rw [show fi+(2 * root+1)+1=fk by omega,show 2 * root+1+1=k by omega,show fi+k=fk by omega,show 2 * root+1=c by omega,show fi+c=fc by omega,show fi+root=fr by omega];have ixr:=λh=>ixz (b:=b) (n:=n) (cap:=cap) (h:=h) (i:=fr) (by omega);have ixc:=λh=>ixz (b:=b) (n:=n) (cap:=cap) (h:=h) (i:=fc) (by omega);have lr:=bH (kd:=.u32) (lo:=lo) hb (d:=d) (i:=fr) (by omega);have lc:=bH (kd:=.u32) (lo:=lo) hb (d:=d) (i:=fc) (by omega);have cz:=λx y h=>ui h334 x y h;have hcl:¬ (c:Int)>=hi:=by omega
  by_cases hkh:k<hi
  . have ixk:=λh=>ixz (b:=b) (n:=n) (cap:=cap) (h:=h) (i:=fk) (by omega);have lk:=bH (kd:=.u32) (lo:=lo) hb (d:=d) (i:=fk) (by omega);have hkl:(k:Int)<hi:=by omega
    by_cases c1:ltInt d[fc]! d[fk]! = true
    . rw [if_pos (by simp [hkh,c1])];by_cases c2:ltInt d[fr]! d[fk]! = true
      . rw [if_neg (by simp [c2]),dif_pos hkh];obtain ⟨st1,st2⟩:=fE (kd:=.u32) (lo:=lo) hb (d:=d) (i:=fr) (j:=fk) (by omega) (by omega);obtain ⟨lo',ex,hex,q1,q2,q3⟩:=ih k (swp d fr fk) (min (min lo b) b) (by omega) (by omega) (by rw [cu]; exact hd);have hK:Kz b lo d (min (min lo b) b) (swp d fr fk):=.inl (by omega);refine ⟨lo',ex,hex,?_,hK.trans q2,q3⟩;generalize siftDown ltInt hi fi k (swp d fr fk)=D at *;generalize d[fr]! = x at *;generalize d[fk]! = y at *;generalize d[fc]! = z at *;generalize d.setIfInBounds fr y=d1 at *;generalize swp d fr fk=d2 at *;generalize Mz .u32 bs b d lo=M0 at *;rw [key];generalize hM1:Mz .u32 bs b d1=M1 at *;simp +decide [iG,ai,aa,az,ae,Tr.mute,hw1,hw2,wk,wfr,wfc,wfk,wfk2,ixr,ixc,ixk,lr,lc,lk,cz,c1,c2,hcl,hkl,st1,st2,-aG,-aN];simpa using q1
      . rw [if_pos (by simp [c2])];refine ⟨lo,.ret,.inr rfl,?_,.refl,hd⟩;generalize d[fr]! = x at *;generalize d[fk]! = y at *;generalize d[fc]! = z at *;generalize Mz .u32 bs b d lo=M0 at *;rw [key];simp +decide [iG,ai,aa,az,ae,Tr.mute,hw1,hw2,wk,wfr,wfc,wfk,wfk2,ixr,ixc,ixk,lr,lc,lk,cz,c1,c2,hcl,hkl,-aG,-aN]
    . rw [if_neg (by simp [c1])];by_cases c2:ltInt d[fr]! d[fc]! = true
      . rw [if_neg (by simp [c2])];obtain ⟨st1,st2⟩:=fE (kd:=.u32) (lo:=lo) hb (d:=d) (i:=fr) (j:=fc) (by omega) (by omega);obtain ⟨lo',ex,hex,q1,q2,q3⟩:=ih c (swp d fr fc) (min (min lo b) b) (by omega) (by omega) (by rw [cu]; exact hd);have hK:Kz b lo d (min (min lo b) b) (swp d fr fc):=.inl (by omega);refine ⟨lo',ex,hex,?_,hK.trans q2,q3⟩;generalize siftDown ltInt hi fi c (swp d fr fc)=D at *;generalize d[fr]! = x at *;generalize d[fk]! = y at *;generalize d[fc]! = z at *;generalize d.setIfInBounds fr z=d1 at *;generalize swp d fr fc=d2 at *;generalize Mz .u32 bs b d lo=M0 at *;rw [key];generalize hM1:Mz .u32 bs b d1=M1 at *;simp +decide [iG,ai,aa,az,ae,Tr.mute,hw1,hw2,wk,wfr,wfc,wfk,wfk2,ixr,ixc,ixk,lr,lc,lk,cz,c1,c2,hcl,hkl,st1,st2,-aG,-aN];simpa using q1
      . rw [if_pos (by simp [c2])];refine ⟨lo,.ret,.inr rfl,?_,.refl,hd⟩;generalize d[fr]! = x at *;generalize d[fk]! = y at *;generalize d[fc]! = z at *;generalize Mz .u32 bs b d lo=M0 at *;rw [key];simp +decide [iG,ai,aa,az,ae,Tr.mute,hw1,hw2,wk,wfr,wfc,wfk,wfk2,ixr,ixc,ixk,lr,lc,lk,cz,c1,c2,hcl,hkl,-aG,-aN]
  . rw [if_neg (by simp [hkh])];have hkl:¬ (k:Int)<hi:=by omega
    by_cases c2:ltInt d[fr]! d[fc]! = true
    . rw [if_neg (by simp [c2])];obtain ⟨st1,st2⟩:=fE (kd:=.u32) (lo:=lo) hb (d:=d) (i:=fr) (j:=fc) (by omega) (by omega);obtain ⟨lo',ex,hex,q1,q2,q3⟩:=ih c (swp d fr fc) (min (min lo b) b) (by omega) (by omega) (by rw [cu]; exact hd);have hK:Kz b lo d (min (min lo b) b) (swp d fr fc):=.inl (by omega);refine ⟨lo',ex,hex,?_,hK.trans q2,q3⟩;generalize siftDown ltInt hi fi c (swp d fr fc)=D at *;generalize d[fr]! = x at *;generalize d[fc]! = z at *;generalize d.setIfInBounds fr z=d1 at *;generalize swp d fr fc=d2 at *;generalize Mz .u32 bs b d lo=M0 at *;rw [key];generalize hM1:Mz .u32 bs b d1=M1 at *;simp +decide [iG,ai,aa,az,ae,Tr.mute,hw1,hw2,wk,wfr,wfc,ixr,ixc,lr,lc,cz,c2,hcl,hkl,st1,st2,-aG,-aN];simpa using q1
    . rw [if_pos (by simp [c2])];refine ⟨lo,.ret,.inr rfl,?_,.refl,hd⟩;generalize d[fr]! = x at *;generalize d[fc]! = z at *;generalize Mz .u32 bs b d lo=M0 at *;rw [key];simp +decide [iG,ai,aa,az,ae,Tr.mute,hw1,hw2,wk,wfr,wfc,ixr,ixc,lr,lc,cz,c2,hcl,hkl,-aG,-aN]
theorem VV {bs:List Blk}{b:Nat}(hb:b<bs.length){n hi fi root:Nat}(hn:n<2 ^ 60)(hf:fi+hi<=n)(hr:root<=hi){cap:Option Nat}(d:Array Int)(lo:Nat)(hd:d.size=n) :
 ∃ lo',Sm E TS aW 180 [.row b 0 n cap 1,.d (i64 root),.d (i64 hi),.d (i64 fi)] (Mz .u32 bs b d lo)=some (.tup [],Mz .u32 bs b (siftDown ltInt hi fi root d) lo')/\Kz b lo d lo' (siftDown ltInt hi fi root d)/\(siftDown ltInt hi fi root d).size=n:=by
 obtain ⟨lo1,ex,hex,q1,q2,q3⟩:=Ib h334 hb hn hf (cap:=cap) (hi-root) root d bs.length (br _) hr hd;have hl:(Mz .u32 bs b d lo).bs.length=bs.length:=by simp [Mz,Mr]
 obtain ⟨lo2,r1,r2⟩:=lg (kd:=.u32) (lo:=lo) (r:=.tup []) hb rfl q2;refine ⟨lo2,?_,r2,q3⟩;have hM:(⟨(Mz .u32 bs b d lo).bs,bs.length⟩:Hp)=Mz .u32 bs b d bs.length:=rfl;rw [aJ bg7 cp1,hl,hM];refine Eq.trans ?_ r1
 congr 1
 generalize Mz .u32 bs b (siftDown ltInt hi fi root d) lo1=M1 at *;generalize Mz .u32 bs b d bs.length=M0 at *;simp [af,Tf];rw [aj];try simp at q1
 obtain rfl | rfl:=hex<;>(simp [q1]; rfl)
end
end
section
open Go.Sort (swp ltInt siftDown heapBuild heapPop heapSort reverseLoop reverseRange)
theorem bg3:TS 118=some SQ:=by kernel_rfl
theorem co7:aW 118=false:=by kernel_rfl
theorem Qh {k:Nat}(hk:k<2 ^ 62):wrap .i64 ((k:Int)-1)=(k:Int)-1:=by rw [wrap64]<;>omega
theorem tL {x y z:Nat}(hy:0<y)(hz:x / y=z)(hx:x<2 ^ 62):bC .quo (.d (.int .i64 x)) (.d (.int .i64 y))=some (.int .i64 z):=by
 have hle:x / y<=x:=Nat.div_le_self x y;have h1:(x:Int).tdiv (y:Int)=(z:Int):=by
  rw [Int.tdiv_eq_ediv_of_nonneg (by omega),← hz];exact (Int.natCast_ediv x y).symm
 simp only [bC,if_true,fw];rw [if_neg (by omega),h1,wrap64]<;>omega
section
variable {E:Calls'}(h334:∀ x y h,E 120 [.d (u32 x),.d (u32 y)] h=some (bl (ltInt x y),h))
include h334
theorem Mv {bs:List Blk}{b:Nat}(hb:b<bs.length){n hi fi:Nat}(hn:n<2 ^ 60)(hf:fi+hi<=n){cap:Option Nat}(t7:V):∀ (k:Nat) (d:Array Int) (lo:Nat),k<=hi+1->d.size=n →
 ∃ lo',Cd E TS aW (.loop [0,6,7,8,9] qd) [(0,.row b 0 n cap 1),(6,.d (i64 fi)),(7,t7),(8,.d (i64 hi)),(9,.d (i64 ((k:Int)-1)))] (Mz .u32 bs b d lo) =
  some (.exit 0,[(0,.row b 0 n cap 1),(6,.d (i64 fi)),(7,t7),(8,.d (i64 hi))],Mz .u32 bs b (heapBuild ltInt hi fi k d) lo')/\Kz b lo d lo' (heapBuild ltInt hi fi k d)/\(heapBuild ltInt hi fi k d).size=n:=by
 intro k;have key:=ay (E:=E) (T:=TS) (val:=aW) [0,6,7,8,9] qd;generalize Cd E TS aW (.loop [0,6,7,8,9] qd)=W at key ⊢
 induction k with
 | zero =>
  intro d lo hk hd;refine ⟨lo,?_,.refl,hd⟩;rw [key];simp +decide [qd,heapBuild]
 | succ k ih =>
  intro d lo hk hd;obtain ⟨lo1,a1,a2,a3⟩:=VV h334 hb hn hf (root:=k) (by omega) (cap:=cap) d lo hd;obtain ⟨lo',q1,q2,q3⟩:=ih (siftDown ltInt hi fi k d) lo1 (by omega) a3;have hw:=Qh (k:=k) (by omega);have hkk:((k+1:Nat):Int)-1=(k:Int):=by omega
  rw [hkk];refine ⟨lo',?_,a2.trans q2,q3⟩;show W _ _=some (_,_,Mz .u32 bs b (heapBuild ltInt hi fi k (siftDown ltInt hi fi k d)) lo');generalize heapBuild ltInt hi fi k (siftDown ltInt hi fi k d)=D at *;generalize siftDown ltInt hi fi k d=d1 at *;generalize Mz .u32 bs b d1 lo1=M1 at *;generalize Mz .u32 bs b d lo=M0 at *;rw [key];simp [qd,a1,hw,show ((k:Int)>=0) from by omega];simpa using q1
theorem MB {bs:List Blk}{b:Nat}(hb:b<bs.length){n fi:Nat}(hn:n<2 ^ 60){cap:Option Nat}:∀ (k:Nat) (d:Array Int) (lo:Nat),fi+k<=n->d.size=n →
 ∃ lo',Cd E TS aW (.loop [0,6,7,10] qf) [(0,.row b 0 n cap 1),(6,.d (i64 fi)),(7,.d (i64 0)),(10,.d (i64 ((k:Int)-1)))] (Mz .u32 bs b d lo) =
  some (.exit 2,[],Mz .u32 bs b (heapPop ltInt fi k d) lo')/\Kz b lo d lo' (heapPop ltInt fi k d)/\(heapPop ltInt fi k d).size=n:=by
 intro k;have key:=ay (E:=E) (T:=TS) (val:=aW) [0,6,7,10] qf;generalize Cd E TS aW (.loop [0,6,7,10] qf)=W at key ⊢
 induction k with
 | zero =>
  intro d lo hk hd;refine ⟨lo,?_,.refl,hd⟩;rw [key];simp +decide [qf,heapPop]
 | succ k ih =>
  intro d lo hk hd;obtain ⟨fk,hfk⟩:∃ j,j=fi+k:=⟨_,rfl⟩;have wfk:=yF (x:=fi) (y:=k) hfk.symm (by omega);have ixf:=λh=>ixz (b:=b) (n:=n) (cap:=cap) (h:=h) (i:=fi) (by omega);have ixk:=λh=>ixz (b:=b) (n:=n) (cap:=cap) (h:=h) (i:=fk) (by omega);have lf:=bH (kd:=.u32) (lo:=lo) hb (d:=d) (i:=fi) (by omega);have lk:=bH (kd:=.u32) (lo:=lo) hb (d:=d) (i:=fk) (by omega);obtain ⟨st1,st2⟩:=fE (kd:=.u32) (lo:=lo) hb (d:=d) (i:=fi) (j:=fk) (by omega) (by omega);have a:=λlo=>VV h334 hb hn (hi:=k) (fi:=fi) (root:=0) (by omega) (Nat.zero_le _) (cap:=cap) (swp d fi fk) lo (by rw [cu]; exact hd);obtain ⟨lo1,a1,a2,a3⟩:=a (min lo b);obtain ⟨lo',q1,q2,q3⟩:=ih (siftDown ltInt k fi 0 (swp d fi fk)) lo1 (by omega) a3;have hw:=Qh (k:=k) (by omega);have hkk:((k+1:Nat):Int)-1=(k:Int):=by omega
  have hK:Kz b lo d (min lo b) (swp d fi fk):=.inl (by omega);rw [hkk];simp only [heapPop];rw [← hfk];refine ⟨lo',?_,hK.trans (a2.trans q2),q3⟩;generalize heapPop ltInt fi k (siftDown ltInt k fi 0 (swp d fi fk))=D at *;generalize siftDown ltInt k fi 0 (swp d fi fk)=d2 at *;generalize d[fi]! = x at *;generalize d[fk]! = y at *;generalize d.setIfInBounds fi y=d1 at *;generalize swp d fi fk=d3 at *;generalize Mz .u32 bs b d lo=M0 at *;generalize Mz .u32 bs b d2 lo1=M2 at *;rw [key];generalize hM1:Mz .u32 bs b d1=M1 at *;simp at a1;simp +decide [qf,ixf,ixk,lf,lk,st1,st2,a1,hw,wfk,ai,aa,az,ae,Tr.mute,show ((k:Int)>=0) from by omega,-aG,-aN];simpa using q1
theorem ar4 {bs:List Blk}{b:Nat}(hb:b<bs.length){n a e:Nat}(hn:n<2 ^ 60)(ha:a<e)(he:e<=n){cap:Option Nat}(d:Array Int)(lo:Nat)(hd:d.size=n) :
 ∃ lo',Sm E TS aW 115 [.row b 0 n cap 1,.d (i64 a),.d (i64 e)] (Mz .u32 bs b d lo)=some (.tup [],Mz .u32 bs b (heapSort ltInt d a e) lo')/\Kz b lo d lo' (heapSort ltInt d a e)/\(heapSort ltInt d a e).size=n:=by
 obtain ⟨hi,hhi⟩:∃ j,j=e-a:=⟨_,rfl⟩;obtain ⟨h1,hh1⟩:∃ j,hi=j+1:=⟨hi-1,by omega⟩;obtain ⟨m,hm⟩:∃ j,h1 / 2=j:=⟨_,rfl⟩;have w1:=vU (x:=e) (y:=a) (k:=hi) (by omega) (by omega);have w2:=gZ (x:=hi) (k:=h1) hh1 (by omega);have w3:bC .quo (.d (.int .i64 h1)) (.d (.int .i64 2))=some (.int .i64 m):=tL (x:=h1) (y:=2) (z:=m) (by decide) hm (by omega);obtain ⟨lo1,a1,a2,a3⟩:=Mv h334 hb hn (hi:=hi) (fi:=a) (by omega) (cap:=cap) (.d (i64 0)) (m+1) d bs.length (by omega) hd;obtain ⟨lo2,c1,c2,c3⟩:=MB h334 hb hn (fi:=a) (cap:=cap) hi (heapBuild ltInt hi a (m+1) d) lo1 (by omega) a3;have hS:heapSort ltInt d a e=heapPop ltInt a hi (heapBuild ltInt hi a (m+1) d):=by
  unfold heapSort;rw [← hhi,show (hi-1) / 2+1=m+1 by omega]
 have hl:(Mz .u32 bs b d lo).bs.length=bs.length:=by simp [Mz,Mr]
 rw [hS];obtain ⟨lo3,r1,r2⟩:=lg (kd:=.u32) (lo:=lo) (r:=.tup []) hb rfl (a2.trans c2);refine ⟨lo3,?_,r2,c3⟩;have hM:(⟨(Mz .u32 bs b d lo).bs,bs.length⟩:Hp)=Mz .u32 bs b d bs.length:=rfl;rw [aJ bg0 co4,hl,hM];refine Eq.trans ?_ r1
 congr 1
 generalize heapPop ltInt a hi (heapBuild ltInt hi a (m+1) d)=D at *;generalize heapBuild ltInt hi a (m+1) d=d1 at *;generalize Mz .u32 bs b D lo2=M2 at *;generalize Mz .u32 bs b d1 lo1=M1 at *;generalize Mz .u32 bs b d bs.length=M0 at *;rw [show ((m+1:Nat):Int)-1=(m:Int) by omega] at a1;rw [show ((hi:Nat):Int)-1=(h1:Int) by omega] at c1;simp [af,SL,w1,w2,w3];rw [aj];try simp at a1 c1
 simp [a1,w2];rw [aj];simp [c1];rfl
omit h334 in
theorem KP {bs:List Blk}{b:Nat}(hb:b<bs.length){n:Nat}(hn:n<2 ^ 60){cap:Option Nat}:∀ (m i j:Nat) (d:Array Int) (lo:Nat),j-i<=m->j<n->d.size=n →
 ∃ lo',Cd E TS aW (.loop [0,6,7] nK) [(0,.row b 0 n cap 1),(6,.d (i64 i)),(7,.d (i64 j))] (Mz .u32 bs b d lo) =
  some (.exit 0,[],Mz .u32 bs b (reverseLoop i j d) lo')/\Kz b lo d lo' (reverseLoop i j d)/\(reverseLoop i j d).size=n:=by
 intro m;have key:=ay (E:=E) (T:=TS) (val:=aW) [0,6,7] nK;generalize Cd E TS aW (.loop [0,6,7] nK)=W at key ⊢
 induction m with
 | zero =>
  intro i j d lo hm hj hd;have hu:reverseLoop i j d=d:=by rw [reverseLoop,if_neg (by omega)]
  rw [hu];refine ⟨lo,?_,.refl,hd⟩;rw [key];simp +decide [nK,show ¬ ((i:Int)<(j:Int)) from by omega]
 | succ m ih =>
  intro i j d lo hm hj hd;by_cases hlt:i<j
  . have hu:reverseLoop i j d=reverseLoop (i+1) (j-1) (swp d i j):=by rw [reverseLoop,if_pos hlt]
    rw [hu];obtain ⟨j1,hj1⟩:∃ k,j=k+1:=⟨j-1,by omega⟩;have wi:=iA (x:=i) (k:=i+1) rfl (by omega);have wj:=gZ (x:=j) (k:=j1) hj1 (by omega);have ixi:=λh=>ixz (b:=b) (n:=n) (cap:=cap) (h:=h) (i:=i) (by omega);have ixj:=λh=>ixz (b:=b) (n:=n) (cap:=cap) (h:=h) (i:=j) (by omega);have li:=bH (kd:=.u32) (lo:=lo) hb (d:=d) (i:=i) (by omega);have lj:=bH (kd:=.u32) (lo:=lo) hb (d:=d) (i:=j) (by omega);obtain ⟨st1,st2⟩:=fE (kd:=.u32) (lo:=lo) hb (d:=d) (i:=i) (j:=j) (by omega) (by omega);rw [show j-1=j1 by omega];obtain ⟨lo',q1,q2,q3⟩:=ih (i+1) j1 (swp d i j) (min (min lo b) b) (by omega) (by omega) (by rw [cu]; exact hd);have hK:Kz b lo d (min (min lo b) b) (swp d i j):=.inl (by omega);refine ⟨lo',?_,hK.trans q2,q3⟩;generalize reverseLoop (i+1) j1 (swp d i j)=D at *;generalize d[i]! = x at *;generalize d[j]! = y at *;generalize d.setIfInBounds i y=d1 at *;generalize swp d i j=d3 at *;generalize Mz .u32 bs b d lo=M0 at *;rw [key];generalize hM1:Mz .u32 bs b d1=M1 at *;generalize hi1:i+1=i1 at *;simp +decide [nK,ixi,ixj,li,lj,st1,st2,wi,wj,ai,aa,az,ae,Tr.mute,show ((i:Int)<(j:Int)) from by omega,-aG,-aN];simpa using q1
  . have hu:reverseLoop i j d=d:=by rw [reverseLoop,if_neg hlt]
    rw [hu];refine ⟨lo,?_,.refl,hd⟩;rw [key];simp +decide [nK,show ¬ ((i:Int)<(j:Int)) from by omega]
omit h334 in
theorem ar7 {bs:List Blk}{b:Nat}(hb:b<bs.length){n a e:Nat}(hn:n<2 ^ 60)(ha:a<e)(he:e<=n){cap:Option Nat}(d:Array Int)(lo:Nat)(hd:d.size=n) :
 ∃ lo',Sm E TS aW 118 [.row b 0 n cap 1,.d (i64 a),.d (i64 e)] (Mz .u32 bs b d lo)=some (.tup [],Mz .u32 bs b (reverseRange d a e) lo')/\Kz b lo d lo' (reverseRange d a e)/\(reverseRange d a e).size=n:=by
 obtain ⟨e1,he1⟩:∃ k,e=k+1:=⟨e-1,by omega⟩;have we:=gZ (x:=e) (k:=e1) he1 (by omega);obtain ⟨lo1,q1,q2,q3⟩:=KP (E:=E) hb hn (cap:=cap) (e1-a) a e1 d bs.length (br _) (by omega) hd;have hS:reverseRange d a e=reverseLoop a e1 d:=by unfold reverseRange; rw [show e-1=e1 by omega]
 rw [hS];have hl:(Mz .u32 bs b d lo).bs.length=bs.length:=by simp [Mz,Mr]
 obtain ⟨lo2,r1,r2⟩:=lg (kd:=.u32) (lo:=lo) (r:=.tup []) hb rfl q2;refine ⟨lo2,?_,r2,q3⟩;have hM:(⟨(Mz .u32 bs b d lo).bs,bs.length⟩:Hp)=Mz .u32 bs b d bs.length:=rfl;rw [aJ bg3 co7,hl,hM];refine Eq.trans ?_ r1
 congr 1
 generalize Mz .u32 bs b (reverseLoop a e1 d) lo1=M1 at *;generalize Mz .u32 bs b d bs.length=M0 at *;simp [af,SQ,we];rw [aj];try simp at q1
 simp [q1];rfl
end
end
