/- slices.SortFunc at things of more cells than one, by a number that each of them has, as1 a function from outside: what it answers. -/
import Derived.Test.YtjeflmaikicdnaaGreatSa
import Derived.Laws.RangeString
import Derived.KernelRfl
set_option maxRecDepth 100000
set_option linter.unusedVariables false
set_option linter.unusedSimpArgs false
namespace Go.Proofs.YtjeflmaikicdnaaGreat
open IntKind (wrap)
section
def GU (p:Nat)(r:List V):Option Int:=match r[p]? with
 | some (.d (.int .u64 n))=>some n
 | _=>none
def oZ (p:Nat)(r:List V):Int:=(GU p r).getD 0
theorem GV {p:Nat}{r:List V}{n:Int}(h:GU p r=some n):r[p]?=some (.d (.int .u64 n)):=by
 unfold GU at h;split at h
 . rename_i m hm; cases h; exact hm
 . cases h
def chunk (z n:Nat)(cs:List V):List (List V):=(List.range n).map λi=>(cs.drop (i * z)).take z
def gW (p:Nat)(rs:List (List V)):List (List V):=rs.mergeSort λx y=>decide (oZ p x<=oZ p y)
structure SF where
 z:Nat
 p:Nat
 g:FuncId
 id:FuncId
def gp (s:SF)(args:List V)(h:Hp):Option (V×Hp):=match args with
 | [.row b 0 n _ z,.fn g [.ptr c 0]]=>match h.get b,h.get c with
  | some cs,some [.fn id []] =>
   if z=s.z/\g=s.g/\id=s.id/\b≠c/\0<n/\n<=2 ^ 40/\n * z<=cs.length/\(∀ r∈chunk z n cs,(GU s.p r).isSome=true)/\((chunk z n cs).map (oZ s.p)).Nodup then
    some (.tup [],h.set b ((gW s.p (chunk z n cs)).flatten++cs.drop (n * z)))
   else none
  | _,_=>none
 | _=>none
theorem gG {s:SF}{args:List V}{h:Hp}{r:V}{h':Hp}(hm:gp s args h=some (r,h')):LowOk h h':=by
 unfold gp at hm;split at hm
 . split at hm
   . split at hm
     . cases hm; exact LowOk.set _ _ _
     . cases hm
   . cases hm
 . cases hm
end
section
section
variable {E:Calls'}{T:FuncId->Option QF}{val:FuncId->Bool}
theorem sM {e:List D}{z:Nat}(he:e.length=z):sub (e.map V.d) 0 z=some (e.map V.d):=bQ (by simpa using he)
theorem XC {α:Type}{cells:α->List D}{z c idf:FuncId}{key:α->Int}(ht:T c=some (woCQ z))(hv:val c=false){e:α}(hz:(cells e).length=z)(hid:∀ h,Sm E T val idf [ag (cells e)] h=some (.d (u64 (key e)),h)){n:Int}{p r:Nat}{h:Hp}(hp:au h.bs p=some [.fn idf []])(hr:au h.bs r=some [.d (u64 n)]) :
 Sm E T val c [ag (cells e),.ptr p 0,.ptr r 0] h=some (bl (key e==n),h):=by
 rw [av ht hv];have hsub:=sM hz;simp [woCQ,aa,aA,ae,ay,Tr.mute,ak hp,ak hr,hid,hsub,V.under]
def Left {α:Type}(cells:α->List D)(z:Nat)(s:Sl α)(K:List α)(b0:List Blk)(r:V)(bs':List Blk)(lo lo':Nat):Prop :=
 (s.nl=true/\K=[]/\r=.d (.slice true [])/\bs'=b0/\lo'=lo) ∨
 (s.nl=false/\s.l=[]/\K=[]/\r=.row b0.length 0 0 (some 0) z/\bs'=b0++[.cells []]/\lo'=min lo b0.length) ∨
 (s.nl=false/\s.l≠[]/\r=.row (b0.length+1) 0 K.length none z/\b0.length+1<bs'.length/\(∀ x,x<b0.length+1->bs'[x]?=(b0++[.cells []])[x]?) ∧
   ∃ rest,au bs' (b0.length+1)=some (flat (K.map cells)++rest)/\rest.length=(s.l.length-K.length) * z)
theorem Wv {α:Type}{cells:α->List D}{z b cl clos del idx idf:Nat}{zero:List V}{key:α->Int}(tcl:T cl=some (cloneQ z b zero))(vcl:val cl=false)(tdel:T del=some (delQ z idx zero))(vdel:val del=false)(tidx:T idx=some (idxQ z))(vidx:val idx=false)
 (tc:T clos=some (woCQ z)) (vc:val clos=false) (hz:∀ x,(cells x).length=z) (hz0:0<z) (hzero:zero.length=z) (hb:b<=4096) {s:Sl α} (hs:short s) (hid:∀ e∈s.l,∀ h,Sm E T val idf [ag (cells e)] h=some (.d (u64 (key e)),h)) (n:Int) (bs:List Blk) (lo:Nat) :
 ∃ r bs' lo',Bd E T val (woQ cl clos del) [.d (s.d cells),.d (u64 n),.fn idf []] ⟨bs,lo⟩=some (.tup [r,bl (decide ((s.l.filter λe=>!(key e==n)).length<s.l.length))],⟨bs',lo'⟩) ∧
  Left cells z s (s.l.filter λe=>!(key e==n)) (bs++[.cells [.d (u64 n)],.cells [.fn idf []]]) r bs' lo lo':=by
 obtain ⟨nl,l⟩:=s;have hcl:=iM (E:=E) (T:=T) (val:=val) tcl vcl hz0 hb (nl:=nl) (es:=l.map cells) (by simp; intro a _; exact hz a) (by simpa using hs.1) ⟨bs++[.cells [.d (u64 n)],.cells [.fn idf []]],lo⟩;have hlen:l.length<2 ^ 62:=hs.lt;cases nl with
 | true =>
  have hl:=hs.2 rfl;simp at hl;subst hl;have h1:=fJ (E:=E) (T:=T) (val:=val) cells (es:=[]) (z:=z) (idx:=idx) (zero:=zero) tidx vidx tdel vdel (v:=.d (.slice true [])) (f:=clos) (caps:=[.ptr (bs.length+1) 0,.ptr bs.length 0]) (q:=λ_=>false) (h:=⟨bs++[.cells [.d (u64 n)],.cells [.fn idf []]],lo⟩) ⟨by simp,.inl ⟨true,rfl⟩⟩ (by simp) (by simp) (by simp);simp [bL] at hcl;refine ⟨.d (.slice true []),bs++[.cells [.d (u64 n)],.cells [.fn idf []]],lo,?_,.inl ⟨rfl,rfl,rfl,rfl,rfl⟩⟩;simp [aa,woQ,Sl.d,hcl,h1]
 | false =>
  cases hll:l with
  | nil =>
   subst hll;have h1:=fJ (E:=E) (T:=T) (val:=val) cells (es:=[]) (z:=z) (idx:=idx) (zero:=zero) tidx vidx tdel vdel (v:=.row (bs.length+2) 0 0 (some 0) z) (f:=clos) (caps:=[.ptr (bs.length+1) 0,.ptr bs.length 0]) (q:=λ_=>false) (h:=⟨bs++[.cells [.d (u64 n)],.cells [.fn idf []],.cells []],min lo (bs.length+2)⟩) ⟨by simp,.inr ⟨bs.length+2,0,some 0,[],rfl,by unfold au; rw [bm (by omega)]; simp,by simp⟩⟩ (by simp) (by simp) (by simp);simp [bL] at hcl;refine ⟨.row (bs.length+2) 0 0 (some 0) z,bs++[.cells [.d (u64 n)],.cells [.fn idf []],.cells []],min lo (bs.length+2),?_,.inr (.inl ⟨rfl,rfl,rfl,by simp,by simp,by simp⟩)⟩;simp [aa,woQ,Sl.d,hcl,h1]
  | cons p l' =>
   have hne:l≠[]:=by rw [hll]; simp
   rw [← hll];have hc2:bL z false (l.map cells) (bs++[.cells [.d (u64 n)],.cells [.fn idf []]]) lo=(.row (bs.length+3) 0 l.length none z,⟨bs++[.cells [.d (u64 n)],.cells [.fn idf []],.cells [],.cells (flat (l.map cells))],lo⟩):=by
    rw [hll]; simp [bL]
   rw [hc2] at hcl;simp at hcl;have hbF:au (bs++[.cells [.d (u64 n)],.cells [.fn idf []],.cells [],.cells (flat (l.map cells))]) (bs.length+3)=some (flat (l.map cells)):=by unfold au; rw [bm (by omega)]; simp
   have hcall:∀ e∈l,∀ bs2 lo2,(∀ x,x≠bs.length+3->x<bs.length+4->bs2[x]?=(bs++[.cells [.d (u64 n)],.cells [.fn idf []],.cells [],.cells (flat (l.map cells))])[x]?)->Sm E T val clos (.agg ((cells e).map .d)::[.ptr (bs.length+1) 0,.ptr bs.length 0]) ⟨bs2,lo2⟩=some (.d (.bool (key e==n)),⟨bs2,lo2⟩):=by
    intro e he bs2 lo2 ho;refine XC tc vc (hz e) (hid e he) ?_ ?_
    . have:=ho (bs.length+1) (by omega) (by omega);simp only [au];rw [this,bm (by omega)]; simp
    . have:=ho bs.length (by omega) (by omega);simp only [au];rw [this,bm (by omega)]; simp
   by_cases hq:∃ e∈l,(key e==n)=true
   . obtain ⟨bs',lo',rest,k1,k2,k3,k4,k5,k6⟩:=qy (E:=E) (T:=T) (val:=val) hz hz0 hzero tidx vidx tdel vdel (es:=l) (b:=bs.length+3) (cap:=none) (f:=clos) (caps:=[.ptr (bs.length+1) 0,.ptr bs.length 0]) (q:=λe=>key e==n) (h:=⟨bs++[.cells [.d (u64 n)],.cells [.fn idf []],.cells [],.cells (flat (l.map cells))],min lo (bs.length+2)⟩) hbF hlen (λe he bs2 lo2 _ ho=>hcall e he bs2 lo2 (by simpa using ho)) hq;refine ⟨.row (bs.length+3) 0 (l.filter λe=>!(key e==n)).length none z,bs',lo',?_,.inr (.inr ⟨rfl,hne,by simp,by simp at k2 ⊢; omega,?_,rest,by simpa using k4,k6⟩)⟩
     . simp [aa,woQ,Sl.d,hcl,k1]
     . intro x hx;simp at hx;rw [k3 x (by omega) (by simp; omega)];have:∀ ys:List Blk,ys=bs++[.cells [.d (u64 n)],.cells [.fn idf []],.cells []]->(bs++[.cells [.d (u64 n)],.cells [.fn idf []],.cells [],.cells (flat (l.map cells))])[x]?=ys[x]?:=by
        rintro ys rfl;rw [show bs++[.cells [.d (u64 n)],.cells [.fn idf []],.cells [],.cells (flat (l.map cells))]=(bs++[.cells [.d (u64 n)],.cells [.fn idf []],.cells []])++[.cells (flat (l.map cells))] by simp,am (by simp; omega)]
       exact this _ (by simp)
   . have hall:∀ e∈l,(key e==n)=false:=by
      intro e he;cases hh:(key e==n) with
      | false=>rfl
      | true=>exact absurd ⟨e,he,hh⟩ hq
     have hK:l.filter (λe=>!(key e==n))=l:=List.filter_eq_self.2 λe he=>by simp [hall e he]
     have h1:=fJ (E:=E) (T:=T) (val:=val) cells (es:=l) (z:=z) (idx:=idx) (zero:=zero) tidx vidx tdel vdel (v:=.row (bs.length+3) 0 l.length none z) (f:=clos) (caps:=[.ptr (bs.length+1) 0,.ptr bs.length 0]) (q:=λe=>key e==n) (h:=⟨bs++[.cells [.d (u64 n)],.cells [.fn idf []],.cells [],.cells (flat (l.map cells))],min lo (bs.length+2)⟩)
      ⟨by simp; intro a _; exact hz a,.inr ⟨bs.length+3,0,none,_,by simp,hbF,by
       rw [eH,if_pos (by rw [bz hz]; simp),List.drop_zero,cb,← bz hz,List.take_length]; rfl⟩⟩ hlen (λe he lo2=>hcall e he _ lo2 λ_ _ _=>rfl) hall
     rw [hK];refine ⟨.row (bs.length+3) 0 l.length none z,bs++[.cells [.d (u64 n)],.cells [.fn idf []],.cells [],.cells (flat (l.map cells))],min lo (bs.length+2),?_,.inr (.inr ⟨rfl,hne,by simp,by simp,?_,[],by
      have e:(bs++[Blk.cells [V.d (u64 n)],.cells [.fn idf []]]).length+1=bs.length+3:=by simp
      rw [e,hbF]; simp,by simp⟩)⟩
     . simp [aa,woQ,Sl.d,hcl,h1]
     . intro x hx;simp at hx;have:∀ ys:List Blk,ys=bs++[.cells [.d (u64 n)],.cells [.fn idf []],.cells []]->(bs++[.cells [.d (u64 n)],.cells [.fn idf []],.cells [],.cells (flat (l.map cells))])[x]?=ys[x]?:=by
        rintro ys rfl;rw [show bs++[.cells [.d (u64 n)],.cells [.fn idf []],.cells [],.cells (flat (l.map cells))]=(bs++[.cells [.d (u64 n)],.cells [.fn idf []],.cells []])++[.cells (flat (l.map cells))] by simp,am (by simp; omega)]
       exact this _ (by simp)
theorem yO {n b o m z:Nat}{cap:Option Nat}{l:List V}(hb:n<=b):¬ V.under n (.tup (.row b o m cap z::l))=true:=by
 simp [V.under,V.under.go];omega
theorem Fh {h:Hp}{b o n z:Nat}{cap:Option Nat}{d:D}(hd:dataV h (7+1) (.row b o n cap z)=some d):iV h (.row b o n cap z)=some (.d d):=by
 simp only [Bc,hd]
theorem ru {α:Type}{cells:α->List D}{z b cl clos del idx idf wo:Nat}{zero:List V}{key:α->Int}(tcl:T cl=some (cloneQ z b zero))(vcl:val cl=false)(tdel:T del=some (delQ z idx zero))(vdel:val del=false)(tidx:T idx=some (idxQ z))(vidx:val idx=false)
 (tc:T clos=some (woCQ z)) (vc:val clos=false) (two:T wo=some (woQ cl clos del)) (vwo:val wo=true) (hz:∀ x,(cells x).length=z) (hz0:0<z) (hzero:zero.length=z) (hb:b<=4096) {s:Sl α} (hs:short s) (hid:∀ e∈s.l,∀ h,Sm E T val idf [ag (cells e)] h=some (.d (u64 (key e)),h)) (n:Int) (h:Hp) :
 Sm E T val wo [.d (s.d cells),.d (u64 n),.fn idf []] h=some (.tup [.d (.slice s.nl ((s.l.filter λe=>!(key e==n)).map cells)),bl (decide ((s.l.filter λe=>!(key e==n)).length<s.l.length))],h):=by
 rw [aN two vwo];obtain ⟨r,bs',lo',k1,k2⟩:=Wv (E:=E) (T:=T) (val:=val) tcl vcl tdel vdel tidx vidx tc vc hz hz0 hzero hb hs hid n [] 0;have hfr:frz h (.fn idf [])=some (.fn idf []):=rfl;generalize hK:s.l.filter (λe=>!(key e==n))=K at *;have hw:∀ e∈K.map cells,e.length=z:=by simp; intro a _; exact hz a
 have hr:iV ⟨bs',lo'⟩ r=some (.d (.slice s.nl (K.map cells))):=by
  obtain ⟨h1,h2,h3,h4,h5⟩ | ⟨h1,h2,h3,h4,h5,h6⟩ | ⟨h1,h2,h3,h4,h5,rest,h6,h7⟩:=k2
  . subst h2 h3; rw [h1]; rfl
  . subst h3 h4 h5;have:=bB (h:=⟨[.cells [.d (u64 n)],.cells [.fn idf []]]++[.cells []],lo'⟩) (k:=7) (b:=2) (n:=0) (cap:=some 0) (es:=[]) (z:=z) (rest:=[]) (by simp) rfl rfl;rw [h1];exact Fh this
  . subst h3;have:=bB (h:=⟨bs',lo'⟩) (k:=7) (n:=K.length) (cap:=none) (z:=z) hw (by rw [cb]) h6;rw [h1];exact Fh this
 simp [hfr,k1,Ny,hr,dK]
theorem Jh {α:Type}{cells:α->List D}{z b cl clos del idx idf wo:Nat}{zero:List V}{key:α->Int}(tcl:T cl=some (cloneQ z b zero))(vcl:val cl=false)(tdel:T del=some (delQ z idx zero))(vdel:val del=false)(tidx:T idx=some (idxQ z))(vidx:val idx=false)
 (tc:T clos=some (woCQ z)) (vc:val clos=false) (two:T wo=some (woQ cl clos del)) (vwo:val wo=false) (hz:∀ x,(cells x).length=z) (hz0:0<z) (hzero:zero.length=z) (hb:b<=4096) {s:Sl α} (hs:short s) (hid:∀ e∈s.l,∀ h,Sm E T val idf [ag (cells e)] h=some (.d (u64 (key e)),h)) (n:Int) (h:Hp) :
 ∃ r bs' lo' w,Sm E T val wo [.d (s.d cells),.d (u64 n),.fn idf []] h=some (.tup [r,bl w],⟨bs',lo'⟩)/\h.bs.length<=bs'.length/\(∀ x,x<h.bs.length->bs'[x]?=h.bs[x]?) ∧
  ((s.nl=true/\(s.l.filter λe=>!(key e==n))=[]/\r=.d (.slice true []))\/(∃ B,(s.l.filter λe=>!(key e==n))=[]/\h.bs.length<=B/\r=.row B 0 0 (some 0) z/\au bs' B=some []) ∨
   (∃ B rest q,h.bs.length<=B/\r=.row B 0 (s.l.filter λe=>!(key e==n)).length none z/\au bs' B=some (flat ((s.l.filter λe=>!(key e==n)).map cells)++rest)/\rest.length=q * z/\0<(s.l.filter λe=>!(key e==n)).length+q)):=by
 obtain ⟨r,bs',lo',k1,k2⟩:=Wv (E:=E) (T:=T) (val:=val) tcl vcl tdel vdel tidx vidx tc vc hz hz0 hzero hb hs hid n h.bs h.bs.length;generalize hK:s.l.filter (λe=>!(key e==n))=K at *;rw [av two vwo,k1,gY];obtain ⟨h1,h2,h3,h4,h5⟩ | ⟨h1,h2,h3,h4,h5,h6⟩ | ⟨h1,h2,h3,h4,h5,rest,h6,h7⟩:=k2
 . refine ⟨r,h.bs,h.low,decide (K.length<s.l.length),?_,br _,λ_ _=>rfl,.inl ⟨h1,h2,h3⟩⟩;rw [if_pos ⟨by simp [h5],by subst h3; rfl⟩]
 . refine ⟨r,bs',min h.low lo',decide (K.length<s.l.length),?_,by rw [h5]; simp,λx hx=>?_,.inr (.inl ⟨_,h3,?_,h4,?_⟩)⟩
   . rw [if_neg (λhh=>by have hu:=hh.2; subst h4; exact yO (by simp) hu)]
   . rw [h5,List.append_assoc,am hx]
   . simp
   . rw [h5]; simp [au]
 . refine ⟨r,bs',min h.low lo',decide (K.length<s.l.length),?_,by simp at h4; omega,λx hx=>?_,.inr (.inr ⟨_,rest,s.l.length-K.length,?_,h3,h6,h7,?_⟩)⟩
   . rw [if_neg (λhh=>by have hu:=hh.2; subst h3; exact yO (by simp; omega) hu)]
   . rw [h5 x (by simp; omega),List.append_assoc,am hx]
   . simp; omega
   . have:=List.length_pos_iff.2 h2;omega
end
end
section
section
variable {E:Calls'}{T:FuncId->Option QF}{val:FuncId->Bool}
theorem Jg {id:FuncId}{z:Nat}(ht:T id=some (notQ z))(hv:val id=false){c:List D}(hc:c.length=z){f:FuncId}{caps:List V}{x:Nat}{p:Bool}{h:Hp}(hp:au h.bs x=some [.fn f caps])
 (hf:∀ ys lo,Sm E T val f (ag c::caps) ⟨h.bs++ys,lo⟩=some (bl p,⟨h.bs++ys,lo⟩)):Sm E T val id [ag c,.ptr x 0] h=some (bl (!p),h):=by
 rw [av ht hv];have hs:=sM hc;simp [notQ,aa,ak hp,hf,hs,V.under]
def KeptR {α:Type}(cells:α->List D)(z n:Nat)(nl:Bool)(l:List α)(bs:List Blk)(v:V):Prop :=
 (nl=true/\l=[]/\v=.d (.slice true []))\/(nl=false/\∃ B cap rest,n<=B/\v=.row B 0 l.length cap z/\au bs B=some (flat (l.map cells)++rest))
theorem KeptR.rowIs {α:Type}{cells:α->List D}{z n:Nat}{nl:Bool}{l:List α}{bs:List Blk}{v:V}(hz:∀ x,(cells x).length=z)(h:KeptR cells z n nl l bs v):RowIs bs v z (l.map cells):=by
 refine ⟨by simp; intro a _; exact hz a,?_⟩;obtain ⟨_,rfl,rfl⟩ | ⟨_,B,cap,rest,_,rfl,h⟩:=h
 . exact .inl ⟨true,rfl⟩
 . refine .inr ⟨B,0,cap,_,by simp,h,?_⟩;rw [eH,if_pos (by rw [aq,bz hz]; simp),List.drop_zero,cb,← bz hz,List.take_left]; rfl
theorem KeptR.dat {α:Type}{cells:α->List D}{z n:Nat}{nl:Bool}{l:List α}{bs:List Blk}{v:V}(hz:∀ x,(cells x).length=z)(h:KeptR cells z n nl l bs v)(lo k:Nat):dataV ⟨bs,lo⟩ (k+1) v=some (.slice nl (l.map cells)):=by
 obtain ⟨rfl,rfl,rfl⟩ | ⟨rfl,B,cap,rest,_,rfl,h⟩:=h
 . rfl
 . exact bB (by simp; intro a _; exact hz a) (by simp) h
theorem KeptR.like {α:Type}{cells:α->List D}{z n:Nat}{nl:Bool}{l:List α}{bs bs':List Blk}{v:V}(h:KeptR cells z n nl l bs v)(ho:∀ x cs,n<=x->au bs x=some cs->au bs' x=some cs):KeptR cells z n nl l bs' v:=by
 obtain ⟨h1,h2,h3⟩ | ⟨h1,B,cap,rest,h2,h3,h4⟩:=h
 . exact .inl ⟨h1,h2,h3⟩
 . exact .inr ⟨h1,B,cap,rest,h2,h3,ho B _ h2 h4⟩
theorem KeptR.nu {α:Type}{cells:α->List D}{z n:Nat}{nl:Bool}{l:List α}{bs:List Blk}{v:V}(h:KeptR cells z n nl l bs v):Go.Proofs.YtjeflmaikicdnaaGreat.nu v=some v/\okV v=true:=by
 obtain ⟨_,_,rfl⟩ | ⟨_,B,cap,rest,_,rfl,_⟩:=h<;>exact ⟨rfl,rfl⟩
theorem yY {α:Type}{cells:α->List D}{z b cl clos del idx id:Nat}{zero:List V}(tcl:T cl=some (cloneQ z b zero))(vcl:val cl=false)(tdel:T del=some (delQ z idx zero))(vdel:val del=false)(tidx:T idx=some (idxQ z))(vidx:val idx=false)
 (tc:T clos=some (notQ z)) (vc:val clos=false) (tid:T id=some (keepQ cl clos del)) (vid:val id=false) (hz:∀ x,(cells x).length=z) (hz0:0<z) (hzero:zero.length=z) (hb:b<=4096) {s:Sl α} (hs:short s) {f:FuncId} {caps:List V} {q:α->Bool} {h:Hp}
 (hq:∀ e∈s.l,∀ bs lo,h.bs.length<=bs.length->(∀ x,x<h.bs.length->bs[x]?=h.bs[x]?)->Sm E T val f (ag (cells e)::caps) ⟨bs,lo⟩=some (bl (q e),⟨bs,lo⟩)) :
 ∃ r bs' lo',Sm E T val id [.d (s.d cells),.fn f caps] h=some (r,⟨bs',lo'⟩)/\h.bs.length<=bs'.length/\(∀ x,x<h.bs.length->bs'[x]?=h.bs[x]?)/\KeptR cells z h.bs.length s.nl (s.l.filter q) bs' r:=by
 obtain ⟨bs,lo0⟩:=h;simp only at hq ⊢;obtain ⟨nl,l⟩:=s;simp only at hq ⊢;have hcl:=iM (E:=E) (T:=T) (val:=val) tcl vcl hz0 hb (nl:=nl) (es:=l.map cells) (by simp; intro a _; exact hz a) (by simpa using hs.1) ⟨bs++[.cells [.fn f caps]],bs.length⟩;have hlen:l.length<2 ^ 62:=hs.lt;have hout:∀ {r:V} {bs':List Blk} {lo':Nat},r.under bs.length=false->fQ ⟨bs,lo0⟩ (some (r,⟨bs',lo'⟩))=some (r,⟨bs',min lo0 lo'⟩):=λhu=>by
  rw [gY,if_neg (λhh=>by rw [hu] at hh; cases hh.2)]
 have hun:∀ {B o n z:Nat} {cap:Option Nat},bs.length<=B->V.under bs.length (.row B o n cap z)=false:=λh=>by simp [V.under]; omega
 rw [av tid vid];cases nl with
 | true =>
  have hl:=hs.2 rfl;simp at hl;subst hl;have h1:=fJ (E:=E) (T:=T) (val:=val) cells (es:=[]) (z:=z) (idx:=idx) (zero:=zero) tidx vidx tdel vdel (v:=.d (.slice true [])) (f:=clos) (caps:=[.ptr bs.length 0]) (q:=λ_=>false) (h:=⟨bs++[.cells [.fn f caps]],bs.length⟩) ⟨by simp,.inl ⟨true,rfl⟩⟩ (by simp) (by simp) (by simp);simp [bL] at hcl;refine ⟨.d (.slice true []),bs,lo0,?_,br _,λ_ _=>rfl,.inl ⟨rfl,by simp,rfl⟩⟩;simp [aa,keepQ,Sl.d,hcl,h1,V.under,bf]
 | false =>
  cases hll:l with
  | nil =>
   subst hll;have h1:=λlo=>fJ (E:=E) (T:=T) (val:=val) cells (es:=[]) (z:=z) (idx:=idx) (zero:=zero) tidx vidx tdel vdel (v:=.row (bs.length+1) 0 0 (some 0) z) (f:=clos) (caps:=[.ptr bs.length 0]) (q:=λ_=>false) (h:=⟨bs++[.cells [.fn f caps],.cells []],lo⟩) ⟨by simp,.inr ⟨bs.length+1,0,some 0,[],rfl,by unfold au; rw [bm (by omega)]; simp,by simp [eH]⟩⟩ (by simp) (by simp) (by simp);simp [bL] at hcl;refine ⟨.row (bs.length+1) 0 0 (some 0) z,bs++[.cells [.fn f caps],.cells []],min lo0 bs.length,?_,by simp,λx hx=>by rw [am hx],.inr ⟨rfl,bs.length+1,some 0,[],by omega,rfl,by unfold au; rw [bm (by omega)]; simp⟩⟩;refine Eq.trans ?_ (hout (lo':=bs.length) (hun (by omega)))
   congr 1
   simp [aa,keepQ,Sl.d,hcl,h1,bf]
  | cons p l' =>
   rw [← hll];have hc2:bL z false (l.map cells) (bs++[.cells [.fn f caps]]) bs.length=(.row (bs.length+2) 0 l.length none z,⟨bs++[.cells [.fn f caps],.cells [],.cells (flat (l.map cells))],bs.length⟩):=by
    rw [hll]; simp [bL]
   rw [hc2] at hcl;simp at hcl;have hbF:au (bs++[.cells [.fn f caps],.cells [],.cells (flat (l.map cells))]) (bs.length+2)=some (flat (l.map cells)):=by unfold au; rw [bm (by omega)]; simp
   have hold:∀ x,x<bs.length->(bs++[Blk.cells [.fn f caps],.cells [],.cells (flat (l.map cells))])[x]?=bs[x]?:=λx hx=>by rw [am hx]
   have hcall:∀ e∈l,∀ bs2 lo2,bs.length+3<=bs2.length->(∀ x,x≠bs.length+2->x<bs.length+3->bs2[x]?=(bs++[.cells [.fn f caps],.cells [],.cells (flat (l.map cells))])[x]?)->Sm E T val clos (.agg ((cells e).map .d)::[.ptr bs.length 0]) ⟨bs2,lo2⟩=some (.d (.bool (!q e)),⟨bs2,lo2⟩):=by
    intro e he bs2 lo2 hle ho;refine Jg tc vc (hz e) (f:=f) (caps:=caps) (p:=q e) ?_ λys lo=>?_
    . have:=ho bs.length (by omega) (by omega);simp only [au];rw [this,bm (by omega)]; simp
    . refine hq e he _ lo (by simp; omega) λx hx=>?_;simp only;rw [am (by omega),ho x (by omega) (by omega)];exact hold x hx
   have hnn:(l.filter λe=>!(!q e))=l.filter q:=by simp
   by_cases hqq:∃ e∈l,(!q e)=true
   . obtain ⟨bs',lo',rest,k1,k2,k3,k4,k5,k6⟩:=qy (E:=E) (T:=T) (val:=val) hz hz0 hzero tidx vidx tdel vdel (es:=l) (b:=bs.length+2) (cap:=none) (f:=clos) (caps:=[.ptr bs.length 0]) (q:=λe=>!q e) (h:=⟨bs++[.cells [.fn f caps],.cells [],.cells (flat (l.map cells))],bs.length⟩) hbF hlen (λe he bs2 lo2 a b=>hcall e he bs2 lo2 (by simpa using a) (λx h1 h2=>b x h1 (by simp; omega))) hqq;rw [hnn] at k1 k4;refine ⟨.row (bs.length+2) 0 (l.filter q).length none z,bs',min lo0 lo',?_,by simp at k2; omega,λx hx=>by rw [k3 x (by omega) (by simp; omega)]; exact hold x hx,.inr ⟨rfl,bs.length+2,none,rest,by omega,rfl,k4⟩⟩;refine Eq.trans ?_ (hout (lo':=lo') (hun (by omega)))
     congr 1
     simp [aa,keepQ,Sl.d,hcl,k1,bf]
   . have hall:∀ e∈l,(!q e)=false:=by
      intro e he;cases hh:(!q e) with
      | false=>rfl
      | true=>exact absurd ⟨e,he,hh⟩ hqq
     have hK:l.filter q=l:=List.filter_eq_self.2 λe he=>by have:=hall e he; simpa using this
     have h1:=fJ (E:=E) (T:=T) (val:=val) cells (es:=l) (z:=z) (idx:=idx) (zero:=zero) tidx vidx tdel vdel (v:=.row (bs.length+2) 0 l.length none z) (f:=clos) (caps:=[.ptr bs.length 0]) (q:=λe=>!q e) (h:=⟨bs++[.cells [.fn f caps],.cells [],.cells (flat (l.map cells))],bs.length⟩)
      ⟨by simp; intro a _; exact hz a,.inr ⟨bs.length+2,0,none,_,by simp,hbF,by
       rw [eH,if_pos (by rw [bz hz]; simp),List.drop_zero,cb,← bz hz,List.take_length]; rfl⟩⟩ hlen (λe he lo2=>hcall e he _ lo2 (by simp) λ_ _ _=>rfl) hall
     rw [hK];refine ⟨.row (bs.length+2) 0 l.length none z,bs++[.cells [.fn f caps],.cells [],.cells (flat (l.map cells))],min lo0 bs.length,?_,by simp,hold,.inr ⟨rfl,bs.length+2,none,[],by omega,rfl,by rw [hbF]; simp⟩⟩;refine Eq.trans ?_ (hout (lo':=bs.length) (hun (by omega)))
     congr 1
     simp [aa,keepQ,Sl.d,hcl,h1,bf]
end
end
section
section
variable {E:Calls'}{T:FuncId->Option QF}{val:FuncId->Bool}
theorem qz {pr:List (List Nat)}{l:List Tr}(k:Nat)(hk:(List.range l.length).all (λj=>j==k||(pr.getD k []).contains j||(pr.getD j []).contains k)=true)(hm:(l.take k++l.drop (k+1)).all Tr.mute=true):dE pr l=true:=by
 rw [cm] at hk hm;have hmm:∀ j,j<l.length->j≠k->∃ t,l[j]?=some t/\t.mute=true:=by
  intro j hj hjk;refine ⟨l[j],by simp [hj],hm _ ?_⟩;rw [List.mem_append];obtain h | h:=Nat.lt_or_gt_of_ne hjk
  . left;rw [List.mem_take_iff_getElem];exact ⟨j,by omega,rfl⟩
  . right;rw [List.mem_drop_iff_getElem];exact ⟨j-(k+1),by omega,by congr 1; omega⟩
 unfold dE;simp only [cm,List.mem_range];intro i hi j hj;by_cases hij:i=j
 . simp [hij]
 by_cases hik:i=k
 . subst hik;have:=hk j (by simpa using hj);simp only [Bool.or_eq_true,beq_iff_eq] at this ⊢;obtain (h | h) | h:=this
   . exact absurd h.symm hij
   . exact .inl (.inl (.inr h))
   . exact .inl (.inr h)
 by_cases hjk:j=k
 . subst hjk;have:=hk i (by simpa using hi);simp only [Bool.or_eq_true,beq_iff_eq] at this ⊢;obtain (h | h) | h:=this
   . exact absurd h hij
   . exact .inl (.inr h)
   . exact .inl (.inl (.inr h))
 obtain ⟨s,hs,ms⟩:=hmm i hi hik;obtain ⟨t,ht,mt⟩:=hmm j hj hjk;simp only [Tr.mute,aw,Bool.not_eq_true',List.isEmpty_iff,beq_iff_eq] at ms mt;have:s.spares t=true:=by
  unfold Tr.spares;rw [ms.1.1,mt.1.1,ms.1.2,ms.2];cases t.call<;>simp
 simp [hs,ht,this]
theorem Jo {bs:List Blk}{z by_:Nat}{K:List (List D)}{v:V}{x:List D}(hw:∀ e∈K,e.length=z)(hx:x.length=z)(hz0:0<z)(hby:by_<=4096)(hl:K.length<big){r:Nat}{c:Option Nat}(hr:au bs r=some (x.map .d)){m:Nat}
 (hv:(K=[]/\v=.d (.slice true []))\/(∃ B,K=[]/\m<=B/\v=.row B 0 0 (some 0) z/\au bs B=some [])\/(∃ B rest q,m<=B/\v=.row B 0 K.length none z/\au bs B=some (flat K++rest)/\rest.length=q * z/\0<K.length+q)) (hm:m<=bs.length) :
 ∃ (B:Nat) (cap:Option Nat) (bs':List Blk) (rest:List V) (f:Nat->Nat),(∀ lo,dP ⟨bs,lo⟩ z by_ v (.row r 0 1 c z)=some (.row B 0 (K.length+1) cap z,⟨bs',f lo⟩))/\m<=B/\au bs' B=some (flat (K++[x])++rest)/\∀ y,y<m->bs'[y]?=bs[y]?:=by
 have hrc:∀ lo,aB ⟨bs,lo⟩ (.row r 0 1 c z) z=some (1,x.map .d):=by
  intro lo;have:sub (x.map V.d) 0 z=some (x.map .d):=bQ (by simpa using hx);simp only [aB,if_true,get_eq,hr,Nat.one_mul,this,Option.map_some]
 have hroom:∀ n,n<=big->roomy n by_=true:=λn hn=>by simp only [roomy,aw,bw]; exact ⟨hn,hby⟩
 have hfx:flat (K++[x])=flat K++x.map .d:=by rw [mh,ku,rH,List.append_nil]
 obtain ⟨h1,rfl⟩ | ⟨B,h1,h2,rfl,h4⟩ | ⟨B,rest,q,h2,rfl,h4,h5,h6⟩:=hv
 . subst h1;refine ⟨bs.length,none,bs++[.cells (x.map .d)],[],λlo=>lo,λlo=>by simp only [dP,hrc,aD,if_neg (show ¬ (1=0) by decide),if_neg (show ¬ z=0 by omega),hroom 1 (by decide),if_true]; rfl,hm,by simp [flat],λy hy=>?_⟩;rw [am (by omega)]
 . subst h1;have hsub:sub ([]:List V) 0 (0 * z)=some []:=by simp [sub]
   refine ⟨bs.length,none,bs++[.cells ([]++x.map .d)],[],λlo=>lo,λlo=>by simp only [dP,hrc,aD,ne_eq,not_true_eq_false,false_or,if_neg (show ¬ (1=0) by decide),if_neg (show ¬ z=0 by omega),get_eq,h4,hsub,hroom (0+1) (by decide),Bool.not_true,bo,if_false,if_neg (show ¬ (0+1<=0) by decide)]; rfl,hm,by simp [flat],λy hy=>?_⟩;rw [am (by omega)]
 . have hf:=iU hw;have hsub:sub (flat K++rest) 0 (K.length * z)=some (flat K):=by
    rw [eH,if_pos (by rw [aq,hf]; omega),List.drop_zero,← hf,List.take_left]
   have hbl:=aK h4;obtain hq | hq:=Nat.eq_zero_or_pos q
   . subst hq;have hr0:rest=[]:=List.eq_nil_of_length_eq_zero (by simpa using h5);subst hr0;have hpos:0<(flat K).length:=by rw [hf]; exact Nat.mul_pos (by omega) hz0
     simp only [List.append_nil] at h4 hsub;refine ⟨bs.length,none,bs.set B (.cells [])++[.cells (flat K++x.map .d)],[],λlo=>min lo B,λlo=>by simp only [dP,hrc,aD,ne_eq,not_true_eq_false,false_or,if_neg (show ¬ (1=0) by decide),if_neg (show ¬ z=0 by omega),get_eq,h4,hsub,hroom (K.length+1) (by omega),Bool.not_true,bo,if_false,hpos,and_self,if_true,Hp.size,Hp.alloc,Hp.set],hm,?_,λy hy=>?_⟩
     . have:au (bs.set B (.cells [])++[.cells (flat K++x.map .d)]) (bs.set B (.cells [])).length=some (flat K++x.map .d):=by rw [dh]; rfl
       rw [List.length_set] at this;rw [this,hfx,List.append_nil]
     . rw [am (by simp; omega),ac (by omega)]
   . have hqz:z<=q * z:=by have:=Nat.mul_le_mul_right z hq; rwa [Nat.one_mul] at this
     have hne:¬ (True/\(flat K).length=(flat K++rest).length/\0<(flat K++rest).length):=by
      rw [aq]; omega
     have hfit:0+(K.length+1) * z<=(flat K++rest).length:=by
      rw [aq,hf,Nat.add_mul]; omega
     have hput:put (flat K++rest) (0+K.length * z) (x.map V.d)=some (flat K++x.map .d++rest.drop z):=by
      unfold put;rw [if_pos (by rw [aq,cb,hx,hf]; omega),Nat.zero_add,← hf,List.take_left,cb,hx,List.drop_append,bb (by omega),Nat.add_sub_cancel_left];simp
     refine ⟨B,none,bs.set B (.cells (flat K++x.map .d++rest.drop z)),rest.drop z,λlo=>min lo B,λlo=>by simp only [dP,hrc,aD,ne_eq,not_true_eq_false,false_or,if_neg (show ¬ (1=0) by decide),if_neg (show ¬ z=0 by omega),get_eq,h4,hsub,hroom (K.length+1) (by omega),Bool.not_true,bo,if_false,if_neg hne,if_pos hfit,hput]; rfl,h2,?_,λy hy=>?_⟩
     . simp [au,hbl,hfx]
     . rw [ac (by omega)]
theorem vW {z:Nat}:∀ {l:List (List D)} {rest:List V},(∀ e∈l,e.length=z)->chunk z l.length (flat l++rest)=l.map λe=>e.map V.d
 | [],rest,_=>rfl
 | e::l,rest,h=>by
  have he:=h e (by simp);have ih:=vW (l:=l) (rest:=rest) λx hx=>h x (List.mem_cons_of_mem _ hx);have hl:(e.map V.d).length=z:=by simp [he]
  simp only [chunk,cj,List.range_succ_eq_map,cq,List.map_map,ku,List.append_assoc] at ih ⊢
  congr 1
  . rw [Nat.zero_mul,List.drop_zero,← hl,List.take_left]
  . rw [← ih];refine List.map_congr_left λi _=>?_;simp only [Function.comp,Nat.succ_eq_add_one,Nat.add_mul,Nat.one_mul];rw [List.drop_append,bb (by omega),hl,List.nil_append,Nat.add_sub_cancel]
theorem yM {α:Type}{cells:α->List D}{key:α->Int}{z p:Nat}{g idf:FuncId}(hz:∀ x,(cells x).length=z)(hkey:∀ x,(cells x)[p]?=some (.int .u64 (key x))){L:List α}(hnd:(L.map key).Nodup)(hne:L≠[])(hlen:L.length<=2 ^ 40){h:Hp}{b c:Nat}{cap:Option Nat}{rest:List V}
 (hb:au h.bs b=some (flat (L.map cells)++rest)) (hc:au h.bs c=some [.fn idf []]) (hbc:b≠c) :
 gp ⟨z,p,g,idf⟩ [.row b 0 L.length cap z,.fn g [.ptr c 0]] h=some (.tup [],h.set b (flat ((L.mergeSort λx y=>decide (key x<=key y)).map cells)++rest)):=by
 have hw:∀ e∈L.map cells,e.length=z:=by simp; intro a _; exact hz a
 have hch:=vW (rest:=rest) hw;rw [cb] at hch;have hkv:∀ x,GU p ((cells x).map V.d)=some (key x):=λx=>by simp [GU,hkey]
 have hki:∀ x,oZ p ((cells x).map V.d)=key x:=λx=>by simp [oZ,hkv]
 have hfl:=bz hz L;have h1:((L.map cells).map λe=>e.map V.d).map (oZ p)=L.map key:=by
  rw [List.map_map,List.map_map];exact List.map_congr_left λx _=>hki x
 have h2:gW p ((L.map cells).map λe=>e.map V.d)=((L.mergeSort λx y=>decide (key x<=key y)).map cells).map λe=>e.map V.d:=by
  rw [gW,List.map_map,List.map_map]
  symm
  refine List.map_mergeSort λx _ y _=>?_;simp only [Function.comp,hki]
 have h3:∀ l:List (List D),(l.map λe=>e.map V.d).flatten=flat l:=λl=>by simp only [flat,List.map_flatten]
 simp only [gp,get_eq,hb,hc];rw [if_pos]
 . rw [hch,h2,h3,← hfl,List.drop_left]
 . refine ⟨trivial,trivial,trivial,hbc,List.length_pos_iff.2 hne,hlen,by rw [aq,hfl]; omega,?_,?_⟩
   . rw [hch];intro r hr;obtain ⟨e,he,rfl⟩:=cd.1 hr;obtain ⟨x,_,rfl⟩:=cd.1 he;rw [hkv]; rfl
   . rw [hch,h1]; exact hnd
def kU {α:Type}(key:α->Int)(x:α)(l:List α):List α:=((l.filter λe=>!(key e==key x))++[x]).mergeSort λa b=>decide (key a<=key b)
end
end
section
variable {E:Calls'}
theorem WX {p:Pol}(hp:p.ok):∀ (m i:Nat) (n:Int) (J:List Blk),i+m=p.rules.l.length →
 ∃ n' J',Cd E TT ah (.loop [1,3,4] qV) [(1,.ptr 0 0),(3,.d (i64 n)),(4,.d (i64 i))] ⟨.cells (p.c.map .d)::J,0⟩=some (.exit 0,[(3,.d (i64 n'))],⟨.cells (p.c.map .d)::J',0⟩):=by
 have hlt:=hp.1.lt;intro m;have key:=ax (E:=E) (T:=TT) (val:=ah) [1,3,4] qV;generalize Cd E TT ah (.loop [1,3,4] qV)=W at key ⊢
 induction m with
 | zero =>
  intro i n J hi;refine ⟨n,J,?_⟩;rw [key];simp [qV,show ¬ ((i:Int)<p.rules.l.length) from by omega]
 | succ m ih =>
  intro i n J hi;have h1:i<p.rules.l.length:=by omega
  have hx:=λh=>bv (z:=3) h (ab h1) (cells:=Rule.c) rfl;have hw:=aI h1 hlt;have hfx:=hp.2 _ (bj h1);by_cases hn:n<=2000
  . generalize p.rules.l[i]=x at *;obtain ⟨n1,q1⟩:=WU (E:=E) hfx (h:=⟨.cells (p.c.map .d)::(J++[.cells (x.c.map .d)]),0⟩) (q:=J.length+1) (t1:=.ptr 0 0) (t4:=.d (i64 i)) (by simp) x.frm.l.length 0 (wrap .i64 (n+wrap .i64 (wrap .i64 (wrap .i64 (1+(x.frm.l.length:Int))+(x.to.l.length:Int))+(x.whn.l.length:Int)))) (by omega);obtain ⟨n2,q2⟩:=WV (E:=E) hfx (h:=⟨.cells (p.c.map .d)::(J++[.cells (x.c.map .d)]),0⟩) (q:=J.length+1) (t1:=.ptr 0 0) (t4:=.d (i64 i)) (by simp) x.to.l.length 0 n1 (by omega);obtain ⟨n3,q3⟩:=WW (E:=E) hfx (h:=⟨.cells (p.c.map .d)::(J++[.cells (x.c.map .d)]),0⟩) (q:=J.length+1) (t1:=.ptr 0 0) (t4:=.d (i64 i)) (by simp) x.whn.l.length 0 n2 (by omega);simp at q1 q2 q3;rw [key];simp [qV,hx,hn,show ((i:Int)<p.rules.l.length) from by omega];rw [aj];simp [q1];rw [aj];simp [q2];rw [aj];simp [q3,hw];rw [show ((i:Int)+1)=((i+1:Nat):Int) from by omega];exact ih (i+1) _ _ (by omega)
  . refine ⟨n,J,?_⟩;rw [key];simp [qV,hn,show ((i:Int)<p.rules.l.length) from by omega]
theorem S87 (p:Pol)(hp:p.ok):∃ n':Int,∀ h,Sm E TT ah 20 [ag p.c] h=some (.d (i64 n'),h):=by
 obtain ⟨k,hk⟩:=lZ (n:=p.ns.size);obtain ⟨n',J',q1⟩:=WX (E:=E) hp p.rules.l.length 0 (wrap .i64 (1+k)) [] (by omega);refine ⟨n',λh=>?_⟩;rw [aN t87 v87];simp at q1;simp [aa,q87,hk];rw [aj];simp [q1]
theorem WR (c:Cfg)(hc:c.ok):∀ (m i:Nat) (n:Int),i+m=c.pods.l.length →
 ∃ n',Cd E TT ah (.loop [1,3,4] qM) [(1,.ptr 0 0),(3,.d (i64 n)),(4,.d (i64 i))] ⟨[.cells (c.c.map .d)],0⟩=some (.exit 0,[(1,.ptr 0 0),(3,.d (i64 n'))],⟨[.cells (c.c.map .d)],0⟩):=by
 have hlt:=hc.1.lt;intro m;have key:=ax (E:=E) (T:=TT) (val:=ah) [1,3,4] qM;generalize Cd E TT ah (.loop [1,3,4] qM)=W at key ⊢
 induction m with
 | zero =>
  intro i n hi;refine ⟨n,?_⟩;rw [key];simp [qM,show ¬ ((i:Int)<c.pods.l.length) from by omega]
 | succ m ih =>
  intro i n hi;have h1:i<c.pods.l.length:=by omega
  have hx:=λh=>bv (z:=7) h (ab h1) (cells:=Pod.c) rfl;have hw:=aI h1 hlt;by_cases hn:n<=2000
  . generalize c.pods.l[i]=x at *;obtain ⟨k,hk⟩:=lZ (n:=wrap .i64 ((x.ns.size:Int)+(x.sa.size:Int)));rw [key];simp [qM,hx,hk,hw,hn,show ((i:Int)<c.pods.l.length) from by omega];rw [show ((i:Int)+1)=((i+1:Nat):Int) from by omega];exact ih (i+1) _ (by omega)
  . refine ⟨n,?_⟩;rw [key];simp [qM,hn,show ((i:Int)<c.pods.l.length) from by omega]
theorem WS (c:Cfg)(hc:c.ok):∀ (m i:Nat) (n:Int),i+m=c.services.l.length →
 ∃ n',Cd E TT ah (.loop [1,3,5] qN) [(1,.ptr 0 0),(3,.d (i64 n)),(5,.d (i64 i))] ⟨[.cells (c.c.map .d)],0⟩=some (.exit 2,[(1,.ptr 0 0),(3,.d (i64 n'))],⟨[.cells (c.c.map .d)],0⟩):=by
 have hlt:=hc.2.1.lt;intro m;have key:=ax (E:=E) (T:=TT) (val:=ah) [1,3,5] qN;generalize Cd E TT ah (.loop [1,3,5] qN)=W at key ⊢
 induction m with
 | zero =>
  intro i n hi;refine ⟨n,?_⟩;rw [key];simp [qN,show ¬ ((i:Int)<c.services.l.length) from by omega]
 | succ m ih =>
  intro i n hi;have h1:i<c.services.l.length:=by omega
  have hx:=λh=>bv (z:=5) h (ab h1) (cells:=Svc.c) rfl;have hw:=aI h1 hlt;by_cases hn:n<=2000
  . generalize c.services.l[i]=x at *;obtain ⟨k,hk⟩:=lZ (n:=x.ns.size);rw [key];simp [qN,hx,hk,hw,hn,show ((i:Int)<c.services.l.length) from by omega];rw [show ((i:Int)+1)=((i+1:Nat):Int) from by omega];exact ih (i+1) _ (by omega)
  . refine ⟨n,?_⟩;rw [key];simp [qN,hn,show ((i:Int)<c.services.l.length) from by omega]
theorem WT (c:Cfg)(hc:c.ok):∀ (m i:Nat) (n:Int),i+m=c.policies.l.length →
 ∃ n',Cd E TT ah (.loop [1,3,6] qO) [(1,.ptr 0 0),(3,.d (i64 n)),(6,.d (i64 i))] ⟨[.cells (c.c.map .d)],0⟩=some (.exit 4,[(3,.d (i64 n'))],⟨[.cells (c.c.map .d)],0⟩):=by
 have hlt:=hc.2.2.2.1.lt;intro m;have key:=ax (E:=E) (T:=TT) (val:=ah) [1,3,6] qO;generalize Cd E TT ah (.loop [1,3,6] qO)=W at key ⊢
 induction m with
 | zero =>
  intro i n hi;refine ⟨n,?_⟩;rw [key];simp [qO,show ¬ ((i:Int)<c.policies.l.length) from by omega]
 | succ m ih =>
  intro i n hi;have h1:i<c.policies.l.length:=by omega
  have hx:=λh=>bv (z:=5) h (ab h1) (cells:=Pol.c) rfl;have hw:=aI h1 hlt;have hfx:=hc.2.2.2.2 _ (bj h1);by_cases hn:n<=2000
  . generalize c.policies.l[i]=x at *;obtain ⟨k,hk⟩:=S87 (E:=E) x hfx;rw [key];simp [qO,hx,hk,hw,hn,show ((i:Int)<c.policies.l.length) from by omega];rw [show ((i:Int)+1)=((i+1:Nat):Int) from by omega];exact ih (i+1) _ (by omega)
  . refine ⟨n,?_⟩;rw [key];simp [qO,hn,show ((i:Int)<c.policies.l.length) from by omega]
theorem S31 (c:Cfg)(hc:c.ok):∃ b:Bool,∀ h,Sm E TT ah 5 [c.v] h=some (bl b,h):=by
 obtain ⟨n1,q1⟩:=WR (E:=E) c hc c.pods.l.length 0 (wrap .i64 (wrap .i64 ((c.pods.l.length:Int)+(c.services.l.length:Int))+(c.bound.l.length:Int))) (by omega);obtain ⟨n2,q2⟩:=WS (E:=E) c hc c.services.l.length 0 n1 (by omega);obtain ⟨n3,q3⟩:=WT (E:=E) c hc c.policies.l.length 0 n2 (by omega);refine ⟨decide (2000<n3),λh=>?_⟩;rw [aN t31 v31];simp at q1 q2 q3;simp [aa,q31];rw [aj];simp [q1];rw [aj];simp [q2];rw [aj];simp [q3]
end
section
variable {E:Calls'}
def bn (n:Int):List D:=[u32 n]
structure Vw where
 epoch:Int
 covers:Sl Int
 pods:Sl Pod
 services:Sl Svc
 bound:Sl Way
 policies:Sl Pol
def Vw.c (x:Vw):List D:=[u64 x.epoch,x.covers.d bn,x.pods.d Pod.c,x.services.d Svc.c,x.bound.d Way.c,x.policies.d Pol.c]
abbrev Vw.v (x:Vw):V:=ag x.c
def Vw.cfg (x:Vw):Cfg:=⟨0,0,0,0,x.pods,x.services,x.bound,x.policies⟩
abbrev Vw.ok (x:Vw):Prop:=short x.covers/\x.cfg.ok
@[simp] theorem Vw.len {x:Vw}:x.c.length=6:=(rfl)
@[simp] theorem Vw.all {x:Vw}:sub x.c 0 6=some x.c:=(rfl)
@[simp] theorem Vw.s0_1 {x:Vw}:sub x.c 0 1=some [u64 x.epoch]:=(rfl)
@[simp] theorem Vw.s1_1 {x:Vw}:sub x.c 1 1=some [x.covers.d bn]:=(rfl)
@[simp] theorem Vw.s2_1 {x:Vw}:sub x.c 2 1=some [x.pods.d Pod.c]:=(rfl)
@[simp] theorem Vw.s3_1 {x:Vw}:sub x.c 3 1=some [x.services.d Svc.c]:=(rfl)
@[simp] theorem Vw.s4_1 {x:Vw}:sub x.c 4 1=some [x.bound.d Way.c]:=(rfl)
@[simp] theorem Vw.s5_1 {x:Vw}:sub x.c 5 1=some [x.policies.d Pol.c]:=(rfl)
structure Fnd where
 kind:Int
 pod:Pod
 service:Svc
 way:Way
def Fnd.c (x:Fnd):List D:=i64 x.kind::(x.pod.c++(x.service.c++x.way.c))
abbrev Fnd.v (x:Fnd):V:=ag x.c
def fnd0:Fnd:=⟨0,pod0,svc0,way0⟩
@[simp] theorem Fnd.len {x:Fnd}:x.c.length=15:=(rfl)
@[simp] theorem Fnd.all {x:Fnd}:sub x.c 0 15=some x.c:=(rfl)
@[simp] theorem Fnd.s1_7 {x:Fnd}:sub x.c 1 7=some x.pod.c:=(rfl)
@[simp] theorem Fnd.s7_1 {x:Fnd}:sub x.c 7 1=some [u64 x.pod.service]:=(rfl)
@[simp] theorem Fnd.s8_5 {x:Fnd}:sub x.c 8 5=some x.service.c:=(rfl)
@[simp] theorem ea8:[(V.d (.int .i64 0)),(.d (.int .u64 0)),(.d (.str ⟨#[]⟩)),(.d (.str ⟨#[]⟩)),(.d (.int .i64 0)),(.d (.int .u32 0)),(.d (.int .i64 0)),(.d (.int .u64 0)),(.d (.int .u64 0)),(.d (.str ⟨#[]⟩)),(.d (.int .u32 0)),(.d (.int .i64 0)),(.d (.int .u64 0)),(.d (.int .u64 0)),(.d (.int .i64 0))]=fnd0.c.map .d:=(rfl)
@[simp] theorem bu2 {x:Fnd}{k:Int}:put (x.c.map V.d) 0 [.d (i64 k)]=some ((Fnd.c { x with kind:=k }).map .d):=(rfl)
@[simp] theorem ea7 {x:Fnd}{k:Int}:V.d (.int .i64 k)::(x.c.map V.d).tail=(Fnd.c { x with kind:=k }).map .d:=(rfl)
@[simp] theorem ea6 {x:Fnd}:(x.c.map V.d).drop 15=[]:=(rfl)
@[simp] theorem bu3 {x:Fnd}{p:Pod}:put (x.c.map V.d) 1 (p.c.map .d)=some ((Fnd.c { x with pod:=p }).map .d):=(rfl)
@[simp] theorem bu4 {x:Fnd}{p:Svc}:put (x.c.map V.d) 8 (p.c.map .d)=some ((Fnd.c { x with service:=p }).map .d):=(rfl)
@[simp] theorem av8 {x:Fnd}{p:Way}:put (x.c.map V.d) 13 (p.c.map .d)=some ((Fnd.c { x with way:=p }).map .d):=(rfl)
@[simp] theorem av9 {x y:Fnd}:put (x.c.map V.d) 0 (y.c.map .d)=some (y.c.map .d):=(rfl)
def Fnd.eqB (x y:Fnd):Bool:=x.kind==y.kind&&(x.pod.uid==y.pod.uid&&(eqS x.pod.ns y.pod.ns&&(eqS x.pod.sa y.pod.sa&&(x.pod.host==y.pod.host&&(x.pod.addr==y.pod.addr&&(x.pod.port==y.pod.port&&(x.pod.service==y.pod.service&&(x.service.id==y.service.id&&(eqS x.service.ns y.service.ns&&(x.service.addr==y.service.addr&&(x.service.port==y.service.port&&(x.service.way==y.service.way&&(x.way.id==y.way.id&&(x.way.node==y.way.node&&true))))))))))))))
@[simp] theorem av5 {h:Hp}{n:Bool}{x y:Fnd}:eqv (.agg [(.i .i64),(.i .u64),.s,.s,(.i .i64),(.i .u32),(.i .i64),(.i .u64),(.i .u64),.s,(.i .u32),(.i .i64),(.i .u64),(.i .u64),(.i .i64)]) n (ag x.c) (ag y.c) h=some (.d (.bool (x.eqB y != n)),h):=by
 simp [eqv,iK,ag,Fnd.c,Pod.c,Svc.c,Way.c,bJ,oz,Fnd.eqB,eqS]
@[simp] theorem Fnd.eqB_refl (x:Fnd):x.eqB x=true:=by simp [Fnd.eqB]
end
section
variable {E:Calls'}
@[simp] theorem R4 {α:Type}(l:List α):l.find? (λ_=>false)=none:=by simp [List.find?_eq_none]
theorem bd9 {s:Sl Int}(hs:short s)(n:Int)(h:Hp):∀ (m i:Nat),i+m=s.l.length →
 Cd E TT ah (.loop [0,1,7,8] nH) [(0,.d (s.d bn)),(1,.d (u32 n)),(7,.d (i64 s.l.length)),(8,.d (i64 i))] h =
  match (s.l.drop i).findIdx? (λx=>x==n) with
  | some k=>some (.ret,[(4,.d (i64 (i+k:Nat)))],h)
  | none=>some (.exit 0,[],h):=by
 have hlt:=hs.lt;intro m;have key:=ax (E:=E) (T:=TT) (val:=ah) [0,1,7,8] nH;generalize Cd E TT ah (.loop [0,1,7,8] nH)=W at key ⊢
 induction m with
 | zero =>
  intro i hi;have h0:s.l.drop i=[]:=bb (by omega);rw [key];simp [nH,h0,show ¬ ((i:Int)<s.l.length) from by omega]
 | succ m ih =>
  intro i hi;have h1:i<s.l.length:=by omega
  have hx:=λh=>bv (z:=1) h (ab h1) (cells:=bn) rfl;have hw:=aI h1 hlt;have:=ih (i+1) (by omega);rw [key,ba h1];generalize s.l[i]=x at *;by_cases hq:x=n
  . simp [nH,hx,hq,bn,List.findIdx?_cons,show ((i:Int)<s.l.length) from by omega]
  . have hq':(x==n)=false:=by simpa using hq
    have hq2:¬ n=x:=λh=>hq h.symm;simp [nH,hx,hq',hq2,bn,hw,List.findIdx?_cons,show ((i:Int)<s.l.length) from by omega];rw [show ((i:Int)+1)=((i+1:Nat):Int) from by omega,this];cases hfi:(s.l.drop (i+1)).findIdx? (λp=>p==n) with
    | none=>rfl
    | some k=>simp; omega
theorem Xp {s:Sl Int}(hs:short s)(n:Int)(h:Hp):Sm E TT ah 193 [.d (s.d bn),.d (u32 n)] h=some (.d (i64 (lV s.l λx=>x==n)),h):=by
 rw [aN t232 v232];have k1:=λh=>bd9 (E:=E) hs n h s.l.length 0 (by omega);simp at k1;simp [aa,OA];rw [aj];simp [k1,lV];cases s.l.findIdx? (λx=>x==n) with
 | none=>simp
 | some k=>simp
def fU (l:List Int)(n:Int):Bool:=(l.find? λx=>x==n).isSome
theorem Xf {s:Sl Int}(hs:short s)(n:Int)(h:Hp):Sm E TT ah 89 [.d (s.d bn),.d (u32 n)] h=some (bl (fU s.l n),h):=by
 rw [aN t117 v117];obtain ⟨g1,g2⟩ | ⟨k,p,g1,g2,g3⟩:=iG s.l (λx=>x==n)
 . simp [aa,La,Xp hs,g2,fU,g1]
 . simp [aa,La,Xp hs,g2,fU,g1]
end
section
variable {E:Calls'}
end
section
section
variable {E:Calls'}
def r9:List V:=[(.d (.int .u64 0)),(.d (.str ⟨#[]⟩)),(.d (.int .u64 0)),(.d (.int .i64 0)),(.d (.slice true []))]
theorem ak7:TT 227=some (idxQ 5):=aj5
end
end
section
variable {E:Calls'}
theorem Eo {l:List Pol}{bs0:List Blk}{b:Nat}(hb:au bs0 b=some (flat (l.map Pol.c))):Thin Pol.c 5 l bs0 b [] bs0 :=
 ⟨br _,λ_ _ _=>rfl,by rw [hb]; simp⟩
theorem Md {l m:List Pol}{bs0 bs:List Blk}{b:Nat}(h:Thin Pol.c 5 l bs0 b m bs)(hm:m.length=l.length):au bs b=some (flat (m.map Pol.c)):=by
 have h1:=bz (cells:=Pol.c) (z:=5) (λ_=>rfl) l;rw [h.row,hm,bb (by rw [h1]; omega),List.append_nil]
end
section
variable {E:Calls'}
end
section
variable {E:Calls'}
end
section
def Bh (x i:V)(h:Hp):Option (V×Hp):=match i,x with
 | .d (.int _ i),.d (.str s)=>if 0<=i then (match s.toList[i.toNat]? with | some b=>some (.d (.int .u8 b.toNat),h) | none=>none) else none
 | _,_=>none
section
variable {C:Calls'}{ev:X->V}{h:Hp}
@[simp] theorem YO {x i:X}:opE C (.idxS x i) ev h=Bh (ev x) (ev i) h:=(rfl)
end
theorem Bi {s:ByteArray}{k:Nat}{b:UInt8}{h:Hp}(hk:s.toList[k]?=some b):Bh (.d (.str s)) (.d (.int .i64 k)) h=some (.d (.int .u8 b.toNat),h):=by
 simp [Bh,hk]
theorem lL (s:ByteArray):s.toList.length=s.size:=by rw [df]; rfl
variable {E:Calls'}
def C9 (b:UInt8):Bool:=decide ((b.toNat:Int)<33)||(decide ((b.toNat:Int)>126)||((b.toNat:Int)==42||(b.toNat:Int)==44))
def lW:List UInt8->Bool
 | []=>false
 | b::l=>C9 b||lW l
def j5 (t:Term):Bool:=!lW t.text.toList&&(if t.kind==4 then eqS t.text ⟨#[]⟩ else decide (1<=t.kind)&&(decide (t.kind<=3)&&(decide ((t.text.size:Int)>=1)&&decide ((t.text.size:Int)<=64))))
theorem be5 (t:Term)(ht:t.text.size<=big):∀ (m i:Nat),i+m=t.text.size →
 Cd E TT ah (.loop [1,3] jA) [(1,.ptr 0 0),(3,.d (i64 i))] ⟨[.cells (t.c.map .d)],0⟩ =
  if lW (t.text.toList.drop i) then some (.ret,[(2,bl false)],⟨[.cells (t.c.map .d)],0⟩) else some (.exit 0,[(1,.ptr 0 0)],⟨[.cells (t.c.map .d)],0⟩):=by
 have hlt:t.text.size<2 ^ 62:=cg ht (by decide);have hsl:=lL t.text;intro m;have key:=ax (E:=E) (T:=TT) (val:=ah) [1,3] jA;generalize Cd E TT ah (.loop [1,3] jA)=W at key ⊢
 induction m with
 | zero =>
  intro i hi;rw [key,bb (by omega)];simp [jA,lW,show ¬ ((i:Int)<t.text.size) from by omega]
 | succ m ih =>
  intro i hi;have h1:i<t.text.toList.length:=by omega
  have hx:=λh=>Bi (h:=h) (ab h1);have hw:=aI (show i<t.text.size by omega) hlt;have:=ih (i+1) (by omega);rw [key,ba h1];generalize t.text.toList[i]=b at *;have h0:((i:Int)<t.text.size):=by omega
  by_cases c1:(b.toNat:Int)<33
  . simp [jA,hx,c1,lW,C9,ai,h0]
  . by_cases c2:(b.toNat:Int)>126
    . simp [jA,hx,c1,c2,lW,C9,ai,h0]
    . by_cases c3:(b.toNat:Int)=42
      . simp [jA,hx,c3,lW,C9,ai,h0]
      . by_cases c4:(b.toNat:Int)=44
        . simp [jA,hx,c4,lW,C9,ai,h0]
        . have hb:C9 b=false:=by simp [C9,c1,c2,c3,c4]
          simp [lW,hb,jA,hx,c1,c2,c3,c4,ai,h0,hw];simpa using this
theorem bn3 (t:Term)(ht:t.text.size<=big)(h:Hp):Sm E TT ah 387 [ag t.c] h=some (bl (j5 t),h):=by
 rw [aN de5 dw0];have k1:=be5 (E:=E) t ht t.text.size 0 (by omega);simp at k1;simp [aa,Vl];rw [aj];simp [k1];cases hb:lW t.text.toList with
 | true=>simp [j5,hb]
 | false =>
  by_cases c0:t.kind=4
  . simp [j5,hb,c0]
  . by_cases c1:t.kind>=1<;>by_cases c2:t.kind<=3<;>by_cases c3:(t.text.size:Int)>=1<;>simp [j5,hb,c0,ai,c1,c2,c3]
theorem dj5:TT 399=some (idxQ 2):=de8
theorem dj2:TT 385=some (anyQ 399):=de3
theorem dj1:TT 384=some idx1Q:=de2
theorem di4:TT 366=some (anyQ 384):=dd0
theorem bn2 (t:Term)(ht:t.text.size<=big)(h:Hp):Sm E TT ah 386 [ag t.c] h=some (bl (!j5 t),h):=by
 rw [av de4 dv9];simp [aa,Vk,bn3 t ht,V.under]
def bi (s:Sl Term):Bool:=decide ((s.l.length:Int)<=6)&&s.l.all j5
theorem bm9 (s:Sl Term)(hs:short s)(ht:∀ t∈s.l,t.text.size<=big)(h:Hp):Sm E TT ah 368 [.d (s.d Term.c)] h=some (bl (bi s),h):=by
 rw [aN dd3 du8];have hany:=gP (E:=E) (T:=TT) (val:=ah) Term.c (z:=2) dj5 dw3 dj2 dv8 (v:=.d (s.d Term.c)) (es:=s.l) (f:=386) (caps:=[]) (q:=λt=>!j5 t) (h:=⟨[],0⟩) (RowIs.of (cells:=Term.c) (z:=2) (λ_=>rfl) _) hs.lt (λe he lo=>bn2 e (ht e he) _);by_cases hm:(s.l.length:Int)<=6
 . simp [aa,Pe,hm,hany,ai,bi,← uY]
 . simp [aa,Pe,hm,ai,bi]
theorem bm8 (s:Sl Term)(hs:short s)(ht:∀ t∈s.l,t.text.size<=big)(h:Hp):Sm E TT ah 367 [.d (s.d Term.c)] h=some (bl (!bi s),h):=by
 rw [av dd2 du7];simp [aa,Vi,bm9 s hs ht,V.under]
theorem Re (ls:List (Sl Term))(hl:ls.length<2 ^ 62)(hs:∀ s∈ls,short s/\∀ t∈s.l,t.text.size<=big)(a:V)(h:Hp)(ha:frz h a=some (.d (.slice false (ls.map λs=>[s.d Term.c])))):Sm E TT ah 338 [a] h=some (bl (ls.all bi),h):=by
 rw [aN db8 dt4];have hr:RowIs ([]:List Blk) (.d (.slice false (ls.map λs=>[s.d Term.c]))) 1 (ls.map λs=>[s.d Term.c]):=⟨by simp,.inl ⟨false,rfl⟩⟩;have hany:=Jd (E:=E) (T:=TT) (val:=ah) (Sl.d Term.c) dj1 dv7 di4 du6 (es:=ls) (f:=367) (caps:=[]) (q:=λs=>!bi s) (h:=⟨[],0⟩) hr hl (λe he lo=>bm8 e (hs e he).1 (hs e he).2 _);simp [aa,Vf,ha,hany,← uY,qh,xc,rZ]
end
section
def rV (mx:Bool)(l:List V)(h:Hp):Option (V×Hp):=match l with
 | []=>none
 | x::xs=>match gJ mx x xs with
  | some v=>some (v,h)
  | none=>none
def JH (k:IntKind)(x:V)(h:Hp):Option (V×Hp):=match x with
 | .d (.int _ n)=>some (.d (.int k (k.wrap n)),h)
 | _=>none
section
variable {C:Calls'}{ev:X->V}{h:Hp}
@[simp] theorem Tf {mx:Bool}{a b:X}:opE C (.minmax mx [a,b]) ev h=if okV (ev a)&&(okV (ev b)&&true) then rV mx [ev a,ev b] h else none:=(rfl)
@[simp] theorem Wn {k:IntKind}{x:X}:opE C (.convI k x) ev h=JH k (ev x) h:=(rfl)
@[simp] theorem RP {k k':IntKind}{n:Int}:JH k (.d (.int k' n)) h=some (.d (.int k (k.wrap n)),h):=(rfl)
@[simp] theorem Yy {k:IntKind}{a b:Int}:rV true [.d (.int k a),.d (.int k b)] h=some (.d (.int k (if b>a then b else a)),h):=by simp [rV,gJ]
@[simp] theorem Yx {k:IntKind}{a b:Int}:rV false [.d (.int k a),.d (.int k b)] h=some (.d (.int k (if b<a then b else a)),h):=by simp [rV,gJ]
end
section
variable {k k':IntKind}{a b:Int}
theorem M8 (hb:0<=b):bR .shl (.d (.int k a)) (.d (.int k' b))=some (.int k (k.wrap (a * 2 ^ (min b.toNat k.bits)))):=by simp [bR,show ¬ b<0 by omega]
theorem kW (hb:0<=b):bR .shr (.d (.int k a)) (.d (.int k' b))=some (.int k (a.fdiv (2 ^ (min b.toNat k.bits)))):=by simp [bR,show ¬ b<0 by omega]
def zh (k:IntKind)(a b:Int):Int:=k.wrap ((BitVec.ofInt k.bits a &&& ~~~ BitVec.ofInt k.bits b).toNat)
theorem Da:bR .andNot (.d (.int k a)) (.d (.int k b))=some (.int k (zh k a b)):=by simp [bR,eZ,zh]
end
variable {E:Calls'}
theorem Xr (n:Int)(h:Hp):Sm E TT ah 120 [.d (i64 n)] h=some (bl (decide (n>=1)&&decide (n<=65535)),h):=by
 rw [aN cw5 dn9];by_cases c1:n>=1<;>simp [aa,OJ,ai,c1]
theorem bi2 (n:Int)(h:Hp):Sm E TT ah 125 [.d (u64 n)] h=some (bl (decide (n>=1)&&decide (n<=4611686018427387903)),h):=by
 rw [aN cx0 do3];by_cases c1:n>=1<;>simp [aa,OM,ai,c1]
def Ku (n:Int):Int:=wrap .u32 (wrap .u64 (4294967296-wrap .u64 (1 * 2 ^ (min (wrap .i64 (32-n)).toNat 64))))
theorem bn0 (n:Int)(h0:0<=n)(h1:n<=32)(h:Hp):Sm E TT ah 371 [.d (i64 n)] h=some (.d (u32 (Ku n)),h):=by
 rw [aN dd6 dv1];have hw:wrap .i64 (32-n)=32-n:=wrap64 (by omega) (by omega);have hs:=M8 (k:=.u64) (k':=.i64) (a:=1) (b:=32-n) (by omega);have e1:(if (0:Int)>n then 0 else n)=n:=if_neg (by omega);have e2:(if (32:Int)<n then 32 else n)=n:=if_neg (by omega);simp [aa,Vj,hw,hs,e1,e2,Ku,IntKind.bits]
def rF (c:Cidr):Bool:=decide (c.bits>=0)&&(decide (c.bits<=32)&&(zh .u32 c.addr (Ku c.bits)==0))
theorem bm4 (c:Cidr)(h:Hp):Sm E TT ah 340 [ag c.c] h=some (bl (rF c),h):=by
 rw [aN dc0 dt6];by_cases c1:c.bits>=0
 . by_cases c2:c.bits<=32
   . simp +decide [aa,Lm,c1,c2,rF,bn0 c.bits c1 c2,Da,aA,ae]
   . simp +decide [aa,Lm,c1,c2,rF,aA,bA]
 . simp +decide [aa,Lm,c1,rF,aA,bA]
end
section
theorem Di (s:ByteArray)(pos:Nat)(h:pos<s.size)(ha:¬ (s[pos]'h).toNat<128):128<=(Utf8.decode s pos).1:=by
 have e:s.get! (pos+0)=s[pos]'h:=by
  show s.get! pos=_;simp [ByteArray.get!,getElem!_pos,h];rfl
 simp only [Utf8.decode,e,ha,if_false]
 repeat' split
 all_goals first | (simp only [Utf8.runeError]; omega) | (rename_i hh; simp only [aw,bw] at hh; dsimp only; omega) | (rename_i hh; simp only [aw,bw] at hh; have:=hh.1; dsimp only; omega) | (dsimp only; omega)
def Lp (x:V)(h:Hp):Option (V×Hp):=match x with
 | .d (.str s)=>some (.ptr h.size 0,{ h with bs:=h.bs++[.iter s 0] })
 | _=>none
def uN (x:V)(h:Hp):Option (V×Hp):=match x with
 | .ptr b 0=>match h.bs[b]? with
  | some (.iter s pos) =>
   if pos<s.size then
    let (c,w):=Utf8.decode s pos
    some (.tup [.d (.bool true),.d (.int .i64 pos),.d (.int .i32 c)],⟨h.bs.set b (.iter s (pos+w)),min h.low b⟩)
   else some (.tup [.d (.bool false)],h)
  | _=>none
 | _=>none
section
variable {C:Calls'}{ev:X->V}{h:Hp}
@[simp] theorem Wo {x:X}:opE C (.range x) ev h=Lp (ev x) h:=(rfl)
@[simp] theorem YQ {x:X}:opE C (.next x) ev h=uN (ev x) h:=(rfl)
@[simp] theorem ZM {s:ByteArray}:Lp (.d (.str s)) ⟨[],0⟩=some (.ptr 0 0,⟨[.iter s 0],0⟩):=(rfl)
end
theorem G8 {s:ByteArray}{pos:Nat}(h:¬ pos<s.size):uN (.ptr 0 0) ⟨[.iter s pos],0⟩=some (.tup [bl false],⟨[.iter s pos],0⟩):=by simp [uN,h]
theorem BD {s:ByteArray}{pos:Nat}{b:UInt8}(hb:s.toList[pos]?=some b)(ha:b.toNat<128):uN (.ptr 0 0) ⟨[.iter s pos],0⟩=some (.tup [bl true,.d (i64 pos),.d (.int .i32 b.toNat)],⟨[.iter s (pos+1)],0⟩):=by
 have hl:=lL s;have h:pos<s.size:=by rw [← hl]; exact (bx.1 hb).1
 have he:s[pos]'h=b:=by
  have:=(bx.1 hb).2;simp only [df] at this;exact this
 have hd:=decode_ascii s pos h (by rw [he]; exact ha);simp [uN,h,hd,he]
theorem G7 {s:ByteArray}{pos:Nat}{b:UInt8}(hb:s.toList[pos]?=some b)(ha:¬ b.toNat<128):∃ (c:Nat) (q:Nat),128<=c/\uN (.ptr 0 0) ⟨[.iter s pos],0⟩=some (.tup [bl true,.d (i64 pos),.d (.int .i32 c)],⟨[.iter s q],0⟩):=by
 have hl:=lL s;have h:pos<s.size:=by rw [← hl]; exact (bx.1 hb).1
 have he:s[pos]'h=b:=by
  have:=(bx.1 hb).2;simp only [df] at this;exact this
 have hd:=Di s pos h (by rw [he]; exact ha);exact ⟨(Utf8.decode s pos).1,pos+(Utf8.decode s pos).2,hd,by simp [uN,h]⟩
end
section
end
section
variable {E:Calls'}
def Bq (n i c:Nat):Bool:=!((decide ((c:Int)>=97)&&decide ((c:Int)<=122))||((decide ((c:Int)>=48)&&decide ((c:Int)<=57))||(((c:Int)==45)&&!(((i:Int)==0)||((i:Int)+1==n)))))
def o8 (n:Nat):Nat->List UInt8->Bool
 | _,[]=>false
 | i,b::l=>Bq n i b.toNat||o8 n (i+1) l
def cu (s:ByteArray):Bool:=!o8 s.size 0 s.toList&&(decide ((s.size:Int)>=1)&&decide ((s.size:Int)<=20))
theorem be7 (s:ByteArray)(i c:Nat)(bs bs':List Blk)(hn:uN (.ptr 0 0) ⟨bs,0⟩=some (.tup [bl true,.d (i64 i),.d (.int .i32 c)],⟨bs',0⟩))(hi:i<s.size)(hs:s.size<2 ^ 62)(W:EA->Hp->jf) :
 iw [0,7] W (Cd E TT ah nJ [(0,.d (.str s)),(7,.ptr 0 0)] ⟨bs,0⟩)=(if Bq s.size i c then some (.ret,[(2,bl false)],⟨bs',0⟩) else W [(0,.d (.str s)),(7,.ptr 0 0)] ⟨bs',0⟩):=by
 have hw:=aI hi hs;have e0:∃ t,((i:Int)==0)=t:=⟨_,rfl⟩;obtain ⟨t0,e0⟩:=e0;have e1:∃ t,((i:Int)+1==s.size)=t:=⟨_,rfl⟩;obtain ⟨t1,e1⟩:=e1;by_cases c1:(c:Int)>=97<;>by_cases c2:(c:Int)<=122<;>by_cases c3:(c:Int)>=48<;>by_cases c4:(c:Int)<=57<;>by_cases c5:(c:Int)=45<;>first
  | (exfalso; omega)
  | (simp only [Bq,c1,c2,c3,c4,c5,e0,e1]; cases t0<;>cases t1<;>simp [nJ,hn,ai,hw,e0,e1,c1,c2,c3,c4,c5])
theorem Br {n i c:Nat}(h:128<=c):Bq n i c=true:=by
 have h1:¬ ((c:Int)<=122):=by omega
 have h2:¬ ((c:Int)<=57):=by omega
 have h3:¬ ((c:Int)=45):=by omega
 simp [Bq,h1,h2,h3]
theorem be1 (s:ByteArray)(hs:s.size<2 ^ 62):∀ (m i:Nat),i+m=s.size →
 ∃ q,Cd E TT ah (.loop [0,7] nJ) [(0,.d (.str s)),(7,.ptr 0 0)] ⟨[.iter s i],0⟩ =
  if o8 s.size i (s.toList.drop i) then some (.ret,[(2,bl false)],⟨[.iter s q],0⟩) else some (.exit 0,[(0,.d (.str s))],⟨[.iter s q],0⟩):=by
 have hsl:=lL s;intro m;have key:=ax (E:=E) (T:=TT) (val:=ah) [0,7] nJ;have hk:aT [0,7] [(0,.d (.str s)),(7,.ptr 0 0)]=[(0,.d (.str s)),(7,.ptr 0 0)]:=rfl;have hR:=λi c bs bs' hn hi=>be7 (E:=E) s i c bs bs' hn hi hs;generalize Cd E TT ah (.loop [0,7] nJ)=W at key ⊢
 induction m with
 | zero =>
  intro i hi;refine ⟨i,?_⟩;rw [key,bb (by omega)];simp [nJ,o8,G8 (show ¬ i<s.size by omega)]
 | succ m ih =>
  intro i hi;have h1:i<s.toList.length:=by omega
  have hb:=ab h1;rw [ba h1];obtain ⟨q,hq⟩:=ih (i+1) (by omega);generalize s.toList[i]=b at *;by_cases ha:b.toNat<128
  . refine ⟨if Bq s.size i b.toNat then i+1 else q,?_⟩;rw [key,hk,hR i b.toNat _ _ (BD hb ha) (by omega) W];cases hl:Bq s.size i b.toNat with
    | true=>simp [o8,hl]
    | false=>simp [o8,hl,hq]
  . obtain ⟨c,q',hc,hn⟩:=G7 hb ha;refine ⟨q',?_⟩;have hl:Bq s.size i b.toNat=true:=Br (by omega);rw [key,hk,hR i c _ _ hn (by omega) W,Br hc];simp [o8,hl]
theorem MP (s:ByteArray)(hs:s.size<=big)(h:Hp):Sm E TT ah 126 [.d (.str s)] h=some (bl (cu s),h):=by
 rw [aN cx1 do4];obtain ⟨q,k1⟩:=be1 (E:=E) s (cg hs (by decide)) s.size 0 (by omega);simp at k1;simp [aa,OO];rw [aj];simp [k1];cases hb:o8 s.size 0 s.toList with
 | true=>simp [cu,hb]
 | false=>by_cases c1:(s.size:Int)>=1<;>simp [cu,hb,ai,c1]
theorem bh7 (a b:ByteArray)(ha:a.size<=big)(hb:b.size<=big)(h:Hp):Sm E TT ah 119 [ag [.str a,.str b]] h=some (bl (cu a&&cu b),h):=by
 rw [aN cw4 dn8];have h1:=MP (E:=E) a ha;have h2:=MP (E:=E) b hb;cases hl:cu a<;>simp [aa,OI,h1,h2,hl,ai]
end
section
variable {E:Calls'}
def tokN:List Int:=[0,0,0,0,0,0,0,0,0,0,0,0,0,0,0,0,0,0,0,0,0,0,0,0,0,0,0,0,0,0,0,0,0,1,0,1,1,1,1,1,0,0,1,1,0,1,1,0,1,1,1,1,1,1,1,1,1,1,0,0,0,0,0,0,0,0,0,0,0,0,0,0,0,0,0,0,0,0,0,0,0,0,0,0,0,0,0,0,0,0,0,0,0,0,1,1,1,1,1,1,1,1,1,1,1,1,1,1,1,1,1,1,1,1,1,1,1,1,1,1,1,1,1,0,1,0,1,0,0,0,0,0,0,0,0,0,0,0,0,0,0,0,0,0,0,0,0,0,0,0,0,0,0,0,0,0,0,0,0,0,0,0,0,0,0,0,0,0,0,0,0,0,0,0,0,0,0,0,0,0,0,0,0,0,0,0,0,0,0,0,0,0,0,0,0,0,0,0,0,0,0,0,0,0,0,0,0,0,0,0,0,0,0,0,0,0,0,0,0,0,0,0,0,0,0,0,0,0,0,0,0,0,0,0,0,0,0,0,0,0,0,0,0,0,0,0,0,0,0,0,0,0,0,0,0,0]
def tokL:List D:=tokN.map i64
theorem CO:tokL.length=256:=rfl
theorem ba2 (C:Calls'):aS C 300 q477.code [] ⟨[],0⟩=some (.ret,[(0,.ptr 0 0)],⟨[.cells (tokL.map .d),.iter ⟨#[97,98,99,100,101,102,103,104,105,106,107,108,109,110,111,112,113,114,115,116,117,118,119,120,121,122,48,49,50,51,52,53,54,55,56,57,33,35,36,37,38,39,42,43,45,46,94,95,96,124,126]⟩ 51],0⟩):=by kernel_rfl
theorem bn1 (h:Hp):Sm E TT ah 377 [] h=some (ag tokL,h):=by
 rw [aN de1 dv6];have h1:Cd E TT ah q477.code (jM 0 []) ⟨[],0⟩=_:=gH (k:=0) (ba2 _);have hr:q477.res=[.cell 0 false 256]:=rfl;have hs:=bQ CO;have h2:Bd E TT ah q477 [] ⟨[],0⟩=some (ag tokL,⟨[.cells (tokL.map .d),.iter ⟨#[97,98,99,100,101,102,103,104,105,106,107,108,109,110,111,112,113,114,115,116,117,118,119,120,121,122,48,49,50,51,52,53,54,55,56,57,33,35,36,37,38,39,42,43,45,46,94,95,96,124,126]⟩ 51],0⟩):=by
  show fin q477.res (Cd E TT ah q477.code (jM 0 []) ⟨[],0⟩)=_;rw [h1,hr];generalize tokL=L at hs ⊢;simp [hs]
 simp only [List.mapM_nil,Option.pure_def,xI,h2,VO,Dr,VQ];simp
def Me (b:UInt8):Int:=tokN.getD b.toNat 0
def ni:List UInt8->Bool
 | []=>false
 | b::l=>Me b==0||ni l
def kY (s:ByteArray):Bool:=!ni s.toList&&(decide ((s.size:Int)>=1)&&decide ((s.size:Int)<=64))
theorem VI (b:UInt8):sub tokL b.toNat 1=some [i64 (Me b)]:=by
 have hb:b.toNat<256:=b.toNat_lt;have hl:tokN.length=256:=rfl;have e1:(tokN.drop b.toNat).take 1=[tokN[b.toNat]]:=by rw [ba (by omega)]; rfl
 rw [tokL,PK,eH,if_pos (by omega),e1,Me,bp,ab (by omega)];rfl
theorem be4 (s:ByteArray)(hs:s.size<2 ^ 62):∀ (m i:Nat),i+m=s.size →
 Cd E TT ah (.loop [0,3,4] nS) [(0,.d (.str s)),(3,.ptr 0 0),(4,.d (i64 i))] ⟨[.cells (tokL.map .d)],0⟩ =
  if ni (s.toList.drop i) then some (.ret,[(2,bl false)],⟨[.cells (tokL.map .d)],0⟩) else some (.exit 0,[(0,.d (.str s))],⟨[.cells (tokL.map .d)],0⟩):=by
 have hsl:=lL s;have htok:=VI;generalize tokL=TL at htok ⊢;intro m;have key:=ax (E:=E) (T:=TT) (val:=ah) [0,3,4] nS;generalize Cd E TT ah (.loop [0,3,4] nS)=W at key ⊢
 induction m with
 | zero =>
  intro i hi;rw [key,bb (by omega)];simp [nS,ni,show ¬ ((i:Int)<s.size) from by omega]
 | succ m ih =>
  intro i hi;have h1:i<s.toList.length:=by omega
  have hx:=λh=>Bi (h:=h) (ab h1);have hw:=aI (show i<s.size by omega) hs;have:=ih (i+1) (by omega);rw [key,ba h1];generalize s.toList[i]=b at *;have h0:((i:Int)<s.size):=by omega
  have hb:b.toNat<256:=b.toNat_lt;have hix:∀ h,iL (some 256) 1 (.ptr 0 0) (.d (.int .u8 b.toNat)) h=some (.ptr 0 b.toNat,h):=λh=>by simp [iL]; omega
  by_cases c1:Me b=0
  . simp [nS,hx,hix,htok,c1,ni,h0]
  . have c2:(Me b==0)=false:=by simpa using c1
    simp [nS,hx,hix,htok,c2,ni,h0,hw];simpa using this
theorem bm5 (s:ByteArray)(hs:s.size<=big)(h:Hp):Sm E TT ah 348 [.d (.str s)] h=some (bl (kY s),h):=by
 rw [aN dc6 du2];have k1:=be4 (E:=E) s (cg hs (by decide)) s.size 0 (by omega);have h477:=bn1 (E:=E);have hl:=CO;generalize hTL:tokL=TL at *;simp at k1;simp [aa,Vg,h477,hl];rw [aj];simp [k1];cases hb:ni s.toList with
 | true=>simp [kY,hb]
 | false=>by_cases c1:(s.size:Int)>=1<;>simp [kY,hb,ai,c1]
end
section
def chg:List Int->Nat
 | x::y::l=>(if x=y then 0 else 1)+chg (y::l)
 | _=>0
theorem qB:∀ l:List Int,chg l<=l.length-1
 | []=>by simp [chg]
 | [_]=>by simp [chg]
 | x::y::l=>by
  have:=qB (y::l);simp only [chg,cj] at this ⊢;split<;>omega
theorem rE {zs:List Int}{i:Nat}(h:i+1<zs.length):chg (zs.drop i)=(if zs[i]=zs[i+1] then 0 else 1)+chg (zs.drop (i+1)):=by
 rw [ba (show i<zs.length by omega),ba h];simp only [chg]
def vZ (zs:List Int):Nat:=if zs=[] then 0 else 1+chg zs
def iv (kd:IntKind)(z:Int):V:=.d (.int kd z)
def Mr (bs:List Blk)(b:Nat)(cur:List V)(lo:Nat):Hp:=⟨bs.set b (.cells cur),lo⟩
section
variable {bs:List Blk}{b lo:Nat}{cur:List V}
theorem sW (hb:b<bs.length):au (Mr bs b cur lo).bs b=some cur:=by simp [Mr,au,hb]
theorem rq (hb:b<bs.length){k:Nat}{v:V}(hk:cur[k]?=some v):ldv (Mr bs b cur lo) (.ptr b k) 1 true=some (v,Mr bs b cur lo):=by
 obtain ⟨h1,h2⟩:=bx.1 hk;have hs:sub cur k 1=some [v]:=by
  rw [eH,if_pos (by omega),ba h1,h2]; rfl
 rw [aC,get_eq,sW hb];simp only [hs]; rfl
theorem I9 (hb:b<bs.length){k:Nat}{x:D}(hk:k<cur.length):stv (Mr bs b cur lo) (.ptr b k) (.d x) 1=some (.undef,Mr bs b (cur.set k (.d x)) (min lo b)):=by
 have hp:put cur k [V.d x]=some (cur.set k (.d x)):=by
  unfold put;rw [if_pos (by simp only [cj,ck]; omega),List.set_eq_take_append_cons_drop,if_pos hk]; simp
 have hg:=sW (lo:=lo) (cur:=cur) hb;simp [stv,V.cells,storeAt,hg,hp];simp [Hp.set,Mr]
theorem gD {b o n z:Nat}{cap:Option Nat}{kd:IntKind}{i:Nat}{h:Hp}(hi:i<n):iL none z (.row b o n cap z) (.d (.int kd i)) h=some (.ptr b (o+i * z),h):=by
 simp [iL,hi]
end
section
variable {E:Calls'}{T:FuncId->Option QF}{val:FuncId->Bool}{kd:IntKind}
theorem RN {bs:List Blk}{b:Nat}(hb:b<bs.length){zs:List Int}{cap cap2:Option Nat}(hn:zs.length<2 ^ 62){k0:Nat}(hk0:1<=k0)(hk1:k0<zs.length):∀ (m i k:Nat) (cur:List V) (lo:Nat),k0+i+m=zs.length->1<=i->k<k0+i->cur.length=zs.length->(∀ j (hj:j<zs.length),k<=j->cur[j]?=some (iv kd zs[j])) →
 ∃ cur' lo',Cd E T val (.loop [0,3,4,5] (mg kd)) [(0,.row b 0 zs.length cap 1),(3,.d (i64 k)),(4,.row b k0 (zs.length-k0) cap2 1),(5,.d (i64 i))] (Mr bs b cur lo) =
  some (.exit 2,[(0,.row b 0 zs.length cap 1),(3,.d (i64 (k+chg (zs.drop (k0+i-1)):Nat)))],Mr bs b cur' lo')/\cur'.length=zs.length/\(lo'=lo\/lo'=min lo b):=by
 intro m;have key:=ax (E:=E) (T:=T) (val:=val) [0,3,4,5] (mg kd);generalize Cd E T val (.loop [0,3,4,5] (mg kd))=W at key ⊢
 induction m with
 | zero =>
  intro i k cur lo hi h1 hk hl hc;have h0:chg (zs.drop (k0+i-1))=0:=by
   have:=qB (zs.drop (k0+i-1));simp only [List.length_drop] at this;omega
  refine ⟨cur,lo,?_,hl,.inl rfl⟩;rw [key,h0];simp [mg,show ¬ ((i:Int)<((zs.length-k0:Nat):Int)) from by omega]
 | succ m ih =>
  intro i k cur lo hi h1 hk hl hc;have hlt:i<zs.length-k0:=by omega
  have e1:=hc (k0+i) (by omega) (by omega);have e0:=hc (k0+i-1) (by omega) (by omega);have hd:=rE (zs:=zs) (i:=k0+i-1) (by omega);have hs:k0+i-1+1=k0+i:=by omega
  simp only [hs] at hd;rw [hd];have hw:=aI (show i<zs.length by omega) hn;have hwk:=aI (show k<zs.length by omega) hn;have hwm:wrap .i64 ((i:Int)-1)=((i-1:Nat):Int):=by rw [wrap64]<;>omega
  have i1:=λh=>gD (b:=b) (o:=k0) (z:=1) (cap:=cap2) (kd:=.i64) (h:=h) hlt;have i0:=λh=>gD (b:=b) (o:=k0) (z:=1) (cap:=cap2) (kd:=.i64) (h:=h) (show i-1<zs.length-k0 by omega);have ik:=λh=>gD (b:=b) (o:=0) (z:=1) (cap:=cap) (kd:=.i64) (h:=h) (show k<zs.length by omega);simp only [Nat.mul_one,show k0+(i-1)=k0+i-1 by omega,Nat.zero_add] at i1 i0 ik;have l1:=rq (lo:=lo) hb e1;have l0:=rq (lo:=lo) hb e0;generalize zs[k0+i]'(by omega)=y at *;generalize zs[k0+i-1]'(by omega)=x at *;by_cases hxy:x=y
  . obtain ⟨cur',lo',k1,k2,k3⟩:=ih (i+1) k cur lo (by omega) (by omega) (by omega) hl hc;refine ⟨cur',lo',?_,k2,k3⟩;rw [key];simp only [hxy,if_true,Nat.zero_add];simp only [show k0+(i+1)-1=k0+i by omega] at k1;subst hxy;simp [mg,i1,i0,l1,l0,iv,hw,hwm,show ((i:Int)<((zs.length-k0:Nat):Int)) from by omega,-aC];simpa using k1
  . have st:=I9 (lo:=lo) (x:=.int kd y) hb (show k<cur.length by omega);obtain ⟨cur',lo',k1,k2,k3⟩:=ih (i+1) (k+1) (cur.set k (.d (.int kd y))) (min lo b) (by omega) (by omega) (by omega) (by simpa using hl) (by
     intro j hj hkj;rw [ac (by omega)];exact hc j hj (by omega))
    refine ⟨cur',lo',?_,k2,by obtain k3 | k3:=k3<;>omega⟩;rw [key];simp only [hxy,if_false];simp only [show k0+(i+1)-1=k0+i by omega] at k1;have hyx:¬ y=x:=λh=>hxy h.symm;simp [mg,i1,i0,ik,l1,l0,st,iv,hw,hwk,hwm,hyx,show ((i:Int)<((zs.length-k0:Nat):Int)) from by omega,-aC,-aL];rw [show ((k:Int)+(1+(chg (zs.drop (k0+i)):Int)))=((k+1+chg (zs.drop (k0+i)):Nat):Int) by omega];simpa using k1
theorem zx {h:Hp}{ev:X->V}{b n:Nat}{cap:Option Nat}{x:X}{k:Nat}(hx:ev x=.d (i64 k))(hk:k<n)(h1:1<=k):bZ h ev .sl 1 (.row b 0 n cap 1) (some x) none none=some (.row b k (n-k) (cap.map (· - k)) 1):=by
 simp only [bZ,dU,hx];rw [if_pos (by omega)];simp only [Int.toNat_natCast];rw [if_pos ⟨by omega,by omega,trivial⟩,if_neg (by omega),if_pos hk]; simp
theorem Na {C:Calls'}{bs:List Blk}{b lo:Nat}{cur:List V}(hb:b<bs.length){n k:Nat}{cap:Option Nat}{e:EA}{x:X}{zero:V}(he:x.ea e=.row b k (n-k) cap 1)(hc:cur.length=n)(hk:k<n) :
 ∃ cur',cur'.length=n/\opE C (.clear 1 [zero] x) (X.ea e) (Mr bs b cur lo)=some (.undef,Mr bs b cur' (min lo b)):=by
 have hr:((List.replicate (n-k) [zero]).flatten).length=n-k:=by simp
 have hp:put cur k (List.replicate (n-k) [zero]).flatten=some (cur.take k++(List.replicate (n-k) [zero]).flatten++cur.drop (k+(n-k))):=by
  unfold put;rw [if_pos (by rw [hr]; omega),hr]
 refine ⟨cur.take k++(List.replicate (n-k) [zero]).flatten++cur.drop (k+(n-k)),by simp only [aq,hr,List.length_take,List.length_drop]; omega,?_⟩;have hne:¬ (n-k) * 1=0:=by omega
 simp only [opE,he,if_true,get_eq,sW hb,if_neg hne,hp];simp [Hp.set,Mr]
theorem Nc {bs:List Blk}{b lo:Nat}(hb:b<bs.length){zs:List Int}{cap:Option Nat}(hn:zs.length<2 ^ 62):∀ (m k:Nat),k+m=zs.length->1<=k →
 ∃ cur' lo',(Cd E T val (.loop [0,3] (kD kd)) [(0,.row b 0 zs.length cap 1),(3,.d (i64 k))] (Mr bs b (zs.map (iv kd)) lo)=some (.ret,[(2,.row b 0 (k+chg (zs.drop (k-1))) cap 1)],Mr bs b cur' lo')/\cur'.length=zs.length/\lo'=min lo b ∨
  Cd E T val (.loop [0,3] (kD kd)) [(0,.row b 0 zs.length cap 1),(3,.d (i64 k))] (Mr bs b (zs.map (iv kd)) lo)=some (.exit 0,[(0,.row b 0 zs.length cap 1)],Mr bs b (zs.map (iv kd)) lo)/\k+chg (zs.drop (k-1))=zs.length):=by
 intro m;have key:=ax (E:=E) (T:=T) (val:=val) [0,3] (kD kd);generalize Cd E T val (.loop [0,3] (kD kd))=W at key ⊢
 induction m with
 | zero =>
  intro k hk h1;have h0:chg (zs.drop (k-1))=0:=by
   have:=qB (zs.drop (k-1));simp only [List.length_drop] at this;omega
  refine ⟨[],0,.inr ⟨?_,by omega⟩⟩;rw [key];simp [kD,show ¬ ((k:Int)<(zs.length:Int)) from by omega]
 | succ m ih =>
  intro k hk h1;have hlt:k<zs.length:=by omega
  have e1:(zs.map (iv kd))[k]?=some (iv kd zs[k]):=by simp [hlt]
  have e0:(zs.map (iv kd))[k-1]?=some (iv kd (zs[k-1]'(by omega))):=by rw [List.getElem?_map,ab (show k-1<zs.length by omega)]; rfl
  have hd:=rE (zs:=zs) (i:=k-1) (by omega);have hs:k-1+1=k:=by omega
  simp only [hs] at hd;have hw:=aI hlt hn;have hwm:wrap .i64 ((k:Int)-1)=((k-1:Nat):Int):=by rw [wrap64]<;>omega
  have i1:=λh=>gD (b:=b) (o:=0) (z:=1) (cap:=cap) (kd:=.i64) (h:=h) hlt;have i0:=λh=>gD (b:=b) (o:=0) (z:=1) (cap:=cap) (kd:=.i64) (h:=h) (show k-1<zs.length by omega);simp only [Nat.mul_one,Nat.zero_add] at i1 i0;have l1:=rq (lo:=lo) hb e1;have l0:=rq (lo:=lo) hb e0;have hin:=RN (E:=E) (T:=T) (val:=val) (kd:=kd) hb (zs:=zs) (cap:=cap) (cap2:=cap.map (· - k)) hn h1 hlt (zs.length-k-1) 1 k (zs.map (iv kd)) lo (by omega) (by omega) (by omega) (by simp) (λj hj _=>by simp [hj]);have hcl:=qB (zs.drop k);simp only [List.length_drop] at hcl;rw [hd];generalize zs[k]'(by omega)=y at *;generalize zs[k-1]'(by omega)=x at *;by_cases hxy:x=y
  . obtain ⟨cur',lo',k1,k2,k3⟩:=hin;simp only [show k+1-1=k by omega] at k1;have hK:k+chg (zs.drop k)<zs.length:=by omega
    generalize hKe:k+chg (zs.drop k)=K at *;obtain ⟨cur2,c1,c2⟩:=Na (C:=Sm E T val) (lo:=lo') hb (cur:=cur') (e:=[(56,.row b K (zs.length-K) (cap.map (· - K)) 1),(55,.d (i64 K)),(54,.row b 0 zs.length cap 1),(0,.row b 0 zs.length cap 1),(3,.d (i64 K))]) (x:=.t 56) (n:=zs.length) (k:=K) (cap:=cap.map (· - K)) (zero:=.d (.int kd 0)) (by simp) k2 hK;have sl1:=λh=>zx (h:=h) (ev:=X.ea [(27,.d (i64 k)),(26,.row b 0 zs.length cap 1),(25,.d (.bool true)),(24,iv kd x),(23,.ptr b (k-1)),(22,.d (i64 (k-1:Nat))),(21,.d (i64 k)),(20,.row b 0 zs.length cap 1),(19,iv kd y),(18,.ptr b k),(17,.d (i64 k)),(16,.row b 0 zs.length cap 1),(13,.d (.bool true)),(12,.d (i64 zs.length)),(11,.row b 0 zs.length cap 1),(10,.d (i64 k)),(0,.row b 0 zs.length cap 1),(3,.d (i64 k))]) (x:=.t 27) (b:=b) (n:=zs.length) (cap:=cap) (k:=k) (by simp) hlt h1;have sl2:=λh=>zx (h:=h) (ev:=X.ea [(55,.d (i64 K)),(54,.row b 0 zs.length cap 1),(0,.row b 0 zs.length cap 1),(3,.d (i64 K))]) (x:=.t 55) (b:=b) (n:=zs.length) (cap:=cap) (k:=K) (by simp) hK (by omega);have sl3:=λh=>pI (h:=h) (ev:=X.ea [(58,.d (i64 K)),(57,.row b 0 zs.length cap 1),(56,.row b K (zs.length-K) (cap.map (· - K)) 1),(55,.d (i64 K)),(54,.row b 0 zs.length cap 1),(0,.row b 0 zs.length cap 1),(3,.d (i64 K))]) (x:=.t 58) (b:=b) (z:=1) (len:=zs.length) (cap:=cap) (n:=K) (by simp) (by omega);refine ⟨cur2,min lo' b,.inl ⟨?_,c1,by obtain k3 | k3:=k3<;>omega⟩⟩;rw [key];simp only [hxy,if_true,Nat.zero_add]
    subst hxy;simp [iv] at sl1;simp [kD,i1,i0,l1,l0,iv,hwm,hlt,sl1,-aC];rw [aj];simp at k1;simp [k1,sl2];rw [c2];simp [sl3,hKe]
  . obtain ⟨cur',lo',hh⟩:=ih (k+1) (by omega) (by omega);simp only [show k+1-1=k by omega] at hh;refine ⟨cur',lo',?_⟩;rw [key];have hyx:¬ y=x:=λh=>hxy h.symm;have hadd:k+(1+chg (zs.drop k))=k+1+chg (zs.drop k):=by omega
    simp only [hxy,if_false,hadd];simp [kD,i1,i0,l1,l0,iv,hwm,hw,hlt,hyx,-aC];simpa using hh
theorem xY {id:FuncId}(ht:T id=some (cmpQ kd))(hv:val id=false){zs:List Int}{b:Nat}{cap:Option Nat}{h:Hp}(hb:au h.bs b=some (zs.map (iv kd)))(hn:zs.length<2 ^ 62) :
 ∃ h',Sm E T val id [.row b 0 zs.length cap 1] h=some (.row b 0 (vZ zs) cap 1,h')/\(h'=h\/∃ cur,h'=⟨h.bs.set b (.cells cur),min h.low b⟩):=by
 have hbl:=aK hb;have hset:h.bs.set b (.cells (zs.map (iv kd)))=h.bs:=by
  apply List.ext_getElem?;intro i;by_cases hi:b=i
  . subst hi;rw [List.getElem?_set_self hbl];unfold au at hb;split at hb
    . rename_i hh; cases hb; exact hh.symm
    . cases hb
  . rw [ac hi]
 have hM:(⟨h.bs,h.bs.length⟩:Hp)=Mr h.bs b (zs.map (iv kd)) h.bs.length:=by simp [Mr,hset]
 rw [av ht hv,hM];by_cases h2:zs.length<2
 . refine ⟨h,?_,.inl rfl⟩;have:vZ zs=zs.length:=by
    match zs,h2 with
    | [],_=>rfl
    | [x],_=>rfl
    | _::_::_,h2=>simp at h2; omega
   simp [cmpQ,aa,show ((zs.length:Int)<2) from by omega,this,V.under,hbl];simp [Mr]
 . have hne:zs≠[]:=by rintro rfl; simp at h2
   obtain ⟨cur',lo',hh | hh⟩:=Nc (E:=E) (T:=T) (val:=val) (kd:=kd) (lo:=h.bs.length) (cap:=cap) hbl hn (zs.length-1) 1 (by omega) (by omega)
   . obtain ⟨k1,k2,k3⟩:=hh;have hlo:lo'=b:=by omega
     subst hlo;refine ⟨_,?_,.inr ⟨cur',rfl⟩⟩;simp at k1;simp [cmpQ,aa,show ¬ ((zs.length:Int)<2) from by omega];rw [aj];simp [k1,vZ,hne,V.under,hbl];simp [Mr,show ¬ (h.bs.length<=lo') from by omega]
   . obtain ⟨k1,k2⟩:=hh;refine ⟨h,?_,.inl rfl⟩;simp at k1 k2;simp [cmpQ,aa,show ¬ ((zs.length:Int)<2) from by omega];rw [aj];simp [k1,vZ,hne,V.under,hbl,k2];simp [Mr]
end
end
