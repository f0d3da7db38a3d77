/- Lemmas for reading code step by step: memory, data, how calls end. -/
import Derived.Test.YtinmplbccmfheaaGreatQd
import Derived.Test.YtinmplbccmfheaaGreatProg
import Derived.KernelRfl
set_option maxRecDepth 100000
set_option linter.unusedVariables false
set_option linter.unusedSimpArgs false
namespace Go.Proofs.YtinmplbccmfheaaGreat
open IntKind (wrap)
section
section
variable (E:Calls')(T:FuncId->Option QF)(val:FuncId->Bool)
noncomputable def Ga (b:QC) (o:fM):fM:=ek o λe h=>Cd E T val b e h
noncomputable def Jz (v:V) (a b:QC) (e:EA) (h:Hp):fM:=fork v (Cd E T val a e h) (Cd E T val b e h)
def dK (l:List Nat)(W:EA->Hp->fM)(o:fM):fM:=ek o λe h=>W (bT l e) h
def Dh (C:Calls')(os:List RO)(e:EA)(d:Option Nat)(o:Option (V×Hp)):Option (EA×Hp):=match o with
 | some (v,h')=>iw C os (cK e d v) h'
 | none=>none
def zy (C:Calls')(v:V)(w:Bool)(d:Option Nat)(r:R)(os:List RO)(e:EA)(h:Hp):Option (EA×Hp):=match v with
 | .d (.bool t)=>if t=w then Dh C os e d (opE C r (X.ea e) h) else iw C os (cK e d (.tup [])) h
 | .tup []=>iw C os (cK e d (.tup [])) h
 | _=>none
variable {E T val}
theorem ay (l:List Nat)(b:QC)(e:EA)(h:Hp):Cd E T val (.loop l b) e h=dK l (Cd E T val (.loop l b)) (Cd E T val b (bT l e) h):=by
 rw [zV,dK]
 congr 1
 funext e h;exact aj
@[simp] theorem ab5 {a b:QC}{e:EA}{h:Hp}:Cd E T val (.seq a b) e h=Ga E T val b (Cd E T val a e h):=Qk
@[simp] theorem UL {c:X}{a b:QC}{e:EA}{h:Hp}:Cd E T val (.cond c a b) e h=Jz E T val (c.ea e) a b e h:=LK
attribute [simp] LQ Qj LM Qi LP IE
section
variable {e:EA}{h:Hp}{i j:Nat}{a b:QC}{l:List Nat}{W:EA->Hp->fM}
@[simp] theorem ah6:Ga E T val b (some (.normal,e,h))=Cd E T val b e h:=(rfl)
@[simp] theorem ah7:Ga E T val b (some (.ret,e,h))=some (.ret,e,h):=(rfl)
@[simp] theorem ah8:Ga E T val b (some (.exit i,e,h))=some (.exit i,e,h):=(rfl)
@[simp] theorem V7:dK l W (some (.normal,e,h))=W (bT l e) h:=(rfl)
@[simp] theorem V8:dK l W (some (.ret,e,h))=some (.ret,e,h):=(rfl)
@[simp] theorem V9:dK l W (some (.exit i,e,h))=some (.exit i,e,h):=(rfl)
@[simp] theorem ad9:Jz E T val (.d (.bool true)) a b e h=Cd E T val a e h:=(rfl)
@[simp] theorem ad8:Jz E T val (.d (.bool false)) a b e h=Cd E T val b e h:=(rfl)
@[simp] theorem ae8:leave i (some (.normal,e,h))=some (.normal,e,h):=(rfl)
@[simp] theorem ae9:leave i (some (.ret,e,h))=some (.ret,e,h):=(rfl)
@[simp] theorem af0:leave i (some (.exit j,e,h))=if j=i then some (.normal,e,h) else some (.exit j,e,h):=(rfl)
@[simp] theorem JR:lead (some (e,h))=some (.normal,e,h):=(rfl)
end
section
variable {C:Calls'}{os:List RO}{e:EA}{d:Option Nat}{r:R}{v:V}{h h':Hp}
@[simp] theorem ah5:Dh C os e d (some (v,h'))=iw C os (cK e d v) h':=(rfl)
@[simp] theorem ae6:zy C (.d (.bool true)) true d r os e h=Dh C os e d (opE C r (X.ea e) h):=(rfl)
@[simp] theorem ae5:zy C (.d (.bool true)) false d r os e h=iw C os (cK e d (.tup [])) h:=(rfl)
@[simp] theorem ae4:zy C (.d (.bool false)) true d r os e h=iw C os (cK e d (.tup [])) h:=(rfl)
@[simp] theorem ae3:zy C (.d (.bool false)) false d r os e h=Dh C os e d (opE C r (X.ea e) h):=(rfl)
@[simp] theorem az3 {w:Bool}:zy C (.tup []) w d r os e h=iw C os (cK e d (.tup [])) h:=(rfl)
end
end
def fin (res:List RV)(o:fM):Option (V×Hp) :=
 match o with
 | some (.normal,e,h) | some (.ret,e,h)=>match oh h e res with
  | some vs=>some (bK vs,h)
  | none=>none
 | _=>none
theorem af {E:Calls'}{T:FuncId->Option QF}{val:FuncId->Bool}{n:Nat}{res:List RV}{c:QC}{args:List V}{h:Hp}:Bd E T val ⟨n,res,c⟩ args h=fin res (Cd E T val c (kr 0 args) h):=(rfl)
section
variable {res:List RV}{e:EA}{h:Hp}{i:Nat}
@[simp] theorem cr3:fin res (some (.normal,e,h))=match oh h e res with | some vs=>some (bK vs,h) | none=>none:=(rfl)
@[simp] theorem cr4:fin res (some (.ret,e,h))=match oh h e res with | some vs=>some (bK vs,h) | none=>none:=(rfl)
end
@[simp] theorem ay6 {a:EA}{i:Nat}:X.ea a (.t i)=a.get i:=(rfl)
@[simp] theorem ct1 {a:EA}{v:V}:X.ea a (.c v)=v:=(rfl)
@[simp] theorem ae7 {i:Nat}:EA.get [] i=.undef:=(rfl)
@[simp] theorem JF {j:Nat}{v:V}{l:EA}{i:Nat}:EA.get ((j,v)::l) i=if j=i then v else EA.get l i:=(rfl)
@[simp] theorem bh4 {e:EA}{i:Nat}{v:V}:cK e (some i) v=(i,v)::e:=(rfl)
@[simp] theorem bh3 {e:EA}{v:V}:cK e none v=e:=(rfl)
@[simp] theorem zA {e:EA}:bT [] e=[]:=(rfl)
@[simp] theorem xJ {i:Nat}{l:List Nat}{e:EA}:bT (i::l) e=(i,e.get i)::bT l e:=(rfl)
@[simp] theorem Uo {i:Nat}:kr i []=[]:=(rfl)
@[simp] theorem QL {i:Nat}{v:V}{l:List V}:kr i (v::l)=(i,v)::kr (i+1) l:=(rfl)
section
variable {b o l z:Nat}{c:Option Nat}{x:D}{cs:List D}{vs:List V}{f:FuncId}
@[simp] theorem ct2:nu (.d x)=some (.d x):=(rfl)
@[simp] theorem bb8:nu (.ptr b o)=some (.ptr b o):=(rfl)
@[simp] theorem af3:nu (.eptr cs o)=some (.eptr cs o):=(rfl)
@[simp] theorem bb9:nu (.row b o l c z)=some (.row b o l c z):=(rfl)
@[simp] theorem bb7:nu (.mfn f vs)=some (.mfn f vs):=(rfl)
@[simp] theorem cr9:nu (.fn f vs)=some (.fn f vs):=(rfl)
@[simp] theorem bb6:nu (.agg vs)=some (.agg vs):=(rfl)
@[simp] theorem bc4:nu (.tup vs)=some (.tup vs):=(rfl)
@[simp] theorem cs3:okV (.d x)=true:=(rfl)
@[simp] theorem af6:okV (.ptr b o)=true:=(rfl)
@[simp] theorem Ym:okV (.eptr cs o)=true:=(rfl)
@[simp] theorem af7:okV (.row b o l c z)=true:=(rfl)
@[simp] theorem af5:okV (.mfn f vs)=true:=(rfl)
@[simp] theorem bc6:okV (.fn f vs)=true:=(rfl)
@[simp] theorem af4:okV (.agg vs)=true:=(rfl)
@[simp] theorem af8:okV (.tup vs)=true:=(rfl)
end
def eqS (a b:ByteArray):Bool:=a.toList==b.toList
def ldv (h:Hp)(v:V)(n:Nat)(sc:Bool):Option (V×Hp):=match loadAt h v n with
 | some cs=>(mk sc cs).map (·,h)
 | none=>none
def stv (h:Hp)(a x:V)(n:Nat):Option (V×Hp):=match x.cells with
 | some xs=>if xs.length=n/\0<n then (storeAt h a xs).map (.undef,·) else none
 | none=>none
def eP (arr:Option Nat)(z:Nat)(x i:V)(h:Hp):Option (V×Hp):=match i,arr,x with
 | .d (.int _ i),none,.d (.slice _ es)=>if 0<=i then (match es[i.toNat]? with | some c=>if c.length=z then some (.eptr c 0,h) else none | none=>none) else none
 | .d (.int _ i),none,.row b o len _ z'=>if 0<=i/\i<len/\z'=z then some (.ptr b (o+i.toNat * z),h) else none
 | .d (.int _ i),some n,.ptr b o=>if 0<=i/\i<n then some (.ptr b (o+i.toNat * z),h) else none
 | .d (.int _ i),some n,.eptr cs o=>if 0<=i/\i<n then some (.eptr cs (o+i.toNat * z),h) else none
 | _,_,_=>none
def Ae (h:Hp)(v:V):Option (V×Hp):=match v.cells with
 | some cs=>some (.ptr h.size 0,h.alloc cs)
 | none=>none
def d9 (h:Hp)(z b:Nat)(s x:V):Option (V×Hp):=match aH h x z with
 | some (m,xs)=>aI h z b s m xs
 | none=>none
def qO (st:Bool)(v:V)(h:Hp):Option (V×Hp):=match v.len st with
 | some n=>some (.d (.int .i64 n),h)
 | none=>none
def eqv (k:EQ)(neg:Bool)(x y:V)(h:Hp):Option (V×Hp):=match iy k x y with
 | some b=>some (.d (.bool (b != neg)),h)
 | none=>none
def Wx (sc:Bool)(v:V)(off n:Nat)(h:Hp):Option (V×Hp):=match v with
 | .agg cs=>match sub cs off n with
  | some l=>(mk sc l).map (·,h)
  | none=>none
 | _=>none
def Jy (v:V)(off:Nat)(h:Hp):Option (V×Hp):=match v with
 | .ptr b o=>some (.ptr b (o+off),h)
 | .eptr cs o=>some (.eptr cs (o+off),h)
 | _=>none
def Qb (c a b:V)(h:Hp):Option (V×Hp):=match c with
 | .d (.bool t)=>(nu (if t then a else b)).map (·,h)
 | _=>none
def Ws (v:V)(i:Nat)(h:Hp):Option (V×Hp):=match v with
 | .tup vs=>vs[i]?.map (·,h)
 | _=>none
section
variable {C:Calls'}{ev:X->V}{h:Hp}
@[simp] theorem ag7 {x:X}:opE C (.mov x) ev h=(nu (ev x)).map (·,h):=(rfl)
@[simp] theorem YC {c a b:X}:opE C (.pick c a b) ev h=Qb (ev c) (ev a) (ev b) h:=(rfl)
@[simp] theorem ag8 {z:List V}:opE C (.new z) ev h=some (.ptr h.size 0,h.alloc z):=(rfl)
@[simp] theorem ag3 {x:X}:opE C (.box x) ev h=Ae h (ev x):=(rfl)
@[simp] theorem UE {z:List V}{ps:List (Nat×Nat×X)}:opE C (.build z ps) ev h=match aL ev z ps with
 | some cs=>some (.agg cs,h)
 | none=>none:=(rfl)
@[simp] theorem Eh {z n:Nat}{ze:List V}{ps:List (Nat×Nat×X)}:opE C (.buildS z n ze ps) ev h=match aL ev (List.replicate n ze).flatten ps with
 | some cs=>some (.row h.size 0 n (some n) z,h.alloc cs)
 | none=>none:=(rfl)
@[simp] theorem YA {sc:Bool}{n:Nat}{a:X}:opE C (.load sc n a) ev h=ldv h (ev a) n sc:=(rfl)
@[simp] theorem G8 {n:Nat}{a x:X}:opE C (.store n a x) ev h=stv h (ev a) (ev x) n:=(rfl)
@[simp] theorem ag2 {op:BinOp}{x y:X}:opE C (.bin op x y) ev h=one (bC op (ev x) (ev y)) h:=(rfl)
@[simp] theorem bc7 {k:EQ}{neg:Bool}{x y:X}:opE C (.eq k neg x y) ev h=eqv k neg (ev x) (ev y) h:=(rfl)
@[simp] theorem bc8 {op:UnOp}{x:X}:opE C (.un op x) ev h=one (unD op (ev x)) h:=(rfl)
@[simp] theorem Yy {x:X}{o:Nat}:opE C (.fldA x o) ev h=Jy (ev x) o h:=(rfl)
@[simp] theorem ag5 {sc:Bool}{x:X}{o n:Nat}:opE C (.fld sc x o n) ev h=Wx sc (ev x) o n h:=(rfl)
@[simp] theorem Cz {a:Option Nat}{z:Nat}{x i:X}:opE C (.idxA a z x i) ev h=eP a z (ev x) (ev i) h:=(rfl)
@[simp] theorem ag9 {k:SK}{z:Nat}{x:X}{lo hi mx:Option X}:opE C (.slc k z x lo hi mx) ev h=(dH h ev k z (ev x) lo hi mx).map (·,h):=(rfl)
@[simp] theorem J5 {f:FuncId}{caps:List X}:opE C (.mkmv f caps) ev h=if caps.all (λx=>okV (ev x))=true then some (.mfn f (caps.map ev),h) else none:=(rfl)
@[simp] theorem J4 {f:FuncId}{caps:List X}:opE C (.mkfn f caps) ev h=if caps.all (λx=>okV (ev x))=true then some (.fn f (caps.map ev),h) else none:=(rfl)
@[simp] theorem ag4 {x:X}{i:Nat}:opE C (.ext x i) ev h=Ws (ev x) i h:=(rfl)
@[simp] theorem Cy {f:X}{args:List X}:opE C (.call f args) ev h=if args.all (λx=>okV (ev x))=true then iR C (ev f) (args.map ev) h else none:=(rfl)
@[simp] theorem ag1 {z b:Nat}{s x:X}:opE C (.app z b s x) ev h=d9 h z b (ev s) (ev x):=(rfl)
@[simp] theorem ag6 {st:Bool}{x:X}:opE C (.len st x) ev h=qO st (ev x) h:=(rfl)
@[simp] theorem YD {e:EA}:iw C [] e h=some (e,h):=(rfl)
@[simp] theorem UH {d:Option Nat}{r:R}{os:List RO}{e:EA}:iw C (⟨none,d,r⟩::os) e h=Dh C os e d (opE C r (X.ea e) h):=(rfl)
@[simp] theorem aB {j:Nat}{w:Bool}{d:Option Nat}{r:R}{os:List RO}{e:EA}:iw C (⟨some (j,w),d,r⟩::os) e h=zy C (e.get j) w d r os e h:=(rfl)
@[simp] theorem Gt {f:FuncId}{first args:List V}:iR C (.mfn f first) args h=C f (first++args) h:=(rfl)
@[simp] theorem mh {f:FuncId}{caps args:List V}:iR C (.fn f caps) args h=C f (args++caps) h:=(rfl)
@[simp] theorem ay4 {x:D}:Ae h (.d x)=some (.ptr h.bs.length 0,h.alloc [.d x]):=(rfl)
@[simp] theorem Wi {b o:Nat}:Ae h (.ptr b o)=some (.ptr h.bs.length 0,h.alloc [.ptr b o]):=(rfl)
@[simp] theorem Wj {b o l z:Nat}{c:Option Nat}:Ae h (.row b o l c z)=some (.ptr h.bs.length 0,h.alloc [.row b o l c z]):=(rfl)
@[simp] theorem Wh {f:FuncId}{c:List V}:Ae h (.mfn f c)=some (.ptr h.bs.length 0,h.alloc [.mfn f c]):=(rfl)
@[simp] theorem ac7 {f:FuncId}{c:List V}:Ae h (.fn f c)=some (.ptr h.bs.length 0,h.alloc [.fn f c]):=(rfl)
@[simp] theorem We {cs:List V}:Ae h (.agg cs)=some (.ptr h.bs.length 0,h.alloc cs):=(rfl)
@[simp] theorem Ut {b o n:Nat}:Jy (.ptr b o) n h=some (.ptr b (o+n),h):=(rfl)
@[simp] theorem Q6 {cs:List D}{o n:Nat}:Jy (.eptr cs o) n h=some (.eptr cs (o+n),h):=(rfl)
@[simp] theorem aG {b o n:Nat}{sc:Bool}:ldv h (.ptr b o) n sc=match (match h.get b with | some cs=>sub cs o n | none=>none) with
 | some cs=>(mk sc cs).map (·,h)
 | none=>none:=(rfl)
@[simp] theorem Yf {cs:List D}{o n:Nat}{sc:Bool}:ldv h (.eptr cs o) n sc=match (sub cs o n).map (·.map .d) with
 | some cs=>(mk sc cs).map (·,h)
 | none=>none:=(rfl)
@[simp] theorem ba8 {v:V}:mk true [v]=some v:=(rfl)
@[simp] theorem ba7 {cs:List V}:mk false cs=some (.agg cs):=(rfl)
@[simp] theorem ah0 {t:Bool}{a b:V}:Qb (.d (.bool t)) a b h=(nu (if t then a else b)).map (·,h):=(rfl)
@[simp] theorem ba5 {nl:Bool}{es:List (List D)}:qO false (.d (.slice nl es)) h=some (.d (.int .i64 es.length),h):=(rfl)
@[simp] theorem Yg {b o l z:Nat}{c:Option Nat}:qO false (.row b o l c z) h=some (.d (.int .i64 l),h):=(rfl)
@[simp] theorem ba6 {s:ByteArray}:qO true (.d (.str s)) h=some (.d (.int .i64 s.size),h):=(rfl)
@[simp] theorem ay7 {vs:List V}{i:Nat}:Ws (.tup vs) i h=vs[i]?.map (·,h):=(rfl)
@[simp] theorem ay8 {cs:List V}{sc:Bool}{o n:Nat}:Wx sc (.agg cs) o n h=match sub cs o n with
 | some l=>(mk sc l).map (·,h)
 | none=>none:=(rfl)
@[simp] theorem cs9 {d:D}:one (some d) h=some (.d d,h):=(rfl)
@[simp] theorem cr0 {a b neg:Bool}:eqv (.sc .b) neg (.d (.bool a)) (.d (.bool b)) h=some (.d (.bool ((a==b) != neg)),h):=(rfl)
@[simp] theorem cr1 {k:IntKind}{a b:Int}{neg:Bool}:eqv (.sc (.i k)) neg (.d (.int k a)) (.d (.int k b)) h=some (.d (.bool ((a==b) != neg)),h):=by simp [eqv,iy,ol]
@[simp] theorem cr2 {a b:ByteArray}{neg:Bool}:eqv (.sc .s) neg (.d (.str a)) (.d (.str b)) h=some (.d (.bool (eqS a b != neg)),h):=(rfl)
@[simp] theorem Q0 {b o l z:Nat}{c:Option Nat}{neg:Bool}:eqv .sl neg (.row b o l c z) (.d (.slice true [])) h=some (.d (.bool (false != neg)),h):=(rfl)
@[simp] theorem ad1 {nl:Bool}{es:List (List D)}{neg:Bool}:eqv .sl neg (.d (.slice nl es)) (.d (.slice true [])) h=some (.d (.bool (nl != neg)),h):=(rfl)
end
section
variable {k:IntKind}{a b:Int}
@[simp] theorem ab6:bC .add (.d (.int k a)) (.d (.int k b))=some (.int k (k.wrap (a+b))):=by simp [bC,fw]
@[simp] theorem ac2:bC .sub (.d (.int k a)) (.d (.int k b))=some (.int k (k.wrap (a-b))):=by simp [bC,fw]
@[simp] theorem ac0:bC .lss (.d (.int k a)) (.d (.int k b))=some (.bool (decide (a<b))):=by simp [bC,fw]
@[simp] theorem ab9:bC .leq (.d (.int k a)) (.d (.int k b))=some (.bool (decide (a<=b))):=by simp [bC,fw]
@[simp] theorem ab8:bC .gtr (.d (.int k a)) (.d (.int k b))=some (.bool (decide (a>b))):=by simp [bC,fw]
@[simp] theorem ab7:bC .geq (.d (.int k a)) (.d (.int k b))=some (.bool (decide (a>=b))):=by simp [bC,fw]
@[simp] theorem by4 {t:Bool}:unD .not (.d (.bool t))=some (.bool !t):=(rfl)
end
theorem eG {α:Type}{cs:List α}{o n:Nat}:sub cs o n=if o+n<=cs.length then some ((cs.drop o).take n) else none:=(rfl)
@[simp] theorem ZC {h:Hp}{e:EA}:oh h e []=some []:=(rfl)
@[simp] theorem ZE {h:Hp}{e:EA}{t:Nat}{l:List RV}:oh h e (.tmp t::l)=match nu (e.get t),oh h e l with
 | some v,some vs=>some (v::vs)
 | _,_=>none:=(rfl)
@[simp] theorem UI {h:Hp}{e:EA}{t n:Nat}{sc:Bool}{l:List RV}:oh h e (.cell t sc n::l)=match loadAt h (e.get t) n with
 | some cs=>match mk sc cs,oh h e l with
  | some v,some vs=>some (v::vs)
  | _,_=>none
 | none=>none:=(rfl)
@[simp] theorem mY {h:Hp}{b o n:Nat}:loadAt h (.ptr b o) n=match h.get b with | some cs=>sub cs o n | none=>none:=(rfl)
@[simp] theorem UJ {v:V}:bK [v]=v:=(rfl)
@[simp] theorem UK {v w:V}{l:List V}:bK (v::w::l)=.tup (v::w::l):=(rfl)
theorem wrap64 {n:Int}(h1:-(2 ^ 63)<=n)(h2:n<2 ^ 63):wrap .i64 n=n:=by
 simp [wrap,IntKind.bits,IntKind.signed];omega
theorem bN {α:Type}{l:List α}{n:Nat}(h:l.length=n):sub l 0 n=some l:=by subst h; simp [sub]
theorem qP (h:Hp)(k:Nat):∀ (l:List D),(l.map V.d).mapM (dataV h k)=some l
 | []=>rfl
 | x::l=>by
  have:=qP h k l;cases k<;>simp [List.mapM_cons,dataV,this]
theorem Am (h:Hp)(l:List D):frz h (.agg (l.map .d))=some (.agg (l.map .d)):=by
 simp only [frz,cO,fA,qP]
theorem JD (h:Hp)(d:D):frz h (.d d)=some (.d d):=by simp [frz,cO,dataV]
theorem Kk (l:List D):gY (.agg (l.map .d))=true:=by
 simp only [gY,cj];intro x hx;obtain ⟨y,_,rfl⟩:=cb.1 hx;rfl
@[simp] theorem Fy {h:Hp}{k:Nat}{d:D}:dataV h k (.d d)=some d:=by cases k<;>rfl
def ah (bs:List Blk)(b:Nat):Option (List V):=match bs[b]? with
 | some (.cells cs)=>some cs
 | _=>none
@[simp] theorem get_eq {h:Hp}{b:Nat}:h.get b=ah h.bs b:=(rfl)
@[simp] theorem uw {cs:List V}{bs:List Blk}:ah (.cells cs::bs) 0=some cs:=(rfl)
@[simp] theorem GI {x:Blk}{bs:List Blk}{i:Nat}:ah (x::bs) (i+1)=ah bs i:=by simp [ah]
@[simp] theorem dU {bs ys:List Blk}:ah (bs++ys) bs.length=ah ys 0:=by unfold ah; rw [bm (br _),Nat.sub_self]
@[simp] theorem jS {bs ys:List Blk}{i:Nat}:ah (bs++ys) (bs.length+i)=ah ys i:=by unfold ah; rw [bm (Nat.le_add_right _ _),Nat.add_sub_cancel_left]
theorem FL {bs ys:List Blk}{i:Nat}(h:i<bs.length):ah (bs++ys) i=ah bs i:=by simp [ah,aq h]
theorem av {bs ys:List Blk}{i:Nat}{cs:List V}(h:ah bs i=some cs):ah (bs++ys) i=some cs:=by
 rw [FL,h];unfold ah at h;split at h
 . rename_i h1;exact (bx.1 h1).1
 . cases h
theorem aK {bs:List Blk}{i:Nat}{cs:List V}(h:ah bs i=some cs):i<bs.length:=by
 unfold ah at h;split at h
 . rename_i h1;exact (bx.1 h1).1
 . cases h
@[simp] theorem alloc_eq {bs:List Blk}{l:Nat}{cs:List V}:Hp.alloc ⟨bs,l⟩ cs=⟨bs++[.cells cs],l⟩:=(rfl)
@[simp] theorem size_eq {h:Hp}:h.size=h.bs.length:=(rfl)
@[simp] theorem bh5 {bs ys:List Blk}{l:Nat}{cs:List V}:Hp.set ⟨bs++ys,l⟩ bs.length cs=⟨bs++ys.set 0 (.cells cs),min l bs.length⟩:=by simp [Hp.set,List.set_append]
@[simp] theorem ah3 {bs ys:List Blk}{l i:Nat}{cs:List V}:Hp.set ⟨bs++ys,l⟩ (bs.length+i) cs=⟨bs++ys.set i (.cells cs),min l (bs.length+i)⟩:=by simp [Hp.set,List.set_append]
theorem ah4 {ys:List Blk}{l i:Nat}{cs:List V}:Hp.set ⟨ys,l⟩ i cs=⟨ys.set i (.cells cs),min l i⟩:=(rfl)
@[simp] theorem ed {h h':Hp}{r:V}:eU h (some (r,h'))=if h.bs.length<=h'.low/\r.under h.bs.length=true then some (r,h) else some (r,⟨h'.bs,min h.low h'.low⟩):=(rfl)
def Iw (args:List V)(h h':Hp)(r:V)(o:Option V):Option (V×Hp):=match o with
 | some r'=>if args.all gY=true\/ownR h' r=true then some (r',h) else none
 | none=>none
def E8 (args:List V)(h:Hp)(o:Option (V×Hp)):Option (V×Hp):=match o with
 | some (r,h')=>Iw args h h' r (frz h' r)
 | none=>none
noncomputable def Ui (E:Calls') (T:FuncId->Option QF) (val:FuncId->Bool) (q:QF) (args:List V) (h:Hp) (o:Option (List V)):Option (V×Hp):=match o with
 | some as1=>E8 args h (Bd E T val q as1 ⟨[],0⟩)
 | none=>none
@[simp] theorem Uk {args:List V}{h h':Hp}{r r':V}:Iw args h h' r (some r')=if args.all gY=true\/ownR h' r=true then some (r',h) else none:=(rfl)
@[simp] theorem Ls {args:List V}{h h':Hp}{r:V}:E8 args h (some (r,h'))=Iw args h h' r (frz h' r):=(rfl)
section
variable {E:Calls'}{T:FuncId->Option QF}{val:FuncId->Bool}
@[simp] theorem rG {q:QF}{args as1:List V}{h:Hp}:Ui E T val q args h (some as1)=E8 args h (Bd E T val q as1 ⟨[],0⟩):=(rfl)
theorem aU {f:FuncId}{q:QF}(hf:T f=some q)(hv:val f=true){args:List V}{h:Hp}:Sm E T val f args h=Ui E T val q args h (args.mapM (frz h)):=by
 rw [QE hf hv];unfold qB Ui E8 Iw;cases args.mapM (frz h) with
 | none=>rfl
 | some as1 =>
  dsimp only;cases Bd E T val q as1 ⟨[],0⟩ with
  | none=>rfl
  | some x =>
   obtain ⟨r,h'⟩:=x;dsimp only;cases frz h' r<;>rfl
end
end
section
def RowIs (bs:List Blk)(v:V)(z:Nat)(es:List (List D)):Prop :=
 (∀ e∈es,e.length=z)/\((∃ nl,v=.d (.slice nl es))\/∃ b o cap cs,v=.row b o es.length cap z/\ah bs b=some cs/\sub cs o (es.length * z)=some (es.flatten.map .d))
theorem lh {α:Type}{z:Nat}:∀ {es:List (List α)} {i:Nat},(∀ e∈es,e.length=z)->(hi:i<es.length)->(es.flatten.drop (i * z)).take z=es[i]
 | e::es,0,h,_=>by
  have:=h e (by simp);simp [List.take_append_of_le_length,this]
 | e::es,i+1,h,hi=>by
  have he:=h e (by simp);have ih:=lh (i:=i) (λe he=>h e (List.mem_cons_of_mem _ he)) (by simpa using hi);simp only [List.flatten_cons,List.getElem_cons_succ];rw [show (i+1) * z=e.length+i * z by rw [he,Nat.add_mul]; omega,← bh,List.drop_left,ih]
theorem oN {α:Type}{z:Nat}:∀ {es:List (List α)},(∀ e∈es,e.length=z)->es.flatten.length=es.length * z
 | [],_=>by simp
 | e::es,h=>by
  have he:=h e (by simp);have ih:=oN (es:=es) (λe he=>h e (List.mem_cons_of_mem _ he));simp only [List.flatten_cons,aw,he,ih,cg,Nat.add_mul]; omega
theorem RowIs.len {bs:List Blk}{v:V}{z:Nat}{es:List (List D)}(h:RowIs bs v z es)(hp:Hp):qO false v hp=some (.d (.int .i64 es.length),hp):=by
 obtain ⟨nl,rfl⟩ | ⟨b,o,cap,cs,rfl,_⟩:=h.2<;>simp
theorem RowIs.ok {bs:List Blk}{v:V}{z:Nat}{es:List (List D)}(h:RowIs bs v z es):nu v=some v:=by
 obtain ⟨nl,rfl⟩ | ⟨b,o,cap,cs,rfl,_⟩:=h.2<;>simp
theorem RowIs.elem {bs:List Blk}{v:V}{z:Nat}{es:List (List D)}(h:RowIs bs v z es){i:Nat}(hi:i<es.length){l:Nat} :
 ∃ p,eP none z v (.d (.int .i64 i)) ⟨bs,l⟩=some (p,⟨bs,l⟩)/\loadAt ⟨bs,l⟩ p z=some (es[i].map .d):=by
 have hzi:=h.1 _ (bj hi);obtain ⟨nl,rfl⟩ | ⟨b,o,cap,cs,rfl,h1,h2⟩:=h.2
 . refine ⟨.eptr es[i] 0,?_,?_⟩
   . simp only [eP];rw [if_pos (by omega)];simp only [Int.toNat_natCast,ac hi,hzi,if_true]
   . simp only [loadAt,bN hzi,Option.map_some]
 . refine ⟨.ptr b (o+i * z),?_,?_⟩
   . simp only [eP];rw [if_pos ⟨by omega,by omega,trivial⟩];simp
   . simp only [mY,get_eq,h1];rw [eG] at h2 ⊢;split at h2
     . rename_i hle;simp only [be] at h2;have hiz:(i+1) * z<=es.length * z:=Nat.mul_le_mul_right z hi;rw [Nat.add_mul,Nat.one_mul] at hiz;rw [if_pos (by omega)]
       congr 1
       have hf:=lh (α:=V) (es:=es.map (·.map .d)) (i:=i) (z:=z) (by simpa using h.1) (by simpa using hi);rw [show (es.map (·.map V.d)).flatten=es.flatten.map .d by rw [List.map_flatten],← h2] at hf;simp only [List.getElem_map] at hf;rw [← hf,List.drop_take,bh,List.take_take,Nat.min_eq_left (by omega)]
     . cases h2
def ib {α:Type}(l:List α)(q:α->Bool):Int:=match l.findIdx? q with
 | some k=>k
 | none=>-1
section
variable {E:Calls'}{T:FuncId->Option QF}{val:FuncId->Bool}
theorem RowIs.at {α:Type}{cells:α->List D}{bs:List Blk}{v:V}{z:Nat}{es:List α}(h:RowIs bs v z (es.map cells)){i:Nat}(hi:i<es.length){l:Nat} :
 ∃ p,eP none z v (.d (.int .i64 i)) ⟨bs,l⟩=some (p,⟨bs,l⟩)/\loadAt ⟨bs,l⟩ p z=some ((cells es[i]).map .d):=by
 have:=h.elem (i:=i) (by simpa using hi) (l:=l);simpa using this
theorem RowIs.lenT {α:Type}{cells:α->List D}{bs:List Blk}{v:V}{z:Nat}{es:List α}(h:RowIs bs v z (es.map cells))(hp:Hp):qO false v hp=some (.d (.int .i64 es.length),hp):=by
 simpa using h.len hp
theorem xI {α:Type}{cells:α->List D}{z:Nat}{bs:List Blk}{lo:Nat}{v:V}{es:List α}(hr:RowIs bs v z (es.map cells)){f:FuncId}{caps:List V}{q:α->Bool}(hlen:es.length<2 ^ 62)
 (hf:∀ e∈es,Sm E T val f (.agg ((cells e).map .d)::caps) ⟨bs,lo⟩=some (.d (.bool (q e)),⟨bs,lo⟩)):∀ (m i:Nat),i+m=es.length →
   Cd E T val (.loop [0,1,7,8] (uy z)) [(0,v),(1,.fn f caps),(7,.d (.int .i64 es.length)),(8,.d (.int .i64 i))] ⟨bs,lo⟩ =
    match (es.drop i).findIdx? q with
    | some k=>some (.ret,[(4,.d (.int .i64 (i+k:Nat)))],⟨bs,lo⟩)
    | none=>some (.exit 0,[],⟨bs,lo⟩):=by
 intro m;have key:=ay (E:=E) (T:=T) (val:=val) [0,1,7,8] (uy z);generalize Cd E T val (.loop [0,1,7,8] (uy z))=W at key ⊢
 induction m with
 | zero =>
  intro i hi;have h0:es.drop i=[]:=bb (by omega);rw [key];simp [uy,h0,show ¬ ((i:Int)<es.length) from by omega]
 | succ m ih =>
  intro i hi;have hlt:i<es.length:=by omega
  have hd:es.drop i=es[i]::es.drop (i+1):=ba hlt;obtain ⟨p,hp1,hp2⟩:=hr.at hlt (l:=lo);have hv:=hr.ok;have hcall:=hf _ (bj hlt);generalize es[i]=x at *;rw [key,hd];cases hq:q x with
  | true=>simp [uy,hv,hp1,ldv,hp2,hcall,hq,List.findIdx?_cons,show ((i:Int)<es.length) from by omega,show okV (V.agg ((cells x).map .d))=true from rfl]
  | false =>
   have hw:wrap .i64 ((i:Int)+1)=((i+1:Nat):Int):=by rw [wrap64]<;>omega
   have:=ih (i+1) (by omega);simp [uy,hv,hp1,ldv,hp2,hcall,hq,List.findIdx?_cons,hw,show ((i:Int)<es.length) from by omega,show okV (V.agg ((cells x).map .d))=true from rfl];rw [show ((i:Int)+1)=((i+1:Nat):Int) from by omega,this];cases hfi:(es.drop (i+1)).findIdx? q with
   | none=>rfl
   | some k=>simp; omega
theorem S_idx {α:Type}(cells:α->List D){z:Nat}{id:FuncId}(ht:T id=some (idxQ z))(hvl:val id=false){v:V}{es:List α}{f:FuncId}{caps:List V}{q:α->Bool}{h:Hp}(hr:RowIs h.bs v z (es.map cells))(hlen:es.length<2 ^ 62)
 (hf:∀ e∈es,∀ lo,Sm E T val f (.agg ((cells e).map .d)::caps) ⟨h.bs,lo⟩=some (.d (.bool (q e)),⟨h.bs,lo⟩)):Sm E T val id [v,.fn f caps] h=some (.d (.int .i64 (ib es q)),h):=by
 rw [aJ ht hvl];have hl:=xI hr hlen (λe he=>hf e he h.bs.length) es.length 0 (by omega);have hv:=hr.ok;have hn:=hr.lenT;simp [idxQ,af,hv,hn,ib];rw [aj];simp at hl;simp [hl];cases es.findIdx? q with
 | none=>simp [V.under]
 | some k=>simp [V.under]
end
end
section
structure Sl (α:Type) where
 nl:Bool
 l:List α
abbrev u64 (n:Int):D:=.int .u64 n
abbrev u32 (n:Int):D:=.int .u32 n
abbrev i64 (n:Int):D:=.int .i64 n
abbrev bl (b:Bool):V:=.d (.bool b)
def Sl.d {α:Type}(f:α->List D)(s:Sl α):D:=.slice s.nl (s.l.map f)
structure Pod where
 uid:Int
 ns:ByteArray
 sa:ByteArray
 host:Int
 addr:Int
 port:Int
 service:Int
def Pod.c (p:Pod):List D:=[u64 p.uid,.str p.ns,.str p.sa,i64 p.host,u32 p.addr,i64 p.port,u64 p.service]
structure Svc where
 id:Int
 ns:ByteArray
 addr:Int
 port:Int
 way:Int
def Svc.c (s:Svc):List D:=[u64 s.id,.str s.ns,u32 s.addr,i64 s.port,u64 s.way]
structure Way where
 id:Int
 node:Int
def Way.c (w:Way):List D:=[u64 w.id,i64 w.node]
structure Term where
 kind:Int
 text:ByteArray
def Term.c (t:Term):List D:=[i64 t.kind,.str t.text]
structure Cidr where
 addr:Int
 bits:Int
def Cidr.c (t:Cidr):List D:=[u32 t.addr,i64 t.bits]
structure Source where
 names:Sl Term
 spaces:Sl Term
 nets:Sl Cidr
def Source.c (s:Source):List D:=[s.names.d Term.c,s.spaces.d Term.c,s.nets.d Cidr.c]
def ig (n:Int):List D:=[i64 n]
structure Target where
 ports:Sl Int
 methods:Sl Term
 paths:Sl Term
 hosts:Sl Term
def Target.c (t:Target):List D:=[t.ports.d ig,t.methods.d Term.c,t.paths.d Term.c,t.hosts.d Term.c]
structure When where
 head:ByteArray
 terms:Sl Term
def When.c (w:When):List D:=[.str w.head,w.terms.d Term.c]
structure Rule where
 frm:Sl Source
 to:Sl Target
 whn:Sl When
def Rule.c (r:Rule):List D:=[r.frm.d Source.c,r.to.d Target.c,r.whn.d When.c]
structure Pol where
 id:Int
 ns:ByteArray
 service:Int
 deny:Int
 rules:Sl Rule
def Pol.c (p:Pol):List D:=[u64 p.id,.str p.ns,u64 p.service,i64 p.deny,p.rules.d Rule.c]
structure Cfg where
 epoch:Int
 next:Int
 hosts:Int
 ways:Int
 pods:Sl Pod
 services:Sl Svc
 bound:Sl Way
 policies:Sl Pol
def Cfg.c (c:Cfg):List D:=[u64 c.epoch,u64 c.next,i64 c.hosts,i64 c.ways,c.pods.d Pod.c,c.services.d Svc.c,c.bound.d Way.c,c.policies.d Pol.c]
def ag (l:List D):V:=.agg (l.map .d)
abbrev Pod.v (p:Pod):V:=ag p.c
abbrev Svc.v (p:Svc):V:=ag p.c
abbrev Way.v (p:Way):V:=ag p.c
abbrev Pol.v (p:Pol):V:=ag p.c
abbrev Rule.v (p:Rule):V:=ag p.c
abbrev Cfg.v (p:Cfg):V:=ag p.c
def bd2:Pod:=⟨0,⟨#[]⟩,⟨#[]⟩,0,0,0,0⟩
def svc0:Svc:=⟨0,⟨#[]⟩,0,0,0⟩
def way0:Way:=⟨0,0⟩
def fit {α:Type}(B:Nat)(s:Sl α):Prop:=s.l.length<=B/\(s.nl=true->s.l=[])
def Source.fits (B:Nat)(s:Source):Prop:=fit B s.names/\fit B s.spaces/\fit B s.nets
def Target.fits (B:Nat)(s:Target):Prop:=fit B s.ports/\fit B s.methods/\fit B s.paths/\fit B s.hosts
def When.fits (B:Nat)(w:When):Prop:=fit B w.terms
def Rule.fits (B:Nat)(r:Rule):Prop:=(fit B r.frm/\∀ s∈r.frm.l,s.fits B)/\(fit B r.to/\∀ s∈r.to.l,s.fits B)/\fit B r.whn/\∀ s∈r.whn.l,s.fits B
def Pol.fits (B:Nat)(p:Pol):Prop:=fit B p.rules/\∀ r∈p.rules.l,r.fits B
def Cfg.fits (B:Nat)(c:Cfg):Prop:=fit B c.pods/\fit B c.services/\fit B c.bound/\fit B c.policies/\∀ p∈c.policies.l,p.fits B
abbrev big:Nat:=2 ^ 30
abbrev short {α:Type} (s:Sl α):Prop:=fit big s
abbrev Cfg.ok (c:Cfg):Prop:=c.fits big
abbrev Pol.ok (c:Pol):Prop:=c.fits big
theorem fit.lt {α:Type}{s:Sl α}(h:short s):s.l.length<2 ^ 62:=ce h.1 (by decide)
theorem RowIs.of {α:Type}{cells:α->List D}{s:Sl α}{z:Nat}(hz:∀ x,(cells x).length=z)(bs:List Blk):RowIs bs (.d (s.d cells)) z (s.l.map cells) :=
 ⟨by simp; intro a _; exact hz a,.inl ⟨s.nl,rfl⟩⟩
@[simp] theorem bc5 {l:List D}:okV (ag l)=true:=(rfl)
@[simp] theorem cr8 {l:List D}:nu (ag l)=some (ag l):=(rfl)
@[simp] theorem Wl {l:List D}:(ag l).cells=some (l.map .d):=(rfl)
@[simp] theorem Al {h:Hp}{l:List D}:frz h (ag l)=some (ag l):=Am h l
@[simp] theorem Ec {h:Hp}{d:D}:frz h (.d d)=some (.d d):=JD h d
@[simp] theorem ae0 {h:Hp}{l:List D}:cO h (ag l)=some (ag l):=Am h l
@[simp] theorem ae1 {h:Hp}{d:D}:cO h (.d d)=some (.d d):=JD h d
@[simp] theorem ah1 {l:List D}:gY (ag l)=true:=Kk l
@[simp] theorem ah2 {d:D}:gY (.d d)=true:=(rfl)
@[simp] theorem ac6 {h:Hp}{l:List D}:Ae h (ag l)=some (.ptr h.bs.length 0,h.alloc (l.map .d)):=(rfl)
theorem dE {α:Type}(l:List α)(q:α->Bool):(l.find? q=none/\ib l q=-1)\/∃ k e,l.find? q=some e/\ib l q=(k:Nat)/\l[k]?=some e:=by
 unfold ib;cases h:l.findIdx? q with
 | none =>
  left;rw [List.findIdx?_eq_none_iff] at h;exact ⟨List.find?_eq_none.2 λx hx=>by simp [h x hx],rfl⟩
 | some k =>
  right;have h2:=List.findIdx?_eq_some_iff_getElem.1 h;obtain ⟨hk,h3,h4⟩:=h2;refine ⟨k,l[k],?_,rfl,ac hk⟩;rw [List.find?_eq_some_iff_getElem];exact ⟨h3,k,hk,rfl,λj hj=>by simpa using h4 j hj⟩
theorem aA {α:Type}{s:Sl α}{cells:α->List D}{k z:Nat}{e:α}(h:Hp)(hk:s.l[k]?=some e)(hz:(cells e).length=z):eP none z (.d (s.d cells)) (.d (.int .i64 k)) h=some (.eptr (cells e) 0,h):=by
 simp only [eP,Sl.d];rw [if_pos (by omega)];simp [hk,hz]
@[simp] theorem af1 {α:Type}{s:Sl α}{cells:α->List D}{h:Hp}:qO false (.d (s.d cells)) h=some (.d (i64 s.l.length),h):=by simp [Sl.d]
@[simp] theorem O3 {α β:Type}{f:α->β}{l:List α}{o n:Nat}:sub (l.map f) o n=(sub l o n).map (·.map f):=by
 simp only [sub,b9]; split<;>simp [List.map_take,List.map_drop]
@[simp] theorem ZK {α:Type}{x:α}{l:List α}{o n:Nat}:sub (x::l) (o+1) n=sub l o n:=by
 simp only [sub,cg,List.drop_succ_cons];by_cases h:o+n<=l.length
 . rw [if_pos h,if_pos (by omega)]
 . rw [if_neg h,if_neg (by omega)]
@[simp] theorem LH {α:Type}{x:α}{l:List α}{n:Nat}:sub (x::l) 0 (n+1)=(sub l 0 n).map (x::·):=by
 simp only [sub,cg,List.drop_zero,List.take_succ_cons];by_cases h:0+n<=l.length
 . rw [if_pos h,if_pos (by omega)]; rfl
 . rw [if_neg h,if_neg (by omega)]; rfl
@[simp] theorem LJ {α:Type}{l:List α}:sub l 0 0=some []:=by simp [sub]
@[simp] theorem jV {α:Type}{x:α}{l xs:List α}{o:Nat}:put (x::l) (o+1) xs=(put l o xs).map (x::·):=by
 simp only [put,cg];by_cases h:o+xs.length<=l.length
 . rw [if_pos h,if_pos (by omega)];simp only [Option.map_some,List.take_succ_cons,List.cons_append];rw [show o+1+xs.length=(o+xs.length)+1 by omega,List.drop_succ_cons]
 . rw [if_neg h,if_neg (by omega)]; rfl
@[simp] theorem jd {α:Type}{l xs:List α}:put l 0 xs=if xs.length<=l.length then some (xs++l.drop xs.length) else none:=by
 simp [put]
@[simp] theorem Pod.len {x:Pod}:x.c.length=7:=(rfl)
@[simp] theorem Pod.all {x:Pod}:sub x.c 0 7=some x.c:=(rfl)
@[simp] theorem Pod.s0_1 {x:Pod}:sub x.c 0 1=some [u64 x.uid]:=(rfl)
@[simp] theorem Pod.s1_1 {x:Pod}:sub x.c 1 1=some [.str x.ns]:=(rfl)
@[simp] theorem Pod.s2_1 {x:Pod}:sub x.c 2 1=some [.str x.sa]:=(rfl)
@[simp] theorem Pod.s3_1 {x:Pod}:sub x.c 3 1=some [i64 x.host]:=(rfl)
@[simp] theorem Pod.s4_1 {x:Pod}:sub x.c 4 1=some [u32 x.addr]:=(rfl)
@[simp] theorem Pod.s5_1 {x:Pod}:sub x.c 5 1=some [i64 x.port]:=(rfl)
@[simp] theorem Pod.s6_1 {x:Pod}:sub x.c 6 1=some [u64 x.service]:=(rfl)
@[simp] theorem Pod.s1_2 {x:Pod}:sub x.c 1 2=some [.str x.ns,.str x.sa]:=(rfl)
@[simp] theorem Svc.len {x:Svc}:x.c.length=5:=(rfl)
@[simp] theorem Svc.all {x:Svc}:sub x.c 0 5=some x.c:=(rfl)
@[simp] theorem Svc.s0_1 {x:Svc}:sub x.c 0 1=some [u64 x.id]:=(rfl)
@[simp] theorem Svc.s1_1 {x:Svc}:sub x.c 1 1=some [.str x.ns]:=(rfl)
@[simp] theorem Svc.s2_1 {x:Svc}:sub x.c 2 1=some [u32 x.addr]:=(rfl)
@[simp] theorem Svc.s3_1 {x:Svc}:sub x.c 3 1=some [i64 x.port]:=(rfl)
@[simp] theorem Svc.s4_1 {x:Svc}:sub x.c 4 1=some [u64 x.way]:=(rfl)
@[simp] theorem Way.len {x:Way}:x.c.length=2:=(rfl)
@[simp] theorem Way.all {x:Way}:sub x.c 0 2=some x.c:=(rfl)
@[simp] theorem Way.s0_1 {x:Way}:sub x.c 0 1=some [u64 x.id]:=(rfl)
@[simp] theorem Way.s1_1 {x:Way}:sub x.c 1 1=some [i64 x.node]:=(rfl)
@[simp] theorem Term.len {x:Term}:x.c.length=2:=(rfl)
@[simp] theorem Term.all {x:Term}:sub x.c 0 2=some x.c:=(rfl)
@[simp] theorem Term.s0_1 {x:Term}:sub x.c 0 1=some [i64 x.kind]:=(rfl)
@[simp] theorem Term.s1_1 {x:Term}:sub x.c 1 1=some [.str x.text]:=(rfl)
@[simp] theorem Cidr.len {x:Cidr}:x.c.length=2:=(rfl)
@[simp] theorem Cidr.all {x:Cidr}:sub x.c 0 2=some x.c:=(rfl)
@[simp] theorem Cidr.s0_1 {x:Cidr}:sub x.c 0 1=some [u32 x.addr]:=(rfl)
@[simp] theorem Cidr.s1_1 {x:Cidr}:sub x.c 1 1=some [i64 x.bits]:=(rfl)
@[simp] theorem Source.len {x:Source}:x.c.length=3:=(rfl)
@[simp] theorem Source.all {x:Source}:sub x.c 0 3=some x.c:=(rfl)
@[simp] theorem Source.s0_1 {x:Source}:sub x.c 0 1=some [x.names.d Term.c]:=(rfl)
@[simp] theorem Source.s1_1 {x:Source}:sub x.c 1 1=some [x.spaces.d Term.c]:=(rfl)
@[simp] theorem Source.s2_1 {x:Source}:sub x.c 2 1=some [x.nets.d Cidr.c]:=(rfl)
@[simp] theorem Target.len {x:Target}:x.c.length=4:=(rfl)
@[simp] theorem Target.all {x:Target}:sub x.c 0 4=some x.c:=(rfl)
@[simp] theorem Target.s0_1 {x:Target}:sub x.c 0 1=some [x.ports.d ig]:=(rfl)
@[simp] theorem Target.s1_1 {x:Target}:sub x.c 1 1=some [x.methods.d Term.c]:=(rfl)
@[simp] theorem Target.s2_1 {x:Target}:sub x.c 2 1=some [x.paths.d Term.c]:=(rfl)
@[simp] theorem Target.s3_1 {x:Target}:sub x.c 3 1=some [x.hosts.d Term.c]:=(rfl)
@[simp] theorem When.len {x:When}:x.c.length=2:=(rfl)
@[simp] theorem When.all {x:When}:sub x.c 0 2=some x.c:=(rfl)
@[simp] theorem When.s0_1 {x:When}:sub x.c 0 1=some [.str x.head]:=(rfl)
@[simp] theorem When.s1_1 {x:When}:sub x.c 1 1=some [x.terms.d Term.c]:=(rfl)
@[simp] theorem Rule.len {x:Rule}:x.c.length=3:=(rfl)
@[simp] theorem Rule.all {x:Rule}:sub x.c 0 3=some x.c:=(rfl)
@[simp] theorem Rule.s0_1 {x:Rule}:sub x.c 0 1=some [x.frm.d Source.c]:=(rfl)
@[simp] theorem Rule.s1_1 {x:Rule}:sub x.c 1 1=some [x.to.d Target.c]:=(rfl)
@[simp] theorem Rule.s2_1 {x:Rule}:sub x.c 2 1=some [x.whn.d When.c]:=(rfl)
@[simp] theorem Pol.len {x:Pol}:x.c.length=5:=(rfl)
@[simp] theorem Pol.all {x:Pol}:sub x.c 0 5=some x.c:=(rfl)
@[simp] theorem Pol.s0_1 {x:Pol}:sub x.c 0 1=some [u64 x.id]:=(rfl)
@[simp] theorem Pol.s1_1 {x:Pol}:sub x.c 1 1=some [.str x.ns]:=(rfl)
@[simp] theorem Pol.s2_1 {x:Pol}:sub x.c 2 1=some [u64 x.service]:=(rfl)
@[simp] theorem Pol.s3_1 {x:Pol}:sub x.c 3 1=some [i64 x.deny]:=(rfl)
@[simp] theorem Pol.s4_1 {x:Pol}:sub x.c 4 1=some [x.rules.d Rule.c]:=(rfl)
@[simp] theorem Cfg.len {x:Cfg}:x.c.length=8:=(rfl)
@[simp] theorem Cfg.all {x:Cfg}:sub x.c 0 8=some x.c:=(rfl)
@[simp] theorem Cfg.s0_1 {x:Cfg}:sub x.c 0 1=some [u64 x.epoch]:=(rfl)
@[simp] theorem Cfg.s1_1 {x:Cfg}:sub x.c 1 1=some [u64 x.next]:=(rfl)
@[simp] theorem Cfg.s2_1 {x:Cfg}:sub x.c 2 1=some [i64 x.hosts]:=(rfl)
@[simp] theorem Cfg.s3_1 {x:Cfg}:sub x.c 3 1=some [i64 x.ways]:=(rfl)
@[simp] theorem Cfg.s4_1 {x:Cfg}:sub x.c 4 1=some [x.pods.d Pod.c]:=(rfl)
@[simp] theorem Cfg.s5_1 {x:Cfg}:sub x.c 5 1=some [x.services.d Svc.c]:=(rfl)
@[simp] theorem Cfg.s6_1 {x:Cfg}:sub x.c 6 1=some [x.bound.d Way.c]:=(rfl)
@[simp] theorem Cfg.s7_1 {x:Cfg}:sub x.c 7 1=some [x.policies.d Pol.c]:=(rfl)
@[simp] theorem ay3 (l:List D):V.agg (l.map .d)=ag l:=(rfl)
@[simp] theorem Di {h:Hp}{b o:Nat}{xs:List V}:storeAt h (.ptr b o) xs=match h.get b with
 | some cs=>match put cs o xs with
  | some cs'=>some (h.set b cs')
  | none=>none
 | none=>none:=(rfl)
@[simp] theorem aN {h:Hp}{a x:V}{n:Nat}:stv h a x n=match x.cells with
 | some xs=>if xs.length=n/\0<n then (storeAt h a xs).map (.undef,·) else none
 | none=>none:=(rfl)
@[simp] theorem ac8 {d:D}:(V.d d).cells=some [.d d]:=(rfl)
@[simp] theorem Uq {cs:List V}:(V.agg cs).cells=some cs:=(rfl)
@[simp] theorem Ur {b o:Nat}:(V.ptr b o).cells=some [.ptr b o]:=(rfl)
@[simp] theorem Us {b o l z:Nat}{c:Option Nat}:(V.row b o l c z).cells=some [.row b o l c z]:=(rfl)
@[simp low] theorem O0 {bs:List Blk} {l b:Nat} {cs:List V}:Hp.set ⟨bs,l⟩ b cs=⟨bs.set b (.cells cs),min l b⟩:=(rfl)
@[simp] theorem az6 {a b:Int}(h:¬ a=b):(a==b)=false:=by simpa using h
@[simp] theorem af2 (k:Nat):((k:Int)<0)↔False:=⟨λh=>by omega,False.elim⟩
@[simp] theorem bb4 (k:Nat):((k:Int)>=0)↔True:=⟨λ_=>trivial,λ_=>Int.natCast_nonneg k⟩
@[simp] theorem bb5 (k:Nat):(0<=(k:Int))↔True:=⟨λ_=>trivial,λ_=>Int.natCast_nonneg k⟩
@[simp] theorem Q3 {ev:X->V}{cs:List V}:aL ev cs []=some cs:=(rfl)
@[simp] theorem JA {h:Hp}{cs:List V}:cO h (.agg cs)=match fA h cs with
 | some l=>some (ag l)
 | none=>none:=(rfl)
@[simp] theorem rZ {h:Hp}{cs:List V}:frz h (.agg cs)=match fA h cs with
 | some l=>some (ag l)
 | none=>none:=(rfl)
@[simp] theorem QR {h:Hp}:fA h []=some []:=(rfl)
@[simp] theorem BM {h:Hp}{x:D}{cs:List V}:fA h (.d x::cs)=(fA h cs).map (x::·):=by
 simp only [fA,List.mapM_cons,Fy];cases cs.mapM (dataV h 8)<;>rfl
@[simp] theorem FK {h:Hp}{b o n z:Nat}{cap:Option Nat}:frz h (.row b o n cap z)=match dataV h 8 (.row b o n cap z) with
 | some d=>some (.d d)
 | none=>none:=(rfl)
@[simp] theorem JB {h:Hp}{b o n z:Nat}{cap:Option Nat}:cO h (.row b o n cap z)=match dataV h 8 (.row b o n cap z) with
 | some d=>some (.d d)
 | none=>none:=(rfl)
@[simp] theorem Ms {h:Hp}{vs:List V}:frz h (.tup vs)=match vs.mapM (cO h) with
 | some l=>some (.tup l)
 | none=>none:=(rfl)
def runT (t:Tr)(o:Option (List Tr×EA×Hp)):Option (List Tr×EA×Hp):=match o with
 | some (l,e,h)=>some (t::l,e,h)
 | none=>none
def Ia (C:Calls')(os:List RO)(e:EA)(d:Option Nat)(o:Option (V×Hp×Tr)):Option (List Tr×EA×Hp):=match o with
 | some (v,h',t)=>runT t (gL C os (cK e d v) h')
 | none=>none
def xG (C:Calls')(v:V)(w:Bool)(d:Option Nat)(r:R)(os:List RO)(e:EA)(h:Hp):Option (List Tr×EA×Hp):=match v with
 | .d (.bool t)=>if t=w then Ia C os e d (dh C r (X.ea e) h) else runT (az h) (gL C os (cK e d (.tup [])) h)
 | .tup []=>runT (az h) (gL C os (cK e d (.tup [])) h)
 | _=>none
section
variable {C:Calls'}{ev:X->V}{h:Hp}
@[simp] theorem ZF {e:EA}:gL C [] e h=some ([],e,h):=(rfl)
@[simp] theorem H9 {d:Option Nat}{r:R}{os:List RO}{e:EA}:gL C (⟨none,d,r⟩::os) e h=Ia C os e d (dh C r (X.ea e) h):=(rfl)
@[simp] theorem OW {j:Nat}{w:Bool}{d:Option Nat}{r:R}{os:List RO}{e:EA}:gL C (⟨some (j,w),d,r⟩::os) e h=xG C (e.get j) w d r os e h:=(rfl)
@[simp] theorem TY {os:List RO}{e:EA}{d:Option Nat}{v:V}{h':Hp}{t:Tr}:Ia C os e d (some (v,h',t))=runT t (gL C os (cK e d v) h'):=(rfl)
@[simp] theorem TZ {t:Tr}{l:List Tr}{e:EA}:runT t (some (l,e,h))=some (t::l,e,h):=(rfl)
section
variable {d:Option Nat}{r:R}{os:List RO}{e:EA}
@[simp] theorem WK:xG C (.d (.bool true)) true d r os e h=Ia C os e d (dh C r (X.ea e) h):=(rfl)
@[simp] theorem WJ:xG C (.d (.bool true)) false d r os e h=runT (az h) (gL C os (cK e d (.tup [])) h):=(rfl)
@[simp] theorem WI:xG C (.d (.bool false)) true d r os e h=runT (az h) (gL C os (cK e d (.tup [])) h):=(rfl)
@[simp] theorem WH:xG C (.d (.bool false)) false d r os e h=Ia C os e d (dh C r (X.ea e) h):=(rfl)
@[simp] theorem ae2 {w:Bool}:xG C (.tup []) w d r os e h=runT (az h) (gL C os (cK e d (.tup [])) h):=(rfl)
end
def trE (o:Option (V×Hp))(h:Hp)(nd wr:List Nat):Option (V×Hp×Tr):=match o with
 | some (v,h')=>some (v,h',⟨false,false,nd,wr,h.bs.length,h'.bs.length,0⟩)
 | none=>none
@[simp] theorem ct0 {v:V}{h':Hp}{nd wr:List Nat}:trE (some (v,h')) h nd wr=some (v,h',⟨false,false,nd,wr,h.bs.length,h'.bs.length,0⟩):=(rfl)
@[simp] theorem Yv {x:X}:dh C (.mov x) ev h=trE (opE C (.mov x) ev h) h [] []:=(rfl)
@[simp] theorem UD {a b c:X}:dh C (.pick a b c) ev h=trE (opE C (.pick a b c) ev h) h [] []:=(rfl)
@[simp] theorem Yw {a:List V}:dh C (.new a) ev h=trE (opE C (.new a) ev h) h [] []:=(rfl)
@[simp] theorem Yp {a:X}:dh C (.box a) ev h=trE (opE C (.box a) ev h) h [] []:=(rfl)
@[simp] theorem Rj {a:List V}{b:List (Nat×Nat×X)}:dh C (.build a b) ev h=trE (opE C (.build a b) ev h) h [] []:=(rfl)
@[simp] theorem P6 {z n:Nat}{a:List V}{b:List (Nat×Nat×X)}:dh C (.buildS z n a b) ev h=trE (opE C (.buildS z n a b) ev h) h [] []:=(rfl)
@[simp] theorem Uz {s:Bool}{n:Nat}{a:X}:dh C (.load s n a) ev h=trE (opE C (.load s n a) ev h) h (ev a).blk []:=(rfl)
@[simp] theorem Rl {n:Nat}{a b:X}:dh C (.store n a b) ev h=trE (opE C (.store n a b) ev h) h (ev a).blk (ev a).blk:=(rfl)
@[simp] theorem Yo {o:BinOp}{a b:X}:dh C (.bin o a b) ev h=trE (opE C (.bin o a b) ev h) h [] []:=(rfl)
@[simp] theorem af9 {k:EQ}{n:Bool}{a b:X}:dh C (.eq k n a b) ev h=trE (opE C (.eq k n a b) ev h) h [] []:=(rfl)
@[simp] theorem ag0 {o:UnOp}{a:X}:dh C (.un o a) ev h=trE (opE C (.un o a) ev h) h [] []:=(rfl)
@[simp] theorem Rk {k:IntKind}{a:X}:dh C (.convI k a) ev h=trE (opE C (.convI k a) ev h) h [] []:=(rfl)
@[simp] theorem P7 {a:X}:dh C (.convBS a) ev h=trE (opE C (.convBS a) ev h) h (ev a).blk []:=(rfl)
@[simp] theorem P8 {a:X}:dh C (.convSB a) ev h=trE (opE C (.convSB a) ev h) h [] []:=(rfl)
@[simp] theorem P9 {a:X}:dh C (.convSS a) ev h=trE (opE C (.convSS a) ev h) h [] []:=(rfl)
@[simp] theorem Uw {n:Nat}{a:X}:dh C (.fldA a n) ev h=trE (opE C (.fldA a n) ev h) h [] []:=(rfl)
@[simp] theorem Yr {s:Bool}{o n:Nat}{a:X}:dh C (.fld s a o n) ev h=trE (opE C (.fld s a o n) ev h) h [] []:=(rfl)
@[simp] theorem Ux {m:Option Nat}{n:Nat}{a b:X}:dh C (.idxA m n a b) ev h=trE (opE C (.idxA m n a b) ev h) h [] []:=(rfl)
@[simp] theorem Yt {s:Bool}{m n:Nat}{a b:X}:dh C (.idx s m n a b) ev h=trE (opE C (.idx s m n a b) ev h) h [] []:=(rfl)
@[simp] theorem Uy {a b:X}:dh C (.idxS a b) ev h=trE (opE C (.idxS a b) ev h) h [] []:=(rfl)
@[simp] theorem Yx {k:SK}{z:Nat}{a:X}{b c d:Option X}:dh C (.slc k z a b c d) ev h=trE (opE C (.slc k z a b c d) ev h) h (ev a).blk []:=(rfl)
@[simp] theorem UB {f:FuncId}{l:List X}:dh C (.mkmv f l) ev h=trE (opE C (.mkmv f l) ev h) h [] []:=(rfl)
@[simp] theorem UA {f:FuncId}{l:List X}:dh C (.mkfn f l) ev h=trE (opE C (.mkfn f l) ev h) h [] []:=(rfl)
@[simp] theorem UC {z b:Nat}{l:List V}{x y:X}:dh C (.mksl z b l x y) ev h=trE (opE C (.mksl z b l x y) ev h) h [] []:=(rfl)
@[simp] theorem Yq {n:Nat}{a:X}:dh C (.ext a n) ev h=trE (opE C (.ext a n) ev h) h [] []:=(rfl)
@[simp] theorem Yn {z b:Nat}{x y:X}:dh C (.app z b x y) ev h=trE (opE C (.app z b x y) ev h) h ((ev x).blk++(ev y).blk) (ev x).blk:=(rfl)
@[simp] theorem Yu {s:Bool}{a:X}:dh C (.len s a) ev h=trE (opE C (.len s a) ev h) h [] []:=(rfl)
@[simp] theorem Uv {z:Nat}{x y:X}:dh C (.copy z x y) ev h=trE (opE C (.copy z x y) ev h) h ((ev x).blk++(ev y).blk) (ev x).blk:=(rfl)
@[simp] theorem Qa {a:X}:dh C (.nilchk a) ev h=trE (opE C (.nilchk a) ev h) h [] []:=(rfl)
theorem aa {f:X}{args:List X}:dh C (.call f args) ev h=if args.all (λx=>okV (ev x))=true then match iR C (ev f) (args.map ev) ⟨h.bs,h.bs.length⟩ with
 | some (v,h')=>if h.bs.length<=h'.low then
  (if h'.bs.length=h.bs.length then some (v,h,⟨true,false,[],[],h.bs.length,h.bs.length,0⟩)
  else some (v,⟨h'.bs,h.low⟩,⟨true,false,[],[],h.bs.length,h'.bs.length,0⟩))
  else some (v,⟨h'.bs,min h.low h'.low⟩,⟨true,true,[],[],h.bs.length,h'.bs.length,⟨h'.low,vL h.bs h'.bs⟩⟩)
 | none=>none
 else none:=(rfl)
end
@[simp] theorem cq9 {d:D}:(V.d d).blk=[]:=(rfl)
@[simp] theorem ac4 {b o:Nat}:(V.ptr b o).blk=[b]:=(rfl)
@[simp] theorem ac5 {b o l z:Nat}{c:Option Nat}:(V.row b o l c z).blk=[b]:=(rfl)
@[simp] theorem Wd {cs:List D}{o:Nat}:(V.eptr cs o).blk=[]:=(rfl)
@[simp] theorem ac3 {cs:List V}:(V.agg cs).blk=[]:=(rfl)
end
section
section
variable {E:Calls'}{T:FuncId->Option QF}{val:FuncId->Bool}
theorem GJ {α:Type}{cell:α->D}{bs:List Blk}{lo:Nat}{v:V}{es:List α}(hr:RowIs bs v 1 (es.map λx=>[cell x])){f:FuncId}{caps:List V}{q:α->Bool}(hlen:es.length<2 ^ 62)
 (hf:∀ e∈es,Sm E T val f (.d (cell e)::caps) ⟨bs,lo⟩=some (.d (.bool (q e)),⟨bs,lo⟩)):∀ (m i:Nat),i+m=es.length →
   Cd E T val (.loop [0,1,7,8] xH) [(0,v),(1,.fn f caps),(7,.d (.int .i64 es.length)),(8,.d (.int .i64 i))] ⟨bs,lo⟩ =
    match (es.drop i).findIdx? q with
    | some k=>some (.ret,[(4,.d (.int .i64 (i+k:Nat)))],⟨bs,lo⟩)
    | none=>some (.exit 0,[],⟨bs,lo⟩):=by
 intro m;have key:=ay (E:=E) (T:=T) (val:=val) [0,1,7,8] xH;generalize Cd E T val (.loop [0,1,7,8] xH)=W at key ⊢
 induction m with
 | zero =>
  intro i hi;have h0:es.drop i=[]:=bb (by omega);rw [key];simp [xH,h0,show ¬ ((i:Int)<es.length) from by omega]
 | succ m ih =>
  intro i hi;have hlt:i<es.length:=by omega
  have hd:es.drop i=es[i]::es.drop (i+1):=ba hlt;obtain ⟨p,hp1,hp2⟩:=hr.at hlt (l:=lo);have hv:=hr.ok;have hcall:=hf _ (bj hlt);generalize es[i]=x at *;rw [key,hd];cases hq:q x with
  | true=>simp [xH,hv,hp1,ldv,hp2,hcall,hq,List.findIdx?_cons,show ((i:Int)<es.length) from by omega]
  | false =>
   have hw:wrap .i64 ((i:Int)+1)=((i+1:Nat):Int):=by rw [wrap64]<;>omega
   have:=ih (i+1) (by omega);simp [xH,hv,hp1,ldv,hp2,hcall,hq,List.findIdx?_cons,hw,show ((i:Int)<es.length) from by omega];rw [show ((i:Int)+1)=((i+1:Nat):Int) from by omega,this];cases hfi:(es.drop (i+1)).findIdx? q with
   | none=>rfl
   | some k=>simp; omega
theorem QA {α:Type}(cell:α->D){id:FuncId}(ht:T id=some idx1Q)(hvl:val id=false){v:V}{es:List α}{f:FuncId}{caps:List V}{q:α->Bool}{h:Hp}(hr:RowIs h.bs v 1 (es.map λx=>[cell x]))(hlen:es.length<2 ^ 62)
 (hf:∀ e∈es,∀ lo,Sm E T val f (.d (cell e)::caps) ⟨h.bs,lo⟩=some (.d (.bool (q e)),⟨h.bs,lo⟩)):Sm E T val id [v,.fn f caps] h=some (.d (.int .i64 (ib es q)),h):=by
 rw [aJ ht hvl];have hl:=GJ hr hlen (λe he=>hf e he h.bs.length) es.length 0 (by omega);have hv:=hr.ok;have hn:=hr.lenT;simp [idx1Q,af,hv,hn,ib];rw [aj];simp at hl;simp [hl];cases es.findIdx? q with
 | none=>simp [V.under]
 | some k=>simp [V.under]
theorem kL {α:Type}(es:List α)(q:α->Bool):decide (ib es q>=0)=es.any q:=by
 obtain ⟨h1,h2⟩ | ⟨k,e,h1,h2,h3⟩:=dE es q
 . rw [h2];have:es.any q=false:=by
    rw [List.any_eq_false];intro x hx;simpa using List.find?_eq_none.1 h1 x hx
   rw [this]; rfl
 . rw [h2];have:es.any q=true:=List.any_eq_true.2 ⟨e,List.mem_of_find?_eq_some h1,List.find?_some h1⟩;rw [this];simp
theorem RowIs.okv {bs:List Blk}{v:V}{z:Nat}{es:List (List D)}(h:RowIs bs v z es):okV v=true:=by
 obtain ⟨nl,rfl⟩ | ⟨b,o,cap,cs,rfl,_⟩:=h.2<;>rfl
theorem DC {id idx:FuncId}(ht:T id=some (anyQ idx))(hv:val id=false){v:V}{f:FuncId}{caps:List V}{n:Int}{h:Hp}(hnu:nu v=some v)(hok:okV v=true)(hi:Sm E T val idx [v,.fn f caps] ⟨h.bs,h.bs.length⟩=some (.d (.int .i64 n),⟨h.bs,h.bs.length⟩)) :
 Sm E T val id [v,.fn f caps] h=some (bl (decide (n>=0)),h):=by
 rw [aJ ht hv];simp [anyQ,af,hnu,hok,hi,V.under]
theorem S_any {α:Type}(cells:α->List D){z:Nat}{idx id:FuncId}(hti:T idx=some (idxQ z))(hvi:val idx=false)(ht:T id=some (anyQ idx))(hv:val id=false){v:V}{es:List α}{f:FuncId}{caps:List V}{q:α->Bool}{h:Hp}(hr:RowIs h.bs v z (es.map cells))(hlen:es.length<2 ^ 62)
 (hf:∀ e∈es,∀ lo,Sm E T val f (.agg ((cells e).map .d)::caps) ⟨h.bs,lo⟩=some (.d (.bool (q e)),⟨h.bs,lo⟩)):Sm E T val id [v,.fn f caps] h=some (bl (es.any q),h):=by
 rw [DC ht hv hr.ok hr.okv (S_idx (h:=⟨h.bs,h.bs.length⟩) cells hti hvi hr hlen hf),kL]
theorem IU {α:Type}(cell:α->D){idx id:FuncId}(hti:T idx=some idx1Q)(hvi:val idx=false)(ht:T id=some (anyQ idx))(hv:val id=false){v:V}{es:List α}{f:FuncId}{caps:List V}{q:α->Bool}{h:Hp}(hr:RowIs h.bs v 1 (es.map λx=>[cell x]))(hlen:es.length<2 ^ 62)
 (hf:∀ e∈es,∀ lo,Sm E T val f (.d (cell e)::caps) ⟨h.bs,lo⟩=some (.d (.bool (q e)),⟨h.bs,lo⟩)):Sm E T val id [v,.fn f caps] h=some (bl (es.any q),h):=by
 rw [DC ht hv hr.ok hr.okv (QA (h:=⟨h.bs,h.bs.length⟩) cell hti hvi hr hlen hf),kL]
theorem VY {id:FuncId}{z:Nat}(ht:T id=some (notQ z))(hv:val id=false){c:List D}(hc:c.length=z){f:FuncId}{x:Nat}{p:Bool}{h:Hp}(hp:ah h.bs x=some [.fn f []])
 (hf:∀ h,Sm E T val f [ag c] h=some (bl p,h)):Sm E T val id [ag c,.ptr x 0] h=some (bl (!p),h):=by
 rw [aJ ht hv];have hs:=bN hc;simp [notQ,af,av hp,hf,hs,V.under]
theorem QB {id:FuncId}(ht:T id=some not1Q)(hv:val id=false){c:D}{f:FuncId}{x:Nat}{p:Bool}{h:Hp}(hp:ah h.bs x=some [.fn f []])
 (hf:∀ h,Sm E T val f [.d c] h=some (bl p,h)):Sm E T val id [.d c,.ptr x 0] h=some (bl (!p),h):=by
 rw [aJ ht hv];simp [not1Q,af,hp,hf,V.under]
theorem vY {α:Type}(l:List α)(p:α->Bool):(!l.any λx=>!p x)=l.all p:=by
 induction l with
 | nil=>rfl
 | cons x l ih=>simp only [List.any_cons,List.all_cons,Bool.not_or,Bool.not_not,ih]
theorem Bp {α:Type}{cells:α->List D}{z:Nat}{idx con clo id:FuncId}(hti:T idx=some (idxQ z))(hvi:val idx=false)(htc:T con=some (anyQ idx))(hvc:val con=false)(htn:T clo=some (notQ z))(hvn:val clo=false)(ht:T id=some (allQ con clo))(hv:val id=true)
 (hz:∀ x,(cells x).length=z) {s:Sl α} (hs:short s) {m:Int} {f:FuncId} {p:α->Bool} (hf:∀ e∈s.l,∀ h,Sm E T val f [ag (cells e)] h=some (bl (p e),h)) (h:Hp) :
 Sm E T val id [.d (i64 m),.d (s.d cells),.fn f []] h=some (bl (decide ((s.l.length:Int)<=m)&&s.l.all p),h):=by
 rw [aU ht hv];have hfr:frz h (.fn f [])=some (.fn f []):=rfl;have hlen:s.l.length<2 ^ 62:=hs.lt;have hany:=S_any (E:=E) (T:=T) (val:=val) cells (z:=z) hti hvi htc hvc (v:=.d (s.d cells)) (es:=s.l) (f:=clo) (caps:=[.ptr 0 0]) (q:=λx=>!p x) (h:=⟨[.cells [.fn f []]],0⟩) (RowIs.of hz _) hlen (λe he lo=>VY htn hvn (hz e) (by simp [ah]) (hf e he));by_cases hm:(s.l.length:Int)<=m
 . simp [af,allQ,hfr,hm,hany,aB,gY,← vY]
 . simp [af,allQ,hfr,hm,hany,aB,gY]
theorem Qz {α:Type}{cell:α->D}{idx con clo id:FuncId}(hti:T idx=some idx1Q)(hvi:val idx=false)(htc:T con=some (anyQ idx))(hvc:val con=false)(htn:T clo=some not1Q)(hvn:val clo=false)(ht:T id=some (allQ con clo))(hv:val id=true)
 {s:Sl α} (hs:short s) {m:Int} {f:FuncId} {p:α->Bool} (hf:∀ e∈s.l,∀ h,Sm E T val f [.d (cell e)] h=some (bl (p e),h)) (h:Hp) :
 Sm E T val id [.d (i64 m),.d (s.d λx=>[cell x]),.fn f []] h=some (bl (decide ((s.l.length:Int)<=m)&&s.l.all p),h):=by
 rw [aU ht hv];have hfr:frz h (.fn f [])=some (.fn f []):=rfl;have hlen:s.l.length<2 ^ 62:=hs.lt;have hany:=IU (E:=E) (T:=T) (val:=val) cell hti hvi htc hvc (v:=.d (s.d λx=>[cell x])) (es:=s.l) (f:=clo) (caps:=[.ptr 0 0]) (q:=λx=>!p x) (h:=⟨[.cells [.fn f []]],0⟩) (RowIs.of (cells:=λx=>[cell x]) (z:=1) (λ_=>rfl) _) hlen (λe he lo=>QB htn hvn (by simp [ah]) (hf e he));by_cases hm:(s.l.length:Int)<=m
 . simp [af,allQ,hfr,hm,hany,aB,gY,← vY]
 . simp [af,allQ,hfr,hm,hany,aB,gY]
end
end
section
def qW:QC:=(⟨_,by cbv⟩:C0 0x1dd0523c01cd0513d23c012d23204144004212113105c116246d2c04113111230b13c0111211c43113111230b13c0111210c4314d27568920134ab7568920134a756847563051020134201300100c0c81161005013141c5110a111210c4313c0152110dd).1
def q29:QF:=(⟨_,λ_=>by cbv⟩:F1 0x41450042121532320d070600052121104144004212113150871149167710a67112571c434710a37112270c43171011506711391657112471c3337112270c3317101150671131c1657112471c2337112270c23171011506711351657112471c1337112270c1317101131c1611121503111213036207d211400120c120c1321401220d).1 qW
def qX:QC:=(⟨_,by cbv⟩:C0 0xad0423c009d0500d22c0fc232103210bd05132d013511905111a11121113111311270b12c011121b43111a11121103111311270b12c011121b4311c001d29c21613120501340137106c2e012c5241c014101141c5110a11121b4312c0192116c).1
def qY:QC:=(⟨_,by cbv⟩:C0 0x29d0523c028d051fd23c01ed23210321905132d0135111a1112111311250b13c011121b5311c020d2b23613122501340137106c2e012c5241c014101141c5110a11121b5313c01921115d).1
def qZ:QC:=(⟨_,by cbv⟩:C0 0x90623c03dd0534d24c033d232103217051112c2c04115111250b14c011121b7311c035d292561314501340137106c2e012c5241c014101141c5110a11121b7314c0192112ad).1
def q31:QF:=(⟨_,λ_ _ _=>by cbv⟩:F3 0x214102206c2e013c511c0132163133dd274600062121153132ad1726000521211431315d070600042121110321405110a11121b6311405110a11121953110a11121243720c21400110c122120113fd).1 qX qY qZ
def q45:QF:=(⟨_,by cbv⟩:F0 0x54245005212c29012111220b16c0111210c631721054244005212c29000122c1321131503710011c5276c0171011504711011c0637112274c4317101105c15c01b211108212230d2c0414c131d8c111210c6315211072295901062151c625181408110921222fd2c041b01481a292140010121c4220c1321502412208d).1
def q48:QF:=(⟨_,by cbv⟩:F0 0x54245005212c29012111220b15c0111210c631721054244005212c29000122c1321130011c515c01221110721726ad2c041112114311250b14c0111210c5310c81131245607831245607312455312443123011009981054244005212c29000122c1321131508711011c067711267143571250b474c037112270c53171010011c51501b211106212215d2c0418014818242140010121c4220c132150241220bd).1
def q52:QF:=(⟨_,by cbv⟩:F0 0x414104213633ed2c041112166311121103131313511821400120c120c132140120c).1
def q53:QF:=(⟨_,by cbv⟩:F0 0x4141042401ec7115067ec4131c0657112471c6337112270c231710441011c0634112240c231410115077114506671125710347813371122771317101201506111213131cc21400120c120c1321401200d).1
def rq:QC:=(⟨_,by cbv⟩:C0 0x1ad0523c019d0510d23c00fd23204144004212113150771105c671326cd2c0457112475c2337112274c2317101150771105c671326bd2c0457112475c1337112274c1317101105c11326bd2c04111215c03111214c031ac2115c39064c39033331c7233331c6213111230b13c0111211c03113111230b13c0111210c0311d2ba201340c756891cba20134700756847563051020134201300102c2c8116132205013141c5110a111210c0313c0152110ad).1
def ru:QC:=(⟨_,by cbv⟩:C0 0x71d0b23c070d0567d29c066d2320414400421211316916111211210b19c0111218c03111211210b19c0111217c0368d2b21561832345013141c5110a111217c0319c01521161d).1
def kT:QC:=(⟨_,λ_=>by cbv⟩:C1 0x41d0823c040d0537d26c036d232ba9832673d0746000b212104144004212113150871149167710a67112578c034710a37112277c0317101150771105c671326bd2c0457112478c3337112277c3317101150771105c671326bd2c0457112478c2337112277c2317101105c11326bd2c04111218c13111217c13103d21118c49067c490333341ca2333341c9214111240b16c0111211c13114111240b16c0111210c1338d2ba201340c756891cba20134700756847563051020134201300102c2c8136132225013141c5110a111210c1316c01521131d).1 ru
def o8:QC:=(⟨_,by cbv⟩:C0 0x83d00c23c082d0579d2ac078d2320414400421211315091d71105c91d71726bd2c0491d711291d711391d71220b91d7ac097112871c237711267113571220b47ac037112270c2317101175161112110311220b1ac0111211c231112110311220b1ac0111210c237ad28679ab2013450c1cac8c9cbcccdc4c2c3c5c6c7cecfc00d8679ab2013450c1cac8c9cbcccdc4c2c3c5c6c7cecfc8679ab2013450c1cac8c9cbcccdc4c2c3c5c6c7cec8679ab2013450c1cac8c9cbccc7c8679ab2013450c1cac8c9cbc6c8679ab2013450c1cac8c9c5c8679ab2013450c1c2c8679ab2013450c1c8c3c8679ab2013450c1c2c8679ab2013450c1c4c2c3c5c6c7c8679ab2013450c1c4c2c3c5c6c8679ab2013450c1c4c2c3c5c8679ab2013450c1c2c8679ab2013450c1c2c3c8679ab2013450c1c2c8679ab2013450c1c8679ab2013450c8679a58679486730610201345201342013001001d01d81761065013141c5110a111210c231ac01521173d).1
def q86:QF:=(⟨_,λ_ _ _=>by cbv⟩:F3 0x414500421210c32397d27660000c21211832373d1726000821211532331d070600052121104144004212113150871149167710a67112571c234710a37112270c2317101150871149167710a67112571c134710a37112270c131710114916110a111211c03110a111213031c2dc211400120c120c1321401297d).1 rq kT o8
def rz:QC:=(⟨_,by cbv⟩:C0 0x24d0623c023d051ad24c019d2321032125d0511805110a1112112311230b14c0111213c03118051111cd2c041112111311230b14c0111213c031111cd2c041112110311230b14c0111213c0311c01bd26c4c5c7c8c9cac3124567a89b0c1c2c3cbc0ccdc6c4c5c7c8c9cac3124567a89b0c1c2c3cbc0cc6c4c5c7c8c9cac3124567a89b0c1c2c3cac6c4c5c7c8c9c66c4c5c7c8c56c4c5c7c46c4c5c304c103124567a89b0c1c2c2c3124567a89b0c1c1ca89b0c5a89b4a8930810312456631245531244312301100ecec8361543142501340137106c2e012c5241c014101141c5110a111213c0314c01921110d).1
def rA:QC:=(⟨_,by cbv⟩:C0 0x48d0723c047d053ed25c03dd2321032149d05118051111cd2c041112113311240b15c0111213c13118051111cd2c041112112311240b15c0111213c13118051111cd2c041112111311240b15c0111213c13110a1112110311240b15c0111213c1311c03fd2a89b0c1c2c6c4c5c7c8c9cacecccdcfc00d01d02d31245673cbc03d004d05da89b0c1c2c6c4c5c7c8c9cacecccdcfc00d01d02d31245673cbc03d004da89b0c1c2c6c4c5c7c8c9cacecccdcfc00d01d02d31245673cbc02da89b0c1c2c6c4c5c7c8c9cacecccdcfc00d01d8cecccdcfc00d5ecccdcfc4ecccdc30cc10a89b0c1c2c6c4c5c7c8c9cac31245673caca89b0c1c2c6c4c5c7c8c9c1c6c4c5c7c8c56c4c5c7c46c4c5c304c10a89b0c1c2c31245672ca89b0c1c6a89b0c5a89b4a893081031245663124553124431230110006d06d8561543144501340137106c2e012c5241c014101141c5110a111213c1315c01921134d).1
def rC:QC:=(⟨_,by cbv⟩:C0 0x74d0823c073d056ad26c069d2321032175d05118051111cd2c041112111311220b16c0111213c23132d0135111a1112110311220b16c0111213c2311c06bd2b9a0c1c2c3c312456784c05c6cb9a0c1c2c3c312456784c05cb9a0c1c2c3c312456783cb9a0c1c2c6b9a0c1c5b9a0c4b9a30910312456773124566312455312443123011007c7c876143136501340137106c2e012c5241c014101141c5110a111213c2316c01921160d).1
def rD:QC:=(⟨_,λ_ _ _=>by cbv⟩:C3 0x6d0423c005d05cc22c0bc2328543157dd27660008212175431560d174600072121165431534d0726000621211103210cd0511405110a111213c2311405110a111213c13113c005110a111213c0311c013c2113c39033331c5213111230b12c011121b43dc2721161310501340137106c2e012c5241c014101141c5110a11121b4312c0192112c).1 rz rA rC
def q87:QF:=(⟨_,λ_=>by cbv⟩:F1 0x21410221c0122143137dd0706000421211103213c005132d0135111a1112121392621000110c122120117ed).1 rD
def YF:QF:=idxQ 7
def Ng:QF:=idxQ 5
def YG:QF:=delQ 7 59 [zu,(.d (.str ⟨#[]⟩)),(.d (.str ⟨#[]⟩)),zi,zw,zi,zu]
def Nh:QF:=cloneQ 7 72 [zu,(.d (.str ⟨#[]⟩)),(.d (.str ⟨#[]⟩)),zi,zw,zi,zu]
def Kn:QF:=(⟨_,by cbv⟩:F0 0x54245005212c59015111250b14c0111210c531721054244005212c59001062152c1321130011c515012211106212221d2c0416155d8c111214537252140011062151c120c120c142150541227c).1
def Ni:QF:=idxQ 2
def Nj:QF:=(⟨_,by cbv⟩:F0 0x3141032131c0611121543111212031621400120c122130129).1
def ng:QC:=(⟨_,by cbv⟩:C0 0xac0523c09c050c23c0b232041410423c0122113121c061b01112110311250b13c0111219531c2821161005013141c5110a11121553110152116).1
def RL:QF:=(⟨_,λ_ _=>by cbv⟩:{z:QC->D->QF // ∀ a b,dF [b] [a] 0x4140900421215213ac0706000112110004220c12214012ac=z a b}).1 ng (.int .i64 (-1))
def ni:QC:=(⟨_,by cbv⟩:C0 0xac0523c09c050c23c0b232041410423c0122113121c061b01112110311220b13c0111219631c2821161005013141c5110a11121563110152116).1
def RN:QF:=(⟨_,λ_ _=>by cbv⟩:{z:QC->D->QF // ∀ a b,dF [b] [a] 0x4140900421215213ac0706000112110004220c12214012ac=z a b}).1 ni (.int .i64 (-1))
def xY:QF:=(⟨_,by cbv⟩:F0 0x21416590651122121190543154d2c01253d2c041112124315213012151c110c1221521118).1
def RP:QF:=(⟨_,by cbv⟩:F0 0x6141062401ec711505794121c06470c037112271c231710441011c0634112241c23141011505711250647b03711227813171012015061112141319c214006230c12216013fc).1
def nz:QC:=(⟨_,by cbv⟩:C0 0xec0523c0dc054c23c03c2320414400421211315152316112111220b13c01b0112111220b13c01a05c2921161005013131c5110a1a016014211b).1
def Nz:QF:=(⟨_,λ_=>by cbv⟩:F1 0x414500421215103ec07060005212110414400421211313916110a170110a15062521140011214014ec).1 nz
def nA:QC:=(⟨_,by cbv⟩:C0 0xec0523c0dc054c23c03c2320414400421211315582316112111220b13c01b0112111220b13c01a05c2921161005013131c5110a1a016014211b).1
def NA:QF:=(⟨_,λ_=>by cbv⟩:F1 0x414500421215103ec07060005212110414400421211313916110a170110a15062521140011214014ec).1 nA
def nC:QC:=(⟨_,by cbv⟩:C0 0xec0423c0dc054c22c03c23210321805132d0135111a1112111311220b12c01a011c05c2a2161310501340137106c2e012c5249014101131c5110a180130182117).1
def R3:QF:=(⟨_,λ_=>by cbv⟩:F1 0x21410221c012214303ec0706000421211103210a1305232100011212012fc).1 nC
def NS:QF:=(⟨_,by cbv⟩:F0 0x3141032121c061512111212031521400120c122130128).1
def wK:QC:=(⟨_,by cbv⟩:C0 0x10a23c08c051221052152cd34c113013333133c1112419311b01901721739033331c7213112430b142116151050131211c51121b).1
def AJ:QF:=g0' wK
def Si:QF:=(⟨_,by cbv⟩:F0 0x21410c390b31122141190b23161190b13181190b03197d2c01296d2c0411121823195d2c01294d2c0411121513193d2c01292d2c041112120316734012589ab0c1c2c6734012589ab0c1c6734012589ab0c6734012589ab6734012589a673401270123456786100123453100120103c3c8133331c110c1221321114c).1
def Od:QC:=(⟨_,by cbv⟩:C0 0x10a23c08c051221052152cd34c113013333133c1112419311b01901721739033331c7213112430b142116151050131211c51121b).1
def YX:QF:=g0' Od
def SG:QF:=(⟨_,by cbv⟩:F0 0x21410c390b31122141190b23161190b13181190b03111bed2c0411121823111bdd2c0411121513111bdd2c041112120316734012589ab0c1c2c6734012589ab0c1c6734012589ab0c6734012589ab6734012589a673401270123456786100123453100120103c3c8133331c110c1221321114c).1
def Oe:QC:=(⟨_,by cbv⟩:C0 0x10a23c08c0512210521544d44c1140133334143c1112419411b019017217490333341c7214112440b142116151050131211c51121b).1
def YY:QF:=g0' Oe
def SH:QF:=(⟨_,by cbv⟩:F0 0x21410c490b41122151190b33171190b23191190b1313c1190b03111bdd2c0411121b33111bdd2c0411121823111bdd2c0411121513111bfd2c041112120319a673401258b0c1c2c3c4c5c6c7c9a673401258b0c1c2c3c4c5c6c9a673401258b0c1c2c3c4c5c9a673401258b0c1c2c3c4c9a673401258b0c1c2c3c9a673401258b0c1c2c9a673401258b0c1c9a673401290123456789ab9100123456786100123453100120108c8c81333341c110c1221421118c).1
def Og:QC:=(⟨_,by cbv⟩:C0 0x10a23c08c051221052150cd24c11201322123c1112419211b0190172172903221c7212112420b142116151050131211c51121b).1
def YZ:QF:=g0' Og
def SI:QF:=(⟨_,by cbv⟩:F0 0x21416290621122121190513111bdd2c041112121315213221c110c1221221118).1
def Y4:QF:=(⟨_,by cbv⟩:F0 0x214102212cc24c16010202023c14210214300221211330110613012211300112120128).1
def Y5:QF:=(⟨_,by cbv⟩:F0 0x2141022124c24c16010062023c14210214300221211330110613012211300112120128).1
def Te:QF:=cloneQ 1 8 [zi]
end
