/- Lemmas for reading code step by step: memory, data, how calls end. -/
import Derived.Test.YtjeflmaikicdnaaGreatQd
import Derived.Test.YtjeflmaikicdnaaGreatProg
import Derived.KernelRfl
set_option maxRecDepth 100000
set_option linter.unusedVariables false
set_option linter.unusedSimpArgs false
namespace Go.Proofs.YtjeflmaikicdnaaGreat
open IntKind (wrap)
section
section
variable (E:Calls')(T:FuncId->Option QF)(val:FuncId->Bool)
noncomputable def uP (b:QC) (o:jf):jf:=eB o λe h=>Cd E T val b e h
noncomputable def J5 (v:V) (a b:QC) (e:EA) (h:Hp):jf:=fork v (Cd E T val a e h) (Cd E T val b e h)
def iw (l:List Nat)(W:EA->Hp->jf)(o:jf):jf:=eB o λe h=>W (aT l e) h
def CE (C:Calls')(os:List RO)(e:EA)(d:Option Nat)(o:Option (V×Hp)):Option (EA×Hp):=match o with
 | some (v,h')=>gU C os (cO e d v) h'
 | none=>none
def yx (C:Calls')(v:V)(w:Bool)(d:Option Nat)(r:R)(os:List RO)(e:EA)(h:Hp):Option (EA×Hp):=match v with
 | .d (.bool t)=>if t=w then CE C os e d (opE C r (X.ea e) h) else gU C os (cO e d (.tup [])) h
 | .tup []=>gU C os (cO e d (.tup [])) h
 | _=>none
variable {E T val}
theorem ax (l:List Nat)(b:QC)(e:EA)(h:Hp):Cd E T val (.loop l b) e h=iw l (Cd E T val (.loop l b)) (Cd E T val b (aT l e) h):=by
 rw [yR,iw]
 congr 1
 funext e h;exact aj
@[simp] theorem au2 {a b:QC}{e:EA}{h:Hp}:Cd E T val (.seq a b) e h=uP E T val b (Cd E T val a e h):=QS
@[simp] theorem Ww {c:X}{a b:QC}{e:EA}{h:Hp}:Cd E T val (.cond c a b) e h=J5 E T val (c.ea e) a b e h:=ME
attribute [simp] MH QR MF QQ MG I5
section
variable {e:EA}{h:Hp}{i j:Nat}{a b:QC}{l:List Nat}{W:EA->Hp->jf}
@[simp] theorem az8:uP E T val b (some (.normal,e,h))=Cd E T val b e h:=(rfl)
@[simp] theorem az9:uP E T val b (some (.ret,e,h))=some (.ret,e,h):=(rfl)
@[simp] theorem ba0:uP E T val b (some (.exit i,e,h))=some (.exit i,e,h):=(rfl)
@[simp] theorem XH:iw l W (some (.normal,e,h))=W (aT l e) h:=(rfl)
@[simp] theorem XI:iw l W (some (.ret,e,h))=some (.ret,e,h):=(rfl)
@[simp] theorem XJ:iw l W (some (.exit i,e,h))=some (.exit i,e,h):=(rfl)
@[simp] theorem aw1:J5 E T val (.d (.bool true)) a b e h=Cd E T val a e h:=(rfl)
@[simp] theorem aw0:J5 E T val (.d (.bool false)) a b e h=Cd E T val b e h:=(rfl)
@[simp] theorem ax0:leave i (some (.normal,e,h))=some (.normal,e,h):=(rfl)
@[simp] theorem ax1:leave i (some (.ret,e,h))=some (.ret,e,h):=(rfl)
@[simp] theorem ax2:leave i (some (.exit j,e,h))=if j=i then some (.normal,e,h) else some (.exit j,e,h):=(rfl)
@[simp] theorem Km:lead (some (e,h))=some (.normal,e,h):=(rfl)
end
section
variable {C:Calls'}{os:List RO}{e:EA}{d:Option Nat}{r:R}{v:V}{h h':Hp}
@[simp] theorem az7:CE C os e d (some (v,h'))=gU C os (cO e d v) h':=(rfl)
@[simp] theorem aw8:yx C (.d (.bool true)) true d r os e h=CE C os e d (opE C r (X.ea e) h):=(rfl)
@[simp] theorem aw7:yx C (.d (.bool true)) false d r os e h=gU C os (cO e d (.tup [])) h:=(rfl)
@[simp] theorem aw6:yx C (.d (.bool false)) true d r os e h=gU C os (cO e d (.tup [])) h:=(rfl)
@[simp] theorem aw5:yx C (.d (.bool false)) false d r os e h=CE C os e d (opE C r (X.ea e) h):=(rfl)
@[simp] theorem bu8 {w:Bool}:yx C (.tup []) w d r os e h=gU C os (cO e d (.tup [])) h:=(rfl)
end
end
def fin (res:List RV)(o:jf):Option (V×Hp) :=
 match o with
 | some (.normal,e,h) | some (.ret,e,h)=>match ou h e res with
  | some vs=>some (bf vs,h)
  | none=>none
 | _=>none
theorem aa {E:Calls'}{T:FuncId->Option QF}{val:FuncId->Bool}{n:Nat}{res:List RV}{c:QC}{args:List V}{h:Hp}:Bd E T val ⟨n,res,c⟩ args h=fin res (Cd E T val c (jM 0 args) h):=(rfl)
section
variable {res:List RV}{e:EA}{h:Hp}{i:Nat}
@[simp] theorem ea4:fin res (some (.normal,e,h))=match ou h e res with | some vs=>some (bf vs,h) | none=>none:=(rfl)
@[simp] theorem ea5:fin res (some (.ret,e,h))=match ou h e res with | some vs=>some (bf vs,h) | none=>none:=(rfl)
end
@[simp] theorem bt9 {a:EA}{i:Nat}:X.ea a (.t i)=a.get i:=(rfl)
@[simp] theorem eb5 {a:EA}{v:V}:X.ea a (.c v)=v:=(rfl)
@[simp] theorem aw9 {i:Nat}:EA.get [] i=.undef:=(rfl)
@[simp] theorem Ke {j:Nat}{v:V}{l:EA}{i:Nat}:EA.get ((j,v)::l) i=if j=i then v else EA.get l i:=(rfl)
@[simp] theorem cs4 {e:EA}{i:Nat}{v:V}:cO e (some i) v=(i,v)::e:=(rfl)
@[simp] theorem cs3 {e:EA}{v:V}:cO e none v=e:=(rfl)
@[simp] theorem kv {e:EA}:aT [] e=[]:=(rfl)
@[simp] theorem jh {i:Nat}{l:List Nat}{e:EA}:aT (i::l) e=(i,e.get i)::aT l e:=(rfl)
@[simp] theorem VY {i:Nat}:jM i []=[]:=(rfl)
@[simp] theorem Rw {i:Nat}{v:V}{l:List V}:jM i (v::l)=(i,v)::jM (i+1) l:=(rfl)
section
variable {b o l z:Nat}{c:Option Nat}{x:D}{cs:List D}{vs:List V}{f:FuncId}
@[simp] theorem eb6:nu (.d x)=some (.d x):=(rfl)
@[simp] theorem ck5:nu (.ptr b o)=some (.ptr b o):=(rfl)
@[simp] theorem ax5:nu (.eptr cs o)=some (.eptr cs o):=(rfl)
@[simp] theorem ck6:nu (.row b o l c z)=some (.row b o l c z):=(rfl)
@[simp] theorem ck4:nu (.mfn f vs)=some (.mfn f vs):=(rfl)
@[simp] theorem eb0:nu (.fn f vs)=some (.fn f vs):=(rfl)
@[simp] theorem ck3:nu (.agg vs)=some (.agg vs):=(rfl)
@[simp] theorem ck7:nu (.tup vs)=some (.tup vs):=(rfl)
@[simp] theorem eb1:okV (.d x)=true:=(rfl)
@[simp] theorem ax8:okV (.ptr b o)=true:=(rfl)
@[simp] theorem YC:okV (.eptr cs o)=true:=(rfl)
@[simp] theorem ax9:okV (.row b o l c z)=true:=(rfl)
@[simp] theorem ax7:okV (.mfn f vs)=true:=(rfl)
@[simp] theorem cl0:okV (.fn f vs)=true:=(rfl)
@[simp] theorem ax6:okV (.agg vs)=true:=(rfl)
@[simp] theorem ay0:okV (.tup vs)=true:=(rfl)
end
def eqS (a b:ByteArray):Bool:=a.toList==b.toList
def ldv (h:Hp)(v:V)(n:Nat)(sc:Bool):Option (V×Hp):=match loadAt h v n with
 | some cs=>(mk sc cs).map (·,h)
 | none=>none
def stv (h:Hp)(a x:V)(n:Nat):Option (V×Hp):=match x.cells with
 | some xs=>if xs.length=n/\0<n then (storeAt h a xs).map (.undef,·) else none
 | none=>none
def iL (arr:Option Nat)(z:Nat)(x i:V)(h:Hp):Option (V×Hp):=match i,arr,x with
 | .d (.int _ i),none,.d (.slice _ es)=>if 0<=i then (match es[i.toNat]? with | some c=>if c.length=z then some (.eptr c 0,h) else none | none=>none) else none
 | .d (.int _ i),none,.row b o len _ z'=>if 0<=i/\i<len/\z'=z then some (.ptr b (o+i.toNat * z),h) else none
 | .d (.int _ i),some n,.ptr b o=>if 0<=i/\i<n then some (.ptr b (o+i.toNat * z),h) else none
 | .d (.int _ i),some n,.eptr cs o=>if 0<=i/\i<n then some (.eptr cs (o+i.toNat * z),h) else none
 | _,_,_=>none
def zo (h:Hp)(v:V):Option (V×Hp):=match v.cells with
 | some cs=>some (.ptr h.size 0,h.alloc cs)
 | none=>none
def dP (h:Hp)(z b:Nat)(s x:V):Option (V×Hp):=match aB h x z with
 | some (m,xs)=>aD h z b s m xs
 | none=>none
def mo (st:Bool)(v:V)(h:Hp):Option (V×Hp):=match v.len st with
 | some n=>some (.d (.int .i64 n),h)
 | none=>none
def eqv (k:EQ)(neg:Bool)(x y:V)(h:Hp):Option (V×Hp):=match iK k x y with
 | some b=>some (.d (.bool (b != neg)),h)
 | none=>none
def XX (sc:Bool)(v:V)(off n:Nat)(h:Hp):Option (V×Hp):=match v with
 | .agg cs=>match sub cs off n with
  | some l=>(mk sc l).map (·,h)
  | none=>none
 | _=>none
def J4 (v:V)(off:Nat)(h:Hp):Option (V×Hp):=match v with
 | .ptr b o=>some (.ptr b (o+off),h)
 | .eptr cs o=>some (.eptr cs (o+off),h)
 | _=>none
def Qz (c a b:V)(h:Hp):Option (V×Hp):=match c with
 | .d (.bool t)=>(nu (if t then a else b)).map (·,h)
 | _=>none
def XR (v:V)(i:Nat)(h:Hp):Option (V×Hp):=match v with
 | .tup vs=>vs[i]?.map (·,h)
 | _=>none
section
variable {C:Calls'}{ev:X->V}{h:Hp}
@[simp] theorem ay9 {x:X}:opE C (.mov x) ev h=(nu (ev x)).map (·,h):=(rfl)
@[simp] theorem YR {c a b:X}:opE C (.pick c a b) ev h=Qz (ev c) (ev a) (ev b) h:=(rfl)
@[simp] theorem az0 {z:List V}:opE C (.new z) ev h=some (.ptr h.size 0,h.alloc z):=(rfl)
@[simp] theorem ay5 {x:X}:opE C (.box x) ev h=zo h (ev x):=(rfl)
@[simp] theorem Wm {z:List V}{ps:List (Nat×Nat×X)}:opE C (.build z ps) ev h=match az ev z ps with
 | some cs=>some (.agg cs,h)
 | none=>none:=(rfl)
@[simp] theorem DC {z n:Nat}{ze:List V}{ps:List (Nat×Nat×X)}:opE C (.buildS z n ze ps) ev h=match az ev (List.replicate n ze).flatten ps with
 | some cs=>some (.row h.size 0 n (some n) z,h.alloc cs)
 | none=>none:=(rfl)
@[simp] theorem YP {sc:Bool}{n:Nat}{a:X}:opE C (.load sc n a) ev h=ldv h (ev a) n sc:=(rfl)
@[simp] theorem He {n:Nat}{a x:X}:opE C (.store n a x) ev h=stv h (ev a) (ev x) n:=(rfl)
@[simp] theorem ay4 {op:BinOp}{x y:X}:opE C (.bin op x y) ev h=one (bR op (ev x) (ev y)) h:=(rfl)
@[simp] theorem cl1 {k:EQ}{neg:Bool}{x y:X}:opE C (.eq k neg x y) ev h=eqv k neg (ev x) (ev y) h:=(rfl)
@[simp] theorem cl2 {op:UnOp}{x:X}:opE C (.un op x) ev h=one (unD op (ev x)) h:=(rfl)
@[simp] theorem YN {x:X}{o:Nat}:opE C (.fldA x o) ev h=J4 (ev x) o h:=(rfl)
@[simp] theorem ay7 {sc:Bool}{x:X}{o n:Nat}:opE C (.fld sc x o n) ev h=XX sc (ev x) o n h:=(rfl)
@[simp] theorem BI {a:Option Nat}{z:Nat}{x i:X}:opE C (.idxA a z x i) ev h=iL a z (ev x) (ev i) h:=(rfl)
@[simp] theorem az1 {k:SK}{z:Nat}{x:X}{lo hi mx:Option X}:opE C (.slc k z x lo hi mx) ev h=(bZ h ev k z (ev x) lo hi mx).map (·,h):=(rfl)
@[simp] theorem KM {f:FuncId}{caps:List X}:opE C (.mkmv f caps) ev h=if caps.all (λx=>okV (ev x))=true then some (.mfn f (caps.map ev),h) else none:=(rfl)
@[simp] theorem KL {f:FuncId}{caps:List X}:opE C (.mkfn f caps) ev h=if caps.all (λx=>okV (ev x))=true then some (.fn f (caps.map ev),h) else none:=(rfl)
@[simp] theorem ay6 {x:X}{i:Nat}:opE C (.ext x i) ev h=XR (ev x) i h:=(rfl)
@[simp] theorem BH {f:X}{args:List X}:opE C (.call f args) ev h=if args.all (λx=>okV (ev x))=true then iN C (ev f) (args.map ev) h else none:=(rfl)
@[simp] theorem ay3 {z b:Nat}{s x:X}:opE C (.app z b s x) ev h=dP h z b (ev s) (ev x):=(rfl)
@[simp] theorem ay8 {st:Bool}{x:X}:opE C (.len st x) ev h=mo st (ev x) h:=(rfl)
@[simp] theorem YS {e:EA}:gU C [] e h=some (e,h):=(rfl)
@[simp] theorem Wp {d:Option Nat}{r:R}{os:List RO}{e:EA}:gU C (⟨none,d,r⟩::os) e h=CE C os e d (opE C r (X.ea e) h):=(rfl)
@[simp] theorem ai {j:Nat}{w:Bool}{d:Option Nat}{r:R}{os:List RO}{e:EA}:gU C (⟨some (j,w),d,r⟩::os) e h=yx C (e.get j) w d r os e h:=(rfl)
@[simp] theorem GA {f:FuncId}{first args:List V}:iN C (.mfn f first) args h=C f (first++args) h:=(rfl)
@[simp] theorem AP {f:FuncId}{caps args:List V}:iN C (.fn f caps) args h=C f (args++caps) h:=(rfl)
@[simp] theorem bt0 {x:D}:zo h (.d x)=some (.ptr h.bs.length 0,h.alloc [.d x]):=(rfl)
@[simp] theorem XO {b o:Nat}:zo h (.ptr b o)=some (.ptr h.bs.length 0,h.alloc [.ptr b o]):=(rfl)
@[simp] theorem XP {b o l z:Nat}{c:Option Nat}:zo h (.row b o l c z)=some (.ptr h.bs.length 0,h.alloc [.row b o l c z]):=(rfl)
@[simp] theorem XN {f:FuncId}{c:List V}:zo h (.mfn f c)=some (.ptr h.bs.length 0,h.alloc [.mfn f c]):=(rfl)
@[simp] theorem av4 {f:FuncId}{c:List V}:zo h (.fn f c)=some (.ptr h.bs.length 0,h.alloc [.fn f c]):=(rfl)
@[simp] theorem XM {cs:List V}:zo h (.agg cs)=some (.ptr h.bs.length 0,h.alloc cs):=(rfl)
@[simp] theorem V5 {b o n:Nat}:J4 (.ptr b o) n h=some (.ptr b (o+n),h):=(rfl)
@[simp] theorem R5 {cs:List D}{o n:Nat}:J4 (.eptr cs o) n h=some (.eptr cs (o+n),h):=(rfl)
@[simp] theorem aC {b o n:Nat}{sc:Bool}:ldv h (.ptr b o) n sc=match (match h.get b with | some cs=>sub cs o n | none=>none) with
 | some cs=>(mk sc cs).map (·,h)
 | none=>none:=(rfl)
@[simp] theorem Yq {cs:List D}{o n:Nat}{sc:Bool}:ldv h (.eptr cs o) n sc=match (sub cs o n).map (·.map .d) with
 | some cs=>(mk sc cs).map (·,h)
 | none=>none:=(rfl)
@[simp] theorem cj7 {v:V}:mk true [v]=some v:=(rfl)
@[simp] theorem cj6 {cs:List V}:mk false cs=some (.agg cs):=(rfl)
@[simp] theorem az2 {t:Bool}{a b:V}:Qz (.d (.bool t)) a b h=(nu (if t then a else b)).map (·,h):=(rfl)
@[simp] theorem cj4 {nl:Bool}{es:List (List D)}:mo false (.d (.slice nl es)) h=some (.d (.int .i64 es.length),h):=(rfl)
@[simp] theorem Yr {b o l z:Nat}{c:Option Nat}:mo false (.row b o l c z) h=some (.d (.int .i64 l),h):=(rfl)
@[simp] theorem cj5 {s:ByteArray}:mo true (.d (.str s)) h=some (.d (.int .i64 s.size),h):=(rfl)
@[simp] theorem bu0 {vs:List V}{i:Nat}:XR (.tup vs) i h=vs[i]?.map (·,h):=(rfl)
@[simp] theorem bu1 {cs:List V}{sc:Bool}{o n:Nat}:XX sc (.agg cs) o n h=match sub cs o n with
 | some l=>(mk sc l).map (·,h)
 | none=>none:=(rfl)
@[simp] theorem eb2 {d:D}:one (some d) h=some (.d d,h):=(rfl)
@[simp] theorem ea2 {a b neg:Bool}:eqv (.sc .b) neg (.d (.bool a)) (.d (.bool b)) h=some (.d (.bool ((a==b) != neg)),h):=(rfl)
@[simp] theorem Qn {k:IntKind}{a b:Int}{neg:Bool}:eqv (.sc (.i k)) neg (.d (.int k a)) (.d (.int k b)) h=some (.d (.bool ((a==b) != neg)),h):=by simp [eqv,iK,oz]
@[simp] theorem ea3 {a b:ByteArray}{neg:Bool}:eqv (.sc .s) neg (.d (.str a)) (.d (.str b)) h=some (.d (.bool (eqS a b != neg)),h):=(rfl)
@[simp] theorem RZ {b o l z:Nat}{c:Option Nat}{neg:Bool}:eqv .sl neg (.row b o l c z) (.d (.slice true [])) h=some (.d (.bool (false != neg)),h):=(rfl)
@[simp] theorem av6 {nl:Bool}{es:List (List D)}{neg:Bool}:eqv .sl neg (.d (.slice nl es)) (.d (.slice true [])) h=some (.d (.bool (nl != neg)),h):=(rfl)
end
section
variable {k:IntKind}{a b:Int}
@[simp] theorem au3:bR .add (.d (.int k a)) (.d (.int k b))=some (.int k (k.wrap (a+b))):=by simp [bR,eZ]
@[simp] theorem au9:bR .sub (.d (.int k a)) (.d (.int k b))=some (.int k (k.wrap (a-b))):=by simp [bR,eZ]
@[simp] theorem au7:bR .lss (.d (.int k a)) (.d (.int k b))=some (.bool (decide (a<b))):=by simp [bR,eZ]
@[simp] theorem au6:bR .leq (.d (.int k a)) (.d (.int k b))=some (.bool (decide (a<=b))):=by simp [bR,eZ]
@[simp] theorem au5:bR .gtr (.d (.int k a)) (.d (.int k b))=some (.bool (decide (a>b))):=by simp [bR,eZ]
@[simp] theorem au4:bR .geq (.d (.int k a)) (.d (.int k b))=some (.bool (decide (a>=b))):=by simp [bR,eZ]
@[simp] theorem dj6 {t:Bool}:unD .not (.d (.bool t))=some (.bool !t):=(rfl)
end
theorem eH {α:Type}{cs:List α}{o n:Nat}:sub cs o n=if o+n<=cs.length then some ((cs.drop o).take n) else none:=(rfl)
@[simp] theorem ZN {h:Hp}{e:EA}:ou h e []=some []:=(rfl)
@[simp] theorem ZO {h:Hp}{e:EA}{t:Nat}{l:List RV}:ou h e (.tmp t::l)=match nu (e.get t),ou h e l with
 | some v,some vs=>some (v::vs)
 | _,_=>none:=(rfl)
@[simp] theorem Wq {h:Hp}{e:EA}{t n:Nat}{sc:Bool}{l:List RV}:ou h e (.cell t sc n::l)=match loadAt h (e.get t) n with
 | some cs=>match mk sc cs,ou h e l with
  | some v,some vs=>some (v::vs)
  | _,_=>none
 | none=>none:=(rfl)
@[simp] theorem wQ {h:Hp}{b o n:Nat}:loadAt h (.ptr b o) n=match h.get b with | some cs=>sub cs o n | none=>none:=(rfl)
@[simp] theorem Ws {v:V}:bf [v]=v:=(rfl)
@[simp] theorem Wt {v w:V}{l:List V}:bf (v::w::l)=.tup (v::w::l):=(rfl)
theorem wrap64 {n:Int}(h1:-(2 ^ 63)<=n)(h2:n<2 ^ 63):wrap .i64 n=n:=by
 simp [wrap,IntKind.bits,IntKind.signed];omega
theorem bQ {α:Type}{l:List α}{n:Nat}(h:l.length=n):sub l 0 n=some l:=by subst h; simp [sub]
theorem qE (h:Hp)(k:Nat):∀ (l:List D),(l.map V.d).mapM (dataV h k)=some l
 | []=>rfl
 | x::l=>by
  have:=qE h k l;cases k<;>simp [List.mapM_cons,dataV,this]
theorem Fj (h:Hp)(l:List D):frz h (.agg (l.map .d))=some (.agg (l.map .d)):=by
 simp only [frz,iV,iP,qE]
theorem Qp (h:Hp)(d:D):frz h (.d d)=some (.d d):=by simp [frz,iV,dataV]
theorem KZ (l:List D):dK (.agg (l.map .d))=true:=by
 simp only [dK,cm];intro x hx;obtain ⟨y,_,rfl⟩:=cd.1 hx;rfl
@[simp] theorem Ng {h:Hp}{k:Nat}{d:D}:dataV h k (.d d)=some d:=by cases k<;>rfl
def au (bs:List Blk)(b:Nat):Option (List V):=match bs[b]? with
 | some (.cells cs)=>some cs
 | _=>none
@[simp] theorem get_eq {h:Hp}{b:Nat}:h.get b=au h.bs b:=(rfl)
@[simp] theorem yz {cs:List V}{bs:List Blk}:au (.cells cs::bs) 0=some cs:=(rfl)
@[simp] theorem GK {x:Blk}{bs:List Blk}{i:Nat}:au (x::bs) (i+1)=au bs i:=by simp [au]
@[simp] theorem dh {bs ys:List Blk}:au (bs++ys) bs.length=au ys 0:=by unfold au; rw [bm (br _),Nat.sub_self]
@[simp] theorem Ya {bs ys:List Blk}{i:Nat}:au (bs++ys) (bs.length+i)=au ys i:=by unfold au; rw [bm (Nat.le_add_right _ _),Nat.add_sub_cancel_left]
theorem Fy {bs ys:List Blk}{i:Nat}(h:i<bs.length):au (bs++ys) i=au bs i:=by simp [au,am h]
theorem ak {bs ys:List Blk}{i:Nat}{cs:List V}(h:au bs i=some cs):au (bs++ys) i=some cs:=by
 rw [Fy,h];unfold au at h;split at h
 . rename_i h1;exact (bx.1 h1).1
 . cases h
theorem aK {bs:List Blk}{i:Nat}{cs:List V}(h:au bs i=some cs):i<bs.length:=by
 unfold au at h;split at h
 . rename_i h1;exact (bx.1 h1).1
 . cases h
@[simp] theorem alloc_eq {bs:List Blk}{l:Nat}{cs:List V}:Hp.alloc ⟨bs,l⟩ cs=⟨bs++[.cells cs],l⟩:=(rfl)
@[simp] theorem size_eq {h:Hp}:h.size=h.bs.length:=(rfl)
@[simp] theorem cs5 {bs ys:List Blk}{l:Nat}{cs:List V}:Hp.set ⟨bs++ys,l⟩ bs.length cs=⟨bs++ys.set 0 (.cells cs),min l bs.length⟩:=by simp [Hp.set]
@[simp] theorem az5 {bs ys:List Blk}{l i:Nat}{cs:List V}:Hp.set ⟨bs++ys,l⟩ (bs.length+i) cs=⟨bs++ys.set i (.cells cs),min l (bs.length+i)⟩:=by simp [Hp.set]
theorem az6 {ys:List Blk}{l i:Nat}{cs:List V}:Hp.set ⟨ys,l⟩ i cs=⟨ys.set i (.cells cs),min l i⟩:=(rfl)
@[simp] theorem gY {h h':Hp}{r:V}:fQ h (some (r,h'))=if h.bs.length<=h'.low/\r.under h.bs.length=true then some (r,h) else some (r,⟨h'.bs,min h.low h'.low⟩):=(rfl)
def IX (args:List V)(h h':Hp)(r:V)(o:Option V):Option (V×Hp):=match o with
 | some r'=>if args.all dK=true\/qh h' r=true then some (r',h) else none
 | none=>none
def Ep (args:List V)(h:Hp)(o:Option (V×Hp)):Option (V×Hp):=match o with
 | some (r,h')=>IX args h h' r (frz h' r)
 | none=>none
noncomputable def VN (E:Calls') (T:FuncId->Option QF) (val:FuncId->Bool) (q:QF) (args:List V) (h:Hp) (o:Option (List V)):Option (V×Hp):=match o with
 | some as1=>Ep args h (Bd E T val q as1 ⟨[],0⟩)
 | none=>none
@[simp] theorem VQ {args:List V}{h h':Hp}{r r':V}:IX args h h' r (some r')=if args.all dK=true\/qh h' r=true then some (r',h) else none:=(rfl)
@[simp] theorem VO {args:List V}{h h':Hp}{r:V}:Ep args h (some (r,h'))=IX args h h' r (frz h' r):=(rfl)
section
variable {E:Calls'}{T:FuncId->Option QF}{val:FuncId->Bool}
@[simp] theorem xI {q:QF}{args as1:List V}{h:Hp}:VN E T val q args h (some as1)=Ep args h (Bd E T val q as1 ⟨[],0⟩):=(rfl)
theorem aN {f:FuncId}{q:QF}(hf:T f=some q)(hv:val f=true){args:List V}{h:Hp}:Sm E T val f args h=VN E T val q args h (args.mapM (frz h)):=by
 rw [Ro hf hv];unfold qm VN Ep IX;cases args.mapM (frz h) with
 | none=>rfl
 | some as1 =>
  dsimp only;cases Bd E T val q as1 ⟨[],0⟩ with
  | none=>rfl
  | some x =>
   obtain ⟨r,h'⟩:=x;dsimp only;cases frz h' r<;>rfl
end
end
section
def RowIs (bs:List Blk)(v:V)(z:Nat)(es:List (List D)):Prop :=
 (∀ e∈es,e.length=z)/\((∃ nl,v=.d (.slice nl es))\/∃ b o cap cs,v=.row b o es.length cap z/\au bs b=some cs/\sub cs o (es.length * z)=some (es.flatten.map .d))
theorem oU {α:Type}{z:Nat}:∀ {es:List (List α)} {i:Nat},(∀ e∈es,e.length=z)->(hi:i<es.length)->(es.flatten.drop (i * z)).take z=es[i]
 | e::es,0,h,_=>by
  have:=h e (by simp);simp [this]
 | e::es,i+1,h,hi=>by
  have he:=h e (by simp);have ih:=oU (i:=i) (λe he=>h e (List.mem_cons_of_mem _ he)) (by simpa using hi);simp only [List.flatten_cons,List.getElem_cons_succ];rw [show (i+1) * z=e.length+i * z by rw [he,Nat.add_mul]; omega,← bh,List.drop_left,ih]
theorem uL {α:Type}{z:Nat}:∀ {es:List (List α)},(∀ e∈es,e.length=z)->es.flatten.length=es.length * z
 | [],_=>by simp
 | e::es,h=>by
  have he:=h e (by simp);have ih:=uL (es:=es) (λe he=>h e (List.mem_cons_of_mem _ he));simp only [List.flatten_cons,aq,he,ih,cj,Nat.add_mul]; omega
theorem RowIs.len {bs:List Blk}{v:V}{z:Nat}{es:List (List D)}(h:RowIs bs v z es)(hp:Hp):mo false v hp=some (.d (.int .i64 es.length),hp):=by
 obtain ⟨nl,rfl⟩ | ⟨b,o,cap,cs,rfl,_⟩:=h.2<;>simp
theorem RowIs.ok {bs:List Blk}{v:V}{z:Nat}{es:List (List D)}(h:RowIs bs v z es):nu v=some v:=by
 obtain ⟨nl,rfl⟩ | ⟨b,o,cap,cs,rfl,_⟩:=h.2<;>simp
theorem RowIs.elem {bs:List Blk}{v:V}{z:Nat}{es:List (List D)}(h:RowIs bs v z es){i:Nat}(hi:i<es.length){l:Nat} :
 ∃ p,iL none z v (.d (.int .i64 i)) ⟨bs,l⟩=some (p,⟨bs,l⟩)/\loadAt ⟨bs,l⟩ p z=some (es[i].map .d):=by
 have hzi:=h.1 _ (bj hi);obtain ⟨nl,rfl⟩ | ⟨b,o,cap,cs,rfl,h1,h2⟩:=h.2
 . refine ⟨.eptr es[i] 0,?_,?_⟩
   . simp only [iL];rw [if_pos (by omega)];simp only [Int.toNat_natCast,ab hi,hzi,if_true]
   . simp only [loadAt,bQ hzi,Option.map_some]
 . refine ⟨.ptr b (o+i * z),?_,?_⟩
   . simp only [iL];rw [if_pos ⟨by omega,by omega,trivial⟩];simp
   . simp only [wQ,get_eq,h1];rw [eH] at h2 ⊢;split at h2
     . rename_i hle;simp only [be] at h2;have hiz:(i+1) * z<=es.length * z:=Nat.mul_le_mul_right z hi;rw [Nat.add_mul,Nat.one_mul] at hiz;rw [if_pos (by omega)]
       congr 1
       have hf:=oU (α:=V) (es:=es.map (·.map .d)) (i:=i) (z:=z) (by simpa using h.1) (by simpa using hi);rw [show (es.map (·.map V.d)).flatten=es.flatten.map .d by rw [List.map_flatten],← h2] at hf;simp only [List.getElem_map] at hf;rw [← hf,List.drop_take,bh,List.take_take,Nat.min_eq_left (by omega)]
     . cases h2
def lV {α:Type}(l:List α)(q:α->Bool):Int:=match l.findIdx? q with
 | some k=>k
 | none=>-1
section
variable {E:Calls'}{T:FuncId->Option QF}{val:FuncId->Bool}
theorem RowIs.at {α:Type}{cells:α->List D}{bs:List Blk}{v:V}{z:Nat}{es:List α}(h:RowIs bs v z (es.map cells)){i:Nat}(hi:i<es.length){l:Nat} :
 ∃ p,iL none z v (.d (.int .i64 i)) ⟨bs,l⟩=some (p,⟨bs,l⟩)/\loadAt ⟨bs,l⟩ p z=some ((cells es[i]).map .d):=by
 have:=h.elem (i:=i) (by simpa using hi) (l:=l);simpa using this
theorem RowIs.lenT {α:Type}{cells:α->List D}{bs:List Blk}{v:V}{z:Nat}{es:List α}(h:RowIs bs v z (es.map cells))(hp:Hp):mo false v hp=some (.d (.int .i64 es.length),hp):=by
 simpa using h.len hp
theorem Kg {α:Type}{cells:α->List D}{z:Nat}{bs:List Blk}{lo:Nat}{v:V}{es:List α}(hr:RowIs bs v z (es.map cells)){f:FuncId}{caps:List V}{q:α->Bool}(hlen:es.length<2 ^ 62)
 (hf:∀ e∈es,Sm E T val f (.agg ((cells e).map .d)::caps) ⟨bs,lo⟩=some (.d (.bool (q e)),⟨bs,lo⟩)):∀ (m i:Nat),i+m=es.length →
   Cd E T val (.loop [0,1,7,8] (Dw z)) [(0,v),(1,.fn f caps),(7,.d (.int .i64 es.length)),(8,.d (.int .i64 i))] ⟨bs,lo⟩ =
    match (es.drop i).findIdx? q with
    | some k=>some (.ret,[(4,.d (.int .i64 (i+k:Nat)))],⟨bs,lo⟩)
    | none=>some (.exit 0,[],⟨bs,lo⟩):=by
 intro m;have key:=ax (E:=E) (T:=T) (val:=val) [0,1,7,8] (Dw z);generalize Cd E T val (.loop [0,1,7,8] (Dw z))=W at key ⊢
 induction m with
 | zero =>
  intro i hi;have h0:es.drop i=[]:=bb (by omega);rw [key];simp [Dw,h0,show ¬ ((i:Int)<es.length) from by omega]
 | succ m ih =>
  intro i hi;have hlt:i<es.length:=by omega
  have hd:es.drop i=es[i]::es.drop (i+1):=ba hlt;obtain ⟨p,hp1,hp2⟩:=hr.at hlt (l:=lo);have hv:=hr.ok;have hcall:=hf _ (bj hlt);generalize es[i]=x at *;rw [key,hd];cases hq:q x with
  | true=>simp [Dw,hv,hp1,ldv,hp2,hcall,hq,List.findIdx?_cons,show ((i:Int)<es.length) from by omega,show okV (V.agg ((cells x).map .d))=true from rfl]
  | false =>
   have hw:wrap .i64 ((i:Int)+1)=((i+1:Nat):Int):=by rw [wrap64]<;>omega
   have:=ih (i+1) (by omega);simp [Dw,hv,hp1,ldv,hp2,hcall,hq,List.findIdx?_cons,hw,show ((i:Int)<es.length) from by omega,show okV (V.agg ((cells x).map .d))=true from rfl];rw [show ((i:Int)+1)=((i+1:Nat):Int) from by omega,this];cases hfi:(es.drop (i+1)).findIdx? q with
   | none=>rfl
   | some k=>simp; omega
theorem xZ {α:Type}(cells:α->List D){z:Nat}{id:FuncId}(ht:T id=some (idxQ z))(hvl:val id=false){v:V}{es:List α}{f:FuncId}{caps:List V}{q:α->Bool}{h:Hp}(hr:RowIs h.bs v z (es.map cells))(hlen:es.length<2 ^ 62)
 (hf:∀ e∈es,∀ lo,Sm E T val f (.agg ((cells e).map .d)::caps) ⟨h.bs,lo⟩=some (.d (.bool (q e)),⟨h.bs,lo⟩)):Sm E T val id [v,.fn f caps] h=some (.d (.int .i64 (lV es q)),h):=by
 rw [av ht hvl];have hl:=Kg hr hlen (λe he=>hf e he h.bs.length) es.length 0 (by omega);have hv:=hr.ok;have hn:=hr.lenT;simp [idxQ,aa,hv,hn,lV];rw [aj];simp at hl;simp [hl];cases es.findIdx? q with
 | none=>simp [V.under]
 | some k=>simp [V.under]
end
end
section
structure Sl (α:Type) where
 nl:Bool
 l:List α
abbrev u64 (n:Int):D:=.int .u64 n
abbrev u32 (n:Int):D:=.int .u32 n
abbrev i64 (n:Int):D:=.int .i64 n
abbrev bl (b:Bool):V:=.d (.bool b)
def Sl.d {α:Type}(f:α->List D)(s:Sl α):D:=.slice s.nl (s.l.map f)
structure Pod where
 uid:Int
 ns:ByteArray
 sa:ByteArray
 host:Int
 addr:Int
 port:Int
 service:Int
def Pod.c (p:Pod):List D:=[u64 p.uid,.str p.ns,.str p.sa,i64 p.host,u32 p.addr,i64 p.port,u64 p.service]
structure Svc where
 id:Int
 ns:ByteArray
 addr:Int
 port:Int
 way:Int
def Svc.c (s:Svc):List D:=[u64 s.id,.str s.ns,u32 s.addr,i64 s.port,u64 s.way]
structure Way where
 id:Int
 node:Int
def Way.c (w:Way):List D:=[u64 w.id,i64 w.node]
structure Term where
 kind:Int
 text:ByteArray
def Term.c (t:Term):List D:=[i64 t.kind,.str t.text]
structure Cidr where
 addr:Int
 bits:Int
def Cidr.c (t:Cidr):List D:=[u32 t.addr,i64 t.bits]
structure Source where
 names:Sl Term
 spaces:Sl Term
 nets:Sl Cidr
def Source.c (s:Source):List D:=[s.names.d Term.c,s.spaces.d Term.c,s.nets.d Cidr.c]
def om (n:Int):List D:=[i64 n]
structure Target where
 ports:Sl Int
 methods:Sl Term
 paths:Sl Term
 hosts:Sl Term
def Target.c (t:Target):List D:=[t.ports.d om,t.methods.d Term.c,t.paths.d Term.c,t.hosts.d Term.c]
structure When where
 head:ByteArray
 terms:Sl Term
def When.c (w:When):List D:=[.str w.head,w.terms.d Term.c]
structure Rule where
 frm:Sl Source
 to:Sl Target
 whn:Sl When
def Rule.c (r:Rule):List D:=[r.frm.d Source.c,r.to.d Target.c,r.whn.d When.c]
structure Pol where
 id:Int
 ns:ByteArray
 service:Int
 deny:Int
 rules:Sl Rule
def Pol.c (p:Pol):List D:=[u64 p.id,.str p.ns,u64 p.service,i64 p.deny,p.rules.d Rule.c]
structure Cfg where
 epoch:Int
 next:Int
 hosts:Int
 ways:Int
 pods:Sl Pod
 services:Sl Svc
 bound:Sl Way
 policies:Sl Pol
def Cfg.c (c:Cfg):List D:=[u64 c.epoch,u64 c.next,i64 c.hosts,i64 c.ways,c.pods.d Pod.c,c.services.d Svc.c,c.bound.d Way.c,c.policies.d Pol.c]
def ag (l:List D):V:=.agg (l.map .d)
abbrev Pod.v (p:Pod):V:=ag p.c
abbrev Svc.v (p:Svc):V:=ag p.c
abbrev Way.v (p:Way):V:=ag p.c
abbrev Pol.v (p:Pol):V:=ag p.c
abbrev Rule.v (p:Rule):V:=ag p.c
abbrev Cfg.v (p:Cfg):V:=ag p.c
def pod0:Pod:=⟨0,⟨#[]⟩,⟨#[]⟩,0,0,0,0⟩
def svc0:Svc:=⟨0,⟨#[]⟩,0,0,0⟩
def way0:Way:=⟨0,0⟩
def fit {α:Type}(B:Nat)(s:Sl α):Prop:=s.l.length<=B/\(s.nl=true->s.l=[])
def Source.fits (B:Nat)(s:Source):Prop:=fit B s.names/\fit B s.spaces/\fit B s.nets
def Target.fits (B:Nat)(s:Target):Prop:=fit B s.ports/\fit B s.methods/\fit B s.paths/\fit B s.hosts
def When.fits (B:Nat)(w:When):Prop:=fit B w.terms
def Rule.fits (B:Nat)(r:Rule):Prop:=(fit B r.frm/\∀ s∈r.frm.l,s.fits B)/\(fit B r.to/\∀ s∈r.to.l,s.fits B)/\fit B r.whn/\∀ s∈r.whn.l,s.fits B
def Pol.fits (B:Nat)(p:Pol):Prop:=fit B p.rules/\∀ r∈p.rules.l,r.fits B
def Cfg.fits (B:Nat)(c:Cfg):Prop:=fit B c.pods/\fit B c.services/\fit B c.bound/\fit B c.policies/\∀ p∈c.policies.l,p.fits B
abbrev big:Nat:=2 ^ 30
abbrev short {α:Type} (s:Sl α):Prop:=fit big s
abbrev Cfg.ok (c:Cfg):Prop:=c.fits big
abbrev Pol.ok (c:Pol):Prop:=c.fits big
theorem fit.lt {α:Type}{s:Sl α}(h:short s):s.l.length<2 ^ 62:=cg h.1 (by decide)
theorem RowIs.of {α:Type}{cells:α->List D}{s:Sl α}{z:Nat}(hz:∀ x,(cells x).length=z)(bs:List Blk):RowIs bs (.d (s.d cells)) z (s.l.map cells) :=
 ⟨by simp; intro a _; exact hz a,.inl ⟨s.nl,rfl⟩⟩
@[simp] theorem ck9 {l:List D}:okV (ag l)=true:=(rfl)
@[simp] theorem ea9 {l:List D}:nu (ag l)=some (ag l):=(rfl)
@[simp] theorem oJ {l:List D}:(ag l).cells=some (l.map .d):=(rfl)
@[simp] theorem Dr {h:Hp}{l:List D}:frz h (ag l)=some (ag l):=Fj h l
@[simp] theorem R6 {h:Hp}{d:D}:frz h (.d d)=some (.d d):=Qp h d
@[simp] theorem aw2 {h:Hp}{l:List D}:iV h (ag l)=some (ag l):=Fj h l
@[simp] theorem aw3 {h:Hp}{d:D}:iV h (.d d)=some (.d d):=Qp h d
@[simp] theorem az3 {l:List D}:dK (ag l)=true:=KZ l
@[simp] theorem az4 {d:D}:dK (.d d)=true:=(rfl)
@[simp] theorem av3 {h:Hp}{l:List D}:zo h (ag l)=some (.ptr h.bs.length 0,h.alloc (l.map .d)):=(rfl)
theorem iG {α:Type}(l:List α)(q:α->Bool):(l.find? q=none/\lV l q=-1)\/∃ k e,l.find? q=some e/\lV l q=(k:Nat)/\l[k]?=some e:=by
 unfold lV;cases h:l.findIdx? q with
 | none =>
  left;rw [List.findIdx?_eq_none_iff] at h;exact ⟨List.find?_eq_none.2 λx hx=>by simp [h x hx],rfl⟩
 | some k =>
  right;have h2:=List.findIdx?_eq_some_iff_getElem.1 h;obtain ⟨hk,h3,h4⟩:=h2;refine ⟨k,l[k],?_,rfl,ab hk⟩;rw [List.find?_eq_some_iff_getElem];exact ⟨h3,k,hk,rfl,λj hj=>by simpa using h4 j hj⟩
theorem bv {α:Type}{s:Sl α}{cells:α->List D}{k z:Nat}{e:α}(h:Hp)(hk:s.l[k]?=some e)(hz:(cells e).length=z):iL none z (.d (s.d cells)) (.d (.int .i64 k)) h=some (.eptr (cells e) 0,h):=by
 simp only [iL,Sl.d];rw [if_pos (by omega)];simp [hk,hz]
@[simp] theorem ax3 {α:Type}{s:Sl α}{cells:α->List D}{h:Hp}:mo false (.d (s.d cells)) h=some (.d (i64 s.l.length),h):=by simp [Sl.d]
@[simp] theorem PK {α β:Type}{f:α->β}{l:List α}{o n:Nat}:sub (l.map f) o n=(sub l o n).map (·.map f):=by
 simp only [sub,cb]; split<;>simp [List.map_take,List.map_drop]
@[simp] theorem aj4 {α:Type}{x:α}{l:List α}{o n:Nat}:sub (x::l) (o+1) n=sub l o n:=by
 simp only [sub,cj,List.drop_succ_cons];by_cases h:o+n<=l.length
 . rw [if_pos h,if_pos (by omega)]
 . rw [if_neg h,if_neg (by omega)]
@[simp] theorem MB {α:Type}{x:α}{l:List α}{n:Nat}:sub (x::l) 0 (n+1)=(sub l 0 n).map (x::·):=by
 simp only [sub,cj,List.drop_zero,List.take_succ_cons];by_cases h:0+n<=l.length
 . rw [if_pos h,if_pos (by omega)]; rfl
 . rw [if_neg h,if_neg (by omega)]; rfl
@[simp] theorem MC {α:Type}{l:List α}:sub l 0 0=some []:=by simp [sub]
@[simp] theorem K8 {α:Type}{x:α}{l xs:List α}{o:Nat}:put (x::l) (o+1) xs=(put l o xs).map (x::·):=by
 simp only [put,cj];by_cases h:o+xs.length<=l.length
 . rw [if_pos h,if_pos (by omega)];simp only [Option.map_some,List.take_succ_cons,List.cons_append];rw [show o+1+xs.length=(o+xs.length)+1 by omega,List.drop_succ_cons]
 . rw [if_neg h,if_neg (by omega)]; rfl
@[simp] theorem BV {α:Type}{l xs:List α}:put l 0 xs=if xs.length<=l.length then some (xs++l.drop xs.length) else none:=by
 simp [put]
@[simp] theorem Pod.len {x:Pod}:x.c.length=7:=(rfl)
@[simp] theorem Pod.all {x:Pod}:sub x.c 0 7=some x.c:=(rfl)
@[simp] theorem Pod.s0_1 {x:Pod}:sub x.c 0 1=some [u64 x.uid]:=(rfl)
@[simp] theorem Pod.s1_1 {x:Pod}:sub x.c 1 1=some [.str x.ns]:=(rfl)
@[simp] theorem Pod.s2_1 {x:Pod}:sub x.c 2 1=some [.str x.sa]:=(rfl)
@[simp] theorem Pod.s3_1 {x:Pod}:sub x.c 3 1=some [i64 x.host]:=(rfl)
@[simp] theorem Pod.s4_1 {x:Pod}:sub x.c 4 1=some [u32 x.addr]:=(rfl)
@[simp] theorem Pod.s5_1 {x:Pod}:sub x.c 5 1=some [i64 x.port]:=(rfl)
@[simp] theorem Pod.s6_1 {x:Pod}:sub x.c 6 1=some [u64 x.service]:=(rfl)
@[simp] theorem Pod.s1_2 {x:Pod}:sub x.c 1 2=some [.str x.ns,.str x.sa]:=(rfl)
@[simp] theorem Svc.len {x:Svc}:x.c.length=5:=(rfl)
@[simp] theorem Svc.all {x:Svc}:sub x.c 0 5=some x.c:=(rfl)
@[simp] theorem Svc.s0_1 {x:Svc}:sub x.c 0 1=some [u64 x.id]:=(rfl)
@[simp] theorem Svc.s1_1 {x:Svc}:sub x.c 1 1=some [.str x.ns]:=(rfl)
@[simp] theorem Svc.s2_1 {x:Svc}:sub x.c 2 1=some [u32 x.addr]:=(rfl)
@[simp] theorem Svc.s3_1 {x:Svc}:sub x.c 3 1=some [i64 x.port]:=(rfl)
@[simp] theorem Svc.s4_1 {x:Svc}:sub x.c 4 1=some [u64 x.way]:=(rfl)
@[simp] theorem Way.len {x:Way}:x.c.length=2:=(rfl)
@[simp] theorem Way.all {x:Way}:sub x.c 0 2=some x.c:=(rfl)
@[simp] theorem Way.s0_1 {x:Way}:sub x.c 0 1=some [u64 x.id]:=(rfl)
@[simp] theorem Way.s1_1 {x:Way}:sub x.c 1 1=some [i64 x.node]:=(rfl)
@[simp] theorem Term.len {x:Term}:x.c.length=2:=(rfl)
@[simp] theorem Term.all {x:Term}:sub x.c 0 2=some x.c:=(rfl)
@[simp] theorem Term.s0_1 {x:Term}:sub x.c 0 1=some [i64 x.kind]:=(rfl)
@[simp] theorem Term.s1_1 {x:Term}:sub x.c 1 1=some [.str x.text]:=(rfl)
@[simp] theorem Cidr.len {x:Cidr}:x.c.length=2:=(rfl)
@[simp] theorem Cidr.all {x:Cidr}:sub x.c 0 2=some x.c:=(rfl)
@[simp] theorem Cidr.s0_1 {x:Cidr}:sub x.c 0 1=some [u32 x.addr]:=(rfl)
@[simp] theorem Cidr.s1_1 {x:Cidr}:sub x.c 1 1=some [i64 x.bits]:=(rfl)
@[simp] theorem Source.len {x:Source}:x.c.length=3:=(rfl)
@[simp] theorem Source.all {x:Source}:sub x.c 0 3=some x.c:=(rfl)
@[simp] theorem Source.s0_1 {x:Source}:sub x.c 0 1=some [x.names.d Term.c]:=(rfl)
@[simp] theorem Source.s1_1 {x:Source}:sub x.c 1 1=some [x.spaces.d Term.c]:=(rfl)
@[simp] theorem Source.s2_1 {x:Source}:sub x.c 2 1=some [x.nets.d Cidr.c]:=(rfl)
@[simp] theorem Target.len {x:Target}:x.c.length=4:=(rfl)
@[simp] theorem Target.all {x:Target}:sub x.c 0 4=some x.c:=(rfl)
@[simp] theorem Target.s0_1 {x:Target}:sub x.c 0 1=some [x.ports.d om]:=(rfl)
@[simp] theorem Target.s1_1 {x:Target}:sub x.c 1 1=some [x.methods.d Term.c]:=(rfl)
@[simp] theorem Target.s2_1 {x:Target}:sub x.c 2 1=some [x.paths.d Term.c]:=(rfl)
@[simp] theorem Target.s3_1 {x:Target}:sub x.c 3 1=some [x.hosts.d Term.c]:=(rfl)
@[simp] theorem When.len {x:When}:x.c.length=2:=(rfl)
@[simp] theorem When.all {x:When}:sub x.c 0 2=some x.c:=(rfl)
@[simp] theorem When.s0_1 {x:When}:sub x.c 0 1=some [.str x.head]:=(rfl)
@[simp] theorem When.s1_1 {x:When}:sub x.c 1 1=some [x.terms.d Term.c]:=(rfl)
@[simp] theorem Rule.len {x:Rule}:x.c.length=3:=(rfl)
@[simp] theorem Rule.all {x:Rule}:sub x.c 0 3=some x.c:=(rfl)
@[simp] theorem Rule.s0_1 {x:Rule}:sub x.c 0 1=some [x.frm.d Source.c]:=(rfl)
@[simp] theorem Rule.s1_1 {x:Rule}:sub x.c 1 1=some [x.to.d Target.c]:=(rfl)
@[simp] theorem Rule.s2_1 {x:Rule}:sub x.c 2 1=some [x.whn.d When.c]:=(rfl)
@[simp] theorem Pol.len {x:Pol}:x.c.length=5:=(rfl)
@[simp] theorem Pol.all {x:Pol}:sub x.c 0 5=some x.c:=(rfl)
@[simp] theorem Pol.s0_1 {x:Pol}:sub x.c 0 1=some [u64 x.id]:=(rfl)
@[simp] theorem Pol.s1_1 {x:Pol}:sub x.c 1 1=some [.str x.ns]:=(rfl)
@[simp] theorem Pol.s2_1 {x:Pol}:sub x.c 2 1=some [u64 x.service]:=(rfl)
@[simp] theorem Pol.s3_1 {x:Pol}:sub x.c 3 1=some [i64 x.deny]:=(rfl)
@[simp] theorem Pol.s4_1 {x:Pol}:sub x.c 4 1=some [x.rules.d Rule.c]:=(rfl)
@[simp] theorem Cfg.len {x:Cfg}:x.c.length=8:=(rfl)
@[simp] theorem Cfg.all {x:Cfg}:sub x.c 0 8=some x.c:=(rfl)
@[simp] theorem Cfg.s0_1 {x:Cfg}:sub x.c 0 1=some [u64 x.epoch]:=(rfl)
@[simp] theorem Cfg.s1_1 {x:Cfg}:sub x.c 1 1=some [u64 x.next]:=(rfl)
@[simp] theorem Cfg.s2_1 {x:Cfg}:sub x.c 2 1=some [i64 x.hosts]:=(rfl)
@[simp] theorem Cfg.s3_1 {x:Cfg}:sub x.c 3 1=some [i64 x.ways]:=(rfl)
@[simp] theorem Cfg.s4_1 {x:Cfg}:sub x.c 4 1=some [x.pods.d Pod.c]:=(rfl)
@[simp] theorem Cfg.s5_1 {x:Cfg}:sub x.c 5 1=some [x.services.d Svc.c]:=(rfl)
@[simp] theorem Cfg.s6_1 {x:Cfg}:sub x.c 6 1=some [x.bound.d Way.c]:=(rfl)
@[simp] theorem Cfg.s7_1 {x:Cfg}:sub x.c 7 1=some [x.policies.d Pol.c]:=(rfl)
@[simp] theorem Jk (l:List D):V.agg (l.map .d)=ag l:=(rfl)
@[simp] theorem QD {h:Hp}{b o:Nat}{xs:List V}:storeAt h (.ptr b o) xs=match h.get b with
 | some cs=>match put cs o xs with
  | some cs'=>some (h.set b cs')
  | none=>none
 | none=>none:=(rfl)
@[simp] theorem aL {h:Hp}{a x:V}{n:Nat}:stv h a x n=match x.cells with
 | some xs=>if xs.length=n/\0<n then (storeAt h a xs).map (.undef,·) else none
 | none=>none:=(rfl)
@[simp] theorem EY {d:D}:(V.d d).cells=some [.d d]:=(rfl)
@[simp] theorem VZ {cs:List V}:(V.agg cs).cells=some cs:=(rfl)
@[simp] theorem V3 {b o:Nat}:(V.ptr b o).cells=some [.ptr b o]:=(rfl)
@[simp] theorem V4 {b o l z:Nat}{c:Option Nat}:(V.row b o l c z).cells=some [.row b o l c z]:=(rfl)
@[simp low] theorem PH {bs:List Blk} {l b:Nat} {cs:List V}:Hp.set ⟨bs,l⟩ b cs=⟨bs.set b (.cells cs),min l b⟩:=(rfl)
@[simp] theorem cb6 {a b:Int}(h:¬ a=b):(a==b)=false:=by simpa using h
@[simp] theorem ax4 (k:Nat):((k:Int)<0)↔False:=⟨λh=>by omega,False.elim⟩
@[simp] theorem cj9 (k:Nat):((k:Int)>=0)↔True:=⟨λ_=>trivial,λ_=>Int.natCast_nonneg k⟩
@[simp] theorem ck0 (k:Nat):(0<=(k:Int))↔True:=⟨λ_=>trivial,λ_=>Int.natCast_nonneg k⟩
@[simp] theorem R3 {ev:X->V}{cs:List V}:az ev cs []=some cs:=(rfl)
@[simp] theorem XY {h:Hp}{cs:List V}:iV h (.agg cs)=match iP h cs with
 | some l=>some (ag l)
 | none=>none:=(rfl)
@[simp] theorem J6 {h:Hp}{cs:List V}:frz h (.agg cs)=match iP h cs with
 | some l=>some (ag l)
 | none=>none:=(rfl)
@[simp] theorem Rz {h:Hp}:iP h []=some []:=(rfl)
@[simp] theorem AR {h:Hp}{x:D}{cs:List V}:iP h (.d x::cs)=(iP h cs).map (x::·):=by
 simp only [iP,List.mapM_cons,Ng];cases cs.mapM (dataV h 8)<;>rfl
@[simp] theorem Fp {h:Hp}{b o n z:Nat}{cap:Option Nat}:frz h (.row b o n cap z)=match dataV h 8 (.row b o n cap z) with
 | some d=>some (.d d)
 | none=>none:=(rfl)
@[simp] theorem Bc {h:Hp}{b o n z:Nat}{cap:Option Nat}:iV h (.row b o n cap z)=match dataV h 8 (.row b o n cap z) with
 | some d=>some (.d d)
 | none=>none:=(rfl)
@[simp] theorem Ny {h:Hp}{vs:List V}:frz h (.tup vs)=match vs.mapM (iV h) with
 | some l=>some (.tup l)
 | none=>none:=(rfl)
def runT (t:Tr)(o:Option (List Tr×EA×Hp)):Option (List Tr×EA×Hp):=match o with
 | some (l,e,h)=>some (t::l,e,h)
 | none=>none
def Iu (C:Calls')(os:List RO)(e:EA)(d:Option Nat)(o:Option (V×Hp×Tr)):Option (List Tr×EA×Hp):=match o with
 | some (v,h',t)=>runT t (gq C os (cO e d v) h')
 | none=>none
def wM (C:Calls')(v:V)(w:Bool)(d:Option Nat)(r:R)(os:List RO)(e:EA)(h:Hp):Option (List Tr×EA×Hp):=match v with
 | .d (.bool t)=>if t=w then Iu C os e d (dz C r (X.ea e) h) else runT (bA h) (gq C os (cO e d (.tup [])) h)
 | .tup []=>runT (bA h) (gq C os (cO e d (.tup [])) h)
 | _=>none
section
variable {C:Calls'}{ev:X->V}{h:Hp}
@[simp] theorem ae0 {e:EA}:gq C [] e h=some ([],e,h):=(rfl)
@[simp] theorem Ir {d:Option Nat}{r:R}{os:List RO}{e:EA}:gq C (⟨none,d,r⟩::os) e h=Iu C os e d (dz C r (X.ea e) h):=(rfl)
@[simp] theorem Py {j:Nat}{w:Bool}{d:Option Nat}{r:R}{os:List RO}{e:EA}:gq C (⟨some (j,w),d,r⟩::os) e h=wM C (e.get j) w d r os e h:=(rfl)
@[simp] theorem Vu {os:List RO}{e:EA}{d:Option Nat}{v:V}{h':Hp}{t:Tr}:Iu C os e d (some (v,h',t))=runT t (gq C os (cO e d v) h'):=(rfl)
@[simp] theorem Vv {t:Tr}{l:List Tr}{e:EA}:runT t (some (l,e,h))=some (t::l,e,h):=(rfl)
section
variable {d:Option Nat}{r:R}{os:List RO}{e:EA}
@[simp] theorem X9:wM C (.d (.bool true)) true d r os e h=Iu C os e d (dz C r (X.ea e) h):=(rfl)
@[simp] theorem X8:wM C (.d (.bool true)) false d r os e h=runT (bA h) (gq C os (cO e d (.tup [])) h):=(rfl)
@[simp] theorem X7:wM C (.d (.bool false)) true d r os e h=runT (bA h) (gq C os (cO e d (.tup [])) h):=(rfl)
@[simp] theorem X6:wM C (.d (.bool false)) false d r os e h=Iu C os e d (dz C r (X.ea e) h):=(rfl)
@[simp] theorem aw4 {w:Bool}:wM C (.tup []) w d r os e h=runT (bA h) (gq C os (cO e d (.tup [])) h):=(rfl)
end
def trE (o:Option (V×Hp))(h:Hp)(nd wr:List Nat):Option (V×Hp×Tr):=match o with
 | some (v,h')=>some (v,h',⟨false,false,nd,wr,h.bs.length,h'.bs.length,0⟩)
 | none=>none
@[simp] theorem eb4 {v:V}{h':Hp}{nd wr:List Nat}:trE (some (v,h')) h nd wr=some (v,h',⟨false,false,nd,wr,h.bs.length,h'.bs.length,0⟩):=(rfl)
@[simp] theorem YK {x:X}:dz C (.mov x) ev h=trE (opE C (.mov x) ev h) h [] []:=(rfl)
@[simp] theorem Wl {a b c:X}:dz C (.pick a b c) ev h=trE (opE C (.pick a b c) ev h) h [] []:=(rfl)
@[simp] theorem YL {a:List V}:dz C (.new a) ev h=trE (opE C (.new a) ev h) h [] []:=(rfl)
@[simp] theorem YF {a:X}:dz C (.box a) ev h=trE (opE C (.box a) ev h) h [] []:=(rfl)
@[simp] theorem S9 {a:List V}{b:List (Nat×Nat×X)}:dz C (.build a b) ev h=trE (opE C (.build a b) ev h) h [] []:=(rfl)
@[simp] theorem Qu {z n:Nat}{a:List V}{b:List (Nat×Nat×X)}:dz C (.buildS z n a b) ev h=trE (opE C (.buildS z n a b) ev h) h [] []:=(rfl)
@[simp] theorem We {s:Bool}{n:Nat}{a:X}:dz C (.load s n a) ev h=trE (opE C (.load s n a) ev h) h (ev a).blk []:=(rfl)
@[simp] theorem Tc {n:Nat}{a b:X}:dz C (.store n a b) ev h=trE (opE C (.store n a b) ev h) h (ev a).blk (ev a).blk:=(rfl)
@[simp] theorem YE {o:BinOp}{a b:X}:dz C (.bin o a b) ev h=trE (opE C (.bin o a b) ev h) h [] []:=(rfl)
@[simp] theorem ay1 {k:EQ}{n:Bool}{a b:X}:dz C (.eq k n a b) ev h=trE (opE C (.eq k n a b) ev h) h [] []:=(rfl)
@[simp] theorem ay2 {o:UnOp}{a:X}:dz C (.un o a) ev h=trE (opE C (.un o a) ev h) h [] []:=(rfl)
@[simp] theorem Ta {k:IntKind}{a:X}:dz C (.convI k a) ev h=trE (opE C (.convI k a) ev h) h [] []:=(rfl)
@[simp] theorem Qv {a:X}:dz C (.convBS a) ev h=trE (opE C (.convBS a) ev h) h (ev a).blk []:=(rfl)
@[simp] theorem Qw {a:X}:dz C (.convSB a) ev h=trE (opE C (.convSB a) ev h) h [] []:=(rfl)
@[simp] theorem Qx {a:X}:dz C (.convSS a) ev h=trE (opE C (.convSS a) ev h) h [] []:=(rfl)
@[simp] theorem V8 {n:Nat}{a:X}:dz C (.fldA a n) ev h=trE (opE C (.fldA a n) ev h) h [] []:=(rfl)
@[simp] theorem YH {s:Bool}{o n:Nat}{a:X}:dz C (.fld s a o n) ev h=trE (opE C (.fld s a o n) ev h) h [] []:=(rfl)
@[simp] theorem V9 {m:Option Nat}{n:Nat}{a b:X}:dz C (.idxA m n a b) ev h=trE (opE C (.idxA m n a b) ev h) h [] []:=(rfl)
@[simp] theorem YI {s:Bool}{m n:Nat}{a b:X}:dz C (.idx s m n a b) ev h=trE (opE C (.idx s m n a b) ev h) h [] []:=(rfl)
@[simp] theorem Wd {a b:X}:dz C (.idxS a b) ev h=trE (opE C (.idxS a b) ev h) h [] []:=(rfl)
@[simp] theorem YM {k:SK}{z:Nat}{a:X}{b c d:Option X}:dz C (.slc k z a b c d) ev h=trE (opE C (.slc k z a b c d) ev h) h (ev a).blk []:=(rfl)
@[simp] theorem Wi {f:FuncId}{l:List X}:dz C (.mkmv f l) ev h=trE (opE C (.mkmv f l) ev h) h [] []:=(rfl)
@[simp] theorem Wh {f:FuncId}{l:List X}:dz C (.mkfn f l) ev h=trE (opE C (.mkfn f l) ev h) h [] []:=(rfl)
@[simp] theorem Wj {z b:Nat}{l:List V}{x y:X}:dz C (.mksl z b l x y) ev h=trE (opE C (.mksl z b l x y) ev h) h [] []:=(rfl)
@[simp] theorem YG {n:Nat}{a:X}:dz C (.ext a n) ev h=trE (opE C (.ext a n) ev h) h [] []:=(rfl)
@[simp] theorem YD {z b:Nat}{x y:X}:dz C (.app z b x y) ev h=trE (opE C (.app z b x y) ev h) h ((ev x).blk++(ev y).blk) (ev x).blk:=(rfl)
@[simp] theorem YJ {s:Bool}{a:X}:dz C (.len s a) ev h=trE (opE C (.len s a) ev h) h [] []:=(rfl)
@[simp] theorem V7 {z:Nat}{x y:X}:dz C (.copy z x y) ev h=trE (opE C (.copy z x y) ev h) h ((ev x).blk++(ev y).blk) (ev x).blk:=(rfl)
@[simp] theorem Qy {a:X}:dz C (.nilchk a) ev h=trE (opE C (.nilchk a) ev h) h [] []:=(rfl)
theorem ae {f:X}{args:List X}:dz C (.call f args) ev h=if args.all (λx=>okV (ev x))=true then match iN C (ev f) (args.map ev) ⟨h.bs,h.bs.length⟩ with
 | some (v,h')=>if h.bs.length<=h'.low then
  (if h'.bs.length=h.bs.length then some (v,h,⟨true,false,[],[],h.bs.length,h.bs.length,0⟩)
  else some (v,⟨h'.bs,h.low⟩,⟨true,false,[],[],h.bs.length,h'.bs.length,0⟩))
  else some (v,⟨h'.bs,min h.low h'.low⟩,⟨true,true,[],[],h.bs.length,h'.bs.length,⟨h'.low,uM h.bs h'.bs⟩⟩)
 | none=>none
 else none:=(rfl)
end
@[simp] theorem ea1 {d:D}:(V.d d).blk=[]:=(rfl)
@[simp] theorem av1 {b o:Nat}:(V.ptr b o).blk=[b]:=(rfl)
@[simp] theorem av2 {b o l z:Nat}{c:Option Nat}:(V.row b o l c z).blk=[b]:=(rfl)
@[simp] theorem XL {cs:List D}{o:Nat}:(V.eptr cs o).blk=[]:=(rfl)
@[simp] theorem av0 {cs:List V}:(V.agg cs).blk=[]:=(rfl)
end
section
theorem uE {z:Nat}:∀ {es:List (List D)} {ds:List D},(∀ e∈es,e.length=z)->dataV.chunks z (es.flatten++ds) es.length=es
 | [],_,_=>rfl
 | e::es,ds,h=>by
  have he:=h e (by simp);have ih:=uE (es:=es) (ds:=ds) (λe he=>h e (List.mem_cons_of_mem _ he));have h1:List.take z (e++(es.flatten++ds))=e:=by rw [← he]; simp
  have h2:List.drop z (e++(es.flatten++ds))=es.flatten++ds:=by rw [← he]; simp
  simp only [List.flatten_cons,List.append_assoc,cj,dataV.chunks,h1,h2,ih]
def flat (es:List (List D)):List V:=es.flatten.map .d
theorem ku (e:List D)(es:List (List D)):flat (e::es)=e.map .d++flat es:=by simp [flat]
theorem mh (a b:List (List D)):flat (a++b)=flat a++flat b:=by simp only [flat,List.flatten_append,List.map_append]
@[simp] theorem rH:flat []=[]:=rfl
theorem iU {z:Nat}{es:List (List D)}(hz:∀ e∈es,e.length=z):(flat es).length=es.length * z:=by
 simp only [flat,cb,uL hz]
theorem bB {h:Hp}{k b z n:Nat}{cap:Option Nat}{es:List (List D)}{rest:List V}(hz:∀ e∈es,e.length=z)(hn:n=es.length)(hb:au h.bs b=some (flat es++rest)) :
 dataV h (k+1) (.row b 0 n cap z)=some (.slice false es):=by
 subst hn;have hl:=iU hz;have hs:sub (flat es++rest) 0 (es.length * z)=some (flat es):=by
  rw [eH,if_pos (by rw [aq,hl]; omega),List.drop_zero,← hl,List.take_left]
 have hc:=uE (ds:=[]) hz;rw [List.append_nil] at hc;simp only [dataV,get_eq,hb,hs];simp only [flat,qE,hc]
section
variable {E:Calls'}{T:FuncId->Option QF}{val:FuncId->Bool}
def bL (z:Nat)(nl:Bool)(es:List (List D))(bs:List Blk)(lo:Nat):V×Hp:=match nl,es with
 | true,_=>(.d (.slice true []),⟨bs,lo⟩)
 | false,[]=>(.row bs.length 0 0 (some 0) z,⟨bs++[.cells []],lo⟩)
 | false,e::es=>(.row (bs.length+1) 0 (es.length+1) none z,⟨bs++[.cells [],.cells (flat (e::es))],lo⟩)
theorem EB {z b:Nat}{zero:List V}(hz0:0<z)(hb:b<=4096){nl:Bool}{es:List (List D)}(hz:∀ e∈es,e.length=z)(hlen:es.length<=big)(bs:List Blk)(lo:Nat) :
 Bd E T val (cloneQ z b zero) [.d (.slice nl es)] ⟨bs,lo⟩=some (bL z nl es bs lo):=by
 have hzz:z≠0:=by omega
 cases nl with
 | true=>simp [cloneQ,aa,bL]
 | false =>
  cases es with
  | nil=>simp [cloneQ,aa,dP,aB,aD,hzz,bL]
  | cons e es =>
   have hrc:aB ⟨bs++[.cells []],lo⟩ (.d (.slice false (e::es))) z=some (es.length+1,flat (e::es)):=by
    have hall:((e::es).all λe=>e.length==z)=true:=cm.2 λx hx=>by simp [hz x hx]
    simp only [aB,hall,if_true,flat]; rfl
   generalize hF:flat (e::es)=F at hrc;have hr:roomy (es.length+1) b=true:=by
    simp only [roomy,aw,bw];exact ⟨hlen,hb⟩
   simp [cloneQ,aa,dP,hrc,aD,hzz,hr,bL,hF]
theorem ek {α:Type}{cells:α->List D}{z b:Nat}{zero:List V}{id:FuncId}(ht:T id=some (cloneQ z b zero))(hv:val id=true)(hz0:0<z)(hb:b<=4096)(hz:∀ x,(cells x).length=z){s:Sl α}(hs:short s)(h:Hp) :
 Sm E T val id [.d (s.d cells)] h=some (.d (s.d cells),h):=by
 rw [aN ht hv];obtain ⟨nl,l⟩:=s;have hl:∀ e∈l.map cells,e.length=z:=by simp; intro a _; exact hz a
 have hB:=EB (E:=E) (T:=T) (val:=val) (zero:=zero) hz0 hb (nl:=nl) hl (by simpa using hs.1) [] 0;simp only [Sl.d];simp only [List.mapM_cons,List.mapM_nil,R6,Option.pure_def,Option.bind_eq_bind,Option.bind_some,xI,hB,Ep];cases nl with
 | true=>have:=hs.2 rfl; simp at this; subst this; simp [bL]
 | false =>
  cases l with
  | nil =>
   have:=bB (h:=⟨[.cells []],0⟩) (k:=7) (b:=0) (n:=0) (cap:=some 0) (es:=[]) (z:=z) (rest:=[]) (by simp) rfl rfl;simp [bL,this]
  | cons x l =>
   have:=bB (h:=⟨[.cells [],.cells (flat ((x::l).map cells))],0⟩) (k:=7) (b:=1) (n:=l.length+1) (cap:=none) (es:=(x::l).map cells) (rest:=[]) hl (by simp) (by simp);simp only [cq] at this;simp [bL,this]
theorem iM {z b:Nat}{zero:List V}{id:FuncId}(ht:T id=some (cloneQ z b zero))(hv:val id=false)(hz0:0<z)(hb:b<=4096){nl:Bool}{es:List (List D)}(hz:∀ e∈es,e.length=z)(hlen:es.length<=big)(h:Hp) :
 Sm E T val id [.d (.slice nl es)] h=some ((bL z nl es h.bs h.low).1,⟨(bL z nl es h.bs h.low).2.bs,if nl then h.low else min h.low h.bs.length⟩):=by
 rw [av ht hv,EB hz0 hb hz hlen];cases nl with
 | true=>simp [fQ,bL,V.under]
 | false=>cases es<;>simp [fQ,bL,V.under]<;>(intro hh; omega)
theorem fJ {α:Type}(cells:α->List D){z idx id:Nat}{zero:List V}(hti:T idx=some (idxQ z))(hvi:val idx=false)(ht:T id=some (delQ z idx zero))(hv:val id=false){v:V}{es:List α}{f:FuncId}{caps:List V}{q:α->Bool}{h:Hp}
 (hr:RowIs h.bs v z (es.map cells)) (hlen:es.length<2 ^ 62) (hf:∀ e∈es,∀ lo,Sm E T val f (.agg ((cells e).map .d)::caps) ⟨h.bs,lo⟩=some (.d (.bool (q e)),⟨h.bs,lo⟩)) (hq:∀ e∈es,q e=false) :
 Sm E T val id [v,.fn f caps] h=some (v,h):=by
 rw [av ht hv];have h1:=xZ (h:=⟨h.bs,h.bs.length⟩) cells hti hvi hr hlen hf;have h2:lV es q=-1:=by
  obtain ⟨_,e⟩ | ⟨k,x,e,_,_⟩:=iG es q
  . exact e
  . exact absurd (List.find?_some e) (by simp [hq x (List.mem_of_find?_eq_some e)])
 have hok:=hr.ok;have hokv:okV v=true:=by obtain ⟨nl,rfl⟩ | ⟨b,o,cap,cs,rfl,_⟩:=hr.2<;>rfl
 have hu:V.under h.bs.length v=true:=by
  obtain ⟨nl,rfl⟩ | ⟨b,o,cap,cs,rfl,hb,_⟩:=hr.2
  . rfl
  . simpa [V.under] using aK hb
 simp [delQ,aa,hok,hokv,h1,h2,hu]
structure Thin {α:Type} (cells:α->List D) (z:Nat) (es:List α) (bs0:List Blk) (b:Nat) (kept:List α) (bs:List Blk):Prop where
 len:bs0.length<=bs.length
 old:∀ x,x≠b->x<bs0.length->bs[x]?=bs0[x]?
 row:au bs b=some (flat (kept.map cells)++(flat (es.map cells)).drop (kept.length * z))
section
variable {α:Type}{cells:α->List D}{z:Nat}(hz:∀ x,(cells x).length=z){es:List α}{bs0:List Blk}{b:Nat}
include hz
theorem bz (l:List α):(flat (l.map cells)).length=l.length * z:=by
 rw [iU (z:=z) (by simp; intro a _; exact hz a)]; simp
theorem Thin.read {kept:List α}{bs:List Blk}(h:Thin cells z es bs0 b kept bs){j:Nat}(hj:kept.length<=j)(hlt:j<es.length):sub (flat (kept.map cells)++(flat (es.map cells)).drop (kept.length * z)) (j * z) z=some ((cells es[j]).map .d):=by
 have h1:=bz hz kept;have h2:=bz hz es;have h3:kept.length * z<=j * z:=Nat.mul_le_mul_right z hj;have h4:(j+1) * z<=es.length * z:=Nat.mul_le_mul_right z hlt;rw [Nat.add_mul,Nat.one_mul] at h4;rw [eH,if_pos (by simp only [aq,List.length_drop,h1,h2]; omega)];have h5:j * z=(flat (kept.map cells)).length+(j * z-kept.length * z):=by omega
 rw [h5,← bh,List.drop_left,bh,show kept.length * z+(j * z-kept.length * z)=j * z by omega];have hf:=oU (α:=V) (es:=(es.map cells).map (·.map .d)) (i:=j) (z:=z) (by simp; intro a _; exact hz a) (by simpa using hlt);simp only [List.getElem_map] at hf;rw [← hf,flat,List.map_flatten]
omit hz in
theorem Thin.lay {kept:List α}{bs:List Blk}(h:Thin cells z es bs0 b kept bs)(x:Blk):Thin cells z es bs0 b kept (bs++[x]):=by
 refine ⟨by simp; have:=h.len; omega,λy hy hlt=>?_,ak h.row⟩;rw [am (by have:=h.len; omega)];exact h.old y hy hlt
theorem Thin.keep {kept:List α}{bs:List Blk}(h:Thin cells z es bs0 b kept bs){e:α}(hlt:kept.length<es.length) :
 ∃ cs,put (flat (kept.map cells)++(flat (es.map cells)).drop (kept.length * z)) (kept.length * z) ((cells e).map .d)=some cs/\Thin cells z es bs0 b (kept++[e]) (bs.set b (.cells cs)):=by
 have h1:=bz hz kept;have h2:=bz hz es;have h4:(kept.length+1) * z<=es.length * z:=Nat.mul_le_mul_right z hlt;rw [Nat.add_mul,Nat.one_mul] at h4;refine ⟨flat (kept.map cells)++(cells e).map .d++(flat (es.map cells)).drop ((kept.length+1) * z),?_,?_⟩
 . unfold put;rw [if_pos (by simp only [aq,List.length_drop,cb,h1,h2,hz]; omega)]
   congr 1
   rw [← h1,List.take_left,cb,hz,← bh,List.drop_left,bh,h1,Nat.add_mul,Nat.one_mul]
 . have hb:=aK h.row;refine ⟨by simpa using h.len,λy hy hlt=>?_,?_⟩
   . rw [ac (λq=>hy q.symm)]; exact h.old y hy hlt
   . simp only [au,List.getElem?_set_self hb,List.map_append,cq,List.map_nil,mh,ku,rH,List.append_nil,aq,cj,ck]
end
theorem JK {α:Type}{cells:α->List D}{z:Nat}(hz:∀ x,(cells x).length=z)(hz0:0<z){zero:List V}(hzero:zero.length=z){es:List α}{bs0:List Blk}{b:Nat}(hb0:b<bs0.length){cap:Option Nat}{f:FuncId}{caps:List V}{q:α->Bool}(hlen:es.length<2 ^ 62)
 (hf:∀ e∈es,∀ bs lo,bs0.length<=bs.length->(∀ x,x≠b->x<bs0.length->bs[x]?=bs0[x]?)->Sm E T val f (.agg ((cells e).map .d)::caps) ⟨bs,lo⟩=some (.d (.bool (q e)),⟨bs,lo⟩)) :
 ∀ (m j:Nat) (kept:List α) (bs:List Blk) (lo:Nat),j+m=es.length->kept.length<j->Thin cells z es bs0 b kept bs->lo<=bs.length →
  ∃ bs' lo',Cd E T val (.loop [0,1,5,6] (Dj z zero)) [(0,.row b 0 es.length cap z),(1,.fn f caps),(5,.d (.int .i64 kept.length)),(6,.d (.int .i64 j))] ⟨bs,lo⟩ =
   some (.exit 0,[(0,.row b 0 es.length cap z),(5,.d (.int .i64 (kept++(es.drop j).filter λe=>!q e).length))],⟨bs',lo'⟩)/\Thin cells z es bs0 b (kept++(es.drop j).filter λe=>!q e) bs':=by
 intro m;have key:=ax (E:=E) (T:=T) (val:=val) [0,1,5,6] (Dj z zero);generalize Cd E T val (.loop [0,1,5,6] (Dj z zero))=W at key ⊢
 induction m with
 | zero =>
  intro j kept bs lo hj hk ht hlo;have h0:es.drop j=[]:=bb (by omega);refine ⟨bs,lo,?_,by simpa [h0] using ht⟩;rw [key];simp [Dj,h0,show ¬ ((j:Int)<es.length) from by omega]
 | succ m ih =>
  intro j kept bs lo hj hk ht hlo;have hlt:j<es.length:=by omega
  have hd:es.drop j=es[j]::es.drop (j+1):=ba hlt;have hread:=ht.read hz (by omega) hlt;have hrow:=ht.row;have hmem:es[j]∈es:=bj hlt;generalize es[j]=x at *;have hput:put zero 0 ((cells x).map V.d)=some ((cells x).map .d):=by
   simp [put,hz,hzero]
  have ht1:=ht.lay (.cells ((cells x).map .d));have hcall:=hf x hmem (bs++[.cells ((cells x).map .d)]) lo ht1.len ht1.old;have hsubx:sub (cells x) 0 z=some (cells x):=bQ (hz x);have hix:iL none z (.row b 0 es.length cap z) (.d (.int .i64 j)) ⟨bs,lo⟩=some (.ptr b (j * z),⟨bs,lo⟩):=by
   simp only [iL]; rw [if_pos ⟨by omega,by omega,trivial⟩]; simp
  have hw:wrap .i64 ((j:Int)+1)=((j+1:Nat):Int):=by rw [wrap64]<;>omega
  rw [key,hd];have hok:okV (V.agg ((cells x).map .d))=true:=rfl;have hcall:=λlo=>hf x hmem (bs++[.cells ((cells x).map .d)]) lo ht1.len ht1.old;rw [Jk] at hok;simp only [Jk] at hcall;cases hq:q x with
  | true =>
   obtain ⟨bs',lo',k1,k2⟩:=ih (j+1) kept (bs++[.cells ((cells x).map .d)]) (min lo bs.length) (by omega) (by omega) ht1 (by simp; omega);refine ⟨bs',lo',?_,by simpa [hq] using k2⟩;simp [Dj,hix,ldv,hrow,hread,hput,hcall,hq,hw,hz,hz0,hsubx,show ((j:Int)<es.length) from by omega];simpa using k1
  | false =>
   obtain ⟨cs,hcs,ht2⟩:=ht1.keep hz (e:=x) (by omega);have hrow1:=ht1.row;have hix2:∀ lo,iL none z (.row b 0 es.length cap z) (.d (.int .i64 kept.length)) ⟨bs++[.cells ((cells x).map .d)],lo⟩=some (.ptr b (kept.length * z),⟨bs++[.cells ((cells x).map .d)],lo⟩):=by
    intro lo; simp only [iL]; rw [if_pos ⟨by omega,by omega,trivial⟩]; simp
   have hw2:wrap .i64 ((kept.length:Int)+1)=((kept.length+1:Nat):Int):=by rw [wrap64]<;>omega
   have hset:∀ lo,Hp.set ⟨bs++[Blk.cells ((cells x).map V.d)],lo⟩ b cs=⟨(bs++[Blk.cells ((cells x).map V.d)]).set b (Blk.cells cs),min lo b⟩:=λ_=>rfl;obtain ⟨bs',lo',k1,k2⟩:=ih (j+1) (kept++[x]) _ (min (min lo bs.length) b) (by omega) (by simp; omega) ht2 (by simp; omega);refine ⟨bs',lo',?_,by simpa [hq] using k2⟩;generalize hB:(bs++[Blk.cells ((cells x).map .d)]).set b (Blk.cells cs)=B at *;simp [Dj,hix,ldv,hrow,hread,hput,hcall,hq,hw,hz,hz0,hsubx,hix2,hrow1,hcs,hset,hw2,show ((j:Int)<es.length) from by omega];simp at k1;rw [show ((kept.length:Int)+1)=(kept.length:Int)+1 from rfl] at k1;simpa [Int.add_assoc,Int.add_comm,Int.add_left_comm] using k1
theorem LX {h:Hp}{ev:X->V}{b len z:Nat}{cap:Option Nat}{x:X}{n:Nat}(hx:ev x=.d (.int .i64 n))(hn:n<len):∃ cap',bZ h ev .sl z (.row b 0 len cap z) (some x) none none=some (.row b (n * z) (len-n) cap' z):=by
 simp only [bZ,dU,hx];rw [if_pos (by omega)];simp only [Int.toNat_natCast];rw [if_pos ⟨by omega,by omega,trivial⟩];by_cases h0:n=0
 . subst h0; exact ⟨cap,by simp⟩
 . exact ⟨_,by rw [if_neg h0,if_pos hn,Nat.zero_add]⟩
theorem pI {h:Hp}{ev:X->V}{b len z:Nat}{cap:Option Nat}{x:X}{n:Nat}(hx:ev x=.d (.int .i64 n))(hn:n<=len):bZ h ev .sl z (.row b 0 len cap z) none (some x) none=some (.row b 0 n cap z):=by
 simp only [bZ,dU,hx];rw [if_pos (by omega)];simp only [Int.toNat_natCast];rw [if_pos ⟨by omega,by omega,trivial⟩];simp
theorem qy {α:Type}{cells:α->List D}{z idx id:Nat}{zero:List V}(hz:∀ x,(cells x).length=z)(hz0:0<z)(hzero:zero.length=z)(hti:T idx=some (idxQ z))(hvi:val idx=false)(ht:T id=some (delQ z idx zero))(hv:val id=false)
 {es:List α} {b:Nat} {cap:Option Nat} {f:FuncId} {caps:List V} {q:α->Bool} {h:Hp} (hb:au h.bs b=some (flat (es.map cells))) (hlen:es.length<2 ^ 62)
 (hf:∀ e∈es,∀ bs lo,h.bs.length<=bs.length->(∀ x,x≠b->x<h.bs.length->bs[x]?=h.bs[x]?)->Sm E T val f (.agg ((cells e).map .d)::caps) ⟨bs,lo⟩=some (.d (.bool (q e)),⟨bs,lo⟩)) (hq:∃ e∈es,q e=true) :
 ∃ bs' lo' rest,Sm E T val id [.row b 0 es.length cap z,.fn f caps] h=some (.row b 0 (es.filter λe=>!q e).length cap z,⟨bs',lo'⟩)/\h.bs.length<=bs'.length/\(∀ x,x≠b->x<h.bs.length->bs'[x]?=h.bs[x]?) ∧
  au bs' b=some (flat ((es.filter λe=>!q e).map cells)++rest)/\lo'<=b/\rest.length=(es.length-(es.filter λe=>!q e).length) * z:=by
 obtain ⟨k,x,e1,e2,e3⟩:∃ k e,es.find? q=some e/\lV es q=(k:Nat)/\es[k]?=some e:=by
  obtain ⟨e,_⟩ | h:=iG es q
  . obtain ⟨y,y1,y2⟩:=hq;exact absurd y2 (by simpa using List.find?_eq_none.1 e y y1)
  . exact h
 have hk:k<es.length:=(bx.1 e3).1;have hxk:es[k]=x:=(bx.1 e3).2;have hqx:q x=true:=List.find?_some e1;have hfirst:∀ y∈es.take k,q y=false:=by
  rw [List.find?_eq_some_iff_getElem] at e1;obtain ⟨_,i,hi,hxi,hlt⟩:=e1;have hik:i=k\/i≠k:=by omega
  intro y hy;obtain ⟨j,hj,rfl⟩:=List.mem_iff_getElem.1 hy;simp only [List.length_take] at hj;rw [List.getElem_take];have h2:lV es q=(i:Nat):=by
   unfold lV;rw [List.findIdx?_eq_some_iff_getElem.2 ⟨hi,by rw [hxi]; exact hqx,λj hj=>by simpa using hlt j hj⟩]
  have:i=k:=by rw [h2] at e2; omega
  subst this;simpa using hlt j (by omega)
 have htk:es.take k++(es.drop (k+1)).filter (λe=>!q e)=es.filter λe=>!q e:=by
  conv=>rhs; rw [← List.take_append_drop k es,List.filter_append]
  congr 1
  . exact (List.filter_eq_self.2 λy hy=>by simp [hfirst y hy]).symm
  . rw [ba hk,hxk,List.filter_cons]; simp [hqx]
 have hT0:Thin cells z es h.bs b (es.take k) h.bs:=by
  refine ⟨br _,λ_ _ _=>rfl,?_⟩;have h1:=bz hz (es.take k);have hs:flat (es.map cells)=flat ((es.take k).map cells)++flat ((es.drop k).map cells):=by rw [← mh,← List.map_append,List.take_append_drop]
  rw [hb,hs,← h1,List.drop_left]
 have hbl:=aK hb;have hrowis:RowIs h.bs (.row b 0 es.length cap z) z (es.map cells):=by
  refine ⟨by simp; intro a _; exact hz a,.inr ⟨b,0,cap,_,by simp,hb,?_⟩⟩;rw [eH,if_pos (by rw [bz hz]; simp)];rw [List.drop_zero,cb,← bz hz,List.take_length]; rfl
 have h1:=xZ (E:=E) (h:=⟨h.bs,h.bs.length⟩) cells hti hvi hrowis hlen (λe he lo=>hf e he h.bs lo (br _) λ_ _ _=>rfl);obtain ⟨bs',lo',k1,k2⟩:=JK (E:=E) (T:=T) (val:=val) hz hz0 hzero hbl (cap:=cap) hlen hf (es.length-(k+1)) (k+1) (es.take k) h.bs h.bs.length (by omega) (by simp; omega) hT0 (br _);rw [htk] at k1 k2;have hkl:(es.take k).length=k:=by simp; omega
 have hfl:(es.filter λe=>!q e).length<es.length:=by
  rw [← htk,aq,hkl];have:=List.length_filter_le (λe=>!q e) (es.drop (k+1));simp only [List.length_drop] at this;omega
 rw [hkl] at k1;generalize hK:es.filter (λe=>!q e)=K at *;rw [av ht hv];have hw:wrap .i64 ((k:Int)+1)=((k+1:Nat):Int):=by rw [wrap64]<;>omega
 have hrow:=k2.row;have hlenT:=bz hz K;have hlenE:=bz hz es;have hbl2:=aK hrow;have hmul:K.length * z<es.length * z:=Nat.mul_lt_mul_of_pos_right hfl hz0;have hput:put (flat (K.map cells)++(flat (es.map cells)).drop (K.length * z)) (K.length * z) (List.replicate (es.length-K.length) zero).flatten=some (flat (K.map cells)++(List.replicate (es.length-K.length) zero).flatten):=by
  have hr:((List.replicate (es.length-K.length) zero).flatten).length=(es.length-K.length) * z:=by simp [hzero]
  unfold put;rw [if_pos (by rw [aq,List.length_drop,hlenT,hlenE,hr,Nat.sub_mul]; omega),← hlenT,List.take_left,hlenT,hr,bb (by rw [aq,List.length_drop,hlenT,hlenE,Nat.sub_mul]; omega),List.append_nil]
 have hclr:∀ (e:EA) (cap':Option Nat),e.get 38=.row b (K.length * z) (es.length-K.length) cap' z->opE (Sm E T val) (.clear z zero (.t 38)) (X.ea e) ⟨bs',lo'⟩=some (.undef,⟨bs'.set b (.cells (flat (K.map cells)++(List.replicate (es.length-K.length) zero).flatten)),min lo' b⟩):=by
  intro e cap' he;have hne:¬ (es.length-K.length) * z=0:=by rw [Nat.sub_mul]; omega
  simp only [opE,bt9,he,if_true,get_eq,hrow,if_neg hne,hput,PH]
 refine ⟨bs'.set b (.cells (flat (K.map cells)++(List.replicate (es.length-K.length) zero).flatten)),min h.low (min lo' b),(List.replicate (es.length-K.length) zero).flatten,?_,by simpa using k2.len,λy hy hlt=>by rw [ac (λq=>hy q.symm)]; exact k2.old y hy hlt,by simp [au,List.getElem?_set_self hbl2],by omega,by simp [hzero]⟩;have hne:¬ (h.bs.length<=lo'/\h.bs.length<=b/\b<h.bs.length):=by omega
 generalize hZ:flat (K.map cells)++(List.replicate (es.length-K.length) zero).flatten=Z at *;simp [delQ,aa,h1,e2,hw];rw [aj];simp at k1;simp [k1];obtain ⟨cap',hsl⟩:=LX (h:=⟨bs',lo'⟩) (ev:=X.ea [(37,.d (.int .i64 K.length)),(36,.row b 0 es.length cap z),(0,.row b 0 es.length cap z),(5,.d (.int .i64 K.length))]) (x:=.t 37) (b:=b) (z:=z) (cap:=cap) (n:=K.length) (by simp) hfl;simp [hsl];rw [hclr _ cap' (by simp)];have hsh:=pI (h:=⟨bs'.set b (.cells Z),min lo' b⟩) (ev:=X.ea [(40,.d (.int .i64 K.length)),(39,.row b 0 es.length cap z),(38,.row b (K.length * z) (es.length-K.length) cap' z),(37,.d (.int .i64 K.length)),(36,.row b 0 es.length cap z),(0,.row b 0 es.length cap z),(5,.d (.int .i64 K.length))]) (x:=.t 40) (b:=b) (z:=z) (len:=es.length) (cap:=cap) (n:=K.length) (by simp) (by omega);simp [hsh,V.under];intro h1 h2;exfalso;omega
end
structure Acc (base:List Blk) (z:Nat) (acc:List (List D)) (bs:List Blk) (v:V):Prop where
 len:base.length<=bs.length
 old:∀ x,x<base.length->bs[x]?=base[x]?
 is:(acc=[]/\v=.d (.slice true []))\/(acc≠[]/\∃ b,base.length<=b/\v=.row b 0 acc.length none z/\au bs b=some (flat acc))
 wid:∀ e∈acc,e.length=z
theorem Acc.nil (base:List Blk)(z:Nat):Acc base z [] base (.d (.slice true [])):=⟨br _,λ_ _=>rfl,.inl ⟨rfl,rfl⟩,by simp⟩
theorem Acc.nu {base:List Blk}{z:Nat}{acc:List (List D)}{bs:List Blk}{v:V}(h:Acc base z acc bs v):nu v=some v:=by
 obtain ⟨_,rfl⟩ | ⟨_,b,_,rfl,_⟩:=h.is<;>rfl
theorem Acc.get {base:List Blk}{z:Nat}{acc:List (List D)}{bs:List Blk}{v:V}(h:Acc base z acc bs v){x:Nat}{cs:List V}(hx:au base x=some cs):au bs x=some cs:=by
 have:=h.old x (aK hx);unfold au at hx ⊢;rw [this]; exact hx
theorem Acc.lay {base:List Blk}{z:Nat}{acc:List (List D)}{bs:List Blk}{v:V}(h:Acc base z acc bs v)(ys:List Blk):Acc base z acc (bs++ys) v:=by
 have:=h.len;refine ⟨by simp; omega,λx hx=>by rw [am (by omega)]; exact h.old x hx,?_,h.wid⟩;obtain h1 | ⟨h1,b,h2,h3,h4⟩:=h.is
 . exact .inl h1
 . exact .inr ⟨h1,b,h2,h3,ak h4⟩
theorem Acc.app {base:List Blk}{z:Nat}{acc:List (List D)}{bs:List Blk}{v:V}(h:Acc base z acc bs v)(hz0:0<z){by_:Nat}(hby:by_<=4096){e:List D}(he:e.length=z)(hl:acc.length<big)(lo:Nat){r:Nat}{cap:Option Nat}(hr:au bs r=some (e.map .d)) :
 ∃ v' bs' lo',dP ⟨bs,lo⟩ z by_ v (.row r 0 1 cap z)=some (v',⟨bs',lo'⟩)/\Acc base z (acc++[e]) bs' v':=by
 have hrc:aB ⟨bs,lo⟩ (.row r 0 1 cap z) z=some (1,e.map .d):=by
  have:sub (e.map V.d) 0 z=some (e.map .d):=bQ (by simpa using he);simp only [aB,if_true,get_eq,hr,Nat.one_mul,this,Option.map_some]
 have hroom:∀ n,n<=big->roomy n by_=true:=λn hn=>by simp only [roomy,aw,bw]; exact ⟨hn,hby⟩
 have hw:∀ x∈acc++[e],x.length=z:=by
  intro x hx;obtain hx | hx:=List.mem_append.1 hx
  . exact h.wid x hx
  . simp at hx; subst hx; exact he
 have hne:acc++[e]≠[]:=by simp
 have hlen:=h.len;obtain ⟨h1,rfl⟩ | ⟨h1,b,h2,rfl,h4⟩:=h.is
 . subst h1;refine ⟨_,_,_,by simp only [dP,hrc,aD,if_neg (show ¬ (1=0) by decide),if_neg (show ¬ z=0 by omega),hroom 1 (by decide),if_true]; rfl,?_⟩;refine ⟨by simp; omega,λx hx=>?_,.inr ⟨hne,bs.length,hlen,rfl,?_⟩,hw⟩
   . simp only []; rw [am (by omega)]; exact h.old x hx
   . simp [flat]
 . have hf:=iU h.wid;have hsub:sub (flat acc) 0 (acc.length * z)=some (flat acc):=bQ hf;have hpos:0<(flat acc).length:=by
    rw [hf];exact Nat.mul_pos (List.length_pos_iff.2 h1) hz0
   refine ⟨_,_,_,by simp only [dP,hrc,aD,ne_eq,not_true_eq_false,false_or,if_neg (show ¬ (1=0) by decide),if_neg (show ¬ z=0 by omega),get_eq,h4,hsub,hroom (acc.length+1) (by omega),Bool.not_true,bo,if_false,hpos,and_self,if_true]; rfl,?_⟩;refine ⟨by simp [Hp.set]; omega,λx hx=>?_,.inr ⟨hne,bs.length,hlen,by simp [Hp.size],?_⟩,hw⟩
   . simp only [Hp.set];rw [am (by simp; omega),ac (by omega)];exact h.old x hx
   . simp only [Hp.set];have:au (bs.set b (.cells [])++[.cells (flat acc++e.map .d)]) (bs.set b (.cells [])).length=some (flat acc++e.map .d):=by rw [dh]; rfl
     rw [List.length_set] at this;rw [this,mh,ku,rH,List.append_nil]
theorem Acc.dat {base:List Blk}{z:Nat}{acc:List (List D)}{bs:List Blk}{v:V}(h:Acc base z acc bs v)(lo k:Nat):dataV ⟨bs,lo⟩ (k+1) v=some (.slice acc.isEmpty acc):=by
 obtain ⟨rfl,rfl⟩ | ⟨h1,b,_,rfl,h4⟩:=h.is
 . rfl
 . rw [bB h.wid rfl (rest:=[]) (by simpa using h4)];cases acc with
   | nil=>exact absurd rfl h1
   | cons x l=>rfl
theorem Acc.frz {base:List Blk}{z:Nat}{acc:List (List D)}{bs:List Blk}{v:V}(h:Acc base z acc bs v)(lo:Nat):frz ⟨bs,lo⟩ v=some (.d (.slice acc.isEmpty acc))/\iV ⟨bs,lo⟩ v=some (.d (.slice acc.isEmpty acc)):=by
 have h1:=h.dat lo 7;obtain ⟨rfl,rfl⟩ | ⟨_,b,_,rfl,_⟩:=h.is
 . exact ⟨rfl,rfl⟩
 . simp only [Fp,Bc,h1,and_self]
theorem Acc.tup {base:List Blk}{z:Nat}{acc:List (List D)}{bs:List Blk}{v:V}(h:Acc base z acc bs v):bf [v]=v:=rfl
end
section
def qM:QC:=(⟨_,by cbv⟩:C0 0xad0423c009d0500d22c0fc232103210bd05132d013511905111a11121113111311270b12c011121b43111a11121103111311270b12c011121b4311c001d29c21613120501340137106c2e012c5241c014101141c5110a11121b4312c0192116c).1
def qN:QC:=(⟨_,by cbv⟩:C0 0x29d0523c028d051fd23c01ed23210321905132d0135111a1112111311250b13c011121b5311c020d2b23613122501340137106c2e012c5241c014101141c5110a11121b5313c01921115d).1
def qO:QC:=(⟨_,by cbv⟩:C0 0x90623c03dd0534d24c033d232103217051118c2c04115111250b14c011121b7311c035d292561314501340137106c2e012c5241c014101141c5110a11121b7314c0192112ad).1
def q31:QF:=(⟨_,λ_ _ _=>by cbv⟩:F3 0x214102206c2e013c511c0132163133dd274600062121153132ad1726000521211431315d070600042121110321405110a11121b6311405110a11121953110a11121243720c21400110c122120113fd).1 qM qN qO
def q42:QF:=(⟨_,by cbv⟩:F0 0x54245005212c79017111270b14c0111210c431721054244005212c7900106022172c1321130011c515012211106212275d2c0416176d8c11121443725214001106022171c120c120c142150741227c).1
def q45:QF:=(⟨_,by cbv⟩:F0 0x54245005212c29012111220b16c0111210c631721054244005212c29000122c1321131503710011c5276c0171011504711011c0637112274c4317101105c15c01b2111082122a6d2c0414c1a7d8c111210c6315211072295901062151c625181408110921225ad2c041b01481a292140010121c4220c1321502412208d).1
def q52:QF:=(⟨_,by cbv⟩:F0 0x41410421363aed2c041112166311121103131313511821400120c120c132140120c).1
def qQ:QC:=(⟨_,by cbv⟩:C0 0x24d0623c023d051ad24c019d2321032125d0511805110a1112112311230b14c0111213c031180511109d2c041112111311230b14c0111213c0311109d2c041112110311230b14c0111213c0311c01bd26c4c5c7c8c9cac3124567a89b0c1c2c3cbc0ccdc6c4c5c7c8c9cac3124567a89b0c1c2c3cbc0cc6c4c5c7c8c9cac3124567a89b0c1c2c3cac6c4c5c7c8c9c66c4c5c7c8c56c4c5c7c46c4c5c304c103124567a89b0c1c2c2c3124567a89b0c1c1ca89b0c5a89b4a8930810312456631245531244312301100ecec8361543142501340137106c2e012c5241c014101141c5110a111213c0314c01921110d).1
def qR:QC:=(⟨_,by cbv⟩:C0 0x48d0723c047d053ed25c03dd2321032149d051180511109d2c041112113311240b15c0111213c131180511109d2c041112112311240b15c0111213c131180511109d2c041112111311240b15c0111213c13110a1112110311240b15c0111213c1311c03fd2a89b0c1c2c6c4c5c7c8c9cacecccdcfc00d01d02d31245673cbc03d004d05da89b0c1c2c6c4c5c7c8c9cacecccdcfc00d01d02d31245673cbc03d004da89b0c1c2c6c4c5c7c8c9cacecccdcfc00d01d02d31245673cbc02da89b0c1c2c6c4c5c7c8c9cacecccdcfc00d01d8cecccdcfc00d5ecccdcfc4ecccdc30cc10a89b0c1c2c6c4c5c7c8c9cac31245673caca89b0c1c2c6c4c5c7c8c9c1c6c4c5c7c8c56c4c5c7c46c4c5c304c10a89b0c1c2c31245672ca89b0c1c6a89b0c5a89b4a893081031245663124553124431230110006d06d8561543144501340137106c2e012c5241c014101141c5110a111213c1315c01921134d).1
def qU:QC:=(⟨_,by cbv⟩:C0 0x74d0823c073d056ad26c069d2321032175d051180511109d2c041112111311220b16c0111213c23132d0135111a1112110311220b16c0111213c2311c06bd2b9a0c1c2c3c312456784c05c6cb9a0c1c2c3c312456784c05cb9a0c1c2c3c312456783cb9a0c1c2c6b9a0c1c5b9a0c4b9a30910312456773124566312455312443123011007c7c876143136501340137106c2e012c5241c014101141c5110a111213c2316c01921160d).1
def qV:QC:=(⟨_,λ_ _ _=>by cbv⟩:C3 0x6d0423c005d05cc22c0bc2328543157dd27660008212175431560d174600072121165431534d0726000621211103210cd0511405110a111213c2311405110a111213c13113c005110a111213c0311c013c2113c39033331c5213111230b12c011121b43dc2721161310501340137106c2e012c5241c014101141c5110a11121b4312c0192112c).1 qQ qR qU
def q87:QF:=(⟨_,λ_=>by cbv⟩:F1 0x21410221c0122143137dd0706000421211103213c005132d0135111a1112121392621000110c122120117ed).1 qV
def HV:QF:=idxQ 7
def Tx:QF:=(⟨_,by cbv⟩:F0 0x3141032121c061512111212031521400120c122130128).1
def HY:QF:=idxQ 5
def HZ:QF:=delQ 7 145 [zu,(.d (.str ⟨#[]⟩)),(.d (.str ⟨#[]⟩)),zi,zw,zi,zu]
def BX:QF:=cloneQ 7 72 [zu,(.d (.str ⟨#[]⟩)),(.d (.str ⟨#[]⟩)),zi,zw,zi,zu]
def K9:QF:=(⟨_,by cbv⟩:F0 0x54245005212c59015111250b14c0111210c531721054244005212c59001062152c1321130011c5150122111062122b1d2c04161b2d8c111214537252140011062151c120c120c142150541227c).1
def H5:QF:=idxQ 2
def NT:QF:=(⟨_,by cbv⟩:F0 0x3141032131c0611121543111212031621400120c122130129).1
def Ty:QF:=(⟨_,by cbv⟩:F0 0x21416590651122121190543171d2c01270d2c041112124315213012151c110c1221521118).1
def Tz:QF:=(⟨_,by cbv⟩:F0 0x6141062401ec711505794121c06470c037112271c231710441011c0634112241c23141011505711250647b03711227813171012015061112141319c214006230c12216013fc).1
def nE:QC:=(⟨_,by cbv⟩:C0 0xec0423c0dc054c22c03c23210321805132d0135111a1112111311220b12c01a011c05c2a2161310501340137106c2e012c5249014101131c5110a180130182117).1
def T9:QF:=(⟨_,λ_=>by cbv⟩:F1 0x21410221c012214303ec0706000421211103210a1305232100011212012fc).1 nE
def Oy:QF:=(⟨_,by cbv⟩:F0 0x3141032121c061512111212031521400120c122130128).1
def Oz:QC:=(⟨_,by cbv⟩:C0 0x10a23c08c051221052152cd34c113013333133c1112419311b01901721739033331c7213112430b142116151050131211c51121b).1
def YX:QF:=g1' Oz
def Ug:QF:=(⟨_,by cbv⟩:F0 0x21410c390b31122141190b23161190b13181190b031c3d2c012c2d2c04111218231c1d2c012c0d2c04111215131bfd2c012bed2c041112120316734012589ab0c1c2c6734012589ab0c1c6734012589ab0c6734012589ab6734012589a673401270123456786100123453100120103c3c8133331c110c1221321114c).1
def OT:QC:=(⟨_,by cbv⟩:C0 0x10a23c08c051221052152cd34c113013333133c1112419311b01901721739033331c7213112430b142116151050131211c51121b).1
def Y7:QF:=g1' OT
def Uz:QF:=(⟨_,by cbv⟩:F0 0x21410c390b31122141190b23161190b13181190b031110008e2c04111218231110007e2c04111215131110007e2c041112120316734012589ab0c1c2c6734012589ab0c1c6734012589ab0c6734012589ab6734012589a673401270123456786100123453100120103c3c8133331c110c1221321114c).1
def OU:QC:=(⟨_,by cbv⟩:C0 0x10a23c08c0512210521544d44c1140133334143c1112419411b019017217490333341c7214112440b142116151050131211c51121b).1
def Y8:QF:=g1' OU
def UA:QF:=(⟨_,by cbv⟩:F0 0x21410c490b41122151190b33171190b23191190b1313c1190b031110007e2c0411121b331110007e2c04111218231110007e2c04111215131110009e2c041112120319a673401258b0c1c2c3c4c5c6c7c9a673401258b0c1c2c3c4c5c6c9a673401258b0c1c2c3c4c5c9a673401258b0c1c2c3c4c9a673401258b0c1c2c3c9a673401258b0c1c2c9a673401258b0c1c9a673401290123456789ab9100123456786100123453100120108c8c81333341c110c1221421118c).1
def OV:QC:=(⟨_,by cbv⟩:C0 0x10a23c08c051221052150cd24c11201322123c1112419211b0190172172903221c7212112420b142116151050131211c51121b).1
def Y9:QF:=g1' OV
def UB:QF:=(⟨_,by cbv⟩:F0 0x214162906211221211905131110007e2c041112121315213221c110c1221221118).1
def Ze:QF:=(⟨_,by cbv⟩:F0 0x214102212cc24c16010202023c14210214300221211330110613012211300112120128).1
def Zf:QF:=(⟨_,by cbv⟩:F0 0x2141022124c24c16010062023c14210214300221211330110613012211300112120128).1
def UV:QF:=cloneQ 1 8 [zi]
end
