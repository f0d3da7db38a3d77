/- Lemmas for reading code step by step: memory, data, how calls end. -/
import Derived.Test.YtjkfknafpgfchaaGreatQt
set_option linter.unusedVariables false
set_option linter.unusedSimpArgs false
namespace Go.Proofs.YtjkfknafpgfchaaGreat
section
variable (E:Calls') (T:FuncId -> Option QF) (val:FuncId -> Bool)
def dy5 (o:Option (EA × Hp)):jF:=lead o
noncomputable def CO (b:QC) (o:jF):jF:=bY o fun e h=>Cd E T val b e h
noncomputable def Gf (v:V) (a b:QC) (e:EA) (h:Hp):jF:=fork v (Cd E T val a e h) (Cd E T val b e h)
def pE (l:List Nat) (W:EA -> Hp -> jF) (o:jF):jF:=bY o fun e h=>W (dN l e) h
def yS (C:Calls') (os:List RO) (e:EA) (d:Option Nat) (o:Option (V × Hp)):Option (EA × Hp):=match o with
 | some (v,h')=>eX C os (bI e d v) h'
 | none=>none
def uw (C:Calls') (v:V) (w:Bool) (d:Option Nat) (r:R) (os:List RO) (e:EA) (h:Hp):Option (EA × Hp):=match v with
 | .d (.bool t)=>if t = w then yS C os e d (opE C r (X.ea e) h) else eX C os (bI e d (.tup [])) h
 | .tup []=>eX C os (bI e d (.tup [])) h
 | _=>none
variable {E T val}
theorem ax (l:List Nat) (b:QC) (e:EA) (h:Hp):Cd E T val (.loop l b) e h = pE l (Cd E T val (.loop l b)) (Cd E T val b (dN l e) h):=by
 rw [uL,pE]
 congr 1
 funext e h;exact aH
@[simp] theorem bm6 {a b:QC} {e:EA} {h:Hp}:Cd E T val (.seq a b) e h = CO E T val b (Cd E T val a e h):=Qm
@[simp] theorem WA {c:X} {a b:QC} {e:EA} {h:Hp}:Cd E T val (.cond c a b) e h = Gf E T val (c.ea e) a b e h:=JJ
attribute [simp] JM Ql JK Qk JL EO
section
variable {e:EA} {h:Hp} {i j:Nat} {a b:QC} {l:List Nat} {W:EA -> Hp -> jF}
@[simp] theorem bt4:CO E T val b (some (.normal,e,h)) = Cd E T val b e h:=(rfl)
@[simp] theorem bt5:CO E T val b (some (.ret,e,h)) = some (.ret,e,h):=(rfl)
@[simp] theorem bt6:CO E T val b (some (.exit i,e,h)) = some (.exit i,e,h):=(rfl)
@[simp] theorem XG:pE l W (some (.normal,e,h)) = W (dN l e) h:=(rfl)
@[simp] theorem XH:pE l W (some (.ret,e,h)) = some (.ret,e,h):=(rfl)
@[simp] theorem XI:pE l W (some (.exit i,e,h)) = some (.exit i,e,h):=(rfl)
@[simp] theorem bo5:Gf E T val (.d (.bool true)) a b e h = Cd E T val a e h:=(rfl)
@[simp] theorem bo4:Gf E T val (.d (.bool false)) a b e h = Cd E T val b e h:=(rfl)
@[simp] theorem bp6:leave i (some (.normal,e,h)) = some (.normal,e,h):=(rfl)
@[simp] theorem bp7:leave i (some (.ret,e,h)) = some (.ret,e,h):=(rfl)
@[simp] theorem bp8:leave i (some (.exit j,e,h)) = if j = i then some (.normal,e,h) else some (.exit j,e,h):=(rfl)
@[simp] theorem Gx:lead (some (e,h)) = some (.normal,e,h):=(rfl)
end
section
variable {C:Calls'} {os:List RO} {e:EA} {d:Option Nat} {r:R} {v:V} {h h':Hp}
@[simp] theorem bt3:yS C os e d (some (v,h')) = eX C os (bI e d v) h':=(rfl)
@[simp] theorem bp3:uw C (.d (.bool true)) true d r os e h = yS C os e d (opE C r (X.ea e) h):=(rfl)
@[simp] theorem bp2:uw C (.d (.bool true)) false d r os e h = eX C os (bI e d (.tup [])) h:=(rfl)
@[simp] theorem bp1:uw C (.d (.bool false)) true d r os e h = eX C os (bI e d (.tup [])) h:=(rfl)
@[simp] theorem bp0:uw C (.d (.bool false)) false d r os e h = yS C os e d (opE C r (X.ea e) h):=(rfl)
@[simp] theorem cg5 {w:Bool}:uw C (.tup []) w d r os e h = eX C os (bI e d (.tup [])) h:=(rfl)
end
end
def fin (res:List RV) (o:jF):Option (V × Hp) :=
 match o with
 | some (.normal,e,h) | some (.ret,e,h)=>match kI h e res with
  | some vs=>some (bE vs,h)
  | none=>none
 | _=>none
theorem af {E:Calls'} {T:FuncId -> Option QF} {val:FuncId -> Bool} {n:Nat} {res:List RV} {c:QC} {args:List V} {h:Hp}:Bd E T val ⟨n,res,c⟩ args h = fin res (Cd E T val c (iA 0 args) h):=(rfl)
section
variable {res:List RV} {e:EA} {h:Hp} {i:Nat}
@[simp] theorem dy0:fin res (some (.normal,e,h)) = match kI h e res with | some vs=>some (bE vs,h) | none=>none:=(rfl)
@[simp] theorem dy1:fin res (some (.ret,e,h)) = match kI h e res with | some vs=>some (bE vs,h) | none=>none:=(rfl)
end
@[simp] theorem cf7 {a:EA} {i:Nat}:X.ea a (.t i) = a.get i:=(rfl)
@[simp] theorem dz1 {a:EA} {v:V}:X.ea a (.c v) = v:=(rfl)
@[simp] theorem bp4 {i:Nat}:EA.get [] i = .undef:=(rfl)
@[simp] theorem Gn {j:Nat} {v:V} {l:EA} {i:Nat}:EA.get ((j,v) :: l) i = if j = i then v else EA.get l i:=(rfl)
@[simp] theorem db2 {e:EA} {i:Nat} {v:V}:bI e (some i) v = (i,v) :: e:=(rfl)
@[simp] theorem db1 {e:EA} {v:V}:bI e none v = e:=(rfl)
@[simp] theorem lT {e:EA}:dN [] e = []:=(rfl)
@[simp] theorem jX {i:Nat} {l:List Nat} {e:EA}:dN (i :: l) e = (i,e.get i) :: dN l e:=(rfl)
@[simp] theorem V7 {i:Nat}:iA i [] = []:=(rfl)
@[simp] theorem QM {i:Nat} {v:V} {l:List V}:iA i (v :: l) = (i,v) :: iA (i + 1) l:=(rfl)
section
variable {b o l z:Nat} {c:Option Nat} {x:D} {cs:List D} {vs:List V} {f:FuncId}
@[simp] theorem dz2:nu (.d x) = some (.d x):=(rfl)
@[simp] theorem cw3:nu (.ptr b o) = some (.ptr b o):=(rfl)
@[simp] theorem bq1:nu (.eptr cs o) = some (.eptr cs o):=(rfl)
@[simp] theorem cw4:nu (.row b o l c z) = some (.row b o l c z):=(rfl)
@[simp] theorem cw2:nu (.mfn f vs) = some (.mfn f vs):=(rfl)
@[simp] theorem dy7:nu (.fn f vs) = some (.fn f vs):=(rfl)
@[simp] theorem cw1:nu (.agg vs) = some (.agg vs):=(rfl)
@[simp] theorem cw5:nu (.tup vs) = some (.tup vs):=(rfl)
@[simp] theorem dy8:okV (.d x) = true:=(rfl)
@[simp] theorem bq4:okV (.ptr b o) = true:=(rfl)
@[simp] theorem aj6:okV (.eptr cs o) = true:=(rfl)
@[simp] theorem bq5:okV (.row b o l c z) = true:=(rfl)
@[simp] theorem bq3:okV (.mfn f vs) = true:=(rfl)
@[simp] theorem cy6:okV (.fn f vs) = true:=(rfl)
@[simp] theorem bq2:okV (.agg vs) = true:=(rfl)
@[simp] theorem bq6:okV (.tup vs) = true:=(rfl)
end
def eqS (a b:ByteArray):Bool:=a.toList == b.toList
def ldv (h:Hp) (v:V) (n:Nat) (sc:Bool):Option (V × Hp):=match loadAt h v n with
 | some cs=>(mk sc cs).map (·,h)
 | none=>none
def stv (h:Hp) (a x:V) (n:Nat):Option (V × Hp):=match x.cells with
 | some xs=>if xs.length = n /\ 0 < n then (storeAt h a xs).map (.undef,·) else none
 | none=>none
def fP (arr:Option Nat) (z:Nat) (x i:V) (h:Hp):Option (V × Hp):=match i,arr,x with
 | .d (.int _ i),none,.d (.slice _ es)=>if 0 <= i then (match es[i.toNat]? with | some c=>if c.length = z then some (.eptr c 0,h) else none | none=>none) else none
 | .d (.int _ i),none,.row b o len _ z'=>if 0 <= i /\ i < len /\ z' = z then some (.ptr b (o + i.toNat * z),h) else none
 | .d (.int _ i),some n,.ptr b o=>if 0 <= i /\ i < n then some (.ptr b (o + i.toNat * z),h) else none
 | .d (.int _ i),some n,.eptr cs o=>if 0 <= i /\ i < n then some (.eptr cs (o + i.toNat * z),h) else none
 | _,_,_=>none
def uY (h:Hp) (v:V):Option (V × Hp):=match v.cells with
 | some cs=>some (.ptr h.size 0,h.alloc cs)
 | none=>none
def dZ (h:Hp) (z b:Nat) (s x:V):Option (V × Hp):=match aF h x z with
 | some (m,xs)=>aC h z b s m xs
 | none=>none
def qL (st:Bool) (v:V) (h:Hp):Option (V × Hp):=match v.len st with
 | some n=>some (.d (.int .i64 n),h)
 | none=>none
def eqv (k:EQ) (neg:Bool) (x y:V) (h:Hp):Option (V × Hp):=match fu k x y with
 | some b=>some (.d (.bool (b != neg)),h)
 | none=>none
def X3 (sc:Bool) (v:V) (off n:Nat) (h:Hp):Option (V × Hp):=match v with
 | .agg cs=>match sub cs off n with
  | some l=>(mk sc l).map (·,h)
  | none=>none
 | _=>none
def Gd (v:V) (off:Nat) (h:Hp):Option (V × Hp):=match v with
 | .ptr b o=>some (.ptr b (o + off),h)
 | .eptr cs o=>some (.eptr cs (o + off),h)
 | _=>none
def O5 (c a b:V) (h:Hp):Option (V × Hp):=match c with
 | .d (.bool t)=>(nu (if t then a else b)).map (·,h)
 | _=>none
def XW (v:V) (i:Nat) (h:Hp):Option (V × Hp):=match v with
 | .tup vs=>vs[i]?.map (·,h)
 | _=>none
section
variable {C:Calls'} {ev:X -> V} {h:Hp}
@[simp] theorem br5 {x:X}:opE C (.mov x) ev h = (nu (ev x)).map (·,h):=(rfl)
@[simp] theorem al3 {c a b:X}:opE C (.pick c a b) ev h = O5 (ev c) (ev a) (ev b) h:=(rfl)
@[simp] theorem br6 {z:List V}:opE C (.new z) ev h = some (.ptr h.size 0,h.alloc z):=(rfl)
@[simp] theorem br1 {x:X}:opE C (.box x) ev h = uY h (ev x):=(rfl)
@[simp] theorem Wt {z:List V} {ps:List (Nat × Nat × X)}:opE C (.build z ps) ev h = match aA ev z ps with
 | some cs=>some (.agg cs,h)
 | none=>none:=(rfl)
@[simp] theorem zU {z n:Nat} {ze:List V} {ps:List (Nat × Nat × X)}:opE C (.buildS z n ze ps) ev h = match aA ev (List.replicate n ze).flatten ps with
 | some cs=>some (.row h.size 0 n (some n) z,h.alloc cs)
 | none=>none:=(rfl)
@[simp] theorem al1 {sc:Bool} {n:Nat} {a:X}:opE C (.load sc n a) ev h = ldv h (ev a) n sc:=(rfl)
@[simp] theorem DT {n:Nat} {a x:X}:opE C (.store n a x) ev h = stv h (ev a) (ev x) n:=(rfl)
@[simp] theorem br0 {op:BinOp} {x y:X}:opE C (.bin op x y) ev h = one (bJ op (ev x) (ev y)) h:=(rfl)
@[simp] theorem cy7 {k:EQ} {neg:Bool} {x y:X}:opE C (.eq k neg x y) ev h = eqv k neg (ev x) (ev y) h:=(rfl)
@[simp] theorem cy8 {op:UnOp} {x:X}:opE C (.un op x) ev h = one (unD op (ev x)) h:=(rfl)
@[simp] theorem ak9 {x:X} {o:Nat}:opE C (.fldA x o) ev h = Gd (ev x) o h:=(rfl)
@[simp] theorem br3 {sc:Bool} {x:X} {o n:Nat}:opE C (.fld sc x o n) ev h = X3 sc (ev x) o n h:=(rfl)
@[simp] theorem xP {a:Option Nat} {z:Nat} {x i:X}:opE C (.idxA a z x i) ev h = fP a z (ev x) (ev i) h:=(rfl)
@[simp] theorem br7 {k:SK} {z:Nat} {x:X} {lo hi mx:Option X}:opE C (.slc k z x lo hi mx) ev h = (bP h ev k z (ev x) lo hi mx).map (·,h):=(rfl)
@[simp] theorem Hy {f:FuncId} {caps:List X}:opE C (.mkmv f caps) ev h = if caps.all (fun x=>okV (ev x)) = true then some (.mfn f (caps.map ev),h) else none:=(rfl)
@[simp] theorem Hw {f:FuncId} {caps:List X}:opE C (.mkfn f caps) ev h = if caps.all (fun x=>okV (ev x)) = true then some (.fn f (caps.map ev),h) else none:=(rfl)
@[simp] theorem br2 {x:X} {i:Nat}:opE C (.ext x i) ev h = XW (ev x) i h:=(rfl)
@[simp] theorem xO {f:X} {args:List X}:opE C (.call f args) ev h = if args.all (fun x=>okV (ev x)) = true then ed C (ev f) (args.map ev) h else none:=(rfl)
@[simp] theorem bq9 {z b:Nat} {s x:X}:opE C (.app z b s x) ev h = dZ h z b (ev s) (ev x):=(rfl)
@[simp] theorem br4 {st:Bool} {x:X}:opE C (.len st x) ev h = qL st (ev x) h:=(rfl)
@[simp] theorem al4 {e:EA}:eX C [] e h = some (e,h):=(rfl)
@[simp] theorem Ww {d:Option Nat} {r:R} {os:List RO} {e:EA}:eX C (⟨none,d,r⟩ :: os) e h = yS C os e d (opE C r (X.ea e) h):=(rfl)
@[simp] theorem aG {j:Nat} {w:Bool} {d:Option Nat} {r:R} {os:List RO} {e:EA}:eX C (⟨some (j,w),d,r⟩ :: os) e h = uw C (e.get j) w d r os e h:=(rfl)
@[simp] theorem Da {f:FuncId} {first args:List V}:ed C (.mfn f first) args h = C f (first ++ args) h:=(rfl)
@[simp] theorem nV {f:FuncId} {caps args:List V}:ed C (.fn f caps) args h = C f (args ++ caps) h:=(rfl)
@[simp] theorem cf4 {x:D}:uY h (.d x) = some (.ptr h.bs.length 0,h.alloc [.d x]):=(rfl)
@[simp] theorem XM {b o:Nat}:uY h (.ptr b o) = some (.ptr h.bs.length 0,h.alloc [.ptr b o]):=(rfl)
@[simp] theorem XN {b o l z:Nat} {c:Option Nat}:uY h (.row b o l c z) = some (.ptr h.bs.length 0,h.alloc [.row b o l c z]):=(rfl)
@[simp] theorem XL {f:FuncId} {c:List V}:uY h (.mfn f c) = some (.ptr h.bs.length 0,h.alloc [.mfn f c]):=(rfl)
@[simp] theorem bn7 {f:FuncId} {c:List V}:uY h (.fn f c) = some (.ptr h.bs.length 0,h.alloc [.fn f c]):=(rfl)
@[simp] theorem XK {cs:List V}:uY h (.agg cs) = some (.ptr h.bs.length 0,h.alloc cs):=(rfl)
@[simp] theorem We {b o n:Nat}:Gd (.ptr b o) n h = some (.ptr b (o + n),h):=(rfl)
@[simp] theorem Q8 {cs:List D} {o n:Nat}:Gd (.eptr cs o) n h = some (.eptr cs (o + n),h):=(rfl)
@[simp] theorem fT {b o n:Nat} {sc:Bool}:ldv h (.ptr b o) n sc = match (match h.get b with | some cs=>sub cs o n | none=>none) with
 | some cs=>(mk sc cs).map (·,h)
 | none=>none:=(rfl)
@[simp] theorem Yo {cs:List D} {o n:Nat} {sc:Bool}:ldv h (.eptr cs o) n sc = match (sub cs o n).map (·.map .d) with
 | some cs=>(mk sc cs).map (·,h)
 | none=>none:=(rfl)
@[simp] theorem cv7 {v:V}:mk true [v] = some v:=(rfl)
@[simp] theorem cv6 {cs:List V}:mk false cs = some (.agg cs):=(rfl)
@[simp] theorem br8 {t:Bool} {a b:V}:O5 (.d (.bool t)) a b h = (nu (if t then a else b)).map (·,h):=(rfl)
@[simp] theorem cv0 {nl:Bool} {es:List (List D)}:qL false (.d (.slice nl es)) h = some (.d (.int .i64 es.length),h):=(rfl)
@[simp] theorem Yp {b o l z:Nat} {c:Option Nat}:qL false (.row b o l c z) h = some (.d (.int .i64 l),h):=(rfl)
@[simp] theorem cv1 {s:ByteArray}:qL true (.d (.str s)) h = some (.d (.int .i64 s.size),h):=(rfl)
@[simp] theorem cf9 {vs:List V} {i:Nat}:XW (.tup vs) i h = vs[i]?.map (·,h):=(rfl)
@[simp] theorem cg0 {cs:List V} {sc:Bool} {o n:Nat}:X3 sc (.agg cs) o n h = match sub cs o n with
 | some l=>(mk sc l).map (·,h)
 | none=>none:=(rfl)
@[simp] theorem dy9 {d:D}:one (some d) h = some (.d d,h):=(rfl)
@[simp] theorem dx8 {a b neg:Bool}:eqv (.sc .b) neg (.d (.bool a)) (.d (.bool b)) h = some (.d (.bool ((a == b) != neg)),h):=(rfl)
@[simp] theorem Oi {k:IntKind} {a b:Int} {neg:Bool}:eqv (.sc (.i k)) neg (.d (.int k a)) (.d (.int k b)) h = some (.d (.bool ((a == b) != neg)),h):=by simp [eqv,fu,kJ]
@[simp] theorem dx9 {a b:ByteArray} {neg:Bool}:eqv (.sc .s) neg (.d (.str a)) (.d (.str b)) h = some (.d (.bool (eqS a b != neg)),h):=(rfl)
@[simp] theorem Q5 {b o l z:Nat} {c:Option Nat} {neg:Bool}:eqv .sl neg (.row b o l c z) (.d (.slice true [])) h = some (.d (.bool (false != neg)),h):=(rfl)
@[simp] theorem bo0 {nl:Bool} {es:List (List D)} {neg:Bool}:eqv .sl neg (.d (.slice nl es)) (.d (.slice true [])) h = some (.d (.bool (nl != neg)),h):=(rfl)
end
section
variable {k:IntKind} {a b:Int}
@[simp] theorem bm7:bJ .add (.d (.int k a)) (.d (.int k b)) = some (.int k (k.wrap (a + b))):=by simp [bJ,dU]
@[simp] theorem bn2:bJ .sub (.d (.int k a)) (.d (.int k b)) = some (.int k (k.wrap (a - b))):=by simp [bJ,dU]
@[simp] theorem bn1:bJ .lss (.d (.int k a)) (.d (.int k b)) = some (.bool (decide (a < b))):=by simp [bJ,dU]
@[simp] theorem bn0:bJ .leq (.d (.int k a)) (.d (.int k b)) = some (.bool (decide (a <= b))):=by simp [bJ,dU]
@[simp] theorem bm9:bJ .gtr (.d (.int k a)) (.d (.int k b)) = some (.bool (decide (a > b))):=by simp [bJ,dU]
@[simp] theorem bm8:bJ .geq (.d (.int k a)) (.d (.int k b)) = some (.bool (decide (a >= b))):=by simp [bJ,dU]
@[simp] theorem dn0 {t:Bool}:unD .not (.d (.bool t)) = some (.bool !t):=(rfl)
end
theorem gP {α:Type} {cs:List α} {o n:Nat}:sub cs o n = if o + n <= cs.length then some ((cs.drop o).take n) else none:=(rfl)
@[simp] theorem av4 {h:Hp} {e:EA}:kI h e [] = some []:=(rfl)
@[simp] theorem av5 {h:Hp} {e:EA} {t:Nat} {l:List RV}:kI h e (.tmp t :: l) = match nu (e.get t),kI h e l with
 | some v,some vs=>some (v :: vs)
 | _,_=>none:=(rfl)
@[simp] theorem Wx {h:Hp} {e:EA} {t n:Nat} {sc:Bool} {l:List RV}:kI h e (.cell t sc n :: l) = match loadAt h (e.get t) n with
 | some cs=>match mk sc cs,kI h e l with
  | some v,some vs=>some (v :: vs)
  | _,_=>none
 | none=>none:=(rfl)
@[simp] theorem mY {h:Hp} {b o n:Nat}:loadAt h (.ptr b o) n = match h.get b with | some cs=>sub cs o n | none=>none:=(rfl)
@[simp] theorem Wy {v:V}:bE [v] = v:=(rfl)
@[simp] theorem Wz {v w:V} {l:List V}:bE (v :: w :: l) = .tup (v :: w :: l):=(rfl)
theorem wrap64 {n:Int} (h1:-(2 ^ 63) <= n) (h2:n < 2 ^ 63):IntKind.wrap .i64 n = n:=by
 simp [IntKind.wrap,IntKind.bits,IntKind.signed];omega
theorem bB {α:Type} {l:List α} {n:Nat} (h:l.length = n):sub l 0 n = some l:=by subst h; simp [sub]
theorem fD (h:Hp) (k:Nat):∀ (l:List D),(l.map V.d).mapM (dataV h k) = some l
 | []=>rfl
 | x :: l=>by
  have:=fD h k l;cases k <;> simp [List.mapM_cons,dataV,this]
theorem BP (h:Hp) (l:List D):frz h (.agg (l.map .d)) = some (.agg (l.map .d)):=by
 simp only [frz,dD,fC,fD]
theorem BQ (h:Hp) (d:D):frz h (.d d) = some (.d d):=by simp [frz,dD,dataV]
theorem H9 (l:List D):cO (.agg (l.map .d)) = true:=by
 simp only [cO,List.all_eq_true];intro x hx;obtain ⟨y,_,rfl⟩:=List.mem_map.1 hx;rfl
@[simp] theorem nW {h:Hp} {k:Nat} {d:D}:dataV h k (.d d) = some d:=by cases k <;> rfl
def ah (bs:List Blk) (b:Nat):Option (List V):=match bs[b]? with
 | some (.cells cs)=>some cs
 | _=>none
@[simp] theorem get_eq {h:Hp} {b:Nat}:h.get b = ah h.bs b:=(rfl)
@[simp] theorem uy {cs:List V} {bs:List Blk}:ah (.cells cs :: bs) 0 = some cs:=(rfl)
@[simp] theorem Dl {x:Blk} {bs:List Blk} {i:Nat}:ah (x :: bs) (i + 1) = ah bs i:=by simp [ah]
@[simp] theorem dF {bs ys:List Blk}:ah (bs ++ ys) bs.length = ah ys 0:=by unfold ah; rw [List.getElem?_append_right (Nat.le_refl _),Nat.sub_self]
@[simp] theorem Yd {bs ys:List Blk} {i:Nat}:ah (bs ++ ys) (bs.length + i) = ah ys i:=by unfold ah; rw [List.getElem?_append_right (Nat.le_add_right _ _),Nat.add_sub_cancel_left]
theorem BS {bs ys:List Blk} {i:Nat} (h:i < bs.length):ah (bs ++ ys) i = ah bs i:=by simp [ah,List.getElem?_append_left h]
theorem au {bs ys:List Blk} {i:Nat} {cs:List V} (h:ah bs i = some cs):ah (bs ++ ys) i = some cs:=by
 rw [BS,h];unfold ah at h;split at h
 · rename_i h1;exact (List.getElem?_eq_some_iff.1 h1).1
 · cases h
theorem aP {bs:List Blk} {i:Nat} {cs:List V} (h:ah bs i = some cs):i < bs.length:=by
 unfold ah at h;split at h
 · rename_i h1;exact (List.getElem?_eq_some_iff.1 h1).1
 · cases h
@[simp] theorem alloc_eq {bs:List Blk} {l:Nat} {cs:List V}:Hp.alloc ⟨bs,l⟩ cs = ⟨bs ++ [.cells cs],l⟩:=(rfl)
@[simp] theorem size_eq {h:Hp}:h.size = h.bs.length:=(rfl)
@[simp] theorem db3 {bs ys:List Blk} {l:Nat} {cs:List V}:Hp.set ⟨bs ++ ys,l⟩ bs.length cs = ⟨bs ++ ys.set 0 (.cells cs),min l bs.length⟩:=by simp [Hp.set,List.set_append]
@[simp] theorem bt1 {bs ys:List Blk} {l i:Nat} {cs:List V}:Hp.set ⟨bs ++ ys,l⟩ (bs.length + i) cs = ⟨bs ++ ys.set i (.cells cs),min l (bs.length + i)⟩:=by simp [Hp.set,List.set_append]
theorem bt2 {ys:List Blk} {l i:Nat} {cs:List V}:Hp.set ⟨ys,l⟩ i cs = ⟨ys.set i (.cells cs),min l i⟩:=(rfl)
@[simp] theorem nU {h h':Hp} {r:V}:iR h (some (r,h')) = if h.bs.length <= h'.low /\ r.under h.bs.length = true then some (r,h) else some (r,⟨h'.bs,min h.low h'.low⟩):=(rfl)
def Jw (args:List V) (h h':Hp) (r:V) (o:Option V):Option (V × Hp):=match o with
 | some r'=>if args.all cO = true \/ lv h' r = true then some (r',h) else none
 | none=>none
def EJ (args:List V) (h:Hp) (o:Option (V × Hp)):Option (V × Hp):=match o with
 | some (r,h')=>Jw args h h' r (frz h' r)
 | none=>none
noncomputable def V3 (E:Calls') (T:FuncId -> Option QF) (val:FuncId -> Bool) (q:QF) (args:List V) (h:Hp) (o:Option (List V)):Option (V × Hp):=match o with
 | some as=>EJ args h (Bd E T val q as ⟨[],0⟩)
 | none=>none
@[simp] theorem V5 {args:List V} {h h':Hp} {r r':V}:Jw args h h' r (some r') = if args.all cO = true \/ lv h' r = true then some (r',h) else none:=(rfl)
@[simp] theorem V4 {args:List V} {h h':Hp} {r:V}:EJ args h (some (r,h')) = Jw args h h' r (frz h' r):=(rfl)
section
variable {E:Calls'} {T:FuncId -> Option QF} {val:FuncId -> Bool}
@[simp] theorem Bg {q:QF} {args as:List V} {h:Hp}:V3 E T val q args h (some as) = EJ args h (Bd E T val q as ⟨[],0⟩):=(rfl)
theorem bf {f:FuncId} {q:QF} (hf:T f = some q) (hv:val f = true) {args:List V} {h:Hp}:Sm E T val f args h = V3 E T val q args h (args.mapM (frz h)):=by
 rw [QH hf hv];unfold mH V3 EJ Jw;cases args.mapM (frz h) with
 | none=>rfl
 | some as =>
  dsimp only;cases Bd E T val q as ⟨[],0⟩ with
  | none=>rfl
  | some x =>
   obtain ⟨r,h'⟩:=x;dsimp only;cases frz h' r <;> rfl
end
end Go.Proofs.YtjkfknafpgfchaaGreat
