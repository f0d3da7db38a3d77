/- Lemmas for reading code step by step: memory, data, how calls end. -/
import Derived.Test.YthkeklemhcfbcaaGreatQt
set_option linter.unusedVariables false
set_option linter.unusedSimpArgs false
namespace Go.Proofs.YthkeklemhcfbcaaGreat
section
variable (E:Calls') (T:FuncId -> Option QF) (val:FuncId -> Bool)
def lead1 (o:Option (EA × Hp)):OutA:=lead o
noncomputable def thenC (b:QC) (o:OutA):OutA:=onward o fun e h=>Cd E T val b e h
noncomputable def forkC (v:V) (a b:QC) (e:EA) (h:Hp):OutA:=fork v (Cd E T val a e h) (Cd E T val b e h)
def againC (l:List Nat) (W:EA -> Hp -> OutA) (o:OutA):OutA:=onward o fun e h=>W (keepA l e) h
def stepC (C:Calls') (os:List RO) (e:EA) (d:Option Nat) (o:Option (V × Hp)):Option (EA × Hp):=match o with
 | some (v,h')=>opsA C os (setA e d v) h'
 | none=>none
def gateC (C:Calls') (v:V) (w:Bool) (d:Option Nat) (r:R) (os:List RO) (e:EA) (h:Hp):Option (EA × Hp):=match v with
 | .d (.bool t)=>if t = w then stepC C os e d (opE C r (X.ea e) h) else opsA C os (setA e d (.tup [])) h
 | .tup []=>opsA C os (setA e d (.tup [])) h
 | _=>none
variable {E T val}
theorem Cd_round (l:List Nat) (b:QC) (e:EA) (h:Hp):Cd E T val (.loop l b) e h = againC l (Cd E T val (.loop l b)) (Cd E T val b (keepA l e) h):=by
 rw [Cd_loop,againC]
 congr 1
 funext e h
 exact Cd_keep
@[simp] theorem Cd_seq' {a b:QC} {e:EA} {h:Hp}:Cd E T val (.seq a b) e h = thenC E T val b (Cd E T val a e h):=Cd_seq
@[simp] theorem Cd_cond' {c:X} {a b:QC} {e:EA} {h:Hp}:Cd E T val (.cond c a b) e h = forkC E T val (c.ea e) a b e h:=Cd_cond
attribute [simp] Cd_skip Cd_ret Cd_exit Cd_reg Cd_open Cd_block
section
variable {e:EA} {h:Hp} {i j:Nat} {a b:QC} {l:List Nat} {W:EA -> Hp -> OutA}
@[simp] theorem thenC_n:thenC E T val b (some (.normal,e,h)) = Cd E T val b e h:=(rfl)
@[simp] theorem thenC_r:thenC E T val b (some (.ret,e,h)) = some (.ret,e,h):=(rfl)
@[simp] theorem thenC_x:thenC E T val b (some (.exit i,e,h)) = some (.exit i,e,h):=(rfl)
@[simp] theorem againC_n:againC l W (some (.normal,e,h)) = W (keepA l e) h:=(rfl)
@[simp] theorem againC_r:againC l W (some (.ret,e,h)) = some (.ret,e,h):=(rfl)
@[simp] theorem againC_x:againC l W (some (.exit i,e,h)) = some (.exit i,e,h):=(rfl)
@[simp] theorem forkC_t:forkC E T val (.d (.bool true)) a b e h = Cd E T val a e h:=(rfl)
@[simp] theorem forkC_f:forkC E T val (.d (.bool false)) a b e h = Cd E T val b e h:=(rfl)
@[simp] theorem leave_n:leave i (some (.normal,e,h)) = some (.normal,e,h):=(rfl)
@[simp] theorem leave_r:leave i (some (.ret,e,h)) = some (.ret,e,h):=(rfl)
@[simp] theorem leave_x:leave i (some (.exit j,e,h)) = if j = i then some (.normal,e,h) else some (.exit j,e,h):=(rfl)
@[simp] theorem lead_s:lead (some (e,h)) = some (.normal,e,h):=(rfl)
end
section
variable {C:Calls'} {os:List RO} {e:EA} {d:Option Nat} {r:R} {v:V} {h h':Hp}
@[simp] theorem stepC_s:stepC C os e d (some (v,h')) = opsA C os (setA e d v) h':=(rfl)
@[simp] theorem gate_tt:gateC C (.d (.bool true)) true d r os e h = stepC C os e d (opE C r (X.ea e) h):=(rfl)
@[simp] theorem gate_tf:gateC C (.d (.bool true)) false d r os e h = opsA C os (setA e d (.tup [])) h:=(rfl)
@[simp] theorem gate_ft:gateC C (.d (.bool false)) true d r os e h = opsA C os (setA e d (.tup [])) h:=(rfl)
@[simp] theorem gate_ff:gateC C (.d (.bool false)) false d r os e h = stepC C os e d (opE C r (X.ea e) h):=(rfl)
@[simp] theorem gate_u {w:Bool}:gateC C (.tup []) w d r os e h = opsA C os (setA e d (.tup [])) h:=(rfl)
end
end
def fin (res:List RV) (o:OutA):Option (V × Hp) :=
 match o with
 | some (.normal,e,h) | some (.ret,e,h)=>match resA h e res with
  | some vs=>some (tupOf vs,h)
  | none=>none
 | _=>none
theorem Bd_mk {E:Calls'} {T:FuncId -> Option QF} {val:FuncId -> Bool} {n:Nat} {res:List RV} {c:QC} {args:List V} {h:Hp}:Bd E T val ⟨n,res,c⟩ args h = fin res (Cd E T val c (argsA 0 args) h):=(rfl)
section
variable {res:List RV} {e:EA} {h:Hp} {i:Nat}
@[simp] theorem fin_n:fin res (some (.normal,e,h)) = match resA h e res with | some vs=>some (tupOf vs,h) | none=>none:=(rfl)
@[simp] theorem fin_r:fin res (some (.ret,e,h)) = match resA h e res with | some vs=>some (tupOf vs,h) | none=>none:=(rfl)
end
@[simp] theorem ea_t {a:EA} {i:Nat}:X.ea a (.t i) = a.get i:=(rfl)
@[simp] theorem ea_c {a:EA} {v:V}:X.ea a (.c v) = v:=(rfl)
@[simp] theorem get_nil {i:Nat}:EA.get [] i = .undef:=(rfl)
@[simp] theorem get_cons {j:Nat} {v:V} {l:EA} {i:Nat}:EA.get ((j,v) :: l) i = if j = i then v else EA.get l i:=(rfl)
@[simp] theorem setA_s {e:EA} {i:Nat} {v:V}:setA e (some i) v = (i,v) :: e:=(rfl)
@[simp] theorem setA_n {e:EA} {v:V}:setA e none v = e:=(rfl)
@[simp] theorem keepA_nil {e:EA}:keepA [] e = []:=(rfl)
@[simp] theorem keepA_cons {i:Nat} {l:List Nat} {e:EA}:keepA (i :: l) e = (i,e.get i) :: keepA l e:=(rfl)
@[simp] theorem argsA_nil {i:Nat}:argsA i [] = []:=(rfl)
@[simp] theorem argsA_cons {i:Nat} {v:V} {l:List V}:argsA i (v :: l) = (i,v) :: argsA (i + 1) l:=(rfl)
section
variable {b o l z:Nat} {c:Option Nat} {x:D} {cs:List D} {vs:List V} {f:FuncId}
@[simp] theorem nu_d:nu (.d x) = some (.d x):=(rfl)
@[simp] theorem nu_ptr:nu (.ptr b o) = some (.ptr b o):=(rfl)
@[simp] theorem nu_eptr:nu (.eptr cs o) = some (.eptr cs o):=(rfl)
@[simp] theorem nu_row:nu (.row b o l c z) = some (.row b o l c z):=(rfl)
@[simp] theorem nu_mfn:nu (.mfn f vs) = some (.mfn f vs):=(rfl)
@[simp] theorem nu_fn:nu (.fn f vs) = some (.fn f vs):=(rfl)
@[simp] theorem nu_agg:nu (.agg vs) = some (.agg vs):=(rfl)
@[simp] theorem nu_tup:nu (.tup vs) = some (.tup vs):=(rfl)
@[simp] theorem okV_d:okV (.d x) = true:=(rfl)
@[simp] theorem okV_ptr:okV (.ptr b o) = true:=(rfl)
@[simp] theorem okV_eptr:okV (.eptr cs o) = true:=(rfl)
@[simp] theorem okV_row:okV (.row b o l c z) = true:=(rfl)
@[simp] theorem okV_mfn:okV (.mfn f vs) = true:=(rfl)
@[simp] theorem okV_fn:okV (.fn f vs) = true:=(rfl)
@[simp] theorem okV_agg:okV (.agg vs) = true:=(rfl)
@[simp] theorem okV_tup:okV (.tup vs) = true:=(rfl)
end
def eqS (a b:ByteArray):Bool:=a.toList == b.toList
def ldv (h:Hp) (v:V) (n:Nat) (sc:Bool):Option (V × Hp):=match loadAt h v n with
 | some cs=>(mk sc cs).map (·,h)
 | none=>none
def stv (h:Hp) (a x:V) (n:Nat):Option (V × Hp):=match x.cells with
 | some xs=>if xs.length = n /\ 0 < n then (storeAt h a xs).map (.undef,·) else none
 | none=>none
def idxv (arr:Option Nat) (z:Nat) (x i:V) (h:Hp):Option (V × Hp):=match i,arr,x with
 | .d (.int _ i),none,.d (.slice _ es)=>if 0 <= i then (match es[i.toNat]? with | some c=>if c.length = z then some (.eptr c 0,h) else none | none=>none) else none
 | .d (.int _ i),none,.row b o len _ z'=>if 0 <= i /\ i < len /\ z' = z then some (.ptr b (o + i.toNat * z),h) else none
 | .d (.int _ i),some n,.ptr b o=>if 0 <= i /\ i < n then some (.ptr b (o + i.toNat * z),h) else none
 | .d (.int _ i),some n,.eptr cs o=>if 0 <= i /\ i < n then some (.eptr cs (o + i.toNat * z),h) else none
 | _,_,_=>none
def boxv (h:Hp) (v:V):Option (V × Hp):=match v.cells with
 | some cs=>some (.ptr h.size 0,h.alloc cs)
 | none=>none
def appv (h:Hp) (z b:Nat) (s x:V):Option (V × Hp):=match rowCells h x z with
 | some (m,xs)=>appendAt h z b s m xs
 | none=>none
def lenv (st:Bool) (v:V) (h:Hp):Option (V × Hp):=match v.len st with
 | some n=>some (.d (.int .i64 n),h)
 | none=>none
def eqv (k:EQ) (neg:Bool) (x y:V) (h:Hp):Option (V × Hp):=match valEq k x y with
 | some b=>some (.d (.bool (b != neg)),h)
 | none=>none
def fldv (sc:Bool) (v:V) (off n:Nat) (h:Hp):Option (V × Hp):=match v with
 | .agg cs=>match sub cs off n with
  | some l=>(mk sc l).map (·,h)
  | none=>none
 | _=>none
def fldAv (v:V) (off:Nat) (h:Hp):Option (V × Hp):=match v with
 | .ptr b o=>some (.ptr b (o + off),h)
 | .eptr cs o=>some (.eptr cs (o + off),h)
 | _=>none
def pickv (c a b:V) (h:Hp):Option (V × Hp):=match c with
 | .d (.bool t)=>(nu (if t then a else b)).map (·,h)
 | _=>none
def extv (v:V) (i:Nat) (h:Hp):Option (V × Hp):=match v with
 | .tup vs=>vs[i]?.map (·,h)
 | _=>none
section
variable {C:Calls'} {ev:X -> V} {h:Hp}
@[simp] theorem opE_mov {x:X}:opE C (.mov x) ev h = (nu (ev x)).map (·,h):=(rfl)
@[simp] theorem opE_pick {c a b:X}:opE C (.pick c a b) ev h = pickv (ev c) (ev a) (ev b) h:=(rfl)
@[simp] theorem opE_new {z:List V}:opE C (.new z) ev h = some (.ptr h.size 0,h.alloc z):=(rfl)
@[simp] theorem opE_box {x:X}:opE C (.box x) ev h = boxv h (ev x):=(rfl)
@[simp] theorem opE_build {z:List V} {ps:List (Nat × Nat × X)}:opE C (.build z ps) ev h = match fillsE ev z ps with
 | some cs=>some (.agg cs,h)
 | none=>none:=(rfl)
@[simp] theorem opE_buildS {z n:Nat} {ze:List V} {ps:List (Nat × Nat × X)}:opE C (.buildS z n ze ps) ev h = match fillsE ev (List.replicate n ze).flatten ps with
 | some cs=>some (.row h.size 0 n (some n) z,h.alloc cs)
 | none=>none:=(rfl)
@[simp] theorem opE_load {sc:Bool} {n:Nat} {a:X}:opE C (.load sc n a) ev h = ldv h (ev a) n sc:=(rfl)
@[simp] theorem opE_store {n:Nat} {a x:X}:opE C (.store n a x) ev h = stv h (ev a) (ev x) n:=(rfl)
@[simp] theorem opE_bin {op:BinOp} {x y:X}:opE C (.bin op x y) ev h = one (binD op (ev x) (ev y)) h:=(rfl)
@[simp] theorem opE_eq {k:EQ} {neg:Bool} {x y:X}:opE C (.eq k neg x y) ev h = eqv k neg (ev x) (ev y) h:=(rfl)
@[simp] theorem opE_un {op:UnOp} {x:X}:opE C (.un op x) ev h = one (unD op (ev x)) h:=(rfl)
@[simp] theorem opE_fldA {x:X} {o:Nat}:opE C (.fldA x o) ev h = fldAv (ev x) o h:=(rfl)
@[simp] theorem opE_fld {sc:Bool} {x:X} {o n:Nat}:opE C (.fld sc x o n) ev h = fldv sc (ev x) o n h:=(rfl)
@[simp] theorem opE_idxA {a:Option Nat} {z:Nat} {x i:X}:opE C (.idxA a z x i) ev h = idxv a z (ev x) (ev i) h:=(rfl)
@[simp] theorem opE_slc {k:SK} {z:Nat} {x:X} {lo hi mx:Option X}:opE C (.slc k z x lo hi mx) ev h = (sliceE h ev k z (ev x) lo hi mx).map (·,h):=(rfl)
@[simp] theorem opE_mkmv {f:FuncId} {caps:List X}:opE C (.mkmv f caps) ev h = if caps.all (fun x=>okV (ev x)) = true then some (.mfn f (caps.map ev),h) else none:=(rfl)
@[simp] theorem opE_mkfn {f:FuncId} {caps:List X}:opE C (.mkfn f caps) ev h = if caps.all (fun x=>okV (ev x)) = true then some (.fn f (caps.map ev),h) else none:=(rfl)
@[simp] theorem opE_ext {x:X} {i:Nat}:opE C (.ext x i) ev h = extv (ev x) i h:=(rfl)
@[simp] theorem opE_call {f:X} {args:List X}:opE C (.call f args) ev h = if args.all (fun x=>okV (ev x)) = true then callM C (ev f) (args.map ev) h else none:=(rfl)
@[simp] theorem opE_app {z b:Nat} {s x:X}:opE C (.app z b s x) ev h = appv h z b (ev s) (ev x):=(rfl)
@[simp] theorem opE_len {st:Bool} {x:X}:opE C (.len st x) ev h = lenv st (ev x) h:=(rfl)
@[simp] theorem opsA_nil {e:EA}:opsA C [] e h = some (e,h):=(rfl)
@[simp] theorem opsA_cons {d:Option Nat} {r:R} {os:List RO} {e:EA}:opsA C (⟨none,d,r⟩ :: os) e h = stepC C os e d (opE C r (X.ea e) h):=(rfl)
@[simp] theorem opsA_if {j:Nat} {w:Bool} {d:Option Nat} {r:R} {os:List RO} {e:EA}:opsA C (⟨some (j,w),d,r⟩ :: os) e h = gateC C (e.get j) w d r os e h:=(rfl)
@[simp] theorem callM_mfn {f:FuncId} {first args:List V}:callM C (.mfn f first) args h = C f (first ++ args) h:=(rfl)
@[simp] theorem callM_fn {f:FuncId} {caps args:List V}:callM C (.fn f caps) args h = C f (args ++ caps) h:=(rfl)
@[simp] theorem boxv_d {x:D}:boxv h (.d x) = some (.ptr h.bs.length 0,h.alloc [.d x]):=(rfl)
@[simp] theorem boxv_ptr {b o:Nat}:boxv h (.ptr b o) = some (.ptr h.bs.length 0,h.alloc [.ptr b o]):=(rfl)
@[simp] theorem boxv_row {b o l z:Nat} {c:Option Nat}:boxv h (.row b o l c z) = some (.ptr h.bs.length 0,h.alloc [.row b o l c z]):=(rfl)
@[simp] theorem boxv_mfn {f:FuncId} {c:List V}:boxv h (.mfn f c) = some (.ptr h.bs.length 0,h.alloc [.mfn f c]):=(rfl)
@[simp] theorem boxv_fn {f:FuncId} {c:List V}:boxv h (.fn f c) = some (.ptr h.bs.length 0,h.alloc [.fn f c]):=(rfl)
@[simp] theorem boxv_agg {cs:List V}:boxv h (.agg cs) = some (.ptr h.bs.length 0,h.alloc cs):=(rfl)
@[simp] theorem fldAv_ptr {b o n:Nat}:fldAv (.ptr b o) n h = some (.ptr b (o + n),h):=(rfl)
@[simp] theorem fldAv_eptr {cs:List D} {o n:Nat}:fldAv (.eptr cs o) n h = some (.eptr cs (o + n),h):=(rfl)
@[simp] theorem ldv_ptr {b o n:Nat} {sc:Bool}:ldv h (.ptr b o) n sc = match (match h.get b with | some cs=>sub cs o n | none=>none) with
 | some cs=>(mk sc cs).map (·,h)
 | none=>none:=(rfl)
@[simp] theorem ldv_eptr {cs:List D} {o n:Nat} {sc:Bool}:ldv h (.eptr cs o) n sc = match (sub cs o n).map (·.map .d) with
 | some cs=>(mk sc cs).map (·,h)
 | none=>none:=(rfl)
@[simp] theorem mk_one {v:V}:mk true [v] = some v:=(rfl)
@[simp] theorem mk_agg {cs:List V}:mk false cs = some (.agg cs):=(rfl)
@[simp] theorem pickv_b {t:Bool} {a b:V}:pickv (.d (.bool t)) a b h = (nu (if t then a else b)).map (·,h):=(rfl)
@[simp] theorem lenv_d {nl:Bool} {es:List (List D)}:lenv false (.d (.slice nl es)) h = some (.d (.int .i64 es.length),h):=(rfl)
@[simp] theorem lenv_row {b o l z:Nat} {c:Option Nat}:lenv false (.row b o l c z) h = some (.d (.int .i64 l),h):=(rfl)
@[simp] theorem lenv_s {s:ByteArray}:lenv true (.d (.str s)) h = some (.d (.int .i64 s.size),h):=(rfl)
@[simp] theorem extv_t {vs:List V} {i:Nat}:extv (.tup vs) i h = vs[i]?.map (·,h):=(rfl)
@[simp] theorem fldv_a {cs:List V} {sc:Bool} {o n:Nat}:fldv sc (.agg cs) o n h = match sub cs o n with
 | some l=>(mk sc l).map (·,h)
 | none=>none:=(rfl)
@[simp] theorem one_s {d:D}:one (some d) h = some (.d d,h):=(rfl)
@[simp] theorem eqv_b {a b neg:Bool}:eqv (.sc .b) neg (.d (.bool a)) (.d (.bool b)) h = some (.d (.bool ((a == b) != neg)),h):=(rfl)
@[simp] theorem eqv_i {k:IntKind} {a b:Int} {neg:Bool}:eqv (.sc (.i k)) neg (.d (.int k a)) (.d (.int k b)) h = some (.d (.bool ((a == b) != neg)),h):=by simp [eqv,valEq,scEq]
@[simp] theorem eqv_s {a b:ByteArray} {neg:Bool}:eqv (.sc .s) neg (.d (.str a)) (.d (.str b)) h = some (.d (.bool (eqS a b != neg)),h):=(rfl)
@[simp] theorem eqv_nilrow {b o l z:Nat} {c:Option Nat} {neg:Bool}:eqv .sl neg (.row b o l c z) (.d (.slice true [])) h = some (.d (.bool (false != neg)),h):=(rfl)
@[simp] theorem eqv_nil {nl:Bool} {es:List (List D)} {neg:Bool}:eqv .sl neg (.d (.slice nl es)) (.d (.slice true [])) h = some (.d (.bool (nl != neg)),h):=(rfl)
end
section
variable {k:IntKind} {a b:Int}
@[simp] theorem bin_add:binD .add (.d (.int k a)) (.d (.int k b)) = some (.int k (k.wrap (a + b))):=by simp [binD,binInt]
@[simp] theorem bin_sub:binD .sub (.d (.int k a)) (.d (.int k b)) = some (.int k (k.wrap (a - b))):=by simp [binD,binInt]
@[simp] theorem bin_lss:binD .lss (.d (.int k a)) (.d (.int k b)) = some (.bool (decide (a < b))):=by simp [binD,binInt]
@[simp] theorem bin_leq:binD .leq (.d (.int k a)) (.d (.int k b)) = some (.bool (decide (a <= b))):=by simp [binD,binInt]
@[simp] theorem bin_gtr:binD .gtr (.d (.int k a)) (.d (.int k b)) = some (.bool (decide (a > b))):=by simp [binD,binInt]
@[simp] theorem bin_geq:binD .geq (.d (.int k a)) (.d (.int k b)) = some (.bool (decide (a >= b))):=by simp [binD,binInt]
@[simp] theorem un_not {t:Bool}:unD .not (.d (.bool t)) = some (.bool !t):=(rfl)
end
theorem sub_eq {α:Type} {cs:List α} {o n:Nat}:sub cs o n = if o + n <= cs.length then some ((cs.drop o).take n) else none:=(rfl)
@[simp] theorem resA_nil {h:Hp} {e:EA}:resA h e [] = some []:=(rfl)
@[simp] theorem resA_tmp {h:Hp} {e:EA} {t:Nat} {l:List RV}:resA h e (.tmp t :: l) = match nu (e.get t),resA h e l with
 | some v,some vs=>some (v :: vs)
 | _,_=>none:=(rfl)
@[simp] theorem resA_cell {h:Hp} {e:EA} {t n:Nat} {sc:Bool} {l:List RV}:resA h e (.cell t sc n :: l) = match loadAt h (e.get t) n with
 | some cs=>match mk sc cs,resA h e l with
  | some v,some vs=>some (v :: vs)
  | _,_=>none
 | none=>none:=(rfl)
@[simp] theorem loadAt_ptr {h:Hp} {b o n:Nat}:loadAt h (.ptr b o) n = match h.get b with | some cs=>sub cs o n | none=>none:=(rfl)
@[simp] theorem tupOf_one {v:V}:tupOf [v] = v:=(rfl)
@[simp] theorem tupOf_two {v w:V} {l:List V}:tupOf (v :: w :: l) = .tup (v :: w :: l):=(rfl)
theorem wrap64 {n:Int} (h1:-(2 ^ 63) <= n) (h2:n < 2 ^ 63):IntKind.wrap .i64 n = n:=by
 simp [IntKind.wrap,IntKind.bits,IntKind.signed]
 omega
theorem sub_all {α:Type} {l:List α} {n:Nat} (h:l.length = n):sub l 0 n = some l:=by subst h; simp [sub]
theorem mapM_dataV (h:Hp) (k:Nat):∀ (l:List D),(l.map V.d).mapM (dataV h k) = some l
 | []=>rfl
 | x :: l=>by
  have:=mapM_dataV h k l
  cases k <;> simp [List.mapM_cons,dataV,this]
theorem frz_agg (h:Hp) (l:List D):frz h (.agg (l.map .d)) = some (.agg (l.map .d)):=by
 simp only [frz,frz1,cellsV,mapM_dataV]
theorem frz_d (h:Hp) (d:D):frz h (.d d) = some (.d d):=by simp [frz,frz1,dataV]
theorem pure_agg (l:List D):pureV (.agg (l.map .d)) = true:=by
 simp only [pureV,List.all_eq_true]
 intro x hx
 obtain ⟨y,_,rfl⟩:=List.mem_map.1 hx
 rfl
@[simp] theorem dataV_d {h:Hp} {k:Nat} {d:D}:dataV h k (.d d) = some d:=by cases k <;> rfl
def getB (bs:List Blk) (b:Nat):Option (List V):=match bs[b]? with
 | some (.cells cs)=>some cs
 | _=>none
@[simp] theorem get_eq {h:Hp} {b:Nat}:h.get b = getB h.bs b:=(rfl)
@[simp] theorem getB_zero {cs:List V} {bs:List Blk}:getB (.cells cs :: bs) 0 = some cs:=(rfl)
@[simp] theorem getB_succ {x:Blk} {bs:List Blk} {i:Nat}:getB (x :: bs) (i + 1) = getB bs i:=by simp [getB]
@[simp] theorem getB_at {bs ys:List Blk}:getB (bs ++ ys) bs.length = getB ys 0:=by unfold getB; rw [List.getElem?_append_right (Nat.le_refl _),Nat.sub_self]
@[simp] theorem getB_add {bs ys:List Blk} {i:Nat}:getB (bs ++ ys) (bs.length + i) = getB ys i:=by unfold getB; rw [List.getElem?_append_right (Nat.le_add_right _ _),Nat.add_sub_cancel_left]
theorem getB_lt {bs ys:List Blk} {i:Nat} (h:i < bs.length):getB (bs ++ ys) i = getB bs i:=by simp [getB,List.getElem?_append_left h]
theorem getB_of {bs ys:List Blk} {i:Nat} {cs:List V} (h:getB bs i = some cs):getB (bs ++ ys) i = some cs:=by
 rw [getB_lt,h]
 unfold getB at h
 split at h
 · rename_i h1
   exact (List.getElem?_eq_some_iff.1 h1).1
 · cases h
theorem getB_len {bs:List Blk} {i:Nat} {cs:List V} (h:getB bs i = some cs):i < bs.length:=by
 unfold getB at h
 split at h
 · rename_i h1
   exact (List.getElem?_eq_some_iff.1 h1).1
 · cases h
@[simp] theorem alloc_eq {bs:List Blk} {l:Nat} {cs:List V}:Hp.alloc ⟨bs,l⟩ cs = ⟨bs ++ [.cells cs],l⟩:=(rfl)
@[simp] theorem size_eq {h:Hp}:h.size = h.bs.length:=(rfl)
@[simp] theorem set_at {bs ys:List Blk} {l:Nat} {cs:List V}:Hp.set ⟨bs ++ ys,l⟩ bs.length cs = ⟨bs ++ ys.set 0 (.cells cs),min l bs.length⟩:=by simp [Hp.set,List.set_append]
@[simp] theorem set_add {bs ys:List Blk} {l i:Nat} {cs:List V}:Hp.set ⟨bs ++ ys,l⟩ (bs.length + i) cs = ⟨bs ++ ys.set i (.cells cs),min l (bs.length + i)⟩:=by simp [Hp.set,List.set_append]
theorem set_nil {ys:List Blk} {l i:Nat} {cs:List V}:Hp.set ⟨ys,l⟩ i cs = ⟨ys.set i (.cells cs),min l i⟩:=(rfl)
@[simp] theorem byRef_s {h h':Hp} {r:V}:byRef h (some (r,h')) = if h.bs.length <= h'.low /\ r.under h.bs.length = true then some (r,h) else some (r,⟨h'.bs,min h.low h'.low⟩):=(rfl)
def valR (args:List V) (h h':Hp) (r:V) (o:Option V):Option (V × Hp):=match o with
 | some r'=>if args.all pureV = true \/ ownR h' r = true then some (r',h) else none
 | none=>none
def valE (args:List V) (h:Hp) (o:Option (V × Hp)):Option (V × Hp):=match o with
 | some (r,h')=>valR args h h' r (frz h' r)
 | none=>none
noncomputable def valC (E:Calls') (T:FuncId -> Option QF) (val:FuncId -> Bool) (q:QF) (args:List V) (h:Hp) (o:Option (List V)):Option (V × Hp):=match o with
 | some as=>valE args h (Bd E T val q as ⟨[],0⟩)
 | none=>none
@[simp] theorem valR_s {args:List V} {h h':Hp} {r r':V}:valR args h h' r (some r') = if args.all pureV = true \/ ownR h' r = true then some (r',h) else none:=(rfl)
@[simp] theorem valE_s {args:List V} {h h':Hp} {r:V}:valE args h (some (r,h')) = valR args h h' r (frz h' r):=(rfl)
section
variable {E:Calls'} {T:FuncId -> Option QF} {val:FuncId -> Bool}
@[simp] theorem valC_s {q:QF} {args as:List V} {h:Hp}:valC E T val q args h (some as) = valE args h (Bd E T val q as ⟨[],0⟩):=(rfl)
theorem Sm_v {f:FuncId} {q:QF} (hf:T f = some q) (hv:val f = true) {args:List V} {h:Hp}:Sm E T val f args h = valC E T val q args h (args.mapM (frz h)):=by
 rw [Sm_val hf hv]
 unfold byVal valC valE valR
 cases args.mapM (frz h) with
 | none=>rfl
 | some as =>
  dsimp only
  cases Bd E T val q as ⟨[],0⟩ with
  | none=>rfl
  | some x =>
   obtain ⟨r,h'⟩:=x
   dsimp only
   cases frz h' r <;> rfl
end
end Go.Proofs.YthkeklemhcfbcaaGreat
