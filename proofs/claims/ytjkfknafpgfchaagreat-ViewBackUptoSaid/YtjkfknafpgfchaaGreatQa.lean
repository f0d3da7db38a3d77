/- The same reading with the slots that are set kept as a list, last set first; what is kept where a round begins, where a block is left, where a function returns, is said in the code. Definitions alone. -/
import Derived.Test.YtjkfknafpgfchaaGreatPy
set_option linter.unusedVariables false
namespace Go.Proofs.YtjkfknafpgfchaaGreat
inductive QC where
 | skip
 | ret (keep:List Nat)
 | exit (i:Nat) (keep:List Nat)
 | reg (pr:Option (List (List Nat))) (os:List RO)
 | seq (a b:QC)
 | cond (c:X) (a b:QC)
 | block (i:Nat) (b:QC)
 | loop (keep:List Nat) (b:QC)
structure QF where
 ntmps:Nat
 res:List RV
 code:QC
abbrev EA:=List (Nat × V)
def EA.get:EA -> Nat -> V
 | [],_=>.undef
 | (j,v) :: l,i=>if j = i then v else EA.get l i
def X.ea (a:EA):X -> V
 | .t i=>a.get i
 | .c v=>v
def bI (e:EA) (d:Option Nat) (v:V):EA :=
 match d with
 | some i=>(i,v) :: e
 | none=>e
def dN (l:List Nat) (e:EA):EA:=l.map fun i=>(i,e.get i)
def okV:V -> Bool
 | .undef=>false
 | _=>true
def nu:V -> Option V
 | .undef=>none
 | v=>some v
def aA (ev:X -> V):List V -> List (Nat × Nat × X) -> Option (List V)
 | cs,[]=>some cs
 | cs,(o,n,x) :: ps=>match (ev x).cells with
  | some xs=>if xs.length = n then (match put cs o xs with | some cs'=>aA ev cs' ps | none=>none) else none
  | none=>none
def bQ (ev:X -> V) (x:Option X) (dft:Nat):Option Nat :=
 match x with
 | none=>some dft
 | some x=>match ev x with
  | .d (.int _ n)=>if 0 <= n then some n.toNat else none
  | _=>none
def bP (hp:Hp) (ev:X -> V) (k:SK) (z:Nat) (x:V) (lo hi mx:Option X):Option V :=
 match k,x with
 | .sl,.d (.slice nl es)=>match bQ ev lo 0,bQ ev hi es.length,mx with
  | some l,some h,none=>if l <= h /\ h <= es.length /\ (es.headD (List.replicate z .nilp)).length = z then some (.d (.slice nl ((es.take h).drop l))) else none
  | _,_,_=>none
 | .sl,.row b o len cap z'=>match bQ ev lo 0,bQ ev hi len,mx with
  | some l,some h,none =>
   if l <= h /\ h <= len /\ z' = z then
    (if l = 0 then some (.row b o h cap z)
    else if l < len then some (.row b (o + l * z) (h - l) (cap.map (· - l)) z)
    else some (.d (.slice false [])))
   else none
  | some l,some h,some m=>match bQ ev (some m) 0 with
   | some m=>if l <= h /\ h <= m /\ m <= len /\ z' = z /\ (l = 0 \/ l < m) /\ hi.isSome = true then some (.row b (o + l * z) (h - l) (some (m - l)) z) else none
   | none=>none
  | _,_,_=>none
 | .st,.d (.str s)=>match bQ ev lo 0,bQ ev hi s.size,mx with
  | some l,some h,none=>if l <= h /\ h <= s.size then some (.d (.str (s.extract l h))) else none
  | _,_,_=>none
 | .ar n,.ptr b o=>match bQ ev lo 0,bQ ev hi n,mx with
  | some l,some h,none=>if l <= h /\ h <= n /\ l < n /\ 0 < n * z then match hp.get b with
   | some cs=>if o + n * z <= cs.length /\ n <= 2 ^ 40 then some (.row b (o + l * z) (h - l) (some (n - l)) z) else none
   | none=>none
   else none
  | _,_,_=>none
 | _,_=>none
def opE (C:Calls') (r:R) (ev:X -> V) (h:Hp):Option (V × Hp) :=
 match r with
 | .mov x=>(nu (ev x)).map (·,h)
 | .pick c a b=>match ev c with
  | .d (.bool t)=>(nu (if t then ev a else ev b)).map (·,h)
  | _=>none
 | .new z=>some (.ptr h.size 0,h.alloc z)
 | .box x=>match (ev x).cells with
  | some cs=>some (.ptr h.size 0,h.alloc cs)
  | none=>none
 | .build zero ps=>match aA ev zero ps with
  | some cs=>some (.agg cs,h)
  | none=>none
 | .buildS z n zero ps=>match aA ev (List.replicate n zero).flatten ps with
  | some cs=>some (.row h.size 0 n (some n) z,h.alloc cs)
  | none=>none
 | .load sc n a=>match loadAt h (ev a) n with
  | some cs=>(mk sc cs).map (·,h)
  | none=>none
 | .store n a x=>match (ev x).cells with
  | some xs=>if xs.length = n /\ 0 < n then (storeAt h (ev a) xs).map (.undef,·) else none
  | none=>none
 | .nilchk x=>match ev x with
  | .ptr b o=>some (.ptr b o,h)
  | .eptr cs o=>some (.eptr cs o,h)
  | .fn f cs=>some (.fn f cs,h)
  | .mfn f cs=>some (.mfn f cs,h)
  | _=>none
 | .bin op x y=>one (bJ op (ev x) (ev y)) h
 | .eq k neg x y=>match fu k (ev x) (ev y) with
  | some b=>some (.d (.bool (b != neg)),h)
  | none=>none
 | .un op x=>one (unD op (ev x)) h
 | .convI k x=>match ev x with
  | .d (.int _ n)=>some (.d (.int k (k.wrap n)),h)
  | _=>none
 | .convBS x=>match ev x with
  | .d (.str _)=>none
  | v=>match aF h v 1 with
   | some (_,cs)=>match cs.mapM (fun v=>match v with | .d (.int .u8 n)=>some (UInt8.ofNat n.toNat) | _=>none) with
    | some l=>some (.d (.str ⟨l.toArray⟩),h)
    | none=>none
   | none=>none
 | .convSB x=>match ev x with
  | .d (.str s)=>if s.size <= 2 ^ 40 then some (.row h.size 0 s.size none 1,h.alloc (s.toList.map fun b=>.d (.int .u8 b.toNat))) else none
  | _=>none
 | .convSS x=>match ev x with
  | .d (.str s)=>some (.d (.str s),h)
  | _=>none
 | .fldA x off=>match ev x with
  | .ptr b o=>some (.ptr b (o + off),h)
  | .eptr cs o=>some (.eptr cs (o + off),h)
  | _=>none
 | .fld sc x off n=>match ev x with
  | .agg cs=>match sub cs off n with
   | some l=>(mk sc l).map (·,h)
   | none=>none
  | _=>none
 | .idxA arr z x i=>match ev i,arr,ev x with
  | .d (.int _ i),none,.d (.slice _ es)=>if 0 <= i then (match es[i.toNat]? with | some c=>if c.length = z then some (.eptr c 0,h) else none | none=>none) else none
  | .d (.int _ i),none,.row b o len _ z'=>if 0 <= i /\ i < len /\ z' = z then some (.ptr b (o + i.toNat * z),h) else none
  | .d (.int _ i),some n,.ptr b o=>if 0 <= i /\ i < n then some (.ptr b (o + i.toNat * z),h) else none
  | .d (.int _ i),some n,.eptr cs o=>if 0 <= i /\ i < n then some (.eptr cs (o + i.toNat * z),h) else none
  | _,_,_=>none
 | .idx sc n z x i=>match ev i,ev x with
  | .d (.int _ i),.agg cs=>if 0 <= i /\ i < n then (match sub cs (i.toNat * z) z with | some l=>(mk sc l).map (·,h) | none=>none) else none
  | _,_=>none
 | .idxS x i=>match ev i,ev x with
  | .d (.int _ i),.d (.str s)=>if 0 <= i then (match s.toList[i.toNat]? with | some b=>some (.d (.int .u8 b.toNat),h) | none=>none) else none
  | _,_=>none
 | .slc k z x lo hi mx=>(bP h ev k z (ev x) lo hi mx).map (·,h)
 | .mkfn f caps=>if caps.all (fun x=>okV (ev x)) = true then some (.fn f (caps.map ev),h) else none
 | .mkmv f caps=>if caps.all (fun x=>okV (ev x)) = true then some (.mfn f (caps.map ev),h) else none
 | .mksl z bytes zero len cap=>match ev len,ev cap with
  | .d (.int .i64 l),.d (.int .i64 c)=>if 0 <= l /\ l <= c /\ c <= 2 ^ 30 /\ bytes <= 2 ^ 12 then some (.row h.size 0 l.toNat (some c.toNat) z,h.alloc (List.replicate c.toNat zero).flatten) else none
  | _,_=>none
 | .ext x i=>match ev x with
  | .tup vs=>vs[i]?.map (·,h)
  | _=>none
 | .call f args=>if args.all (fun x=>okV (ev x)) = true then ed C (ev f) (args.map ev) h else none
 | .app z bytes s x=>match aF h (ev x) z with
  | some (m,xs)=>aC h z bytes (ev s) m xs
  | none=>none
 | .len st x=>match (ev x).len st with
  | some n=>some (.d (.int .i64 n),h)
  | none=>none
 | .copy z a b=>match aF h (ev b) z,ev a with
  | some (m,xs),.row b o len _ z'=>if z' = z then (match h.get b with
   | some cs=>if min m len * z = 0 then some (.d (.int .i64 (min m len:Nat)),h) else (match put cs o (xs.take (min m len * z)) with | some cs'=>some (.d (.int .i64 (min m len:Nat)),h.set b cs') | none=>none)
   | none=>none) else none
  | _,_=>none
 | .clear z zero a=>match ev a with
  | .row b o len _ z'=>if z' = z then (match h.get b with
   | some cs=>if len * z = 0 then some (.undef,h) else (match put cs o (List.replicate len zero).flatten with | some cs'=>some (.undef,h.set b cs') | none=>none)
   | none=>none) else none
  | .d (.slice _ [])=>some (.undef,h)
  | _=>none
 | .minmax mx xs=>if xs.all (fun x=>okV (ev x)) = true then match xs.map ev with
  | []=>none
  | v :: vs=>match fw mx v vs with
   | some v=>some (v,h)
   | none=>none
  else none
 | .range x=>match ev x with
  | .d (.str s)=>some (.ptr h.size 0,{ h with bs:=h.bs ++ [.iter s 0] })
  | _=>none
 | .next x=>match ev x with
  | .ptr b 0=>match h.bs[b]? with
   | some (.iter s pos) =>
    if pos < s.size then
     let (c,w):=Utf8.decode s pos
     some (.tup [.d (.bool true),.d (.int .i64 pos),.d (.int .i32 c)],⟨h.bs.set b (.iter s (pos + w)),min h.low b⟩)
    else some (.tup [.d (.bool false)],h)
   | _=>none
  | _=>none
def uA (ev:X -> V):R -> List Nat
 | .load _ _ a | .convBS a=>(ev a).blk
 | .store _ a _=>(ev a).blk
 | .app _ _ s x=>(ev s).blk ++ (ev x).blk
 | .copy _ a b=>(ev a).blk ++ (ev b).blk
 | .clear _ _ a=>(ev a).blk
 | .next x=>(ev x).blk
 | .slc _ _ x _ _ _=>(ev x).blk
 | _=>[]
def qi (ev:X -> V):R -> List Nat
 | .store _ a _=>(ev a).blk
 | .app _ _ s _=>(ev s).blk
 | .copy _ a _=>(ev a).blk
 | .clear _ _ a=>(ev a).blk
 | .next x=>(ev x).blk
 | _=>[]
def bN (C:Calls') (r:R) (ev:X -> V) (h:Hp):Option (V × Hp × Tr) :=
 match r with
 | .call f args=>if args.all (fun x=>okV (ev x)) = true then match ed C (ev f) (args.map ev) ⟨h.bs,h.bs.length⟩ with
  | some (v,h')=>if h.bs.length <= h'.low then
   (if h'.bs.length = h.bs.length then some (v,h,⟨true,false,[],[],h.bs.length,h.bs.length,0⟩)
   else some (v,⟨h'.bs,h.low⟩,⟨true,false,[],[],h.bs.length,h'.bs.length,0⟩))
   else some (v,⟨h'.bs,min h.low h'.low⟩,⟨true,true,[],[],h.bs.length,h'.bs.length,⟨h'.low,lg h.bs h'.bs⟩⟩)
  | none=>none
  else none
 | r=>match opE C r ev h with
  | some (v,h')=>some (v,h',⟨false,false,uA ev r,qi ev r,h.bs.length,h'.bs.length,0⟩)
  | none=>none
def eX (C:Calls'):List RO -> EA -> Hp -> Option (EA × Hp)
 | [],e,h=>some (e,h)
 | o :: os,e,h =>
  match o.g with
  | none=>match opE C o.r (X.ea e) h with
   | some (v,h')=>eX C os (bI e o.d v) h'
   | none=>none
  | some (j,want)=>match e.get j with
   | .d (.bool t) =>
    if t = want then (match opE C o.r (X.ea e) h with
     | some (v,h')=>eX C os (bI e o.d v) h'
     | none=>none)
    else eX C os (bI e o.d (.tup [])) h
   | .tup []=>eX C os (bI e o.d (.tup [])) h
   | _=>none
def d9 (C:Calls'):List RO -> EA -> Hp -> Option (List Tr × EA × Hp)
 | [],e,h=>some ([],e,h)
 | o :: os,e,h =>
  match o.g with
  | none=>match bN C o.r (X.ea e) h with
   | some (v,h',t)=>match d9 C os (bI e o.d v) h' with
    | some (l,e',h'')=>some (t :: l,e',h'')
    | none=>none
   | none=>none
  | some (j,want)=>match e.get j with
   | .d (.bool t) =>
    if t = want then (match bN C o.r (X.ea e) h with
     | some (v,h',t)=>match d9 C os (bI e o.d v) h' with
      | some (l,e',h'')=>some (t :: l,e',h'')
      | none=>none
     | none=>none)
    else (match d9 C os (bI e o.d (.tup [])) h with
     | some (l,e',h'')=>some (aV h :: l,e',h'')
     | none=>none)
   | .tup []=>match d9 C os (bI e o.d (.tup [])) h with
    | some (l,e',h'')=>some (aV h :: l,e',h'')
    | none=>none
   | _=>none
def fA (pr:List (List Nat)) (l:List Tr):Bool :=
 (List.range l.length).all fun i=>(List.range l.length).all fun j =>
  i == j || (pr.getD i []).contains j || (pr.getD j []).contains i ||
  match l[i]?,l[j]? with
  | some s,some t=>s.spares t
  | _,_=>false
def aN (C:Calls') (pr:List (List Nat)) (os:List RO) (e:EA) (h:Hp):Option (EA × Hp) :=
 match d9 C os e h with
 | some (l,e',h')=>if fA pr l = true then some (e',h') else none
 | none=>none
abbrev jF:=Option (Ex × EA × Hp)
def bY (o:jF) (k:EA -> Hp -> jF):jF :=
 match o with
 | some (.normal,e,h)=>k e h
 | r=>r
def leave (i:Nat) (o:jF):jF :=
 match o with
 | some (.exit j,e,h)=>if j = i then some (.normal,e,h) else some (.exit j,e,h)
 | r=>r
def lead (o:Option (EA × Hp)):jF :=
 match o with
 | some (e,h)=>some (.normal,e,h)
 | none=>none
def fork (v:V) (a b:jF):jF :=
 match v with
 | .d (.bool true)=>a
 | .d (.bool false)=>b
 | _=>none
def aO (C:Calls'):Nat -> QC -> EA -> Hp -> jF
 | 0,_,_,_=>none
 | n + 1,c,e,h=>match c with
  | .skip=>some (.normal,e,h)
  | .ret keep=>some (.ret,dN keep e,h)
  | .exit i keep=>some (.exit i,dN keep e,h)
  | .reg none os=>lead (eX C os e h)
  | .reg (some pr) os=>lead (aN C pr os e h)
  | .seq a b=>bY (aO C n a e h) fun e h=>aO C n b e h
  | .cond c a b=>fork (c.ea e) (aO C n a e h) (aO C n b e h)
  | .block i b=>leave i (aO C n b e h)
  | .loop keep b=>bY (aO C n b (dN keep e) h) fun e h=>aO C n (.loop keep b) e h
def kI (h:Hp) (e:EA):List RV -> Option (List V)
 | []=>some []
 | .tmp t :: l=>match nu (e.get t),kI h e l with
  | some v,some vs=>some (v :: vs)
  | _,_=>none
 | .cell t sc n :: l=>match loadAt h (e.get t) n with
  | some cs=>match mk sc cs,kI h e l with
   | some v,some vs=>some (v :: vs)
   | _,_=>none
  | none=>none
def iA:Nat -> List V -> EA
 | _,[]=>[]
 | i,v :: l=>(i,v) :: iA (i + 1) l
def done (q:QF) (o:jF):Option (V × Hp) :=
 match o with
 | some (.normal,e,h) | some (.ret,e,h)=>match kI h e q.res with
  | some vs=>some (bE vs,h)
  | none=>none
 | _=>none
def iB (C:Calls') (n:Nat) (q:QF) (args:List V) (h:Hp):Option (V × Hp):=done q (aO C n q.code (iA 0 args) h)
def mH (args:List V) (h:Hp) (as:Option (List V)) (body:List V -> Option (V × Hp)):Option (V × Hp) :=
 match as with
 | none=>none
 | some as=>match body as with
  | none=>none
  | some (r,h')=>match frz h' r with
   | none=>none
   | some r'=>if args.all cO = true \/ lv h' r = true then some (r',h) else none
def iR (h:Hp) (o:Option (V × Hp)):Option (V × Hp) :=
 match o with
 | none=>none
 | some (r,h')=>if h.bs.length <= h'.low /\ r.under h.bs.length = true then some (r,h) else some (r,⟨h'.bs,min h.low h'.low⟩)
def dn (E:Calls') (T:FuncId -> Option QF) (val:FuncId -> Bool):Nat -> Calls'
 | 0=>fun _ _ _=>none
 | k + 1=>fun f args h=>match T f with
  | none=>E f args h
  | some q=>if val f = true then mH args h (args.mapM (frz h)) fun as=>iB (dn E T val k) k q as ⟨[],0⟩
   else iR h (iB (dn E T val k) k q args ⟨h.bs,h.bs.length⟩)
def R.isCall:R -> Bool
 | .call _ _=>true
 | _=>false
def R.reads:R -> Bool
 | .load _ _ _ | .convBS _ | .store _ _ _ | .app _ _ _ _ | .copy _ _ _ | .clear _ _ _ | .next _=>true
 | .slc _ _ _ _ _ _=>true
 | _=>false
def R.lays:R -> Bool
 | .new _ | .box _ | .buildS _ _ _ _ | .convSB _ | .mksl _ _ _ _ _ | .range _=>true
 | _=>false
def R.writes:R -> Bool
 | .store _ _ _ | .app _ _ _ _ | .copy _ _ _ | .clear _ _ _ | .next _=>true
 | _=>false
def R.free (r:R):Bool:=!r.reads && !r.lays && !r.writes
def R.still (r:R):Bool:=!r.lays && !r.writes
def zY (a b:R):Bool:=a.free || b.free || (a.still && b.still) || (a.lays && b.lays)
def BH (pr:List (List Nat)) (os:List RO):Bool :=
 os.all (fun o=>!o.r.isCall) && (List.range os.length).all fun i=>(List.range os.length).all fun j=>i == j || (pr.getD i []).contains j || (pr.getD j []).contains i ||
  match os[i]?,os[j]? with
  | some a,some b=>zY a.r b.r
  | _,_=>false
def RC.quiet:RC -> RC
 | .reg (some pr) os=>if BH pr os = true then .reg none os else .reg (some pr) os
 | .seq a b=>.seq a.quiet b.quiet
 | .cond c a b=>.cond c a.quiet b.quiet
 | .block i b=>.block i b.quiet
 | .loop d b=>.loop d b.quiet
 | c=>c
def QC.toRC:QC -> RC
 | .skip=>.skip
 | .ret _=>.ret
 | .exit i _=>.exit i
 | .reg pr os=>.reg pr os
 | .seq a b=>.seq a.toRC b.toRC
 | .cond c a b=>.cond c a.toRC b.toRC
 | .block i b=>.block i b.toRC
 | .loop _ b=>.loop [] b.toRC
def QF.toRF (q:QF):RF:=⟨q.ntmps,q.res,q.code.toRC⟩
def RF.quiet (rf:RF):RF:=⟨rf.ntmps,rf.res,rf.code.quiet⟩
def X.fits (n:Nat):X -> Bool
 | .t i=>i < n
 | .c _=>true
def RO.fits (n:Nat) (o:RO):Bool:=(match o.d with | some d=>decide (d < n) | none=>true) && (match o.g with | some (j,_)=>decide (j < n) | none=>true) && o.r.xs.all (X.fits n)
def QC.fits (n:Nat):QC -> Bool
 | .reg _ os=>os.all (RO.fits n)
 | .seq a b=>a.fits n && b.fits n
 | .cond c a b=>c.fits n && a.fits n && b.fits n
 | .block _ b=>b.fits n
 | .loop _ b=>b.fits n
 | _=>true
def RV.slot:RV -> Nat
 | .tmp t=>t
 | .cell t _ _=>t
def QF.fits (q:QF):Bool:=q.code.fits q.ntmps && q.res.all fun v=>decide (v.slot < q.ntmps)
def uni (a b:List Nat):List Nat:=b.foldl (fun l x=>if l.contains x then l else x :: l) a
def bl4:X -> List Nat
 | .t i=>[i]
 | .c _=>[]
def Yq (o:RO) (after:List Nat):List Nat :=
 uni (match o.d with | some d=>after.filter (fun x=>!(x == d)) | none=>after) (qG o)
def Gc:List (Nat × List Nat) -> Nat -> List Nat
 | [],_=>[]
 | (j,l) :: ex,i=>if j == i then l else Gc ex i
def live (ret:List Nat):RC -> List (Nat × List Nat) -> List Nat -> List Nat
 | .skip,_,a=>a
 | .ret,_,_=>ret
 | .exit i,ex,_=>Gc ex i
 | .reg _ os,_,a=>os.foldr Yq a
 | .seq x y,ex,a=>live ret x ex (live ret y ex a)
 | .cond c x y,ex,a=>uni (uni (live ret x ex a) (live ret y ex a)) (bl4 c)
 | .block i b,ex,a=>live ret b ((i,a) :: ex) a
 | .loop _ b,ex,_=>live ret b ex (live ret b ex (live ret b ex []))
def Jk (n:Nat) (l:List Nat):List Nat:=(List.range n).filter fun i=>l.contains i
def Bf (n:Nat) (ret:List Nat):RC -> List (Nat × List Nat) -> List Nat -> QC
 | .skip,_,_=>.skip
 | .ret,_,_=>.ret (Jk n ret)
 | .exit i,ex,_=>.exit i (Jk n (Gc ex i))
 | .reg pr os,_,_=>.reg pr os
 | .seq x y,ex,a=>.seq (Bf n ret x ex (live ret y ex a)) (Bf n ret y ex a)
 | .cond c x y,ex,a=>.cond c (Bf n ret x ex a) (Bf n ret y ex a)
 | .block i b,ex,a=>.block i (Bf n ret b ((i,a) :: ex) a)
 | .loop d b,ex,a =>
  let l:=live ret (.loop d b) ex a
  .loop (Jk n l) (Bf n ret b ex l)
def dz3 (P:Program) (f:FuncId):Option QF:=(AC P f).map fun rf=>let rf:=rf.quiet; let ret:=rf.res.map RV.slot; ⟨rf.ntmps,rf.res,Bf rf.ntmps ret rf.code [] ret⟩
end Go.Proofs.YtjkfknafpgfchaaGreat
