/-
  A machine for closed runs: all is forced as it goes, so that the kernel runs it.
-/
import Derived.Test.YtmnfjejphmmddaaGreatTy
set_option linter.unusedVariables false
namespace Go.Proofs.YtmnfjejphmmddaaGreat

/-- Memory, the last block first. -/
structure KH where
  n : Nat
  bs : List Blk
  low : Nat

abbrev KE := EA
section
variable {β : Type}

@[inline] def nf (n : Nat) (k : Nat → β) : β := match n with
  | 0 => k 0
  | m + 1 => k (Nat.succ m)
def iF (i : Int) (k : Int → β) : β := match i with
  | .ofNat n => nf n fun n => k (.ofNat n)
  | .negSucc n => nf n fun n => k (.negSucc n)
def bF (b : Bool) (k : Bool → β) : β := match b with
  | true => k true
  | false => k false
noncomputable def lF {α : Type} (f : α → (α → β) → β) (l : List α) : (List α → β) → β :=
  List.rec (motive := fun _ => (List α → β) → β) (fun k => k []) (fun x _ ih k => f x fun x => ih fun l => k (x :: l)) l
def u8F (b : UInt8) (k : UInt8 → β) : β := nf b.toNat fun n => k (UInt8.ofNat n)
noncomputable def sF (s : ByteArray) (k : ByteArray → β) : β := lF u8F s.data.toList fun l => k ⟨⟨l⟩⟩
noncomputable def DF (d : D) (k : D → β) : β := match d with
  | .bool b => bF b fun b => k (.bool b)
  | .int t n => iF n fun n => k (.int t n)
  | .str s => sF s fun s => k (.str s)
  | .nilp => k .nilp
  | .nilf => k .nilf
  | .nili => k .nili
  | .nilc => k .nilc
  | .slice nl es => bF nl fun nl => match es with
    | [] => k (.slice nl [])
    | e :: es => k (.slice nl (e :: es))
def oF (o : Option Nat) (k : Option Nat → β) : β := match o with
  | none => k none
  | some n => nf n fun n => k (some n)
/-- The head alone. -/
def vH (v : V) (k : V → β) : β := match v with
  | .d x => k (.d x)
  | .ptr b o => k (.ptr b o)
  | .eptr cs o => k (.eptr cs o)
  | .row b o l c z => k (.row b o l c z)
  | .fn f cs => k (.fn f cs)
  | .agg cs => k (.agg cs)
  | .tup vs => k (.tup vs)
  | .undef => k .undef
noncomputable def vsH (l : List V) (k : List V → β) : β := lF vH l k
/-- A cell. -/
noncomputable def vF (v : V) (k : V → β) : β := match v with
  | .d x => DF x fun x => k (.d x)
  | .ptr b o => nf b fun b => nf o fun o => k (.ptr b o)
  | .eptr cs o => nf o fun o => k (.eptr cs o)
  | .row b o l c z => nf b fun b => nf o fun o => nf l fun l => oF c fun c => nf z fun z => k (.row b o l c z)
  | .fn f cs => nf f fun f => vsH cs fun cs => k (.fn f cs)
  | .agg cs => vsH cs fun cs => k (.agg cs)
  | .tup vs => vsH vs fun vs => k (.tup vs)
  | .undef => k .undef
noncomputable def vsF (l : List V) (k : List V → β) : β := lF vF l k

noncomputable def KE.get (l : KE) (i : Nat) : V :=
  List.rec (motive := fun _ => V) .undef (fun p _ ih => Bool.rec ih p.2 (Nat.beq p.1 i)) l
noncomputable def X.kev (e : KE) (x : X) (k : V → β) : β := match x with
  | .t i => vH (KE.get e i) k
  | .c v => k v
noncomputable def kevs (e : KE) (l : List X) : (List V → Option β) → Option β :=
  List.rec (motive := fun _ => (List V → Option β) → Option β) (fun k => k []) (fun x _ ih k => x.kev e fun v => match v with
    | .undef => none
    | v => ih fun l => k (v :: l)) l
noncomputable def keepK (e : KE) (l : List Nat) : (KE → β) → β :=
  List.rec (motive := fun _ => (KE → β) → β) (fun k => k []) (fun i _ ih k => vH (KE.get e i) fun v => ih fun e' => k ((i, v) :: e')) l

def nthK {α : Type} : List α → Nat → Option α
  | [], _ => none
  | x :: l, n => match n with
    | 0 => some x
    | n + 1 => nthK l n
def KH.get (h : KH) (b : Nat) : Option (List V) := match Nat.blt b h.n with
  | true => match nthK h.bs (h.n - 1 - b) with
    | some (.cells cs) => some cs
    | _ => none
  | false => none
noncomputable def KH.alloc (h : KH) (cs : List V) (k : KH → β) : β := vsF cs fun cs => nf (h.n + 1) fun n => k ⟨n, .cells cs :: h.bs, h.low⟩
def setNth {α : Type} (x : α) : List α → Nat → (List α → β) → β
  | [], _, k => k []
  | y :: l, n, k => match n with
    | 0 => k (x :: l)
    | n + 1 => setNth x l n fun l => k (y :: l)
def minK (a b : Nat) (k : Nat → β) : β := match Nat.ble a b with
  | true => nf a k
  | false => nf b k
def KH.put (h : KH) (b : Nat) (x : Blk) (k : KH → β) : β := nf (h.n - 1 - b) fun i => setNth x h.bs i fun bs => minK h.low b fun low => k ⟨h.n, bs, low⟩
noncomputable def KH.set (h : KH) (b : Nat) (cs : List V) (k : KH → β) : β := vsF cs fun cs => h.put b (.cells cs) k

def modK : IntKind → Nat
  | .i8 | .u8 => 256
  | .i16 | .u16 => 65536
  | .i32 | .u32 => 4294967296
  | .i64 | .u64 => 18446744073709551616
def halfK : IntKind → Nat
  | .i8 => 128
  | .i16 => 32768
  | .i32 => 2147483648
  | .i64 => 9223372036854775808
  | _ => 18446744073709551616
def wrapM (k : IntKind) (r : Nat) : Int := match Nat.ble (halfK k) r with
  | true => Int.negSucc (modK k - 1 - r)
  | false => .ofNat r
def wrapK (k : IntKind) (n : Int) : Int := match n with
  | .ofNat m => wrapM k (m % modK k)
  | .negSucc m => wrapM k (modK k - 1 - m % modK k)
def ltK (a b : Int) : Bool := match a, b with
  | .ofNat m, .ofNat n => Nat.blt m n
  | .ofNat _, .negSucc _ => false
  | .negSucc _, .ofNat _ => true
  | .negSucc m, .negSucc n => Nat.blt n m
def eqI (a b : Int) : Bool := match a, b with
  | .ofNat m, .ofNat n => Nat.beq m n
  | .negSucc m, .negSucc n => Nat.beq m n
  | _, _ => false
def binIK (op : BinOp) (k : IntKind) (a b : Int) : Option D := match op with
  | .add => some (.int k (wrapK k (a + b)))
  | .sub => some (.int k (wrapK k (a - b)))
  | .eql => some (.bool (eqI a b))
  | .neq => some (.bool !(eqI a b))
  | .lss => some (.bool (ltK a b))
  | .leq => some (.bool !(ltK b a))
  | .gtr => some (.bool (ltK b a))
  | .geq => some (.bool !(ltK a b))
  | op => binInt op k a b
def kindEq (a b : IntKind) : Bool := match a, b with
  | .i8, .i8 | .i16, .i16 | .i32, .i32 | .i64, .i64 | .u8, .u8 | .u16, .u16 | .u32, .u32 | .u64, .u64 => true
  | _, _ => false
def eqBs : List UInt8 → List UInt8 → Bool
  | [], [] => true
  | a :: l, b :: m => match Nat.beq a.toNat b.toNat with
    | true => eqBs l m
    | false => false
  | _, _ => false
def binSK (op : BinOp) (a b : ByteArray) : Option D := match op with
  | .add => match Nat.ble (a.data.toList.length + b.data.toList.length) 1099511627776 with
    | true => some (.str ⟨⟨a.data.toList ++ b.data.toList⟩⟩)
    | false => none
  | .eql => some (.bool (eqBs a.data.toList b.data.toList))
  | .neq => some (.bool !(eqBs a.data.toList b.data.toList))
  | _ => none
def isShift : BinOp → Bool
  | .shl | .shr => true
  | _ => false
def binDK (op : BinOp) (x y : V) : Option D := match x with
  | .d (.int k a) => match y with
    | .d (.int k' b) => match isShift op with
      | true => binD op (.d (.int k a)) (.d (.int k' b))
      | false => match kindEq k k' with
        | true => binIK op k a b
        | false => none
    | _ => none
  | .d (.str a) => match y with
    | .d (.str b) => binSK op a b
    | _ => none
  | _ => none
def scEqK : EK → D → D → Option Bool
  | .b, .bool a, .bool b => some (match a, b with | true, true => true | false, false => true | _, _ => false)
  | .i k, .int k' a, .int k'' b => match kindEq k' k, kindEq k'' k with
    | true, true => some (eqI a b)
    | _, _ => none
  | .s, .str a, .str b => some (eqBs a.data.toList b.data.toList)
  | _, _, _ => none
def cellsEqK : List EK → List V → List V → Option Bool
  | [], [], [] => some true
  | k :: ks, .d a :: xs, .d b :: ys => match scEqK k a b with
    | some r => match cellsEqK ks xs ys with
      | some t => some (match r with | true => t | false => false)
      | none => none
    | none => none
  | _, _, _ => none
def valEqK : EQ → V → V → Option Bool
  | .sc k, .d a, .d b => scEqK k a b
  | .agg ks, .agg xs, .agg ys => cellsEqK ks xs ys
  | q, a, b => valEq q a b

def takeK {α : Type} : Nat → List α → Option (List α)
  | 0, _ => some []
  | n + 1, x :: l => match takeK n l with
    | some l => some (x :: l)
    | none => none
  | _ + 1, [] => none
def dropK {α : Type} : Nat → List α → Option (List α)
  | 0, l => some l
  | n + 1, _ :: l => dropK n l
  | _ + 1, [] => none
def subK {α : Type} (cs : List α) (o n : Nat) : Option (List α) := match dropK o cs with
  | some l => takeK n l
  | none => none
def overK {α : Type} : List α → List α → Option (List α)
  | l, [] => some l
  | _ :: l, x :: xs => match overK l xs with
    | some l => some (x :: l)
    | none => none
  | [], _ :: _ => none
def putK {α : Type} : List α → Nat → List α → Option (List α)
  | l, 0, xs => overK l xs
  | y :: l, o + 1, xs => match putK l o xs with
    | some l => some (y :: l)
    | none => none
  | [], _ + 1, _ => none

noncomputable def fillsK (e : KE) : List V → List (Nat × Nat × X) → (List V → Option β) → Option β
  | cs, [], k => k cs
  | cs, (o, n, x) :: ps, k => x.kev e fun v => match v.cells with
    | some xs => match Nat.beq xs.length n with
      | true => match putK cs o xs with
        | some cs' => fillsK e cs' ps k
        | none => none
      | false => none
    | none => none

def loadK (h : KH) (v : V) (n : Nat) : Option (List V) := match v with
  | .ptr b o => match h.get b with
    | some cs => subK cs o n
    | none => none
  | _ => none
noncomputable def mkK (sc : Bool) (cs : List V) (k : V → Option β) : Option β := match sc with
  | true => match cs with
    | [v] => vH v k
    | _ => none
  | false => vsH cs fun cs => k (.agg cs)
def natOf (v : V) (k : Nat → Option β) : Option β := match v with
  | .d (.int _ (.ofNat n)) => k n
  | _ => none
noncomputable def natOfK (v : V) (k : IntKind → Nat → Option β) : Option β := match v with
  | .d (.int t (.ofNat n)) => k t n
  | _ => none
noncomputable def boundK (e : KE) (x : Option X) (dft : Nat) (k : Nat → Option β) : Option β := match x with
  | none => k dft
  | some x => x.kev e fun v => natOf v k
def rowK (h : KH) (v : V) (z : Nat) (k : Nat → List V → Option β) : Option β := match v with
  | .d (.slice _ []) => k 0 []
  | .row b o len _ z' => match Nat.beq z' z with
    | true => match h.get b with
      | some cs => match subK cs o (len * z) with
        | some l => k len l
        | none => none
      | none => none
    | false => none
  | .d (.str s) => match Nat.beq z 1 with
    | true => let l := s.data.toList; k l.length (l.map fun b => .d (.int .u8 (.ofNat b.toNat)))
    | false => none
  | _ => none
def bytesOf : List V → Option (List UInt8)
  | [] => some []
  | .d (.int .u8 (.ofNat n)) :: l => match bytesOf l with
    | some r => some (UInt8.ofNat n :: r)
    | none => none
  | _ => none

noncomputable def appK (h : KH) (z bytes : Nat) (s : V) (m : Nat) (xs : List V) (k : V → KH → Option β) : Option β := match s with
  | .d (.slice true _) => match m with
    | 0 => k s h
    | m + 1 => match roomy (m + 1) bytes with
      | true => h.alloc xs fun h' => nf (m + 1) fun m => k (.row h.n 0 m none z) h'
      | false => none
  | .row b o len cap z' => match Nat.beq z' z with
    | false => none
    | true => match m with
      | 0 => k s h
      | m + 1 => match h.get b with
        | none => none
        | some cs => match subK cs o (len * z) with
          | none => none
          | some old => nf (len + (m + 1)) fun n => match roomy n bytes with
            | false => none
            | true => match cap with
              | some c => match Nat.ble n c with
                | true => match putK cs (o + len * z) xs with
                  | some cs' => h.set b cs' fun h' => k (.row b o n cap z) h'
                  | none => none
                | false => h.alloc (old ++ xs) fun h' => k (.row h.n 0 n none z) h'
              | none => match o with
                | 0 => match Nat.beq old.length cs.length with
                  | true => match Nat.blt 0 cs.length with
                    | true => h.set b [] fun h1 => h1.alloc (old ++ xs) fun h' => k (.row h.n 0 n none z) h'
                    | false => none
                  | false => none
                | _ + 1 => none
  | .d (.slice false []) => match m with
    | 0 => k s h
    | _ + 1 => none
  | _ => none

noncomputable def sliceK (h : KH) (e : KE) (kd : SK) (z : Nat) (x : V) (lo hi mx : Option X) (k : V → Option β) : Option β := match kd, x with
  | .sl, .d (.slice nl []) => boundK e lo 0 fun l => boundK e hi 0 fun hh => match mx, l, hh with
    | none, 0, 0 => k (.d (.slice nl []))
    | _, _, _ => none
  | .sl, .row b o len cap z' => boundK e lo 0 fun l => boundK e hi len fun hh => match Nat.beq z' z with
    | false => none
    | true => match mx with
      | none => match Nat.ble l hh && Nat.ble hh len with
        | false => none
        | true => match l with
          | 0 => nf hh fun hh => k (.row b o hh cap z)
          | l + 1 => match Nat.blt (l + 1) len with
            | true => nf (o + (l + 1) * z) fun o => nf (hh - (l + 1)) fun n => oF (cap.map (· - (l + 1))) fun c => k (.row b o n c z)
            | false => k (.d (.slice false []))
      | some m => m.kev e fun m => natOf m fun m => match Nat.ble l hh && Nat.ble hh m && Nat.ble m len && (Nat.beq l 0 || Nat.blt l m) && hi.isSome with
        | true => nf (o + l * z) fun o => nf (hh - l) fun n => nf (m - l) fun c => k (.row b o n (some c) z)
        | false => none
  | .st, .d (.str s) => let bs := s.data.toList; boundK e lo 0 fun l => boundK e hi bs.length fun hh => match mx with
    | none => match Nat.ble l hh && Nat.ble hh bs.length with
      | true => sF ⟨⟨(bs.take hh).drop l⟩⟩ fun s => k (.d (.str s))
      | false => none
    | some _ => none
  | .ar n, .ptr b o => boundK e lo 0 fun l => boundK e hi n fun hh => match mx with
    | none => match Nat.ble l hh && Nat.ble hh n && Nat.blt l n && Nat.blt 0 (n * z) && Nat.ble n 1099511627776 with
      | true => match h.get b with
        | some cs => match Nat.ble (o + n * z) cs.length with
          | true => nf (o + l * z) fun o => nf (hh - l) fun m => nf (n - l) fun c => k (.row b o m (some c) z)
          | false => none
        | none => none
      | false => none
    | some _ => none
  | _, _ => none

abbrev CallsK (β : Type) := FuncId → List V → KH → (V → KH → Option β) → Option β

noncomputable def opK (C : CallsK β) (r : R) (e : KE) (h : KH) (k : V → KH → Option β) : Option β := match r with
  | .mov x => x.kev e fun v => (match v with
    | .undef => none
    | v => k v h)
  | .pick c a b => c.kev e fun c => match c with
    | .d (.bool t) => match t with
      | true => a.kev e fun v => (match v with
        | .undef => none
        | v => k v h)
      | false => b.kev e fun v => (match v with
        | .undef => none
        | v => k v h)
    | _ => none
  | .new z => h.alloc z fun h' => k (.ptr h.n 0) h'
  | .box x => x.kev e fun v => match v.cells with
    | some cs => h.alloc cs fun h' => k (.ptr h.n 0) h'
    | none => none
  | .build zero ps => fillsK e zero ps fun cs => vsH cs fun cs => k (.agg cs) h
  | .buildS z n zero ps => fillsK e (List.replicate n zero).flatten ps fun cs => h.alloc cs fun h' => k (.row h.n 0 n (some n) z) h'
  | .load sc n a => a.kev e fun a => match loadK h a n with
    | some cs => mkK sc cs fun v => k v h
    | none => none
  | .store n a x => a.kev e fun a => x.kev e fun x => match x.cells with
    | some xs => match Nat.beq xs.length n && Nat.blt 0 n with
      | true => match a with
        | .ptr b o => match h.get b with
          | some cs => match putK cs o xs with
            | some cs' => h.set b cs' fun h' => k .undef h'
            | none => none
          | none => none
        | _ => none
      | false => none
    | none => none
  | .nilchk x => x.kev e fun v => match v with
    | .ptr b o => k (.ptr b o) h
    | .fn f cs => k (.fn f cs) h
    | _ => none
  | .bin op x y => x.kev e fun x => y.kev e fun y => match binDK op x y with
    | some d => DF d fun d => k (.d d) h
    | none => none
  | .eq q neg x y => x.kev e fun x => y.kev e fun y => match valEqK q x y with
    | some b => match b, neg with
      | true, true => k (.d (.bool false)) h
      | true, false => k (.d (.bool true)) h
      | false, true => k (.d (.bool true)) h
      | false, false => k (.d (.bool false)) h
    | none => none
  | .un op x => x.kev e fun x => match unD op x with
    | some d => DF d fun d => k (.d d) h
    | none => none
  | .convI t x => x.kev e fun x => match x with
    | .d (.int _ n) => iF (wrapK t n) fun n => k (.d (.int t n)) h
    | _ => none
  | .convBS x => x.kev e fun x => match x with
    | .d (.str _) => none
    | v => rowK h v 1 fun _ cs => match bytesOf cs with
      | some l => sF ⟨⟨l⟩⟩ fun s => k (.d (.str s)) h
      | none => none
  | .convSB x => x.kev e fun x => (match x with
    | .d (.str s) => (match Nat.ble s.data.toList.length 1099511627776 with
      | false => none
      | true => h.alloc (s.data.toList.map fun b => .d (.int .u8 (.ofNat b.toNat))) fun h' => nf s.data.toList.length fun n => k (.row h.n 0 n none 1) h')
    | _ => none)
  | .convSS x => x.kev e fun x => match x with
    | .d (.str s) => k (.d (.str s)) h
    | _ => none
  | .fldA x off => x.kev e fun x => match x with
    | .ptr b o => nf (o + off) fun o => k (.ptr b o) h
    | _ => none
  | .fld sc x off n => x.kev e fun x => match x with
    | .agg cs => match subK cs off n with
      | some l => mkK sc l fun v => k v h
      | none => none
    | _ => none
  | .idxA arr z x i => i.kev e fun i => natOf i fun i => x.kev e fun x => match arr with
    | none => match x with
      | .row b o len _ z' => match Nat.blt i len && Nat.beq z' z with
        | true => nf (o + i * z) fun o => k (.ptr b o) h
        | false => none
      | _ => none
    | some n => match x with
      | .ptr b o => match Nat.blt i n with
        | true => nf (o + i * z) fun o => k (.ptr b o) h
        | false => none
      | _ => none
  | .idx sc n z x i => i.kev e fun i => natOf i fun i => x.kev e fun x => match x with
    | .agg cs => match Nat.blt i n with
      | true => match subK cs (i * z) z with
        | some l => mkK sc l fun v => k v h
        | none => none
      | false => none
    | _ => none
  | .idxS x i => i.kev e fun i => natOf i fun i => x.kev e fun x => match x with
    | .d (.str s) => match nthK s.data.toList i with
      | some b => nf b.toNat fun n => k (.d (.int .u8 (.ofNat n))) h
      | none => none
    | _ => none
  | .slc kd z x lo hi mx => x.kev e fun x => sliceK h e kd z x lo hi mx fun v => k v h
  | .mkfn f caps => kevs e caps fun caps => k (.fn f caps) h
  | .mksl z bytes zero len cap => len.kev e fun l => cap.kev e fun c => natOfK l fun kl l => natOfK c fun kc c => match Nat.ble l c && Nat.ble c 1073741824 && Nat.ble bytes 4096 with
    | true => match kindEq kl .i64 && kindEq kc .i64 with
      | true => h.alloc (List.replicate c zero).flatten fun h' => k (.row h.n 0 l (some c) z) h'
      | false => none
    | false => none
  | .ext x i => x.kev e fun x => match x with
    | .tup vs => match nthK vs i with
      | some v => vH v fun v => k v h
      | none => none
    | _ => none
  | .call f args => f.kev e fun f => kevs e args fun args => match f with
    | .fn f caps => C f (args ++ caps) h k
    | _ => none
  | .app z bytes s x => x.kev e fun x => s.kev e fun s => rowK h x z fun m xs => match Nat.beq z 0 with
    | true => none
    | false => nf m fun m => appK h z bytes s m xs k
  | .len st x => x.kev e fun x => match st, x with
    | false, .d (.slice _ es) => nf es.length fun n => k (.d (.int .i64 (.ofNat n))) h
    | false, .row _ _ n _ _ => k (.d (.int .i64 (.ofNat n))) h
    | true, .d (.str s) => nf s.data.toList.length fun n => k (.d (.int .i64 (.ofNat n))) h
    | _, _ => none
  | .copy z a b => b.kev e fun b => a.kev e fun a => rowK h b z fun m xs => match a with
    | .row b o len _ z' => match Nat.beq z' z with
      | true => match h.get b with
        | some cs => nf (Nat.min m len * z) fun q => match q with
          | 0 => k (.d (.int .i64 (.ofNat (Nat.min m len)))) h
          | q + 1 => match putK cs o (xs.take (Nat.min m len * z)) with
            | some cs' => h.set b cs' fun h' => k (.d (.int .i64 (.ofNat (Nat.min m len)))) h'
            | none => none
        | none => none
      | false => none
    | _ => none
  | .clear z zero a => a.kev e fun a => match a with
    | .row b o len _ z' => match Nat.beq z' z with
      | true => match h.get b with
        | some cs => match len * z with
          | 0 => k .undef h
          | _ + 1 => match putK cs o (List.replicate len zero).flatten with
            | some cs' => h.set b cs' fun h' => k .undef h'
            | none => none
        | none => none
      | false => none
    | .d (.slice _ []) => k .undef h
    | _ => none
  | .minmax mx xs => kevs e xs fun xs => match xs with
    | [] => none
    | x :: xs => match minmaxM mx x xs with
      | some v => vF v fun v => k v h
      | none => none
  | .range x => x.kev e fun x => match x with
    | .d (.str s) => nf (h.n + 1) fun n => k (.ptr h.n 0) ⟨n, .iter s 0 :: h.bs, h.low⟩
    | _ => none
  | .next x => x.kev e fun x => match x with
    | .ptr b 0 => match Nat.blt b h.n with
      | true => match nthK h.bs (h.n - 1 - b) with
        | some (.iter s pos) => match Nat.blt pos s.data.toList.length with
          | true => match Utf8.decode s pos with
            | (c, w) => iF c fun c => nf (pos + w) fun p => h.put b (.iter s p) fun h' => k (.tup [.d (.bool true), .d (.int .i64 (.ofNat pos)), .d (.int .i32 c)]) h'
          | false => k (.tup [.d (.bool false)]) h
        | _ => none
      | false => none
    | _ => none

/-- What an operation reads, writes of memory. -/
def needK (e : KE) (r : R) : List Nat := match r with
  | .load _ _ a | .convBS a => (X.ea e a).blk
  | .store _ a _ => (X.ea e a).blk
  | .app _ _ s x => (X.ea e s).blk ++ (X.ea e x).blk
  | .copy _ a b => (X.ea e a).blk ++ (X.ea e b).blk
  | .clear _ _ a => (X.ea e a).blk
  | .next x => (X.ea e x).blk
  | .slc _ _ x _ _ _ => (X.ea e x).blk
  | _ => []
def writeK (e : KE) (r : R) : List Nat := match r with
  | .store _ a _ => (X.ea e a).blk
  | .app _ _ s _ => (X.ea e s).blk
  | .copy _ a _ => (X.ea e a).blk
  | .clear _ _ a => (X.ea e a).blk
  | .next x => (X.ea e x).blk
  | _ => []
noncomputable def opDK (C : CallsK β) (r : R) (e : KE) (h : KH) (k : V → KH → Tr → Option β) : Option β := match r with
  | .call f args => f.kev e fun f => kevs e args fun args => match f with
    | .fn f caps => C f (args ++ caps) ⟨h.n, h.bs, h.n⟩ fun v h' => match Nat.ble h.n h'.low with
      | true => match Nat.beq h'.n h.n with
        | true => k v h ⟨true, false, [], [], h.n, h.n⟩
        | false => k v ⟨h'.n, h'.bs, h.low⟩ ⟨true, false, [], [], h.n, h'.n⟩
      | false => minK h.low h'.low fun low => k v ⟨h'.n, h'.bs, low⟩ ⟨true, true, [], [], h.n, h'.n⟩
    | _ => none
  | r => opK C r e h fun v h' => k v h' ⟨false, false, needK e r, writeK e r, h.n, h'.n⟩

noncomputable def opsK (C : CallsK β) (os : List RO) : KE → KH → (KE → KH → Option β) → Option β :=
  List.rec (motive := fun _ => KE → KH → (KE → KH → Option β) → Option β) (fun e h k => k e h) (fun o _ ih e h k => match o.g with
    | none => opK C o.r e h fun v h' => ih (setA e o.d v) h' k
    | some (j, want) => match KE.get e j with
      | .d (.bool t) => match t, want with
        | true, true | false, false => opK C o.r e h fun v h' => ih (setA e o.d v) h' k
        | _, _ => ih (setA e o.d (.tup [])) h k
      | .tup [] => ih (setA e o.d (.tup [])) h k
      | _ => none) os
noncomputable def runK (C : CallsK β) (os : List RO) : KE → KH → (List Tr → KE → KH → Option β) → Option β :=
  List.rec (motive := fun _ => KE → KH → (List Tr → KE → KH → Option β) → Option β) (fun e h k => k [] e h) (fun o _ ih e h k => match o.g with
    | none => opDK C o.r e h fun v h' t => ih (setA e o.d v) h' fun l => k (t :: l)
    | some (j, want) => match KE.get e j with
      | .d (.bool t) => match t, want with
        | true, true | false, false => opDK C o.r e h fun v h' t => ih (setA e o.d v) h' fun l => k (t :: l)
        | _, _ => ih (setA e o.d (.tup [])) h fun l => k (⟨false, false, [], [], h.n, h.n⟩ :: l)
      | .tup [] => ih (setA e o.d (.tup [])) h fun l => k (⟨false, false, [], [], h.n, h.n⟩ :: l)
      | _ => none) os

noncomputable def codeK (C : CallsK β) (n : Nat) : QC → KE → KH → (Ex → KE → KH → Option β) → Option β :=
  Nat.rec (motive := fun _ => QC → KE → KH → (Ex → KE → KH → Option β) → Option β) (fun _ _ _ _ => none) (fun n ih c e h k => QC.casesOn (motive := fun _ => Option β) c
    (k .normal e h)
    (fun l => keepK e l fun e => k .ret e h)
    (fun i l => keepK e l fun e => k (.exit i) e h)
    (fun pr os => match pr with
      | none => opsK C os e h fun e h => k .normal e h
      | some pr => runK C os e h fun l e h => match apartT pr l with
        | true => k .normal e h
        | false => none)
    (fun a b => ih a e h fun ex e h => match ex with
      | .normal => ih b e h k
      | .ret => k .ret e h
      | .exit i => k (.exit i) e h)
    (fun c a b => c.kev e fun v => match v with
      | .d (.bool t) => match t with
        | true => ih a e h k
        | false => ih b e h k
      | _ => none)
    (fun i b => ih b e h fun ex e h => match ex with
      | .exit j => match Nat.beq j i with
        | true => k .normal e h
        | false => k (.exit j) e h
      | .normal => k .normal e h
      | .ret => k .ret e h)
    (fun keep b => keepK e keep fun e => ih b e h fun ex e h => match ex with
      | .normal => ih (.loop keep b) e h k
      | .ret => k .ret e h
      | .exit i => k (.exit i) e h)) n

noncomputable def resK (h : KH) (e : KE) : List RV → (List V → Option β) → Option β
  | [], k => k []
  | .tmp t :: l, k => vH (KE.get e t) fun v => match v with
    | .undef => none
    | v => resK h e l fun vs => k (v :: vs)
  | .cell t sc n :: l, k => match loadK h (KE.get e t) n with
    | some cs => mkK sc cs fun v => resK h e l fun vs => k (v :: vs)
    | none => none

noncomputable def semK (F : FuncId → Option QF) (m : Nat) : CallsK β :=
  Nat.rec (motive := fun _ => CallsK β) (fun _ _ _ _ => none) (fun m ih f args h k => match F f with
    | none => none
    | some rf => codeK ih m rf.code (argsA 0 args) ⟨h.n, h.bs, h.n⟩ fun ex e h' => match ex with
      | .exit _ => none
      | _ => resK h' e rf.res fun vs => vH (tupOf vs) fun r => match Nat.ble h.n h'.low && V.under h.n r with
        | true => k r h
        | false => minK h.low h'.low fun low => k r ⟨h'.n, h'.bs, low⟩) m
end
end Go.Proofs.YtmnfjejphmmddaaGreat
