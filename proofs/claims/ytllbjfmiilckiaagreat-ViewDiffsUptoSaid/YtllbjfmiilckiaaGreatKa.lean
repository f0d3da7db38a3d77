/- A machine for closed runs: all is forced as1 it goes, so that the kernel runs it. -/
import Derived.Test.YtllbjfmiilckiaaGreatSa
set_option linter.unusedSimpArgs false
set_option linter.unusedVariables false
namespace Go.Proofs.YtllbjfmiilckiaaGreat
section
structure KH where
 n:Nat
 bs:List Blk
 low:Nat
abbrev KE:=EA
section
variable {β:Type}
@[inline] def nf (n:Nat) (k:Nat->β):β:=match n with
 | 0=>k 0
 | m+1=>k (Nat.succ m)
def iF (i:Int)(k:Int->β):β:=match i with
 | .ofNat n=>nf n λn=>k (.ofNat n)
 | .negSucc n=>nf n λn=>k (.negSucc n)
def bF (b:Bool)(k:Bool->β):β:=match b with
 | true=>k true
 | false=>k false
noncomputable def lF {α:Type} (f:α->(α->β)->β) (l:List α):(List α->β)->β :=
 List.rec (motive:=λ_=>(List α->β)->β) (λk=>k []) (λx _ ih k=>f x λx=>ih λl=>k (x::l)) l
def u8F (b:UInt8)(k:UInt8->β):β:=nf b.toNat λn=>k (UInt8.ofNat n)
noncomputable def sF (s:ByteArray) (k:ByteArray->β):β:=lF u8F s.data.toList λl=>k ⟨⟨l⟩⟩
noncomputable def DF (d:D) (k:D->β):β:=match d with
 | .bool b=>bF b λb=>k (.bool b)
 | .int t n=>iF n λn=>k (.int t n)
 | .str s=>sF s λs=>k (.str s)
 | .nilp=>k .nilp
 | .nilf=>k .nilf
 | .nili=>k .nili
 | .nilc=>k .nilc
 | .slice nl es=>bF nl λnl=>match es with
  | []=>k (.slice nl [])
  | e::es=>k (.slice nl (e::es))
def oF (o:Option Nat)(k:Option Nat->β):β:=match o with
 | none=>k none
 | some n=>nf n λn=>k (some n)
def vH (v:V)(k:V->β):β:=match v with
 | .d x=>k (.d x)
 | .ptr b o=>k (.ptr b o)
 | .eptr cs o=>k (.eptr cs o)
 | .row b o l c z=>k (.row b o l c z)
 | .fn f cs=>k (.fn f cs)
 | .mfn f cs=>k (.mfn f cs)
 | .agg cs=>k (.agg cs)
 | .tup vs=>k (.tup vs)
 | .undef=>k .undef
noncomputable def vsH (l:List V) (k:List V->β):β:=lF vH l k
noncomputable def vF (v:V) (k:V->β):β:=match v with
 | .d x=>DF x λx=>k (.d x)
 | .ptr b o=>nf b λb=>nf o λo=>k (.ptr b o)
 | .eptr cs o=>nf o λo=>k (.eptr cs o)
 | .row b o l c z=>nf b λb=>nf o λo=>nf l λl=>oF c λc=>nf z λz=>k (.row b o l c z)
 | .fn f cs=>nf f λf=>vsH cs λcs=>k (.fn f cs)
 | .mfn f cs=>nf f λf=>vsH cs λcs=>k (.mfn f cs)
 | .agg cs=>vsH cs λcs=>k (.agg cs)
 | .tup vs=>vsH vs λvs=>k (.tup vs)
 | .undef=>k .undef
noncomputable def vsF (l:List V) (k:List V->β):β:=lF vF l k
noncomputable def KE.get (l:KE) (i:Nat):V :=
 List.rec (motive:=λ_=>V) .undef (λp _ ih=>Bool.rec ih p.2 (Nat.beq p.1 i)) l
noncomputable def X.kev (e:KE) (x:X) (k:V->β):β:=match x with
 | .t i=>vH (KE.get e i) k
 | .c v=>k v
noncomputable def y9 (e:KE) (l:List X):(List V->Option β)->Option β :=
 List.rec (motive:=λ_=>(List V->Option β)->Option β) (λk=>k []) (λx _ ih k=>x.kev e λv=>match v with
  | .undef=>none
  | v=>ih λl=>k (v::l)) l
noncomputable def oK (e:KE) (l:List Nat):(KE->β)->β :=
 List.rec (motive:=λ_=>(KE->β)->β) (λk=>k []) (λi _ ih k=>vH (KE.get e i) λv=>ih λe'=>k ((i,v)::e')) l
def Bh {α:Type}:List α->Nat->Option α
 | [],_=>none
 | x::l,n=>match n with
  | 0=>some x
  | n+1=>Bh l n
def KH.get (h:KH)(b:Nat):Option (List V):=match Nat.blt b h.n with
 | true=>match Bh h.bs (h.n-1-b) with
  | some (.cells cs)=>some cs
  | _=>none
 | false=>none
noncomputable def KH.alloc (h:KH) (cs:List V) (k:KH->β):β:=vsF cs λcs=>nf (h.n+1) λn=>k ⟨n,.cells cs::h.bs,h.low⟩
def xS {α:Type}(x:α):List α->Nat->(List α->β)->β
 | [],_,k=>k []
 | y::l,n,k=>match n with
  | 0=>k (x::l)
  | n+1=>xS x l n λl=>k (y::l)
def Bb (a b:Nat)(k:Nat->β):β:=match Nat.ble a b with
 | true=>nf a k
 | false=>nf b k
def KH.put (h:KH)(b:Nat)(x:Blk)(k:KH->β):β:=nf (h.n-1-b) λi=>xS x h.bs i λbs=>Bb h.low b λlow=>k ⟨h.n,bs,low⟩
noncomputable def KH.set (h:KH) (b:Nat) (cs:List V) (k:KH->β):β:=vsF cs λcs=>h.put b (.cells cs) k
def nI:IntKind->Nat
 | .i8 | .u8=>256
 | .i16 | .u16=>65536
 | .i32 | .u32=>4294967296
 | .i64 | .u64=>18446744073709551616
def Ck:IntKind->Nat
 | .i8=>128
 | .i16=>32768
 | .i32=>2147483648
 | .i64=>9223372036854775808
 | _=>18446744073709551616
def wrapM (k:IntKind)(r:Nat):Int:=match Nat.ble (Ck k) r with
 | true=>Int.negSucc (nI k-1-r)
 | false=>.ofNat r
def CY (k:IntKind)(n:Int):Int:=match n with
 | .ofNat m=>wrapM k (m % nI k)
 | .negSucc m=>wrapM k (nI k-1-m % nI k)
def ltK (a b:Int):Bool:=match a,b with
 | .ofNat m,.ofNat n=>Nat.blt m n
 | .ofNat _,.negSucc _=>false
 | .negSucc _,.ofNat _=>true
 | .negSucc m,.negSucc n=>Nat.blt n m
def eqI (a b:Int):Bool:=match a,b with
 | .ofNat m,.ofNat n=>Nat.beq m n
 | .negSucc m,.negSucc n=>Nat.beq m n
 | _,_=>false
def Fq (op:BinOp)(k:IntKind)(a b:Int):Option D:=match op with
 | .add=>some (.int k (CY k (a+b)))
 | .sub=>some (.int k (CY k (a-b)))
 | .eql=>some (.bool (eqI a b))
 | .neq=>some (.bool !(eqI a b))
 | .lss=>some (.bool (ltK a b))
 | .leq=>some (.bool !(ltK b a))
 | .gtr=>some (.bool (ltK b a))
 | .geq=>some (.bool !(ltK a b))
 | op=>fI op k a b
def nD (a b:IntKind):Bool:=match a,b with
 | .i8,.i8 | .i16,.i16 | .i32,.i32 | .i64,.i64 | .u8,.u8 | .u16,.u16 | .u32,.u32 | .u64,.u64=>true
 | _,_=>false
def AV:List UInt8->List UInt8->Bool
 | [],[]=>true
 | a::l,b::m=>match Nat.beq a.toNat b.toNat with
  | true=>AV l m
  | false=>false
 | _,_=>false
def Cb (op:BinOp)(a b:ByteArray):Option D:=match op with
 | .add=>match Nat.ble (a.data.toList.length+b.data.toList.length) 1099511627776 with
  | true=>some (.str ⟨⟨a.data.toList++b.data.toList⟩⟩)
  | false=>none
 | .eql=>some (.bool (AV a.data.toList b.data.toList))
 | .neq=>some (.bool !(AV a.data.toList b.data.toList))
 | _=>none
def I6:BinOp->Bool
 | .shl | .shr=>true
 | _=>false
def Fj (op:BinOp)(x y:V):Option D:=match x with
 | .d (.int k a)=>match y with
  | .d (.int k' b)=>match I6 op with
   | true=>dP op (.d (.int k a)) (.d (.int k' b))
   | false=>match nD k k' with
    | true=>Fq op k a b
    | false=>none
  | _=>none
 | .d (.str a)=>match y with
  | .d (.str b)=>Cb op a b
  | _=>none
 | _=>none
def CL:EK->D->D->Option Bool
 | .b,.bool a,.bool b=>some (match a,b with | true,true=>true | false,false=>true | _,_=>false)
 | .i k,.int k' a,.int k'' b=>match nD k' k,nD k'' k with
  | true,true=>some (eqI a b)
  | _,_=>none
 | .s,.str a,.str b=>some (AV a.data.toList b.data.toList)
 | _,_,_=>none
def gL:List EK->List V->List V->Option Bool
 | [],[],[]=>some true
 | k::ks,.d a::xs,.d b::ys=>match CL k a b with
  | some r=>match gL ks xs ys with
   | some t=>some (match r with | true=>t | false=>false)
   | none=>none
  | none=>none
 | _,_,_=>none
def BQ:EQ->V->V->Option Bool
 | .sc k,.d a,.d b=>CL k a b
 | .agg ks,.agg xs,.agg ys=>gL ks xs ys
 | q,a,b=>fQ q a b
def wC {α:Type}:Nat->List α->Option (List α)
 | 0,_=>some []
 | n+1,x::l=>match wC n l with
  | some l=>some (x::l)
  | none=>none
 | _+1,[]=>none
def vS {α:Type}:Nat->List α->Option (List α)
 | 0,l=>some l
 | n+1,_::l=>vS n l
 | _+1,[]=>none
def BM {α:Type}(cs:List α)(o n:Nat):Option (List α):=match vS o cs with
 | some l=>wC n l
 | none=>none
def uF {α:Type}:List α->List α->Option (List α)
 | l,[]=>some l
 | _::l,x::xs=>match uF l xs with
  | some l=>some (x::l)
  | none=>none
 | [],_::_=>none
def vE {α:Type}:List α->Nat->List α->Option (List α)
 | l,0,xs=>uF l xs
 | y::l,o+1,xs=>match vE l o xs with
  | some l=>some (y::l)
  | none=>none
 | [],_+1,_=>none
noncomputable def tZ (e:KE):List V->List (Nat×Nat×X)->(List V->Option β)->Option β
 | cs,[],k=>k cs
 | cs,(o,n,x)::ps,k=>x.kev e λv=>match v.cells with
  | some xs=>match Nat.beq xs.length n with
   | true=>match vE cs o xs with
    | some cs'=>tZ e cs' ps k
    | none=>none
   | false=>none
  | none=>none
def Cq (h:KH)(v:V)(n:Nat):Option (List V):=match v with
 | .ptr b o=>match h.get b with
  | some cs=>BM cs o n
  | none=>none
 | _=>none
noncomputable def mkK (sc:Bool) (cs:List V) (k:V->Option β):Option β:=match sc with
 | true=>match cs with
  | [v]=>vH v k
  | _=>none
 | false=>vsH cs λcs=>k (.agg cs)
def uy (v:V)(k:Nat->Option β):Option β:=match v with
 | .d (.int _ (.ofNat n))=>k n
 | _=>none
noncomputable def xm (v:V) (k:IntKind->Nat->Option β):Option β:=match v with
 | .d (.int t (.ofNat n))=>k t n
 | _=>none
noncomputable def jZ (e:KE) (x:Option X) (dft:Nat) (k:Nat->Option β):Option β:=match x with
 | none=>k dft
 | some x=>x.kev e λv=>uy v k
def G9 (h:KH)(v:V)(z:Nat)(k:Nat->List V->Option β):Option β:=match v with
 | .d (.slice _ [])=>k 0 []
 | .row b o len _ z'=>match Nat.beq z' z with
  | true=>match h.get b with
   | some cs=>match BM cs o (len * z) with
    | some l=>k len l
    | none=>none
   | none=>none
  | false=>none
 | .d (.str s)=>match Nat.beq z 1 with
  | true=>let l:=s.data.toList; k l.length (l.map λb=>.d (.int .u8 (.ofNat b.toNat)))
  | false=>none
 | _=>none
def bytesOf:List V->Option (List UInt8)
 | []=>some []
 | .d (.int .u8 (.ofNat n))::l=>match bytesOf l with
  | some r=>some (UInt8.ofNat n::r)
  | none=>none
 | _=>none
noncomputable def MH (h:KH) (z bytes:Nat) (s:V) (m:Nat) (xs:List V) (k:V->KH->Option β):Option β:=match s with
 | .d (.slice true _)=>match m with
  | 0=>k s h
  | m+1=>match roomy (m+1) bytes with
   | true=>h.alloc xs λh'=>nf (m+1) λm=>k (.row h.n 0 m none z) h'
   | false=>none
 | .row b o len cap z'=>match Nat.beq z' z with
  | false=>none
  | true=>match m with
   | 0=>k s h
   | m+1=>match h.get b with
    | none=>none
    | some cs=>match BM cs o (len * z) with
     | none=>none
     | some old=>nf (len+(m+1)) λn=>match roomy n bytes with
      | false=>none
      | true=>match cap with
       | some c=>match Nat.ble n c with
        | true=>match vE cs (o+len * z) xs with
         | some cs'=>h.set b cs' λh'=>k (.row b o n cap z) h'
         | none=>none
        | false=>h.alloc (old++xs) λh'=>k (.row h.n 0 n none z) h'
       | none=>match o with
        | 0=>match Nat.beq old.length cs.length with
         | true=>match Nat.blt 0 cs.length with
          | true=>h.set b [] λh1=>h1.alloc (old++xs) λh'=>k (.row h.n 0 n none z) h'
          | false=>none
         | false=>none
        | _+1=>none
 | .d (.slice false [])=>match m with
  | 0=>k s h
  | _+1=>none
 | _=>none
noncomputable def BG (h:KH) (e:KE) (kd:SK) (z:Nat) (x:V) (lo hi mx:Option X) (k:V->Option β):Option β:=match kd,x with
 | .sl,.d (.slice nl [])=>jZ e lo 0 λl=>jZ e hi 0 λhh=>match mx,l,hh with
  | none,0,0=>k (.d (.slice nl []))
  | _,_,_=>none
 | .sl,.row b o len cap z'=>jZ e lo 0 λl=>jZ e hi len λhh=>match Nat.beq z' z with
  | false=>none
  | true=>match mx with
   | none=>match Nat.ble l hh&&Nat.ble hh len with
    | false=>none
    | true=>match l with
     | 0=>nf hh λhh=>k (.row b o hh cap z)
     | l+1=>match Nat.blt (l+1) len with
      | true=>nf (o+(l+1) * z) λo=>nf (hh-(l+1)) λn=>oF (cap.map (· - (l+1))) λc=>k (.row b o n c z)
      | false=>k (.d (.slice false []))
   | some m=>m.kev e λm=>uy m λm=>match Nat.ble l hh&&Nat.ble hh m&&Nat.ble m len&&(Nat.beq l 0||Nat.blt l m)&&hi.isSome with
    | true=>nf (o+l * z) λo=>nf (hh-l) λn=>nf (m-l) λc=>k (.row b o n (some c) z)
    | false=>none
 | .st,.d (.str s)=>let bs:=s.data.toList; jZ e lo 0 λl=>jZ e hi bs.length λhh=>match mx with
  | none=>match Nat.ble l hh&&Nat.ble hh bs.length with
   | true=>sF ⟨⟨(bs.take hh).drop l⟩⟩ λs=>k (.d (.str s))
   | false=>none
  | some _=>none
 | .ar n,.ptr b o=>jZ e lo 0 λl=>jZ e hi n λhh=>match mx with
  | none=>match Nat.ble l hh&&Nat.ble hh n&&Nat.blt l n&&Nat.blt 0 (n * z)&&Nat.ble n 1099511627776 with
   | true=>match h.get b with
    | some cs=>match Nat.ble (o+n * z) cs.length with
     | true=>nf (o+l * z) λo=>nf (hh-l) λm=>nf (n-l) λc=>k (.row b o m (some c) z)
     | false=>none
    | none=>none
   | false=>none
  | some _=>none
 | _,_=>none
abbrev jX (β:Type):=FuncId->List V->KH->(V->KH->Option β)->Option β
noncomputable def opK (C:jX β) (r:R) (e:KE) (h:KH) (k:V->KH->Option β):Option β:=match r with
 | .mov x=>x.kev e λv=>(match v with
  | .undef=>none
  | v=>k v h)
 | .pick c a b=>c.kev e λc=>match c with
  | .d (.bool t)=>match t with
   | true=>a.kev e λv=>(match v with
    | .undef=>none
    | v=>k v h)
   | false=>b.kev e λv=>(match v with
    | .undef=>none
    | v=>k v h)
  | _=>none
 | .new z=>h.alloc z λh'=>k (.ptr h.n 0) h'
 | .box x=>x.kev e λv=>match v.cells with
  | some cs=>h.alloc cs λh'=>k (.ptr h.n 0) h'
  | none=>none
 | .build zero ps=>tZ e zero ps λcs=>vsH cs λcs=>k (.agg cs) h
 | .buildS z n zero ps=>tZ e (List.replicate n zero).flatten ps λcs=>h.alloc cs λh'=>k (.row h.n 0 n (some n) z) h'
 | .load sc n a=>a.kev e λa=>match Cq h a n with
  | some cs=>mkK sc cs λv=>k v h
  | none=>none
 | .store n a x=>a.kev e λa=>x.kev e λx=>match x.cells with
  | some xs=>match Nat.beq xs.length n&&Nat.blt 0 n with
   | true=>match a with
    | .ptr b o=>match h.get b with
     | some cs=>match vE cs o xs with
      | some cs'=>h.set b cs' λh'=>k .undef h'
      | none=>none
     | none=>none
    | _=>none
   | false=>none
  | none=>none
 | .nilchk x=>x.kev e λv=>match v with
  | .ptr b o=>k (.ptr b o) h
  | .fn f cs=>k (.fn f cs) h
  | .mfn f cs=>k (.mfn f cs) h
  | _=>none
 | .bin op x y=>x.kev e λx=>y.kev e λy=>match Fj op x y with
  | some d=>DF d λd=>k (.d d) h
  | none=>none
 | .eq q neg x y=>x.kev e λx=>y.kev e λy=>match BQ q x y with
  | some b=>match b,neg with
   | true,true=>k (.d (.bool false)) h
   | true,false=>k (.d (.bool true)) h
   | false,true=>k (.d (.bool true)) h
   | false,false=>k (.d (.bool false)) h
  | none=>none
 | .un op x=>x.kev e λx=>match unD op x with
  | some d=>DF d λd=>k (.d d) h
  | none=>none
 | .convI t x=>x.kev e λx=>match x with
  | .d (.int _ n)=>iF (CY t n) λn=>k (.d (.int t n)) h
  | _=>none
 | .convBS x=>x.kev e λx=>match x with
  | .d (.str _)=>none
  | v=>G9 h v 1 λ_ cs=>match bytesOf cs with
   | some l=>sF ⟨⟨l⟩⟩ λs=>k (.d (.str s)) h
   | none=>none
 | .convSB x=>x.kev e λx=>(match x with
  | .d (.str s)=>(match Nat.ble s.data.toList.length 1099511627776 with
   | false=>none
   | true=>h.alloc (s.data.toList.map λb=>.d (.int .u8 (.ofNat b.toNat))) λh'=>nf s.data.toList.length λn=>k (.row h.n 0 n none 1) h')
  | _=>none)
 | .convSS x=>x.kev e λx=>match x with
  | .d (.str s)=>k (.d (.str s)) h
  | _=>none
 | .fldA x off=>x.kev e λx=>match x with
  | .ptr b o=>nf (o+off) λo=>k (.ptr b o) h
  | _=>none
 | .fld sc x off n=>x.kev e λx=>match x with
  | .agg cs=>match BM cs off n with
   | some l=>mkK sc l λv=>k v h
   | none=>none
  | _=>none
 | .idxA arr z x i=>i.kev e λi=>uy i λi=>x.kev e λx=>match arr with
  | none=>match x with
   | .row b o len _ z'=>match Nat.blt i len&&Nat.beq z' z with
    | true=>nf (o+i * z) λo=>k (.ptr b o) h
    | false=>none
   | _=>none
  | some n=>match x with
   | .ptr b o=>match Nat.blt i n with
    | true=>nf (o+i * z) λo=>k (.ptr b o) h
    | false=>none
   | _=>none
 | .idx sc n z x i=>i.kev e λi=>uy i λi=>x.kev e λx=>match x with
  | .agg cs=>match Nat.blt i n with
   | true=>match BM cs (i * z) z with
    | some l=>mkK sc l λv=>k v h
    | none=>none
   | false=>none
  | _=>none
 | .idxS x i=>i.kev e λi=>uy i λi=>x.kev e λx=>match x with
  | .d (.str s)=>match Bh s.data.toList i with
   | some b=>nf b.toNat λn=>k (.d (.int .u8 (.ofNat n))) h
   | none=>none
  | _=>none
 | .slc kd z x lo hi mx=>x.kev e λx=>BG h e kd z x lo hi mx λv=>k v h
 | .mkfn f caps=>y9 e caps λcaps=>k (.fn f caps) h
 | .mkmv f caps=>y9 e caps λcaps=>k (.mfn f caps) h
 | .mksl z bytes zero len cap=>len.kev e λl=>cap.kev e λc=>xm l λkl l=>xm c λkc c=>match Nat.ble l c&&Nat.ble c 1073741824&&Nat.ble bytes 4096 with
  | true=>match nD kl .i64&&nD kc .i64 with
   | true=>h.alloc (List.replicate c zero).flatten λh'=>k (.row h.n 0 l (some c) z) h'
   | false=>none
  | false=>none
 | .ext x i=>x.kev e λx=>match x with
  | .tup vs=>match Bh vs i with
   | some v=>vH v λv=>k v h
   | none=>none
  | _=>none
 | .call f args=>f.kev e λf=>y9 e args λargs=>match f with
  | .fn f caps=>C f (args++caps) h k
  | .mfn f first=>C f (first++args) h k
  | _=>none
 | .app z bytes s x=>x.kev e λx=>s.kev e λs=>G9 h x z λm xs=>match Nat.beq z 0 with
  | true=>none
  | false=>nf m λm=>MH h z bytes s m xs k
 | .len st x=>x.kev e λx=>match st,x with
  | false,.d (.slice _ es)=>nf es.length λn=>k (.d (.int .i64 (.ofNat n))) h
  | false,.row _ _ n _ _=>k (.d (.int .i64 (.ofNat n))) h
  | true,.d (.str s)=>nf s.data.toList.length λn=>k (.d (.int .i64 (.ofNat n))) h
  | _,_=>none
 | .copy z a b=>b.kev e λb=>a.kev e λa=>G9 h b z λm xs=>match a with
  | .row b o len _ z'=>match Nat.beq z' z with
   | true=>match h.get b with
    | some cs=>nf (Nat.min m len * z) λq=>match q with
     | 0=>k (.d (.int .i64 (.ofNat (Nat.min m len)))) h
     | q+1=>match vE cs o (xs.take (Nat.min m len * z)) with
      | some cs'=>h.set b cs' λh'=>k (.d (.int .i64 (.ofNat (Nat.min m len)))) h'
      | none=>none
    | none=>none
   | false=>none
  | _=>none
 | .clear z zero a=>a.kev e λa=>match a with
  | .row b o len _ z'=>match Nat.beq z' z with
   | true=>match h.get b with
    | some cs=>match len * z with
     | 0=>k .undef h
     | _+1=>match vE cs o (List.replicate len zero).flatten with
      | some cs'=>h.set b cs' λh'=>k .undef h'
      | none=>none
    | none=>none
   | false=>none
  | .d (.slice _ [])=>k .undef h
  | _=>none
 | .minmax mx xs=>y9 e xs λxs=>match xs with
  | []=>none
  | x::xs=>match fT mx x xs with
   | some v=>vF v λv=>k v h
   | none=>none
 | .range x=>x.kev e λx=>match x with
  | .d (.str s)=>nf (h.n+1) λn=>k (.ptr h.n 0) ⟨n,.iter s 0::h.bs,h.low⟩
  | _=>none
 | .next x=>x.kev e λx=>match x with
  | .ptr b 0=>match Nat.blt b h.n with
   | true=>match Bh h.bs (h.n-1-b) with
    | some (.iter s pos)=>match Nat.blt pos s.data.toList.length with
     | true=>match Utf8.decode s pos with
      | (c,w)=>iF c λc=>nf (pos+w) λp=>h.put b (.iter s p) λh'=>k (.tup [.d (.bool true),.d (.int .i64 (.ofNat pos)),.d (.int .i32 c)]) h'
     | false=>k (.tup [.d (.bool false)]) h
    | _=>none
   | false=>none
  | _=>none
def Uo (e:KE)(r:R):List Nat:=match r with
 | .load _ _ a | .convBS a=>(X.ea e a).blk
 | .store _ a _=>(X.ea e a).blk
 | .app _ _ s x=>(X.ea e s).blk++(X.ea e x).blk
 | .copy _ a b=>(X.ea e a).blk++(X.ea e b).blk
 | .clear _ _ a=>(X.ea e a).blk
 | .next x=>(X.ea e x).blk
 | .slc _ _ x _ _ _=>(X.ea e x).blk
 | _=>[]
def Px (e:KE)(r:R):List Nat:=match r with
 | .store _ a _=>(X.ea e a).blk
 | .app _ _ s _=>(X.ea e s).blk
 | .copy _ a _=>(X.ea e a).blk
 | .clear _ _ a=>(X.ea e a).blk
 | .next x=>(X.ea e x).blk
 | _=>[]
noncomputable def zA (C:jX β) (r:R) (e:KE) (h:KH) (k:V->KH->Tr->Option β):Option β:=match r with
 | .call f args=>f.kev e λf=>y9 e args λargs=>match f with
  | .fn f caps=>C f (args++caps) ⟨h.n,h.bs,h.n⟩ λv h'=>match Nat.ble h.n h'.low with
   | true=>match Nat.beq h'.n h.n with
    | true=>k v h ⟨true,false,[],[],h.n,h.n,0⟩
    | false=>k v ⟨h'.n,h'.bs,h.low⟩ ⟨true,false,[],[],h.n,h'.n,0⟩
   | false=>Bb h.low h'.low λlow=>k v ⟨h'.n,h'.bs,low⟩ ⟨true,true,[],[],h.n,h'.n,⟨h'.low,[]⟩⟩
  | _=>none
 | r=>opK C r e h λv h'=>k v h' ⟨false,false,Uo e r,Px e r,h.n,h'.n,0⟩
noncomputable def zG (C:jX β) (os:List RO):KE->KH->(KE->KH->Option β)->Option β :=
 List.rec (motive:=λ_=>KE->KH->(KE->KH->Option β)->Option β) (λe h k=>k e h) (λo _ ih e h k=>match o.g with
  | none=>opK C o.r e h λv h'=>ih (bO e o.d v) h' k
  | some (j,want)=>match KE.get e j with
   | .d (.bool t)=>match t,want with
    | true,true | false,false=>opK C o.r e h λv h'=>ih (bO e o.d v) h' k
    | _,_=>ih (bO e o.d (.tup [])) h k
   | .tup []=>ih (bO e o.d (.tup [])) h k
   | _=>none) os
noncomputable def xN (C:jX β) (os:List RO):KE->KH->(List Tr->KE->KH->Option β)->Option β :=
 List.rec (motive:=λ_=>KE->KH->(List Tr->KE->KH->Option β)->Option β) (λe h k=>k [] e h) (λo _ ih e h k=>match o.g with
  | none=>zA C o.r e h λv h' t=>ih (bO e o.d v) h' λl=>k (t::l)
  | some (j,want)=>match KE.get e j with
   | .d (.bool t)=>match t,want with
    | true,true | false,false=>zA C o.r e h λv h' t=>ih (bO e o.d v) h' λl=>k (t::l)
    | _,_=>ih (bO e o.d (.tup [])) h λl=>k (⟨false,false,[],[],h.n,h.n,0⟩::l)
   | .tup []=>ih (bO e o.d (.tup [])) h λl=>k (⟨false,false,[],[],h.n,h.n,0⟩::l)
   | _=>none) os
noncomputable def lQ (C:jX β) (n:Nat):QC->KE->KH->(Ex->KE->KH->Option β)->Option β :=
 Nat.rec (motive:=λ_=>QC->KE->KH->(Ex->KE->KH->Option β)->Option β) (λ_ _ _ _=>none) (λn ih c e h k=>QC.casesOn (motive:=λ_=>Option β) c
  (k .normal e h)
  (λl=>oK e l λe=>k .ret e h)
  (λi l=>oK e l λe=>k (.exit i) e h)
  (λpr os=>match pr with
    | none=>zG C os e h λe h=>k .normal e h
    | some pr=>xN C os e h λl e h=>match aG pr l with
     | true=>k .normal e h
     | false=>none)
  (λa b=>ih a e h λex e h=>match ex with
    | .normal=>ih b e h k
    | .ret=>k .ret e h
    | .exit i=>k (.exit i) e h)
  (λc a b=>c.kev e λv=>match v with
    | .d (.bool t)=>match t with
     | true=>ih a e h k
     | false=>ih b e h k
    | _=>none)
  (λi b=>ih b e h λex e h=>match ex with
    | .exit j=>match Nat.beq j i with
     | true=>k .normal e h
     | false=>k (.exit j) e h
    | .normal=>k .normal e h
    | .ret=>k .ret e h)
  (λkeep b=>oK e keep λe=>ih b e h λex e h=>match ex with
    | .normal=>ih (.loop keep b) e h k
    | .ret=>k .ret e h
    | .exit i=>k (.exit i) e h)) n
noncomputable def zN (h:KH) (e:KE):List RV->(List V->Option β)->Option β
 | [],k=>k []
 | .tmp t::l,k=>vH (KE.get e t) λv=>match v with
  | .undef=>none
  | v=>zN h e l λvs=>k (v::vs)
 | .cell t sc n::l,k=>match Cq h (KE.get e t) n with
  | some cs=>mkK sc cs λv=>zN h e l λvs=>k (v::vs)
  | none=>none
noncomputable def Hg (F:FuncId->Option QF) (m:Nat):jX β :=
 Nat.rec (motive:=λ_=>jX β) (λ_ _ _ _=>none) (λm ih f args h k=>match F f with
  | none=>none
  | some rf=>lQ ih m rf.code (jg 0 args) ⟨h.n,h.bs,h.n⟩ λex e h'=>match ex with
   | .exit _=>none
   | _=>zN h' e rf.res λvs=>vH (bD vs) λr=>match Nat.ble h.n h'.low&&V.under h.n r with
    | true=>k r h
    | false=>Bb h.low h'.low λlow=>k r ⟨h'.n,h'.bs,low⟩) m
end
end
section
section
variable {β:Type}
@[simp] theorem iY (n:Nat)(k:Nat->β):nf n k=k n:=by cases n<;>rfl
@[simp] theorem Lb (n:Int)(k:Int->β):iF n k=k n:=by cases n<;>simp [iF]
@[simp] theorem bq9 (n:Bool)(k:Bool->β):bF n k=k n:=by cases n<;>rfl
theorem Gh {α:Type}{f:α->(α->β)->β}(hf:∀ x k,f x k=k x)(l:List α)(k:List α->β):lF f l k=k l:=by
 induction l generalizing k with
 | nil=>rfl
 | cons x l ih =>
  have:lF f (x::l) k=f x λx=>lF f l λl=>k (x::l):=rfl;rw [this,hf,ih]
@[simp] theorem Pq (b:UInt8)(k:UInt8->β):u8F b k=k b:=by simp [u8F]
@[simp] theorem Lp (s:ByteArray)(k:ByteArray->β):sF s k=k s:=by unfold sF; rw [Gh Pq]
@[simp] theorem KU (d:D)(k:D->β):DF d k=k d:=by
 cases d<;>simp [DF];rename_i nl es; cases es<;>rfl
@[simp] theorem Uq (o:Option Nat)(k:Option Nat->β):oF o k=k o:=by cases o<;>simp [oF]
@[simp] theorem wD (v:V)(k:V->β):vH v k=k v:=by cases v<;>rfl
@[simp] theorem Ig (l:List V)(k:List V->β):vsH l k=k l:=Gh wD l k
@[simp] theorem LJ (v:V)(k:V->β):vF v k=k v:=by cases v<;>simp [vF]
@[simp] theorem bo7 (l:List V)(k:List V->β):vsF l k=k l:=Gh LJ l k
theorem wZ (l:KE)(i:Nat):KE.get l i=EA.get l i:=by
 induction l with
 | nil=>rfl
 | cons p l ih =>
  obtain ⟨j,v⟩:=p;have:KE.get ((j,v)::l) i=Bool.rec (KE.get l i) v (Nat.beq j i):=rfl;rw [this,Gb];by_cases h:j=i
  . subst h; simp
  . have:Nat.beq j i=false:=by
     cases hx:Nat.beq j i with
     | false=>rfl
     | true=>exact absurd (Nat.eq_of_beq_eq_true hx) h
    rw [this,if_neg h,ih]
@[simp] theorem bH (e:KE)(x:X)(k:V->β):x.kev e k=k (X.ea e x):=by
 cases x with
 | c v=>rfl
 | t i=>simp [X.kev,wZ]
theorem oM (e:KE)(l:List X)(k:List V->Option β):y9 e l k=if l.all (λx=>okV (X.ea e x))=true then k (l.map (X.ea e)) else none:=by
 induction l generalizing k with
 | nil=>rfl
 | cons x l ih =>
  have:y9 e (x::l) k=x.kev e λv=>match v with
   | .undef=>none
   | v=>y9 e l λl=>k (v::l):=rfl
  rw [this,bH];simp only [List.all_cons,ct,aq];cases hv:X.ea e x<;>simp [ih,okV]
@[simp] theorem ut (e:KE)(l:List Nat)(k:KE->β):oK e l k=k (bE l e):=by
 induction l generalizing k with
 | nil=>rfl
 | cons i l ih =>
  have:oK e (i::l) k=vH (KE.get e i) λv=>oK e l λe'=>k ((i,v)::e'):=rfl;rw [this,wD,ih,wZ]; rfl
end
def KH.ok (h:KH):Prop:=h.n=h.bs.length
def KH.hp (h:KH):Hp:=⟨h.bs.reverse,h.low⟩
theorem pE {α:Type}:∀ (l:List α) (n:Nat),Bh l n=l[n]?
 | [],n=>rfl
 | x::l,0=>rfl
 | x::l,n+1=>by simp [Bh,pE l n]
@[simp] theorem fw {h:KH}(hk:h.ok):h.hp.bs.length=h.n:=by simp [KH.hp,hk.symm]
@[simp] theorem ac2 {h:KH}:h.hp.low=h.low:=rfl
theorem blt_iff {a b:Nat}:Nat.blt a b=true↔a<b:=by simp [Nat.blt,Nat.ble_eq]; omega
theorem KH.get_eq {h:KH}(hk:h.ok)(b:Nat):h.get b=ah h.hp.bs b:=by
 unfold KH.get ah KH.hp;by_cases hb:b<h.n
 . rw [blt_iff.2 hb];simp only [pE];have h1:b<h.bs.reverse.length:=by simp; rw [← hk]; exact hb
   rw [List.getElem?_reverse (by rw [← hk]; exact hb),← hk];rfl
 . have h1:Nat.blt b h.n=false:=by
    cases hx:Nat.blt b h.n with
    | false=>rfl
    | true=>exact absurd (blt_iff.1 hx) hb
   rw [h1,bb (by simp; rw [← hk]; omega)]
def KH.alloc' (h:KH)(cs:List V):KH:=⟨h.n+1,.cells cs::h.bs,h.low⟩
theorem KH.alloc'_ok {h:KH}(hk:h.ok)(cs:List V):(h.alloc' cs).ok:=by simpa [KH.ok,KH.alloc'] using hk
@[simp] theorem KH.alloc'_hp {h:KH}(cs:List V):(h.alloc' cs).hp=h.hp.alloc cs:=by simp [KH.hp,KH.alloc',Hp.alloc]
@[simp] theorem KH.alloc_eq {β:Type}{h:KH}{cs:List V}{k:KH->β}:h.alloc cs k=k (h.alloc' cs):=by simp [KH.alloc,KH.alloc']
@[simp] theorem Cs {β:Type}(a b:Nat)(k:Nat->β):Bb a b k=k (min a b):=by
 unfold Bb;cases h:Nat.ble a b with
 | true =>
  rw [Nat.ble_eq] at h;simp [Nat.min_eq_left h]
 | false =>
  have:¬ a<=b:=λq=>by rw [Nat.ble_eq_true_of_le q] at h; cases h
  simp [Nat.min_eq_right (show b<=a by omega)]
theorem wz {α β:Type}(x:α):∀ (l:List α) (n:Nat) (k:List α->β),xS x l n k=k (l.set n x)
 | [],n,k=>by cases n<;>rfl
 | y::l,0,k=>rfl
 | y::l,n+1,k=>by simp [xS,wz x l n]
def KH.put' (h:KH)(b:Nat)(x:Blk):KH:=⟨h.n,h.bs.set (h.n-1-b) x,min h.low b⟩
@[simp] theorem KH.put_eq {β:Type}{h:KH}{b:Nat}{x:Blk}{k:KH->β}:h.put b x k=k (h.put' b x):=by simp [KH.put,KH.put',wz]
@[simp] theorem KH.set_eq {β:Type}{h:KH}{b:Nat}{cs:List V}{k:KH->β}:h.set b cs k=k (h.put' b (.cells cs)):=by simp [KH.set]
theorem KH.put'_ok {h:KH}(hk:h.ok){b:Nat}{x:Blk}:(h.put' b x).ok:=by simpa [KH.ok,KH.put'] using hk
theorem KH.put'_hp {h:KH}(hk:h.ok){b:Nat}{x:Blk}(hb:b<h.n):(h.put' b x).hp=⟨h.hp.bs.set b x,min h.hp.low b⟩:=by
 simp only [KH.hp,KH.put']
 congr 1
 apply List.ext_getElem?;intro i;by_cases hi:i<h.n
 . have h1:i<h.bs.length:=by rw [← hk]; exact hi
   have h2:b<h.bs.length:=by rw [← hk]; exact hb
   rw [List.getElem?_reverse (by simpa using h1),List.getElem?_set,List.getElem?_set,List.getElem?_reverse h1];simp only [List.length_set,List.length_reverse,hk.symm,hb,if_true];rw [hk];by_cases hbi:b=i
   . subst hbi;rw [if_pos rfl,if_pos rfl,if_pos (by omega)]
   . rw [if_neg (by omega),if_neg hbi]
 . rw [bb (by simp; rw [← hk]; omega),bb (by simp; rw [← hk]; omega)]
theorem Jd (k:IntKind):(nI k:Int)=2 ^ k.bits:=by cases k<;>rfl
theorem ble_iff {a b:Nat}:Nat.ble a b=true↔a<=b:=by rw [Nat.ble_eq]
theorem Fv {a b:Nat}:Nat.ble a b=false↔b<a:=by
 cases h:Nat.ble a b with
 | true=>rw [Nat.ble_eq] at h; simp; omega
 | false =>
  have:¬ a<=b:=λq=>by rw [Nat.ble_eq_true_of_le q] at h; cases h
  simp; omega
theorem Al (k:IntKind)(n:Int):CY k n=k.wrap n:=by
 have key:∀ (r:Nat),r<nI k->∀ n:Int,n % (nI k:Int)=r->wrapM k r=k.wrap n:=by
  intro r hr n hn;unfold wrapM IntKind.wrap;rw [← Jd,hn];cases h:Nat.ble (Ck k) r with
  | true =>
   rw [ble_iff] at h;cases k<;>simp [Ck,nI,IntKind.signed,IntKind.bits] at h hr ⊢<;>omega
  | false =>
   rw [Fv] at h;cases k<;>simp [Ck,nI,IntKind.signed,IntKind.bits] at h hr ⊢<;>omega
 have hm:0<nI k:=by cases k<;>decide
 cases n with
 | ofNat m =>
  exact key (m % nI k) (Nat.mod_lt _ hm) _ (by simp)
 | negSucc m =>
  have h1:=Nat.mod_lt m hm;refine key (nI k-1-m % nI k) (by omega) _ ?_;have h2:=Nat.div_add_mod m (nI k);rw [Int.negSucc_eq];generalize nI k=M at *;have h3:(-((m:Int)+1))=((M-1-m % M:Nat):Int)+(M:Int) * (-((m / M:Nat):Int)-1):=by
   have:(m:Int)=(M:Int) * ((m / M:Nat):Int)+((m % M:Nat):Int):=by exact_mod_cast h2.symm
   have h4:((M-1-m % M:Nat):Int)=(M:Int)-1-((m % M:Nat):Int):=by omega
   rw [h4,Int.mul_sub,Int.mul_neg];omega
  rw [h3,Int.add_mul_emod_self_left];exact Int.emod_eq_of_lt (by omega) (by omega)
theorem FQ (a b:Int):eqI a b=(a==b):=by
 cases a<;>cases b<;>simp [eqI]<;>rename_i m n
 . cases h:Nat.beq m n with
   | true=>rw [Nat.eq_of_beq_eq_true h]; simp
   | false=>symm; simp; have:=Nat.ne_of_beq_eq_false h; omega
 . cases h:Nat.beq m n with
   | true=>rw [Nat.eq_of_beq_eq_true h]; simp
   | false=>symm; simp; have:=Nat.ne_of_beq_eq_false h; omega
theorem AC (a b:Nat):Nat.blt a b=decide (a<b):=by
 by_cases h:a<b
 . simp [h,blt_iff.2 h]
 . simp only [h,decide_false];cases hx:Nat.blt a b with
   | false=>rfl
   | true=>exact absurd (blt_iff.1 hx) h
theorem Nr (a b:Int):ltK a b=decide (a<b):=by
 cases a<;>cases b<;>simp [ltK,AC]<;>omega
theorem kindEq_iff {a b:IntKind}:nD a b=true↔a=b:=by cases a<;>cases b<;>simp [nD]
theorem Fs {op:BinOp}{k:IntKind}{a b:Int}{d:D}(h:Fq op k a b=some d):fI op k a b=some d:=by
 cases op<;>simp only [Fq,Al,FQ,Nr,fI] at h ⊢<;>first
 | exact h
 | (rw [← h]; congr 2; first | rfl | simp; done | (simp only [decide_eq_decide]; omega) | (rw [← decide_not]; congr 1; simp; omega) | (rw [Bool.eq_iff_iff]; simp; done) | (rw [Bool.eq_iff_iff]; simp; omega))
theorem Cf:∀ (a b:List UInt8),AV a b=(a==b)
 | [],[]=>rfl
 | [],_::_=>rfl
 | _::_,[]=>rfl
 | x::a,y::b=>by
  simp only [AV];cases h:Nat.beq x.toNat y.toNat with
  | true =>
   have:x=y:=UInt8.toNat_inj.1 (Nat.eq_of_beq_eq_true h);subst this;simp [Cf a b]
  | false =>
   have:¬ x=y:=λq=>by subst q; simp at h
   symm
   simp [this]
theorem FP (a b:ByteArray):AV a.data.toList b.data.toList=(a.toList==b.toList):=by rw [Cf,bL,bL]
theorem Fu {op:BinOp}{a b:ByteArray}{d:D}(h:Cb op a b=some d):wR op a b=some d:=by
 cases op<;>simp only [Cb,FP] at h<;>first
 | (cases h; done)
 | exact h
 | (cases h; rfl)
 | (split at h
    . rename_i hle;rw [ble_iff] at hle;simp only [wR];have h40:(2:Nat) ^ 40=1099511627776:=by decide
      have hsz:a.size+b.size<=2 ^ 40:=by rw [h40]; exact hle
      rw [if_pos hsz,← h]
      congr 2
    . cases h)
theorem Fp {op:BinOp}{x y:V}{d:D}(h:Fj op x y=some d):dP op x y=some d:=by
 unfold Fj at h;split at h
 . split at h
   . rename_i k a k' b;split at h
     . exact h
     . rename_i hs;split at h
       . rename_i hk;have:=kindEq_iff.1 hk;subst this;have:=Fs h;cases op<;>first | (cases hs; done) | (simp only [dP,if_true]; exact this)
       . cases h
   . cases h
 . split at h
   . have:=Fu h;cases op<;>first | exact this | (simp only [dP]; exact this) | (simp [Cb] at h)
   . cases h
 . cases h
theorem zS {k:EK}{a b:D}{t:Bool}(h:CL k a b=some t):lH k a b=some t:=by
 unfold CL at h;split at h
 . rename_i a b;cases a<;>cases b<;>exact h
 . split at h
   . rename_i h1 h2;have h1:=kindEq_iff.1 h1; have h2:=kindEq_iff.1 h2;subst h1 h2;simp only [lH,and_self,if_true,← FQ]; exact h
   . cases h
 . simp only [lH,← FP]; exact h
 . cases h
theorem qY:∀ {ks:List EK} {xs ys:List V} {t:Bool},gL ks xs ys=some t->bz ks xs ys=some t
 | [],[],[],t,h=>h
 | k::ks,.d a::xs,.d b::ys,t,h=>by
  simp only [gL] at h;split at h
  . rename_i r hr;split at h
    . rename_i u hu;simp only [bz,zS hr,qY hu];rw [← h];cases r<;>rfl
    . cases h
  . cases h
 | [],[],_::_,_,h | [],_::_,_,_,h=>by simp [gL] at h
 | _::_,[],_,_,h=>by simp [gL] at h
 | _::_,.d _::_,[],_,h=>by simp [gL] at h
 | _::_,.ptr _ _::_,_,_,h | _::_,.eptr _ _::_,_,_,h | _::_,.row _ _ _ _ _::_,_,_,h | _::_,.fn _ _::_,_,_,h | _::_,.mfn _ _::_,_,_,h | _::_,.agg _::_,_,_,h | _::_,.tup _::_,_,_,h | _::_,.undef::_,_,_,h=>by simp [gL] at h
 | _::_,.d _::_,.ptr _ _::_,_,h | _::_,.d _::_,.eptr _ _::_,_,h | _::_,.d _::_,.row _ _ _ _ _::_,_,h | _::_,.d _::_,.fn _ _::_,_,h | _::_,.d _::_,.mfn _ _::_,_,h | _::_,.d _::_,.agg _::_,_,h | _::_,.d _::_,.tup _::_,_,h | _::_,.d _::_,.undef::_,_,h=>by simp [gL] at h
theorem EL {q:EQ}{a b:V}{t:Bool}(h:BQ q a b=some t):fQ q a b=some t:=by
 unfold BQ at h;split at h
 . exact zS h
 . exact qY h
 . exact h
end
section
section
variable {α:Type}
theorem Ag:∀ (n:Nat) (l:List α),wC n l=if n<=l.length then some (l.take n) else none
 | 0,l=>by simp [wC]
 | n+1,[]=>by simp [wC]
 | n+1,x::l=>by
  simp only [wC,Ag n l,ck];by_cases h:n<=l.length
  . rw [if_pos h,if_pos (by omega)]; rfl
  . rw [if_neg h,if_neg (by omega)]
theorem yT:∀ (n:Nat) (l:List α),vS n l=if n<=l.length then some (l.drop n) else none
 | 0,l=>by simp [vS]
 | n+1,[]=>by simp [vS]
 | n+1,x::l=>by
  simp only [vS,yT n l,ck];by_cases h:n<=l.length
  . rw [if_pos h,if_pos (by omega)]; rfl
  . rw [if_neg h,if_neg (by omega)]
theorem qb (cs:List α)(o n:Nat):BM cs o n=sub cs o n:=by
 unfold BM sub;rw [yT];by_cases h:o<=cs.length
 . rw [if_pos h];dsimp only;rw [Ag,List.length_drop];by_cases h2:o+n<=cs.length
   . rw [if_pos h2,if_pos (by omega)]
   . rw [if_neg h2,if_neg (by omega)]
 . rw [if_neg h,if_neg (by omega)]
theorem zH:∀ (l xs:List α),uF l xs=if xs.length<=l.length then some (xs++l.drop xs.length) else none
 | l,[]=>by cases l<;>simp [uF]
 | [],x::xs=>by simp [uF]
 | y::l,x::xs=>by
  simp only [uF,zH l xs,ck];by_cases h:xs.length<=l.length
  . rw [if_pos h,if_pos (by omega)]; rfl
  . rw [if_neg h,if_neg (by omega)]
theorem mI:∀ (l:List α) (o:Nat) (xs:List α),vE l o xs=Go.Proofs.YtllbjfmiilckiaaGreat.put l o xs
 | l,0,xs=>by
  have:vE l 0 xs=uF l xs:=by cases l<;>rfl
  rw [this,zH,jK]
 | [],o+1,xs=>by
  have:¬ (o+1+xs.length<=0):=by omega
  simp [vE,Go.Proofs.YtllbjfmiilckiaaGreat.put]
 | y::l,o+1,xs=>by
  simp only [vE,mI l o xs,jJ];cases Go.Proofs.YtllbjfmiilckiaaGreat.put l o xs<;>rfl
end
theorem beq_iff' {a b:Nat}:Nat.beq a b=true↔a=b:=⟨Nat.eq_of_beq_eq_true,λh=>by subst h; simp⟩
section
variable {β:Type}
theorem qy {e:KE}:∀ {ps:List (Nat×Nat×X)} {cs:List V} {k:List V->Option β} {r:β},tZ e cs ps k=some r->∃ cs',aN (X.ea e) cs ps=some cs'/\k cs'=some r
 | [],cs,k,r,h=>⟨cs,rfl,h⟩
 | (o,n,x)::ps,cs,k,r,h=>by
  simp only [tZ,bH] at h;simp only [aN];split at h
  . rename_i xs hxs;simp only [hxs];split at h
    . rename_i hl;rw [beq_iff'] at hl;simp only [hl,if_true];rw [mI] at h;split at h
      . rename_i cs' hp;simp only [hp];exact qy h
      . cases h
    . cases h
  . cases h
theorem zm {h:KH}(hk:h.ok){v:V}{n:Nat}{cs:List V}(hl:Cq h v n=some cs):loadAt h.hp v n=some cs:=by
 unfold Cq at hl;split at hl
 . rw [KH.get_eq hk] at hl;simp only [nE,Go.Proofs.YtllbjfmiilckiaaGreat.get_eq];split at hl
   . rename_i h1;rw [qb] at hl;simp only [h1]; exact hl
   . cases hl
 . cases hl
theorem xe {sc:Bool}{cs:List V}{k:V->Option β}{r:β}(h:mkK sc cs k=some r):∃ v,mk sc cs=some v/\k v=some r:=by
 unfold mkK at h;split at h
 . split at h
   . rw [wD] at h; exact ⟨_,rfl,h⟩
   . cases h
 . rw [Ig] at h; exact ⟨_,rfl,h⟩
theorem l8 {v:V}{k:Nat->Option β}{r:β}(h:uy v k=some r):∃ t n,v=.d (.int t (n:Nat))/\k n=some r:=by
 unfold uy at h;split at h
 . exact ⟨_,_,rfl,h⟩
 . cases h
theorem wh {v:V}{k:IntKind->Nat->Option β}{r:β}(h:xm v k=some r):∃ t n,v=.d (.int t (n:Nat))/\k t n=some r:=by
 unfold xm at h;split at h
 . exact ⟨_,_,rfl,h⟩
 . cases h
theorem gF {e:KE}{x:Option X}{d:Nat}{k:Nat->Option β}{r:β}(h:jZ e x d k=some r):∃ n,dH (X.ea e) x d=some n/\k n=some r:=by
 unfold jZ at h;split at h
 . exact ⟨d,rfl,h⟩
 . rename_i x;rw [bH] at h;obtain ⟨t,n,h1,h2⟩:=l8 h;exact ⟨n,by simp [dH,h1],h2⟩
theorem xL {h:KH}(hk:h.ok){v:V}{z:Nat}{k:Nat->List V->Option β}{r:β}(hr:G9 h v z k=some r):∃ n cs,aP h.hp v z=some (n,cs)/\k n cs=some r:=by
 unfold G9 at hr;split at hr
 . exact ⟨0,[],by simp [aP],hr⟩
 . rename_i b o len cap z';split at hr
   . rename_i hz;rw [beq_iff'] at hz;rw [KH.get_eq hk] at hr;split at hr
     . rename_i cs hc;rw [qb] at hr;split at hr
       . rename_i l hl;exact ⟨len,l,by simp [aP,hz,hc,hl],hr⟩
       . cases hr
     . cases hr
   . cases hr
 . rename_i s;split at hr
   . rename_i hz;rw [beq_iff'] at hz;refine ⟨_,_,?_,hr⟩;simp only [aP,hz,if_true,bL];rfl
   . cases hr
 . cases hr
theorem tF:∀ {cs:List V} {l:List UInt8},bytesOf cs=some l->cs.mapM (λv=>match v with | .d (.int .u8 n)=>some (UInt8.ofNat n.toNat) | _=>none)=some l
 | [],l,h=>by cases h; rfl
 | v::cs,l,h=>by
  unfold bytesOf at h;split at h
  . rename_i q; cases q
  . rename_i n l' q;cases q;split at h
    . rename_i r hr;cases h;simp [List.mapM_cons,tF hr]
    . cases h
  . cases h
def Aw (C:Calls')(CK:jX β):Prop:=∀ f args kh k r,KH.ok kh->CK f args kh k=some r->∃ v kh',C f args kh.hp=some (v,kh'.hp)/\kh'.ok/\k v kh'=some r
theorem Iy {h:KH}(hk:h.ok){z bytes m:Nat}{s:V}{xs:List V}{k:V->KH->Option β}{r:β}(hz:z≠0)(hr:MH h z bytes s m xs k=some r) :
 ∃ v kh',aK h.hp z bytes s m xs=some (v,kh'.hp)/\kh'.ok/\k v kh'=some r:=by
 unfold MH at hr;split at hr
 . split at hr
   . exact ⟨_,h,by simp [aK],hk,hr⟩
   . rename_i m;split at hr
     . rename_i hro;simp only [KH.alloc_eq,iY] at hr;refine ⟨_,_,?_,KH.alloc'_ok hk xs,hr⟩;simp [aK,hz,hro,fw hk]
     . cases hr
 . rename_i b o len cap z';split at hr
   . cases hr
   . rename_i hzz;rw [beq_iff'] at hzz;subst hzz;split at hr
     . exact ⟨_,h,by simp [aK,hz],hk,hr⟩
     . rename_i m;rw [KH.get_eq hk] at hr;split at hr
       . cases hr
       . rename_i cs hcs;have hb:b<h.n:=by rw [← fw hk]; exact aB hcs
         rw [qb] at hr;split at hr
         . cases hr
         . rename_i old hold;simp only [iY] at hr;split at hr
           . cases hr
           . rename_i hro;split at hr
             . rename_i c;split at hr
               . rename_i hle;rw [ble_iff] at hle;rw [mI] at hr;split at hr
                 . rename_i cs' hp;simp only [KH.set_eq] at hr;refine ⟨_,_,?_,KH.put'_ok hk (b:=b) (x:=.cells cs'),hr⟩;simp [aK,hz,hcs,hold,hro,hle,hp,KH.put'_hp hk hb,Hp.set]
                 . cases hr
               . rename_i hle;rw [Fv] at hle;simp only [KH.alloc_eq] at hr;refine ⟨_,_,?_,KH.alloc'_ok hk _,hr⟩;simp [aK,hz,hcs,hold,hro,show ¬ (len+(m+1)<=c) by omega,fw hk]
             . split at hr
               . split at hr
                 . rename_i hl;rw [beq_iff'] at hl;simp only [KH.set_eq,KH.alloc_eq] at hr;split at hr
                   . rename_i hpos;have hpos':=blt_iff.1 hpos;refine ⟨_,_,?_,KH.alloc'_ok (KH.put'_ok hk) _,hr⟩;simp [aK,hz,hcs,hold,hro,hl,hpos',fw hk,KH.put'_hp hk hb,Hp.set]
                   . cases hr
                 . cases hr
               . cases hr
 . split at hr
   . exact ⟨_,h,by simp [aK],hk,hr⟩
   . cases hr
 . cases hr
end
end
section
section
variable {β:Type}
theorem Ew {h:KH}(hk:h.ok){e:KE}{kd:SK}{z:Nat}{x:V}{lo hi mx:Option X}{k:V->Option β}{r:β}(hr:BG h e kd z x lo hi mx k=some r) :
 ∃ v,dU h.hp (X.ea e) kd z x lo hi mx=some v/\k v=some r:=by
 unfold BG at hr;split at hr
 . rename_i nl;obtain ⟨l,hl,hr⟩:=gF hr;obtain ⟨hh,hhh,hr⟩:=gF hr;split at hr
   . refine ⟨_,?_,hr⟩;simp [dU,hl,hhh]
   . cases hr
 . rename_i b o len cap z';obtain ⟨l,hl,hr⟩:=gF hr;obtain ⟨hh,hhh,hr⟩:=gF hr;split at hr
   . cases hr
   . rename_i hz;rw [beq_iff'] at hz;subst hz;split at hr
     . split at hr
       . cases hr
       . rename_i hc;simp only [aq,ble_iff] at hc;split at hr
         . simp only [iY] at hr;refine ⟨_,?_,hr⟩;simp [dU,hl,hhh,hc]
         . rename_i l;split at hr
           . rename_i hlt;have hlt:=blt_iff.1 hlt;simp only [iY,Uq] at hr;refine ⟨_,?_,hr⟩;simp [dU,hl,hhh,hc,hlt]
           . rename_i hlt;rw [AC] at hlt;simp only [decide_eq_false_iff_not] at hlt;refine ⟨_,?_,hr⟩;simp [dU,hl,hhh,hc,hlt]
     . rename_i m;rw [bH] at hr;obtain ⟨t,n,hm,hr⟩:=l8 hr;split at hr
       . rename_i hc;simp only [aq,Bool.or_eq_true,ble_iff,beq_iff',blt_iff] at hc;simp only [iY] at hr;refine ⟨_,?_,hr⟩;have hb:∀ m',X.ea e m'=.d (.int t n)->dH (X.ea e) (some m') 0=some n:=λm' h=>by simp [dH,h]
         simp only [dU,hl,hhh,hb _ hm];rw [if_pos ⟨hc.1.1.1.1,hc.1.1.1.2,hc.1.1.2,trivial,hc.1.2,hc.2⟩]
       . cases hr
 . rename_i s;obtain ⟨l,hl,hr⟩:=gF hr;obtain ⟨hh,hhh,hr⟩:=gF hr;split at hr
   . split at hr
     . rename_i hc;simp only [aq,ble_iff] at hc;rw [Lp] at hr;refine ⟨_,?_,hr⟩;have hsz:s.data.toList.length=s.size:=rfl;rw [hsz] at hc hhh;simp only [dU,hl,hhh,hc,and_self,if_true]
       congr 3
       apply ByteArray.ext;apply Array.ext';simp [ByteArray.data_extract,Array.toList_extract,List.extract];rw [List.drop_take]
     . cases hr
   . cases hr
 . rename_i n b o;obtain ⟨l,hl,hr⟩:=gF hr;obtain ⟨hh,hhh,hr⟩:=gF hr;split at hr
   . split at hr
     . rename_i hc;simp only [aq,ble_iff,blt_iff] at hc;rw [KH.get_eq hk] at hr;split at hr
       . rename_i cs hcs;split at hr
         . rename_i hle;rw [ble_iff] at hle;simp only [iY] at hr;have h40:(2:Nat) ^ 40=1099511627776:=by decide
           have hn40:n<=2 ^ 40:=by rw [h40]; exact hc.2
           refine ⟨_,?_,hr⟩;simp only [dU,hl,hhh,Go.Proofs.YtllbjfmiilckiaaGreat.get_eq,hcs];rw [if_pos ⟨hc.1.1.1.1,hc.1.1.1.2,hc.1.1.2,hc.1.2⟩];simp only [hle,hn40,and_self,if_true]
         . cases hr
       . cases hr
     . cases hr
   . cases hr
 . cases hr
theorem hput {h:KH}(hk:h.ok){b:Nat}{cs cs':List V}(hb:ah h.hp.bs b=some cs):(h.put' b (.cells cs')).hp=h.hp.set b cs':=by
 rw [KH.put'_hp hk (by rw [← fw hk]; exact aB hb)]; rfl
theorem GG {C:Calls'}{CK:jX β}(hC:Aw C CK){r:R}{e:KE}{h:KH}(hk:h.ok){k:V->KH->Option β}{x:β}(hr:opK CK r e h k=some x) :
 ∃ v kh',opE C r (X.ea e) h.hp=some (v,kh'.hp)/\kh'.ok/\k v kh'=some x:=by
 cases r with
 | mov a =>
  simp only [opK,bH] at hr;split at hr
  . cases hr
  . rename_i v hv;refine ⟨_,h,?_,hk,hr⟩;cases hx:X.ea e a<;>first | exact absurd hx hv | simp [hx]
 | pick c a b =>
  simp only [opK,bH] at hr;split at hr
  . rename_i t hc;split at hr
    . split at hr
      . cases hr
      . rename_i v hv;refine ⟨_,h,?_,hk,hr⟩;cases hx:X.ea e a<;>first | exact absurd hx hv | simp [hx,hc]
    . split at hr
      . cases hr
      . rename_i v hv;refine ⟨_,h,?_,hk,hr⟩;cases hx:X.ea e b<;>first | exact absurd hx hv | simp [hx,hc]
  . cases hr
 | new z =>
  simp only [opK,KH.alloc_eq] at hr;exact ⟨_,_,by simp [fw hk],KH.alloc'_ok hk z,hr⟩
 | box a =>
  simp only [opK,bH] at hr;split at hr
  . rename_i cs hcs;simp only [KH.alloc_eq] at hr;exact ⟨_,_,by simp [wT,hcs,fw hk],KH.alloc'_ok hk cs,hr⟩
  . cases hr
 | build zero ps =>
  simp only [opK] at hr;obtain ⟨cs,h1,hr⟩:=qy hr;rw [Ig] at hr;exact ⟨_,h,by simp [h1],hk,hr⟩
 | buildS z n zero ps =>
  simp only [opK] at hr;obtain ⟨cs,h1,hr⟩:=qy hr;simp only [KH.alloc_eq] at hr;exact ⟨_,_,by rw [Bi,h1]; simp [fw hk],KH.alloc'_ok hk cs,hr⟩
 | load sc n a =>
  simp only [opK,bH] at hr;split at hr
  . rename_i cs hl;obtain ⟨v,h1,hr⟩:=xe hr;exact ⟨v,h,by simp [ldv,zm hk hl,h1],hk,hr⟩
  . cases hr
 | store n a y =>
  simp only [opK,bH] at hr;split at hr
  . rename_i xs hxs;split at hr
    . rename_i hc;simp only [aq,beq_iff',blt_iff] at hc;split at hr
      . rename_i b o ha;rw [KH.get_eq hk] at hr;split at hr
        . rename_i cs hcs;rw [mI] at hr;split at hr
          . rename_i cs' hp;simp only [KH.set_eq] at hr;refine ⟨_,_,?_,KH.put'_ok hk,hr⟩;simp only [D9,stv,hxs,hc,and_self,if_true,ha,storeAt,Go.Proofs.YtllbjfmiilckiaaGreat.get_eq,hcs,hp,Option.map_some,hput hk hcs]
          . cases hr
        . cases hr
      . cases hr
    . cases hr
  . cases hr
 | nilchk a =>
  simp only [opK,bH] at hr;split at hr
  . rename_i ha; exact ⟨_,h,by simp [opE,ha],hk,hr⟩
  . rename_i ha; exact ⟨_,h,by simp [opE,ha],hk,hr⟩
  . rename_i ha; exact ⟨_,h,by simp [opE,ha],hk,hr⟩
  . cases hr
 | bin op a b =>
  simp only [opK,bH] at hr;split at hr
  . rename_i d hd;rw [KU] at hr;exact ⟨_,h,by simp [Fp hd],hk,hr⟩
  . cases hr
 | eq q neg a b =>
  simp only [opK,bH] at hr;split at hr
  . rename_i t ht;refine ⟨.d (.bool (t != neg)),h,by simp [eqv,EL ht],hk,?_⟩;cases t<;>cases neg<;>exact hr
  . cases hr
 | un op a =>
  simp only [opK,bH] at hr;split at hr
  . rename_i d hd;rw [KU] at hr;exact ⟨_,h,by simp [hd],hk,hr⟩
  . cases hr
 | convI t a =>
  simp only [opK,bH] at hr;split at hr
  . rename_i k' n ha;simp only [Lb,Al] at hr;exact ⟨_,h,by simp [opE,ha],hk,hr⟩
  . cases hr
 | convBS a =>
  simp only [opK,bH] at hr;split at hr
  . cases hr
  . rename_i v hv;obtain ⟨n,cs,h1,hr⟩:=xL hk hr;split at hr
    . rename_i l hl;rw [Lp] at hr;refine ⟨_,h,?_,hk,hr⟩;simp only [opE];rw [h1];exact congrArg (λo:Option (List UInt8)=>match o with | some l=>some (V.d (.str ⟨l.toArray⟩),h.hp) | none=>none) (tF hl)
    . cases hr
 | convSB a =>
  simp only [opK,bH] at hr;split at hr
  . rename_i s ha;split at hr
    . cases hr
    . rename_i hle;rw [ble_iff] at hle;simp only [KH.alloc_eq,iY] at hr;have h40:(2:Nat) ^ 40=1099511627776:=by decide
      have hsz:s.size<=2 ^ 40:=by rw [h40]; exact hle
      refine ⟨_,_,?_,KH.alloc'_ok hk _,hr⟩;simp only [opE,ha,if_pos hsz,bL,KH.alloc'_hp,size_eq,fw hk];rfl
  . cases hr
 | convSS a =>
  simp only [opK,bH] at hr;split at hr
  . rename_i s ha; exact ⟨_,h,by simp [opE,ha],hk,hr⟩
  . cases hr
 | fldA a off =>
  simp only [opK,bH] at hr;split at hr
  . rename_i b o ha;rw [iY] at hr;exact ⟨_,h,by simp [ha],hk,hr⟩
  . cases hr
 | fld sc a off n =>
  simp only [opK,bH] at hr;split at hr
  . rename_i cs ha;rw [qb] at hr;split at hr
    . rename_i l hl;obtain ⟨v,h1,hr⟩:=xe hr;exact ⟨v,h,by simp [ha,hl,h1],hk,hr⟩
    . cases hr
  . cases hr
 | idxA arr z a i =>
  simp only [opK,bH] at hr;obtain ⟨t,n,hi,hr⟩:=l8 hr;split at hr
  . split at hr
    . rename_i b o len cap z' ha;split at hr
      . rename_i hc;simp only [aq,beq_iff',blt_iff] at hc;rw [iY] at hr;refine ⟨_,h,?_,hk,hr⟩;simp only [zD,bg,hi,ha];rw [if_pos ⟨by omega,by omega,hc.2⟩]; simp
      . cases hr
    . cases hr
  . rename_i m;split at hr
    . rename_i b o ha;split at hr
      . rename_i hc;have hc:=blt_iff.1 hc;rw [iY] at hr;refine ⟨_,h,?_,hk,hr⟩;simp only [zD,bg,hi,ha];rw [if_pos ⟨by omega,by omega⟩]; simp
      . cases hr
    . cases hr
 | idx sc n z a i =>
  simp only [opK,bH] at hr;obtain ⟨t,m,hi,hr⟩:=l8 hr;split at hr
  . rename_i cs ha;split at hr
    . rename_i hc;have hc:=blt_iff.1 hc;rw [qb] at hr;split at hr
      . rename_i l hl;obtain ⟨v,h1,hr⟩:=xe hr;refine ⟨v,h,?_,hk,hr⟩;simp only [opE,hi,ha];rw [if_pos ⟨by omega,by omega⟩];simp [hl,h1]
      . cases hr
    . cases hr
  . cases hr
 | idxS a i =>
  simp only [opK,bH] at hr;obtain ⟨t,m,hi,hr⟩:=l8 hr;split at hr
  . rename_i s ha;rw [pE] at hr;split at hr
    . rename_i b hb;rw [iY] at hr;refine ⟨_,h,?_,hk,hr⟩;simp only [opE,hi,ha,bL];rw [if_pos (by omega)];simp [hb]
    . cases hr
  . cases hr
 | slc kd z a lo hi mx =>
  simp only [opK,bH] at hr;obtain ⟨v,h1,hr⟩:=Ew hk hr;exact ⟨v,h,by simp [h1],hk,hr⟩
 | mkfn f caps =>
  simp only [opK,oM] at hr;split at hr
  . rename_i hc; exact ⟨_,h,by simp only [GA,if_pos hc],hk,hr⟩
  . cases hr
 | mkmv f caps =>
  simp only [opK,oM] at hr;split at hr
  . rename_i hc; exact ⟨_,h,by simp only [GD,if_pos hc],hk,hr⟩
  . cases hr
 | mksl z bytes zero len cap =>
  simp only [opK,bH] at hr;obtain ⟨t,n,hl,hr1⟩:=wh hr;obtain ⟨t2,m,hcp,hr2⟩:=wh hr1;clear hr hr1;split at hr2
  . rename_i hc;simp only [aq,ble_iff] at hc;simp only [KH.alloc_eq] at hr2;split at hr2
    . rename_i hk1;simp only [aq] at hk1;have e1:=kindEq_iff.1 hk1.1;have e2:=kindEq_iff.1 hk1.2;subst e1 e2;have h30:(2:Int) ^ 30=1073741824:=by decide
      have h12:(2:Nat) ^ 12=4096:=by decide
      refine ⟨_,_,?_,KH.alloc'_ok hk _,hr2⟩;simp only [opE,hl,hcp];rw [if_pos ⟨by omega,by omega,by omega,by omega⟩];simp [fw hk]
    . cases hr2
  . cases hr2
 | ext a i =>
  simp only [opK,bH] at hr;split at hr
  . rename_i vs ha;rw [pE] at hr;split at hr
    . rename_i v hv;rw [wD] at hr;exact ⟨v,h,by simp [ha,hv],hk,hr⟩
    . cases hr
  . cases hr
 | call f args =>
  simp only [opK,bH,oM] at hr;split at hr
  . rename_i hc;split at hr
    . rename_i f' caps hf;obtain ⟨v,kh',h1,h2,h3⟩:=hC _ _ _ _ _ hk hr;exact ⟨v,kh',by simp only [zC,if_pos hc,hf,tH]; exact h1,h2,h3⟩
    . rename_i f' caps hf;obtain ⟨v,kh',h1,h2,h3⟩:=hC _ _ _ _ _ hk hr;exact ⟨v,kh',by simp only [zC,if_pos hc,hf,Dk]; exact h1,h2,h3⟩
    . cases hr
  . cases hr
 | app z bytes s a =>
  simp only [opK,bH] at hr;obtain ⟨m,xs,h1,hr⟩:=xL hk hr;split at hr
  . cases hr
  . rename_i hz;rw [iY] at hr;have hz':z≠0:=λq=>by subst q; simp at hz
    obtain ⟨v,kh',h2,h3,h4⟩:=Iy hk hz' hr;exact ⟨v,kh',by simp [fH,h1,h2],h3,h4⟩
 | len st a =>
  simp only [opK,bH] at hr;split at hr
  . rename_i ha; rw [iY] at hr; exact ⟨_,h,by simp [ha],hk,hr⟩
  . rename_i ha; exact ⟨_,h,by simp [ha],hk,hr⟩
  . rename_i s ha; rw [iY] at hr; exact ⟨_,h,by simp [ha],hk,hr⟩
  . cases hr
 | copy z a b =>
  simp only [opK,bH] at hr;obtain ⟨m,xs,h1,hr⟩:=xL hk hr;split at hr
  . rename_i b' o len cap z' ha;split at hr
    . rename_i hz;rw [beq_iff'] at hz;subst hz;rw [KH.get_eq hk] at hr;split at hr
      . rename_i cs hcs;rw [iY] at hr;split at hr
        . rename_i hmn;have hmn':min m len * z'=0:=by simpa using hmn
          refine ⟨_,h,?_,hk,hr⟩;simp only [opE,h1,ha,if_true,Go.Proofs.YtllbjfmiilckiaaGreat.get_eq,hcs,if_pos hmn'];rfl
        . rename_i n hmn;rw [mI] at hr;split at hr
          . rename_i cs' hp;simp only [KH.set_eq] at hr;have hne:¬ (min m len * z'=0):=λq=>by
             have:Nat.min m len * z'=0:=q;omega
            refine ⟨_,_,?_,KH.put'_ok hk,hr⟩;have hp':Go.Proofs.YtllbjfmiilckiaaGreat.put cs o (xs.take (min m len * z'))=some cs':=hp;simp only [opE,h1,ha,if_true,Go.Proofs.YtllbjfmiilckiaaGreat.get_eq,hcs,if_neg hne,hp',hput hk hcs];rfl
          . cases hr
      . cases hr
    . cases hr
  . cases hr
 | clear z zero a =>
  simp only [opK,bH] at hr;split at hr
  . rename_i b o len cap z' ha;split at hr
    . rename_i hz;rw [beq_iff'] at hz;subst hz;rw [KH.get_eq hk] at hr;split at hr
      . rename_i cs hcs;split at hr
        . rename_i hl;refine ⟨_,h,?_,hk,hr⟩;simp only [opE,ha,if_true,Go.Proofs.YtllbjfmiilckiaaGreat.get_eq,hcs,if_pos hl]
        . rename_i n hl;rw [mI] at hr;split at hr
          . rename_i cs' hp;simp only [KH.set_eq] at hr;refine ⟨_,_,?_,KH.put'_ok hk,hr⟩;simp only [opE,ha,if_true,Go.Proofs.YtllbjfmiilckiaaGreat.get_eq,hcs,if_neg (show ¬ (len * z'=0) by omega),hp,hput hk hcs]
          . cases hr
      . cases hr
    . cases hr
  . rename_i ha;exact ⟨_,h,by simp [opE,ha],hk,hr⟩
  . cases hr
 | minmax mx xs =>
  simp only [opK,oM] at hr;split at hr
  . rename_i hc;split at hr
    . cases hr
    . rename_i y ys hxs;split at hr
      . rename_i v hv;rw [LJ] at hr;exact ⟨v,h,by simp only [opE,if_pos hc,hxs,hv],hk,hr⟩
      . cases hr
  . cases hr
 | range a =>
  simp only [opK,bH] at hr;split at hr
  . rename_i s ha;rw [iY] at hr;refine ⟨_,_,?_,?_,hr⟩
    . simp only [opE,ha,size_eq,fw hk];simp [KH.hp]
    . simpa [KH.ok] using hk
  . cases hr
 | next a =>
  simp only [opK,bH] at hr;split at hr
  . rename_i b ha;split at hr
    . rename_i hb;have hb:=blt_iff.1 hb;have hg:h.bs[h.n-1-b]?=h.hp.bs[b]?:=by
       simp only [KH.hp];rw [List.getElem?_reverse (by rw [← hk]; exact hb),← hk]
      rw [pE,hg] at hr;split at hr
      . rename_i s pos hbk;split at hr
        . rename_i hlt;have hlt:pos<s.size:=blt_iff.1 hlt;generalize hd:Utf8.decode s pos=cw at hr;obtain ⟨c,w⟩:=cw;simp only [Lb,iY,KH.put_eq] at hr;refine ⟨_,_,?_,KH.put'_ok hk (b:=b) (x:=.iter s (pos+w)),hr⟩;rw [KH.put'_hp hk hb];simp only [opE,ha,hbk,if_pos hlt,hd];rfl
        . rename_i hlt;rw [AC] at hlt;have hlt:¬ pos<s.size:=by simpa using hlt
          exact ⟨_,h,by simp only [opE,ha,hbk,if_neg hlt],hk,hr⟩
      . cases hr
    . cases hr
  . cases hr
end
end
section
section
variable {β:Type}{C:Calls'}{CK:jX β}
theorem wJ (e:KE)(i:Nat):KE.get e i=EA.get e i:=wZ e i
theorem rZ (hC:Aw C CK):∀ {os:List RO} {e:KE} {h:KH} {k:KE->KH->Option β} {x:β},h.ok->zG CK os e h k=some x->∃ e' h',fO C os e h.hp=some (e',KH.hp h')/\h'.ok/\k e' h'=some x
 | [],e,h,k,x,hk,hr=>⟨e,h,rfl,hk,hr⟩
 | o::os,e,h,k,x,hk,hr=>by
  have hr:(match o.g with
   | none=>opK CK o.r e h λv h'=>zG CK os (bO e o.d v) h' k
   | some (j,want)=>match KE.get e j with
    | .d (.bool t)=>match t,want with
     | true,true | false,false=>opK CK o.r e h λv h'=>zG CK os (bO e o.d v) h' k
     | _,_=>zG CK os (bO e o.d (.tup [])) h k
    | .tup []=>zG CK os (bO e o.d (.tup [])) h k
    | _=>none)=some x:=hr
  have go:(opK CK o.r e h λv h'=>zG CK os (bO e o.d v) h' k)=some x->∃ e' h',(match opE C o.r (X.ea e) h.hp with
   | some (v,h')=>fO C os (bO e o.d v) h'
   | none=>none)=some (e',KH.hp h')/\h'.ok/\k e' h'=some x:=by
   intro hr;obtain ⟨v,h1,k1,k2,k3⟩:=GG hC hk hr;rw [k1];exact rZ hC k2 k3
  simp only [fO];split at hr
  . rename_i hg;simp only [hg];exact go hr
  . rename_i j want hg;simp only [hg];rw [wJ] at hr;split at hr
    . rename_i t ht;simp only [ht];split at hr
      . simp only [if_true]; exact go hr
      . simp only [if_true]; exact go hr
      . rename_i h1 h2;rw [if_neg (by rintro rfl; cases t<;>simp_all)];exact rZ hC hk hr
    . rename_i ht;simp only [ht];exact rZ hC hk hr
    . cases hr
theorem Jh (hC:Aw C CK){r:R}{e:KE}{h:KH}(hk:h.ok){k:V->KH->Tr->Option β}{x:β}(hr:zA CK r e h k=some x) :
 ∃ v kh' t t',bZ C r (X.ea e) h.hp=some (v,KH.hp kh',t')/\t.le t'/\kh'.ok/\k v kh' t=some x:=by
 cases r with
 | call f args =>
  simp only [zA,bH,oM] at hr;split at hr
  . rename_i hc;split at hr
    . rename_i f' caps hf;have hk0:KH.ok ⟨h.n,h.bs,h.n⟩:=hk;obtain ⟨v,kh',h1,h2,h3⟩:=hC _ _ _ _ _ hk0 hr;have hp0:KH.hp ⟨h.n,h.bs,h.n⟩=⟨h.hp.bs,h.hp.bs.length⟩:=by simp [KH.hp,hk.symm]
      rw [hp0] at h1;have hop:bZ C (.call f args) (X.ea e) h.hp=(if h.hp.bs.length<=kh'.hp.low then
       (if kh'.hp.bs.length=h.hp.bs.length then some (v,h.hp,⟨true,false,[],[],h.hp.bs.length,h.hp.bs.length,0⟩)
       else some (v,⟨kh'.hp.bs,h.hp.low⟩,⟨true,false,[],[],h.hp.bs.length,kh'.hp.bs.length,0⟩))
       else some (v,⟨kh'.hp.bs,min h.hp.low kh'.hp.low⟩,⟨true,true,[],[],h.hp.bs.length,kh'.hp.bs.length,⟨kh'.hp.low,uu h.hp.bs kh'.hp.bs⟩⟩)):=by
       rw [aa,if_pos hc,hf,tH,h1]
      rw [hop];have l1:=fw hk;have l2:=fw h2;split at h3
      . rename_i hle;rw [ble_iff] at hle;rw [if_pos (by rw [l1]; exact hle)];split at h3
        . rename_i hn;rw [beq_iff'] at hn;rw [if_pos (by rw [l1,l2]; exact hn),l1];exact ⟨v,h,_,_,rfl,Tr.le.refl _,hk,h3⟩
        . rename_i hn;have hn:¬ kh'.n=h.n:=λq=>by rw [beq_iff'.2 q] at hn; cases hn
          rw [if_neg (by rw [l1,l2]; exact hn),l1,l2];exact ⟨v,⟨kh'.n,kh'.bs,h.low⟩,_,_,rfl,Tr.le.refl _,h2,h3⟩
      . rename_i hle;rw [Fv] at hle;rw [if_neg (by rw [l1]; exact Nat.not_le.2 hle),l1,l2];rw [Cs] at h3;exact ⟨v,⟨kh'.n,kh'.bs,min h.low kh'.low⟩,⟨true,true,[],[],h.n,kh'.n,⟨kh'.low,[]⟩⟩,_,rfl,⟨rfl,rfl,rfl,rfl,rfl,rfl,rfl,λb hb=>by simp at hb⟩,h2,h3⟩
    . cases hr
  . cases hr
 | _ =>
  simp only [zA] at hr;obtain ⟨v,kh',h1,h2,h3⟩:=GG hC hk hr;refine ⟨v,kh',_,_,?_,Tr.le.refl _,h2,h3⟩;simp only [bZ,h1];rw [fw hk,fw h2];rfl
theorem xO (hC:Aw C CK):∀ {os:List RO} {e:KE} {h:KH} {k:List Tr->KE->KH->Option β} {x:β},h.ok->xN CK os e h k=some x->∃ l l' e' h',eZ C os e h.hp=some (l',e',KH.hp h')/\TrsLe l l'/\h'.ok/\k l e' h'=some x
 | [],e,h,k,x,hk,hr=>⟨[],[],e,h,rfl,trivial,hk,hr⟩
 | o::os,e,h,k,x,hk,hr=>by
  have hr:(match o.g with
   | none=>zA CK o.r e h λv h' t=>xN CK os (bO e o.d v) h' λl=>k (t::l)
   | some (j,want)=>match KE.get e j with
    | .d (.bool t)=>match t,want with
     | true,true | false,false=>zA CK o.r e h λv h' t=>xN CK os (bO e o.d v) h' λl=>k (t::l)
     | _,_=>xN CK os (bO e o.d (.tup [])) h λl=>k (⟨false,false,[],[],h.n,h.n,0⟩::l)
    | .tup []=>xN CK os (bO e o.d (.tup [])) h λl=>k (⟨false,false,[],[],h.n,h.n,0⟩::l)
    | _=>none)=some x:=hr
  have go:(zA CK o.r e h λv h' t=>xN CK os (bO e o.d v) h' λl=>k (t::l))=some x->∃ l l' e' h',Eu C os e o.d (bZ C o.r (X.ea e) h.hp)=some (l',e',KH.hp h')/\TrsLe l l'/\h'.ok/\k l e' h'=some x:=by
   intro hr;obtain ⟨v,h1,t,t',k1,kt,k2,k3⟩:=Jh hC hk hr;obtain ⟨l,l',e',h',q1,ql,q2,q3⟩:=xO hC k2 k3;exact ⟨t::l,t'::l',e',h',by rw [k1,Pf,q1]; rfl,⟨kt,ql⟩,q2,q3⟩
  have sk:(xN CK os (bO e o.d (.tup [])) h λl=>k (⟨false,false,[],[],h.n,h.n,0⟩::l))=some x->∃ l l' e' h',runT (aM h.hp) (eZ C os (bO e o.d (.tup [])) h.hp)=some (l',e',KH.hp h')/\TrsLe l l'/\h'.ok/\k l e' h'=some x:=by
   intro hr;obtain ⟨l,l',e',h',q1,ql,q2,q3⟩:=xO hC hk hr;refine ⟨aM h.hp::l,aM h.hp::l',e',h',by rw [q1,Pg],⟨Tr.le.refl _,ql⟩,q2,?_⟩;rw [aM,fw hk]; exact q3
  obtain ⟨g,d,r⟩:=o;cases g with
  | none=>rw [Es]; exact go hr
  | some jw =>
   obtain ⟨j,want⟩:=jw;rw [Kv];dsimp only at hr go sk;rw [wJ] at hr;split at hr
   . rename_i t ht;rw [ht];split at hr
     . exact go hr
     . exact go hr
     . rename_i h1 h2;have hne:¬ t=want:=by rintro rfl; cases t<;>simp_all
       unfold uj;simp only [if_neg hne];exact sk hr
   . rename_i ht;rw [ht];exact sk hr
   . cases hr
theorem gN (hC:Aw C CK):∀ {n:Nat} {c:QC} {e:KE} {h:KH} {k:Ex->KE->KH->Option β} {x:β},h.ok->lQ CK n c e h k=some x->∃ ex e' h',aV C n c e h.hp=some (ex,e',KH.hp h')/\h'.ok/\k ex e' h'=some x
 | 0,c,e,h,k,x,hk,hr=>by cases hr
 | n+1,c,e,h,k,x,hk,hr=>by
  cases c with
  | skip=>exact ⟨_,e,h,rfl,hk,hr⟩
  | ret l =>
   have hr:oK e l (λe=>k .ret e h)=some x:=hr;rw [ut] at hr;exact ⟨_,_,h,rfl,hk,hr⟩
  | exit i l =>
   have hr:oK e l (λe=>k (.exit i) e h)=some x:=hr;rw [ut] at hr;exact ⟨_,_,h,rfl,hk,hr⟩
  | reg pr os =>
   cases pr with
   | none =>
    obtain ⟨e',h',k1,k2,k3⟩:=rZ hC hk (show zG CK os e h (λe h=>k .normal e h)=some x from hr);exact ⟨_,e',h',by simp only [aV,k1,Gj],k2,k3⟩
   | some pr =>
    obtain ⟨l,l',e',h',k1,kl,k2,k3⟩:=xO hC hk (show xN CK os e h (λl e h=>match aG pr l with
     | true=>k .normal e h
     | false=>none)=some x from hr)
    cases hap:aG pr l with
    | true =>
     rw [hap] at k3;exact ⟨_,e',h',by simp only [aV,aA,k1,kl.apart hap,if_true,Gj],k2,k3⟩
    | false=>rw [hap] at k3; cases k3
  | seq a b =>
   obtain ⟨ex,e1,h1,k1,k2,k3⟩:=gN hC hk (show lQ CK n a e h (λex e h=>match ex with
    | .normal=>lQ CK n b e h k
    | .ret=>k .ret e h
    | .exit i=>k (.exit i) e h)=some x from hr)
   cases ex with
   | normal =>
    obtain ⟨ex2,e2,h2,q1,q2,q3⟩:=gN hC k2 k3;exact ⟨ex2,e2,h2,by simp only [aV,k1,dx]; exact q1,q2,q3⟩
   | ret=>exact ⟨_,e1,h1,by simp only [aV,k1,dx],k2,k3⟩
   | exit i=>exact ⟨_,e1,h1,by simp only [aV,k1,dx],k2,k3⟩
  | cond cx a b =>
   have hr:(cx.kev e λv=>match v with
    | .d (.bool t)=>match t with
     | true=>lQ CK n a e h k
     | false=>lQ CK n b e h k
    | _=>none)=some x:=hr
   rw [bH] at hr;split at hr
   . rename_i t ht;split at hr
     . obtain ⟨ex,e1,h1,k1,k2,k3⟩:=gN hC hk hr;exact ⟨ex,e1,h1,by simp only [aV,ht,fork]; exact k1,k2,k3⟩
     . obtain ⟨ex,e1,h1,k1,k2,k3⟩:=gN hC hk hr;exact ⟨ex,e1,h1,by simp only [aV,ht,fork]; exact k1,k2,k3⟩
   . cases hr
  | block i b =>
   obtain ⟨ex,e1,h1,k1,k2,k3⟩:=gN hC hk (show lQ CK n b e h (λex e h=>match ex with
    | .exit j=>match Nat.beq j i with
     | true=>k .normal e h
     | false=>k (.exit j) e h
    | .normal=>k .normal e h
    | .ret=>k .ret e h)=some x from hr)
   cases ex with
   | exit j =>
    cases hj:Nat.beq j i with
    | true =>
     simp only [hj] at k3;exact ⟨_,e1,h1,by simp only [aV,k1,leave,if_pos (beq_iff'.1 hj)],k2,k3⟩
    | false =>
     simp only [hj] at k3;have hne:¬ j=i:=λq=>by rw [beq_iff'.2 q] at hj; cases hj
     exact ⟨_,e1,h1,by simp only [aV,k1,leave,if_neg hne],k2,k3⟩
   | normal=>exact ⟨_,e1,h1,by simp only [aV,k1,leave],k2,k3⟩
   | ret=>exact ⟨_,e1,h1,by simp only [aV,k1,leave],k2,k3⟩
  | loop keep b =>
   have hr:oK e keep (λe=>lQ CK n b e h λex e h=>match ex with
    | .normal=>lQ CK n (.loop keep b) e h k
    | .ret=>k .ret e h
    | .exit i=>k (.exit i) e h)=some x:=hr
   rw [ut] at hr;obtain ⟨ex,e1,h1,k1,k2,k3⟩:=gN hC hk hr;cases ex with
   | normal =>
    obtain ⟨ex2,e2,h2,q1,q2,q3⟩:=gN hC k2 k3;exact ⟨ex2,e2,h2,by simp only [aV,k1,dx]; exact q1,q2,q3⟩
   | ret=>exact ⟨_,e1,h1,by simp only [aV,k1,dx],k2,k3⟩
   | exit i=>exact ⟨_,e1,h1,by simp only [aV,k1,dx],k2,k3⟩
theorem sP {h:KH}(hk:h.ok){e:KE}:∀ {l:List RV} {k:List V->Option β} {x:β},zN h e l k=some x->∃ vs,lG h.hp e l=some vs/\k vs=some x
 | [],k,x,hr=>⟨[],rfl,hr⟩
 | .tmp t::l,k,x,hr=>by
  simp only [zN,wD,wJ] at hr;split at hr
  . cases hr
  . rename_i v hv;obtain ⟨vs,h1,h2⟩:=sP hk hr;refine ⟨_,?_,h2⟩;simp only [lG,h1];cases hx:EA.get e t<;>first | exact absurd hx hv | rfl
 | .cell t sc n::l,k,x,hr=>by
  simp only [zN,wJ] at hr;split at hr
  . rename_i cs hl;obtain ⟨v,h1,hr⟩:=xe hr;obtain ⟨vs,h2,h3⟩:=sP hk hr;exact ⟨_,by simp only [lG,zm hk hl,h1,h2],h3⟩
  . cases hr
theorem xR {F:FuncId->Option QF}{E:Calls'}:∀ (m:Nat),Aw (dM E F (λ_=>false) m) (Hg (β:=β) F m)
 | 0=>λf args kh k r _ hr=>by cases hr
 | m+1=>by
  intro f args kh k r hk hr;have ih:=xR (F:=F) (E:=E) m;have hr:(match F f with
   | none=>none
   | some rf=>lQ (Hg F m) m rf.code (jg 0 args) ⟨kh.n,kh.bs,kh.n⟩ λex e h'=>match ex with
    | .exit _=>none
    | _=>zN h' e rf.res λvs=>vH (bD vs) λr=>match Nat.ble kh.n h'.low&&V.under kh.n r with
     | true=>k r kh
     | false=>Bb kh.low h'.low λlow=>k r ⟨h'.n,h'.bs,low⟩)=some r:=hr
  cases hF:F f with
  | none=>rw [hF] at hr; cases hr
  | some q =>
   simp only [hF] at hr;have hk0:KH.ok ⟨kh.n,kh.bs,kh.n⟩:=hk;have hp0:KH.hp ⟨kh.n,kh.bs,kh.n⟩=⟨kh.hp.bs,kh.hp.bs.length⟩:=by simp [KH.hp,hk.symm]
   obtain ⟨ex,e1,h1,k1,k2,k3⟩:=gN ih hk0 hr;rw [hp0] at k1;have fin:∀ vs,lG h1.hp e1 q.res=some vs->(match Nat.ble kh.n h1.low&&V.under kh.n (bD vs) with
    | true=>k (bD vs) kh
    | false=>Bb kh.low h1.low λlow=>k (bD vs) ⟨h1.n,h1.bs,low⟩)=some r->jh (dM E F (λ_=>false) m) m q args ⟨kh.hp.bs,kh.hp.bs.length⟩=some (bD vs,h1.hp) →
    ∃ v kh',dM E F (λ_=>false) (m+1) f args kh.hp=some (v,KH.hp kh')/\kh'.ok/\k v kh'=some r:=by
    intro vs hvs h3 hbody;have l1:=fw hk;have hop:dM E F (λ_=>false) (m+1) f args kh.hp=(if kh.hp.bs.length<=h1.hp.low/\(bD vs).under kh.hp.bs.length=true then some (bD vs,kh.hp) else some (bD vs,⟨h1.hp.bs,min kh.hp.low h1.hp.low⟩)):=by
     simp only [dM,hF,bo,if_false,hbody,dL]
    rw [hop,l1];split at h3
    . rename_i hc;simp only [aq,ble_iff] at hc;rw [if_pos (show kh.n<=h1.hp.low/\_ from hc)];exact ⟨_,kh,rfl,hk,h3⟩
    . rename_i hc;have hc:¬ (kh.n<=h1.low/\V.under kh.n (bD vs)=true):=λq=>by
       rw [ble_iff.2 q.1,q.2] at hc; cases hc
      rw [if_neg (show ¬ (kh.n<=h1.hp.low/\_) from hc)];rw [Cs] at h3;exact ⟨_,⟨h1.n,h1.bs,min kh.low h1.low⟩,rfl,k2,h3⟩
   split at k3
   . cases k3
   . obtain ⟨vs,hv1,hv2⟩:=sP k2 k3;rw [wD] at hv2;refine fin vs hv1 hv2 ?_;cases ex with
     | normal=>simp only [jh,k1,done,hv1]
     | ret=>simp only [jh,k1,done,hv1]
     | exit i=>rename_i hne; exact absurd rfl (hne i)
end
theorem closed {F:FuncId->Option QF}{E:Calls'}{n:Nat}{f:FuncId}{args:List V}{b:Bool}(h:Hg (β:=Bool) F n f args ⟨0,[],0⟩ (λv _=>match v with | .d (.bool b)=>some b | _=>none)=some b) :
 ∃ h',dM E F (λ_=>false) n f args ⟨[],0⟩=some (.d (.bool b),h'):=by
 obtain ⟨v,kh',h1,h2,h3⟩:=xR (β:=Bool) (E:=E) n f args ⟨0,[],0⟩ _ b rfl h;split at h3
 . cases h3;exact ⟨_,h1⟩
 . cases h3
end
section
inductive Tab where
 | leaf
 | node (l:Tab) (k:Nat) (v:QF) (r:Tab)
noncomputable def Tab.look (t:Tab) (n:Nat):Option QF :=
 Tab.rec (motive:=λ_=>Option QF) none (λ_ k v _ il ir=>Bool.rec (Bool.rec ir il (Nat.blt n k)) (some v) (Nat.beq n k)) t
def Tab.All (P:Program):Tab->Prop
 | .leaf=>True
 | .node l k v r=>l.All P/\QOk P k v/\r.All P
def Tab.list:Tab->List (Nat×QF)
 | .leaf=>[]
 | .node l k v r=>(k,v)::(l.list++r.list)
theorem Tab.all_of {P:Program}:∀ {t:Tab},(∀ p∈t.list,QOk P p.1 p.2)->t.All P
 | .leaf,_=>trivial
 | .node l k v r,h=>⟨Tab.all_of λp hp=>h p (by simp [Tab.list,hp]),h (k,v) (by simp [Tab.list]),Tab.all_of λp hp=>h p (by simp [Tab.list,hp])⟩
theorem Tab.look_ok {P:Program}:∀ {t:Tab},t.All P->jy P t.look
 | .leaf,_=>λf q h=>by cases h
 | .node l k v r,ha=>λf q h=>by
  have h:(Bool.rec (Bool.rec (r.look f) (l.look f) (Nat.blt f k)) (some v) (Nat.beq f k):Option QF)=some q:=h;cases hb:Nat.beq f k with
  | true =>
   rw [hb] at h;cases h;have:=Nat.eq_of_beq_eq_true hb;subst this;exact ha.2.1
  | false =>
   rw [hb] at h;cases hc:Nat.blt f k with
   | true=>rw [hc] at h; exact Tab.look_ok ha.1 f q h
   | false=>rw [hc] at h; exact Tab.look_ok ha.2.2 f q h
def Fx (v:V):Option Bool:=match v with
 | .d (.bool b)=>some b
 | _=>none
noncomputable def Lm (F:FuncId->Option QF) (n:Nat) (q:QF):Option Bool :=
 lQ (β:=Bool) (Hg F n) n q.code [] ⟨0,[],0⟩ λex e h'=>match ex with
  | .exit _=>none
  | _=>zN h' e q.res λvs=>Fx (bD vs)
def known (f0:FuncId)(b:Bool):Calls':=λf args h=>if f=f0/\args=[] then some (.d (.bool b),h) else none
def nobody:Calls':=λ_ _ _=>none
theorem D7 (P:Program):aQ P nobody:=λ_ _ _ _ _ h=>by cases h
def Ld (o:Option Bool):Bool:=match o with
 | some true=>true
 | _=>false
theorem Gx {o:Option Bool}(h:Ld o=true):o=some true:=by
 unfold Ld at h;split at h
 . rfl
 . cases h
theorem Gg {P:Program}(hmix:P.follows .mixedOrders=true){F:FuncId->Option QF}(hF:jy P F){f0:FuncId}{q:QF}(hq:QOk P f0 q)(hf0:F f0=none){n:Nat}{b:Bool}(h:Lm F n q=some b):aQ P (known f0 b):=by
 let E':Calls':=dM nobody F (λ_=>false) n
 let T:FuncId->Option QF:=λf=>if f=f0 then some q else none
 let val:FuncId->Bool:=λf=>decide (f=f0)
 have hE':aQ P E':=xQ hmix (D7 P) hF _ n;have hT:jy P T:=by
  intro f q' hh;simp only [T] at hh;split at hh
  . rename_i e; subst e; cases hh; exact hq
  . cases hh
 have hsim:Aw (dM E' T val (n+1)) (Hg (β:=Bool) F n):=by
  intro f args kh k r hk hr;have hne:f≠f0:=by
   intro e; subst e;cases n with
   | zero=>cases hr
   | succ n =>
    have hr:(match F f with
     | none=>none
     | some rf=>_)=some r:=hr
    rw [hf0] at hr; cases hr
  obtain ⟨v,kh',h1,h2,h3⟩:=xR (E:=nobody) n f args kh k r hk hr;refine ⟨v,kh',?_,h2,h3⟩;simp only [dM,T,if_neg hne];exact h1
 obtain ⟨ex,e1,h1,k1,k2,k3⟩:=gN hsim (show KH.ok ⟨0,[],0⟩ from rfl) h;have hb:jh (dM E' T val (n+1)) (n+1) q [] ⟨[],0⟩=some (.d (.bool b),h1.hp):=by
  have k1':=aX (Leq.refl _) (Nat.le_succ n) k1;split at k3
  . cases k3
  . rename_i hne;obtain ⟨vs,hv1,hv2⟩:=sP k2 k3;have:bD vs=.d (.bool b):=by
     unfold Fx at hv2;split at hv2
     . rename_i e; cases hv2; exact e
     . cases hv2
    unfold jh;have k1'':aV (dM E' T val (n+1)) (n+1) q.code (jg 0 []) ⟨[],0⟩=some (ex,e1,h1.hp):=k1';rw [k1''];cases ex with
    | normal=>simp only [done,hv1,this]
    | ret=>simp only [done,hv1,this]
    | exit i=>exact absurd rfl (hne i)
 have hsem:∀ h,dM E' T val (n+2) f0 [] h=some (.d (.bool b),h):=by
  intro h;have hval:val f0=true:=by simp [val]
  have hTf:T f0=some q:=by simp [T]
  have hstep:dM E' T val (n+1+1) f0 [] h=ng [] h (some []) λas1=>jh (dM E' T val (n+1)) (n+1) q as1 ⟨[],0⟩:=by
   rw [dM];dsimp only;rw [hTf];dsimp only;rw [if_pos hval];rfl
  rw [show n+2=n+1+1 from rfl,hstep];simp only [ng,hb];rfl
 intro f args h r h' hm;unfold known at hm;split at hm
 . rename_i e;obtain ⟨rfl,rfl⟩:=e;cases hm;exact xQ hmix hE' hT val (n+2) _ _ _ _ _ (hsem h)
 . cases hm
end
