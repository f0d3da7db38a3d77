/- Loops that look at one thing after the other; names, terms, as the document has them. -/
import Derived.Test.YtmcchclfpneglaaGreatCp
import Derived.Test.YtmcchclfpneglaaGreatWo
set_option maxRecDepth 100000
set_option linter.unusedVariables false
set_option linter.unusedSimpArgs false
namespace Go.Proofs.YtmcchclfpneglaaGreat
open IntKind (wrap)
section
section
variable {E:Calls'}{T:FuncId->Option QF}{val:FuncId->Bool}
def fO {α:Type}(q:Nat->α->Bool):Nat->List α->Bool
 | _,[]=>true
 | i,x::l=>q i x&&fO q (i+1) l
theorem Ai {α:Type}(q:α->Bool):∀ (l:List α) (i:Nat),fO (fun _ x=>q x) i l=l.all q
 | [],_=>rfl
 | x::l,i=>by simp [fO,Ai q l]
theorem sW {keep:List Nat}{body:QC}{α:Type}(l:List α)(q:Nat->α->Bool)(env:Nat->EA)(h:Hp)(R X:Ex×EA×Hp)
 (hr:∀ i x,l[i]?=some x->i<l.length->∀ W:EA->Hp->fZ,eD keep W (Cd E T val body (bU keep (env i)) h)=cond (q i x) (W (env (i+1)) h) (some R))
 (he:∀ W:EA->Hp->fZ,eD keep W (Cd E T val body (bU keep (env l.length)) h)=some X) :
 Cd E T val (.loop keep body) (env 0) h=some (cond (fO q 0 l) X R):=by
 have:∀ (m i:Nat),i+m=l.length->Cd E T val (.loop keep body) (env i) h=some (cond (fO q i (l.drop i)) X R):=by
  intro m;have key:=aC (E:=E) (T:=T) (val:=val) keep body;generalize Cd E T val (.loop keep body)=W at key ⊢
  induction m with
  | zero =>
   intro i hi;rw [key,show i=l.length by omega,he W,List.drop_length];rfl
  | succ m ih =>
   intro i hi;have hlt:i<l.length:=by omega
   rw [key,hr i _ (ac hlt) hlt W,ih (i+1) (by omega),aw hlt,fO];cases q i l[i]<;>simp
 simpa using this l.length 0 (by omega)
theorem bS {keep:List Nat}{body:QC}{α:Type}(l:List α)(q:α->Bool)(env:Nat->EA)(h:Hp)(R X:Ex×EA×Hp)
 (hr:∀ i x,l[i]?=some x->i<l.length->∀ W:EA->Hp->fZ,eD keep W (Cd E T val body (bU keep (env i)) h)=cond (q x) (W (env (i+1)) h) (some R))
 (he:∀ W:EA->Hp->fZ,eD keep W (Cd E T val body (bU keep (env l.length)) h)=some X) :
 Cd E T val (.loop keep body) (env 0) h=some (cond (l.all q) X R):=by
 rw [sW l (fun _=>q) env h R X hr he,Ai]
end
def am8:List (Nat×QF):=[(8,q35),(11,q38),(19,q89),(26,q95),(28,q97),(29,q98),(30,q99),(79,Pj),(81,Pk),(84,Pm),(85,Pn),(86,Po),(87,Pp),(88,Pq),(89,Ps),(90,Pt),(91,Pv),(137,qb),(134,PP),(135,PQ),(136,Dm),(138,PR),(139,PS),(140,PT),(165,Gp),(211,Gq),(212,Dn),(213,Jh),(214,Qa),(250,Jj),(251,zF),(271,Ql)]
def TX:FuncId->Option QF:=kz am8
def aM (f:FuncId):Bool:=[8,11,19,26,28,29,30,79,81,84,85,86,87,88,90,91,137,134,135,136,140,165,211,212,213,214,250,251,271].any fun n=>Nat.beq n f
variable {E:Calls'}
def nR (b:UInt8):Bool:=!((!((b.toNat:Int)==45))&&(decide ((b.toNat:Int)<48)||decide ((b.toNat:Int)>57))&&(decide ((b.toNat:Int)<97)||decide ((b.toNat:Int)>122)))
theorem XE (s:ByteArray)(hs:s.size<2 ^ 62):Cd E TX aM (.loop [0,3] rR) [(0,.d (.str s)),(3,.d (i64 ((0:Nat):Int)))] ⟨[],0⟩=some (cond (s.toList.all nR) (.exit 0,[],⟨[],0⟩) (.ret,[(2,bl false)],⟨[],0⟩)):=by
 have hsl:=fw s;refine bS s.toList nR (fun i=>[(0,.d (.str s)),(3,.d (i64 i))]) _ _ _ (fun i b hb hi W=>?_) (fun W=>?_)
 · have hx:=fun h=>gU (h:=h) hb;have hw:=ak (show i<s.size by omega) hs;have h0:((i:Int)<s.size):=by omega
   by_cases c1:(b.toNat:Int)=45
   · simp [rR,hx,h0,hw,nR,c1]
   · by_cases c2:(b.toNat:Int)<48<;>by_cases c3:(b.toNat:Int)>57<;>by_cases c4:(b.toNat:Int)<97<;>by_cases c5:(b.toNat:Int)>122<;>first
      | (exfalso; omega)
      | simp [rR,hx,h0,hw,nR,c1,c2,c3,c4,c5]
 · simp [rR,hsl]
theorem xZ (n:Nat):∀ (l:List UInt8) (i:Nat),i+l.length=n->ky n i l=(!(l.all nR)||(i==0&&l.head?==some 45)||l.getLast?==some 45)
 | [],i,_=>by simp [ky]
 | b::l,i,h=>by
  have hb:b.toNat<256:=b.toNat_lt;have h45:(b==45)=((b.toNat:Int)==45):=by
   rw [Bool.eq_iff_iff];simp only [beq_iff_eq];constructor
   · rintro rfl; rfl
   · intro h; exact UInt8.toNat_inj.1 (show b.toNat=45 by omega)
  rw [ky,xZ n l (i+1) (by simp at h ⊢; omega)];simp only [cf] at h;cases l with
  | nil =>
   have e1:((i:Int)+1==n)=true:=by simp at h ⊢; omega
   simp only [xE,e1,nR,List.all_cons,List.all_nil,List.head?_cons,List.head?_nil,List.getLast?_singleton,List.getLast?_nil,Option.some_beq_some,h45];by_cases c1:(b.toNat:Int)=45
   · simp [c1]
   · by_cases c2:(b.toNat:Int)<48<;>by_cases c3:(b.toNat:Int)>57<;>by_cases c4:(b.toNat:Int)<97<;>by_cases c5:(b.toNat:Int)>122<;>first
      | (exfalso; omega)
      | (simp [c1,c2,c3,c4,c5]; try omega)
  | cons b' l' =>
   have e1:((i:Int)+1==n)=false:=by simp at h ⊢; omega
   have e2:(i+1==0)=false:=by simp
   have e3:((i:Int)==0)=(i==0):=by
    rw [Bool.eq_iff_iff]; simp
   rw [List.getLast?_cons_cons];simp only [xE,e1,e2,e3,nR,List.all_cons,List.head?_cons,Option.some_beq_some,h45];generalize (l'.all nR)=A;generalize ((b'::l').getLast?==some 45)=B;generalize (i==0)=I;by_cases c1:(b.toNat:Int)=45
   · cases I<;>simp [c1]
   · by_cases c2:(b.toNat:Int)<48<;>by_cases c3:(b.toNat:Int)>57<;>by_cases c4:(b.toNat:Int)<97<;>by_cases c5:(b.toNat:Int)>122<;>first
      | (exfalso; omega)
      | (simp [c1,c2,c3,c4,c5]; try omega)
theorem bh5:TX 136=some Dm:=by kernel_rfl
theorem be2:aM 136=true:=by kernel_rfl
theorem Ba (s:ByteArray):bf s=(decide ((s.size:Int)>=1)&&decide ((s.size:Int)<=20)&&!(s.toList.head?==some 45)&&!(s.toList.getLast?==some 45)&&s.toList.all nR):=by
 rw [bf,xZ s.size s.toList 0 (by simp [fw])];generalize s.toList.all nR=A;generalize (s.toList.head?==some 45)=B;generalize (s.toList.getLast?==some 45)=C;generalize decide ((s.size:Int)>=1)=F;generalize decide ((s.size:Int)<=20)=G;cases A<;>cases B<;>cases C<;>cases F<;>cases G<;>rfl
theorem M9 (b:UInt8):(some b==some 45)=((b.toNat:Int)==45):=by
 rw [Option.some_beq_some,Bool.eq_iff_iff];simp only [beq_iff_eq];constructor
 · rintro rfl; rfl
 · intro h; exact UInt8.toNat_inj.1 (show b.toNat=45 by omega)
theorem Kc (s:ByteArray)(hs:s.size<=big)(h:Hp):Sm E TX aM 136 [.d (.str s)] h=some (bl (bf s),h):=by
 rw [aV bh5 be2,Ba];have hs2:s.size<2 ^ 62:=cd hs (by decide);have k1:=XE (E:=E) s hs2;have hsl:=fw s;by_cases c1:(s.size:Int)<1
 · simp [ae,Dm,c1,show ¬ ((s.size:Int)>=1) from by omega]
 by_cases c2:(s.size:Int)>20
 · simp [ae,Dm,c1,c2,show ¬ ((s.size:Int)<=20) from by omega]
 have h0:s.toList≠[]:=by intro h; rw [h] at hsl; simp at hsl; omega
 obtain ⟨b0,hb0⟩:∃ b,s.toList.head?=some b:=by
  cases hc:s.toList with
  | nil=>exact absurd hc h0
  | cons b l=>exact ⟨b,rfl⟩
 obtain ⟨b1,hb1⟩:∃ b,s.toList.getLast?=some b:=⟨_,List.getLast?_eq_some_getLast h0⟩;have hx0:∀ h,uC (.d (.str s)) (.d (i64 0)) h=some (.d (.int .u8 b0.toNat),h):=fun h=>gU (k:=0) (by rw [← List.head?_eq_getElem?]; exact hb0);have hx1:∀ h,uC (.d (.str s)) (.d (i64 ((s.size:Int)-1))) h=some (.d (.int .u8 b1.toNat),h):=fun h=>by
  have:=gU (k:=s.size-1) (h:=h) (by rw [← hsl,← List.getLast?_eq_getElem?]; exact hb1)
  rwa [show ((s.size-1:Nat):Int)=(s.size:Int)-1 by omega] at this
 have hw:wrap .i64 ((s.size:Int)-1)=(s.size:Int)-1:=by rw [wrap64]<;>omega
 rw [hb0,hb1,M9,M9];by_cases c3:(b0.toNat:Int)=45
 · simp [ae,Dm,c1,c2,c3,hx0,hw]
 by_cases c4:(b1.toNat:Int)=45
 · simp [ae,Dm,c1,c2,c3,c4,hx0,hx1,hw]
 simp at k1;simp [ae,Dm,c1,c2,c3,c4,hx0,hx1,hw];rw [au];simp [k1];cases s.toList.all nR<;>simp [show ((s.size:Int)>=1) from by omega,show ((s.size:Int)<=20) from by omega]
theorem bh3:TX 134=some PP:=by kernel_rfl
theorem be0:aM 134=true:=by kernel_rfl
theorem YH (a b:ByteArray)(ha:a.size<=big)(hb:b.size<=big)(h:Hp):Sm E TX aM 134 [ag [.str a,.str b]] h=some (bl (bf a&&bf b),h):=by
 rw [aV bh3 be0];have h1:=Kc (E:=E) a ha;have h2:=Kc (E:=E) b hb;cases hl:bf a<;>simp [ae,PP,h1,h2,hl,az]
theorem wZ:∀ l:List UInt8,jO l=!(l.all fun b=>!oW b)
 | []=>rfl
 | b::l=>by
  rw [jO,wZ l,List.all_cons];cases oW b<;>simp
theorem XN (t:Term)(ht:t.text.size<2 ^ 62):Cd E TX aM (.loop [1,3] mE) [(1,.ptr 0 0),(3,.d (i64 ((0:Nat):Int)))] ⟨[.cells (t.c.map .d)],0⟩=some (cond (t.text.toList.all fun b=>!oW b) (.exit 0,[],⟨[.cells (t.c.map .d)],0⟩) (.ret,[(2,bl false)],⟨[.cells (t.c.map .d)],0⟩)):=by
 have hsl:=fw t.text;refine bS t.text.toList (fun b=>!oW b) (fun i=>[(1,.ptr 0 0),(3,.d (i64 i))]) _ _ _ (fun i b hb hi W=>?_) (fun W=>?_)
 · have hx:=fun h=>gU (h:=h) hb;have hw:=ak (show i<t.text.size by omega) ht;have h0:((i:Int)<t.text.size):=by omega
   by_cases c1:(b.toNat:Int)<33
   · simp [mE,hx,h0,hw,oW,c1]
   by_cases c2:(b.toNat:Int)>126
   · simp [mE,hx,h0,hw,oW,c1,c2]
   by_cases c3:(b.toNat:Int)=42
   · simp [mE,hx,h0,hw,oW,c1,c2,c3]
   by_cases c4:(b.toNat:Int)=44<;>simp [mE,hx,h0,hw,oW,c1,c2,c3,c4]
 · simp [mE,hsl]
theorem bi5:TX 251=some zF:=by kernel_rfl
theorem bf7:aM 251=true:=by kernel_rfl
theorem Oh (s:ByteArray):eqS s ⟨#[]⟩=((s.size:Int)==0):=by
 have hsl:=fw s;have h0:(⟨#[]⟩:ByteArray).toList=[]:=by rw [bM]
 rw [eqS,h0,Bool.eq_iff_iff];simp only [beq_iff_eq];constructor
 · intro h; rw [h] at hsl; simp at hsl; omega
 · intro h; exact List.length_eq_zero_iff.1 (by omega)
theorem Ze (t:Term)(ht:t.text.size<=big)(h:Hp):Sm E TX aM 251 [ag t.c] h=some (bl (fH t),h):=by
 rw [aV bi5 bf7,fH,wZ,Oh];have k1:=XN (E:=E) t (cd ht (by decide));have hsl:=fw t.text;simp at k1;obtain ⟨n,hn⟩:∃ n,(t.text.size:Int)=n:=⟨_,rfl⟩;rw [hn];by_cases c0:t.kind=4
 · by_cases c1:n=0
   · have:t.text.toList=[]:=List.length_eq_zero_iff.1 (by omega);simp [ae,zF,hn,c0,c1,this]
   · simp [ae,zF,hn,c0,c1]
 by_cases c1:t.kind<1
 · simp [ae,zF,hn,c0,c1,show ¬ (1<=t.kind) from by omega]
 by_cases c2:t.kind>3
 · simp [ae,zF,hn,c0,c1,c2,show ¬ (t.kind<=3) from by omega]
 by_cases c3:n=0
 · simp [ae,zF,hn,c0,c1,c2,c3]
 by_cases c4:n>64
 · simp [ae,zF,hn,c0,c1,c2,c3,c4,show ¬ (n<=64) from by omega]
 simp [ae,zF,hn,c0,c1,c2,c3,c4];rw [au];simp [k1];cases (t.text.toList.all fun b=>!oW b)<;>simp [show (1<=t.kind) from by omega,show t.kind<=3 from by omega,show (n>=1) from by omega,show (n<=64) from by omega]
theorem XK (s:Sl Term)(hs:short s)(ht:∀ t∈s.l,t.text.size<=big):Cd E TX aM (.loop [0,3] vz) [(0,.d (s.d Term.c)),(3,.d (i64 ((0:Nat):Int)))] ⟨[],0⟩=some (cond (s.l.all fH) (.exit 0,[(0,.d (s.d Term.c))],⟨[],0⟩) (.ret,[(2,bl false)],⟨[],0⟩)):=by
 refine bS s.l fH (fun i=>[(0,.d (s.d Term.c)),(3,.d (i64 i))]) _ _ _ (fun i t hb hi W=>?_) (fun W=>?_)
 · have hx:=fun h=>ay (z:=2) h hb (cells:=Term.c) rfl;have hw:=ak hi hs.lt;have h0:((i:Int)<s.l.length):=by omega
   have hc:=fun h=>Ze (E:=E) t (ht t (ca hb)) h;cases hm:fH t<;>simp [vz,hx,h0,hw,hc,hm]
 · simp [vz]
theorem bi3:TX 214=some Qa:=by kernel_rfl
theorem bf3:aM 214=true:=by kernel_rfl
theorem Fg (s:Sl Term)(hs:short s)(ht:∀ t∈s.l,t.text.size<=big)(h:Hp):Sm E TX aM 214 [.d (s.d Term.c)] h=some (bl (aU s),h):=by
 rw [aV bi3 bf3,aU];have k1:=XK (E:=E) s hs ht;simp at k1;simp [ae,Qa];rw [au];simp [k1];cases s.l.all fH<;>simp
end
section
variable {E:Calls'}
def xx (a n:Nat):Bool:=a / 2 ^ (31-n) % 2==1
theorem yI (a:Nat)(h:a<4294967296):wrap .u32 (a:Int)=a:=by simp [wrap,IntKind.bits,IntKind.signed]; omega
theorem ab2 (a:Nat)(h:a<4294967296):bV .quo (.d (.int .u32 (a:Int))) (.d (.int .u32 2))=some (.int .u32 ((a / 2:Nat):Int)):=by
 have:(a:Int).tdiv 2=((a / 2:Nat):Int):=by
  rw [Int.tdiv_eq_ediv_of_nonneg (by omega)]; omega
 simp only [bV,fP,if_true];rw [if_neg (by decide),this,yI _ (by omega)]
theorem ab3 (a:Nat):bV .rem (.d (.int .u32 (a:Int))) (.d (.int .u32 2))=some (.int .u32 ((a % 2:Nat):Int)):=by
 have:(a:Int).tmod 2=((a % 2:Nat):Int):=by
  rw [Int.tmod_eq_emod_of_nonneg (by omega)]; omega
 simp only [bV,fP,if_true];rw [if_neg (by decide),this]
theorem XO:∀ (m a:Nat),m<=31->a<4294967296->Cd E TX aM (.loop [0,5] oO) [(0,.d (u32 (a:Int))),(5,.d (i64 ((31-m:Nat):Int)))] ⟨[],0⟩=some (.exit 0,[(0,.d (u32 ((a / 2 ^ m:Nat):Int)))],⟨[],0⟩):=by
 intro m;have key:=aC (E:=E) (T:=TX) (val:=aM) [0,5] oO;generalize Cd E TX aM (.loop [0,5] oO)=W at key ⊢
 induction m with
 | zero =>
  intro a _ _;rw [key];simp [oO]
 | succ m ih =>
  intro a hm ha;have hlt:((31-(m+1):Nat):Int)<31:=by omega
  have hw:wrap .i64 (((31-(m+1):Nat):Int)+1)=((31-m:Nat):Int):=by rw [wrap64]<;>omega
  have hq:=ab2 a ha;have k:=ih (a / 2) (by omega) (by omega);rw [Nat.div_div_eq_div_mul,show 2 * 2 ^ m=2 ^ (m+1) by rw [Nat.pow_succ]; omega] at k;rw [key,← k];generalize ((31-(m+1):Nat):Int)=j at *;generalize ((a / 2:Nat):Int)=a2 at *;simp [oO,hlt,hq,hw]
theorem bi6:TX 271=some Ql:=by kernel_rfl
theorem bf9:aM 271=true:=by kernel_rfl
theorem Zl (a n:Nat)(ha:a<4294967296)(hn:n<=31)(h:Hp):Sm E TX aM 271 [.d (u32 (a:Int)),.d (i64 (n:Int))] h=some (bl (xx a n),h):=by
 have k:=XO (E:=E) (31-n) a (by omega) ha;rw [show 31-(31-n)=n by omega] at k;have hr:=ab3 (a / 2 ^ (31-n));rw [aV bi6 bf9];have he:((((a / 2 ^ (31-n) % 2:Nat):Int)==1))=xx a n:=by
  unfold xx;rw [Bool.eq_iff_iff];simp only [beq_iff_eq];omega
 generalize ((a / 2 ^ (31-n) % 2:Nat):Int)=y at *;generalize ((a / 2 ^ (31-n):Nat):Int)=z at *;simp [ae,Ql];rw [au];simp [k,hr,he]
theorem x8:∀ n,n<33->∀ i,i<32->(BitVec.ofInt 32 (qZ (n:Nat))).getLsbD i=decide (32-n<=i):=by decide +kernel
theorem Fs (a:Nat)(ha:a<4294967296)(n:Nat)(hn:n<=32):(qI .u32 (a:Int) (qZ (n:Nat))==0)=(List.range (32-n)).all fun j=>!xx a (n+j):=by
 rw [qI,yI _ (BitVec.isLt _),Bool.eq_iff_iff];simp only [beq_iff_eq,ch,List.mem_range,Bool.not_eq_true'];have hb:∀ i,i<32->(BitVec.ofInt 32 (a:Int)).getLsbD i=a.testBit i:=fun i hi=>by
  rw [BitVec.ofInt_natCast,BitVec.getLsbD_ofNat]; simp [hi]
 have hbit:∀ j,n+j<=31->xx a (n+j)=a.testBit (31-(n+j)):=fun j hj=>by
  rw [xx,Nat.testBit_eq_decide_div_mod_eq,Bool.eq_iff_iff]; simp
 constructor
 · intro h j hj;have h0:(BitVec.ofInt 32 (a:Int) &&& ~~~ BitVec.ofInt 32 (qZ (n:Nat)))=0#32:=BitVec.eq_of_toNat_eq (by
    have h':(BitVec.ofInt 32 (a:Int) &&& ~~~ BitVec.ofInt 32 (qZ (n:Nat))).toNat=0:=by exact_mod_cast h
    rw [h']; rfl)
   have h1:=congrArg (fun x=>BitVec.getLsbD x (31-(n+j))) h0;simp only [BitVec.getLsbD_and,BitVec.getLsbD_not,BitVec.getLsbD_zero,x8 n (by omega) _ (show 31-(n+j)<32 by omega),hb _ (show 31-(n+j)<32 by omega)] at h1;rw [hbit j (by omega)];have e1:decide (31-(n+j)<32)=true:=by simp; omega
   have e2:decide (32-n<=31-(n+j))=false:=by simp; omega
   rw [e1,e2] at h1;simpa using h1
 · intro h;have:(BitVec.ofInt 32 (a:Int) &&& ~~~ BitVec.ofInt 32 (qZ (n:Nat)))=0#32:=by
    apply BitVec.eq_of_getLsbD_eq;intro i hi;simp only [BitVec.getLsbD_and,BitVec.getLsbD_not,BitVec.getLsbD_zero,x8 n (by omega) _ hi,hb _ hi];by_cases hin:32-n<=i
    · simp [hin]
    · have h2:=h (31-n-i) (by omega);rw [hbit _ (by omega),show 31-(n+(31-n-i))=i by omega] at h2;simp [h2]
   show ((BitVec.ofInt 32 (a:Int) &&& ~~~ BitVec.ofInt 32 (qZ (n:Nat))).toNat:Int)=0;rw [this]; rfl
theorem XM (a n:Nat)(ha:a<4294967296)(hn:n<=32):Cd E TX aM (.loop [1,3] vB) [(1,.ptr 0 0),(3,.d (i64 ((n+0:Nat):Int)))] ⟨[.cells [.d (u32 (a:Int)),.d (i64 (n:Int))]],0⟩=some (cond ((List.range (32-n)).all fun j=>!xx a (n+j)) (.exit 0,[],⟨[.cells [.d (u32 (a:Int)),.d (i64 (n:Int))]],0⟩) (.ret,[(2,bl false)],⟨[.cells [.d (u32 (a:Int)),.d (i64 (n:Int))]],0⟩)):=by
 refine bS (List.range (32-n)) (fun j=>!xx a (n+j)) (fun i=>[(1,.ptr 0 0),(3,.d (i64 ((n+i:Nat):Int)))]) _ _ _ (fun i x hx hi W=>?_) (fun W=>?_)
 · have hi':i<32-n:=by simpa using hi
   have hx':x=i:=by rw [List.getElem?_range hi'] at hx; exact (cn hx).symm
   subst hx';have hw:wrap .i64 (((n+x:Nat):Int)+1)=((n+(x+1):Nat):Int):=by rw [wrap64]<;>omega
   have h0:((n+x:Nat):Int)<32:=by omega
   have hc:=fun h=>Zl (E:=E) a (n+x) ha (by omega) h;generalize ((n+x:Nat):Int)=j at *;cases hm:xx a (n+x)<;>simp [vB,h0,hw,hc,hm]
 · have:¬ ((n+(List.range (32-n)).length:Nat):Int)<32:=by simp; omega
   generalize ((n+(List.range (32-n)).length:Nat):Int)=j at *;simp [vB,this]
theorem bi4:TX 250=some Jj:=by kernel_rfl
theorem bf6:aM 250=true:=by kernel_rfl
theorem Ey {n:Int}(h:Inr .u32 n):0<=n/\n<4294967296:=by
 simp [Inr,Lit.wf,IntKind.min,IntKind.max,IntKind.bits,IntKind.signed] at h;omega
theorem Zd (c:Cidr)(hc:Inr .u32 c.addr)(h:Hp):Sm E TX aM 250 [ag c.c] h=some (bl (iL c),h):=by
 obtain ⟨a0,a1⟩:=Ey hc;obtain ⟨addr,bits⟩:=c;dsimp only at a0 a1;obtain ⟨a,rfl⟩:=Int.eq_ofNat_of_zero_le a0;rw [aV bi4 bf6,iL];dsimp only;by_cases c1:bits<0
 · simp [ae,Jj,c1,Cidr.c,show ¬ (bits>=0) from by omega]
 by_cases c2:bits>32
 · simp [ae,Jj,c1,c2,Cidr.c,show ¬ (bits<=32) from by omega]
 obtain ⟨n,rfl⟩:=Int.eq_ofNat_of_zero_le (show 0<=bits by omega);have k:=XM (E:=E) a n (by omega) (by omega);rw [Fs a (by omega) n (by omega)];rw [Nat.add_zero] at k;simp [ae,Jj,c1,c2,Cidr.c,show ((n:Int)<=32) from by omega];rw [au];generalize ((List.range (32-n)).all fun j=>!xx a (n+j))=A at *;simp [k];cases A<;>simp
def moreL:List UInt8:=[33,35,36,37,38,39,42,43,45,46,94,95,96,124,126]
def hdB (b:UInt8):Bool:=(decide ((b.toNat:Int)>=97)&&decide ((b.toNat:Int)<=122))||(decide ((b.toNat:Int)>=48)&&decide ((b.toNat:Int)<=57))
def hdA (b:UInt8):Bool:=hdB b||moreL.any fun c=>(b.toNat:Int)==c.toNat
theorem KT {k:Nat}{c:UInt8}(hk:moreL[k]?=some c)(h:Hp):uC (.d (.str ⟨#[33,35,36,37,38,39,42,43,45,46,94,95,96,124,126]⟩)) (.d (.int .i64 k)) h=some (.d (.int .u8 c.toNat),h) :=
 gU (by rw [← hk,bM]; rfl)
theorem XJ (s:ByteArray)(j:Nat)(b:UInt8)(hb:s.toList[j]?=some b):∀ (m i:Nat) (g:Bool),i+m=15 →
 Cd E TX aM (.loop [0,3,4,5] oM) [(0,.d (.str s)),(3,.d (i64 j)),(4,bl g),(5,.d (i64 i))] ⟨[],0⟩=some (.exit 2,[(0,.d (.str s)),(3,.d (i64 j)),(4,bl (g||(moreL.drop i).any fun c=>(b.toNat:Int)==c.toNat))],⟨[],0⟩):=by
 intro m;have key:=aC (E:=E) (T:=TX) (val:=aM) [0,3,4,5] oM;generalize Cd E TX aM (.loop [0,3,4,5] oM)=W at key ⊢;have hx:=fun h=>gU (h:=h) hb
 induction m with
 | zero =>
  intro i g hi;have:i=15:=by omega
  subst this;rw [key];simp [oM,moreL]
 | succ m ih =>
  intro i g hi;have hlt:i<moreL.length:=by simp [moreL]; omega
  have h0:((i:Int)<15):=by omega
  have hw:wrap .i64 ((i:Int)+1)=((i+1:Nat):Int):=by rw [wrap64]<;>omega
  have hc:=KT (ac hlt);rw [key,aw hlt,List.any_cons];generalize moreL[i]=c at *;have k1:=ih (i+1) (g||((b.toNat:Int)==c.toNat)) (by omega);rw [Bool.or_assoc] at k1;rw [← k1];cases g<;>simp [oM,h0,hw,hx,hc]
theorem XV (s:ByteArray)(hs:s.size<2 ^ 62):Cd E TX aM (.loop [0,3] vw) [(0,.d (.str s)),(3,.d (i64 ((0:Nat):Int)))] ⟨[],0⟩=some (cond (s.toList.all hdA) (.exit 0,[],⟨[],0⟩) (.ret,[(2,bl false)],⟨[],0⟩)):=by
 have hsl:=fw s;refine bS s.toList hdA (fun i=>[(0,.d (.str s)),(3,.d (i64 i))]) _ _ _ (fun i b hb hi W=>?_) (fun W=>?_)
 · have hx:=fun h=>gU (h:=h) hb;have hw:=ak (show i<s.size by omega) hs;have h0:((i:Int)<s.size):=by omega
   have k:=XJ (E:=E) s i b hb 15 0 (hdB b) (by omega);simp only [List.drop_zero] at k;have hk:(hdB b||moreL.any fun c=>(b.toNat:Int)==c.toNat)=hdA b:=rfl;rw [hk] at k;generalize hdA b=G at *;unfold hdB at k;simp only [Int.natCast_zero] at k;by_cases c1:(b.toNat:Int)>=97<;>by_cases c2:(b.toNat:Int)<=122<;>by_cases c3:(b.toNat:Int)>=48<;>by_cases c4:(b.toNat:Int)<=57<;>first
    | (exfalso; omega)
    | (simp [c1,c2,c3,c4] at k
       simp [vw,hx,h0,hw,c1,c2,c3,c4];rw [au];simp [k];cases G<;>simp [hw])
 · simp [vw,hsl]
theorem KF:∀ n,n<256->(D6 (UInt8.ofNat n)==0)=!hdA (UInt8.ofNat n):=by decide +kernel
theorem MW (b:UInt8):(D6 b==0)=!hdA b:=by
 have:=KF b.toNat b.toNat_lt;simpa using this
theorem uE:∀ l:List UInt8,jU l=!(l.all hdA)
 | []=>rfl
 | b::l=>by
  rw [jU,uE l,MW,List.all_cons];cases hdA b<;>simp
theorem bi2:TX 213=some Jh:=by kernel_rfl
theorem bf2:aM 213=true:=by kernel_rfl
theorem Y4 (s:ByteArray)(hs:s.size<=big)(h:Hp):Sm E TX aM 213 [.d (.str s)] h=some (bl (iN s),h):=by
 rw [aV bi2 bf2,iN,uE];have k1:=XV (E:=E) s (cd hs (by decide));simp at k1;by_cases c1:(s.size:Int)<1
 · simp [ae,Jh,c1,show ¬ ((s.size:Int)>=1) from by omega]
 by_cases c2:(s.size:Int)>64
 · simp [ae,Jh,c1,c2,show ¬ ((s.size:Int)<=64) from by omega]
 simp [ae,Jh,c1,c2];rw [au];simp [k1];cases s.toList.all hdA<;>simp [show ((s.size:Int)>=1) from by omega,show ((s.size:Int)<=64) from by omega]
end
section
variable {E:Calls'}
theorem XH (s:Source)(hs:s.wf big):Cd E TX aM (.loop [1,3] vv) [(1,.ptr 0 0),(3,.d (i64 ((0:Nat):Int)))] ⟨[.cells (s.c.map .d)],0⟩=some (cond (s.nets.l.all iL) (.exit 0,[],⟨[.cells (s.c.map .d)],0⟩) (.ret,[(2,bl false)],⟨[.cells (s.c.map .d)],0⟩)):=by
 refine bS s.nets.l iL (fun i=>[(1,.ptr 0 0),(3,.d (i64 i))]) _ _ _ (fun i x hx hi W=>?_) (fun W=>?_)
 · have hn:=fun h=>ay (z:=2) h hx (cells:=Cidr.c) rfl;have hw:=ak hi (fit.lt hs.2.2.1);have h0:((i:Int)<s.nets.l.length):=by omega
   have hc:=fun h=>Zd (E:=E) x (hs.2.2.2 x (ca hx)).1 h;cases hm:iL x<;>simp [vv,hn,h0,hw,hc,hm]
 · simp [vv]
theorem bi0:TX 211=some Gq:=by kernel_rfl
theorem bf0:aM 211=true:=by kernel_rfl
theorem Y2 (s:Source)(hs:s.wf big)(h:Hp):Sm E TX aM 211 [ag s.c] h=some (bl (bX s),h):=by
 rw [aV bi0 bf0,bX,jV];have k1:=XH (E:=E) s hs;have a1:=fun h=>Fg (E:=E) s.names hs.1.1 (fun x hx=>(hs.1.2 x hx).2) h;have a2:=fun h=>Fg (E:=E) s.spaces hs.2.1.1 (fun x hx=>(hs.2.1.2 x hx).2) h;simp at k1;generalize aU s.names=A at *;generalize aU s.spaces=B at *;generalize s.nets.l.all iL=C at *;cases A with
 | false=>simp [ae,Gq,a1]
 | true =>
  cases B with
  | false=>simp [ae,Gq,a1,a2]
  | true =>
   by_cases c1:(s.nets.l.length:Int)>6
   · simp [ae,Gq,a1,a2,c1,show ¬ ((s.nets.l.length:Int)<=6) from by omega]
   · simp [ae,Gq,a1,a2,c1,show ((s.nets.l.length:Int)<=6) from by omega];rw [au];simp [k1];cases C<;>simp
def FU (l:List Int)(i:Nat)(x:Int):Bool:=dN x&&(l.take i).all fun y=>!(y==x)
theorem XI (t:Target)(ht:t.wf big)(j:Nat)(x:Int)(hx:t.ports.l[j]?=some x)(hj:j<t.ports.l.length):Cd E TX aM (.loop [1,3,4] rU) [(1,.ptr 0 0),(3,.d (i64 (j:Int))),(4,.d (i64 ((0:Nat):Int)))] ⟨[.cells (t.c.map .d)],0⟩=some (cond ((t.ports.l.take j).all fun y=>!(y==x)) (.exit 2,[(1,.ptr 0 0),(3,.d (i64 (j:Int)))],⟨[.cells (t.c.map .d)],0⟩) (.ret,[(2,bl false)],⟨[.cells (t.c.map .d)],0⟩)):=by
 have hlen:(t.ports.l.take j).length=j:=by simp; omega
 refine bS (t.ports.l.take j) (fun y=>!(y==x)) (fun i=>[(1,.ptr 0 0),(3,.d (i64 (j:Int))),(4,.d (i64 i))]) _ _ _ (fun i y hy hi W=>?_) (fun W=>?_)
 · have hij:i<j:=by omega
   have hy':t.ports.l[i]?=some y:=by rw [List.getElem?_take] at hy; simpa [hij] using hy
   have hn:=fun h=>ay (z:=1) h hy' (cells:=gV) rfl;have hm:=fun h=>ay (z:=1) h hx (cells:=gV) rfl;have hw:=ak hij (Nat.lt_trans hj (fit.lt ht.1.1));have h0:((i:Int)<(j:Int)):=by omega
   by_cases he:y=x
   · subst he;simp [rU,hn,hm,h0,hw,gV]
   · simp [rU,hn,hm,h0,hw,he,gV]
 · simp only [hlen];simp [rU]
theorem XU (t:Target)(ht:t.wf big):Cd E TX aM (.loop [1,3] oL) [(1,.ptr 0 0),(3,.d (i64 ((0:Nat):Int)))] ⟨[.cells (t.c.map .d)],0⟩=some (cond (fO (FU t.ports.l) 0 t.ports.l) (.exit 0,[],⟨[.cells (t.c.map .d)],0⟩) (.ret,[(2,bl false)],⟨[.cells (t.c.map .d)],0⟩)):=by
 refine sW t.ports.l (FU t.ports.l) (fun i=>[(1,.ptr 0 0),(3,.d (i64 i))]) _ _ _ (fun i x hx hi W=>?_) (fun W=>?_)
 · have hn:=fun h=>ay (z:=1) h hx (cells:=gV) rfl;have hw:=ak hi (fit.lt ht.1.1);have h0:((i:Int)<t.ports.l.length):=by omega
   have k:=XI (E:=E) t ht i x hx hi;simp only [Int.natCast_zero] at k;unfold FU dN;generalize ((t.ports.l.take i).all fun y=>!(y==x))=G at *;by_cases c1:x<1
   · simp [oL,hn,h0,c1,gV,show ¬ (x>=1) from by omega]
   by_cases c2:x>65535
   · simp [oL,hn,h0,c1,c2,gV,show ¬ (x<=65535) from by omega]
   have e1:decide (x>=1)=true:=by simp; omega
   have e2:decide (x<=65535)=true:=by simp; omega
   simp [oL,hn,h0,c1,c2,gV];rw [au];simp [k];rw [show decide (1<=x)=true from e1,show decide (x<=65535)=true from e2];cases G<;>simp [hw]
 · simp [oL]
theorem Ak {l:List Int}:∀ (m:List Int) (i:Nat),l.drop i=m->(fO (FU l) i m=true↔m.all dN=true/\∀ k,i<=k->∀ (hk:k<l.length),∀ j,∀ (hj:j<k),l[j]≠l[k])
 | [],i,h=>by
  have:l.length<=i:=by simpa using h
  refine ⟨fun _=>⟨rfl,fun k hik hk=>?_⟩,fun _=>rfl⟩;omega
 | x::m,i,h=>by
  have hi:i<l.length:=by
   rcases ck i l.length with h1 | h1
   · exact h1
   · rw [ba h1] at h; cases h
  have hx:l[i]=x/\l.drop (i+1)=m:=by
   rw [aw hi] at h;exact ⟨(List.cons.inj h).1,(List.cons.inj h).2⟩
  rw [fO,aq,Ak m (i+1) hx.2,List.all_cons,FU];simp only [aq,ch,Bool.not_eq_true',beq_eq_false_iff_ne];constructor
  · rintro ⟨⟨p1,p2⟩,p3,p4⟩;refine ⟨⟨p1,p3⟩,fun k hik hk j hj=>?_⟩;by_cases hki:k=i
    · subst hki;rw [hx.1];exact p2 l[j] (List.mem_take_iff_getElem.2 ⟨j,by omega,rfl⟩)
    · exact p4 k (by omega) hk j hj
  · rintro ⟨⟨p1,p3⟩,p4⟩;refine ⟨⟨p1,fun y hy=>?_⟩,p3,fun k hik hk j hj=>p4 k (by omega) hk j hj⟩;obtain ⟨j,hj,rfl⟩:=List.mem_take_iff_getElem.1 hy;rw [← hx.1];exact p4 i (bp _) hi j (by omega)
theorem AB:∀ {l:List Int},l.Pairwise (fun a b=>a<=b)->l≠[]->(1+chg l=l.length↔l.Nodup)
 | [],_,h=>absurd rfl h
 | [x],_,_=>by simp [chg]
 | x::y::l,hp,_=>by
  have ih:=AB (l:=y::l) (List.Pairwise.of_cons hp) (by simp);have hle:=vO (y::l);simp only [cf] at ih hle ⊢;simp only [chg];by_cases he:x=y
  · subst he;simp only [if_true,Nat.zero_add];constructor
    · intro h; omega
    · intro h; exact absurd (by simp) (List.nodup_cons.1 h).1
  · simp only [if_neg he];have hxy:x<y:=by have:=(List.pairwise_cons.1 hp).1 y (by simp); omega
    constructor
    · intro h;refine List.nodup_cons.2 ⟨fun hm=>?_,ih.1 (by omega)⟩;rcases List.mem_cons.1 hm with h1 | h1
      · exact he h1
      · have:=(List.pairwise_cons.1 (List.Pairwise.of_cons hp)).1 x h1;omega
    · intro h;have:=ih.2 (List.nodup_cons.1 h).2;omega
theorem I1 (l:List Int):((pQ (dG l):Int)==(l.length:Int))=decide l.Nodup:=by
 have hp:(dG l).Perm l:=List.mergeSort_perm _ _;have hs:(dG l).Pairwise (fun a b=>a<=b):=by
  have:=List.pairwise_mergeSort (le:=fun x y:Int=>decide (x<=y)) (fun a b c h1 h2=>by simp at *; omega) (fun a b=>by simp; omega) l;exact this.imp (fun h=>by simpa using h)
 rw [Bool.eq_iff_iff];simp only [beq_iff_eq,br];rw [← hp.length_eq,← hp.nodup_iff];generalize dG l=z at *;unfold pQ;by_cases h0:z=[]
 · subst h0; simp
 · rw [if_neg h0,← AB hs h0]; omega
theorem GK (l:List Int):fO (FU l) 0 l=(l.all dN&&((pQ (dG l):Int)==(l.length:Int))):=by
 rw [I1,Bool.eq_iff_iff,Ak l 0 rfl,aq,br];refine and_congr_right fun _=>?_;rw [List.nodup_iff_pairwise_ne,List.pairwise_iff_getElem];constructor
 · intro h i j hi hj hij;exact h j (Nat.zero_le _) hj i hij
 · intro h k _ hk j hj;exact h j k (by omega) hk hj
theorem bi1:TX 212=some Dn:=by kernel_rfl
theorem bf1:aM 212=true:=by kernel_rfl
theorem Y3 (t:Target)(ht:t.wf big)(h:Hp):Sm E TX aM 212 [ag t.c] h=some (bl (aR t),h):=by
 have k1:=XU (E:=E) t ht;rw [GK] at k1;rw [aV bi1 bf1,aR];have a1:=fun h=>Fg (E:=E) t.methods ht.2.1.1 (fun x hx=>(ht.2.1.2 x hx).2) h;have a2:=fun h=>Fg (E:=E) t.paths ht.2.2.1.1 (fun x hx=>(ht.2.2.1.2 x hx).2) h;have a3:=fun h=>Fg (E:=E) t.hosts ht.2.2.2.1 (fun x hx=>(ht.2.2.2.2 x hx).2) h;generalize ((pQ (dG t.ports.l):Int)==(t.ports.l.length:Int))=D at *;simp at k1;generalize aU t.methods=A at *;generalize aU t.paths=B at *;generalize aU t.hosts=C at *;generalize t.ports.l.all dN=F at *;cases A with
 | false=>simp [ae,Dn,a1]
 | true =>
  cases B with
  | false=>simp [ae,Dn,a1,a2]
  | true =>
   cases C with
   | false=>simp [ae,Dn,a1,a2,a3]
   | true =>
    by_cases c1:(t.ports.l.length:Int)>6
    · simp [ae,Dn,a1,a2,a3,c1,show ¬ ((t.ports.l.length:Int)<=6) from by omega]
    · simp [ae,Dn,a1,a2,a3,c1,show ((t.ports.l.length:Int)<=6) from by omega];rw [au];simp [k1];cases F<;>cases D<;>simp
section
variable (r:Rule)(hr:r.wf big)
include hr
theorem WU:Cd E TX aM (.loop [1,3] vg) [(1,.ptr 0 0),(3,.d (i64 ((0:Nat):Int)))] ⟨[.cells (r.c.map .d)],0⟩=some (cond (r.frm.l.all bX) (.exit 0,[(1,.ptr 0 0)],⟨[.cells (r.c.map .d)],0⟩) (.ret,[(2,bl false)],⟨[.cells (r.c.map .d)],0⟩)):=by
 refine bS r.frm.l bX (fun i=>[(1,.ptr 0 0),(3,.d (i64 i))]) _ _ _ (fun i x hx hi W=>?_) (fun W=>?_)
 · have hn:=fun h=>ay (z:=3) h hx (cells:=Source.c) rfl;have hw:=ak hi (fit.lt hr.1.1);have h0:((i:Int)<r.frm.l.length):=by omega
   have hc:=fun h=>Y2 (E:=E) x (hr.1.2 x (ca hx)) h;cases hm:bX x<;>simp [vg,hn,h0,hw,hc,hm]
 · simp [vg]
theorem WV:Cd E TX aM (.loop [1,4] vk) [(1,.ptr 0 0),(4,.d (i64 ((0:Nat):Int)))] ⟨[.cells (r.c.map .d)],0⟩=some (cond (r.to.l.all aR) (.exit 2,[(1,.ptr 0 0)],⟨[.cells (r.c.map .d)],0⟩) (.ret,[(2,bl false)],⟨[.cells (r.c.map .d)],0⟩)):=by
 refine bS r.to.l aR (fun i=>[(1,.ptr 0 0),(4,.d (i64 i))]) _ _ _ (fun i x hx hi W=>?_) (fun W=>?_)
 · have hn:=fun h=>ay (z:=4) h hx (cells:=Target.c) rfl;have hw:=ak hi (fit.lt hr.2.1.1);have h0:((i:Int)<r.to.l.length):=by omega
   have hc:=fun h=>Y3 (E:=E) x (hr.2.1.2 x (ca hx)) h;cases hm:aR x<;>simp [vk,hn,h0,hw,hc,hm]
 · simp [vk]
theorem WX:Cd E TX aM (.loop [1,5] oK) [(1,.ptr 0 0),(5,.d (i64 ((0:Nat):Int)))] ⟨[.cells (r.c.map .d)],0⟩=some (cond (r.whn.l.all gN) (.exit 4,[],⟨[.cells (r.c.map .d)],0⟩) (.ret,[(2,bl false)],⟨[.cells (r.c.map .d)],0⟩)):=by
 refine bS r.whn.l gN (fun i=>[(1,.ptr 0 0),(5,.d (i64 i))]) _ _ _ (fun i x hx hi W=>?_) (fun W=>?_)
 · have hn:=fun h=>ay (z:=2) h hx (cells:=When.c) rfl;have hw:=ak hi (fit.lt hr.2.2.1);have h0:((i:Int)<r.whn.l.length):=by omega
   have hwf:=hr.2.2.2 x (ca hx);have hc:=fun h=>Y4 (E:=E) x.head hwf.1 h;have hd:=fun h=>Fg (E:=E) x.terms hwf.2.1 (fun y hy=>(hwf.2.2 y hy).2) h;unfold gN;generalize iN x.head=A at *;generalize aU x.terms=B at *;cases A with
   | false=>simp [oK,hn,h0,hc]
   | true =>
    by_cases c1:(x.terms.l.length:Int)=0
    · simp [oK,hn,h0,hc,c1]
    · have c2:(x.terms.l.length:Int)>0:=by omega
      have c3:0<x.terms.l.length:=by omega
      have c4:x.terms.l≠[]:=by intro h; rw [h] at c2; simp at c2
      cases B<;>simp [oK,hn,h0,hc,hd,hw,c1,c2,c3,c4]
 · simp [oK]
end
theorem bh9:TX 165=some Gp:=by kernel_rfl
theorem be6:aM 165=true:=by kernel_rfl
theorem YS (r:Rule)(hr:r.wf big)(h:Hp):Sm E TX aM 165 [ag r.c] h=some (bl (eu r),h):=by
 have k1:=WU (E:=E) r hr;have k2:=WV (E:=E) r hr;have k3:=WX (E:=E) r hr;rw [aV bh9 be6,eu];simp at k1 k2 k3;generalize r.frm.l.all bX=A at *;generalize r.to.l.all aR=B at *;generalize r.whn.l.all gN=C at *;by_cases c1:(r.frm.l.length:Int)>3
 · simp [ae,Gp,c1,show ¬ ((r.frm.l.length:Int)<=3) from by omega]
 by_cases c2:(r.to.l.length:Int)>3
 · simp [ae,Gp,c1,c2,show ¬ ((r.to.l.length:Int)<=3) from by omega]
 by_cases c3:(r.whn.l.length:Int)>3
 · simp [ae,Gp,c1,c2,c3,show ¬ ((r.whn.l.length:Int)<=3) from by omega]
 simp [ae,Gp,c1,c2,c3,show ((r.frm.l.length:Int)<=3) from by omega,show ((r.to.l.length:Int)<=3) from by omega,show ((r.whn.l.length:Int)<=3) from by omega];rw [au];simp [k1];cases A<;>simp;rw [au];simp [k2];cases B<;>simp;rw [au];simp [k3];cases C<;>simp
theorem XC (p:Pol)(hp:p.wf big):Cd E TX aM (.loop [1,3] ve) [(1,.ptr 0 0),(3,.d (i64 ((0:Nat):Int)))] ⟨[.cells (p.c.map .d)],0⟩=some (cond (p.rules.l.all eu) (.exit 0,[],⟨[.cells (p.c.map .d)],0⟩) (.ret,[(2,bl false)],⟨[.cells (p.c.map .d)],0⟩)):=by
 refine bS p.rules.l eu (fun i=>[(1,.ptr 0 0),(3,.d (i64 i))]) _ _ _ (fun i x hx hi W=>?_) (fun W=>?_)
 · have hn:=fun h=>ay (z:=3) h hx (cells:=Rule.c) rfl;have hw:=ak hi (fit.lt hp.2.2.2.2.1);have h0:((i:Int)<p.rules.l.length):=by omega
   have hc:=fun h=>YS (E:=E) x (hp.2.2.2.2.2 x (ca hx)) h;cases hm:eu x<;>simp [ve,hn,h0,hw,hc,hm]
 · simp [ve]
theorem bh2:TX 137=some qb:=by kernel_rfl
theorem bd8:aM 137=true:=by kernel_rfl
theorem Yu (p:Pol)(hp:p.wf big)(h:Hp):Sm E TX aM 137 [ag p.c] h=some (bl (ed p),h):=by
 have k1:=XC (E:=E) p hp;have k2:=fun h=>Kc (E:=E) p.ns hp.2.1 h;rw [aV bh2 bd8,ed];simp at k1;generalize p.rules.l.all eu=A at *;generalize bf p.ns=B at *;by_cases c1:p.id<1
 · simp [ae,qb,c1,show ¬ (p.id>=1) from by omega]
 by_cases c2:p.id>4611686018427387903
 · simp [ae,qb,c1,c2,show ¬ (p.id<=4611686018427387903) from by omega]
 have e1:p.id>=1:=by omega
 have e2:p.id<=4611686018427387903:=by omega
 cases c3:eqS p.ns ⟨#[]⟩ with
 | false =>
  cases B with
  | false=>simp [ae,qb,c1,c2,c3,k2]
  | true =>
   by_cases c4:p.service>4611686018427387903
   · simp [ae,qb,c1,c2,c3,k2,c4,show ¬ (p.service<=4611686018427387903) from by omega]
   by_cases c5:p.deny<0
   · simp [ae,qb,c1,c2,c3,k2,c4,c5,show ¬ (p.deny=0) from by omega,show ¬ (p.deny=1) from by omega]
   by_cases c6:p.deny>1
   · simp [ae,qb,c1,c2,c3,k2,c4,c5,c6,show ¬ (p.deny=0) from by omega,show ¬ (p.deny=1) from by omega]
   have e6:((p.deny==0)||(p.deny==1))=true:=by simp; omega
   have e4:p.service<=4611686018427387903:=by omega
   by_cases c7:(p.rules.l.length:Int)>6
   · simp [ae,qb,c1,c2,c3,k2,c4,c5,c6,c7,show ¬ ((p.rules.l.length:Int)<=6) from by omega]
   have e7:(p.rules.l.length:Int)<=6:=by omega
   rw [e6];simp [ae,qb,c1,c2,c3,k2,c4,c5,c6,c7,e1,e2,e4,e7];rw [au];simp [k1];cases A<;>simp
 | true =>
  by_cases c4:p.service>4611686018427387903
  · simp [ae,qb,c1,c2,c3,k2,c4,show ¬ (p.service<=4611686018427387903) from by omega]
  by_cases c5:p.deny<0
  · simp [ae,qb,c1,c2,c3,k2,c4,c5,show ¬ (p.deny=0) from by omega,show ¬ (p.deny=1) from by omega]
  by_cases c6:p.deny>1
  · simp [ae,qb,c1,c2,c3,k2,c4,c5,c6,show ¬ (p.deny=0) from by omega,show ¬ (p.deny=1) from by omega]
  have e6:((p.deny==0)||(p.deny==1))=true:=by simp; omega
  have e4:p.service<=4611686018427387903:=by omega
  by_cases c7:(p.rules.l.length:Int)>6
  · simp [ae,qb,c1,c2,c3,k2,c4,c5,c6,c7,show ¬ ((p.rules.l.length:Int)<=6) from by omega]
  have e7:(p.rules.l.length:Int)<=6:=by omega
  rw [e6];simp [ae,qb,c1,c2,c3,k2,c4,c5,c6,c7,e1,e2,e4,e7];rw [au];simp [k1];cases A<;>simp
end
section
section
variable {E:Calls'}{T:FuncId->Option QF}{val:FuncId->Bool}
theorem nZ {keep:List Nat}{body:QC}{α:Type}(l:List α)(q:Nat->α->Bool)(env:Nat->EA)(I:Hp->Prop)(R X:Ex×EA)
 (hr:∀ i x,l[i]?=some x->i<l.length->∀ h,I h->∃ h',I h'/\∀ W:EA->Hp->fZ,eD keep W (Cd E T val body (bU keep (env i)) h)=cond (q i x) (W (env (i+1)) h') (some (R.1,R.2,h')))
 (he:∀ h,I h->∀ W:EA->Hp->fZ,eD keep W (Cd E T val body (bU keep (env l.length)) h)=some (X.1,X.2,h)) (h:Hp) (hI:I h) :
 ∃ h',I h'/\Cd E T val (.loop keep body) (env 0) h=some (cond (fO q 0 l) (X.1,X.2,h') (R.1,R.2,h')):=by
 have:∀ (m i:Nat) (h:Hp),i+m=l.length->I h->∃ h',I h'/\Cd E T val (.loop keep body) (env i) h=some (cond (fO q i (l.drop i)) (X.1,X.2,h') (R.1,R.2,h')):=by
  intro m;have key:=aC (E:=E) (T:=T) (val:=val) keep body;generalize Cd E T val (.loop keep body)=W at key ⊢
  induction m with
  | zero =>
   intro i h hi hI;refine ⟨h,hI,?_⟩;rw [key,show i=l.length by omega,he h hI W,List.drop_length];rfl
  | succ m ih =>
   intro i h hi hI;have hlt:i<l.length:=by omega
   obtain ⟨h1,hI1,k1⟩:=hr i _ (ac hlt) hlt h hI;rw [key,k1 W,aw hlt,fO];cases hq:q i l[i] with
   | false=>exact ⟨h1,hI1,rfl⟩
   | true =>
    obtain ⟨h2,hI2,k2⟩:=ih (i+1) h1 (by omega) hI1;exact ⟨h2,hI2,by simpa using k2⟩
 simpa using this l.length 0 h (by omega) hI
end
def dI {α:Type}(f:α->Int)(l:List α)(i:Nat)(x:α):Bool:=match i with
 | 0=>true
 | j+1=>match l[j]? with
  | some y=>decide (f y<f x)
  | none=>true
theorem mU {α:Type}(p q:Nat->α->Bool):∀ (l:List α) (i:Nat),fO (fun i x=>p i x&&q i x) i l=(fO p i l&&fO q i l)
 | [],_=>rfl
 | x::l,i=>by
  simp only [fO,mU p q l];cases p i x<;>cases q i x<;>cases fO p (i+1) l<;>rfl
theorem nV {α:Type}(f:α->Int)(l:List α):fO (dI f l) 0 l=dQ (l.map f):=by
 have:∀ (m:List α) (j:Nat) (x:α),l.drop j=x::m->fO (dI f l) (j+1) m=dQ ((x::m).map f):=by
  intro m
  induction m with
  | nil=>intro j x _; rfl
  | cons y m ih =>
   intro j x h;have hj:j<l.length:=by
    rcases ck j l.length with h1 | h1
    · exact h1
    · rw [ba h1] at h; cases h
   rw [aw hj] at h;have h1:=(List.cons.inj h).1;have h2:=(List.cons.inj h).2;rw [fO,ih (j+1) y h2];simp only [cm,dQ,dI,ac hj,h1]
 cases l with
 | nil=>rfl
 | cons x m=>simpa [fO,dI] using this m 0 x rfl
theorem qG {α:Type}(p:α->Bool):∀ (l:List α) (i:Nat),fO (fun _ x=>!p x) i l=!l.any p
 | [],_=>rfl
 | x::l,i=>by rw [fO,qG p l,List.any_cons,Bool.not_or]
theorem om {α:Type}{f:α->Int}{l:List α}{i:Nat}{x:α}(h:¬ (i:Int)>0):dI f l i x=true:=by
 obtain rfl:i=0:=by omega
 rfl
theorem uT {α:Type}{l:List α}{i:Nat}(hl:l.length<2 ^ 62)(hi:i<l.length)(h0:(i:Int)>0):∃ y j,i=j+1/\l[j]?=some y/\wrap .i64 ((i:Int)-1)=(j:Int):=by
 cases i with
 | zero=>simp at h0
 | succ j =>
  refine ⟨l[j],j,rfl,ac (by omega),?_⟩;have e:(((j+1:Nat):Int)-1)=(j:Int):=by omega
  rw [e];rw [wrap64]<;>omega
variable {E:Calls'}
theorem bh4:TX 135=some PQ:=by kernel_rfl
theorem be1:aM 135=true:=by kernel_rfl
theorem SG (n:Int)(h:Hp):Sm E TX aM 135 [.d (i64 n)] h=some (bl (dN n),h):=by
 rw [aV bh4 be1,dN];by_cases c1:n>=1<;>simp [ae,PQ,az,c1]
theorem bg0:TX 80=none:=by kernel_rfl
theorem x112:TX 82=none:=by kernel_rfl
theorem ZB (p:Pod)(hp:p.wf big)(h:Hp):Sm E TX aM 134 [.agg [.d (.str p.ns),.d (.str p.sa)]] h=some (bl (bf p.ns&&bf p.sa),h):=YH p.ns p.sa hp.2.1 hp.2.2.1 h
def d9 (c:Cfg)(i:Nat)(p:Pod):Bool:=dI Pod.uid c.pods.l i p&&!bq c p
def gJ (c:Cfg)(i:Nat)(p:Svc):Bool:=dI Svc.id c.services.l i p&&!eZ c p
def iO (c:Cfg)(i:Nat)(p:Pol):Bool:=dI Pol.id c.policies.l i p&&!eX c p
def FindX (E:Calls')(c:Cfg):Prop:=(∀ n h,E 80 [c.v,.d (u64 n)] h=some (.d (i64 (cu c.services.l fun p=>p.id==n)),h))/\∀ n h,E 82 [c.v,.d (u64 n)] h=some (.d (i64 (cu c.bound.l fun p=>p.id==n)),h)
theorem FindX.s {c:Cfg}(hE:FindX E c)(n:Int)(h:Hp):Sm E TX aM 80 [c.v,.d (u64 n)] h=some (.d (i64 (cu c.services.l fun p=>p.id==n)),h):=by rw [bC bg0]; exact hE.1 n h
theorem FindX.w {c:Cfg}(hE:FindX E c)(n:Int)(h:Hp):Sm E TX aM 82 [c.v,.d (u64 n)] h=some (.d (i64 (cu c.bound.l fun p=>p.id==n)),h):=by rw [bC x112]; exact hE.2 n h
theorem Xy (c:Cfg)(hc:c.wf big)(hE:FindX E c):∃ h',(∃ bs,h'=⟨bs,0⟩/\af bs 0=some (c.c.map .d))/\Cd E TX aM (.loop [1,3] dw) [(1,.ptr 0 0),(3,.d (i64 ((0:Nat):Int)))] ⟨[.cells (c.c.map .d)],0⟩=some (cond (fO (d9 c) 0 c.pods.l) (.exit 0,[],h') (.ret,[(2,bl false)],h')):=by
 have hok:=hc.ok (bp _);have hl:c.pods.l.length<2 ^ 62:=hok.1.lt;refine nZ c.pods.l (d9 c) (fun i=>[(1,.ptr 0 0),(3,.d (i64 i))]) (fun h=>∃ bs,h=⟨bs,0⟩/\af bs 0=some (c.c.map .d)) (.ret,[(2,bl false)]) (.exit 0,[]) (fun i x hx hi h hI=>?_) (fun h hI W=>?_) _ ⟨_,rfl,by simp⟩
 · obtain ⟨bs,rfl,hb⟩:=hI;have hn:=fun h=>ay (z:=7) h hx (cells:=Pod.c) rfl;have hw:=ak hi hl;have h0:((i:Int)<c.pods.l.length):=by omega
   have hb2:=fun ys=>ax (ys:=ys) hb;refine ⟨⟨bs++[.cells (x.c.map .d)],0⟩,⟨_,rfl,ax hb⟩,fun W=>?_⟩;have hp:=hc.2.2.2.2.1.2 x (ca hx);have n1:=fun h=>ZB (E:=E) x hp h;have n2:=fun h=>SG (E:=E) x.port h;have n3:=fun h=>hE.s x.service h;generalize hnm:(bf x.ns&&bf x.sa)=nm at n1;generalize hpt:dN x.port=pt at n2;by_cases a1:x.uid<10
   case pos=>simp +decide [dw,hb,hb2,hn,n1,n2,n3,h0,ai,aa,av,aA,Tr.mute,d9,bq,aZ,bi,bn,a1]
   by_cases a2:x.uid>=c.next
   case pos=>simp +decide [dw,hb,hb2,hn,n1,n2,n3,h0,ai,aa,av,aA,Tr.mute,d9,bq,aZ,bi,bn,a1,a2]
   by_cases a0:(i:Int)>0
   case pos =>
    have a0n:(0<i)=True:=by simp; omega
    obtain ⟨y,j,hij,hy,hj⟩:=uT hl hi a0;have hp:=fun h=>ay (z:=7) h hy (cells:=Pod.c) rfl;have hk:dI Pod.uid c.pods.l i x=decide (y.uid<x.uid):=by subst hij; simp only [dI,hy]
    by_cases a01:x.uid<=y.uid
    case pos=>simp +decide [dw,hb,hb2,hn,n1,n2,n3,h0,ai,aa,av,aA,Tr.mute,d9,bq,aZ,bi,bn,a1,a2,a0,a0n,hj,hp,hk,a01,show ¬ (y.uid<x.uid) from by omega]
    cases nm
    case false=>simp +decide [dw,hb,hb2,hn,n1,n2,n3,h0,ai,aa,av,aA,Tr.mute,d9,bq,aZ,bi,bn,a1,a2,a0,a0n,hj,hp,hk,a01,show (y.uid<x.uid) from by omega,hnm]
    by_cases b1:x.host<2
    case pos=>simp +decide [dw,hb,hb2,hn,n1,n2,n3,h0,ai,aa,av,aA,Tr.mute,d9,bq,aZ,bi,bn,a1,a2,a0,a0n,hj,hp,hk,a01,show (y.uid<x.uid) from by omega,hnm,b1]
    by_cases b2:x.host>wrap .i64 (c.hosts+1)
    case pos=>simp +decide [dw,hb,hb2,hn,n1,n2,n3,h0,ai,aa,av,aA,Tr.mute,d9,bq,aZ,bi,bn,a1,a2,a0,a0n,hj,hp,hk,a01,show (y.uid<x.uid) from by omega,hnm,b1,b2]
    cases pt
    case false=>simp +decide [dw,hb,hb2,hn,n1,n2,n3,h0,ai,aa,av,aA,Tr.mute,d9,bq,aZ,bi,bn,a1,a2,a0,a0n,hj,hp,hk,a01,show (y.uid<x.uid) from by omega,hnm,b1,b2,hpt]
    by_cases c1:x.service=0
    case pos=>simp +decide [dw,hb,hb2,hn,n1,n2,n3,h0,ai,aa,av,aA,Tr.mute,d9,bq,aZ,bi,bn,a1,a2,a0,a0n,hj,hp,hk,a01,show (y.uid<x.uid) from by omega,hnm,b1,b2,hpt,c1,hw]
    rcases gL c.services.l (fun p=>p.id==x.service) with ⟨e1,e2⟩ | ⟨k,s,e1,e2,e3⟩
    · have hsv:lQ c x.service=none:=e1;rw [e2] at n3;simp +decide [dw,hb,hb2,hn,n1,n2,n3,h0,ai,aa,av,aA,Tr.mute,d9,bq,aZ,bi,bn,a1,a2,a0,a0n,hj,hp,hk,a01,show (y.uid<x.uid) from by omega,hnm,b1,b2,hpt,c1,hsv]
    · have hsv:lQ c x.service=some s:=e1;rw [e2] at n3;have hs:=fun h=>ay (z:=5) h e3 (cells:=Svc.c) rfl;cases c2:eqS s.ns x.ns
      case false=>simp +decide [dw,hb,hb2,hn,n1,n2,n3,h0,ai,aa,av,aA,Tr.mute,d9,bq,aZ,bi,bn,a1,a2,a0,a0n,hj,hp,hk,a01,show (y.uid<x.uid) from by omega,hnm,b1,b2,hpt,c1,hsv,hs,c2]
      simp +decide [dw,hb,hb2,hn,n1,n2,n3,h0,ai,aa,av,aA,Tr.mute,d9,bq,aZ,bi,bn,a1,a2,a0,a0n,hj,hp,hk,a01,show (y.uid<x.uid) from by omega,hnm,b1,b2,hpt,c1,hsv,hs,c2,hw]
   have hk:dI Pod.uid c.pods.l i x=true:=om a0;have a0n:(0<i)=False:=by simp; omega
   cases nm
   case false=>simp +decide [dw,hb,hb2,hn,n1,n2,n3,h0,ai,aa,av,aA,Tr.mute,d9,bq,aZ,bi,bn,a1,a2,a0,a0n,hk,hnm]
   by_cases b1:x.host<2
   case pos=>simp +decide [dw,hb,hb2,hn,n1,n2,n3,h0,ai,aa,av,aA,Tr.mute,d9,bq,aZ,bi,bn,a1,a2,a0,a0n,hk,hnm,b1]
   by_cases b2:x.host>wrap .i64 (c.hosts+1)
   case pos=>simp +decide [dw,hb,hb2,hn,n1,n2,n3,h0,ai,aa,av,aA,Tr.mute,d9,bq,aZ,bi,bn,a1,a2,a0,a0n,hk,hnm,b1,b2]
   cases pt
   case false=>simp +decide [dw,hb,hb2,hn,n1,n2,n3,h0,ai,aa,av,aA,Tr.mute,d9,bq,aZ,bi,bn,a1,a2,a0,a0n,hk,hnm,b1,b2,hpt]
   by_cases c1:x.service=0
   case pos=>simp +decide [dw,hb,hb2,hn,n1,n2,n3,h0,ai,aa,av,aA,Tr.mute,d9,bq,aZ,bi,bn,a1,a2,a0,a0n,hk,hnm,b1,b2,hpt,c1,hw]
   rcases gL c.services.l (fun p=>p.id==x.service) with ⟨e1,e2⟩ | ⟨k,s,e1,e2,e3⟩
   · have hsv:lQ c x.service=none:=e1;rw [e2] at n3;simp +decide [dw,hb,hb2,hn,n1,n2,n3,h0,ai,aa,av,aA,Tr.mute,d9,bq,aZ,bi,bn,a1,a2,a0,a0n,hk,hnm,b1,b2,hpt,c1,hsv]
   · have hsv:lQ c x.service=some s:=e1;rw [e2] at n3;have hs:=fun h=>ay (z:=5) h e3 (cells:=Svc.c) rfl;cases c2:eqS s.ns x.ns
     case false=>simp +decide [dw,hb,hb2,hn,n1,n2,n3,h0,ai,aa,av,aA,Tr.mute,d9,bq,aZ,bi,bn,a1,a2,a0,a0n,hk,hnm,b1,b2,hpt,c1,hsv,hs,c2]
     simp +decide [dw,hb,hb2,hn,n1,n2,n3,h0,ai,aa,av,aA,Tr.mute,d9,bq,aZ,bi,bn,a1,a2,a0,a0n,hk,hnm,b1,b2,hpt,c1,hsv,hs,c2,hw]
 · obtain ⟨bs,rfl,hb⟩:=hI;simp [dw,hb]
theorem Xz (c:Cfg)(hc:c.wf big)(hE:FindX E c):∃ h',(∃ bs,h'=⟨bs,0⟩/\af bs 0=some (c.c.map .d))/\Cd E TX aM (.loop [1,3] fu) [(1,.ptr 0 0),(3,.d (i64 ((0:Nat):Int)))] ⟨[.cells (c.c.map .d)],0⟩=some (cond (fO (gJ c) 0 c.services.l) (.exit 0,[],h') (.ret,[(2,bl false)],h')):=by
 have hok:=hc.ok (bp _);have hl:c.services.l.length<2 ^ 62:=hok.2.1.lt;refine nZ c.services.l (gJ c) (fun i=>[(1,.ptr 0 0),(3,.d (i64 i))]) (fun h=>∃ bs,h=⟨bs,0⟩/\af bs 0=some (c.c.map .d)) (.ret,[(2,bl false)]) (.exit 0,[]) (fun i x hx hi h hI=>?_) (fun h hI W=>?_) _ ⟨_,rfl,by simp⟩
 · obtain ⟨bs,rfl,hb⟩:=hI;have hn:=fun h=>ay (z:=5) h hx (cells:=Svc.c) rfl;have hw:=ak hi hl;have h0:((i:Int)<c.services.l.length):=by omega
   have hb2:=fun ys=>ax (ys:=ys) hb;refine ⟨⟨bs++[.cells (x.c.map .d)],0⟩,⟨_,rfl,ax hb⟩,fun W=>?_⟩;have hp:=hc.2.2.2.2.2.1.2 x (ca hx);have n1:=fun h=>Kc (E:=E) x.ns hp.2.1 h;have n2:=fun h=>SG (E:=E) x.port h;have n3:=fun h=>hE.w x.way h;generalize hnm:bf x.ns=nm at n1;generalize hpt:dN x.port=pt at n2;by_cases a1:x.id<1
   case pos=>simp +decide [fu,hb,hb2,hn,n1,n2,n3,h0,ai,aa,av,aA,Tr.mute,gJ,eZ,dA,a1,show ¬ (x.id>=1) from by omega]
   by_cases a2:x.id>4611686018427387903
   case pos=>simp +decide [fu,hb,hb2,hn,n1,n2,n3,h0,ai,aa,av,aA,Tr.mute,gJ,eZ,dA,a1,show (x.id>=1) from by omega,a2,show ¬ (x.id<=4611686018427387903) from by omega]
   by_cases a0:(i:Int)>0
   case pos =>
    have a0n:(0<i)=True:=by simp; omega
    obtain ⟨y,j,hij,hy,hj⟩:=uT hl hi a0;have hp:=fun h=>ay (z:=5) h hy (cells:=Svc.c) rfl;have hk:dI Svc.id c.services.l i x=decide (y.id<x.id):=by subst hij; simp only [dI,hy]
    by_cases a01:x.id<=y.id
    case pos=>simp +decide [fu,hb,hb2,hn,n1,n2,n3,h0,ai,aa,av,aA,Tr.mute,gJ,eZ,dA,a1,show (x.id>=1) from by omega,a2,show (x.id<=4611686018427387903) from by omega,a0,a0n,hj,hp,hk,a01,show ¬ (y.id<x.id) from by omega]
    cases nm
    case false=>simp +decide [fu,hb,hb2,hn,n1,n2,n3,h0,ai,aa,av,aA,Tr.mute,gJ,eZ,dA,a1,show (x.id>=1) from by omega,a2,show (x.id<=4611686018427387903) from by omega,a0,a0n,hj,hp,hk,a01,show (y.id<x.id) from by omega,hnm]
    cases pt
    case false=>simp +decide [fu,hb,hb2,hn,n1,n2,n3,h0,ai,aa,av,aA,Tr.mute,gJ,eZ,dA,a1,show (x.id>=1) from by omega,a2,show (x.id<=4611686018427387903) from by omega,a0,a0n,hj,hp,hk,a01,show (y.id<x.id) from by omega,hnm,hpt]
    by_cases c1:x.way=0
    case pos=>simp +decide [fu,hb,hb2,hn,n1,n2,n3,h0,ai,aa,av,aA,Tr.mute,gJ,eZ,dA,a1,show (x.id>=1) from by omega,a2,show (x.id<=4611686018427387903) from by omega,a0,a0n,hj,hp,hk,a01,show (y.id<x.id) from by omega,hnm,hpt,c1,hw]
    by_cases c2:cu c.bound.l (fun w=>w.id==x.way)<0
    case pos =>
     have hay:(c.bound.l.any fun w=>w.id==x.way)=false:=by rw [← kw]; simp; omega
     simp +decide [fu,hb,hb2,hn,n1,n2,n3,h0,ai,aa,av,aA,Tr.mute,gJ,eZ,dA,a1,show (x.id>=1) from by omega,a2,show (x.id<=4611686018427387903) from by omega,a0,a0n,hj,hp,hk,a01,show (y.id<x.id) from by omega,hnm,hpt,c1,c2,hay]
    have hay:(c.bound.l.any fun w=>w.id==x.way)=true:=by rw [← kw]; simp; omega
    simp +decide [fu,hb,hb2,hn,n1,n2,n3,h0,ai,aa,av,aA,Tr.mute,gJ,eZ,dA,a1,show (x.id>=1) from by omega,a2,show (x.id<=4611686018427387903) from by omega,a0,a0n,hj,hp,hk,a01,show (y.id<x.id) from by omega,hnm,hpt,c1,c2,hay,hw]
   have hk:dI Svc.id c.services.l i x=true:=om a0;have a0n:(0<i)=False:=by simp; omega
   cases nm
   case false=>simp +decide [fu,hb,hb2,hn,n1,n2,n3,h0,ai,aa,av,aA,Tr.mute,gJ,eZ,dA,a1,show (x.id>=1) from by omega,a2,show (x.id<=4611686018427387903) from by omega,a0,a0n,hk,hnm]
   cases pt
   case false=>simp +decide [fu,hb,hb2,hn,n1,n2,n3,h0,ai,aa,av,aA,Tr.mute,gJ,eZ,dA,a1,show (x.id>=1) from by omega,a2,show (x.id<=4611686018427387903) from by omega,a0,a0n,hk,hnm,hpt]
   by_cases c1:x.way=0
   case pos=>simp +decide [fu,hb,hb2,hn,n1,n2,n3,h0,ai,aa,av,aA,Tr.mute,gJ,eZ,dA,a1,show (x.id>=1) from by omega,a2,show (x.id<=4611686018427387903) from by omega,a0,a0n,hk,hnm,hpt,c1,hw]
   by_cases c2:cu c.bound.l (fun w=>w.id==x.way)<0
   case pos =>
    have hay:(c.bound.l.any fun w=>w.id==x.way)=false:=by rw [← kw]; simp; omega
    simp +decide [fu,hb,hb2,hn,n1,n2,n3,h0,ai,aa,av,aA,Tr.mute,gJ,eZ,dA,a1,show (x.id>=1) from by omega,a2,show (x.id<=4611686018427387903) from by omega,a0,a0n,hk,hnm,hpt,c1,c2,hay]
   have hay:(c.bound.l.any fun w=>w.id==x.way)=true:=by rw [← kw]; simp; omega
   simp +decide [fu,hb,hb2,hn,n1,n2,n3,h0,ai,aa,av,aA,Tr.mute,gJ,eZ,dA,a1,show (x.id>=1) from by omega,a2,show (x.id<=4611686018427387903) from by omega,a0,a0n,hk,hnm,hpt,c1,c2,hay,hw]
 · obtain ⟨bs,rfl,hb⟩:=hI;simp [fu,hb]
theorem XB (c:Cfg)(hc:c.wf big)(hE:FindX E c):∃ h',(∃ bs,h'=⟨bs,0⟩/\af bs 0=some (c.c.map .d))/\Cd E TX aM (.loop [1,3] gM) [(1,.ptr 0 0),(3,.d (i64 ((0:Nat):Int)))] ⟨[.cells (c.c.map .d)],0⟩=some (cond (fO (iO c) 0 c.policies.l) (.exit 0,[],h') (.ret,[(2,bl false)],h')):=by
 have hok:=hc.ok (bp _);have hl:c.policies.l.length<2 ^ 62:=hok.2.2.2.1.lt;refine nZ c.policies.l (iO c) (fun i=>[(1,.ptr 0 0),(3,.d (i64 i))]) (fun h=>∃ bs,h=⟨bs,0⟩/\af bs 0=some (c.c.map .d)) (.ret,[(2,bl false)]) (.exit 0,[]) (fun i x hx hi h hI=>?_) (fun h hI W=>?_) _ ⟨_,rfl,by simp⟩
 · obtain ⟨bs,rfl,hb⟩:=hI;have hn:=fun h=>ay (z:=5) h hx (cells:=Pol.c) rfl;have hw:=ak hi hl;have h0:((i:Int)<c.policies.l.length):=by omega
   have hb2:=fun ys=>ax (ys:=ys) hb;refine ⟨⟨bs++[.cells (x.c.map .d)],0⟩,⟨_,rfl,ax hb⟩,fun W=>?_⟩;have hp:=hc.2.2.2.2.2.2.2.2 x (ca hx);have n1:=fun h=>Yu (E:=E) x hp h;have n3:=fun h=>hE.s x.service h;generalize hnm:ed x=nm at n1;by_cases a1:x.id<1
   case pos=>simp +decide [gM,hb,hb2,hn,n1,n3,h0,ai,aa,av,aA,Tr.mute,iO,eX,a1]
   by_cases a0:(i:Int)>0
   case pos =>
    have a0n:(0<i)=True:=by simp; omega
    obtain ⟨y,j,hij,hy,hj⟩:=uT hl hi a0;have hp:=fun h=>ay (z:=5) h hy (cells:=Pol.c) rfl;have hk:dI Pol.id c.policies.l i x=decide (y.id<x.id):=by subst hij; simp only [dI,hy]
    by_cases a01:x.id<=y.id
    case pos=>simp +decide [gM,hb,hb2,hn,n1,n3,h0,ai,aa,av,aA,Tr.mute,iO,eX,a1,a0,a0n,hj,hp,hk,a01,show ¬ (y.id<x.id) from by omega]
    cases nm
    case false=>simp +decide [gM,hb,hb2,hn,n1,n3,h0,ai,aa,av,aA,Tr.mute,iO,eX,a1,a0,a0n,hj,hp,hk,a01,show (y.id<x.id) from by omega,hnm]
    by_cases c1:x.service=0
    case pos=>simp +decide [gM,hb,hb2,hn,n1,n3,h0,ai,aa,av,aA,Tr.mute,iO,eX,a1,a0,a0n,hj,hp,hk,a01,show (y.id<x.id) from by omega,hnm,c1,hw]
    rcases gL c.services.l (fun p=>p.id==x.service) with ⟨e1,e2⟩ | ⟨k,s,e1,e2,e3⟩
    · have hsv:lQ c x.service=none:=e1;rw [e2] at n3;simp +decide [gM,hb,hb2,hn,n1,n3,h0,ai,aa,av,aA,Tr.mute,iO,eX,a1,a0,a0n,hj,hp,hk,a01,show (y.id<x.id) from by omega,hnm,c1,hsv]
    · have hsv:lQ c x.service=some s:=e1;rw [e2] at n3;simp +decide [gM,hb,hb2,hn,n1,n3,h0,ai,aa,av,aA,Tr.mute,iO,eX,a1,a0,a0n,hj,hp,hk,a01,show (y.id<x.id) from by omega,hnm,c1,hsv,hw]
   have hk:dI Pol.id c.policies.l i x=true:=om a0;have a0n:(0<i)=False:=by simp; omega
   cases nm
   case false=>simp +decide [gM,hb,hb2,hn,n1,n3,h0,ai,aa,av,aA,Tr.mute,iO,eX,a1,a0,a0n,hk,hnm]
   by_cases c1:x.service=0
   case pos=>simp +decide [gM,hb,hb2,hn,n1,n3,h0,ai,aa,av,aA,Tr.mute,iO,eX,a1,a0,a0n,hk,hnm,c1,hw]
   rcases gL c.services.l (fun p=>p.id==x.service) with ⟨e1,e2⟩ | ⟨k,s,e1,e2,e3⟩
   · have hsv:lQ c x.service=none:=e1;rw [e2] at n3;simp +decide [gM,hb,hb2,hn,n1,n3,h0,ai,aa,av,aA,Tr.mute,iO,eX,a1,a0,a0n,hk,hnm,c1,hsv]
   · have hsv:lQ c x.service=some s:=e1;rw [e2] at n3;simp +decide [gM,hb,hb2,hn,n1,n3,h0,ai,aa,av,aA,Tr.mute,iO,eX,a1,a0,a0n,hk,hnm,c1,hsv,hw]
 · obtain ⟨bs,rfl,hb⟩:=hI;simp [gM,hb]
theorem bg3:TX 84=some Pm:=by kernel_rfl
theorem bd0:aM 84=true:=by kernel_rfl
theorem Yl (c:Cfg)(hc:c.wf big)(hE:FindX E c)(h:Hp):Sm E TX aM 84 [c.v] h=some (bl (fG c),h):=by
 obtain ⟨h',⟨bs,rfl,hb⟩,k1⟩:=Xy c hc hE;have he:fO (d9 c) 0 c.pods.l=fG c:=by
  have:d9 c=fun i x=>dI Pod.uid c.pods.l i x&&(fun _ x=>!bq c x) i x:=rfl;rw [this,mU,nV,qG,fG,Bool.and_comm]
 rw [he] at k1;rw [aV bg3 bd0];simp at k1;simp [ae,Pm];rw [au];simp [k1];cases fG c<;>simp
theorem bg4:TX 85=some Pn:=by kernel_rfl
theorem bd1:aM 85=true:=by kernel_rfl
theorem Ym (c:Cfg)(hc:c.wf big)(hE:FindX E c)(h:Hp):Sm E TX aM 85 [c.v] h=some (bl (bL c),h):=by
 obtain ⟨h',⟨bs,rfl,hb⟩,k1⟩:=Xz c hc hE;have he:fO (gJ c) 0 c.services.l=bL c:=by
  have:gJ c=fun i x=>dI Svc.id c.services.l i x&&(fun _ x=>!eZ c x) i x:=rfl;rw [this,mU,nV,qG,bL,Bool.and_comm]
 rw [he] at k1;rw [aV bg4 bd1];simp at k1;simp [ae,Pn];rw [au];simp [k1];cases bL c<;>simp
theorem bg7:TX 88=some Pq:=by kernel_rfl
theorem bd4:aM 88=true:=by kernel_rfl
theorem Yp (c:Cfg)(hc:c.wf big)(hE:FindX E c)(h:Hp):Sm E TX aM 88 [c.v] h=some (bl (bB c),h):=by
 obtain ⟨h',⟨bs,rfl,hb⟩,k1⟩:=XB c hc hE;have he:fO (iO c) 0 c.policies.l=bB c:=by
  have:iO c=fun i x=>dI Pol.id c.policies.l i x&&(fun _ x=>!eX c x) i x:=rfl;rw [this,mU,nV,qG,bB,Bool.and_comm]
 rw [he] at k1;rw [aV bg7 bd4];simp at k1;simp [ae,Pq];rw [au];simp [k1];cases bB c<;>simp
end
section
variable {E:Calls'}
theorem Rx (c:Cfg)(hc:c.ok)(hsm:c.pods.l.length<=2 ^ 20):∀ (m i:Nat) (acc:List Int) (bs:List Blk) (lo:Nat) (v:V),i+m=c.pods.l.length->acc.length=i+1->Ar c acc bs v →
 ∃ v' bs' lo',Cd E TX aM (.loop [1,3,4] oG) [(1,.ptr 0 0),(3,v),(4,.d (i64 i))] ⟨bs,lo⟩ =
  some (.exit 0,[(1,.ptr 0 0),(3,v')],⟨bs',lo'⟩)/\Ar c (acc++(c.pods.l.drop i).map Pod.addr) bs' v':=by
 have hlt:=hc.1.lt;intro m;have key:=aC (E:=E) (T:=TX) (val:=aM) [1,3,4] oG;generalize Cd E TX aM (.loop [1,3,4] oG)=W at key ⊢
 induction m with
 | zero =>
  intro i acc bs lo v hi ha hA;refine ⟨v,bs,lo,?_,by rw [ba (by omega)]; simpa using hA⟩;rw [key];simp [oG,hA.c0,show ¬ ((i:Int)<c.pods.l.length) from by omega]
 | succ m ih =>
  intro i acc bs lo v hi ha hA;have h1:i<c.pods.l.length:=by omega
  have hx:=fun h=>ay (z:=7) h (ac h1) (cells:=Pod.c) rfl;have hw:=ak h1 hlt;have hnu:=hA.nu;rw [aw h1];generalize c.pods.l[i]=p at *;have hA2:=hA.lay [.cells [iv .u32 p.addr]];obtain ⟨v1,bs1,lo1,k1,k2⟩:=hA2.app (by show _<2 ^ 30; omega) lo (x:=p.addr) (r:=bs.length) (cap:=some 1) (by simp);have hnu1:=k2.nu;obtain ⟨v',bs',lo',q1,q2⟩:=ih (i+1) (acc++[p.addr]) bs1 lo1 v1 (by omega) (by simp; omega) k2;refine ⟨v',bs',lo',?_,by simpa using q2⟩;rw [key];simp [iv] at k1;simp [oG,hA.c0,hx,hnu,aH,k1,hnu1,hw,show ((i:Int)<c.pods.l.length) from by omega];simpa using q1
theorem Ry (c:Cfg)(hc:c.ok)(n:Nat)(hn:n<=2 ^ 20)(hsm:c.services.l.length<=2 ^ 20):∀ (m i:Nat) (acc:List Int) (bs:List Blk) (lo:Nat) (v:V),i+m=c.services.l.length->acc.length=n+i+1->Ar c acc bs v →
 ∃ v' bs' lo',Cd E TX aM (.loop [1,3,5] oH) [(1,.ptr 0 0),(3,v),(5,.d (i64 i))] ⟨bs,lo⟩ =
  some (.exit 2,[(3,v')],⟨bs',lo'⟩)/\Ar c (acc++(c.services.l.drop i).map Svc.addr) bs' v':=by
 have hlt:=hc.2.1.lt;intro m;have key:=aC (E:=E) (T:=TX) (val:=aM) [1,3,5] oH;generalize Cd E TX aM (.loop [1,3,5] oH)=W at key ⊢
 induction m with
 | zero =>
  intro i acc bs lo v hi ha hA;refine ⟨v,bs,lo,?_,by rw [ba (by omega)]; simpa using hA⟩;rw [key];simp [oH,hA.c0,show ¬ ((i:Int)<c.services.l.length) from by omega]
 | succ m ih =>
  intro i acc bs lo v hi ha hA;have h1:i<c.services.l.length:=by omega
  have hx:=fun h=>ay (z:=5) h (ac h1) (cells:=Svc.c) rfl;have hw:=ak h1 hlt;have hnu:=hA.nu;rw [aw h1];generalize c.services.l[i]=p at *;have hA2:=hA.lay [.cells [iv .u32 p.addr]];obtain ⟨v1,bs1,lo1,k1,k2⟩:=hA2.app (by show _<2 ^ 30; omega) lo (x:=p.addr) (r:=bs.length) (cap:=some 1) (by simp);have hnu1:=k2.nu;obtain ⟨v',bs',lo',q1,q2⟩:=ih (i+1) (acc++[p.addr]) bs1 lo1 v1 (by omega) (by simp; omega) k2;refine ⟨v',bs',lo',?_,by simpa using q2⟩;rw [key];simp [iv] at k1;simp [oH,hA.c0,hx,hnu,aH,k1,hnu1,hw,show ((i:Int)<c.services.l.length) from by omega];simpa using q1
section
variable {bs:List Blk}{b lo:Nat}{l:List Int}(hb:af bs b=some (l.map (iv .u32)))(hl:l.length<2 ^ 62){cap:Option Nat}
include hb hl
theorem Rz {i:Nat}{x:Int}(hx:l[i]?=some x)(hi:i<l.length):Cd E TX aM (.loop [3,6,7] rG) [(3,.row b 0 l.length cap 1),(6,.d (i64 i)),(7,.d (i64 ((0:Nat):Int)))] ⟨bs,lo⟩=some (cond ((l.take i).all fun y=>!(y==x)) (.exit 6,[(3,.row b 0 l.length cap 1),(6,.d (i64 i))],⟨bs,lo⟩) (.ret,[(2,bl false)],⟨bs,lo⟩)):=by
 have hlen:(l.take i).length=i:=by simp; omega
 have hix:=fun h=>jM (b:=b) (o:=0) (z:=1) (cap:=cap) (kd:=.i64) (h:=h) hi;have hld:=zL (lo:=lo) hb hi;have hxi:l[i]=x:=by rw [ac hi] at hx; exact cn hx
 rw [hxi] at hld;simp only [Nat.mul_one,Nat.zero_add] at hix;refine bS (l.take i) (fun y=>!(y==x)) (fun k=>[(3,.row b 0 l.length cap 1),(6,.d (i64 i)),(7,.d (i64 k))]) _ _ _ (fun k y hy hk W=>?_) (fun W=>?_)
 · have hki:k<i:=by omega
   have hkl:k<l.length:=by omega
   have hy':l[k]=y:=by rw [List.getElem?_take,if_pos hki,ac hkl] at hy; exact cn hy
   have hjx:=fun h=>jM (b:=b) (o:=0) (z:=1) (cap:=cap) (kd:=.i64) (h:=h) hkl;have hjd:=zL (lo:=lo) hb hkl;rw [hy'] at hjd;simp only [Nat.mul_one,Nat.zero_add] at hjx;have hw:=ak hki (Nat.lt_trans hi hl);have h0:((k:Int)<(i:Int)):=by omega
   by_cases he:y=x
   · subst he;simp [rG,hix,hld,hjx,hjd,h0,hw,-dD]
   · simp [rG,hix,hld,hjx,hjd,h0,hw,he,-dD]
 · simp only [hlen];simp [rG]
theorem RA:Cd E TX aM (.loop [3,6] uV) [(3,.row b 0 l.length cap 1),(6,.d (i64 ((0:Nat):Int)))] ⟨bs,lo⟩=some (cond (fO (fun i x=>(l.take i).all fun y=>!(y==x)) 0 l) (.exit 4,[],⟨bs,lo⟩) (.ret,[(2,bl false)],⟨bs,lo⟩)):=by
 refine sW l _ (fun i=>[(3,.row b 0 l.length cap 1),(6,.d (i64 i))]) _ _ _ (fun i x hx hi W=>?_) (fun W=>?_)
 · have k:=Rz (E:=E) (lo:=lo) hb hl (cap:=cap) hx hi;have hw:=ak hi hl;have h0:((i:Int)<l.length):=by omega
   generalize ((l.take i).all fun y=>!(y==x))=G at *;simp only [Int.natCast_zero] at k;simp [uV,h0];rw [au];simp [k];cases G<;>simp [hw]
 · simp [uV]
end
theorem Aj {L:List Int}:∀ (m pre:List Int),L=pre++m->fO (fun i x=>(L.take i).all fun y=>!(y==x)) pre.length m=!dup pre m
 | [],_,_=>rfl
 | x::m,pre,h=>by
  have ih:=Aj (L:=L) m (pre++[x]) (by simp [h]);have ht:L.take pre.length=pre:=by rw [h]; simp
  rw [ap] at ih;rw [fO,dup,Bool.not_or,← ih,ht]
  congr 1
  rw [List.not_any_eq_all_not]
  congr 1
  funext y;rw [Bool.eq_iff_iff];simp only [Bool.not_eq_true',beq_eq_false_iff_ne];exact ⟨Ne.symm,Ne.symm⟩
theorem bg5:TX 86=some Po:=by kernel_rfl
theorem bd2:aM 86=true:=by kernel_rfl
theorem Yn (c:Cfg)(hc:c.wf 1048576)(h:Hp):Sm E TX aM 86 [c.v] h=some (bl (jA c),h):=by
 have hok:c.ok:=hc.ok (by decide);have f1:c.pods.l.length<=2 ^ 20:=hc.2.2.2.2.1.1.1;have f2:c.services.l.length<=2 ^ 20:=hc.2.2.2.2.2.1.1.1;have hA:Ar c [0] [.cells (c.c.map .d),.cells [iv .u32 0]] (.row 1 0 1 (some 1) 1):=⟨by simp,⟨1,some 1,by omega,rfl,by simp,.inr rfl⟩,by simp⟩;obtain ⟨v1,bs1,lo1,a1,a2⟩:=Rx (E:=E) c hok f1 c.pods.l.length 0 [0] _ 0 _ (by omega) rfl hA;simp only [List.drop_zero] at a2;obtain ⟨v2,bs2,lo2,b1,b2⟩:=Ry (E:=E) c hok c.pods.l.length f1 f2 c.services.l.length 0 _ bs1 lo1 v1 (by omega) (by simp) a2;simp only [List.drop_zero] at b2;have hl:([0]++c.pods.l.map Pod.addr++c.services.l.map Svc.addr)=0::(c.pods.l.map Pod.addr++c.services.l.map Svc.addr):=by simp
 rw [hl] at b2;have hlen:(0::(c.pods.l.map Pod.addr++c.services.l.map Svc.addr)).length<2 ^ 62:=by simp; omega
 unfold jA;generalize (0::(c.pods.l.map Pod.addr++c.services.l.map Svc.addr))=L at *;obtain ⟨b,cap,p1,rfl,p3,p4⟩:=b2.is;have d1:=RA (E:=E) (lo:=lo2) p3 hlen (cap:=cap);have hnu:=a2.nu;have hnu2:=b2.nu;have hd:=Aj (L:=L) L [] rfl;simp only [cg] at hd;rw [hd] at d1;generalize (!dup [] L)=G at *;rw [aV bg5 bd2];simp [iv] at a1;simp at b1 d1;simp [ae,Po,aH];rw [au];simp [a1,hnu];rw [au];simp [b1,hnu2];rw [au];simp [d1];cases G<;>simp
def jk (c:Cfg)(i:Nat)(w:Way):Bool:=dI Way.id c.bound.l i w&&!iC c (c.bound.l.take i) w
theorem EZ (c:Cfg):∀ (m pre:List Way),c.bound.l=pre++m->fO (fun i x=>!iC c (c.bound.l.take i) x) pre.length m=!iw c pre m
 | [],_,_=>rfl
 | x::m,pre,h=>by
  have ih:=EZ c m (pre++[x]) (by simp [h]);have ht:c.bound.l.take pre.length=pre:=by rw [h]; simp
  rw [ap] at ih;rw [fO,iw,Bool.not_or,← ih,ht];rfl
theorem XA (c:Cfg)(hok:c.ok){bs:List Blk}(hb:af bs 0=some (c.c.map .d)){i:Nat}{x:Way}(hx:c.bound.l[i]?=some x)(hi:i<c.bound.l.length) :
 Cd E TX aM (.loop [1,3,4,5] uW) [(1,.ptr 0 0),(3,.d (i64 i)),(4,.ptr bs.length 0),(5,.d (i64 ((0:Nat):Int)))] ⟨bs++[.cells (x.c.map .d)],0⟩ =
  some (cond ((c.bound.l.take i).all fun y=>!(y.node==x.node)) (.exit 2,[(1,.ptr 0 0),(3,.d (i64 i))],⟨bs++[.cells (x.c.map .d)],0⟩) (.ret,[(2,bl false)],⟨bs++[.cells (x.c.map .d)],0⟩)):=by
 have hlen:(c.bound.l.take i).length=i:=by simp; omega
 have hb2:=fun ys=>ax (ys:=ys) hb;refine bS (c.bound.l.take i) (fun y=>!(y.node==x.node)) (fun k=>[(1,.ptr 0 0),(3,.d (i64 i)),(4,.ptr bs.length 0),(5,.d (i64 k))]) _ _ _ (fun k y hy hk W=>?_) (fun W=>?_)
 · have hki:k<i:=by omega
   have hy':c.bound.l[k]?=some y:=by rw [List.getElem?_take] at hy; simpa [hki] using hy
   have hn:=fun h=>ay (z:=2) h hy' (cells:=Way.c) rfl;have hw:=ak hki (Nat.lt_trans hi hok.2.2.1.lt);have h0:((k:Int)<(i:Int)):=by omega
   by_cases he:y.node=x.node<;>simp [uW,hb2,hn,h0,hw,he]
 · simp only [hlen];simp [uW]
theorem bg6:TX 87=some Pp:=by kernel_rfl
theorem bd3:aM 87=true:=by kernel_rfl
theorem XQ (c:Cfg)(hc:c.wf big):∃ h',(∃ bs,h'=⟨bs,0⟩/\af bs 0=some (c.c.map .d))/\Cd E TX aM (.loop [1,3] iq) [(1,.ptr 0 0),(3,.d (i64 ((0:Nat):Int)))] ⟨[.cells (c.c.map .d)],0⟩=some (cond (fO (jk c) 0 c.bound.l) (.exit 0,[],h') (.ret,[(2,bl false)],h')):=by
 have hok:=hc.ok (bp _);have hl:c.bound.l.length<2 ^ 62:=hok.2.2.1.lt;refine nZ c.bound.l (jk c) (fun i=>[(1,.ptr 0 0),(3,.d (i64 i))]) (fun h=>∃ bs,h=⟨bs,0⟩/\af bs 0=some (c.c.map .d)) (.ret,[(2,bl false)]) (.exit 0,[]) (fun i x hx hi h hI=>?_) (fun h hI W=>?_) _ ⟨_,rfl,by simp⟩
 · obtain ⟨bs,rfl,hb⟩:=hI;have hn:=fun h=>ay (z:=2) h hx (cells:=Way.c) rfl;have hw:=ak hi hl;have h0:((i:Int)<c.bound.l.length):=by omega
   have hb2:=fun ys=>ax (ys:=ys) hb;have k:=XA (E:=E) c hok hb hx hi;refine ⟨⟨bs++[.cells (x.c.map .d)],0⟩,⟨_,rfl,ax hb⟩,fun W=>?_⟩;have hA:((c.bound.l.take i).any fun v=>v.node==x.node)=!((c.bound.l.take i).all fun y=>!(y.node==x.node)):=by
    rw [List.not_all_eq_any_not]; congr 1; funext y; rw [Bool.not_not]
   generalize ((c.bound.l.take i).all fun y=>!(y.node==x.node))=G at *;simp only [Int.natCast_zero] at k;by_cases a1:x.id<1
   case pos=>simp [iq,hb,hb2,hn,h0,jk,iC,dA,a1,show ¬ (x.id>=1) from by omega]
   by_cases a2:x.id>4611686018427387903
   case pos=>simp [iq,hb,hb2,hn,h0,jk,iC,dA,a1,show x.id>=1 from by omega,a2,show ¬ (x.id<=4611686018427387903) from by omega]
   by_cases a0:(i:Int)>0
   case pos =>
    have a0n:(0<i)=True:=by simp; omega
    obtain ⟨y,j,hij,hy,hj⟩:=uT hl hi a0;have hp:=fun h=>ay (z:=2) h hy (cells:=Way.c) rfl;have hk:dI Way.id c.bound.l i x=decide (y.id<x.id):=by subst hij; simp only [dI,hy]
    by_cases a01:x.id<=y.id
    case pos=>simp [iq,hb,hb2,hn,h0,jk,iC,dA,a1,show x.id>=1 from by omega,a2,show x.id<=4611686018427387903 from by omega,a0,a0n,hj,hp,hk,a01,show ¬ (y.id<x.id) from by omega]
    by_cases b1:x.node<wrap .i64 (c.hosts+2)
    case pos=>simp [iq,hb,hb2,hn,h0,jk,iC,dA,a1,show x.id>=1 from by omega,a2,show x.id<=4611686018427387903 from by omega,a0,a0n,hj,hp,hk,a01,show (y.id<x.id) from by omega,b1]
    by_cases b2:x.node>wrap .i64 (wrap .i64 (c.hosts+1)+c.ways)
    case pos=>simp [iq,hb,hb2,hn,h0,jk,iC,dA,a1,show x.id>=1 from by omega,a2,show x.id<=4611686018427387903 from by omega,a0,a0n,hj,hp,hk,a01,show (y.id<x.id) from by omega,b1,b2]
    simp [iq,hb,hb2,hn,h0,jk,iC,dA,a1,show x.id>=1 from by omega,a2,show x.id<=4611686018427387903 from by omega,a0,a0n,hj,hp,hk,a01,show (y.id<x.id) from by omega,b1,b2];rw [au];simp [k,hA];cases G<;>simp [hw]
   have hk:dI Way.id c.bound.l i x=true:=om a0;have a0n:(0<i)=False:=by simp; omega
   by_cases b1:x.node<wrap .i64 (c.hosts+2)
   case pos=>simp [iq,hb,hb2,hn,h0,jk,iC,dA,a1,show x.id>=1 from by omega,a2,show x.id<=4611686018427387903 from by omega,a0,a0n,hk,b1]
   by_cases b2:x.node>wrap .i64 (wrap .i64 (c.hosts+1)+c.ways)
   case pos=>simp [iq,hb,hb2,hn,h0,jk,iC,dA,a1,show x.id>=1 from by omega,a2,show x.id<=4611686018427387903 from by omega,a0,a0n,hk,b1,b2]
   simp [iq,hb,hb2,hn,h0,jk,iC,dA,a1,show x.id>=1 from by omega,a2,show x.id<=4611686018427387903 from by omega,a0,a0n,hk,b1,b2];rw [au];simp [k,hA];cases G<;>simp [hw]
 · obtain ⟨bs,rfl,hb⟩:=hI;simp [iq,hb]
theorem Yo (c:Cfg)(hc:c.wf big)(h:Hp):Sm E TX aM 87 [c.v] h=some (bl (dJ c),h):=by
 obtain ⟨h',⟨bs,rfl,hb⟩,k1⟩:=XQ (E:=E) c hc;have he:fO (jk c) 0 c.bound.l=dJ c:=by
  have:jk c=fun i x=>dI Way.id c.bound.l i x&&(fun i x=>!iC c (c.bound.l.take i) x) i x:=rfl;have h2:=EZ c c.bound.l [] rfl;simp only [cg] at h2;rw [this,mU,nV,h2,dJ,Bool.and_comm]
 rw [he] at k1;rw [aV bg6 bd3];simp at k1;simp [ae,Pp];rw [au];simp [k1];cases dJ c<;>simp
theorem x97:TX 28=some q97:=by kernel_rfl
theorem w97:aM 28=true:=by kernel_rfl
theorem S97 (c:Cfg)(h:Hp):Sm E TX aM 28 [c.v] h=some (bl (bT c),h):=by
 unfold bT;rw [aV x97 w97];by_cases a1:(c.pods.l.length:Int)<=16
 case neg=>simp [ae,q97,az,a1]
 by_cases a2:(c.services.l.length:Int)<=6
 case neg=>simp [ae,q97,az,a1,a2]
 by_cases a3:(c.bound.l.length:Int)<=4
 case neg=>simp [ae,q97,az,a1,a2,a3]
 simp [ae,q97,az,a1,a2,a3]
theorem x98:TX 29=some q98:=by kernel_rfl
theorem w98:aM 29=true:=by kernel_rfl
theorem S98 (c:Cfg)(hc:c.wf 1048576)(hcb:c.wf big)(hE:FindX E c)(h:Hp):Sm E TX aM 29 [c.v] h=some (bl (gP c),h):=by
 have n1:=fun h=>Yl c hcb hE h;have n2:=fun h=>Ym c hcb hE h;have n3:=fun h=>Yn (E:=E) c hc h;have n4:=fun h=>Yo (E:=E) c hcb h;have n5:=fun h=>Yp c hcb hE h;unfold gP jI;generalize fG c=A at *;generalize bL c=B at *;generalize jA c=C at *;generalize dJ c=D at *;generalize bB c=F at *;rw [aV x98 w98];by_cases a1:c.epoch>4611686018427387903
 case pos=>simp +decide [ae,q98,ai,aa,av,az,a1,show ¬ (c.epoch<=4611686018427387903) from by omega]
 by_cases a2:c.next<10
 case pos=>simp +decide [ae,q98,ai,aa,av,az,a1,show c.epoch<=4611686018427387903 from by omega,a2,show ¬ (c.next>=10) from by omega]
 by_cases a3:c.next>4611686018427387904
 case pos=>simp +decide [ae,q98,ai,aa,av,az,a1,show c.epoch<=4611686018427387903 from by omega,a2,show c.next>=10 from by omega,a3,show ¬ (c.next<=4611686018427387904) from by omega]
 by_cases a4:c.hosts<1
 case pos=>simp +decide [ae,q98,ai,aa,av,az,a1,show c.epoch<=4611686018427387903 from by omega,a2,show c.next>=10 from by omega,a3,show c.next<=4611686018427387904 from by omega,a4,show ¬ (c.hosts>=1) from by omega]
 by_cases a5:c.hosts>4
 case pos=>simp +decide [ae,q98,ai,aa,av,az,a1,show c.epoch<=4611686018427387903 from by omega,a2,show c.next>=10 from by omega,a3,show c.next<=4611686018427387904 from by omega,a4,show c.hosts>=1 from by omega,a5,show ¬ (c.hosts<=4) from by omega]
 by_cases a6:c.ways<0
 case pos=>simp +decide [ae,q98,ai,aa,av,az,a1,show c.epoch<=4611686018427387903 from by omega,a2,show c.next>=10 from by omega,a3,show c.next<=4611686018427387904 from by omega,a4,show c.hosts>=1 from by omega,a5,show c.hosts<=4 from by omega,a6,show ¬ (c.ways>=0) from by omega]
 by_cases a7:c.ways>4
 case pos=>simp +decide [ae,q98,ai,aa,av,az,a1,show c.epoch<=4611686018427387903 from by omega,a2,show c.next>=10 from by omega,a3,show c.next<=4611686018427387904 from by omega,a4,show c.hosts>=1 from by omega,a5,show c.hosts<=4 from by omega,a6,show c.ways>=0 from by omega,a7,show ¬ (c.ways<=4) from by omega]
 cases A
 case false=>simp +decide [ae,q98,ai,aa,av,az,a1,show c.epoch<=4611686018427387903 from by omega,a2,show c.next>=10 from by omega,a3,show c.next<=4611686018427387904 from by omega,a4,show c.hosts>=1 from by omega,a5,show c.hosts<=4 from by omega,a6,show c.ways>=0 from by omega,a7,show c.ways<=4 from by omega,n1]
 cases B
 case false=>simp +decide [ae,q98,ai,aa,av,az,a1,show c.epoch<=4611686018427387903 from by omega,a2,show c.next>=10 from by omega,a3,show c.next<=4611686018427387904 from by omega,a4,show c.hosts>=1 from by omega,a5,show c.hosts<=4 from by omega,a6,show c.ways>=0 from by omega,a7,show c.ways<=4 from by omega,n1,n2]
 cases C
 case false=>simp +decide [ae,q98,ai,aa,av,az,a1,show c.epoch<=4611686018427387903 from by omega,a2,show c.next>=10 from by omega,a3,show c.next<=4611686018427387904 from by omega,a4,show c.hosts>=1 from by omega,a5,show c.hosts<=4 from by omega,a6,show c.ways>=0 from by omega,a7,show c.ways<=4 from by omega,n1,n2,n3]
 cases D
 case false=>simp +decide [ae,q98,ai,aa,av,az,a1,show c.epoch<=4611686018427387903 from by omega,a2,show c.next>=10 from by omega,a3,show c.next<=4611686018427387904 from by omega,a4,show c.hosts>=1 from by omega,a5,show c.hosts<=4 from by omega,a6,show c.ways>=0 from by omega,a7,show c.ways<=4 from by omega,n1,n2,n3,n4]
 simp +decide [ae,q98,ai,aa,av,az,a1,show c.epoch<=4611686018427387903 from by omega,a2,show c.next>=10 from by omega,a3,show c.next<=4611686018427387904 from by omega,a4,show c.hosts>=1 from by omega,a5,show c.hosts<=4 from by omega,a6,show c.ways>=0 from by omega,a7,show c.ways<=4 from by omega,n1,n2,n3,n4,n5]
end
section
variable {E:Calls'}
theorem Lb {l:List V}{i:Nat}{x:V}(h:i<l.length):put l i [x]=some (l.set i x):=by
 simp only [put,cf,cg];rw [if_pos (by omega),List.set_eq_take_append_cons_drop,if_pos h];simp
theorem ES {l:List V}{i:Nat}(h:i<l.length):sub l i 1=some [l[i]]:=by
 rw [eY,if_pos (by omega),aw h]; rfl
def iW (x:Int)(j:Nat):Int:=x / 128 ^ j % 128
theorem AP (x:Int)(j:Nat):0<=iW x j/\iW x j<128:=⟨Int.emod_nonneg _ (by decide),Int.emod_lt_of_pos _ (by decide)⟩
def kC (x:Int):Nat->Nat
 | 0=>0
 | i+1=>if iW x i>0 then i else kC x i
theorem za (x:Int):∀ i,kC x i<=i-1
 | 0=>bp _
 | i+1=>by
  have:=za x i;simp only [kC];split<;>omega
def eB (f:Nat->Int):List V:=(List.range 10).map fun j=>iv .u8 (f j)
theorem vJ (f:Nat->Int):(eB f).length=10:=by simp [eB]
theorem Ki (f:Nat->Int){i:Nat}(h:i<10):sub (eB f) i 1=some [iv .u8 (f i)]:=by
 rw [ES (by rw [vJ]; exact h)];simp [eB]
theorem Hf (f:Nat->Int){i:Nat}(h:i<10)(y:Int):put (eB f) i [iv .u8 y]=some (eB fun j=>if j=i then y else f j):=by
 rw [Lb (by rw [vJ]; exact h)]
 congr 1
 apply List.ext_getElem
 · simp [eB]
 · intro n h1 h2;rw [List.getElem_set];simp only [eB,List.getElem_map,List.getElem_range];by_cases hn:i=n
   · simp [hn]
   · rw [if_neg hn,if_neg (fun h=>hn h.symm)]
theorem pM {f g:Nat->Int}(h:∀ j,j<10->f j=g j):eB f=eB g:=by
 simp only [eB];apply List.map_congr_left;intro j hj;rw [h j (by simpa using hj)]
theorem Ew {b i:Nat}(h:i<10)(hp:Hp):eP (some 10) 1 (.ptr b 0) (.d (.int .i64 (i:Int))) hp=some (.ptr b i,hp):=by
 simp only [eP];rw [if_pos ⟨by omega,by omega⟩];simp
theorem Iw {bs:List Blk}{b lo i:Nat}{f:Nat->Int}(hb:af bs b=some (eB f))(h:i<10):ldv ⟨bs,lo⟩ (.ptr b i) 1 true=some (.d (.int .u8 (f i)),⟨bs,lo⟩):=by
 rw [dD,get_eq];show (match (match af bs b with | some cs=>sub cs i 1 | none=>none) with | some cs=>_ | none=>none)=_;rw [hb];simp only [Ki f h]; rfl
theorem JJ {bs:List Blk}{b lo i:Nat}{f:Nat->Int}(hb:af bs b=some (eB f))(h:i<10)(y:Int):stv ⟨bs,lo⟩ (.ptr b i) (.d (.int .u8 y)) 1=some (.undef,⟨bs.set b (.cells (eB fun j=>if j=i then y else f j)),min lo b⟩):=by
 have hp:=Hf f h y;simp only [iv] at hp;simp [si,Ch,hb,hp,-kG,-jJ]
def NR (a b:Int):Int:=wrap .u64 ((BitVec.ofInt 64 a &&& BitVec.ofInt 64 b).toNat)
theorem xQ {a b:Int}:bV .and (.d (.int .u64 a)) (.d (.int .u64 b))=some (.int .u64 (NR a b)):=by
 simp only [bV,fP,if_true];rfl
theorem Kg {x:Int}(h0:0<=x)(h1:x<2 ^ 64):NR x 127=x % 128:=by
 obtain ⟨n,rfl⟩:=Int.eq_ofNat_of_zero_le h0;have e:(BitVec.ofInt 64 (n:Int) &&& BitVec.ofInt 64 127).toNat=n % 128:=by
  rw [show (127:Int)=((127:Nat):Int) from rfl,BitVec.ofInt_natCast,BitVec.ofInt_natCast,BitVec.toNat_and,BitVec.toNat_ofNat,BitVec.toNat_ofNat];rw [Nat.mod_eq_of_lt (show n<2 ^ 64 by omega),show 127 % 2 ^ 64=2 ^ 7-1 from rfl,Nat.and_two_pow_sub_one_eq_mod]
 rw [NR,e];simp [wrap,IntKind.bits,IntKind.signed];omega
theorem Au {x:Int}:bV .shr (.d (.int .u64 x)) (.d (.int .u64 7))=some (.int .u64 (x.fdiv 128)):=by simp [bV,IntKind.bits]
theorem K8 {x:Int}(h0:0<=x)(i:Nat):(x / 128 ^ i).fdiv 128=x / 128 ^ (i+1):=by
 have hp:(0:Int)<128 ^ i:=Int.pow_pos (by omega);rw [Int.fdiv_eq_ediv_of_nonneg _ (by omega),Int.ediv_ediv_of_nonneg (by omega),Int.pow_succ]
def jL (x:Int)(i j:Nat):Int:=if j<i then iW x j else 0
theorem XF {x:Int}(h0:0<=x)(h1:x<2 ^ 64)(bs:List Blk):∀ (m i:Nat) (ys:List Blk),i+m=10->ys=[.cells (eB (jL x i))] →
 Cd E TX aM (.loop [0,3,4,5] mr) [(0,.d (u64 (x / 128 ^ i))),(3,.ptr bs.length 0),(4,.d (i64 (kC x i:Nat))),(5,.d (i64 i))] ⟨bs++ys,bs.length⟩ =
  some (.exit 0,[(3,.ptr bs.length 0),(4,.d (i64 (kC x 10:Nat)))],⟨bs++[.cells (eB (jL x 10))],bs.length⟩):=by
 intro m;have key:=aC (E:=E) (T:=TX) (val:=aM) [0,3,4,5] mr;generalize Cd E TX aM (.loop [0,3,4,5] mr)=W at key ⊢
 induction m with
 | zero =>
  intro i ys hi hy;have:i=10:=by omega
  subst this;subst hy;rw [key];simp [mr]
 | succ m ih =>
  intro i ys hi hy;have hi10:i<10:=by omega
  have hxi0:0<=x / 128 ^ i:=Int.ediv_nonneg h0 (Int.le_of_lt (Int.pow_pos (by omega)));have hxi1:x / 128 ^ i<2 ^ 64:=Int.lt_of_le_of_lt (Int.ediv_le_self _ h0) h1;have hand:=Kg hxi0 hxi1;have hdig:x / 128 ^ i % 128=iW x i:=rfl;have hdr:=AP x i;have hw8:wrap .u8 (iW x i)=iW x i:=by rw [wrap_u8]; omega
  have hsh:=K8 h0 i;have hw:wrap .i64 ((i:Int)+1)=((i+1:Nat):Int):=by rw [wrap64]<;>omega
  have hb:af (bs++ys) bs.length=some (eB (jL x i)):=by subst hy; simp
  have hst:=JJ (lo:=bs.length) hb hi10 (iW x i);have hcong:(eB fun j=>if j=i then iW x i else jL x i j)=eB (jL x (i+1)):=pM fun j hj=>by
   simp only [jL];by_cases h2:j=i
   · subst h2; simp
   · rw [if_neg h2];by_cases h3:j<i
     · rw [if_pos h3,if_pos (by omega)]
     · rw [if_neg h3,if_neg (by omega)]
  have hset:(bs++ys).set bs.length (.cells (eB fun j=>if j=i then iW x i else jL x i j))=bs++[.cells (eB (jL x (i+1)))]:=by
   subst hy; rw [hcong]; simp
  rw [hset,Nat.min_self] at hst;have hb2:af (bs++[.cells (eB (jL x (i+1)))]) bs.length=some (eB (jL x (i+1))):=by simp
  have hld:=fun lo=>Iw (lo:=lo) hb2 hi10;have hsi:jL x (i+1) i=iW x i:=by simp [jL]
  rw [hsi] at hld;have hix:=fun h=>Ew (b:=bs.length) hi10 h;have h10:((i:Int)<10):=by omega
  have k:=ih (i+1) _ (by omega) rfl;rw [← k,key];by_cases hd:iW x i>0
  · have hl:kC x (i+1)=i:=by simp [kC,hd]
    simp [mr,h10,xQ,hand,hdig,hw8,hix,hst,Au,hsh,hld,hd,hl,hw,-si,-dD]
  · have hl:kC x (i+1)=kC x i:=by simp [kC,hd]
    simp [mr,h10,xQ,hand,hdig,hw8,hix,hst,Au,hsh,hld,hd,hl,hw,-si,-dD]
def kM (x:Int)(i j:Nat):Int:=if j<i then iW x j+128 else iW x j
theorem XT {x:Int}(bs:List Blk)(n:Nat)(hn:n<=9):∀ (m i:Nat) (ys:List Blk),i+m=n->ys=[.cells (eB (kM x i))] →
 Cd E TX aM (.loop [3,4,6] oJ) [(3,.ptr bs.length 0),(4,.d (i64 (n:Nat))),(6,.d (i64 i))] ⟨bs++ys,bs.length⟩ =
  some (.exit 2,[(3,.ptr bs.length 0),(4,.d (i64 (n:Nat)))],⟨bs++[.cells (eB (kM x n))],bs.length⟩):=by
 intro m;have key:=aC (E:=E) (T:=TX) (val:=aM) [3,4,6] oJ;generalize Cd E TX aM (.loop [3,4,6] oJ)=W at key ⊢
 induction m with
 | zero =>
  intro i ys hi hy;have:i=n:=by omega
  subst this;subst hy;rw [key];simp [oJ]
 | succ m ih =>
  intro i ys hi hy;have hi10:i<10:=by omega
  have hdr:=AP x i;have hw8:wrap .u8 (iW x i+128)=iW x i+128:=by rw [wrap_u8]; omega
  have hw:wrap .i64 ((i:Int)+1)=((i+1:Nat):Int):=by rw [wrap64]<;>omega
  have hb:af (bs++ys) bs.length=some (eB (kM x i)):=by subst hy; simp
  have hld:=Iw (lo:=bs.length) hb hi10;have hsi:kM x i i=iW x i:=by simp [kM]
  rw [hsi] at hld;have hst:=JJ (lo:=bs.length) hb hi10 (iW x i+128);have hcong:(eB fun j=>if j=i then iW x i+128 else kM x i j)=eB (kM x (i+1)):=pM fun j hj=>by
   simp only [kM];by_cases h2:j=i
   · subst h2; simp
   · rw [if_neg h2];by_cases h3:j<i
     · rw [if_pos h3,if_pos (by omega)]
     · rw [if_neg h3,if_neg (by omega)]
  have hset:(bs++ys).set bs.length (.cells (eB fun j=>if j=i then iW x i+128 else kM x i j))=bs++[.cells (eB (kM x (i+1)))]:=by
   subst hy; rw [hcong]; simp
  rw [hset,Nat.min_self] at hst;have hix:=fun h=>Ew (b:=bs.length) hi10 h;have h10:((i:Int)<(n:Int)):=by omega
  have k:=ih (i+1) _ (by omega) rfl;rw [← k,key];simp [oJ,h10,hix,hld,hw8,hst,hw,-si,-dD]
theorem xg:∀ (k:Nat) (x:Int),0<=x->pG k x=(List.range k).map (fun j=>iW x j+128)++[wrap .u8 (x / 128 ^ k)]
 | 0,x,_=>by simp [pG]
 | k+1,x,h0=>by
  rw [pG,OT,Int.fdiv_eq_ediv_of_nonneg _ (by omega),xg k (x / 128) (by omega),List.range_succ_eq_map,cm,List.cons_append,List.map_map];have e:∀ j,x / 128 / 128 ^ j=x / 128 ^ (j+1):=fun j=>by
   rw [Int.ediv_ediv_of_nonneg (by omega),Int.pow_succ,Int.mul_comm]
  congr 2
  · simp [iW]
  · apply List.map_congr_left;intro j _;simp only [iW,Function.comp,e]
  · rw [e]
theorem EC {x:Int}{k:Nat}(hz:∀ j,k<j->iW x j=0)(hk:k=0\/iW x k>0):∀ n,k<n->kC x n=k
 | 0,h=>by omega
 | i+1,h=>by
  simp only [kC];by_cases hi:i=k
  · subst hi;rcases hk with h0 | h0
    · subst h0;split
      · rfl
      · rfl
    · rw [if_pos h0]
  · rw [hz i (by omega),if_neg (by decide),EC hz hk i (by omega)]
theorem KP {x:Int}(h0:0<=x)(h1:x<2 ^ 64):kC x 10=(nD x).toNat-1/\x / 128 ^ ((nD x).toNat-1)<128:=by
 have hg:=yZ x;obtain ⟨a0,a1,a2⟩:=Iz h0 h1;have hl:=qU x;have hgeq:=KD x;generalize hk:(nD x).toNat-1=k;have e:(nD x).toNat=k+1:=by omega
 have hlt:x<128 ^ (k+1):=by
  have h7:(128:Int) ^ (k+1)=2 ^ (7 * (k+1)):=by rw [Int.pow_mul]; rfl
  have hle:(fC x).toNat<=7 * (k+1):=by rw [← e]; split at hgeq<;>omega
  have hpp:(2:Int) ^ (fC x).toNat<=2 ^ (7 * (k+1)):=by exact_mod_cast Nat.pow_le_pow_right (by omega:0<2) hle
  rw [h7]; omega
 have hpk:(0:Int)<128 ^ k:=Int.pow_pos (by omega);have hq:x / 128 ^ k<128:=by
  rw [Int.pow_succ,Int.mul_comm] at hlt;exact (Int.ediv_lt_iff_lt_mul hpk).2 hlt
 refine ⟨EC (fun j hj=>?_) ?_ 10 (by omega),hq⟩
 · have h2:(128:Int) ^ (k+1)<=128 ^ j:=by exact_mod_cast Nat.pow_le_pow_right (by omega:0<128) (by omega:k+1<=j)
   rw [iW,Int.ediv_eq_zero_of_lt h0 (by omega)];rfl
 · by_cases hk0:k=0
   · exact .inl hk0
   · refine .inr ?_;have hlen:7 * k+1<=(fC x).toNat:=by split at hgeq<;>omega
     have hx1:1<=x:=by
      rcases Int.lt_or_le x 1 with h | h
      · have hx0:x=0:=by omega
        subst hx0;have:(nD 0).toNat-1=0:=by decide
        omega
      · exact h
     have h3:=a2 hx1;have h4:(2:Int) ^ (7 * k+1)<=2 ^ (fC x).toNat:=by exact_mod_cast Nat.pow_le_pow_right (by omega:0<2) hlen
     have h5:(2:Int) ^ (7 * k+1)=2 * 128 ^ k:=by rw [Int.pow_succ,Int.pow_mul,Int.mul_comm]; rfl
     have h6:(128:Int) ^ k<=x:=by omega
     have h7:1<=x / 128 ^ k:=(Int.le_ediv_iff_mul_le hpk).2 (by omega);rw [iW]; omega
theorem bh6:TX 138=some PR:=by kernel_rfl
theorem be3:aM 138=false:=by kernel_rfl
theorem D7 {x:Int}(h0:0<=x)(h1:x<2 ^ 64):(aP x).map (iv .u8)=(eB (kM x (kC x 10))).take (kC x 10+1):=by
 obtain ⟨e1,e2⟩:=KP h0 h1;rw [aP,← e1,xg _ _ h0];rw [← e1] at e2;have hk:=za x 10;generalize kC x 10=k at *;have hn:0<=x / 128 ^ k:=Int.ediv_nonneg h0 (Int.le_of_lt (Int.pow_pos (by omega)));apply List.ext_getElem
 · simp [eB]; omega
 · intro n a1 a2;have hn1:n<k+1:=by simp at a1; omega
   simp only [List.getElem_map,List.getElem_take,eB,List.getElem_range]
   congr 1
   by_cases h:n<k
   · rw [List.getElem_append_left (by simpa using h)];simp [kM,h]
   · have:n=k:=by omega
     subst this;rw [List.getElem_append_right (by simp)];simp only [bx,List.length_range,Nat.sub_self,List.getElem_cons_zero,kM,iW,wrap_u8];rw [if_neg (by omega)];omega
theorem YI {x:Int}(h0:0<=x)(h1:x<2 ^ 64)(bs:List Blk):∃ A,∀ lo,Sm E TX aM 138 [.d (u64 x)] ⟨bs,lo⟩=some (.row (bs.length+2) 0 (aP x).length none 1,⟨bs++[.cells A,.cells [],.cells ((aP x).map (iv .u8))],min lo bs.length⟩):=by
 refine ⟨eB (kM x (kC x 10)),fun lo=>?_⟩;have hk:=za x 10;have k1:=XF (E:=E) h0 h1 bs 10 0 [.cells (eB (jL x 0))] rfl rfl;have hs1:eB (jL x 10)=eB (kM x 0):=pM fun j hj=>by simp [jL,kM,hj]
 rw [hs1] at k1;have k2:=XT (E:=E) (x:=x) bs (kC x 10) (by omega) (kC x 10) 0 [.cells (eB (kM x 0))] (by omega) rfl;have hu:=D7 h0 h1;have hul:(aP x).length=kC x 10+1:=by
  have:=congrArg List.length hu;simp [eB] at this;omega
 have h00:eB (jL x 0)=[.d (.int .u8 0),.d (.int .u8 0),.d (.int .u8 0),.d (.int .u8 0),.d (.int .u8 0),.d (.int .u8 0),.d (.int .u8 0),.d (.int .u8 0),.d (.int .u8 0),.d (.int .u8 0)]:=by
  simp only [eB,jL]; rfl
 rw [h00] at k1;simp only [Int.pow_zero,Int.ediv_one] at k1;have hl0:kC x 0=0:=rfl;rw [hl0] at k1;have hal:=vJ (kM x (kC x 10));rw [hul];generalize kC x 10=k at *;have hw:wrap .i64 ((k:Int)+1)=((k+1:Nat):Int):=by rw [wrap64]<;>omega
 have hsl:∀ (ev:X->V) lo,ev (.t 36)=.d (.int .i64 ((k+1:Nat):Int))->bP ⟨bs++[.cells (eB (kM x k)),.cells []],lo⟩ ev (.ar 10) 1 (.ptr bs.length 0) none (some (.t 36)) none=some (.row bs.length 0 (k+1) (some 10) 1):=fun ev lo hev=>by
  simp only [bP,cZ,hev];rw [if_pos (by omega)];simp only [Int.toNat_natCast];rw [if_pos ⟨by omega,by omega,by omega,by omega⟩];simp [hal]
 have hrc:∀ lo,aD ⟨bs++[.cells (eB (kM x k)),.cells []],lo⟩ (.row bs.length 0 (k+1) (some 10) 1) 1=some (k+1,(eB (kM x k)).take (k+1)):=fun lo=>by
  simp only [aD,if_true,get_eq,di,sS,Nat.mul_one];rw [eY,if_pos (by rw [hal]; omega)];simp
 have hroom:roomy (0+(k+1)) 1=true:=by simp only [roomy,aq,br]; omega
 have hap:∀ lo,dZ ⟨bs++[.cells (eB (kM x k)),.cells []],lo⟩ 1 1 (.row (bs.length+1) 0 0 (some 0) 1) (.row bs.length 0 (k+1) (some 10) 1)=some (.row (bs.length+2) 0 (k+1) none 1,⟨bs++[.cells (eB (kM x k)),.cells [],.cells ((aP x).map (iv .u8))],lo⟩):=fun lo=>by
  simp only [dZ,hrc,aF,hu];rw [Nat.zero_add] at hroom;simp [hroom]
 rw [aN bh6 be3];simp at k1 k2;simp [ae,PR];rw [au];simp [k1];rw [au];simp [k2];simp [aH,hw,hsl,hap,V.under]
end
section
variable {E:Calls'}
def Bv (m:Nat)(bs:List Blk)(v:V)(l:List Int):Prop:=(l=[]/\v=.d (.slice true []))\/(l≠[]/\∃ b,m<=b/\v=.row b 0 l.length none 1/\af bs b=some (l.map (iv .u8)))
theorem Bv.nu {m:Nat}{bs:List Blk}{v:V}{l:List Int}(h:Bv m bs v l):Go.Proofs.YtmcchclfpneglaaGreat.nu v=some v:=by
 rcases h with ⟨_,rfl⟩ | ⟨_,b,_,rfl,_⟩<;>rfl
theorem Bv.ok {m:Nat}{bs:List Blk}{v:V}{l:List Int}(h:Bv m bs v l):okV v=true:=by
 rcases h with ⟨_,rfl⟩ | ⟨_,b,_,rfl,_⟩<;>rfl
theorem Bv.lay {m:Nat}{bs:List Blk}{v:V}{l:List Int}(h:Bv m bs v l)(ys:List Blk):Bv m (bs++ys) v l:=by
 rcases h with h | ⟨h1,b,h2,h3,h4⟩
 · exact .inl h
 · exact .inr ⟨h1,b,h2,h3,ax h4⟩
theorem Bv.le {m m':Nat}{bs:List Blk}{v:V}{l:List Int}(h:Bv m bs v l)(hm:m'<=m):Bv m' bs v l:=by
 rcases h with h | ⟨h1,b,h2,h3⟩
 · exact .inl h
 · exact .inr ⟨h1,b,by omega,h3⟩
def fQ:V->Option Nat
 | .row b _ _ _ _=>some b
 | _=>none
def Kx (o:Option Nat)(bs bs':List Blk):Prop:=bs.length<=bs'.length/\∀ x,x<bs.length->o≠some x->bs'[x]?=bs[x]?
theorem Kx.refl (o:Option Nat)(bs:List Blk):Kx o bs bs:=⟨bp _,fun _ _ _=>rfl⟩
theorem Kx.lay (o:Option Nat)(bs ys:List Blk):Kx o bs (bs++ys):=⟨by simp,fun x hx _=>ao hx⟩
theorem Kx.trans {o o':Option Nat}{a b c:List Blk}(h:Kx o a b)(k:Kx o' b c)(ho:o'=o\/∀ y,o'=some y->a.length<=y):Kx o a c :=
 ⟨ce h.1 k.1,fun x hx hn=>(k.2 x (by have:=h.1; omega) (fun e=>by
  rcases ho with rfl | ho
  · exact hn e
  · have:=ho x e; omega)).trans (h.2 x hx hn)⟩
theorem Kx.get {o:Option Nat}{bs bs':List Blk}(h:Kx o bs bs'){x:Nat}{cs:List V}(hn:o≠some x)(hg:af bs x=some cs):af bs' x=some cs:=by
 have:=h.2 x (aI hg) hn;unfold af at hg ⊢;rw [this]; exact hg
theorem Bv.blk {m:Nat}{bs:List Blk}{v:V}{l:List Int}(h:Bv m bs v l){x:Nat}(hx:fQ v=some x):m<=x/\x<bs.length:=by
 rcases h with ⟨_,rfl⟩ | ⟨_,b,h2,rfl,h4⟩
 · cases hx
 · cases hx; exact ⟨h2,aI h4⟩
theorem Bv.app {m:Nat}{bs:List Blk}{v:V}{l xs:List Int}(h:Bv m bs v l)(hm:m<=bs.length)(hx:xs≠[])(hl:l.length+xs.length<=big){src:V}(hs:∀ lo,aD ⟨bs,lo⟩ src 1=some (xs.length,xs.map (iv .u8))) :
 ∃ bs',∃ F:Nat->Nat,(∀ lo,dZ ⟨bs,lo⟩ 1 1 v src=some (.row bs.length 0 (l++xs).length none 1,⟨bs',F lo⟩))/\Bv bs.length bs' (.row bs.length 0 (l++xs).length none 1) (l++xs)/\Kx (fQ v) bs bs'/\bs'.length=bs.length+1/\∀ lo,m<=lo->m<=F lo:=by
 have hxl:xs.length≠0:=by intro h0; exact hx (List.length_eq_zero_iff.1 h0)
 have hroom:∀ n,n<=big->roomy n 1=true:=fun n hn=>by simp only [roomy,aq,br]; exact ⟨hn,by decide⟩
 rcases h with ⟨rfl,rfl⟩ | ⟨h1,b,h2,rfl,h4⟩
 · refine ⟨bs++[.cells (xs.map (iv .u8))],id,fun lo=>?_,.inr ⟨by simpa using hx,bs.length,bp _,rfl,by simp⟩,Kx.lay _ _ _,by simp,fun _ h=>h⟩;simp only [dZ,hs,aF,if_neg hxl,hroom xs.length (by simpa using hl)];simp
 · have hll:0<l.length:=List.length_pos_iff.2 h1;have hb:=aI h4;have hsub:sub (l.map (iv .u8)) 0 (l.length * 1)=some (l.map (iv .u8)):=bH (by simp);refine ⟨bs.set b (.cells [])++[.cells ((l++xs).map (iv .u8))],fun lo=>min lo b,fun lo=>?_,.inr ⟨by simp [h1],bs.length,bp _,rfl,?_⟩,⟨by simp,fun x hxm hxn=>?_⟩,by simp,fun lo hlo=>by show m<=min lo b; omega⟩
   · simp only [dZ,hs,aF,get_eq,h4,hsub,if_neg hxl,hroom _ hl];simp [hll,Hp.set]
   · have:=di (bs:=bs.set b (.cells [])) (ys:=[.cells ((l++xs).map (iv .u8))]);simp only [List.length_set] at this;rw [this]; rfl
   · rw [ao (by simp; omega),am (fun e=>hxn (by simp [fQ,e]))]
def Gro (E:Calls')(f:FuncId)(args:List V)(o:Option Nat)(m:Nat)(bs:List Blk)(l:List Int):Prop:=∃ b bs' k,(∀ lo,Sm E TX aM f args ⟨bs,lo⟩=some (.row b 0 l.length none 1,⟨bs',min lo k⟩))/\Bv bs.length bs' (.row b 0 l.length none 1) l/\bs.length<=b/\Kx o bs bs'/\m<=k
theorem Gro.short {x:Int}(h0:0<=x)(h1:x<2 ^ 64){m:Nat}{bs:List Blk}(hm:m<=bs.length):Gro E 138 [.d (u64 x)] none m bs (aP x):=by
 obtain ⟨A,hA⟩:=YI (E:=E) h0 h1 bs;have hne:aP x≠[]:=by intro h; have:=congrArg List.length h; rw [aP,oV] at this; simp at this
 refine ⟨bs.length+2,bs++[.cells A,.cells [],.cells ((aP x).map (iv .u8))],bs.length,fun lo=>?_,.inr ⟨hne,_,by omega,rfl,?_⟩,by omega,Kx.lay _ _ _,hm⟩
 · exact hA lo
 · have:=gD (bs:=bs) (ys:=[.cells A,.cells [],.cells ((aP x).map (iv .u8))]) (i:=2);rw [this]; rfl
theorem Bv.dat {m:Nat}{bs:List Blk}{v:V}{l:List Int}(h:Bv m bs v l)(hl:l≠[])(lo k:Nat):dataV ⟨bs,lo⟩ (k+1) v=some (bytesD l)/\ll ⟨bs,lo⟩ (k+1) v=true:=by
 rcases h with ⟨h1,_⟩ | ⟨h1,b,h2,rfl,h4⟩
 · exact absurd h1 hl
 · have hf:flat (l.map fun n=>[D.int .u8 n])=l.map (iv .u8):=by
    clear h1 h4 hl
    induction l with
    | nil=>rfl
    | cons x l ih=>rw [cm,flat_cons,ih]; rfl
   refine ⟨?_,?_⟩
   · exact dX (h:=⟨bs,lo⟩) (k:=k) (b:=b) (z:=1) (n:=l.length) (cap:=none) (es:=l.map fun n=>[D.int .u8 n]) (rest:=[]) (by intro e he; obtain ⟨x,_,rfl⟩:=b9.1 he; rfl) (by simp) (by rw [hf,List.append_nil]; exact h4)
   · simp only [ll,get_eq,h4,List.all_map,ch];intro x _;simp [iv,ll]
theorem jK (h:Hp)(l:List Int):aD h (.d (bytesD l)) 1=some (l.length,l.map (iv .u8)):=by
 have hf:(l.map fun n=>[D.int .u8 n]).flatten.map V.d=l.map (iv .u8):=by
  induction l with
  | nil=>rfl
  | cons x l ih=>simp only [cm,List.flatten_cons,List.map_append,ih]; rfl
 simp only [aD,bytesD,hf,bx];rw [if_pos (by simp)]
theorem Bv.rc {m:Nat}{bs:List Blk}{b:Nat}{l:List Int}(h:Bv m bs (.row b 0 l.length none 1) l)(lo:Nat):aD ⟨bs,lo⟩ (.row b 0 l.length none 1) 1=some (l.length,l.map (iv .u8)):=by
 rcases h with ⟨h1,h2⟩ | ⟨h1,b',h2,h3,h4⟩
 · cases h2
 · cases h3;have hsub:sub (l.map (iv .u8)) 0 (l.length * 1)=some (l.map (iv .u8)):=bH (by simp);simp only [aD,if_true,get_eq,h4,hsub,Option.map_some]
theorem dY {k:Nat}{keep:List Nat}{body:QC}{α:Type}(l:List α)(enc:α->List Int)(env:Nat->V->EA)(X:V->Ex×EA)(m:Nat)
 (K:List Blk->V->Prop)
 (hr:∀ i x,l[i]?=some x->i<l.length->∀ bs lo v acc,K bs v->m<=bs.length->Bv m bs v acc->acc.length+(enc x).length<=big->∃ bs' lo' v',(∀ W:EA->Hp->fZ,eD keep W (Cd E TX aM body (bU keep (env i v)) ⟨bs,lo⟩)=W (env (i+1) v') ⟨bs',lo'⟩)/\K bs' v'/\m<=bs'.length/\Bv m bs' v' (acc++enc x)/\(k<=lo->k<=lo'))
 (he:∀ bs lo v acc,K bs v->Bv m bs v acc->∀ W:EA->Hp->fZ,eD keep W (Cd E TX aM body (bU keep (env l.length v)) ⟨bs,lo⟩)=some ((X v).1,(X v).2,⟨bs,lo⟩))
 (bs:List Blk) (lo:Nat) (v:V) (acc:List Int) (hK:K bs v) (hm:m<=bs.length) (hB:Bv m bs v acc) (hb:acc.length+(l.flatMap enc).length<=big) :
 ∃ bs' lo' v',Cd E TX aM (.loop keep body) (env 0 v) ⟨bs,lo⟩=some ((X v').1,(X v').2,⟨bs',lo'⟩)/\K bs' v'/\m<=bs'.length/\Bv m bs' v' (acc++l.flatMap enc)/\(k<=lo->k<=lo'):=by
 have:∀ (n i:Nat) (bs:List Blk) (lo:Nat) (v:V) (acc:List Int),i+n=l.length->K bs v->m<=bs.length->Bv m bs v acc->acc.length+((l.drop i).flatMap enc).length<=big →
  ∃ bs' lo' v',Cd E TX aM (.loop keep body) (env i v) ⟨bs,lo⟩=some ((X v').1,(X v').2,⟨bs',lo'⟩)/\K bs' v'/\m<=bs'.length/\Bv m bs' v' (acc++(l.drop i).flatMap enc)/\(k<=lo->k<=lo'):=by
  intro n;have key:=aC (E:=E) (T:=TX) (val:=aM) keep body;generalize Cd E TX aM (.loop keep body)=W at key ⊢
  induction n with
  | zero =>
   intro i bs lo v acc hi hK hm hB hb;refine ⟨bs,lo,v,?_,hK,hm,?_,id⟩
   · rw [key,show i=l.length by omega,he bs lo v acc hK hB W]
   · rw [ba (by omega)]; simpa using hB
  | succ n ih =>
   intro i bs lo v acc hi hK hm hB hb;have hlt:i<l.length:=by omega
   rw [aw hlt,dC] at hb;obtain ⟨bs1,lo1,v1,i1,i2,i3,i4,i5⟩:=hr i _ (ac hlt) hlt bs lo v acc hK hm hB (by omega);obtain ⟨bs2,lo2,v2,j1,j2,j3,j4,j5⟩:=ih (i+1) bs1 lo1 v1 _ (by omega) i2 i3 i4 (by rw [ap]; omega);refine ⟨bs2,lo2,v2,?_,j2,j3,?_,fun h=>j5 (i5 h)⟩
   · rw [key,i1 W,j1]
   · rw [aw hlt,List.flatMap_cons,← List.append_assoc]; exact j4
 have:=this l.length 0 bs lo v acc (by omega) hK hm hB (by simpa using hb);simpa using this
theorem bg9:TX 90=some Pt:=by kernel_rfl
theorem bd6:aM 90=true:=by kernel_rfl
theorem nN {bs:List Blk}{x:Int}{k:IntKind}(lo:Nat):aD ⟨bs++[.cells [.d (.int k x)]],lo⟩ (.row bs.length 0 1 (some 1) 1) 1=some (([x]:List Int).length,([x]:List Int).map (iv k)):=Jl lo
theorem Cy (s:ByteArray)(hs:(bE s).length<=big)(h:Hp):Sm E TX aM 90 [.d (.str s)] h=some (.d (bytesD (bE s)),h):=by
 have hsl:=fw s;have hs2:=hs;simp only [bE,ap,bx,hsl] at hs2;have hsz:s.size<2 ^ 62:=cd (m:=big) (by omega) (by decide);have hbig:big=2 ^ 30:=rfl;obtain ⟨b,bs1,k1,c1,c2,c3,c4,c5⟩:=Gro.short (E:=E) (x:=s.size) (by omega) (by omega) (m:=0) (bs:=[]) (bp _);have hfm:∀ l:List UInt8,l.flatMap (fun b=>[(b.toNat:Int)])=l.map fun b=>(b.toNat:Int):=fun l=>by
  induction l with
  | nil=>rfl
  | cons x l ih=>rw [List.flatMap_cons,ih]; rfl
 obtain ⟨bs2,lo2,v2,d1,_,_,d4,_⟩:=dY (E:=E) (k:=0) (keep:=[0,3,4]) (body:=uY) s.toList (fun b=>[(b.toNat:Int)]) (fun i v=>[(0,.d (.str s)),(3,v),(4,.d (i64 i))]) (fun v=>(.exit 0,[(3,v)])) 0 (fun _ _=>True)
  (fun i x hx hi bs lo v acc _ _ hB hb=>by
    have hxs:=fun h=>gU (h:=h) hx;have hw:=ak (show i<s.size by omega) hsz;have h0:((i:Int)<s.size):=by omega
    obtain ⟨bs',F,p1,p2,p3,p4,p5⟩:=(hB.lay [.cells [.d (.int .u8 (x.toNat:Int))]]).app (Nat.zero_le _) (xs:=[(x.toNat:Int)]) (by simp) hb (src:=.row bs.length 0 1 (some 1) 1) (fun lo=>nN lo);refine ⟨bs',F lo,_,fun W=>?_,trivial,Nat.zero_le _,p2.le (Nat.zero_le _),fun _=>Nat.zero_le _⟩;have hnu:=hB.nu;have hq:=p1 lo;simp at hq;simp [uY,hxs,h0,hnu,aH,hq,hw])
  (fun bs lo v acc _ hB W=>by
    have hnu:=hB.nu;simp [uY,hsl,hnu]) bs1 (min 0 k1) (.row b 0 (aP s.size).length none 1) (aP s.size) trivial (Nat.zero_le _) (c2.le (Nat.zero_le _)) (by rw [hfm]; simp; omega)
 rw [hfm] at d4;have d4':Bv 0 bs2 v2 (bE s):=d4;have hne:bE s≠[]:=by simp [bE,cK]
 have hdat:=fun lo=>d4'.dat hne lo 7;have hnu:=d4'.nu;have hw:wrap .u64 (s.size:Int)=s.size:=by rw [wrap_u64]; omega
 rw [aV bg9 bd6];simp at d1;have c1':=c1 0;simp at c1';simp [ae,Pt,hw,c1'];rw [au];simp [d1,hnu];rcases d4' with ⟨h1,_⟩ | ⟨_,b',_,rfl,_⟩
 · exact absurd h1 hne
 · simp [hdat]
theorem bg8:TX 89=some Ps:=by kernel_rfl
theorem bd5:aM 89=false:=by kernel_rfl
theorem Rq {xs:List Int}(hx:∀ x∈xs,0<=x/\x<2 ^ 64)(hne:xs≠[])(hxn:xs.length<2 ^ 62){m:Nat}{bs:List Blk}{v:V}{acc:List Int}(hB:Bv m bs v acc)(hm:m<=bs.length){q:Nat}{cap:Option Nat}(hq:af bs q=some (xs.map fun n=>V.d (u64 n)))(hvq:fQ v≠some q)(hl:acc.length+(xs.flatMap aP).length<=big) :
 Gro E 89 [v,.row q 0 xs.length cap 1] (fQ v) m bs (acc++xs.flatMap aP):=by
 obtain ⟨bs2,lo2,v2,d1,⟨d2,d3,d5,d6⟩,_,d4,d7⟩:=dY (E:=E) (k:=m) (keep:=[0,1,5]) (body:=uX) xs aP (fun i v=>[(0,v),(1,.row q 0 xs.length cap 1),(5,.d (i64 i))]) (fun v=>(.exit 0,[(0,v)])) m
  (fun bs' v'=>af bs' q=some (xs.map fun n=>V.d (u64 n))/\fQ v'≠some q/\Kx (fQ v) bs bs'/\(v'=v\/∃ b n,v'=.row b 0 n none 1/\bs.length<=b))
  (fun i x hxi hi bs1 lo v1 acc1 ⟨hq1,hv1,hk1,hn1⟩ hm1 hB1 hb=>by
    have hw:=ak hi hxn;have h0:((i:Int)<xs.length):=by omega
    have hxe:xs[i]=x:=by rw [ac hi] at hxi; exact cn hxi
    have hix:=fun h=>jM (b:=q) (o:=0) (z:=1) (cap:=cap) (kd:=.i64) (h:=h) hi;simp only [Nat.mul_one,Nat.zero_add] at hix;have hs:sub (xs.map fun n=>V.d (u64 n)) i 1=some [.d (u64 x)]:=by
     rw [eY,if_pos (by simp; omega),aw (by simpa using hi)]; simp [hxe]
    have hld:ldv ⟨bs1,lo⟩ (.ptr q i) 1 true=some (.d (u64 x),⟨bs1,lo⟩):=by
     rw [dD,get_eq];show (match (match af bs1 q with | some cs=>sub cs i 1 | none=>none) with | some cs=>_ | none=>none)=_;rw [hq1]; simp only [hs]; rfl
    obtain ⟨y0,y1⟩:=hx x (ca hxi);obtain ⟨b,bs2,k,c1,c2,c3,c4,c5⟩:=Gro.short (E:=E) y0 y1 hm1;have hB2:Bv m bs2 v1 acc1:=by
     rcases hB1 with h | ⟨e1,b',e2,rfl,e4⟩
     · exact .inl h
     · exact .inr ⟨e1,b',e2,rfl,c4.get (by simp) e4⟩
    have hlen2:m<=bs2.length:=ce hm1 c4.1;obtain ⟨bs3,F,p1,p2,p3,p4,p5⟩:=hB2.app hlen2 (cK x) hb (src:=.row b 0 (aP x).length none 1) (fun lo=>c2.rc lo);have hlen1:=hk1.1;have hbq:=aI hq1;have hl2:=c4.1;refine ⟨bs3,F (min lo k),_,fun W=>?_,⟨?_,?_,?_,.inr ⟨bs2.length,_,rfl,by omega⟩⟩,by omega,p2.le hlen2,fun h=>p5 _ (by omega)⟩
    · have hnu:=hB1.nu;have hq':=p1 (min lo k);simp at hq';simp [uX,h0,hnu,hix,hld,c1,hq',hw,-dD]
    · exact p3.get hv1 (c4.get (by simp) hq1)
    · simp only [fQ,ne_eq,bd]; omega
    · refine (hk1.trans c4 (.inr fun y e=>by cases e)).trans p3 ?_;rcases hn1 with rfl | ⟨b',n,rfl,e⟩
      · exact .inl rfl
      · refine .inr fun y e'=>?_;cases e'; exact e)
  (fun bs lo v acc _ hB W=>by
    have hnu:=hB.nu;simp [uX,hnu]) bs bs.length v acc ⟨hq,hvq,Kx.refl _ _,.inl rfl⟩ hm hB hl
 have hne2:acc++xs.flatMap aP≠[]:=by
  cases xs with
  | nil=>exact absurd rfl hne
  | cons x l=>simp [cK]
 rcases d4 with ⟨h1,_⟩ | ⟨e1,b,e2,rfl,e4⟩
 · exact absurd h1 hne2
 have hbb:bs.length<=b:=by
  rcases d6 with h | ⟨b',n,h,e⟩
  · rcases hB with ⟨h1,h2⟩ | ⟨h1,b',h2,h3,h4⟩
    · rw [h2] at h; cases h
    · rw [h3] at h;injection h with hb1 hb2 hb3
      rw [ap] at hb3;have:0<(xs.flatMap aP).length:=by
       cases xs with
       | nil=>exact absurd rfl hne
       | cons x l=>rw [dC]; have:=List.length_pos_iff.2 (cK x); omega
      omega
  · cases h; exact e
 refine ⟨b,bs2,lo2,fun lo=>?_,.inr ⟨e1,b,hbb,rfl,e4⟩,hbb,d5,d7 hm⟩;have hnu:=hB.nu;rw [aN bg8 bd5];simp at d1;simp [ae,Ps];rw [au];simp [d1];intro _ hu;simp [V.under] at hu;omega
end
section
variable {E:Calls'}
def Qt1 (m:Nat)(u:Tr):Prop:=u.call=false/\u.big=false/\u.wr=[]/\u.lo=u.hi/\∀ b∈u.nd,b<m
def Hi1 (m:Nat)(t:Tr):Prop:=∀ u,Qt1 m u->t.spares u=true/\u.spares t=true
theorem Qt1.hi {m:Nat}{t:Tr}(h:Qt1 m t):Hi1 m t:=fun u k=>by
 obtain ⟨a1,a2,a3,a4,a5⟩:=h;obtain ⟨b1,b2,b3,b4,b5⟩:=k;constructor
 · simp only [Tr.spares,a2,b2,b1,a3,a4,Bool.or_self,bm,if_false,ch];intro b _; simp
 · simp only [Tr.spares,a2,b2,a1,b3,b4,Bool.or_self,bm,if_false,ch];intro b _; simp
theorem Hi1.mem {m:Nat}{nd wr:List Nat}{lo hi:Nat}{bl:Bl}(hw:∀ b∈wr,m<=b)(hl:m<=lo):Hi1 m ⟨false,false,nd,wr,lo,hi,bl⟩:=fun u k=>by
 obtain ⟨b1,b2,b3,b4,b5⟩:=k;constructor
 · simp only [Tr.spares,b2,b1,Bool.or_self,bm,if_false,ch];intro b hb;have h1:=b5 b hb;have h2:b ∉ wr:=fun h=>by have:=hw b h; omega
   have h3:¬ lo<=b:=by omega
   simp [h2,h3]
 · simp only [Tr.spares,b2,b3,b4,Bool.or_self,bm,if_false,ch];intro b _; simp
theorem Hi1.calm {m n:Nat}{bl:Bl}:Hi1 m ⟨true,false,[],[],n,n,bl⟩:=fun u k=>by
 obtain ⟨b1,b2,b3,b4,b5⟩:=k;constructor
 · simp only [Tr.spares,b2,b1,Bool.or_self,bm,if_false,ch];intro b _; simp
 · simp only [Tr.spares,b2,b3,b4,Bool.or_self,bm,if_false,if_true];simp
theorem Hi1.lay {m n n':Nat}{bl:Bl}(hn:m<=n):Hi1 m ⟨true,false,[],[],n,n',bl⟩:=fun u k=>by
 obtain ⟨b1,b2,b3,b4,b5⟩:=k;constructor
 · simp only [Tr.spares,b2,b1,Bool.or_self,bm,if_false,ch];intro b hb;have h1:=b5 b hb;have h3:¬ n<=b:=by omega
   simp [h3]
 · simp only [Tr.spares,b2,b3,b4,Bool.or_self,bm,if_false,if_true];simp
theorem Hi1.big {m n n' k:Nat}{kp:List Nat}(hk:m<=k):Hi1 m ⟨true,true,[],[],n,n',⟨k,kp⟩⟩:=fun u q=>by
 obtain ⟨b1,b2,b3,b4,b5⟩:=q;constructor
 · have h3:(u.nd.all fun b=>decide (b<k)||kp.contains b)=true:=ch.2 fun b hb=>by
    have h1:=b5 b hb;have:b<k:=by omega
    simp [this]
   simp only [Tr.spares,Bool.true_or,if_true,b1,h3,Bool.not_false,Bool.and_true,Bool.or_true]
 · simp [Tr.spares,Tr.calm,b2,b3,b4]
def Cl1 (m:Nat):List Bool->List Tr->Prop
 | [],[]=>True
 | true::cs,t::ts=>Qt1 m t/\Cl1 m cs ts
 | false::cs,t::ts=>Hi1 m t/\Cl1 m cs ts
 | _,_=>False
def ck1 (pr:List (List Nat))(cs:List Bool):Bool:=(List.range cs.length).all fun i=>(List.range cs.length).all fun j =>
 i==j||(pr.getD i []).contains j||(pr.getD j []).contains i||cs.getD i false||cs.getD j false
theorem Cl1.len {m:Nat}:∀ {cs:List Bool} {ts:List Tr},Cl1 m cs ts->cs.length=ts.length
 | [],[],_=>rfl
 | true::_,_::_,h=>by simp [Cl1.len h.2]
 | false::_,_::_,h=>by simp [Cl1.len h.2]
 | [],_::_,h=>h.elim
 | true::_,[],h=>h.elim
 | false::_,[],h=>h.elim
theorem Cl1.get {m:Nat}:∀ {cs:List Bool} {ts:List Tr},Cl1 m cs ts->∀ {i:Nat},i<ts.length->∃ t,ts[i]?=some t/\Hi1 m t/\(cs.getD i false=true->Qt1 m t)
 | [],[],_,i,hi=>by simp at hi
 | true::cs,t::ts,h,0,_=>⟨t,rfl,h.1.hi,fun _=>h.1⟩
 | false::cs,t::ts,h,0,_=>⟨t,rfl,h.1,fun h=>by simp at h⟩
 | true::cs,t::ts,h,i+1,hi=>by
  obtain ⟨t,h1,h2⟩:=Cl1.get h.2 (i:=i) (by simpa using hi);exact ⟨t,by simpa using h1,by simpa using h2⟩
 | false::cs,t::ts,h,i+1,hi=>by
  obtain ⟨t,h1,h2⟩:=Cl1.get h.2 (i:=i) (by simpa using hi);exact ⟨t,by simpa using h1,by simpa using h2⟩
 | [],_::_,h,_,_=>h.elim
 | true::_,[],h,_,hi=>h.elim
 | false::_,[],h,_,hi=>h.elim
theorem lv {pr:List (List Nat)}{l:List Tr}(m:Nat)(cs:List Bool)(hck:ck1 pr cs=true)(h:Cl1 m cs l):aT pr l=true:=by
 unfold aT;simp only [ch,List.mem_range];intro i hi j hj;simp only [ck1,h.len,ch,List.mem_range] at hck;have hc:=hck i hi j hj;obtain ⟨s,s1,s2,s3⟩:=h.get hi;obtain ⟨t,t1,t2,t3⟩:=h.get hj;simp only [Bool.or_eq_true] at hc ⊢;rcases hc with (hc | hc) | hc
 · exact .inl hc
 · refine .inr ?_;rw [s1,t1];exact (t2 s (s3 hc)).2
 · refine .inr ?_;rw [s1,t1];exact (s2 t (t3 hc)).1
theorem Gro.open {f:FuncId}{args:List V}{o:Option Nat}{m:Nat}{bs:List Blk}{l:List Int}(h:Gro E f args o m bs l)(hm:m<=bs.length):∃ b bs' t,∃ F:Nat->Nat,
 (∀ (lo:Nat) (xs:List X) (ev:X->V),xs.all (fun x=>okV (ev x))=true->xs.map ev=args->ev (.c (.fn f []))=.fn f []->dh (Sm E TX aM) (.call (.c (.fn f [])) xs) ev ⟨bs,lo⟩=some (.row b 0 l.length none 1,⟨bs',F lo⟩,t)) ∧
 Hi1 m t/\Bv bs.length bs' (.row b 0 l.length none 1) l/\bs.length<=b/\Kx o bs bs'/\∀ lo,m<=lo->m<=F lo:=by
 obtain ⟨b,bs',k,c1,c2,c3,c4,c5⟩:=h;by_cases hk:bs.length<=k
 · by_cases hl:bs'.length=bs.length
   · have:=(c2.blk rfl).2;omega
   · refine ⟨b,bs',⟨true,false,[],[],bs.length,bs'.length,0⟩,fun lo=>lo,fun lo xs ev ha hx hf=>?_,Hi1.lay hm,c2,c3,c4,fun _ h=>h⟩;rw [aa,if_pos ha,hf,hx,lD,List.append_nil,c1];simp only;rw [if_pos (by omega),if_neg hl]
 · refine ⟨b,bs',⟨true,true,[],[],bs.length,bs'.length,⟨min bs.length k,uD bs bs'⟩⟩,fun lo=>min lo (min bs.length k),fun lo xs ev ha hx hf=>?_,Hi1.big (by omega),c2,c3,c4,fun lo h=>by show m<=min lo (min bs.length k); omega⟩;rw [aa,if_pos ha,hf,hx,lD,List.append_nil,c1];simp only;rw [if_neg (by omega)]
end
section
variable {E:Calls'}
theorem Bv.vblk {m:Nat}{bs:List Blk}{v:V}{l:List Int}(h:Bv m bs v l):∀ b∈v.blk,m<=b:=by
 rcases h with ⟨_,rfl⟩ | ⟨_,b,h2,rfl,h4⟩
 · intro b hb; cases hb
 · intro x hx;have:x=b:=by simpa [V.blk] using hx
   omega
theorem Cl1.t {m n:Nat}{cs:List Bool}{ts:List Tr}{nd:List Nat}{bl:Bl}(h:∀ b∈nd,b<m)(k:Cl1 m cs ts):Cl1 m (true::cs) (⟨false,false,nd,[],n,n,bl⟩::ts):=⟨⟨rfl,rfl,rfl,rfl,h⟩,k⟩
theorem Cl1.c {m n:Nat}{cs:List Bool}{ts:List Tr}{bl:Bl}(k:Cl1 m cs ts):Cl1 m (false::cs) (⟨true,false,[],[],n,n,bl⟩::ts):=⟨Hi1.calm,k⟩
theorem Cl1.m {m lo hi:Nat}{cs:List Bool}{ts:List Tr}{nd wr:List Nat}{bl:Bl}(hw:∀ b∈wr,m<=b)(hl:m<=lo)(k:Cl1 m cs ts):Cl1 m (false::cs) (⟨false,false,nd,wr,lo,hi,bl⟩::ts):=⟨Hi1.mem hw hl,k⟩
theorem bh7:TX 139=some PS:=by kernel_rfl
theorem be4:aM 139=false:=by kernel_rfl
theorem XG (s:Sl Term)(hs:s.l.length<2 ^ 62){m:Nat}{bs:List Blk}{v:V}{acc:List Int}(hB:Bv m bs v acc)(hm:m<=bs.length)(hl:acc.length+(s.l.flatMap dB).length<=big)(lo:Nat)(bs0:List Blk)(o:Option Nat)(hk:Kx o bs0 bs)(hn:∀ b,fQ v=some b->bs0.length<=b) :
 ∃ bs' lo' v',Cd E TX aM (.loop [0,1,5] rT) [(0,v),(1,.d (s.d Term.c)),(5,.d (i64 ((0:Nat):Int)))] ⟨bs,lo⟩=some (.exit 0,[(0,v')],⟨bs',lo'⟩)/\(Kx o bs0 bs'/\∀ b,fQ v'=some b->bs0.length<=b)/\m<=bs'.length/\Bv m bs' v' (acc++s.l.flatMap dB)/\(m<=lo->m<=lo'):=by
 refine dY (E:=E) (keep:=[0,1,5]) (body:=rT) s.l dB (fun i v=>[(0,v),(1,.d (s.d Term.c)),(5,.d (i64 i))]) (fun v=>(.exit 0,[(0,v)])) m
  (fun bs' v'=>Kx o bs0 bs'/\∀ b,fQ v'=some b->bs0.length<=b)
  (fun i x hx hi bs1 lo v1 acc1 ⟨hk1,hn1⟩ hm1 hB1 hb=>?_)
  (fun bs lo v acc _ hB W=>?_) bs lo v acc ⟨hk,hn⟩ hm hB hl
 · have hix:=fun h=>ay (z:=2) h hx (cells:=Term.c) rfl;have hw:=ak hi hs;have h0:((i:Int)<s.l.length):=by omega
   simp only [dB,cf] at hb;obtain ⟨bs2,F,p1,p2,p3,p4,p5⟩:=(hB1.lay [.cells [.d (.int .u8 (wrap .u8 x.kind))]]).app (by simp; omega) (xs:=[wrap .u8 x.kind]) (by simp) (by simp; omega) (src:=.row bs1.length 0 1 (some 1) 1) (fun lo=>nN lo);have ht:=fun h=>Cy (E:=E) x.text (by omega) h;have hne:bE x.text≠[]:=by simp [bE,cK]
   obtain ⟨bs3,F3,r1,r2,r3,r4,r5⟩:=(p2.le (ce hm1 (by simp))).app (m:=m) (by rw [p4]; simp; omega) hne (by simp; omega) (src:=.d (bytesD (bE x.text))) (fun lo=>jK _ _);have eT:acc1++[wrap .u8 x.kind]++bE x.text=acc1++dB x:=by simp [dB]
   rw [eT] at r1 r2;have hl2:bs2.length=bs1.length+2:=by rw [p4]; simp
   have hl01:=hk1.1;have hq1:=p1 lo;have hnu:=hB1.nu;simp at hq1;have hq2:=r1 (F lo);simp at hq2;refine ⟨bs3,F3 (F lo),.row bs2.length 0 (acc1++dB x).length none 1,fun W=>?_,⟨?_,?_⟩,by omega,?_,fun h=>r5 _ (p5 _ h)⟩
   · simp [rT,h0,hix,hnu,ai,aa,av,aH,hq1,ht,hq2];rw [if_pos (lv m [true,true,true,true,true,true,true,false,false,true,true,true,true,true,false,false,true] (by decide) ?_)]
     · simp [hw]
     · have hvb:=hB1.vblk
       repeat' first
        | exact trivial
        | refine Cl1.t (by simp) ?_
        | refine Cl1.c ?_
        | refine Cl1.m ?_ ?_ ?_
       all_goals first
        | exact hvb
        | omega
        | (simp; try omega)
   · exact ((hk1.trans (Kx.lay o _ _) (.inl rfl)).trans p3 (.inr fun y e=>hn1 y e)).trans r3 (.inr fun y e=>by cases e; simp; omega)
   · intro b e;cases e; omega
   · exact r2.le (show m<=bs2.length by omega)
 · have hnu:=hB.nu;simp [rT,hnu]
theorem E9 (s:Sl Term)(hs:s.l.length<2 ^ 62){m:Nat}{bs:List Blk}{v:V}{acc:List Int}(hB:Bv m bs v acc)(hm:m<=bs.length)(hl:acc.length+(seqB dB s.l).length<=big) :
 Gro E 139 [v,.d (s.d Term.c)] (fQ v) m bs (acc++seqB dB s.l):=by
 simp only [seqB,ap] at hl;obtain ⟨b,bs1,k,c1,c2,c3,c4,c5⟩:=Gro.short (E:=E) (x:=s.l.length) (by omega) (by omega) hm;have hB2:Bv m bs1 v acc:=by
  rcases hB with h | ⟨e1,b',e2,rfl,e4⟩
  · exact .inl h
  · exact .inr ⟨e1,b',e2,rfl,c4.get (by simp) e4⟩
 have hl1:=c4.1;obtain ⟨bs2,F,p1,p2,p3,p4,p5⟩:=hB2.app (by omega) (cK _) (by omega) (src:=.row b 0 (aP s.l.length).length none 1) (fun lo=>c2.rc lo);have hK:Kx (fQ v) bs bs2:=(Kx.trans c4 (Kx.refl none _) (.inl rfl) |> fun _=>(show Kx (fQ v) bs bs1 from ⟨c4.1,fun x hx _=>c4.2 x hx (by simp)⟩)).trans p3 (.inl rfl);obtain ⟨bs3,lo3,v3,d1,⟨d2,d3⟩,d4,d5,d6⟩:=XG (E:=E) s hs (p2.le (show m<=bs1.length by omega)) (by omega) (by rw [ap]; omega) (F (min bs.length k)) bs (fQ v) hK (fun b e=>by cases e; omega);have hne:acc++seqB dB s.l≠[]:=by simp [seqB,cK]
 have eA:acc++aP s.l.length++s.l.flatMap dB=acc++seqB dB s.l:=by simp [seqB]
 rw [eA] at d5;have hw:wrap .u64 (s.l.length:Int)=s.l.length:=by rw [wrap_u64]; omega
 have hnu:=hB.nu;have hq:=p1 (min bs.length k);simp at hq;simp at d1;have hlo:m<=lo3:=d6 (p5 _ (by omega));rcases d5 with ⟨h1,_⟩ | ⟨e1,b3,e2,rfl,e4⟩
 · exact absurd h1 hne
 have hbb:=d3 b3 rfl;refine ⟨b3,bs3,lo3,fun lo=>?_,.inr ⟨e1,b3,hbb,rfl,e4⟩,hbb,d2,hlo⟩;rw [aN bh7 be4];simp [ae,PS,hw,hnu,c1,hq];rw [au];simp [d1];intro _ hu;simp [V.under] at hu;omega
end
section
variable {E:Calls'}
theorem bh8:TX 140=some PT:=by kernel_rfl
theorem be5:aM 140=true:=by kernel_rfl
theorem YJ (x:Int)(h:Hp):Sm E TX aM 140 [.d (u64 x),.d (i64 4)] h=some (.d (bytesD (xe x)),h):=by
 rw [aV bh8 be5];have key:=aC (E:=E) (T:=TX) (val:=aM) [0,1,5,6] kR;generalize hW:Cd E TX aM (.loop [0,1,5,6] kR)=W at key;have hm:∀ (ev:X->V) (hp:Hp),ev (.t 7)=.d (i64 4)->opE (Sm E TX aM) (.mksl 1 1 [(.d (.int .u8 0))] (.t 7) (.t 7)) ev hp=some (.row hp.size 0 4 (some 4) 1,hp.alloc [.d (.int .u8 0),.d (.int .u8 0),.d (.int .u8 0),.d (.int .u8 0)]):=fun ev hp he=>by
  simp only [opE,he]; rfl
 have s0:bV .shr (.d (.int .u64 x)) (.d (.int .i64 0))=some (.int .u64 x):=by rw [ib (by decide)]; simp
 have s1:bV .shr (.d (.int .u64 x)) (.d (.int .i64 8))=some (.int .u64 (x.fdiv 256)):=by rw [ib (by decide)]; rfl
 have s2:bV .shr (.d (.int .u64 x)) (.d (.int .i64 16))=some (.int .u64 (x.fdiv 65536)):=by rw [ib (by decide)]; rfl
 have s3:bV .shr (.d (.int .u64 x)) (.d (.int .i64 24))=some (.int .u64 (x.fdiv 16777216)):=by rw [ib (by decide)]; rfl
 have m0:bV .mul (.d (.int .i64 8)) (.d (.int .i64 0))=some (.int .i64 0):=by rfl
 have m1:bV .mul (.d (.int .i64 8)) (.d (.int .i64 1))=some (.int .i64 8):=by rfl
 have m2:bV .mul (.d (.int .i64 8)) (.d (.int .i64 2))=some (.int .i64 16):=by rfl
 have m3:bV .mul (.d (.int .i64 8)) (.d (.int .i64 3))=some (.int .i64 24):=by rfl
 have w1:wrap .i64 1=1:=by decide
 have w2:wrap .i64 2=2:=by decide
 have w3:wrap .i64 3=3:=by decide
 have w4:wrap .i64 4=4:=by decide
 simp [ae,PT,hm];rw [au,hW,key];simp [kR,s0,m0,w1,eP];rw [key];simp [kR,s1,m1,w2,eP];rw [key];simp [kR,s2,m2,w3,eP];rw [key];simp [kR,s3,m3,w4,eP];rw [key];simp [kR];simp [bytesD,xe,dataV,dataV.chunks,sub]
theorem Cr {f:FuncId}{args:List V}{v:V}(hc:∀ h,Sm E TX aM f args h=some (v,h))(bs:List Blk):∀ (lo:Nat) (xs:List X) (ev:X->V),xs.all (fun x=>okV (ev x))=true->xs.map ev=args->ev (.c (.fn f []))=.fn f []->dh (Sm E TX aM) (.call (.c (.fn f [])) xs) ev ⟨bs,lo⟩=some (v,⟨bs,lo⟩,⟨true,false,[],[],bs.length,bs.length,0⟩):=fun lo xs ev ha hx hf=>by
 rw [aa,if_pos ha,hf,hx,lD,List.append_nil,hc];simp
def jv (s:Source):List Int:=seqB dB s.names.l++(seqB dB s.spaces.l++(wrap .u8 (s.nets.l.length:Int)::s.nets.l.flatMap jR))
def jy (t:Target):List Int:=(wrap .u8 (t.ports.l.length:Int)::t.ports.l.flatMap nK)++(seqB dB t.methods.l++(seqB dB t.paths.l++seqB dB t.hosts.l))
def pI (w:When):List Int:=bE w.head++seqB dB w.terms.l
def pz (r:Rule):List Int:=(wrap .u8 (r.frm.l.length:Int)::r.frm.l.flatMap jv)++((wrap .u8 (r.to.l.length:Int)::r.to.l.flatMap jy)++(wrap .u8 (r.whn.l.length:Int)::r.whn.l.flatMap pI))
def zn (p:Pol):List Int:=aP p.id++(bE p.ns++(aP p.service++(wrap .u8 p.deny::wrap .u8 (p.rules.l.length:Int)::p.rules.l.flatMap pz)))
structure K2 (p:Pol) (L:Nat) (r:Rule) (bs:List Blk):Prop where
 p0:af bs 0=some (p.c.map .d)
 r0:af bs L=some (r.c.map .d)
theorem K2.kx {p:Pol}{L:Nat}{r:Rule}{bs bs':List Blk}(h:K2 p L r bs){v:V}{acc:List Int}(hB:Bv (L+1) bs v acc)(hk:Kx (fQ v) bs bs'):K2 p L r bs' :=
 ⟨hk.get (fun e=>by have:=(hB.blk e).1; omega) h.p0,hk.get (fun e=>by have:=(hB.blk e).1; omega) h.r0⟩
theorem K2.lay {p:Pol}{L:Nat}{r:Rule}{bs:List Blk}(h:K2 p L r bs)(ys:List Blk):K2 p L r (bs++ys):=⟨ax h.p0,ax h.r0⟩
section
variable {p:Pol}{L:Nat}{r:Rule}(hr:r.wf big)
include hr
theorem XW {k:Nat}{s:Source}(hs:r.frm.l[k]?=some s)(hk:k<r.frm.l.length)(pi:Nat)(bs:List Blk)(lo:Nat)(v:V)(acc:List Int)(hK:K2 p L r bs)(hm:L+1<=bs.length)(hB:Bv (L+1) bs v acc)(hb:acc.length+(s.nets.l.flatMap jR).length<=big) :
 ∃ bs' lo' v',Cd E TX aM (.loop [1,3,4,5,6,7] rH) [(1,.ptr 0 0),(3,v),(4,.d (i64 (pi:Int))),(5,.ptr L 0),(6,.d (i64 (k:Int))),(7,.d (i64 ((0:Nat):Int)))] ⟨bs,lo⟩ =
  some (.exit 4,[(1,.ptr 0 0),(3,v'),(4,.d (i64 (pi:Int))),(5,.ptr L 0),(6,.d (i64 (k:Int)))],⟨bs',lo'⟩)/\K2 p L r bs'/\L+1<=bs'.length/\Bv (L+1) bs' v' (acc++s.nets.l.flatMap jR)/\(L+1<=lo->L+1<=lo'):=by
 have hwf:=hr.1.2 s (ca hs);refine dY (E:=E) (keep:=[1,3,4,5,6,7]) (body:=rH) s.nets.l jR (fun i v=>[(1,.ptr 0 0),(3,v),(4,.d (i64 (pi:Int))),(5,.ptr L 0),(6,.d (i64 (k:Int))),(7,.d (i64 i))]) (fun v=>(.exit 4,[(1,.ptr 0 0),(3,v),(4,.d (i64 (pi:Int))),(5,.ptr L 0),(6,.d (i64 (k:Int)))])) (L+1)
  (fun bs' v'=>K2 p L r bs') (fun i x hx hi bs1 lo v1 acc1 hK1 hm1 hB1 hb=>?_) (fun bs lo v acc hK1 hB W=>?_) bs lo v acc hK hm hB hb
 · have hsx:=fun h=>ay (z:=3) h hs (cells:=Source.c) rfl;have hix:=fun h=>ay (z:=2) h hx (cells:=Cidr.c) rfl;have hw:=ak hi (fit.lt hwf.2.2.1);have h0:((i:Int)<s.nets.l.length):=by omega
   have hxr:=Ey (hwf.2.2.2 x (ca hx)).1;have hwa:wrap .u64 x.addr=x.addr:=by rw [wrap_u64]; omega
   have hc:=fun h=>YJ (E:=E) x.addr h;have hu:(xe x.addr).length=4:=rfl;have hb':acc1.length+5<=big:=by
    have:(jR x).length=5:=rfl;omega
   obtain ⟨bs2,F,p1,p2,p3,p4,p5⟩:=hB1.app hm1 (xs:=xe x.addr) (by simp [xe]) (by rw [hu]; omega) (src:=.d (bytesD (xe x.addr))) (fun lo=>jK _ _);have hB2:=p2.le (show L+1<=bs1.length by omega);have hK2:=hK1.kx hB1 p3;obtain ⟨bs3,F3,r1,r2,r3,r4,r5⟩:=(hB2.lay [.cells [.d (.int .u8 (wrap .u8 x.bits))]]).app (by simp; omega) (xs:=[wrap .u8 x.bits]) (by simp) (by rw [ap,hu]; simp; omega) (src:=.row bs2.length 0 1 (some 1) 1) (fun lo=>nN lo);have eT:acc1++xe x.addr++[wrap .u8 x.bits]=acc1++jR x:=by simp [jR]
   rw [eT] at r1 r2;have hl3:bs3.length=bs2.length+2:=by rw [r4]; simp
   refine ⟨bs3,F3 (F lo),_,fun W=>?_,(hK2.lay _).kx (hB2.lay _) r3,by omega,r2.le (by simp; omega),fun h=>r5 _ (p5 _ h)⟩;have hnu:=hB1.nu;have hq1:=p1 lo;have hq2:=r1 (F lo);simp at hq1 hq2;simp [rH,hK1.r0,hK2.r0,h0,hsx,hix,hnu,hwa,hc,hq1,aH,hq2,hw]
 · have hsx:=fun h=>ay (z:=3) h hs (cells:=Source.c) rfl;have hnu:=hB.nu;simp [rH,hK1.r0,hsx,hnu]
end
end
section
variable {E:Calls'}
theorem gm {α:Type}(a b:List α):(a++b).length=a.length+b.length:=ap
section
variable {p:Pol}{L:Nat}{r:Rule}(hr:r.wf big)
include hr
theorem XR (pi:Nat)(bs:List Blk)(lo:Nat)(v:V)(acc:List Int)(hK:K2 p L r bs)(hm:L+1<=bs.length)(hB:Bv (L+1) bs v acc)(hb:acc.length+(r.frm.l.flatMap jv).length<=big) :
 ∃ bs' lo' v',Cd E TX aM (.loop [1,3,4,5,6] rJ) [(1,.ptr 0 0),(3,v),(4,.d (i64 (pi:Int))),(5,.ptr L 0),(6,.d (i64 ((0:Nat):Int)))] ⟨bs,lo⟩ =
  some (.exit 2,[(1,.ptr 0 0),(3,v'),(4,.d (i64 (pi:Int))),(5,.ptr L 0)],⟨bs',lo'⟩)/\K2 p L r bs'/\L+1<=bs'.length/\Bv (L+1) bs' v' (acc++r.frm.l.flatMap jv)/\(L+1<=lo->L+1<=lo'):=by
 refine dY (E:=E) (keep:=[1,3,4,5,6]) (body:=rJ) r.frm.l jv (fun i v=>[(1,.ptr 0 0),(3,v),(4,.d (i64 (pi:Int))),(5,.ptr L 0),(6,.d (i64 i))]) (fun v=>(.exit 2,[(1,.ptr 0 0),(3,v),(4,.d (i64 (pi:Int))),(5,.ptr L 0)])) (L+1)
  (fun bs' v'=>K2 p L r bs') (fun i x hx hi bs1 lo v1 acc1 hK1 hm1 hB1 hb=>?_) (fun bs lo v acc hK1 hB W=>?_) bs lo v acc hK hm hB hb
 · have hwf:=hr.1.2 x (ca hx);have hsx:=fun h=>ay (z:=3) h hx (cells:=Source.c) rfl;have hw:=ak hi (fit.lt hr.1.1);have h0:((i:Int)<r.frm.l.length):=by omega
   simp only [jv,gm,cf] at hb;obtain ⟨b1,bs2,t1,F1,o1,i1,B1,g1,k1,l1⟩:=(E9 (E:=E) x.names (fit.lt hwf.1.1) hB1 hm1 (by omega)).open hm1;have hK2:=hK1.kx hB1 k1;have hm2:L+1<=bs2.length:=ce hm1 k1.1;have B1':=B1.le hm1;obtain ⟨b2,bs3,t2,F2,o2,i2,B2,g2,k2,l2⟩:=(E9 (E:=E) x.spaces (fit.lt hwf.2.1.1) B1' hm2 (by rw [gm]; omega)).open hm2;have hK3:=hK2.kx B1' k2;have hm3:L+1<=bs3.length:=ce hm2 k2.1;have B2':=B2.le hm2;obtain ⟨bs4,F3,r1,r2,r3,r4,r5⟩:=(B2'.lay [.cells [.d (.int .u8 (wrap .u8 (x.nets.l.length:Int)))]]).app (by simp; omega) (xs:=[wrap .u8 (x.nets.l.length:Int)]) (by simp) (by simp only [gm,cf,cg]; omega) (src:=.row bs3.length 0 1 (some 1) 1) (fun lo=>nN lo);have hK4:=(hK3.lay _).kx (B2'.lay _) r3;have hl4:bs4.length=bs3.length+2:=by rw [r4]; simp
   have B4:=r2.le (show L+1<=_ by simp; omega);obtain ⟨bs5,lo5,v5,d1,d2,d3,d4,d5⟩:=XW (E:=E) hr hx hi pi bs4 (F3 (F2 (F1 lo))) _ _ hK4 (by omega) B4 (by simp only [gm,cf,cg]; omega);have eT:acc1++seqB dB x.names.l++seqB dB x.spaces.l++[wrap .u8 (x.nets.l.length:Int)]++x.nets.l.flatMap jR=acc1++jv x:=by simp [jv]
   rw [eT] at d4;refine ⟨bs5,lo5,v5,fun W=>?_,d2,d3,d4,fun h=>d5 (r5 _ (l2 _ (l1 _ h)))⟩;have hnu:=hB1.nu;have hok:=hB1.ok;have hq2:=r1 (F2 (F1 lo));simp at hq2;simp at d1;simp [rJ,hK1.r0,hK2.r0,hK3.r0,h0,hsx,hnu,hok,ai,av,o1,o2];rw [if_pos (lv (L+1) [true,true,true,true,true,true,true,false,true,true,true,true,true,true,false,true] (by decide) ?_)]
   · simp [hK3.r0,hsx,aH,hq2];rw [au];simp [d1,hw]
   · repeat' first
      | exact trivial
      | refine Cl1.t (by simp) ?_
      | exact ⟨i1,?_⟩
      | refine ⟨i1,?_⟩
      | refine ⟨i2,?_⟩
 · have hnu:=hB.nu;simp [rJ,hK1.r0,hnu]
theorem XX {k:Nat}{t:Target}(ht:r.to.l[k]?=some t)(pi:Nat)(bs:List Blk)(lo:Nat)(v:V)(acc:List Int)(hK:K2 p L r bs)(hm:L+1<=bs.length)(hB:Bv (L+1) bs v acc)(hb:acc.length+(t.ports.l.flatMap nK).length<=big) :
 ∃ bs' lo' v',Cd E TX aM (.loop [1,3,4,5,8,9] rM) [(1,.ptr 0 0),(3,v),(4,.d (i64 (pi:Int))),(5,.ptr L 0),(8,.d (i64 (k:Int))),(9,.d (i64 ((0:Nat):Int)))] ⟨bs,lo⟩ =
  some (.exit 8,[(1,.ptr 0 0),(3,v'),(4,.d (i64 (pi:Int))),(5,.ptr L 0),(8,.d (i64 (k:Int)))],⟨bs',lo'⟩)/\K2 p L r bs'/\L+1<=bs'.length/\Bv (L+1) bs' v' (acc++t.ports.l.flatMap nK)/\(L+1<=lo->L+1<=lo'):=by
 have hwf:=hr.2.1.2 t (ca ht);refine dY (E:=E) (keep:=[1,3,4,5,8,9]) (body:=rM) t.ports.l nK (fun i v=>[(1,.ptr 0 0),(3,v),(4,.d (i64 (pi:Int))),(5,.ptr L 0),(8,.d (i64 (k:Int))),(9,.d (i64 i))]) (fun v=>(.exit 8,[(1,.ptr 0 0),(3,v),(4,.d (i64 (pi:Int))),(5,.ptr L 0),(8,.d (i64 (k:Int)))])) (L+1)
  (fun bs' v'=>K2 p L r bs') (fun i x hx hi bs1 lo v1 acc1 hK1 hm1 hB1 hb=>?_) (fun bs lo v acc hK1 hB W=>?_) bs lo v acc hK hm hB hb
 · have htx:=fun h=>ay (z:=4) h ht (cells:=Target.c) rfl;have hix:=fun h=>ay (z:=1) h hx (cells:=gV) rfl;have hw:=ak hi (fit.lt hwf.1.1);have h0:((i:Int)<t.ports.l.length):=by omega
   have hr0:0<=wrap .u64 x:=by rw [wrap_u64]; omega
   have hr1:wrap .u64 x<2 ^ 64:=by rw [wrap_u64]; omega
   obtain ⟨b,bs2,k2,c1,c2,c3,c4,c5⟩:=Gro.short (E:=E) hr0 hr1 hm1;have hB2:Bv (L+1) bs2 v1 acc1:=by
    rcases hB1 with h | ⟨e1,b',e2,rfl,e4⟩
    · exact .inl h
    · exact .inr ⟨e1,b',e2,rfl,c4.get (by simp) e4⟩
   have hK2:K2 p L r bs2:=⟨c4.get (by simp) hK1.p0,c4.get (by simp) hK1.r0⟩;have hl2:=c4.1;obtain ⟨bs3,F,p1,p2,p3,p4,p5⟩:=hB2.app (by omega) (cK (wrap .u64 x)) hb (src:=.row b 0 (aP (wrap .u64 x)).length none 1) (fun lo=>c2.rc lo);refine ⟨bs3,F (min lo k2),_,fun W=>?_,hK2.kx hB2 p3,by omega,p2.le (show L+1<=bs2.length by omega),fun h=>p5 _ (by omega)⟩;have hnu:=hB1.nu;have hq1:=p1 (min lo k2);simp at hq1;simp [rM,hK1.r0,h0,htx,hix,hnu,c1,hq1,hw,gV]
 · have htx:=fun h=>ay (z:=4) h ht (cells:=Target.c) rfl;have hnu:=hB.nu;simp [rM,hK1.r0,htx,hnu]
theorem Zo (pi:Nat)(bs:List Blk)(lo:Nat)(v:V)(acc:List Int)(hK:K2 p L r bs)(hm:L+1<=bs.length)(hB:Bv (L+1) bs v acc)(hb:acc.length+(r.to.l.flatMap jy).length<=big) :
 ∃ bs' lo' v',Cd E TX aM (.loop [1,3,4,5,8] rO) [(1,.ptr 0 0),(3,v),(4,.d (i64 (pi:Int))),(5,.ptr L 0),(8,.d (i64 ((0:Nat):Int)))] ⟨bs,lo⟩ =
  some (.exit 6,[(1,.ptr 0 0),(3,v'),(4,.d (i64 (pi:Int))),(5,.ptr L 0)],⟨bs',lo'⟩)/\K2 p L r bs'/\L+1<=bs'.length/\Bv (L+1) bs' v' (acc++r.to.l.flatMap jy)/\(L+1<=lo->L+1<=lo'):=by
 refine dY (E:=E) (keep:=[1,3,4,5,8]) (body:=rO) r.to.l jy (fun i v=>[(1,.ptr 0 0),(3,v),(4,.d (i64 (pi:Int))),(5,.ptr L 0),(8,.d (i64 i))]) (fun v=>(.exit 6,[(1,.ptr 0 0),(3,v),(4,.d (i64 (pi:Int))),(5,.ptr L 0)])) (L+1)
  (fun bs' v'=>K2 p L r bs') (fun i x hx hi bs1 lo v1 acc1 hK1 hm1 hB1 hb=>?_) (fun bs lo v acc hK1 hB W=>?_) bs lo v acc hK hm hB hb
 · have hwf:=hr.2.1.2 x (ca hx);have hsx:=fun h=>ay (z:=4) h hx (cells:=Target.c) rfl;have hw:=ak hi (fit.lt hr.2.1.1);have h0:((i:Int)<r.to.l.length):=by omega
   simp only [jy,gm,cf] at hb;obtain ⟨bs2,F1,r1,r2,r3,r4,r5⟩:=(hB1.lay [.cells [.d (.int .u8 (wrap .u8 (x.ports.l.length:Int)))]]).app (by simp; omega) (xs:=[wrap .u8 (x.ports.l.length:Int)]) (by simp) (by simp only [cf,cg]; omega) (src:=.row bs1.length 0 1 (some 1) 1) (fun lo=>nN lo);have hK2:=(hK1.lay _).kx (hB1.lay _) r3;have hl2:bs2.length=bs1.length+2:=by rw [r4]; simp
   have B2:=r2.le (show L+1<=_ by simp; omega);obtain ⟨bs3,lo3,v3,d1,hK3,hm3,B3,d5⟩:=XX (E:=E) hr hx pi bs2 (F1 lo) _ _ hK2 (by omega) B2 (by simp only [gm,cf,cg]; omega);obtain ⟨b1,bs4,t1,G1,o1,i1,B4,g1,k1,l1⟩:=(E9 (E:=E) x.methods (fit.lt hwf.2.1.1) B3 hm3 (by simp only [gm,cf,cg]; omega)).open hm3;have hK4:=hK3.kx B3 k1;have hm4:L+1<=bs4.length:=ce hm3 k1.1;have B4':=B4.le hm3;obtain ⟨b2,bs5,t2,G2,o2,i2,B5,g2,k2,l2⟩:=(E9 (E:=E) x.paths (fit.lt hwf.2.2.1.1) B4' hm4 (by simp only [gm,cf,cg]; omega)).open hm4;have hK5:=hK4.kx B4' k2;have hm5:L+1<=bs5.length:=ce hm4 k2.1;have B5':=B5.le hm4;obtain ⟨b3,bs6,t3,G3,o3,i3,B6,g3,k3,l3⟩:=(E9 (E:=E) x.hosts (fit.lt hwf.2.2.2.1) B5' hm5 (by simp only [gm,cf,cg]; omega)).open hm5;have hK6:=hK5.kx B5' k3;have hm6:L+1<=bs6.length:=ce hm5 k3.1;have B6':=B6.le hm5;have eT:acc1++[wrap .u8 (x.ports.l.length:Int)]++x.ports.l.flatMap nK++seqB dB x.methods.l++seqB dB x.paths.l++seqB dB x.hosts.l=acc1++jy x:=by simp [jy]
   rw [eT] at B6' o3;refine ⟨bs6,G3 (G2 (G1 lo3)),_,fun W=>?_,hK6,hm6,B6',fun h=>l3 _ (l2 _ (l1 _ (d5 (r5 _ h))))⟩;have hnu:=hB1.nu;have hok3:=B3.ok;have hnu3:=B3.nu;have hq2:=r1 lo;simp at hq2;simp at d1;simp [rO,hK1.r0,h0,hsx,hnu,aH,hq2];rw [au];simp [d1,hnu3,hok3,hK3.r0,hK4.r0,hK5.r0,hsx,ai,av,o1,o2,o3];rw [if_pos (lv (L+1) [true,true,true,true,true,true,true,false,true,true,true,true,true,true,false,true,true,true,true,true,true,false,true] (by decide) ?_)]
   · simp [hw]
   · repeat' first
      | exact trivial
      | refine Cl1.t (by simp) ?_
      | refine ⟨i1,?_⟩
      | refine ⟨i2,?_⟩
      | refine ⟨i3,?_⟩
 · have hnu:=hB.nu;simp [rO,hK1.r0,hnu]
theorem Zp (pi:Nat)(bs:List Blk)(lo:Nat)(v:V)(acc:List Int)(hK:K2 p L r bs)(hm:L+1<=bs.length)(hB:Bv (L+1) bs v acc)(hb:acc.length+(r.whn.l.flatMap pI).length<=big) :
 ∃ bs' lo' v',Cd E TX aM (.loop [1,3,4,5,10] rP) [(1,.ptr 0 0),(3,v),(4,.d (i64 (pi:Int))),(5,.ptr L 0),(10,.d (i64 ((0:Nat):Int)))] ⟨bs,lo⟩ =
  some (.exit 10,[(1,.ptr 0 0),(3,v'),(4,.d (i64 (pi:Int)))],⟨bs',lo'⟩)/\K2 p L r bs'/\L+1<=bs'.length/\Bv (L+1) bs' v' (acc++r.whn.l.flatMap pI)/\(L+1<=lo->L+1<=lo'):=by
 refine dY (E:=E) (keep:=[1,3,4,5,10]) (body:=rP) r.whn.l pI (fun i v=>[(1,.ptr 0 0),(3,v),(4,.d (i64 (pi:Int))),(5,.ptr L 0),(10,.d (i64 i))]) (fun v=>(.exit 10,[(1,.ptr 0 0),(3,v),(4,.d (i64 (pi:Int)))])) (L+1)
  (fun bs' v'=>K2 p L r bs') (fun i x hx hi bs1 lo v1 acc1 hK1 hm1 hB1 hb=>?_) (fun bs lo v acc hK1 hB W=>?_) bs lo v acc hK hm hB hb
 · have hwf:=hr.2.2.2 x (ca hx);have hsx:=fun h=>ay (z:=2) h hx (cells:=When.c) rfl;have hw:=ak hi (fit.lt hr.2.2.1);have h0:((i:Int)<r.whn.l.length):=by omega
   simp only [pI,gm] at hb;have hne:bE x.head≠[]:=by simp [bE,cK]
   have o0:=Cr (fun h=>Cy (E:=E) x.head (by omega) h) bs1;obtain ⟨bs2,F1,r1,r2,r3,r4,r5⟩:=hB1.app hm1 hne (by omega) (src:=.d (bytesD (bE x.head))) (fun lo=>jK _ _);have hK2:=hK1.kx hB1 r3;have B2:=r2.le (show L+1<=bs1.length by omega);have hm2:L+1<=bs2.length:=by omega
   obtain ⟨b1,bs3,t1,G1,o1,i1,B3,g1,k1,l1⟩:=(E9 (E:=E) x.terms (fit.lt hwf.2.1) B2 hm2 (by simp only [gm]; omega)).open hm2;have hK3:=hK2.kx B2 k1;have hm3:L+1<=bs3.length:=ce hm2 k1.1;have B3':=B3.le hm2;have eT:acc1++bE x.head++seqB dB x.terms.l=acc1++pI x:=by simp [pI]
   rw [eT] at B3' o1;refine ⟨bs3,G1 (F1 lo),_,fun W=>?_,hK3,hm3,B3',fun h=>l1 _ (r5 _ h)⟩;have hnu:=hB1.nu;have hq2:=r1 lo;simp at hq2;simp [rP,hK1.r0,hK2.r0,h0,hsx,hnu,ai,av,o0,hq2,o1];rw [if_pos (lv (L+1) [true,true,true,true,true,true,true,false,false,true,true,true,true,true,true,false,true] (by decide) ?_)]
   · simp [hw]
   · have hvb:=hB1.vblk
     repeat' first
      | exact trivial
      | refine Cl1.t (by simp) ?_
      | refine Cl1.c ?_
      | refine Cl1.m ?_ ?_ ?_
      | refine ⟨i1,?_⟩
      | exact hvb
      | fail
     all_goals first
      | exact hvb
      | omega
      | (simp; try omega)
 · have hnu:=hB.nu;simp [rP,hK1.r0,hnu]
end
end
section
variable {E:Calls'}
theorem X0 (p:Pol)(hp:p.wf big)(bs:List Blk)(lo:Nat)(v:V)(acc:List Int)(hK:af bs 0=some (p.c.map .d))(hm:1<=bs.length)(hB:Bv 1 bs v acc)(hb:acc.length+(p.rules.l.flatMap pz).length<=big) :
 ∃ bs' lo' v',Cd E TX aM (.loop [1,3,4] rQ) [(1,.ptr 0 0),(3,v),(4,.d (i64 ((0:Nat):Int)))] ⟨bs,lo⟩ =
  some (.exit 0,[(3,v')],⟨bs',lo'⟩)/\af bs' 0=some (p.c.map .d)/\1<=bs'.length/\Bv 1 bs' v' (acc++p.rules.l.flatMap pz)/\(0<=lo->0<=lo'):=by
 refine dY (E:=E) (keep:=[1,3,4]) (body:=rQ) p.rules.l pz (fun i v=>[(1,.ptr 0 0),(3,v),(4,.d (i64 i))]) (fun v=>(.exit 0,[(3,v)])) 1
  (fun bs' v'=>af bs' 0=some (p.c.map .d)) (fun i x hx hi bs1 lo v1 acc1 hK1 hm1 hB1 hb=>?_) (fun bs lo v acc hK1 hB W=>?_) bs lo v acc hK hm hB hb
 · have hwf:=hp.2.2.2.2.2 x (ca hx);have hsx:=fun h=>ay (z:=3) h hx (cells:=Rule.c) rfl;have hw:=ak hi (fit.lt hp.2.2.2.2.1);have h0:((i:Int)<p.rules.l.length):=by omega
   simp only [pz,gm,cf] at hb;have hKa:K2 p bs1.length x (bs1++[.cells (x.c.map .d)]):=⟨ax hK1,by simp⟩;have hA:=hB1.lay [.cells (x.c.map .d)];obtain ⟨bs2,F1,r1,r2,r3,r4,r5⟩:=(hA.lay [.cells [.d (.int .u8 (wrap .u8 (x.frm.l.length:Int)))]]).app (by simp) (xs:=[wrap .u8 (x.frm.l.length:Int)]) (by simp) (by simp only [cf,cg]; omega) (src:=.row (bs1++[Blk.cells (x.c.map .d)]).length 0 1 (some 1) 1) (fun lo=>nN lo);have hne:fQ v1≠some bs1.length:=fun e=>by have:=(hB1.blk e).2; omega
   have hn0:fQ v1≠some 0:=fun e=>by have:=(hB1.blk e).1; omega
   have hK2:K2 p bs1.length x bs2:=⟨r3.get hn0 (hKa.lay _).p0,r3.get hne (hKa.lay _).r0⟩;have hl2:bs2.length=bs1.length+3:=by rw [r4]; simp
   have B2:=r2.le (show bs1.length+1<=_ by simp);obtain ⟨bs3,lo3,v3,d1,hK3,hm3,B3,d5⟩:=XR (E:=E) hwf i bs2 (F1 (min lo bs1.length)) _ _ hK2 (by omega) B2 (by simp only [gm,cf,cg]; omega);obtain ⟨bs4,F2,s1,s2,s3,s4,s5⟩:=(B3.lay [.cells [.d (.int .u8 (wrap .u8 (x.to.l.length:Int)))]]).app (by simp; omega) (xs:=[wrap .u8 (x.to.l.length:Int)]) (by simp) (by simp only [gm,cf,cg]; omega) (src:=.row bs3.length 0 1 (some 1) 1) (fun lo=>nN lo);have hK4:=(hK3.lay _).kx (B3.lay _) s3;have hl4:bs4.length=bs3.length+2:=by rw [s4]; simp
   have B4:=s2.le (show bs1.length+1<=_ by simp; omega);obtain ⟨bs5,lo5,v5,e1,hK5,hm5,B5,e5⟩:=Zo (E:=E) hwf i bs4 (F2 lo3) _ _ hK4 (by omega) B4 (by simp only [gm,cf,cg]; omega);obtain ⟨bs6,F3,t1,t2,t3,t4,t5⟩:=(B5.lay [.cells [.d (.int .u8 (wrap .u8 (x.whn.l.length:Int)))]]).app (by simp; omega) (xs:=[wrap .u8 (x.whn.l.length:Int)]) (by simp) (by simp only [gm,cf,cg]; omega) (src:=.row bs5.length 0 1 (some 1) 1) (fun lo=>nN lo);have hK6:=(hK5.lay _).kx (B5.lay _) t3;have hl6:bs6.length=bs5.length+2:=by rw [t4]; simp
   have B6:=t2.le (show bs1.length+1<=_ by simp; omega);obtain ⟨bs7,lo7,v7,f1,hK7,hm7,B7,f5⟩:=Zp (E:=E) hwf i bs6 (F3 lo5) _ _ hK6 (by omega) B6 (by simp only [gm,cf,cg]; omega);have eT:acc1++[wrap .u8 (x.frm.l.length:Int)]++x.frm.l.flatMap jv++[wrap .u8 (x.to.l.length:Int)]++x.to.l.flatMap jy++[wrap .u8 (x.whn.l.length:Int)]++x.whn.l.flatMap pI=acc1++pz x:=by simp [pz]
   rw [eT] at B7;refine ⟨bs7,lo7,v7,fun W=>?_,hK7.p0,by omega,B7.le (by omega),fun h=>?_⟩
   · have hnu:=hB1.nu;have hnu3:=B3.nu;have hnu5:=B5.nu;have hg:=ax (ys:=[.cells (x.c.map .d)]) hK1;have hq1:=r1 (min lo bs1.length);have hq2:=s1 lo3;have hq3:=t1 lo5;simp at hq1 hq2 hq3 d1 e1 f1;simp [rQ,hK1,hg,h0,hsx,hnu,aH,hq1];rw [au];simp [d1,hK3.r0,hnu3,aH,hq2];rw [au];simp [e1,hK5.r0,hnu5,aH,hq3];rw [au];simp [f1,hw]
   · exact Nat.zero_le _
 · have hnu:=hB.nu;simp [rQ,hK1,hnu]
theorem Qo {bs:List Blk}{x y:Int}{k:IntKind}(lo:Nat):aD ⟨bs++[.cells [.d (.int k x),.d (.int k y)]],lo⟩ (.row bs.length 0 2 (some 2) 1) 1=some (([x,y]:List Int).length,([x,y]:List Int).map (iv k)):=by
 simp only [aD,if_true,get_eq,di];rfl
theorem Bv.short {m:Nat}{bs bs':List Blk}{v:V}{acc:List Int}(h:Bv m bs v acc)(k:Kx none bs bs'):Bv m bs' v acc:=by
 rcases h with h | ⟨e1,b',e2,rfl,e4⟩
 · exact .inl h
 · exact .inr ⟨e1,b',e2,rfl,k.get (by simp) e4⟩
theorem qN {n:Int}(h:Inr .u64 n):0<=n/\n<2 ^ 64:=by
 simp [Inr,Lit.wf,IntKind.min,IntKind.max,IntKind.bits,IntKind.signed] at h;omega
theorem bh0:TX 91=some Pv:=by kernel_rfl
theorem bd7:aM 91=true:=by kernel_rfl
theorem Yq (p:Pol)(hp:p.wf big)(hl:(zn p).length<=big)(h:Hp):Sm E TX aM 91 [ag p.c] h=some (.d (bytesD (zn p)),h):=by
 simp only [zn,gm,cf] at hl;have hid:=qN hp.1;have hsv:=qN hp.2.2.1;have hK0:af [Blk.cells (p.c.map .d)] 0=some (p.c.map .d):=by simp
 obtain ⟨b1,bs1,t1,G1,o1,i1,B1,g1,k1,l1⟩:=(Gro.short (E:=E) (x:=p.id) (m:=1) (bs:=[Blk.cells (p.c.map .d)]) hid.1 hid.2 (by simp)).open (by simp);have hK1:=k1.get (by simp) hK0;have hne:bE p.ns≠[]:=by simp [bE,cK]
 have o2:=Cr (fun h=>Cy (E:=E) p.ns (by omega) h) bs1;have B1':Bv 1 bs1 _ _:=B1;have hm1:1<=bs1.length:=k1.1;obtain ⟨bs2,F2,r1,r2,r3,r4,r5⟩:=B1'.app hm1 hne (by omega) (src:=.d (bytesD (bE p.ns))) (fun lo=>jK _ _);have hK2:=r3.get (fun e=>by have:=(B1'.blk e).1; omega) hK1;have B2:=r2.le hm1;have hm2:1<=bs2.length:=by omega
 obtain ⟨b3,bs3,k3,c1,c2,c3,c4,c5⟩:=Gro.short (E:=E) (x:=p.service) hsv.1 hsv.2 hm2;have hK3:=c4.get (by simp) hK2;have B3:=B2.short c4;have hl3:=c4.1;obtain ⟨bs4,F4,s1,s2,s3,s4,s5⟩:=B3.app (by omega) (cK _) (by simp only [gm]; omega) (src:=.row b3 0 (aP p.service).length none 1) (fun lo=>c2.rc lo);have hK4:=s3.get (fun e=>by have:=(B3.blk e).1; omega) hK3;have B4:=s2.le (show 1<=bs3.length by omega);obtain ⟨bs5,F5,u1,u2,u3,u4,u5⟩:=(B4.lay [.cells [.d (.int .u8 (wrap .u8 p.deny)),.d (.int .u8 (wrap .u8 (p.rules.l.length:Int)))]]).app (by simp) (xs:=[wrap .u8 p.deny,wrap .u8 (p.rules.l.length:Int)]) (by simp) (by simp only [gm,cf,cg]; omega) (src:=.row bs4.length 0 2 (some 2) 1) (fun lo=>Qo lo);have hK5:=u3.get (fun e=>by have:=(B4.blk e).1; omega) (ax (ys:=[.cells [.d (.int .u8 (wrap .u8 p.deny)),.d (.int .u8 (wrap .u8 (p.rules.l.length:Int)))]]) hK4);have hl5:bs5.length=bs4.length+2:=by rw [u4]; simp
 have B5:=u2.le (show 1<=_ by simp);obtain ⟨bs6,lo6,v6,d1,_,_,B6,_⟩:=X0 (E:=E) p hp bs5 (F5 (F4 (min (F2 (G1 0)) k3))) _ _ hK5 (by omega) B5 (by simp only [gm,cf,cg]; omega);have eT:aP p.id++bE p.ns++aP p.service++[wrap .u8 p.deny,wrap .u8 (p.rules.l.length:Int)]++p.rules.l.flatMap pz=zn p:=by simp [zn]
 rw [eT] at B6;have hne6:zn p≠[]:=by simp [zn,cK]
 have hdat:=fun lo=>B6.dat hne6 lo 7;have hnu6:=B6.nu;have hq1:=r1 (G1 0);have hq2:=s1 (min (F2 (G1 0)) k3);have hq3:=u1 (F4 (min (F2 (G1 0)) k3));simp at hq1 hq2 hq3 d1;rw [aV bh0 bd7];simp [ae,Pv,ai,av,o1,hK1,o2,hq1];rw [if_pos (lv 1 [true,true,false,true,true,false,false,true] (by decide) ?_)]
 · simp [hK2,c1,hq2,hK4,aH,hq3];rw [au];simp [d1,hnu6];rcases B6 with ⟨h1,_⟩ | ⟨_,b',_,rfl,_⟩
   · exact absurd h1 hne6
   · simp [hdat]
 · repeat' first
    | exact trivial
    | refine Cl1.t (by simp) ?_
    | refine Cl1.c ?_
    | refine Cl1.m ?_ ?_ ?_
    | refine ⟨i1,?_⟩
    | fail
   all_goals first
    | omega
    | (simp; try omega)
end
section
variable {E:Calls'}
theorem BF {xs:List Int}(hx:∀ x∈xs,0<=x/\x<2 ^ 64)(hne:xs≠[])(hxn:xs.length<2 ^ 62){bs:List Blk}{v:V}{acc:List Int}(hB:Bv 1 bs v acc)(hm:1<=bs.length)(hl:acc.length+(xs.flatMap aP).length<=big)(cap:Option Nat) :
 ∃ b bs' k,(∀ lo,Sm E TX aM 89 [v,.row bs.length 0 xs.length cap 1] ⟨bs++[.cells (xs.map fun n=>V.d (u64 n))],lo⟩=some (.row b 0 (acc++xs.flatMap aP).length none 1,⟨bs',min lo k⟩)) ∧
  Bv 1 bs' (.row b 0 (acc++xs.flatMap aP).length none 1) (acc++xs.flatMap aP)/\bs.length<b/\1<=bs'.length/\Kx (fQ v) bs bs':=by
 obtain ⟨b,bs',k,c1,c2,c3,c4,c5⟩:=Rq (E:=E) hx hne hxn (hB.lay [.cells (xs.map fun n=>V.d (u64 n))]) (by simp) (q:=bs.length) (cap:=cap) (by simp) (fun e=>by have:=(hB.blk e).2; omega) hl;refine ⟨b,bs',k,c1,c2.le (by simp),by simp at c3; omega,by have:=c4.1; simp at this; omega,(Kx.lay _ bs _).trans c4 (.inl rfl)⟩
theorem jF {n:Int}:0<=wrap .u64 n/\wrap .u64 n<2 ^ 64:=by rw [wrap_u64]; omega
theorem KN {n:Nat}(h:n<=big):0<=(n:Int)/\(n:Int)<2 ^ 64:=by have:big=2 ^ 30:=rfl; omega
theorem A99 (c:Cfg)(hc:c.wf big)(bs:List Blk)(lo:Nat)(v:V)(acc:List Int)(hK:af bs 0=some (c.c.map .d))(hm:1<=bs.length)(hB:Bv 1 bs v acc)(hb:acc.length+(c.pods.l.flatMap lK).length<=big) :
 ∃ bs' lo' v',Cd E TX aM (.loop [1,3,4] wP) [(1,.ptr 0 0),(3,v),(4,.d (i64 ((0:Nat):Int)))] ⟨bs,lo⟩ =
  some (.exit 0,[(1,.ptr 0 0),(3,v')],⟨bs',lo'⟩)/\af bs' 0=some (c.c.map .d)/\1<=bs'.length/\Bv 1 bs' v' (acc++c.pods.l.flatMap lK)/\(0<=lo->0<=lo'):=by
 have hok:=hc.ok (bp _);refine dY (E:=E) (keep:=[1,3,4]) (body:=wP) c.pods.l lK (fun i v=>[(1,.ptr 0 0),(3,v),(4,.d (i64 i))]) (fun v=>(.exit 0,[(1,.ptr 0 0),(3,v)])) 1
  (fun bs' v'=>af bs' 0=some (c.c.map .d)) (fun i x hx hi bs1 lo v1 acc1 hK1 hm1 hB1 hb=>?_) (fun bs lo v acc hK1 hB W=>?_) bs lo v acc hK hm hB hb
 · have hwf:=hc.2.2.2.2.1.2 x (ca hx);have hsx:=fun h=>ay (z:=7) h hx (cells:=Pod.c) rfl;have hw:=ak hi hok.1.lt;have h0:((i:Int)<c.pods.l.length):=by omega
   simp only [lK,gm] at hb;have hn0:fQ v1≠some 0:=fun e=>by have:=(hB1.blk e).1; omega
   have hnL:fQ v1≠some bs1.length:=fun e=>by have:=(hB1.blk e).2; omega
   have hA:=hB1.lay [.cells (x.c.map .d)];have hKa:=ax (ys:=[.cells (x.c.map .d)]) hK1;have hLa:af (bs1++[.cells (x.c.map .d)]) bs1.length=some (x.c.map .d):=by simp
   obtain ⟨b2,bs2,k2,c1,B2,g2,m2,e2⟩:=BF (E:=E) (xs:=[x.uid]) (by simpa using qN hwf.1) (by simp) (by simp) hA (by simp) (by omega) (some 1);have hK2:=e2.get hn0 hKa;have hL2:=e2.get hnL hLa;have n20:fQ (V.row b2 0 (acc1++[x.uid].flatMap aP).length none 1)≠some 0:=fun e=>by simp only [fQ,bd] at e; simp at g2; omega
   have n2L:fQ (V.row b2 0 (acc1++[x.uid].flatMap aP).length none 1)≠some bs1.length:=fun e=>by simp only [fQ,bd] at e; simp at g2; omega
   have hne1:bE x.ns≠[]:=by simp [bE,cK]
   have hne2:bE x.sa≠[]:=by simp [bE,cK]
   have t1:=fun h=>Cy (E:=E) x.ns (by omega) h;have t2:=fun h=>Cy (E:=E) x.sa (by omega) h;have hl2:bs1.length<bs2.length:=by have:=e2.1; simp at this; omega
   obtain ⟨bs3,F3,r1,B3,e3,l3,_⟩:=B2.app m2 hne1 (by simp only [gm]; omega) (src:=.d (bytesD (bE x.ns))) (fun lo=>jK _ _);have hK3:=e3.get n20 hK2;have hL3:=e3.get n2L hL2;have B3':=B3.le m2;obtain ⟨bs4,F4,s1,B4,e4,l4,_⟩:=B3'.app (by omega) hne2 (by simp only [gm]; omega) (src:=.d (bytesD (bE x.sa))) (fun lo=>jK _ _);have hK4:=e4.get (fun e=>by simp only [fQ,bd] at e; omega) hK3;have hL4:=e4.get (fun e=>by simp only [fQ,bd] at e; omega) hL3;have B4':=B4.le (show 1<=bs3.length by omega);obtain ⟨b5,bs5,k5,d1,B5,g5,m5,e5⟩:=BF (E:=E) (xs:=[wrap .u64 x.host,wrap .u64 x.addr,wrap .u64 x.port,x.service]) (by
    intro y hy;simp only [List.mem_cons,List.not_mem_nil,or_false] at hy;rcases hy with rfl | rfl | rfl | rfl
    · exact jF
    · exact jF
    · exact jF
    · exact qN hwf.2.2.2.2.2.2) (by simp) (by simp) B4' (by omega) (by simp only [gm]; omega) (some 4)
   have hK5:=e5.get (fun e=>by simp only [fQ,bd] at e; omega) hK4;have eT:acc1++[x.uid].flatMap aP++bE x.ns++bE x.sa++[wrap .u64 x.host,wrap .u64 x.addr,wrap .u64 x.port,x.service].flatMap aP=acc1++lK x:=by simp [lK]
   rw [eT] at B5 d1;refine ⟨bs5,min (F4 (F3 (min (min lo bs1.length) k2))) k5,_,fun W=>?_,hK5,m5,B5,fun _=>Nat.zero_le _⟩;have hnu:=hB1.nu;have hok1:=hB1.ok;have hq0:=c1 (min lo bs1.length);have hq1:=r1 (min (min lo bs1.length) k2);have hq2:=s1 (F3 (min (min lo bs1.length) k2));have hq3:=d1 (F4 (F3 (min (min lo bs1.length) k2)));simp at hq0 hq1 hq2 hq3;simp [wP,hK1,hKa,h0,hsx,hnu,hok1,aH,hq0,hL2,t1,hq1,hL3,t2,hq2,hL4,hq3,hw]
 · have hnu:=hB.nu;simp [wP,hK1,hnu]
theorem B99 (c:Cfg)(hc:c.wf big)(bs:List Blk)(lo:Nat)(v:V)(acc:List Int)(hK:af bs 0=some (c.c.map .d))(hm:1<=bs.length)(hB:Bv 1 bs v acc)(hb:acc.length+(c.services.l.flatMap lS).length<=big) :
 ∃ bs' lo' v',Cd E TX aM (.loop [1,3,6] wQ) [(1,.ptr 0 0),(3,v),(6,.d (i64 ((0:Nat):Int)))] ⟨bs,lo⟩ =
  some (.exit 2,[(1,.ptr 0 0),(3,v')],⟨bs',lo'⟩)/\af bs' 0=some (c.c.map .d)/\1<=bs'.length/\Bv 1 bs' v' (acc++c.services.l.flatMap lS)/\(0<=lo->0<=lo'):=by
 have hok:=hc.ok (bp _);refine dY (E:=E) (keep:=[1,3,6]) (body:=wQ) c.services.l lS (fun i v=>[(1,.ptr 0 0),(3,v),(6,.d (i64 i))]) (fun v=>(.exit 2,[(1,.ptr 0 0),(3,v)])) 1
  (fun bs' v'=>af bs' 0=some (c.c.map .d)) (fun i x hx hi bs1 lo v1 acc1 hK1 hm1 hB1 hb=>?_) (fun bs lo v acc hK1 hB W=>?_) bs lo v acc hK hm hB hb
 · have hwf:=hc.2.2.2.2.2.1.2 x (ca hx);have hsx:=fun h=>ay (z:=5) h hx (cells:=Svc.c) rfl;have hw:=ak hi hok.2.1.lt;have h0:((i:Int)<c.services.l.length):=by omega
   simp only [lS,gm] at hb;have hn0:fQ v1≠some 0:=fun e=>by have:=(hB1.blk e).1; omega
   have hnL:fQ v1≠some bs1.length:=fun e=>by have:=(hB1.blk e).2; omega
   have hA:=hB1.lay [.cells (x.c.map .d)];have hKa:=ax (ys:=[.cells (x.c.map .d)]) hK1;have hLa:af (bs1++[.cells (x.c.map .d)]) bs1.length=some (x.c.map .d):=by simp
   obtain ⟨b2,bs2,k2,c1,B2,g2,m2,e2⟩:=BF (E:=E) (xs:=[x.id]) (by simpa using qN hwf.1) (by simp) (by simp) hA (by simp) (by omega) (some 1);have hK2:=e2.get hn0 hKa;have hL2:=e2.get hnL hLa;have n20:fQ (V.row b2 0 (acc1++[x.id].flatMap aP).length none 1)≠some 0:=fun e=>by simp only [fQ,bd] at e; simp at g2; omega
   have n2L:fQ (V.row b2 0 (acc1++[x.id].flatMap aP).length none 1)≠some bs1.length:=fun e=>by simp only [fQ,bd] at e; simp at g2; omega
   have hne1:bE x.ns≠[]:=by simp [bE,cK]
   have t1:=fun h=>Cy (E:=E) x.ns (by omega) h;have hl2:bs1.length<bs2.length:=by have:=e2.1; simp at this; omega
   obtain ⟨bs3,F3,r1,B3,e3,l3,_⟩:=B2.app m2 hne1 (by simp only [gm]; omega) (src:=.d (bytesD (bE x.ns))) (fun lo=>jK _ _);have hK3:=e3.get n20 hK2;have hL3:=e3.get n2L hL2;have B3':=B3.le m2;obtain ⟨b5,bs5,k5,d1,B5,g5,m5,e5⟩:=BF (E:=E) (xs:=[wrap .u64 x.addr,wrap .u64 x.port,x.way]) (by
    intro y hy;simp only [List.mem_cons,List.not_mem_nil,or_false] at hy;rcases hy with rfl | rfl | rfl
    · exact jF
    · exact jF
    · exact qN hwf.2.2.2.2) (by simp) (by simp) B3' (by omega) (by simp only [gm]; omega) (some 3)
   have hK5:=e5.get (fun e=>by simp only [fQ,bd] at e; omega) hK3;have eT:acc1++[x.id].flatMap aP++bE x.ns++[wrap .u64 x.addr,wrap .u64 x.port,x.way].flatMap aP=acc1++lS x:=by simp [lS]
   rw [eT] at B5 d1;refine ⟨bs5,min (F3 (min (min lo bs1.length) k2)) k5,_,fun W=>?_,hK5,m5,B5,fun _=>Nat.zero_le _⟩;have hnu:=hB1.nu;have hok1:=hB1.ok;have hq0:=c1 (min lo bs1.length);have hq1:=r1 (min (min lo bs1.length) k2);have hq3:=d1 (F3 (min (min lo bs1.length) k2));simp at hq0 hq1 hq3;simp [wQ,hK1,hKa,h0,hsx,hnu,hok1,aH,hq0,hL2,t1,hq1,hL3,hq3,hw]
 · have hnu:=hB.nu;simp [wQ,hK1,hnu]
theorem C99 (c:Cfg)(hc:c.wf big)(bs:List Blk)(lo:Nat)(v:V)(acc:List Int)(hK:af bs 0=some (c.c.map .d))(hm:1<=bs.length)(hB:Bv 1 bs v acc)(hb:acc.length+(c.bound.l.flatMap qB).length<=big) :
 ∃ bs' lo' v',Cd E TX aM (.loop [1,3,8] wR) [(1,.ptr 0 0),(3,v),(8,.d (i64 ((0:Nat):Int)))] ⟨bs,lo⟩ =
  some (.exit 4,[(1,.ptr 0 0),(3,v')],⟨bs',lo'⟩)/\af bs' 0=some (c.c.map .d)/\1<=bs'.length/\Bv 1 bs' v' (acc++c.bound.l.flatMap qB)/\(0<=lo->0<=lo'):=by
 have hok:=hc.ok (bp _);refine dY (E:=E) (keep:=[1,3,8]) (body:=wR) c.bound.l qB (fun i v=>[(1,.ptr 0 0),(3,v),(8,.d (i64 i))]) (fun v=>(.exit 4,[(1,.ptr 0 0),(3,v)])) 1
  (fun bs' v'=>af bs' 0=some (c.c.map .d)) (fun i x hx hi bs1 lo v1 acc1 hK1 hm1 hB1 hb=>?_) (fun bs lo v acc hK1 hB W=>?_) bs lo v acc hK hm hB hb
 · have hwf:=hc.2.2.2.2.2.2.1.2 x (ca hx);have hsx:=fun h=>ay (z:=2) h hx (cells:=Way.c) rfl;have hw:=ak hi hok.2.2.1.lt;have h0:((i:Int)<c.bound.l.length):=by omega
   have hn0:fQ v1≠some 0:=fun e=>by have:=(hB1.blk e).1; omega
   obtain ⟨b2,bs2,t1,F1,o1,i1,B2,g2,e2,_⟩:=(Rq (E:=E) (m:=1) (bs:=bs1++[.cells [.d (u64 x.id),.d (u64 (wrap .u64 x.node))]]) (xs:=[x.id,wrap .u64 x.node]) (by
    intro y hy;simp only [List.mem_cons,List.not_mem_nil,or_false] at hy;rcases hy with rfl | rfl
    · exact qN hwf.1
    · exact jF) (by simp) (by simp) (hB1.lay _) (by simp) (q:=bs1.length) (cap:=some 2) (by simp) (fun e=>by have:=(hB1.blk e).2; omega) hb).open (by simp)
   have hK2:=e2.get hn0 (ax (ys:=[.cells [.d (u64 x.id),.d (u64 (wrap .u64 x.node))]]) hK1);have hl2:=e2.1;refine ⟨bs2,F1 lo,_,fun W=>?_,hK2,by simp at hl2; omega,B2.le (by simp),fun _=>Nat.zero_le _⟩;have hnu:=hB1.nu;have hok1:=hB1.ok;simp [wR,hK1,h0,hsx,hnu,hok1,ai,av,aH,o1];rw [if_pos (lv 1 [true,true,true,true,true,true,true,true,true,true,true,true,true,true,false,false,true] (by decide) ?_)]
   · simp [hw,qB]
   · repeat' first
      | exact trivial
      | refine Cl1.t (by simp) ?_
      | refine Cl1.m ?_ ?_ ?_
      | refine ⟨i1,?_⟩
      | fail
     all_goals first
      | omega
      | (simp; try omega)
 · have hnu:=hB.nu;simp [wR,hK1,hnu]
theorem yE:∀ n,n<128->aP (n:Nat)=[wrap .u8 (n:Nat)]:=by decide +kernel
theorem kv {α:Type}{f g:α->List Int}:∀ {l:List α},(∀ x∈l,f x=g x)->l.flatMap f=l.flatMap g
 | [],_=>rfl
 | x::l,h=>by rw [List.flatMap_cons,List.flatMap_cons,h x (by simp),kv (l:=l) fun y hy=>h y (List.mem_cons_of_mem _ hy)]
theorem DJ {s:Source}(h:bX s=true):jv s=fU s:=by
 simp only [bX,jV,aq,br] at h;have:=yE s.nets.l.length (by omega);simp [jv,fU,iR,seqB,this]
theorem D5 {t:Target}(h:aR t=true):jy t=fV t:=by
 simp only [aR,aq,br] at h;have:=yE t.ports.l.length (by omega);simp [jy,fV,iR,seqB,this]
theorem JZ (w:When):pI w=kV w:=by simp [pI,kV,iR]
theorem Jy {r:Rule}(h:eu r=true):pz r=kJ r:=by
 simp only [eu,aq,br,ch] at h;obtain ⟨⟨⟨h1,h2⟩,h3,h4⟩,h5,h6⟩:=h;have a1:=yE r.frm.l.length (by omega);have a2:=yE r.to.l.length (by omega);have a3:=yE r.whn.l.length (by omega);rw [pz,kJ,seqB,seqB,seqB,a1,a2,a3,kv fun x hx=>DJ (h2 x hx),kv fun x hx=>D5 (h4 x hx),kv fun x _=>JZ x];rfl
theorem K5 {p:Pol}(h:ed p=true):zn p=lm p:=by
 simp only [ed,aq,Bool.or_eq_true,br,ch,beq_iff_eq] at h;obtain ⟨⟨_,hd⟩,h1,h2⟩:=h;have a1:=yE p.rules.l.length (by omega);have a2:aP (wrap .u64 p.deny)=[wrap .u8 p.deny]:=by
  rcases hd with hd | hd<;>rw [hd]<;>decide +kernel
 rw [zn,lm,seqB,a1,kv fun x hx=>Jy (h2 x hx)];simp [a2]
def zo (c:Cfg):Prop:=∀ p∈c.policies.l,ed p=true
theorem D99 (c:Cfg)(hc:c.wf big)(hpm:zo c)(bs:List Blk)(lo:Nat)(v:V)(acc:List Int)(hK:af bs 0=some (c.c.map .d))(hm:1<=bs.length)(hB:Bv 1 bs v acc)(hb:acc.length+(c.policies.l.flatMap fT).length<=big) :
 ∃ bs' lo' v',Cd E TX aM (.loop [1,3,9] wS) [(1,.ptr 0 0),(3,v),(9,.d (i64 ((0:Nat):Int)))] ⟨bs,lo⟩ =
  some (.exit 6,[(3,v')],⟨bs',lo'⟩)/\af bs' 0=some (c.c.map .d)/\1<=bs'.length/\Bv 1 bs' v' (acc++c.policies.l.flatMap fT)/\(0<=lo->0<=lo'):=by
 have hok:=hc.ok (bp _);refine dY (E:=E) (keep:=[1,3,9]) (body:=wS) c.policies.l fT (fun i v=>[(1,.ptr 0 0),(3,v),(9,.d (i64 i))]) (fun v=>(.exit 6,[(3,v)])) 1
  (fun bs' v'=>af bs' 0=some (c.c.map .d)) (fun i x hx hi bs1 lo v1 acc1 hK1 hm1 hB1 hb=>?_) (fun bs lo v acc hK1 hB W=>?_) bs lo v acc hK hm hB hb
 · have hmem:=ca hx;have hwf:=hc.2.2.2.2.2.2.2.2 x hmem;have hsx:=fun h=>ay (z:=5) h hx (cells:=Pol.c) rfl;have hw:=ak hi hok.2.2.2.1.lt;have h0:((i:Int)<c.policies.l.length):=by omega
   have hpx:=K5 (hpm x hmem);have hple:=uS (hpm x hmem);have hbig:big=2 ^ 30:=rfl;have p1:=fun h=>Yq (E:=E) x hwf (by rw [hpx]; omega) h;rw [hpx] at p1;have t1:=fun h=>Cy (E:=E) (strOf (lm x)) (by have:fT x=bE (strOf (lm x)):=rfl; rw [← this]; omega) h;have hne:fT x≠[]:=by simp [fT,bE,cK]
   obtain ⟨bs2,F1,r1,B2,e2,l2,_⟩:=hB1.app hm1 hne hb (src:=.d (bytesD (fT x))) (fun lo=>jK _ _);have hK2:=e2.get (fun e=>by have:=(hB1.blk e).1; omega) hK1;refine ⟨bs2,F1 lo,_,fun W=>?_,hK2,by omega,B2.le hm1,fun _=>Nat.zero_le _⟩;have hnu:=hB1.nu;have hq:=r1 lo;have ht:bytesD (bE (strOf (lm x)))=bytesD (fT x):=rfl;simp at hq;simp [wS,hK1,h0,hsx,hnu,p1,AJ,t1,ht,hq,hw]
 · have hnu:=hB.nu;simp [wS,hK1,hnu]
theorem x99:TX 30=some q99:=by kernel_rfl
theorem w99:aM 30=true:=by kernel_rfl
theorem S99 (c:Cfg)(hc:c.wf big)(hpm:zo c)(hlen:(bz c).length<=big)(h:Hp):Sm E TX aM 30 [c.v] h=some (.d (bytesD (bz c)),h):=by
 have hok:=hc.ok (bp _);have hE:bz c=[c.epoch,c.next,wrap .u64 c.hosts,wrap .u64 c.ways,(c.pods.l.length:Int)].flatMap aP++(c.pods.l.flatMap lK++([(c.services.l.length:Int)].flatMap aP++(c.services.l.flatMap lS++([(c.bound.l.length:Int)].flatMap aP++(c.bound.l.flatMap qB++([(c.policies.l.length:Int)].flatMap aP++c.policies.l.flatMap fT)))))):=rfl;rw [hE] at hlen;simp only [gm] at hlen;have hw1:wrap .u64 (c.pods.l.length:Int)=c.pods.l.length:=wrapN hok.1.1;have hw2:wrap .u64 (c.services.l.length:Int)=c.services.l.length:=wrapN hok.2.1.1;have hw3:wrap .u64 (c.bound.l.length:Int)=c.bound.l.length:=wrapN hok.2.2.1.1;have hw4:wrap .u64 (c.policies.l.length:Int)=c.policies.l.length:=wrapN hok.2.2.2.1.1;have hK0:af [Blk.cells (c.c.map .d)] 0=some (c.c.map .d):=by simp
 obtain ⟨b1,bs1,k1,c1,B1,g1,m1,e1⟩:=BF (E:=E) (xs:=[c.epoch,c.next,wrap .u64 c.hosts,wrap .u64 c.ways,(c.pods.l.length:Int)]) (by
  intro y hy;simp only [List.mem_cons,List.not_mem_nil,or_false] at hy;rcases hy with rfl | rfl | rfl | rfl | rfl
  · exact qN hc.1
  · exact qN hc.2.1
  · exact jF
  · exact jF
  · exact KN hok.1.1) (by simp) (by simp) (bs:=[Blk.cells (c.c.map .d)]) (v:=.d (.slice true [])) (acc:=[]) (.inl ⟨rfl,rfl⟩) (by simp) (by simp only [cg]; omega) (some 5)
 have hK1:=e1.get (by simp [fQ]) hK0;obtain ⟨bs2,lo2,v2,d2,hK2,m2,B2,_⟩:=A99 (E:=E) c hc bs1 (min 0 k1) _ _ hK1 m1 B1 (by simp only [gm,cg]; omega);obtain ⟨b3,bs3,k3,c3,B3,g3,m3,e3⟩:=BF (E:=E) (xs:=[(c.services.l.length:Int)]) (by simpa using KN hok.2.1.1) (by simp) (by simp) B2 m2 (by simp only [gm,cg]; omega) (some 1);have hK3:=e3.get (fun e=>by have:=(B2.blk e).1; omega) hK2;obtain ⟨bs4,lo4,v4,d4,hK4,m4,B4,_⟩:=B99 (E:=E) c hc bs3 (min lo2 k3) _ _ hK3 m3 B3 (by simp only [gm,cg]; omega);obtain ⟨b5,bs5,k5,c5,B5,g5,m5,e5⟩:=BF (E:=E) (xs:=[(c.bound.l.length:Int)]) (by simpa using KN hok.2.2.1.1) (by simp) (by simp) B4 m4 (by simp only [gm,cg]; omega) (some 1);have hK5:=e5.get (fun e=>by have:=(B4.blk e).1; omega) hK4;obtain ⟨bs6,lo6,v6,d6,hK6,m6,B6,_⟩:=C99 (E:=E) c hc bs5 (min lo4 k5) _ _ hK5 m5 B5 (by simp only [gm,cg]; omega);obtain ⟨b7,bs7,k7,c7,B7,g7,m7,e7⟩:=BF (E:=E) (xs:=[(c.policies.l.length:Int)]) (by simpa using KN hok.2.2.2.1.1) (by simp) (by simp) B6 m6 (by simp only [gm,cg]; omega) (some 1);have hK7:=e7.get (fun e=>by have:=(B6.blk e).1; omega) hK6;obtain ⟨bs8,lo8,v8,d8,hK8,m8,B8,_⟩:=D99 (E:=E) c hc hpm bs7 (min lo6 k7) _ _ hK7 m7 B7 (by simp only [gm,cg]; omega)
 have eT:[]++[c.epoch,c.next,wrap .u64 c.hosts,wrap .u64 c.ways,(c.pods.l.length:Int)].flatMap aP++c.pods.l.flatMap lK++[(c.services.l.length:Int)].flatMap aP++c.services.l.flatMap lS++[(c.bound.l.length:Int)].flatMap aP++c.bound.l.flatMap qB++[(c.policies.l.length:Int)].flatMap aP++c.policies.l.flatMap fT=bz c:=by rw [hE]; simp only [List.nil_append,List.append_assoc]
 rw [eT] at B8;have hne8:bz c≠[]:=by rw [hE]; simp [cK]
 have hdat:=fun lo=>B8.dat hne8 lo 7;have hnu8:=B8.nu;have n2:=B2.nu;have n4:=B4.nu;have n6:=B6.nu;have o2:=B2.ok;have o4:=B4.ok;have o6:=B6.ok;have hq1:=c1 0;have hq3:=c3 lo2;have hq5:=c5 lo4;have hq7:=c7 lo6;rw [aV x99 w99];simp at hq1 hq3 hq5 hq7 d2 d4 d6 d8;simp [ae,q99,hw1,aH,hq1];rw [au];simp [d2,n2,o2,hK2,hw2,aH,hq3];rw [au];simp [d4,n4,o4,hK4,hw3,aH,hq5];rw [au];simp [d6,n6,o6,hK6,hw4,aH,hq7];rw [au];simp [d8,hnu8];rcases B8 with ⟨h1,_⟩ | ⟨_,b',_,rfl,_⟩
 · exact absurd h1 hne8
 · simp [hdat]
theorem x95:TX 26=some q95:=by kernel_rfl
theorem w95:aM 26=true:=by kernel_rfl
theorem S95 (c:Cfg)(hc:c.wf 1048576)(hcb:c.wf big)(hE:FindX E c)(h:Hp):Sm E TX aM 26 [c.v] h=some (bl (df c),h):=by
 have n1:=fun h=>S97 (E:=E) c h;have n2:=fun h=>S98 c hc hcb hE h;rw [aV x95 w95,df];cases h1:bT c with
 | false=>simp [ae,q95,n1,h1]
 | true =>
  cases h2:gP c with
  | false=>simp [ae,q95,n1,h1,n2,h2]
  | true =>
   have hle:=nW h1 h2;have hbig:big=2 ^ 30:=rfl;have hpm:zo c:=fK (by simp only [gP,aq] at h2; exact h2.2);have n3:=fun h=>S99 (E:=E) c hcb hpm (by omega) h;simp [ae,q95,n1,h1,n2,h2,n3,bytesD]
end
