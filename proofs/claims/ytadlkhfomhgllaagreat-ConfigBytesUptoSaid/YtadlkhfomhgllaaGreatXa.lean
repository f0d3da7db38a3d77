/- Loops that look at one thing after the other; names, terms, as the document has them. -/
import Derived.Test.YtadlkhfomhgllaaGreatWo
set_option maxRecDepth 100000
set_option linter.unusedVariables false
set_option linter.unusedSimpArgs false
namespace Go.Proofs.YtadlkhfomhgllaaGreat
open IntKind (wrap)
section
section
variable {E:Calls'}{T:FuncId->Option QF}{val:FuncId->Bool}
def gm {α:Type}(q:Nat->α->Bool):Nat->List α->Bool
 | _,[]=>true
 | i,x::l=>q i x&&gm q (i+1) l
theorem Aw {α:Type}(q:α->Bool):∀ (l:List α) (i:Nat),gm (λ_ x=>q x) i l=l.all q
 | [],_=>rfl
 | x::l,i=>by simp [gm,Aw q l]
theorem tL {keep:List Nat}{body:QC}{α:Type}(l:List α)(q:Nat->α->Bool)(env:Nat->EA)(h:Hp)(R X:Ex×EA×Hp)
 (hr:∀ i x,l[i]?=some x->i<l.length->∀ W:EA->Hp->dx,bH keep W (Cd E T val body (bq keep (env i)) h)=cond (q i x) (W (env (i+1)) h) (some R))
 (he:∀ W:EA->Hp->dx,bH keep W (Cd E T val body (bq keep (env l.length)) h)=some X) :
 Cd E T val (.loop keep body) (env 0) h=some (cond (gm q 0 l) X R):=by
 have:∀ (m i:Nat),i+m=l.length->Cd E T val (.loop keep body) (env i) h=some (cond (gm q i (l.drop i)) X R):=by
  intro m;have key:=aB (E:=E) (T:=T) (val:=val) keep body;generalize Cd E T val (.loop keep body)=W at key ⊢
  induction m with
  | zero =>
   intro i hi;rw [key,show i=l.length by omega,he W,List.drop_length];rfl
  | succ m ih =>
   intro i hi;have hlt:i<l.length:=by omega
   rw [key,hr i _ (ab hlt) hlt W,ih (i+1) (by omega),aq hlt,gm];cases q i l[i]<;>simp
 simpa using this l.length 0 (by omega)
theorem dz {keep:List Nat}{body:QC}{α:Type}(l:List α)(q:α->Bool)(env:Nat->EA)(h:Hp)(R X:Ex×EA×Hp)
 (hr:∀ i x,l[i]?=some x->i<l.length->∀ W:EA->Hp->dx,bH keep W (Cd E T val body (bq keep (env i)) h)=cond (q x) (W (env (i+1)) h) (some R))
 (he:∀ W:EA->Hp->dx,bH keep W (Cd E T val body (bq keep (env l.length)) h)=some X) :
 Cd E T val (.loop keep body) (env 0) h=some (cond (l.all q) X R):=by
 rw [tL l (λ_=>q) env h R X hr he,Aw]
end
def bm3:List (Nat×QF):=[(24,q35),(12,q38),(75,q89),(8,q95),(26,q97),(27,q98),(10,q99),(81,Rt),(82,Ru),(83,Rv),(84,Rw),(85,Rx),(30,Ry),(31,Rz),(32,RA),(110,qA),(137,RU),(138,RX),(140,Du),(91,RY),(92,RZ),(93,R3),(175,GL),(226,GM),(227,Dv),(228,JW),(229,Sq),(266,JY),(267,zS),(313,SF)]
def TX:FuncId->Option QF:=lu bm3
def aP (f:FuncId):Bool:=[24,12,75,8,26,27,10,81,82,83,84,85,31,32,110,137,138,140,93,175,226,227,228,229,266,267,313].any λn=>Nat.beq n f
variable {E:Calls'}
def ol (b:UInt8):Bool:=!((!((b.toNat:Int)==45))&&(decide ((b.toNat:Int)<48)||decide ((b.toNat:Int)>57))&&(decide ((b.toNat:Int)<97)||decide ((b.toNat:Int)>122)))
theorem ab7 (s:ByteArray)(hs:s.size<2 ^ 62):Cd E TX aP (.loop [0,3] sG) [(0,.d (.str s)),(3,.d (i64 ((0:Nat):Int)))] ⟨[],0⟩=some (cond (s.toList.all ol) (.exit 0,[],⟨[],0⟩) (.ret,[(2,bl false)],⟨[],0⟩)):=by
 have hsl:=eX s;refine dz s.toList ol (λi=>[(0,.d (.str s)),(3,.d (i64 i))]) _ _ _ (λi b hb hi W=>?_) (λW=>?_)
 . have hx:=λh=>iB (h:=h) hb;have hw:=ax (show i<s.size by omega) hs;have h0:((i:Int)<s.size):=by omega
   by_cases c1:(b.toNat:Int)=45
   . simp [sG,hx,h0,hw,ol,c1]
   . by_cases c2:(b.toNat:Int)<48<;>by_cases c3:(b.toNat:Int)>57<;>by_cases c4:(b.toNat:Int)<97<;>by_cases c5:(b.toNat:Int)>122<;>first
      | (exfalso; omega)
      | simp [sG,hx,h0,hw,ol,c1,c2,c3,c4,c5]
 . simp [sG,hsl]
theorem yJ (n:Nat):∀ (l:List UInt8) (i:Nat),i+l.length=n->kM n i l=(!(l.all ol)||(i==0&&l.head?==some 45)||l.getLast?==some 45)
 | [],i,_=>by simp [kM]
 | b::l,i,h=>by
  have h45:(b==45)=((b.toNat:Int)==45):=by
   rw [Bool.eq_iff_iff];simp only [beq_iff_eq];constructor
   . rintro rfl; rfl
   . intro h; exact UInt8.toNat_inj.1 (show b.toNat=45 by omega)
  rw [kM,yJ n l (i+1) (by simp at h ⊢; omega)];simp only [cj] at h;cases l with
  | nil =>
   have e1:((i:Int)+1==n)=true:=by simp at h ⊢; omega
   simp only [xZ,e1,ol,List.all_cons,List.all_nil,List.head?_cons,List.head?_nil,List.getLast?_singleton,List.getLast?_nil,Option.some_beq_some,h45];by_cases c1:(b.toNat:Int)=45
   . simp [c1]
   . by_cases c2:(b.toNat:Int)<48<;>by_cases c3:(b.toNat:Int)>57<;>by_cases c4:(b.toNat:Int)<97<;>by_cases c5:(b.toNat:Int)>122<;>first
      | (exfalso; omega)
      | (simp [c1,c2,c3,c4,c5]; try omega)
  | cons b' l' =>
   have e1:((i:Int)+1==n)=false:=by simp at h ⊢; omega
   have e2:(i+1==0)=false:=by simp
   have e3:((i:Int)==0)=(i==0):=by
    rw [Bool.eq_iff_iff]; simp
   rw [List.getLast?_cons_cons];simp only [xZ,e1,e2,e3,ol,List.all_cons,List.head?_cons,Option.some_beq_some,h45];generalize (l'.all ol)=A;generalize ((b'::l').getLast?==some 45)=B;generalize (i==0)=I;by_cases c1:(b.toNat:Int)=45
   . cases I<;>simp [c1]
   . by_cases c2:(b.toNat:Int)<48<;>by_cases c3:(b.toNat:Int)>57<;>by_cases c4:(b.toNat:Int)<97<;>by_cases c5:(b.toNat:Int)>122<;>first
      | (exfalso; omega)
      | (simp [c1,c2,c3,c4,c5]; try omega)
theorem ch4:TX 140=some Du:=by kernel_rfl
theorem cd5:aP 140=true:=by kernel_rfl
theorem Bq (s:ByteArray):aZ s=(decide ((s.size:Int)>=1)&&decide ((s.size:Int)<=20)&&!(s.toList.head?==some 45)&&!(s.toList.getLast?==some 45)&&s.toList.all ol):=by
 rw [aZ,yJ s.size s.toList 0 (by simp [eX])];generalize s.toList.all ol=A;generalize (s.toList.head?==some 45)=B;generalize (s.toList.getLast?==some 45)=C;generalize decide ((s.size:Int)>=1)=F;generalize decide ((s.size:Int)<=20)=G;cases A<;>cases B<;>cases C<;>cases F<;>cases G<;>rfl
theorem OE (b:UInt8):(some b==some 45)=((b.toNat:Int)==45):=by
 rw [Option.some_beq_some,Bool.eq_iff_iff];simp only [beq_iff_eq];constructor
 . rintro rfl; rfl
 . intro h; exact UInt8.toNat_inj.1 (show b.toNat=45 by omega)
theorem Li (s:ByteArray)(hs:s.size<=big)(h:Hp):Sm E TX aP 140 [.d (.str s)] h=some (bl (aZ s),h):=by
 rw [aY ch4 cd5,Bq];have hs2:s.size<2 ^ 62:=cg hs (by decide);have k1:=ab7 (E:=E) s hs2;have hsl:=eX s;by_cases c1:(s.size:Int)<1
 . simp [ae,Du,c1,show ¬ ((s.size:Int)>=1) from by omega]
 by_cases c2:(s.size:Int)>20
 . simp [ae,Du,c1,c2,show ¬ ((s.size:Int)<=20) from by omega]
 have h0:s.toList≠[]:=by intro h; rw [h] at hsl; simp at hsl; omega
 obtain ⟨b0,hb0⟩:∃ b,s.toList.head?=some b:=by
  cases hc:s.toList with
  | nil=>exact absurd hc h0
  | cons b l=>exact ⟨b,rfl⟩
 obtain ⟨b1,hb1⟩:∃ b,s.toList.getLast?=some b:=⟨_,List.getLast?_eq_some_getLast h0⟩;have hx0:∀ h,uJ (.d (.str s)) (.d (i64 0)) h=some (.d (.int .u8 b0.toNat),h):=λh=>iB (k:=0) (by rw [← List.head?_eq_getElem?]; exact hb0);have hx1:∀ h,uJ (.d (.str s)) (.d (i64 ((s.size:Int)-1))) h=some (.d (.int .u8 b1.toNat),h):=λh=>by
  have:=iB (k:=s.size-1) (h:=h) (by rw [← hsl,← List.getLast?_eq_getElem?]; exact hb1)
  rwa [show ((s.size-1:Nat):Int)=(s.size:Int)-1 by omega] at this
 have hw:wrap .i64 ((s.size:Int)-1)=(s.size:Int)-1:=by rw [wrap64]<;>omega
 rw [hb0,hb1,OE,OE];by_cases c3:(b0.toNat:Int)=45
 . simp [ae,Du,c1,c2,c3,hx0]
 by_cases c4:(b1.toNat:Int)=45
 . simp [ae,Du,c1,c2,c3,c4,hx0,hx1,hw]
 simp at k1;simp [ae,Du,c1,c2,c3,c4,hx0,hx1,hw];rw [ai];simp [k1];cases s.toList.all ol<;>simp [show ((s.size:Int)>=1) from by omega,show ((s.size:Int)<=20) from by omega]
theorem ch2:TX 137=some RU:=by kernel_rfl
theorem cd3:aP 137=true:=by kernel_rfl
theorem ak1 (a b:ByteArray)(ha:a.size<=big)(hb:b.size<=big)(h:Hp):Sm E TX aP 137 [ag [.str a,.str b]] h=some (bl (aZ a&&aZ b),h):=by
 rw [aY ch2 cd3];have h1:=Li (E:=E) a ha;have h2:=Li (E:=E) b hb;cases hl:aZ a<;>simp [ae,RU,h1,h2,hl,au]
theorem xG:∀ l:List UInt8,jX l=!(l.all λb=>!pV b)
 | []=>rfl
 | b::l=>by
  rw [jX,xG l,List.all_cons];cases pV b<;>simp
theorem ac6 (t:Term)(ht:t.text.size<2 ^ 62):Cd E TX aP (.loop [1,3] ng) [(1,.ptr 0 0),(3,.d (i64 ((0:Nat):Int)))] ⟨[.cells (t.c.map .d)],0⟩=some (cond (t.text.toList.all λb=>!pV b) (.exit 0,[],⟨[.cells (t.c.map .d)],0⟩) (.ret,[(2,bl false)],⟨[.cells (t.c.map .d)],0⟩)):=by
 have hsl:=eX t.text;refine dz t.text.toList (λb=>!pV b) (λi=>[(1,.ptr 0 0),(3,.d (i64 i))]) _ _ _ (λi b hb hi W=>?_) (λW=>?_)
 . have hx:=λh=>iB (h:=h) hb;have hw:=ax (show i<t.text.size by omega) ht;have h0:((i:Int)<t.text.size):=by omega
   by_cases c1:(b.toNat:Int)<33
   . simp [ng,hx,h0,pV,c1]
   by_cases c2:(b.toNat:Int)>126
   . simp [ng,hx,h0,pV,c1,c2]
   by_cases c3:(b.toNat:Int)=42
   . simp [ng,hx,h0,pV,c3]
   by_cases c4:(b.toNat:Int)=44<;>simp [ng,hx,h0,hw,pV,c1,c2,c3,c4]
 . simp [ng,hsl]
theorem ci4:TX 267=some zS:=by kernel_rfl
theorem cf9:aP 267=true:=by kernel_rfl
theorem QI (s:ByteArray):eqS s ⟨#[]⟩=((s.size:Int)==0):=by
 have hsl:=eX s;have h0:(⟨#[]⟩:ByteArray).toList=[]:=by rw [bJ]
 rw [eqS,h0,Bool.eq_iff_iff];simp only [beq_iff_eq];constructor
 . intro h; rw [h] at hsl; simp at hsl; omega
 . intro h; exact List.length_eq_zero_iff.1 (by omega)
theorem an8 (t:Term)(ht:t.text.size<=big)(h:Hp):Sm E TX aP 267 [ag t.c] h=some (bl (fO t),h):=by
 rw [aY ci4 cf9,fO,xG,QI];have k1:=ac6 (E:=E) t (cg ht (by decide));have hsl:=eX t.text;simp at k1;obtain ⟨n,hn⟩:∃ n,(t.text.size:Int)=n:=⟨_,rfl⟩;rw [hn];by_cases c0:t.kind=4
 . by_cases c1:n=0
   . have:t.text.toList=[]:=List.length_eq_zero_iff.1 (by omega);simp [ae,zS,hn,c0,c1,this]
   . simp [ae,zS,hn,c0,c1]
 by_cases c1:t.kind<1
 . simp [ae,zS,c0,c1,show ¬ (1<=t.kind) from by omega]
 by_cases c2:t.kind>3
 . simp [ae,zS,c0,c1,c2,show ¬ (t.kind<=3) from by omega]
 by_cases c3:n=0
 . simp [ae,zS,hn,c0,c1,c2,c3]
 by_cases c4:n>64
 . simp [ae,zS,hn,c0,c1,c2,c3,c4,show ¬ (n<=64) from by omega]
 simp [ae,zS,hn,c0,c1,c2,c3,c4];rw [ai];simp [k1];cases (t.text.toList.all λb=>!pV b)<;>simp [show (1<=t.kind) from by omega,show t.kind<=3 from by omega,show (n>=1) from by omega,show (n<=64) from by omega]
theorem ac3 (s:Sl Term)(hs:short s)(ht:∀ t∈s.l,t.text.size<=big):Cd E TX aP (.loop [0,3] vJ) [(0,.d (s.d Term.c)),(3,.d (i64 ((0:Nat):Int)))] ⟨[],0⟩=some (cond (s.l.all fO) (.exit 0,[(0,.d (s.d Term.c))],⟨[],0⟩) (.ret,[(2,bl false)],⟨[],0⟩)):=by
 refine dz s.l fO (λi=>[(0,.d (s.d Term.c)),(3,.d (i64 i))]) _ _ _ (λi t hb hi W=>?_) (λW=>?_)
 . have hx:=λh=>aA (z:=2) h hb (cells:=Term.c) rfl;have hw:=ax hi hs.lt;have h0:((i:Int)<s.l.length):=by omega
   have hc:=λh=>an8 (E:=E) t (ht t (ce hb)) h;cases hm:fO t<;>simp [vJ,hx,h0,hw,hc,hm]
 . simp [vJ]
theorem ci2:TX 229=some Sq:=by kernel_rfl
theorem cf5:aP 229=true:=by kernel_rfl
theorem FJ (s:Sl Term)(hs:short s)(ht:∀ t∈s.l,t.text.size<=big)(h:Hp):Sm E TX aP 229 [.d (s.d Term.c)] h=some (bl (aU s),h):=by
 rw [aY ci2 cf5,aU];have k1:=ac3 (E:=E) s hs ht;simp at k1;simp [ae,Sq];rw [ai];simp [k1];cases s.l.all fO<;>simp
end
section
variable {E:Calls'}
def xV (a n:Nat):Bool:=a / 2 ^ (31-n) % 2==1
theorem y9 (a:Nat)(h:a<4294967296):wrap .u32 (a:Int)=a:=by simp [wrap,IntKind.bits,IntKind.signed]; omega
theorem az4 (a:Nat)(h:a<4294967296):bK .quo (.d (.int .u32 (a:Int))) (.d (.int .u32 2))=some (.int .u32 ((a / 2:Nat):Int)):=by
 have:(a:Int).tdiv 2=((a / 2:Nat):Int):=by
  rw [Int.tdiv_eq_ediv_of_nonneg (by omega)]; omega
 simp only [bK,fB,if_true];rw [if_neg (by decide),this,y9 _ (by omega)]
theorem az9 (a:Nat):bK .rem (.d (.int .u32 (a:Int))) (.d (.int .u32 2))=some (.int .u32 ((a % 2:Nat):Int)):=by
 have:(a:Int).tmod 2=((a % 2:Nat):Int):=by
  rw [Int.tmod_eq_emod_of_nonneg (by omega)]; omega
 simp only [bK,fB,if_true];rw [if_neg (by decide),this]
theorem ac7:∀ (m a:Nat),m<=31->a<4294967296->Cd E TX aP (.loop [0,5] pG) [(0,.d (u32 (a:Int))),(5,.d (i64 ((31-m:Nat):Int)))] ⟨[],0⟩=some (.exit 0,[(0,.d (u32 ((a / 2 ^ m:Nat):Int)))],⟨[],0⟩):=by
 intro m;have key:=aB (E:=E) (T:=TX) (val:=aP) [0,5] pG;generalize Cd E TX aP (.loop [0,5] pG)=W at key ⊢
 induction m with
 | zero =>
  intro a _ _;rw [key];simp [pG]
 | succ m ih =>
  intro a hm ha;have hlt:((31-(m+1):Nat):Int)<31:=by omega
  have hw:wrap .i64 (((31-(m+1):Nat):Int)+1)=((31-m:Nat):Int):=by rw [wrap64]<;>omega
  have hq:=az4 a ha;have k:=ih (a / 2) (by omega) (by omega);rw [Nat.div_div_eq_div_mul,show 2 * 2 ^ m=2 ^ (m+1) by rw [Nat.pow_succ]; omega] at k;rw [key,← k];generalize ((31-(m+1):Nat):Int)=j at *;generalize ((a / 2:Nat):Int)=a2 at *;simp [pG,hlt,hq,hw]
theorem ci5:TX 313=some SF:=by kernel_rfl
theorem cg1:aP 313=true:=by kernel_rfl
theorem ao6 (a n:Nat)(ha:a<4294967296)(hn:n<=31)(h:Hp):Sm E TX aP 313 [.d (u32 (a:Int)),.d (i64 (n:Int))] h=some (bl (xV a n),h):=by
 have k:=ac7 (E:=E) (31-n) a (by omega) ha;rw [show 31-(31-n)=n by omega] at k;have hr:=az9 (a / 2 ^ (31-n));rw [aY ci5 cg1];have he:((((a / 2 ^ (31-n) % 2:Nat):Int)==1))=xV a n:=by
  unfold xV;rw [Bool.eq_iff_iff];simp only [beq_iff_eq];omega
 generalize ((a / 2 ^ (31-n) % 2:Nat):Int)=y at *;generalize ((a / 2 ^ (31-n):Nat):Int)=z at *;simp [ae,SF];rw [ai];simp [k,hr,he]
theorem yL:∀ n,n<33->∀ i,i<32->(BitVec.ofInt 32 (rM (n:Nat))).getLsbD i=decide (32-n<=i):=by decide +kernel
theorem FT (a:Nat)(ha:a<4294967296)(n:Nat)(hn:n<=32):(qZ .u32 (a:Int) (rM (n:Nat))==0)=(List.range (32-n)).all λj=>!xV a (n+j):=by
 rw [qZ,y9 _ (BitVec.isLt _),Bool.eq_iff_iff];simp only [beq_iff_eq,cm,List.mem_range,Bool.not_eq_true'];have hb:∀ i,i<32->(BitVec.ofInt 32 (a:Int)).getLsbD i=a.testBit i:=λi hi=>by
  rw [BitVec.ofInt_natCast,BitVec.getLsbD_ofNat]; simp [hi]
 have hbit:∀ j,n+j<=31->xV a (n+j)=a.testBit (31-(n+j)):=λj hj=>by
  rw [xV,Nat.testBit_eq_decide_div_mod_eq,Bool.eq_iff_iff]; simp
 constructor
 . intro h j hj;have h0:(BitVec.ofInt 32 (a:Int) &&& ~~~ BitVec.ofInt 32 (rM (n:Nat)))=0#32:=BitVec.eq_of_toNat_eq (by
    have h':(BitVec.ofInt 32 (a:Int) &&& ~~~ BitVec.ofInt 32 (rM (n:Nat))).toNat=0:=by exact_mod_cast h
    rw [h']; rfl)
   have h1:=congrArg (λx=>BitVec.getLsbD x (31-(n+j))) h0;simp only [BitVec.getLsbD_and,BitVec.getLsbD_not,BitVec.getLsbD_zero,yL n (by omega) _ (show 31-(n+j)<32 by omega),hb _ (show 31-(n+j)<32 by omega)] at h1;rw [hbit j (by omega)];have e1:decide (31-(n+j)<32)=true:=by simp; omega
   have e2:decide (32-n<=31-(n+j))=false:=by simp; omega
   rw [e1,e2] at h1;simpa using h1
 . intro h;have:(BitVec.ofInt 32 (a:Int) &&& ~~~ BitVec.ofInt 32 (rM (n:Nat)))=0#32:=by
    apply BitVec.eq_of_getLsbD_eq;intro i hi;simp only [BitVec.getLsbD_and,BitVec.getLsbD_not,BitVec.getLsbD_zero,yL n (by omega) _ hi,hb _ hi];by_cases hin:32-n<=i
    . simp [hin]
    . have h2:=h (31-n-i) (by omega);rw [hbit _ (by omega),show 31-(n+(31-n-i))=i by omega] at h2;simp [h2]
   show ((BitVec.ofInt 32 (a:Int) &&& ~~~ BitVec.ofInt 32 (rM (n:Nat))).toNat:Int)=0;rw [this]; rfl
theorem ac5 (a n:Nat)(ha:a<4294967296)(hn:n<=32):Cd E TX aP (.loop [1,3] vK) [(1,.ptr 0 0),(3,.d (i64 ((n+0:Nat):Int)))] ⟨[.cells [.d (u32 (a:Int)),.d (i64 (n:Int))]],0⟩=some (cond ((List.range (32-n)).all λj=>!xV a (n+j)) (.exit 0,[],⟨[.cells [.d (u32 (a:Int)),.d (i64 (n:Int))]],0⟩) (.ret,[(2,bl false)],⟨[.cells [.d (u32 (a:Int)),.d (i64 (n:Int))]],0⟩)):=by
 refine dz (List.range (32-n)) (λj=>!xV a (n+j)) (λi=>[(1,.ptr 0 0),(3,.d (i64 ((n+i:Nat):Int)))]) _ _ _ (λi x hx hi W=>?_) (λW=>?_)
 . have hi':i<32-n:=by simpa using hi
   have hx':x=i:=by rw [List.getElem?_range hi'] at hx; exact (ct hx).symm
   subst hx';have hw:wrap .i64 (((n+x:Nat):Int)+1)=((n+(x+1):Nat):Int):=by rw [wrap64]<;>omega
   have h0:((n+x:Nat):Int)<32:=by omega
   have hc:=λh=>ao6 (E:=E) a (n+x) ha (by omega) h;generalize ((n+x:Nat):Int)=j at *;cases hm:xV a (n+x)<;>simp [vK,h0,hw,hc,hm]
 . have:¬ ((n+(List.range (32-n)).length:Nat):Int)<32:=by simp; omega
   generalize ((n+(List.range (32-n)).length:Nat):Int)=j at *;simp [vK,this]
theorem ci3:TX 266=some JY:=by kernel_rfl
theorem cf8:aP 266=true:=by kernel_rfl
theorem EM {n:Int}(h:Inr .u32 n):0<=n/\n<4294967296:=by
 simp [Inr,Lit.wf,IntKind.min,IntKind.max,IntKind.bits,IntKind.signed] at h;omega
theorem an7 (c:Cidr)(hc:Inr .u32 c.addr)(h:Hp):Sm E TX aP 266 [ag c.c] h=some (bl (iU c),h):=by
 obtain ⟨a0,a1⟩:=EM hc;obtain ⟨addr,bits⟩:=c;dsimp only at a0 a1;obtain ⟨a,rfl⟩:=Int.eq_ofNat_of_zero_le a0;rw [aY ci3 cf8,iU];dsimp only;by_cases c1:bits<0
 . simp [ae,JY,c1,Cidr.c,show ¬ (bits>=0) from by omega]
 by_cases c2:bits>32
 . simp [ae,JY,c1,c2,Cidr.c,show ¬ (bits<=32) from by omega]
 obtain ⟨n,rfl⟩:=Int.eq_ofNat_of_zero_le (show 0<=bits by omega);have k:=ac5 (E:=E) a n (by omega) (by omega);rw [FT a (by omega) n (by omega)];rw [Nat.add_zero] at k;simp [ae,JY,c1,c2,Cidr.c,show ((n:Int)<=32) from by omega];rw [ai];generalize ((List.range (32-n)).all λj=>!xV a (n+j))=A at *;simp [k];cases A<;>simp
def moreL:List UInt8:=[33,35,36,37,38,39,42,43,45,46,94,95,96,124,126]
def hdB (b:UInt8):Bool:=(decide ((b.toNat:Int)>=97)&&decide ((b.toNat:Int)<=122))||(decide ((b.toNat:Int)>=48)&&decide ((b.toNat:Int)<=57))
def hdA (b:UInt8):Bool:=hdB b||moreL.any λc=>(b.toNat:Int)==c.toNat
theorem Mg {k:Nat}{c:UInt8}(hk:moreL[k]?=some c)(h:Hp):uJ (.d (.str ⟨#[33,35,36,37,38,39,42,43,45,46,94,95,96,124,126]⟩)) (.d (.int .i64 k)) h=some (.d (.int .u8 c.toNat),h) :=
 iB (by rw [← hk,bJ]; rfl)
theorem ac2 (s:ByteArray)(j:Nat)(b:UInt8)(hb:s.toList[j]?=some b):∀ (m i:Nat) (g:Bool),i+m=15 →
 Cd E TX aP (.loop [0,3,4,5] pE) [(0,.d (.str s)),(3,.d (i64 j)),(4,bl g),(5,.d (i64 i))] ⟨[],0⟩=some (.exit 2,[(0,.d (.str s)),(3,.d (i64 j)),(4,bl (g||(moreL.drop i).any λc=>(b.toNat:Int)==c.toNat))],⟨[],0⟩):=by
 intro m;have key:=aB (E:=E) (T:=TX) (val:=aP) [0,3,4,5] pE;generalize Cd E TX aP (.loop [0,3,4,5] pE)=W at key ⊢;have hx:=λh=>iB (h:=h) hb
 induction m with
 | zero =>
  intro i g hi;have:i=15:=by omega
  subst this;rw [key];simp [pE,moreL]
 | succ m ih =>
  intro i g hi;have hlt:i<moreL.length:=by simp [moreL]; omega
  have h0:((i:Int)<15):=by omega
  have hw:wrap .i64 ((i:Int)+1)=((i+1:Nat):Int):=by rw [wrap64]<;>omega
  have hc:=Mg (ab hlt);rw [key,aq hlt,List.any_cons];generalize moreL[i]=c at *;have k1:=ih (i+1) (g||((b.toNat:Int)==c.toNat)) (by omega);rw [Bool.or_assoc] at k1;rw [← k1];cases g<;>simp [pE,h0,hw,hx,hc]
theorem ad4 (s:ByteArray)(hs:s.size<2 ^ 62):Cd E TX aP (.loop [0,3] vI) [(0,.d (.str s)),(3,.d (i64 ((0:Nat):Int)))] ⟨[],0⟩=some (cond (s.toList.all hdA) (.exit 0,[],⟨[],0⟩) (.ret,[(2,bl false)],⟨[],0⟩)):=by
 have hsl:=eX s;refine dz s.toList hdA (λi=>[(0,.d (.str s)),(3,.d (i64 i))]) _ _ _ (λi b hb hi W=>?_) (λW=>?_)
 . have hx:=λh=>iB (h:=h) hb;have hw:=ax (show i<s.size by omega) hs;have h0:((i:Int)<s.size):=by omega
   have k:=ac2 (E:=E) s i b hb 15 0 (hdB b) (by omega);simp only [List.drop_zero] at k;have hk:(hdB b||moreL.any λc=>(b.toNat:Int)==c.toNat)=hdA b:=rfl;rw [hk] at k;generalize hdA b=G at *;unfold hdB at k;simp only [Int.natCast_zero] at k;by_cases c1:(b.toNat:Int)>=97<;>by_cases c2:(b.toNat:Int)<=122<;>by_cases c3:(b.toNat:Int)>=48<;>by_cases c4:(b.toNat:Int)<=57<;>first
    | (exfalso; omega)
    | (simp [c1,c2,c3,c4] at k
       simp [vI,hx,h0,c1,c2,c3,c4];rw [ai];simp [k];cases G<;>simp [hw])
 . simp [vI,hsl]
theorem LX:∀ n,n<256->(Eg (UInt8.ofNat n)==0)=!hdA (UInt8.ofNat n):=by decide +kernel
theorem Ou (b:UInt8):(Eg b==0)=!hdA b:=by
 have:=LX b.toNat b.toNat_lt;simpa using this
theorem uL:∀ l:List UInt8,kz l=!(l.all hdA)
 | []=>rfl
 | b::l=>by
  rw [kz,uL l,Ou,List.all_cons];cases hdA b<;>simp
theorem ci1:TX 228=some JW:=by kernel_rfl
theorem cf4:aP 228=true:=by kernel_rfl
theorem am8 (s:ByteArray)(hs:s.size<=big)(h:Hp):Sm E TX aP 228 [.d (.str s)] h=some (bl (iY s),h):=by
 rw [aY ci1 cf4,iY,uL];have k1:=ad4 (E:=E) s (cg hs (by decide));simp at k1;by_cases c1:(s.size:Int)<1
 . simp [ae,JW,c1,show ¬ ((s.size:Int)>=1) from by omega]
 by_cases c2:(s.size:Int)>64
 . simp [ae,JW,c1,c2,show ¬ ((s.size:Int)<=64) from by omega]
 simp [ae,JW,c1,c2];rw [ai];simp [k1];cases s.toList.all hdA<;>simp [show ((s.size:Int)>=1) from by omega,show ((s.size:Int)<=64) from by omega]
end
section
variable {E:Calls'}
theorem ac0 (s:Source)(hs:s.wf big):Cd E TX aP (.loop [1,3] vG) [(1,.ptr 0 0),(3,.d (i64 ((0:Nat):Int)))] ⟨[.cells (s.c.map .d)],0⟩=some (cond (s.nets.l.all iU) (.exit 0,[],⟨[.cells (s.c.map .d)],0⟩) (.ret,[(2,bl false)],⟨[.cells (s.c.map .d)],0⟩)):=by
 refine dz s.nets.l iU (λi=>[(1,.ptr 0 0),(3,.d (i64 i))]) _ _ _ (λi x hx hi W=>?_) (λW=>?_)
 . have hn:=λh=>aA (z:=2) h hx (cells:=Cidr.c) rfl;have hw:=ax hi (fit.lt hs.2.2.1);have h0:((i:Int)<s.nets.l.length):=by omega
   have hc:=λh=>an7 (E:=E) x (hs.2.2.2 x (ce hx)).1 h;cases hm:iU x<;>simp [vG,hn,h0,hw,hc,hm]
 . simp [vG]
theorem ch9:TX 226=some GM:=by kernel_rfl
theorem cf2:aP 226=true:=by kernel_rfl
theorem am6 (s:Source)(hs:s.wf big)(h:Hp):Sm E TX aP 226 [ag s.c] h=some (bl (bV s),h):=by
 rw [aY ch9 cf2,bV,kC];have k1:=ac0 (E:=E) s hs;have a1:=λh=>FJ (E:=E) s.names hs.1.1 (λx hx=>(hs.1.2 x hx).2) h;have a2:=λh=>FJ (E:=E) s.spaces hs.2.1.1 (λx hx=>(hs.2.1.2 x hx).2) h;simp at k1;generalize aU s.names=A at *;generalize aU s.spaces=B at *;generalize s.nets.l.all iU=C at *;cases A with
 | false=>simp [ae,GM,a1]
 | true =>
  cases B with
  | false=>simp [ae,GM,a1,a2]
  | true =>
   by_cases c1:(s.nets.l.length:Int)>6
   . simp [ae,GM,a1,a2,c1,show ¬ ((s.nets.l.length:Int)<=6) from by omega]
   . simp [ae,GM,a1,a2,c1,show ((s.nets.l.length:Int)<=6) from by omega];rw [ai];simp [k1];cases C<;>simp
def Gn (l:List Int)(i:Nat)(x:Int):Bool:=dN x&&(l.take i).all λy=>!(y==x)
theorem ac1 (t:Target)(ht:t.wf big)(j:Nat)(x:Int)(hx:t.ports.l[j]?=some x)(hj:j<t.ports.l.length):Cd E TX aP (.loop [1,3,4] sI) [(1,.ptr 0 0),(3,.d (i64 (j:Int))),(4,.d (i64 ((0:Nat):Int)))] ⟨[.cells (t.c.map .d)],0⟩=some (cond ((t.ports.l.take j).all λy=>!(y==x)) (.exit 2,[(1,.ptr 0 0),(3,.d (i64 (j:Int)))],⟨[.cells (t.c.map .d)],0⟩) (.ret,[(2,bl false)],⟨[.cells (t.c.map .d)],0⟩)):=by
 have hlen:(t.ports.l.take j).length=j:=by simp; omega
 refine dz (t.ports.l.take j) (λy=>!(y==x)) (λi=>[(1,.ptr 0 0),(3,.d (i64 (j:Int))),(4,.d (i64 i))]) _ _ _ (λi y hy hi W=>?_) (λW=>?_)
 . have hij:i<j:=by omega
   have hy':t.ports.l[i]?=some y:=by rw [List.getElem?_take] at hy; simpa [hij] using hy
   have hn:=λh=>aA (z:=1) h hy' (cells:=fE) rfl;have hm:=λh=>aA (z:=1) h hx (cells:=fE) rfl;have hw:=ax hij (Nat.lt_trans hj (fit.lt ht.1.1));have h0:((i:Int)<(j:Int)):=by omega
   by_cases he:y=x
   . subst he;simp [sI,hn,hm,h0,fE]
   . simp [sI,hn,hm,h0,hw,he,fE]
 . simp only [hlen];simp [sI]
theorem ad3 (t:Target)(ht:t.wf big):Cd E TX aP (.loop [1,3] pz) [(1,.ptr 0 0),(3,.d (i64 ((0:Nat):Int)))] ⟨[.cells (t.c.map .d)],0⟩=some (cond (gm (Gn t.ports.l) 0 t.ports.l) (.exit 0,[],⟨[.cells (t.c.map .d)],0⟩) (.ret,[(2,bl false)],⟨[.cells (t.c.map .d)],0⟩)):=by
 refine tL t.ports.l (Gn t.ports.l) (λi=>[(1,.ptr 0 0),(3,.d (i64 i))]) _ _ _ (λi x hx hi W=>?_) (λW=>?_)
 . have hn:=λh=>aA (z:=1) h hx (cells:=fE) rfl;have hw:=ax hi (fit.lt ht.1.1);have h0:((i:Int)<t.ports.l.length):=by omega
   have k:=ac1 (E:=E) t ht i x hx hi;simp only [Int.natCast_zero] at k;unfold Gn dN;generalize ((t.ports.l.take i).all λy=>!(y==x))=G at *;by_cases c1:x<1
   . simp [pz,hn,h0,c1,fE,show ¬ (x>=1) from by omega]
   by_cases c2:x>65535
   . simp [pz,hn,h0,c1,c2,fE,show ¬ (x<=65535) from by omega]
   have e1:decide (x>=1)=true:=by simp; omega
   have e2:decide (x<=65535)=true:=by simp; omega
   simp [pz,hn,h0,c1,c2,fE];rw [ai];simp [k];rw [show decide (1<=x)=true from e1,show decide (x<=65535)=true from e2];cases G<;>simp [hw]
 . simp [pz]
theorem Az {l:List Int}:∀ (m:List Int) (i:Nat),l.drop i=m->(gm (Gn l) i m=true↔m.all dN=true/\∀ k,i<=k->∀ (hk:k<l.length),∀ j,∀ (hj:j<k),l[j]≠l[k])
 | [],i,h=>by
  have:l.length<=i:=by simpa using h
  refine ⟨λ_=>⟨rfl,λk hik hk=>?_⟩,λ_=>rfl⟩;omega
 | x::m,i,h=>by
  have hi:i<l.length:=by
   obtain h1 | h1:=co i l.length
   . exact h1
   . rw [aw h1] at h; cases h
  have hx:l[i]=x/\l.drop (i+1)=m:=by
   rw [aq hi] at h;exact ⟨(List.cons.inj h).1,(List.cons.inj h).2⟩
  rw [gm,ap,Az m (i+1) hx.2,List.all_cons,Gn];simp only [ap,cm,Bool.not_eq_true',beq_eq_false_iff_ne];constructor
  . rintro ⟨⟨p1,p2⟩,p3,p4⟩;refine ⟨⟨p1,p3⟩,λk hik hk j hj=>?_⟩;by_cases hki:k=i
    . subst hki;rw [hx.1];exact p2 l[j] (List.mem_take_iff_getElem.2 ⟨j,by omega,rfl⟩)
    . exact p4 k (by omega) hk j hj
  . rintro ⟨⟨p1,p3⟩,p4⟩;refine ⟨⟨p1,λy hy=>?_⟩,p3,λk hik hk j hj=>p4 k (by omega) hk j hj⟩;obtain ⟨j,hj,rfl⟩:=List.mem_take_iff_getElem.1 hy;rw [← hx.1];exact p4 i (bo _) hi j (by omega)
theorem AV:∀ {l:List Int},l.Pairwise (λa b=>a<=b)->l≠[]->(1+chg l=l.length↔l.Nodup)
 | [],_,h=>absurd rfl h
 | [x],_,_=>by simp [chg]
 | x::y::l,hp,_=>by
  have ih:=AV (l:=y::l) (List.Pairwise.of_cons hp) (by simp);have hle:=wz (y::l);simp only [cj] at ih hle ⊢;simp only [chg];by_cases he:x=y
  . subst he;simp only [if_true,Nat.zero_add];constructor
    . intro h; omega
    . intro h; exact absurd (by simp) (List.nodup_cons.1 h).1
  . simp only [if_neg he];have hxy:x<y:=by have:=(List.pairwise_cons.1 hp).1 y (by simp); omega
    constructor
    . intro h;refine List.nodup_cons.2 ⟨λhm=>?_,ih.1 (by omega)⟩;obtain h1 | h1:=List.mem_cons.1 hm
      . exact he h1
      . have:=(List.pairwise_cons.1 (List.Pairwise.of_cons hp)).1 x h1;omega
    . intro h;have:=ih.2 (List.nodup_cons.1 h).2;omega
theorem JO (l:List Int):((qj (dH l):Int)==(l.length:Int))=decide l.Nodup:=by
 have hp:(dH l).Perm l:=List.mergeSort_perm _ _;have hs:(dH l).Pairwise (λa b=>a<=b):=by
  have:=List.pairwise_mergeSort (le:=λx y:Int=>decide (x<=y)) (λa b c h1 h2=>by simp at *; omega) (λa b=>by simp; omega) l;exact this.imp (λh=>by simpa using h)
 rw [Bool.eq_iff_iff];simp only [beq_iff_eq,br];rw [← hp.length_eq,← hp.nodup_iff];generalize dH l=z at *;unfold qj;by_cases h0:z=[]
 . subst h0; simp
 . rw [if_neg h0,← AV hs h0]; omega
theorem H5 (l:List Int):gm (Gn l) 0 l=(l.all dN&&((qj (dH l):Int)==(l.length:Int))):=by
 rw [JO,Bool.eq_iff_iff,Az l 0 rfl,ap,br];refine and_congr_right λ_=>?_;rw [List.nodup_iff_pairwise_ne,List.pairwise_iff_getElem];constructor
 . intro h i j hi hj hij;exact h j (Nat.zero_le _) hj i hij
 . intro h k _ hk j hj;exact h j k (by omega) hk hj
theorem ci0:TX 227=some Dv:=by kernel_rfl
theorem cf3:aP 227=true:=by kernel_rfl
theorem am7 (t:Target)(ht:t.wf big)(h:Hp):Sm E TX aP 227 [ag t.c] h=some (bl (aT t),h):=by
 have k1:=ad3 (E:=E) t ht;rw [H5] at k1;rw [aY ci0 cf3,aT];have a1:=λh=>FJ (E:=E) t.methods ht.2.1.1 (λx hx=>(ht.2.1.2 x hx).2) h;have a2:=λh=>FJ (E:=E) t.paths ht.2.2.1.1 (λx hx=>(ht.2.2.1.2 x hx).2) h;have a3:=λh=>FJ (E:=E) t.hosts ht.2.2.2.1 (λx hx=>(ht.2.2.2.2 x hx).2) h;generalize ((qj (dH t.ports.l):Int)==(t.ports.l.length:Int))=D at *;simp at k1;generalize aU t.methods=A at *;generalize aU t.paths=B at *;generalize aU t.hosts=C at *;generalize t.ports.l.all dN=F at *;cases A with
 | false=>simp [ae,Dv,a1]
 | true =>
  cases B with
  | false=>simp [ae,Dv,a1,a2]
  | true =>
   cases C with
   | false=>simp [ae,Dv,a1,a2,a3]
   | true =>
    by_cases c1:(t.ports.l.length:Int)>6
    . simp [ae,Dv,a1,a2,a3,c1,show ¬ ((t.ports.l.length:Int)<=6) from by omega]
    . simp [ae,Dv,a1,a2,a3,c1,show ((t.ports.l.length:Int)<=6) from by omega];rw [ai];simp [k1];cases F<;>cases D<;>simp
section
variable (r:Rule)(hr:r.wf big)
include hr
theorem Z6:Cd E TX aP (.loop [1,3] vD) [(1,.ptr 0 0),(3,.d (i64 ((0:Nat):Int)))] ⟨[.cells (r.c.map .d)],0⟩=some (cond (r.frm.l.all bV) (.exit 0,[(1,.ptr 0 0)],⟨[.cells (r.c.map .d)],0⟩) (.ret,[(2,bl false)],⟨[.cells (r.c.map .d)],0⟩)):=by
 refine dz r.frm.l bV (λi=>[(1,.ptr 0 0),(3,.d (i64 i))]) _ _ _ (λi x hx hi W=>?_) (λW=>?_)
 . have hn:=λh=>aA (z:=3) h hx (cells:=Source.c) rfl;have hw:=ax hi (fit.lt hr.1.1);have h0:((i:Int)<r.frm.l.length):=by omega
   have hc:=λh=>am6 (E:=E) x (hr.1.2 x (ce hx)) h;cases hm:bV x<;>simp [vD,hn,h0,hw,hc,hm]
 . simp [vD]
theorem Z7:Cd E TX aP (.loop [1,4] vE) [(1,.ptr 0 0),(4,.d (i64 ((0:Nat):Int)))] ⟨[.cells (r.c.map .d)],0⟩=some (cond (r.to.l.all aT) (.exit 2,[(1,.ptr 0 0)],⟨[.cells (r.c.map .d)],0⟩) (.ret,[(2,bl false)],⟨[.cells (r.c.map .d)],0⟩)):=by
 refine dz r.to.l aT (λi=>[(1,.ptr 0 0),(4,.d (i64 i))]) _ _ _ (λi x hx hi W=>?_) (λW=>?_)
 . have hn:=λh=>aA (z:=4) h hx (cells:=Target.c) rfl;have hw:=ax hi (fit.lt hr.2.1.1);have h0:((i:Int)<r.to.l.length):=by omega
   have hc:=λh=>am7 (E:=E) x (hr.2.1.2 x (ce hx)) h;cases hm:aT x<;>simp [vE,hn,h0,hw,hc,hm]
 . simp [vE]
theorem Z8:Cd E TX aP (.loop [1,5] pu) [(1,.ptr 0 0),(5,.d (i64 ((0:Nat):Int)))] ⟨[.cells (r.c.map .d)],0⟩=some (cond (r.whn.l.all ig) (.exit 4,[],⟨[.cells (r.c.map .d)],0⟩) (.ret,[(2,bl false)],⟨[.cells (r.c.map .d)],0⟩)):=by
 refine dz r.whn.l ig (λi=>[(1,.ptr 0 0),(5,.d (i64 i))]) _ _ _ (λi x hx hi W=>?_) (λW=>?_)
 . have hn:=λh=>aA (z:=2) h hx (cells:=When.c) rfl;have hw:=ax hi (fit.lt hr.2.2.1);have h0:((i:Int)<r.whn.l.length):=by omega
   have hwf:=hr.2.2.2 x (ce hx);have hc:=λh=>am8 (E:=E) x.head hwf.1 h;have hd:=λh=>FJ (E:=E) x.terms hwf.2.1 (λy hy=>(hwf.2.2 y hy).2) h;unfold ig;generalize iY x.head=A at *;generalize aU x.terms=B at *;cases A with
   | false=>simp [pu,hn,h0,hc]
   | true =>
    by_cases c1:(x.terms.l.length:Int)=0
    . simp [pu,hn,h0,hc,c1]
    . have c2:(x.terms.l.length:Int)>0:=by omega
      have c3:0<x.terms.l.length:=by omega
      have c4:x.terms.l≠[]:=by intro h; rw [h] at c2; simp at c2
      cases B<;>simp [pu,hn,h0,hc,hd,hw,c3,c4]
 . simp [pu]
end
theorem ch8:TX 175=some GL:=by kernel_rfl
theorem ce5:aP 175=true:=by kernel_rfl
theorem al4 (r:Rule)(hr:r.wf big)(h:Hp):Sm E TX aP 175 [ag r.c] h=some (bl (eD r),h):=by
 have k1:=Z6 (E:=E) r hr;have k2:=Z7 (E:=E) r hr;have k3:=Z8 (E:=E) r hr;rw [aY ch8 ce5,eD];simp at k1 k2 k3;generalize r.frm.l.all bV=A at *;generalize r.to.l.all aT=B at *;generalize r.whn.l.all ig=C at *;by_cases c1:(r.frm.l.length:Int)>3
 . simp [ae,GL,c1,show ¬ ((r.frm.l.length:Int)<=3) from by omega]
 by_cases c2:(r.to.l.length:Int)>3
 . simp [ae,GL,c1,c2,show ¬ ((r.to.l.length:Int)<=3) from by omega]
 by_cases c3:(r.whn.l.length:Int)>3
 . simp [ae,GL,c1,c2,c3,show ¬ ((r.whn.l.length:Int)<=3) from by omega]
 simp [ae,GL,c1,c2,c3,show ((r.frm.l.length:Int)<=3) from by omega,show ((r.to.l.length:Int)<=3) from by omega,show ((r.whn.l.length:Int)<=3) from by omega];rw [ai];simp [k1];cases A<;>simp;rw [ai];simp [k2];cases B<;>simp;rw [ai];simp [k3];cases C<;>simp
theorem ab5 (p:Pol)(hp:p.wf big):Cd E TX aP (.loop [1,3] vC) [(1,.ptr 0 0),(3,.d (i64 ((0:Nat):Int)))] ⟨[.cells (p.c.map .d)],0⟩=some (cond (p.rules.l.all eD) (.exit 0,[],⟨[.cells (p.c.map .d)],0⟩) (.ret,[(2,bl false)],⟨[.cells (p.c.map .d)],0⟩)):=by
 refine dz p.rules.l eD (λi=>[(1,.ptr 0 0),(3,.d (i64 i))]) _ _ _ (λi x hx hi W=>?_) (λW=>?_)
 . have hn:=λh=>aA (z:=3) h hx (cells:=Rule.c) rfl;have hw:=ax hi (fit.lt hp.2.2.2.2.1);have h0:((i:Int)<p.rules.l.length):=by omega
   have hc:=λh=>al4 (E:=E) x (hp.2.2.2.2.2 x (ce hx)) h;cases hm:eD x<;>simp [vC,hn,h0,hw,hc,hm]
 . simp [vC]
theorem Y2:TX 110=some qA:=by kernel_rfl
theorem YZ:aP 110=true:=by kernel_rfl
theorem Vj (p:Pol)(hp:p.wf big)(h:Hp):Sm E TX aP 110 [ag p.c] h=some (bl (bz p),h):=by
 have k1:=ab5 (E:=E) p hp;have k2:=λh=>Li (E:=E) p.ns hp.2.1 h;rw [aY Y2 YZ,bz];simp at k1;generalize p.rules.l.all eD=A at *;generalize aZ p.ns=B at *;by_cases c1:p.id<1
 . simp [ae,qA,c1,show ¬ (p.id>=1) from by omega]
 by_cases c2:p.id>4611686018427387903
 . simp [ae,qA,c1,c2,show ¬ (p.id<=4611686018427387903) from by omega]
 have e1:p.id>=1:=by omega
 have e2:p.id<=4611686018427387903:=by omega
 cases c3:eqS p.ns ⟨#[]⟩ with
 | false =>
  cases B with
  | false=>simp [ae,qA,c1,c2,c3,k2]
  | true =>
   by_cases c4:p.service>4611686018427387903
   . simp [ae,qA,c1,c2,c3,k2,c4,show ¬ (p.service<=4611686018427387903) from by omega]
   by_cases c5:p.deny<0
   . simp [ae,qA,c1,c2,c3,k2,c4,c5,show ¬ (p.deny=0) from by omega,show ¬ (p.deny=1) from by omega]
   by_cases c6:p.deny>1
   . simp [ae,qA,c1,c2,c3,k2,c4,c5,c6,show ¬ (p.deny=0) from by omega,show ¬ (p.deny=1) from by omega]
   have e6:((p.deny==0)||(p.deny==1))=true:=by simp; omega
   have e4:p.service<=4611686018427387903:=by omega
   by_cases c7:(p.rules.l.length:Int)>6
   . simp [ae,qA,c1,c2,c3,k2,c4,c5,c6,c7,show ¬ ((p.rules.l.length:Int)<=6) from by omega]
   have e7:(p.rules.l.length:Int)<=6:=by omega
   rw [e6];simp [ae,qA,c1,c2,c3,k2,c4,c5,c6,c7,e1,e2,e4,e7];rw [ai];simp [k1];cases A<;>simp
 | true =>
  by_cases c4:p.service>4611686018427387903
  . simp [ae,qA,c1,c2,c3,c4,show ¬ (p.service<=4611686018427387903) from by omega]
  by_cases c5:p.deny<0
  . simp [ae,qA,c1,c2,c3,c4,c5,show ¬ (p.deny=0) from by omega,show ¬ (p.deny=1) from by omega]
  by_cases c6:p.deny>1
  . simp [ae,qA,c1,c2,c3,c4,c5,c6,show ¬ (p.deny=0) from by omega,show ¬ (p.deny=1) from by omega]
  have e6:((p.deny==0)||(p.deny==1))=true:=by simp; omega
  have e4:p.service<=4611686018427387903:=by omega
  by_cases c7:(p.rules.l.length:Int)>6
  . simp [ae,qA,c1,c2,c3,c4,c5,c6,c7,show ¬ ((p.rules.l.length:Int)<=6) from by omega]
  have e7:(p.rules.l.length:Int)<=6:=by omega
  rw [e6];simp [ae,qA,c1,c2,c3,c4,c5,c6,c7,e1,e2,e4,e7];rw [ai];simp [k1];cases A<;>simp
end
section
section
variable {E:Calls'}{T:FuncId->Option QF}{val:FuncId->Bool}
theorem oI {keep:List Nat}{body:QC}{α:Type}(l:List α)(q:Nat->α->Bool)(env:Nat->EA)(I:Hp->Prop)(R X:Ex×EA)
 (hr:∀ i x,l[i]?=some x->i<l.length->∀ h,I h->∃ h',I h'/\∀ W:EA->Hp->dx,bH keep W (Cd E T val body (bq keep (env i)) h)=cond (q i x) (W (env (i+1)) h') (some (R.1,R.2,h')))
 (he:∀ h,I h->∀ W:EA->Hp->dx,bH keep W (Cd E T val body (bq keep (env l.length)) h)=some (X.1,X.2,h)) (h:Hp) (hI:I h) :
 ∃ h',I h'/\Cd E T val (.loop keep body) (env 0) h=some (cond (gm q 0 l) (X.1,X.2,h') (R.1,R.2,h')):=by
 have:∀ (m i:Nat) (h:Hp),i+m=l.length->I h->∃ h',I h'/\Cd E T val (.loop keep body) (env i) h=some (cond (gm q i (l.drop i)) (X.1,X.2,h') (R.1,R.2,h')):=by
  intro m;have key:=aB (E:=E) (T:=T) (val:=val) keep body;generalize Cd E T val (.loop keep body)=W at key ⊢
  induction m with
  | zero =>
   intro i h hi hI;refine ⟨h,hI,?_⟩;rw [key,show i=l.length by omega,he h hI W,List.drop_length];rfl
  | succ m ih =>
   intro i h hi hI;have hlt:i<l.length:=by omega
   obtain ⟨h1,hI1,k1⟩:=hr i _ (ab hlt) hlt h hI;rw [key,k1 W,aq hlt,gm];cases hq:q i l[i] with
   | false=>exact ⟨h1,hI1,rfl⟩
   | true =>
    obtain ⟨h2,hI2,k2⟩:=ih (i+1) h1 (by omega) hI1;exact ⟨h2,hI2,by simpa using k2⟩
 simpa using this l.length 0 h (by omega) hI
end
def dK {α:Type}(f:α->Int)(l:List α)(i:Nat)(x:α):Bool:=match i with
 | 0=>true
 | j+1=>match l[j]? with
  | some y=>decide (f y<f x)
  | none=>true
theorem nL {α:Type}(p q:Nat->α->Bool):∀ (l:List α) (i:Nat),gm (λi x=>p i x&&q i x) i l=(gm p i l&&gm q i l)
 | [],_=>rfl
 | x::l,i=>by
  simp only [gm,nL p q l];cases p i x<;>cases q i x<;>cases gm p (i+1) l<;>rfl
theorem oG {α:Type}(f:α->Int)(l:List α):gm (dK f l) 0 l=fH (l.map f):=by
 have:∀ (m:List α) (j:Nat) (x:α),l.drop j=x::m->gm (dK f l) (j+1) m=fH ((x::m).map f):=by
  intro m
  induction m with
  | nil=>intro j x _; rfl
  | cons y m ih =>
   intro j x h;have hj:j<l.length:=by
    obtain h1 | h1:=co j l.length
    . exact h1
    . rw [aw h1] at h; cases h
   rw [aq hj] at h;have h1:=(List.cons.inj h).1;have h2:=(List.cons.inj h).2;rw [gm,ih (j+1) y h2];simp only [cr,fH,dK,ab hj,h1]
 cases l with
 | nil=>rfl
 | cons x m=>simpa [gm,dK] using this m 0 x rfl
theorem qX {α:Type}(p:α->Bool):∀ (l:List α) (i:Nat),gm (λ_ x=>!p x) i l=!l.any p
 | [],_=>rfl
 | x::l,i=>by rw [gm,qX p l,List.any_cons,Bool.not_or]
theorem oM {α:Type}{f:α->Int}{l:List α}{i:Nat}{x:α}(h:¬ (i:Int)>0):dK f l i x=true:=by
 obtain rfl:i=0:=by omega
 rfl
theorem ve {α:Type}{l:List α}{i:Nat}(hl:l.length<2 ^ 62)(hi:i<l.length)(h0:(i:Int)>0):∃ y j,i=j+1/\l[j]?=some y/\wrap .i64 ((i:Int)-1)=(j:Int):=by
 cases i with
 | zero=>simp at h0
 | succ j =>
  refine ⟨l[j],j,rfl,ab (by omega),?_⟩;have e:(((j+1:Nat):Int)-1)=(j:Int):=by omega
  rw [e];rw [wrap64]<;>omega
variable {E:Calls'}
theorem ch3:TX 138=some RX:=by kernel_rfl
theorem cd4:aP 138=true:=by kernel_rfl
theorem Vn (n:Int)(h:Hp):Sm E TX aP 138 [.d (i64 n)] h=some (bl (dN n),h):=by
 rw [aY ch3 cd4,dN];by_cases c1:n>=1<;>simp [ae,RX,au,c1]
theorem cg2:TX 139=none:=by kernel_rfl
theorem x112:TX 141=none:=by kernel_rfl
theorem as3 (p:Pod)(hp:p.wf big)(h:Hp):Sm E TX aP 137 [.agg [.d (.str p.ns),.d (.str p.sa)]] h=some (bl (aZ p.ns&&aZ p.sa),h):=ak1 p.ns p.sa hp.2.1 hp.2.2.1 h
def d9 (c:Cfg)(i:Nat)(p:Pod):Bool:=dK Pod.uid c.pods.l i p&&!bu c p
def gT (c:Cfg)(i:Nat)(p:Svc):Bool:=dK Svc.id c.services.l i p&&!eZ c p
def ja (c:Cfg)(i:Nat)(p:Pol):Bool:=dK Pol.id c.policies.l i p&&!eH c p
def FindX (E:Calls')(c:Cfg):Prop:=(∀ n h,E 139 [c.v,.d (u64 n)] h=some (.d (i64 (kL c.services.l λp=>p.id==n)),h))/\∀ n h,E 141 [c.v,.d (u64 n)] h=some (.d (i64 (kL c.bound.l λp=>p.id==n)),h)
theorem FindX.s {c:Cfg}(hE:FindX E c)(n:Int)(h:Hp):Sm E TX aP 139 [c.v,.d (u64 n)] h=some (.d (i64 (kL c.services.l λp=>p.id==n)),h):=by rw [fA cg2]; exact hE.1 n h
theorem FindX.w {c:Cfg}(hE:FindX E c)(n:Int)(h:Hp):Sm E TX aP 141 [c.v,.d (u64 n)] h=some (.d (i64 (kL c.bound.l λp=>p.id==n)),h):=by rw [fA x112]; exact hE.2 n h
theorem ab1 (c:Cfg)(hc:c.wf big)(hE:FindX E c):∃ h',(∃ bs,h'=⟨bs,0⟩/\aa bs 0=some (c.c.map .d))/\Cd E TX aP (.loop [1,3] df) [(1,.ptr 0 0),(3,.d (i64 ((0:Nat):Int)))] ⟨[.cells (c.c.map .d)],0⟩=some (cond (gm (d9 c) 0 c.pods.l) (.exit 0,[],h') (.ret,[(2,bl false)],h')):=by
 have hok:=hc.ok (bo _);have hl:c.pods.l.length<2 ^ 62:=hok.1.lt;refine oI c.pods.l (d9 c) (λi=>[(1,.ptr 0 0),(3,.d (i64 i))]) (λh=>∃ bs,h=⟨bs,0⟩/\aa bs 0=some (c.c.map .d)) (.ret,[(2,bl false)]) (.exit 0,[]) (λi x hx hi h hI=>?_) (λh hI W=>?_) _ ⟨_,rfl,by simp⟩
 . obtain ⟨bs,rfl,hb⟩:=hI;have hn:=λh=>aA (z:=7) h hx (cells:=Pod.c) rfl;have hw:=ax hi hl;have h0:((i:Int)<c.pods.l.length):=by omega
   have hb2:=λys=>ay (ys:=ys) hb;refine ⟨⟨bs++[.cells (x.c.map .d)],0⟩,⟨_,rfl,ay hb⟩,λW=>?_⟩;have hp:=hc.2.2.2.2.1.2 x (ce hx);have n1:=λh=>as3 (E:=E) x hp h;have n2:=λh=>Vn (E:=E) x.port h;have n3:=λh=>hE.s x.service h;generalize hnm:(aZ x.ns&&aZ x.sa)=nm at n1;generalize hpt:dN x.port=pt at n2;by_cases a1:x.uid<10
   case pos=>simp +decide [df,hb,hn,h0,aL,bR,aH,Tr.mute,d9,bu,bf,bg,bi,a1]
   by_cases a2:x.uid>=c.next
   case pos=>simp +decide [df,hb,hb2,hn,h0,aL,bR,aH,Tr.mute,d9,bu,bf,bg,bi,a1,a2]
   by_cases a0:(i:Int)>0
   case pos =>
    have a0n:(0<i)=True:=by simp; omega
    obtain ⟨y,j,hij,hy,hj⟩:=ve hl hi a0;have hp:=λh=>aA (z:=7) h hy (cells:=Pod.c) rfl;have hk:dK Pod.uid c.pods.l i x=decide (y.uid<x.uid):=by subst hij; simp only [dK,hy]
    by_cases a01:x.uid<=y.uid
    case pos=>simp +decide [df,hb,hb2,hn,h0,aL,bR,aH,Tr.mute,d9,bu,bf,bg,bi,a1,a2,a0n,hj,hp,hk,a01,show ¬ (y.uid<x.uid) from by omega]
    cases nm
    case false=>simp +decide [df,hb,hb2,hn,n1,h0,aL,aC,bR,aH,Tr.mute,d9,bu,bf,bg,bi,a1,a2,a0n,hj,hp,hk,a01,show (y.uid<x.uid) from by omega,hnm]
    by_cases b1:x.host<2
    case pos=>simp +decide [df,hb,hb2,hn,n1,h0,aL,aC,bR,aH,Tr.mute,d9,bu,bf,bg,bi,a1,a2,a0n,hj,hp,hk,a01,show (y.uid<x.uid) from by omega,hnm,b1]
    by_cases b2:x.host>wrap .i64 (c.hosts+1)
    case pos=>simp +decide [df,hb,hb2,hn,n1,h0,aL,aC,bR,aH,Tr.mute,d9,bu,bf,bg,bi,a1,a2,a0n,hj,hp,hk,a01,show (y.uid<x.uid) from by omega,hnm,b1,b2]
    cases pt
    case false=>simp +decide [df,hb,hb2,hn,n1,n2,h0,aL,aC,aH,Tr.mute,d9,bu,bf,bg,bi,a1,a2,a0n,hj,hp,hk,a01,show (y.uid<x.uid) from by omega,hnm,b1,b2,hpt]
    by_cases c1:x.service=0
    case pos=>simp +decide [df,hb,hb2,hn,n1,n2,h0,aL,aC,aH,Tr.mute,d9,bu,bf,bg,bi,a1,a2,a0n,hj,hp,hk,a01,show (y.uid<x.uid) from by omega,hnm,b1,b2,hpt,c1,hw]
    obtain ⟨e1,e2⟩ | ⟨k,s,e1,e2,e3⟩:=kF c.services.l (λp=>p.id==x.service)
    . have hsv:mD c x.service=none:=e1;rw [e2] at n3;simp +decide [df,hb,hb2,hn,n1,n2,n3,h0,aL,aC,aH,Tr.mute,d9,bu,bf,bg,bi,a1,a2,a0n,hj,hp,hk,a01,show (y.uid<x.uid) from by omega,hnm,b1,b2,hpt,c1,hsv]
    . have hsv:mD c x.service=some s:=e1;rw [e2] at n3;have hs:=λh=>aA (z:=5) h e3 (cells:=Svc.c) rfl;cases c2:eqS s.ns x.ns
      case false=>simp +decide [df,hb,hb2,hn,n1,n2,n3,h0,aL,aC,aH,Tr.mute,d9,bu,bf,bg,bi,a1,a2,a0n,hj,hp,hk,a01,show (y.uid<x.uid) from by omega,hnm,b1,b2,hpt,c1,hsv,hs,c2]
      simp +decide [df,hb,hb2,hn,n1,n2,n3,h0,aL,aC,aH,Tr.mute,d9,bu,bf,bg,bi,a1,a2,a0n,hj,hp,hk,a01,show (y.uid<x.uid) from by omega,hnm,b1,b2,hpt,c1,hsv,hs,c2,hw]
   have hk:dK Pod.uid c.pods.l i x=true:=oM a0;have a0n:(0<i)=False:=by simp; omega
   cases nm
   case false=>simp +decide [df,hb,hb2,hn,n1,h0,aL,aC,bR,aH,Tr.mute,d9,bu,bf,bg,bi,a1,a2,a0n,hk,hnm]
   by_cases b1:x.host<2
   case pos=>simp +decide [df,hb,hb2,hn,n1,h0,aL,aC,bR,aH,Tr.mute,d9,bu,bf,bg,bi,a1,a2,a0n,hk,hnm,b1]
   by_cases b2:x.host>wrap .i64 (c.hosts+1)
   case pos=>simp +decide [df,hb,hb2,hn,n1,h0,aL,aC,bR,aH,Tr.mute,d9,bu,bf,bg,bi,a1,a2,a0n,hk,hnm,b1,b2]
   cases pt
   case false=>simp +decide [df,hb,hb2,hn,n1,n2,h0,aL,aC,bR,aH,Tr.mute,d9,bu,bf,bg,bi,a1,a2,a0n,hk,hnm,b1,b2,hpt]
   by_cases c1:x.service=0
   case pos=>simp +decide [df,hb,hb2,hn,n1,n2,h0,aL,aC,bR,aH,Tr.mute,d9,bu,bf,bg,bi,a1,a2,a0n,hk,hnm,b1,b2,hpt,c1,hw]
   obtain ⟨e1,e2⟩ | ⟨k,s,e1,e2,e3⟩:=kF c.services.l (λp=>p.id==x.service)
   . have hsv:mD c x.service=none:=e1;rw [e2] at n3;simp +decide [df,hb,hb2,hn,n1,n2,n3,h0,aL,aC,bR,aH,Tr.mute,d9,bu,bf,bg,bi,a1,a2,a0n,hk,hnm,b1,b2,hpt,c1,hsv]
   . have hsv:mD c x.service=some s:=e1;rw [e2] at n3;have hs:=λh=>aA (z:=5) h e3 (cells:=Svc.c) rfl;cases c2:eqS s.ns x.ns
     case false=>simp +decide [df,hb,hb2,hn,n1,n2,n3,h0,aL,aC,bR,aH,Tr.mute,d9,bu,bf,bg,bi,a1,a2,a0n,hk,hnm,b1,b2,hpt,c1,hsv,hs,c2]
     simp +decide [df,hb,hb2,hn,n1,n2,n3,h0,aL,aC,bR,aH,Tr.mute,d9,bu,bf,bg,bi,a1,a2,a0n,hk,hnm,b1,b2,hpt,c1,hsv,hs,c2,hw]
 . obtain ⟨bs,rfl,hb⟩:=hI;simp [df,hb]
theorem ab2 (c:Cfg)(hc:c.wf big)(hE:FindX E c):∃ h',(∃ bs,h'=⟨bs,0⟩/\aa bs 0=some (c.c.map .d))/\Cd E TX aP (.loop [1,3] fq) [(1,.ptr 0 0),(3,.d (i64 ((0:Nat):Int)))] ⟨[.cells (c.c.map .d)],0⟩=some (cond (gm (gT c) 0 c.services.l) (.exit 0,[],h') (.ret,[(2,bl false)],h')):=by
 have hok:=hc.ok (bo _);have hl:c.services.l.length<2 ^ 62:=hok.2.1.lt;refine oI c.services.l (gT c) (λi=>[(1,.ptr 0 0),(3,.d (i64 i))]) (λh=>∃ bs,h=⟨bs,0⟩/\aa bs 0=some (c.c.map .d)) (.ret,[(2,bl false)]) (.exit 0,[]) (λi x hx hi h hI=>?_) (λh hI W=>?_) _ ⟨_,rfl,by simp⟩
 . obtain ⟨bs,rfl,hb⟩:=hI;have hn:=λh=>aA (z:=5) h hx (cells:=Svc.c) rfl;have hw:=ax hi hl;have h0:((i:Int)<c.services.l.length):=by omega
   have hb2:=λys=>ay (ys:=ys) hb;refine ⟨⟨bs++[.cells (x.c.map .d)],0⟩,⟨_,rfl,ay hb⟩,λW=>?_⟩;have hp:=hc.2.2.2.2.2.1.2 x (ce hx);have n1:=λh=>Li (E:=E) x.ns hp.2.1 h;have n2:=λh=>Vn (E:=E) x.port h;have n3:=λh=>hE.w x.way h;generalize hnm:aZ x.ns=nm at n1;generalize hpt:dN x.port=pt at n2;by_cases a1:x.id<1
   case pos=>simp +decide [fq,hb,hn,h0,aL,bR,aH,Tr.mute,gT,eZ,di,a1,show ¬ (x.id>=1) from by omega]
   by_cases a2:x.id>4611686018427387903
   case pos=>simp +decide [fq,hb,hn,h0,aL,bR,aH,Tr.mute,gT,eZ,di,a1,show (x.id>=1) from by omega,a2,show ¬ (x.id<=4611686018427387903) from by omega]
   by_cases a0:(i:Int)>0
   case pos =>
    have a0n:(0<i)=True:=by simp; omega
    obtain ⟨y,j,hij,hy,hj⟩:=ve hl hi a0;have hp:=λh=>aA (z:=5) h hy (cells:=Svc.c) rfl;have hk:dK Svc.id c.services.l i x=decide (y.id<x.id):=by subst hij; simp only [dK,hy]
    by_cases a01:x.id<=y.id
    case pos=>simp +decide [fq,hb,hb2,hn,h0,aL,bR,aH,Tr.mute,gT,eZ,di,a1,show (x.id>=1) from by omega,a2,show (x.id<=4611686018427387903) from by omega,a0n,hj,hp,hk,a01,show ¬ (y.id<x.id) from by omega]
    cases nm
    case false=>simp +decide [fq,hb,hb2,hn,n1,h0,aL,aC,bR,aH,Tr.mute,gT,eZ,di,a1,show (x.id>=1) from by omega,a2,show (x.id<=4611686018427387903) from by omega,a0n,hj,hp,hk,a01,show (y.id<x.id) from by omega,hnm]
    cases pt
    case false=>simp +decide [fq,hb,hb2,hn,n1,n2,h0,aL,aC,bR,aH,Tr.mute,gT,eZ,di,a1,show (x.id>=1) from by omega,a2,show (x.id<=4611686018427387903) from by omega,a0n,hj,hp,hk,a01,show (y.id<x.id) from by omega,hnm,hpt]
    by_cases c1:x.way=0
    case pos=>simp +decide [fq,hb,hb2,hn,n1,n2,h0,aL,aC,bR,aH,Tr.mute,gT,eZ,di,a1,show (x.id>=1) from by omega,a2,show (x.id<=4611686018427387903) from by omega,a0n,hj,hp,hk,a01,show (y.id<x.id) from by omega,hnm,hpt,c1,hw]
    by_cases c2:kL c.bound.l (λw=>w.id==x.way)<0
    case pos =>
     have hay:(c.bound.l.any λw=>w.id==x.way)=false:=by rw [← mf]; simp; omega
     simp +decide [fq,hb,hb2,hn,n1,n2,n3,h0,aL,aC,aH,Tr.mute,gT,eZ,di,a1,show (x.id>=1) from by omega,a2,show (x.id<=4611686018427387903) from by omega,a0n,hj,hp,hk,a01,show (y.id<x.id) from by omega,hnm,hpt,c1,c2,hay]
    have hay:(c.bound.l.any λw=>w.id==x.way)=true:=by rw [← mf]; simp; omega
    simp +decide [fq,hb,hb2,hn,n1,n2,n3,h0,aL,aC,aH,Tr.mute,gT,eZ,di,a1,show (x.id>=1) from by omega,a2,show (x.id<=4611686018427387903) from by omega,a0n,hj,hp,hk,a01,show (y.id<x.id) from by omega,hnm,hpt,c1,c2,hay,hw]
   have hk:dK Svc.id c.services.l i x=true:=oM a0;have a0n:(0<i)=False:=by simp; omega
   cases nm
   case false=>simp +decide [fq,hb,hn,n1,h0,aL,aC,bR,aH,Tr.mute,gT,eZ,di,a1,show (x.id>=1) from by omega,a2,show (x.id<=4611686018427387903) from by omega,a0n,hk,hnm]
   cases pt
   case false=>simp +decide [fq,hb,hn,n1,n2,h0,aL,aC,bR,aH,Tr.mute,gT,eZ,di,a1,show (x.id>=1) from by omega,a2,show (x.id<=4611686018427387903) from by omega,a0n,hk,hnm,hpt]
   by_cases c1:x.way=0
   case pos=>simp +decide [fq,hb,hn,n1,n2,h0,aL,aC,bR,aH,Tr.mute,gT,eZ,di,a1,show (x.id>=1) from by omega,a2,show (x.id<=4611686018427387903) from by omega,a0n,hk,hnm,hpt,c1,hw]
   by_cases c2:kL c.bound.l (λw=>w.id==x.way)<0
   case pos =>
    have hay:(c.bound.l.any λw=>w.id==x.way)=false:=by rw [← mf]; simp; omega
    simp +decide [fq,hb,hb2,hn,n1,n2,n3,h0,aL,aC,bR,aH,Tr.mute,gT,eZ,di,a1,show (x.id>=1) from by omega,a2,show (x.id<=4611686018427387903) from by omega,a0n,hk,hnm,hpt,c1,c2,hay]
   have hay:(c.bound.l.any λw=>w.id==x.way)=true:=by rw [← mf]; simp; omega
   simp +decide [fq,hb,hb2,hn,n1,n2,n3,h0,aL,aC,bR,aH,Tr.mute,gT,eZ,di,a1,show (x.id>=1) from by omega,a2,show (x.id<=4611686018427387903) from by omega,a0n,hk,hnm,hpt,c1,c2,hay,hw]
 . obtain ⟨bs,rfl,hb⟩:=hI;simp [fq,hb]
theorem ab4 (c:Cfg)(hc:c.wf big)(hE:FindX E c):∃ h',(∃ bs,h'=⟨bs,0⟩/\aa bs 0=some (c.c.map .d))/\Cd E TX aP (.loop [1,3] gZ) [(1,.ptr 0 0),(3,.d (i64 ((0:Nat):Int)))] ⟨[.cells (c.c.map .d)],0⟩=some (cond (gm (ja c) 0 c.policies.l) (.exit 0,[],h') (.ret,[(2,bl false)],h')):=by
 have hok:=hc.ok (bo _);have hl:c.policies.l.length<2 ^ 62:=hok.2.2.2.1.lt;refine oI c.policies.l (ja c) (λi=>[(1,.ptr 0 0),(3,.d (i64 i))]) (λh=>∃ bs,h=⟨bs,0⟩/\aa bs 0=some (c.c.map .d)) (.ret,[(2,bl false)]) (.exit 0,[]) (λi x hx hi h hI=>?_) (λh hI W=>?_) _ ⟨_,rfl,by simp⟩
 . obtain ⟨bs,rfl,hb⟩:=hI;have hn:=λh=>aA (z:=5) h hx (cells:=Pol.c) rfl;have hw:=ax hi hl;have h0:((i:Int)<c.policies.l.length):=by omega
   have hb2:=λys=>ay (ys:=ys) hb;refine ⟨⟨bs++[.cells (x.c.map .d)],0⟩,⟨_,rfl,ay hb⟩,λW=>?_⟩;have hp:=hc.2.2.2.2.2.2.2.2 x (ce hx);have n1:=λh=>Vj (E:=E) x hp h;have n3:=λh=>hE.s x.service h;generalize hnm:bz x=nm at n1;by_cases a1:x.id<1
   case pos=>simp +decide [gZ,hb,hn,h0,aL,bR,aH,Tr.mute,ja,eH,a1]
   by_cases a0:(i:Int)>0
   case pos =>
    have a0n:(0<i)=True:=by simp; omega
    obtain ⟨y,j,hij,hy,hj⟩:=ve hl hi a0;have hp:=λh=>aA (z:=5) h hy (cells:=Pol.c) rfl;have hk:dK Pol.id c.policies.l i x=decide (y.id<x.id):=by subst hij; simp only [dK,hy]
    by_cases a01:x.id<=y.id
    case pos=>simp +decide [gZ,hb,hb2,hn,h0,aL,bR,aH,Tr.mute,ja,eH,a1,a0n,hj,hp,hk,a01,show ¬ (y.id<x.id) from by omega]
    cases nm
    case false=>simp +decide [gZ,hb,hb2,hn,n1,h0,aL,aC,bR,aH,Tr.mute,ja,eH,a1,a0n,hj,hp,hk,a01,show (y.id<x.id) from by omega,hnm]
    by_cases c1:x.service=0
    case pos=>simp +decide [gZ,hb,hb2,hn,n1,h0,aL,aC,bR,aH,Tr.mute,ja,eH,a1,a0n,hj,hp,hk,a01,show (y.id<x.id) from by omega,hnm,c1,hw]
    obtain ⟨e1,e2⟩ | ⟨k,s,e1,e2,e3⟩:=kF c.services.l (λp=>p.id==x.service)
    . have hsv:mD c x.service=none:=e1;rw [e2] at n3;simp +decide [gZ,hb,hb2,hn,n1,n3,h0,aL,aC,aH,Tr.mute,ja,eH,a1,a0n,hj,hp,hk,a01,show (y.id<x.id) from by omega,hnm,c1,hsv]
    . have hsv:mD c x.service=some s:=e1;rw [e2] at n3;simp +decide [gZ,hb,hb2,hn,n1,n3,h0,aL,aC,aH,Tr.mute,ja,eH,a1,a0n,hj,hp,hk,a01,show (y.id<x.id) from by omega,hnm,c1,hsv,hw]
   have hk:dK Pol.id c.policies.l i x=true:=oM a0;have a0n:(0<i)=False:=by simp; omega
   cases nm
   case false=>simp +decide [gZ,hb,hn,n1,h0,aL,aC,bR,aH,Tr.mute,ja,eH,a1,a0n,hk,hnm]
   by_cases c1:x.service=0
   case pos=>simp +decide [gZ,hb,hn,n1,h0,aL,aC,bR,aH,Tr.mute,ja,eH,a1,a0n,hk,hnm,c1,hw]
   obtain ⟨e1,e2⟩ | ⟨k,s,e1,e2,e3⟩:=kF c.services.l (λp=>p.id==x.service)
   . have hsv:mD c x.service=none:=e1;rw [e2] at n3;simp +decide [gZ,hb,hb2,hn,n1,n3,h0,aL,aC,bR,aH,Tr.mute,ja,eH,a1,a0n,hk,hnm,c1,hsv]
   . have hsv:mD c x.service=some s:=e1;rw [e2] at n3;simp +decide [gZ,hb,hb2,hn,n1,n3,h0,aL,aC,bR,aH,Tr.mute,ja,eH,a1,a0n,hk,hnm,c1,hsv,hw]
 . obtain ⟨bs,rfl,hb⟩:=hI;simp [gZ,hb]
theorem cg3:TX 81=some Rt:=by kernel_rfl
theorem cc2:aP 81=true:=by kernel_rfl
theorem ah7 (c:Cfg)(hc:c.wf big)(hE:FindX E c)(h:Hp):Sm E TX aP 81 [c.v] h=some (bl (gY c),h):=by
 obtain ⟨h',⟨bs,rfl,hb⟩,k1⟩:=ab1 c hc hE;have he:gm (d9 c) 0 c.pods.l=gY c:=by
  have:d9 c=λi x=>dK Pod.uid c.pods.l i x&&(λ_ x=>!bu c x) i x:=rfl;rw [this,nL,oG,qX,gY,Bool.and_comm]
 rw [he] at k1;rw [aY cg3 cc2];simp at k1;simp [ae,Rt];rw [ai];simp [k1];cases gY c<;>simp
theorem cg5:TX 82=some Ru:=by kernel_rfl
theorem cc3:aP 82=true:=by kernel_rfl
theorem ah8 (c:Cfg)(hc:c.wf big)(hE:FindX E c)(h:Hp):Sm E TX aP 82 [c.v] h=some (bl (bU c),h):=by
 obtain ⟨h',⟨bs,rfl,hb⟩,k1⟩:=ab2 c hc hE;have he:gm (gT c) 0 c.services.l=bU c:=by
  have:gT c=λi x=>dK Svc.id c.services.l i x&&(λ_ x=>!eZ c x) i x:=rfl;rw [this,nL,oG,qX,bU,Bool.and_comm]
 rw [he] at k1;rw [aY cg5 cc3];simp at k1;simp [ae,Ru];rw [ai];simp [k1];cases bU c<;>simp
theorem cg8:TX 85=some Rx:=by kernel_rfl
theorem cc6:aP 85=true:=by kernel_rfl
theorem ai1 (c:Cfg)(hc:c.wf big)(hE:FindX E c)(h:Hp):Sm E TX aP 85 [c.v] h=some (bl (bN c),h):=by
 obtain ⟨h',⟨bs,rfl,hb⟩,k1⟩:=ab4 c hc hE;have he:gm (ja c) 0 c.policies.l=bN c:=by
  have:ja c=λi x=>dK Pol.id c.policies.l i x&&(λ_ x=>!eH c x) i x:=rfl;rw [this,nL,oG,qX,bN,Bool.and_comm]
 rw [he] at k1;rw [aY cg8 cc6];simp at k1;simp [ae,Rx];rw [ai];simp [k1];cases bN c<;>simp
end
section
variable {E:Calls'}
theorem Uq (c:Cfg)(hc:c.ok)(hsm:c.pods.l.length<=2 ^ 20):∀ (m i:Nat) (acc:List Int) (bs:List Blk) (lo:Nat) (v:V),i+m=c.pods.l.length->acc.length=i+1->Ar c acc bs v →
 ∃ v' bs' lo',Cd E TX aP (.loop [1,3,4] oV) [(1,.ptr 0 0),(3,v),(4,.d (i64 i))] ⟨bs,lo⟩ =
  some (.exit 0,[(1,.ptr 0 0),(3,v')],⟨bs',lo'⟩)/\Ar c (acc++(c.pods.l.drop i).map Pod.addr) bs' v':=by
 have hlt:=hc.1.lt;intro m;have key:=aB (E:=E) (T:=TX) (val:=aP) [1,3,4] oV;generalize Cd E TX aP (.loop [1,3,4] oV)=W at key ⊢
 induction m with
 | zero =>
  intro i acc bs lo v hi ha hA;refine ⟨v,bs,lo,?_,by rw [aw (by omega)]; simpa using hA⟩;rw [key];simp [oV,hA.c0,show ¬ ((i:Int)<c.pods.l.length) from by omega]
 | succ m ih =>
  intro i acc bs lo v hi ha hA;have h1:i<c.pods.l.length:=by omega
  have hx:=λh=>aA (z:=7) h (ab h1) (cells:=Pod.c) rfl;have hw:=ax h1 hlt;have hnu:=hA.nu;rw [aq h1];generalize c.pods.l[i]=p at *;have hA2:=hA.lay [.cells [iv .u32 p.addr]];obtain ⟨v1,bs1,lo1,k1,k2⟩:=hA2.app (by show _<2 ^ 30; omega) lo (x:=p.addr) (r:=bs.length) (cap:=some 1) (by simp);have hnu1:=k2.nu;obtain ⟨v',bs',lo',q1,q2⟩:=ih (i+1) (acc++[p.addr]) bs1 lo1 v1 (by omega) (by simp; omega) k2;refine ⟨v',bs',lo',?_,by simpa using q2⟩;rw [key];simp [iv] at k1;simp [oV,hA.c0,hx,hnu,az,k1,hnu1,hw,show ((i:Int)<c.pods.l.length) from by omega];simpa using q1
theorem Ur (c:Cfg)(hc:c.ok)(n:Nat)(hn:n<=2 ^ 20)(hsm:c.services.l.length<=2 ^ 20):∀ (m i:Nat) (acc:List Int) (bs:List Blk) (lo:Nat) (v:V),i+m=c.services.l.length->acc.length=n+i+1->Ar c acc bs v →
 ∃ v' bs' lo',Cd E TX aP (.loop [1,3,5] oW) [(1,.ptr 0 0),(3,v),(5,.d (i64 i))] ⟨bs,lo⟩ =
  some (.exit 2,[(3,v')],⟨bs',lo'⟩)/\Ar c (acc++(c.services.l.drop i).map Svc.addr) bs' v':=by
 have hlt:=hc.2.1.lt;intro m;have key:=aB (E:=E) (T:=TX) (val:=aP) [1,3,5] oW;generalize Cd E TX aP (.loop [1,3,5] oW)=W at key ⊢
 induction m with
 | zero =>
  intro i acc bs lo v hi ha hA;refine ⟨v,bs,lo,?_,by rw [aw (by omega)]; simpa using hA⟩;rw [key];simp [oW,hA.c0,show ¬ ((i:Int)<c.services.l.length) from by omega]
 | succ m ih =>
  intro i acc bs lo v hi ha hA;have h1:i<c.services.l.length:=by omega
  have hx:=λh=>aA (z:=5) h (ab h1) (cells:=Svc.c) rfl;have hw:=ax h1 hlt;have hnu:=hA.nu;rw [aq h1];generalize c.services.l[i]=p at *;have hA2:=hA.lay [.cells [iv .u32 p.addr]];obtain ⟨v1,bs1,lo1,k1,k2⟩:=hA2.app (by show _<2 ^ 30; omega) lo (x:=p.addr) (r:=bs.length) (cap:=some 1) (by simp);have hnu1:=k2.nu;obtain ⟨v',bs',lo',q1,q2⟩:=ih (i+1) (acc++[p.addr]) bs1 lo1 v1 (by omega) (by simp; omega) k2;refine ⟨v',bs',lo',?_,by simpa using q2⟩;rw [key];simp [iv] at k1;simp [oW,hA.c0,hx,hnu,az,k1,hnu1,hw,show ((i:Int)<c.services.l.length) from by omega];simpa using q1
section
variable {bs:List Blk}{b lo:Nat}{l:List Int}(hb:aa bs b=some (l.map (iv .u32)))(hl:l.length<2 ^ 62){cap:Option Nat}
include hb hl
theorem Us {i:Nat}{x:Int}(hx:l[i]?=some x)(hi:i<l.length):Cd E TX aP (.loop [3,6,7] rY) [(3,.row b 0 l.length cap 1),(6,.d (i64 i)),(7,.d (i64 ((0:Nat):Int)))] ⟨bs,lo⟩=some (cond ((l.take i).all λy=>!(y==x)) (.exit 6,[(3,.row b 0 l.length cap 1),(6,.d (i64 i))],⟨bs,lo⟩) (.ret,[(2,bl false)],⟨bs,lo⟩)):=by
 have hlen:(l.take i).length=i:=by simp; omega
 have hix:=λh=>jU (b:=b) (o:=0) (z:=1) (cap:=cap) (kd:=.i64) (h:=h) hi;have hld:=zU (lo:=lo) hb hi;have hxi:l[i]=x:=by rw [ab hi] at hx; exact ct hx
 rw [hxi] at hld;simp only [Nat.mul_one,Nat.zero_add] at hix;refine dz (l.take i) (λy=>!(y==x)) (λk=>[(3,.row b 0 l.length cap 1),(6,.d (i64 i)),(7,.d (i64 k))]) _ _ _ (λk y hy hk W=>?_) (λW=>?_)
 . have hki:k<i:=by omega
   have hkl:k<l.length:=by omega
   have hy':l[k]=y:=by rw [List.getElem?_take,if_pos hki,ab hkl] at hy; exact ct hy
   have hjx:=λh=>jU (b:=b) (o:=0) (z:=1) (cap:=cap) (kd:=.i64) (h:=h) hkl;have hjd:=zU (lo:=lo) hb hkl;rw [hy'] at hjd;simp only [Nat.mul_one,Nat.zero_add] at hjx;have hw:=ax hki (Nat.lt_trans hi hl);have h0:((k:Int)<(i:Int)):=by omega
   by_cases he:y=x
   . subst he;simp [rY,hix,hld,hjx,hjd,h0,-dw]
   . simp [rY,hix,hld,hjx,hjd,h0,hw,he,-dw]
 . simp only [hlen];simp [rY]
theorem Ut:Cd E TX aP (.loop [3,6] vk) [(3,.row b 0 l.length cap 1),(6,.d (i64 ((0:Nat):Int)))] ⟨bs,lo⟩=some (cond (gm (λi x=>(l.take i).all λy=>!(y==x)) 0 l) (.exit 4,[],⟨bs,lo⟩) (.ret,[(2,bl false)],⟨bs,lo⟩)):=by
 refine tL l _ (λi=>[(3,.row b 0 l.length cap 1),(6,.d (i64 i))]) _ _ _ (λi x hx hi W=>?_) (λW=>?_)
 . have k:=Us (E:=E) (lo:=lo) hb hl (cap:=cap) hx hi;have hw:=ax hi hl;have h0:((i:Int)<l.length):=by omega
   generalize ((l.take i).all λy=>!(y==x))=G at *;simp only [Int.natCast_zero] at k;simp [vk,h0];rw [ai];simp [k];cases G<;>simp [hw]
 . simp [vk]
end
theorem Ay {L:List Int}:∀ (m pre:List Int),L=pre++m->gm (λi x=>(L.take i).all λy=>!(y==x)) pre.length m=!dup pre m
 | [],_,_=>rfl
 | x::m,pre,h=>by
  have ih:=Ay (L:=L) m (pre++[x]) (by simp [h]);have ht:L.take pre.length=pre:=by rw [h]; simp
  rw [ao] at ih;rw [gm,dup,Bool.not_or,← ih,ht]
  congr 1
  rw [List.not_any_eq_all_not]
  congr 1
  funext y;rw [Bool.eq_iff_iff];simp only [Bool.not_eq_true',beq_eq_false_iff_ne];exact ⟨Ne.symm,Ne.symm⟩
theorem cg6:TX 83=some Rv:=by kernel_rfl
theorem cc4:aP 83=true:=by kernel_rfl
theorem ah9 (c:Cfg)(hc:c.wf 1048576)(h:Hp):Sm E TX aP 83 [c.v] h=some (bl (jI c),h):=by
 have hok:c.ok:=hc.ok (by decide);have f1:c.pods.l.length<=2 ^ 20:=hc.2.2.2.2.1.1.1;have f2:c.services.l.length<=2 ^ 20:=hc.2.2.2.2.2.1.1.1;have hA:Ar c [0] [.cells (c.c.map .d),.cells [iv .u32 0]] (.row 1 0 1 (some 1) 1):=⟨by simp,⟨1,some 1,by omega,rfl,by simp,.inr rfl⟩,by simp⟩;obtain ⟨v1,bs1,lo1,a1,a2⟩:=Uq (E:=E) c hok f1 c.pods.l.length 0 [0] _ 0 _ (by omega) rfl hA;simp only [List.drop_zero] at a2;obtain ⟨v2,bs2,lo2,b1,b2⟩:=Ur (E:=E) c hok c.pods.l.length f1 f2 c.services.l.length 0 _ bs1 lo1 v1 (by omega) (by simp) a2;simp only [List.drop_zero] at b2;have hl:([0]++c.pods.l.map Pod.addr++c.services.l.map Svc.addr)=0::(c.pods.l.map Pod.addr++c.services.l.map Svc.addr):=by simp
 rw [hl] at b2;have hlen:(0::(c.pods.l.map Pod.addr++c.services.l.map Svc.addr)).length<2 ^ 62:=by simp; omega
 unfold jI;generalize (0::(c.pods.l.map Pod.addr++c.services.l.map Svc.addr))=L at *;obtain ⟨b,cap,p1,rfl,p3,p4⟩:=b2.is;have d1:=Ut (E:=E) (lo:=lo2) p3 hlen (cap:=cap);have hd:=Ay (L:=L) L [] rfl;simp only [ck] at hd;rw [hd] at d1;generalize (!dup [] L)=G at *;rw [aY cg6 cc4];simp [iv] at a1;simp at b1 d1;simp [ae,Rv,az];rw [ai];simp [a1];rw [ai];simp [b1];rw [ai];simp [d1];cases G<;>simp
def jy (c:Cfg)(i:Nat)(w:Way):Bool:=dK Way.id c.bound.l i w&&!iM c (c.bound.l.take i) w
theorem Fu (c:Cfg):∀ (m pre:List Way),c.bound.l=pre++m->gm (λi x=>!iM c (c.bound.l.take i) x) pre.length m=!iI c pre m
 | [],_,_=>rfl
 | x::m,pre,h=>by
  have ih:=Fu c m (pre++[x]) (by simp [h]);have ht:c.bound.l.take pre.length=pre:=by rw [h]; simp
  rw [ao] at ih;rw [gm,iI,Bool.not_or,← ih,ht];rfl
theorem ab3 (c:Cfg)(hok:c.ok){bs:List Blk}(hb:aa bs 0=some (c.c.map .d)){i:Nat}{x:Way}(hx:c.bound.l[i]?=some x)(hi:i<c.bound.l.length) :
 Cd E TX aP (.loop [1,3,4,5] vv) [(1,.ptr 0 0),(3,.d (i64 i)),(4,.ptr bs.length 0),(5,.d (i64 ((0:Nat):Int)))] ⟨bs++[.cells (x.c.map .d)],0⟩ =
  some (cond ((c.bound.l.take i).all λy=>!(y.node==x.node)) (.exit 2,[(1,.ptr 0 0),(3,.d (i64 i))],⟨bs++[.cells (x.c.map .d)],0⟩) (.ret,[(2,bl false)],⟨bs++[.cells (x.c.map .d)],0⟩)):=by
 have hlen:(c.bound.l.take i).length=i:=by simp; omega
 have hb2:=λys=>ay (ys:=ys) hb;refine dz (c.bound.l.take i) (λy=>!(y.node==x.node)) (λk=>[(1,.ptr 0 0),(3,.d (i64 i)),(4,.ptr bs.length 0),(5,.d (i64 k))]) _ _ _ (λk y hy hk W=>?_) (λW=>?_)
 . have hki:k<i:=by omega
   have hy':c.bound.l[k]?=some y:=by rw [List.getElem?_take] at hy; simpa [hki] using hy
   have hn:=λh=>aA (z:=2) h hy' (cells:=Way.c) rfl;have hw:=ax hki (Nat.lt_trans hi hok.2.2.1.lt);have h0:((k:Int)<(i:Int)):=by omega
   by_cases he:y.node=x.node<;>simp [vv,hb2,hn,h0,hw,he]
 . simp only [hlen];simp [vv]
theorem cg7:TX 84=some Rw:=by kernel_rfl
theorem cc5:aP 84=true:=by kernel_rfl
theorem ac9 (c:Cfg)(hc:c.wf big):∃ h',(∃ bs,h'=⟨bs,0⟩/\aa bs 0=some (c.c.map .d))/\Cd E TX aP (.loop [1,3] iH) [(1,.ptr 0 0),(3,.d (i64 ((0:Nat):Int)))] ⟨[.cells (c.c.map .d)],0⟩=some (cond (gm (jy c) 0 c.bound.l) (.exit 0,[],h') (.ret,[(2,bl false)],h')):=by
 have hok:=hc.ok (bo _);have hl:c.bound.l.length<2 ^ 62:=hok.2.2.1.lt;refine oI c.bound.l (jy c) (λi=>[(1,.ptr 0 0),(3,.d (i64 i))]) (λh=>∃ bs,h=⟨bs,0⟩/\aa bs 0=some (c.c.map .d)) (.ret,[(2,bl false)]) (.exit 0,[]) (λi x hx hi h hI=>?_) (λh hI W=>?_) _ ⟨_,rfl,by simp⟩
 . obtain ⟨bs,rfl,hb⟩:=hI;have hn:=λh=>aA (z:=2) h hx (cells:=Way.c) rfl;have hw:=ax hi hl;have h0:((i:Int)<c.bound.l.length):=by omega
   have hb2:=λys=>ay (ys:=ys) hb;have k:=ab3 (E:=E) c hok hb hx hi;refine ⟨⟨bs++[.cells (x.c.map .d)],0⟩,⟨_,rfl,ay hb⟩,λW=>?_⟩;have hA:((c.bound.l.take i).any λv=>v.node==x.node)=!((c.bound.l.take i).all λy=>!(y.node==x.node)):=by
    rw [List.not_all_eq_any_not]; congr 1; funext y; rw [Bool.not_not]
   generalize ((c.bound.l.take i).all λy=>!(y.node==x.node))=G at *;simp only [Int.natCast_zero] at k;by_cases a1:x.id<1
   case pos=>simp [iH,hb,hn,h0,jy,iM,di,a1,show ¬ (x.id>=1) from by omega]
   by_cases a2:x.id>4611686018427387903
   case pos=>simp [iH,hb,hn,h0,jy,iM,di,a1,show x.id>=1 from by omega,a2,show ¬ (x.id<=4611686018427387903) from by omega]
   by_cases a0:(i:Int)>0
   case pos =>
    have a0n:(0<i)=True:=by simp; omega
    obtain ⟨y,j,hij,hy,hj⟩:=ve hl hi a0;have hp:=λh=>aA (z:=2) h hy (cells:=Way.c) rfl;have hk:dK Way.id c.bound.l i x=decide (y.id<x.id):=by subst hij; simp only [dK,hy]
    by_cases a01:x.id<=y.id
    case pos=>simp [iH,hb,hb2,hn,h0,jy,iM,di,a1,show x.id>=1 from by omega,a2,show x.id<=4611686018427387903 from by omega,a0n,hj,hp,hk,a01,show ¬ (y.id<x.id) from by omega]
    by_cases b1:x.node<wrap .i64 (c.hosts+2)
    case pos=>simp [iH,hb,hb2,hn,h0,jy,iM,di,a1,show x.id>=1 from by omega,a2,show x.id<=4611686018427387903 from by omega,a0n,hj,hp,hk,a01,show (y.id<x.id) from by omega,b1]
    by_cases b2:x.node>wrap .i64 (wrap .i64 (c.hosts+1)+c.ways)
    case pos=>simp [iH,hb,hb2,hn,h0,jy,iM,di,a1,show x.id>=1 from by omega,a2,show x.id<=4611686018427387903 from by omega,a0n,hj,hp,hk,a01,show (y.id<x.id) from by omega,b1,b2]
    simp [iH,hb,hb2,hn,h0,jy,iM,di,a1,show x.id>=1 from by omega,a2,show x.id<=4611686018427387903 from by omega,a0n,hj,hp,hk,a01,show (y.id<x.id) from by omega,b1,b2];rw [ai];simp [k,hA];cases G<;>simp [hw]
   have hk:dK Way.id c.bound.l i x=true:=oM a0;have a0n:(0<i)=False:=by simp; omega
   by_cases b1:x.node<wrap .i64 (c.hosts+2)
   case pos=>simp [iH,hb,hb2,hn,h0,jy,iM,di,a1,show x.id>=1 from by omega,a2,show x.id<=4611686018427387903 from by omega,a0n,hk,b1]
   by_cases b2:x.node>wrap .i64 (wrap .i64 (c.hosts+1)+c.ways)
   case pos=>simp [iH,hb,hb2,hn,h0,jy,iM,di,a1,show x.id>=1 from by omega,a2,show x.id<=4611686018427387903 from by omega,a0n,hk,b1,b2]
   simp [iH,hb,hb2,hn,h0,jy,iM,di,a1,show x.id>=1 from by omega,a2,show x.id<=4611686018427387903 from by omega,a0n,hk,b1,b2];rw [ai];simp [k,hA];cases G<;>simp [hw]
 . obtain ⟨bs,rfl,hb⟩:=hI;simp [iH,hb]
theorem ai0 (c:Cfg)(hc:c.wf big)(h:Hp):Sm E TX aP 84 [c.v] h=some (bl (eU c),h):=by
 obtain ⟨h',⟨bs,rfl,hb⟩,k1⟩:=ac9 (E:=E) c hc;have he:gm (jy c) 0 c.bound.l=eU c:=by
  have:jy c=λi x=>dK Way.id c.bound.l i x&&(λi x=>!iM c (c.bound.l.take i) x) i x:=rfl;have h2:=Fu c c.bound.l [] rfl;simp only [ck] at h2;rw [this,nL,oG,h2,eU,Bool.and_comm]
 rw [he] at k1;rw [aY cg7 cc5];simp at k1;simp [ae,Rw];rw [ai];simp [k1];cases eU c<;>simp
theorem x97:TX 26=some q97:=by kernel_rfl
theorem w97:aP 26=true:=by kernel_rfl
theorem S97 (c:Cfg)(h:Hp):Sm E TX aP 26 [c.v] h=some (bl (jm c),h):=by
 unfold jm;rw [aY x97 w97];by_cases a1:(c.pods.l.length:Int)<=16
 case neg=>simp [ae,q97,au,a1]
 by_cases a2:(c.services.l.length:Int)<=6
 case neg=>simp [ae,q97,au,a1,a2]
 by_cases a3:(c.bound.l.length:Int)<=4
 case neg=>simp [ae,q97,au,a1,a2,a3]
 simp [ae,q97,au,a1,a2,a3]
theorem x98:TX 27=some q98:=by kernel_rfl
theorem w98:aP 27=true:=by kernel_rfl
theorem S98 (c:Cfg)(hc:c.wf 1048576)(hcb:c.wf big)(hE:FindX E c)(h:Hp):Sm E TX aP 27 [c.v] h=some (bl (kP c),h):=by
 have n1:=λh=>ah7 c hcb hE h;have n2:=λh=>ah8 c hcb hE h;have n3:=λh=>ah9 (E:=E) c hc h;have n4:=λh=>ai0 (E:=E) c hcb h;have n5:=λh=>ai1 c hcb hE h;unfold kP kg;generalize gY c=A at *;generalize bU c=B at *;generalize jI c=C at *;generalize eU c=D at *;generalize bN c=F at *;rw [aY x98 w98];by_cases a1:c.epoch>4611686018427387903
 case pos=>simp +decide [ae,q98,au,a1,show ¬ (c.epoch<=4611686018427387903) from by omega]
 by_cases a2:c.next<10
 case pos=>simp +decide [ae,q98,au,a1,show c.epoch<=4611686018427387903 from by omega,a2,show ¬ (c.next>=10) from by omega]
 by_cases a3:c.next>4611686018427387904
 case pos=>simp +decide [ae,q98,au,a1,show c.epoch<=4611686018427387903 from by omega,a2,show c.next>=10 from by omega,a3,show ¬ (c.next<=4611686018427387904) from by omega]
 by_cases a4:c.hosts<1
 case pos=>simp +decide [ae,q98,au,a1,show c.epoch<=4611686018427387903 from by omega,a2,show c.next>=10 from by omega,a3,show c.next<=4611686018427387904 from by omega,a4,show ¬ (c.hosts>=1) from by omega]
 by_cases a5:c.hosts>4
 case pos=>simp +decide [ae,q98,au,a1,show c.epoch<=4611686018427387903 from by omega,a2,show c.next>=10 from by omega,a3,show c.next<=4611686018427387904 from by omega,a4,show c.hosts>=1 from by omega,a5,show ¬ (c.hosts<=4) from by omega]
 by_cases a6:c.ways<0
 case pos=>simp +decide [ae,q98,au,a1,show c.epoch<=4611686018427387903 from by omega,a2,show c.next>=10 from by omega,a3,show c.next<=4611686018427387904 from by omega,a4,show c.hosts>=1 from by omega,a5,show c.hosts<=4 from by omega,a6,show ¬ (c.ways>=0) from by omega]
 by_cases a7:c.ways>4
 case pos=>simp +decide [ae,q98,au,a1,show c.epoch<=4611686018427387903 from by omega,a2,show c.next>=10 from by omega,a3,show c.next<=4611686018427387904 from by omega,a4,show c.hosts>=1 from by omega,a5,show c.hosts<=4 from by omega,a6,show c.ways>=0 from by omega,a7,show ¬ (c.ways<=4) from by omega]
 cases A
 case false=>simp +decide [ae,q98,au,a1,show c.epoch<=4611686018427387903 from by omega,a2,show c.next>=10 from by omega,a3,show c.next<=4611686018427387904 from by omega,a4,show c.hosts>=1 from by omega,a5,show c.hosts<=4 from by omega,a6,show c.ways>=0 from by omega,a7,show c.ways<=4 from by omega,n1]
 cases B
 case false=>simp +decide [ae,q98,au,a1,show c.epoch<=4611686018427387903 from by omega,a2,show c.next>=10 from by omega,a3,show c.next<=4611686018427387904 from by omega,a4,show c.hosts>=1 from by omega,a5,show c.hosts<=4 from by omega,a6,show c.ways>=0 from by omega,a7,show c.ways<=4 from by omega,n1,n2]
 cases C
 case false=>simp +decide [ae,q98,au,a1,show c.epoch<=4611686018427387903 from by omega,a2,show c.next>=10 from by omega,a3,show c.next<=4611686018427387904 from by omega,a4,show c.hosts>=1 from by omega,a5,show c.hosts<=4 from by omega,a6,show c.ways>=0 from by omega,a7,show c.ways<=4 from by omega,n1,n2,n3]
 cases D
 case false=>simp +decide [ae,q98,au,a1,show c.epoch<=4611686018427387903 from by omega,a2,show c.next>=10 from by omega,a3,show c.next<=4611686018427387904 from by omega,a4,show c.hosts>=1 from by omega,a5,show c.hosts<=4 from by omega,a6,show c.ways>=0 from by omega,a7,show c.ways<=4 from by omega,n1,n2,n3,n4]
 simp +decide [ae,q98,au,a1,show c.epoch<=4611686018427387903 from by omega,a2,show c.next>=10 from by omega,a3,show c.next<=4611686018427387904 from by omega,a4,show c.hosts>=1 from by omega,a5,show c.hosts<=4 from by omega,a6,show c.ways>=0 from by omega,a7,show c.ways<=4 from by omega,n1,n2,n3,n4,n5]
end
section
variable {E:Calls'}
theorem MB {l:List V}{i:Nat}{x:V}(h:i<l.length):put l i [x]=some (l.set i x):=by
 simp only [put,cj,ck];rw [if_pos (by omega),List.set_eq_take_append_cons_drop,if_pos h];simp
theorem Fh {l:List V}{i:Nat}(h:i<l.length):sub l i 1=some [l[i]]:=by
 rw [iy,if_pos (by omega),aq h]; rfl
def jf (x:Int)(j:Nat):Int:=x / 128 ^ j % 128
theorem IX (x:Int)(j:Nat):0<=jf x j/\jf x j<128:=⟨Int.emod_nonneg _ (by decide),Int.emod_lt_of_pos _ (by decide)⟩
def kN (x:Int):Nat->Nat
 | 0=>0
 | i+1=>if jf x i>0 then i else kN x i
theorem zI (x:Int):∀ i,kN x i<=i-1
 | 0=>bo _
 | i+1=>by
  have:=zI x i;simp only [kN];split<;>omega
def eF (f:Nat->Int):List V:=(List.range 10).map λj=>iv .u8 (f j)
theorem wh (f:Nat->Int):(eF f).length=10:=by simp [eF]
theorem Ls (f:Nat->Int){i:Nat}(h:i<10):sub (eF f) i 1=some [iv .u8 (f i)]:=by
 rw [Fh (by rw [wh]; exact h)];simp [eF]
theorem Ir (f:Nat->Int){i:Nat}(h:i<10)(y:Int):put (eF f) i [iv .u8 y]=some (eF λj=>if j=i then y else f j):=by
 rw [MB (by rw [wh]; exact h)]
 congr 1
 apply List.ext_getElem
 . simp [eF]
 . intro n h1 h2;rw [List.getElem_set];simp only [eF,List.getElem_map,List.getElem_range];by_cases hn:i=n
   . simp [hn]
   . rw [if_neg hn,if_neg (λh=>hn h.symm)]
theorem qh {f g:Nat->Int}(h:∀ j,j<10->f j=g j):eF f=eF g:=by
 simp only [eF];apply List.map_congr_left;intro j hj;rw [h j (by simpa using hj)]
theorem EL {b i:Nat}(h:i<10)(hp:Hp):eY (some 10) 1 (.ptr b 0) (.d (.int .i64 (i:Int))) hp=some (.ptr b i,hp):=by
 simp only [eY];rw [if_pos ⟨by omega,by omega⟩];simp
theorem Jr {bs:List Blk}{b lo i:Nat}{f:Nat->Int}(hb:aa bs b=some (eF f))(h:i<10):ldv ⟨bs,lo⟩ (.ptr b i) 1 true=some (.d (.int .u8 (f i)),⟨bs,lo⟩):=by
 rw [dw,get_eq];show (match (match aa bs b with | some cs=>sub cs i 1 | none=>none) with | some cs=>_ | none=>none)=_;rw [hb];simp only [Ls f h]; rfl
theorem Ky {bs:List Blk}{b lo i:Nat}{f:Nat->Int}(hb:aa bs b=some (eF f))(h:i<10)(y:Int):stv ⟨bs,lo⟩ (.ptr b i) (.d (.int .u8 y)) 1=some (.undef,⟨bs.set b (.cells (eF λj=>if j=i then y else f j)),min lo b⟩):=by
 have hp:=Ir f h y;simp only [iv] at hp;simp [sP,Cr,hb,hp,-kU,-jQ]
def Qs (a b:Int):Int:=wrap .u64 ((BitVec.ofInt 64 a &&& BitVec.ofInt 64 b).toNat)
theorem yw {a b:Int}:bK .and (.d (.int .u64 a)) (.d (.int .u64 b))=some (.int .u64 (Qs a b)):=by
 simp only [bK,fB,if_true];rfl
theorem Lm {x:Int}(h0:0<=x)(h1:x<2 ^ 64):Qs x 127=x % 128:=by
 obtain ⟨n,rfl⟩:=Int.eq_ofNat_of_zero_le h0;have e:(BitVec.ofInt 64 (n:Int) &&& BitVec.ofInt 64 127).toNat=n % 128:=by
  rw [show (127:Int)=((127:Nat):Int) from rfl,BitVec.ofInt_natCast,BitVec.ofInt_natCast,BitVec.toNat_and,BitVec.toNat_ofNat,BitVec.toNat_ofNat];rw [Nat.mod_eq_of_lt (show n<2 ^ 64 by omega),show 127 % 2 ^ 64=2 ^ 7-1 from rfl,Nat.and_two_pow_sub_one_eq_mod]
 rw [Qs,e];simp [wrap,IntKind.bits,IntKind.signed];omega
theorem AC {x:Int}:bK .shr (.d (.int .u64 x)) (.d (.int .u64 7))=some (.int .u64 (x.fdiv 128)):=by simp [bK,IntKind.bits]
theorem Mv {x:Int}(h0:0<=x)(i:Nat):(x / 128 ^ i).fdiv 128=x / 128 ^ (i+1):=by
 have hp:(0:Int)<128 ^ i:=Int.pow_pos (by omega);rw [Int.fdiv_eq_ediv_of_nonneg _ (by omega),Int.ediv_ediv_of_nonneg (by omega),Int.pow_succ]
def jS (x:Int)(i j:Nat):Int:=if j<i then jf x j else 0
theorem ab8 {x:Int}(h0:0<=x)(h1:x<2 ^ 64)(bs:List Blk):∀ (m i:Nat) (ys:List Blk),i+m=10->ys=[.cells (eF (jS x i))] →
 Cd E TX aP (.loop [0,3,4,5] mY) [(0,.d (u64 (x / 128 ^ i))),(3,.ptr bs.length 0),(4,.d (i64 (kN x i:Nat))),(5,.d (i64 i))] ⟨bs++ys,bs.length⟩ =
  some (.exit 0,[(3,.ptr bs.length 0),(4,.d (i64 (kN x 10:Nat)))],⟨bs++[.cells (eF (jS x 10))],bs.length⟩):=by
 intro m;have key:=aB (E:=E) (T:=TX) (val:=aP) [0,3,4,5] mY;generalize Cd E TX aP (.loop [0,3,4,5] mY)=W at key ⊢
 induction m with
 | zero =>
  intro i ys hi hy;have:i=10:=by omega
  subst this;subst hy;rw [key];simp [mY]
 | succ m ih =>
  intro i ys hi hy;have hi10:i<10:=by omega
  have hxi0:0<=x / 128 ^ i:=Int.ediv_nonneg h0 (Int.le_of_lt (Int.pow_pos (by omega)));have hxi1:x / 128 ^ i<2 ^ 64:=Int.lt_of_le_of_lt (Int.ediv_le_self _ h0) h1;have hand:=Lm hxi0 hxi1;have hdig:x / 128 ^ i % 128=jf x i:=rfl;have hw8:wrap .u8 (jf x i)=jf x i:=by rw [wrap_u8]; omega
  have hsh:=Mv h0 i;have hw:wrap .i64 ((i:Int)+1)=((i+1:Nat):Int):=by rw [wrap64]<;>omega
  have hb:aa (bs++ys) bs.length=some (eF (jS x i)):=by subst hy; simp
  have hst:=Ky (lo:=bs.length) hb hi10 (jf x i);have hcong:(eF λj=>if j=i then jf x i else jS x i j)=eF (jS x (i+1)):=qh λj hj=>by
   simp only [jS];by_cases h2:j=i
   . subst h2; simp
   . rw [if_neg h2];by_cases h3:j<i
     . rw [if_pos h3,if_pos (by omega)]
     . rw [if_neg h3,if_neg (by omega)]
  have hset:(bs++ys).set bs.length (.cells (eF λj=>if j=i then jf x i else jS x i j))=bs++[.cells (eF (jS x (i+1)))]:=by
   subst hy; rw [hcong]; simp
  rw [hset,Nat.min_self] at hst;have hb2:aa (bs++[.cells (eF (jS x (i+1)))]) bs.length=some (eF (jS x (i+1))):=by simp
  have hld:=λlo=>Jr (lo:=lo) hb2 hi10;have hsi:jS x (i+1) i=jf x i:=by simp [jS]
  rw [hsi] at hld;have hix:=λh=>EL (b:=bs.length) hi10 h;have h10:((i:Int)<10):=by omega
  have k:=ih (i+1) _ (by omega) rfl;rw [← k,key];by_cases hd:jf x i>0
  . have hl:kN x (i+1)=i:=by simp [kN,hd]
    simp [mY,h10,yw,hand,hdig,hw8,hix,hst,AC,hsh,hld,hd,hl,hw,-sP,-dw]
  . have hl:kN x (i+1)=kN x i:=by simp [kN,hd]
    simp [mY,h10,yw,hand,hdig,hw8,hix,hst,AC,hsh,hld,hd,hl,hw,-sP,-dw]
def kZ (x:Int)(i j:Nat):Int:=if j<i then jf x j+128 else jf x j
theorem ad2 {x:Int}(bs:List Blk)(n:Nat)(hn:n<=9):∀ (m i:Nat) (ys:List Blk),i+m=n->ys=[.cells (eF (kZ x i))] →
 Cd E TX aP (.loop [3,4,6] pg) [(3,.ptr bs.length 0),(4,.d (i64 (n:Nat))),(6,.d (i64 i))] ⟨bs++ys,bs.length⟩ =
  some (.exit 2,[(3,.ptr bs.length 0),(4,.d (i64 (n:Nat)))],⟨bs++[.cells (eF (kZ x n))],bs.length⟩):=by
 intro m;have key:=aB (E:=E) (T:=TX) (val:=aP) [3,4,6] pg;generalize Cd E TX aP (.loop [3,4,6] pg)=W at key ⊢
 induction m with
 | zero =>
  intro i ys hi hy;have:i=n:=by omega
  subst this;subst hy;rw [key];simp [pg]
 | succ m ih =>
  intro i ys hi hy;have hi10:i<10:=by omega
  have hdr:=IX x i;have hw8:wrap .u8 (jf x i+128)=jf x i+128:=by rw [wrap_u8]; omega
  have hw:wrap .i64 ((i:Int)+1)=((i+1:Nat):Int):=by rw [wrap64]<;>omega
  have hb:aa (bs++ys) bs.length=some (eF (kZ x i)):=by subst hy; simp
  have hld:=Jr (lo:=bs.length) hb hi10;have hsi:kZ x i i=jf x i:=by simp [kZ]
  rw [hsi] at hld;have hst:=Ky (lo:=bs.length) hb hi10 (jf x i+128);have hcong:(eF λj=>if j=i then jf x i+128 else kZ x i j)=eF (kZ x (i+1)):=qh λj hj=>by
   simp only [kZ];by_cases h2:j=i
   . subst h2; simp
   . rw [if_neg h2];by_cases h3:j<i
     . rw [if_pos h3,if_pos (by omega)]
     . rw [if_neg h3,if_neg (by omega)]
  have hset:(bs++ys).set bs.length (.cells (eF λj=>if j=i then jf x i+128 else kZ x i j))=bs++[.cells (eF (kZ x (i+1)))]:=by
   subst hy; rw [hcong]; simp
  rw [hset,Nat.min_self] at hst;have hix:=λh=>EL (b:=bs.length) hi10 h;have h10:((i:Int)<(n:Int)):=by omega
  have k:=ih (i+1) _ (by omega) rfl;rw [← k,key];simp [pg,h10,hix,hld,hw8,hst,hw,-sP,-dw]
theorem xK:∀ (k:Nat) (x:Int),0<=x->iw k x=(List.range k).map (λj=>jf x j+128)++[wrap .u8 (x / 128 ^ k)]
 | 0,x,_=>by simp [iw]
 | k+1,x,h0=>by
  rw [iw,xc,Int.fdiv_eq_ediv_of_nonneg _ (by omega),xK k (x / 128) (by omega),List.range_succ_eq_map,cr,List.cons_append,List.map_map];have e:∀ j,x / 128 / 128 ^ j=x / 128 ^ (j+1):=λj=>by
   rw [Int.ediv_ediv_of_nonneg (by omega),Int.pow_succ,Int.mul_comm]
  congr 2
  . simp [jf]
  . apply List.map_congr_left;intro j _;simp only [jf,Function.comp,e]
  . rw [e]
theorem ES {x:Int}{k:Nat}(hz:∀ j,k<j->jf x j=0)(hk:k=0\/jf x k>0):∀ n,k<n->kN x n=k
 | 0,h=>by omega
 | i+1,h=>by
  simp only [kN];by_cases hi:i=k
  . subst hi;obtain h0 | h0:=hk
    . subst h0;split
      . rfl
      . rfl
    . rw [if_pos h0]
  . rw [hz i (by omega),if_neg (by decide),ES hz hk i (by omega)]
theorem Mc {x:Int}(h0:0<=x)(h1:x<2 ^ 64):kN x 10=(dE x).toNat-1/\x / 128 ^ ((dE x).toNat-1)<128:=by
 have hg:=oH x;obtain ⟨a0,a1,a2⟩:=wR h0 h1;have hl:=rG x;have hgeq:=zD x;generalize hk:(dE x).toNat-1=k;have e:(dE x).toNat=k+1:=by omega
 have hlt:x<128 ^ (k+1):=by
  have h7:(128:Int) ^ (k+1)=2 ^ (7 * (k+1)):=by rw [Int.pow_mul]; rfl
  have hle:(eG x).toNat<=7 * (k+1):=by rw [← e]; split at hgeq<;>omega
  have hpp:(2:Int) ^ (eG x).toNat<=2 ^ (7 * (k+1)):=by exact_mod_cast Nat.pow_le_pow_right (by omega:0<2) hle
  rw [h7]; omega
 have hpk:(0:Int)<128 ^ k:=Int.pow_pos (by omega);have hq:x / 128 ^ k<128:=by
  rw [Int.pow_succ,Int.mul_comm] at hlt;exact (Int.ediv_lt_iff_lt_mul hpk).2 hlt
 refine ⟨ES (λj hj=>?_) ?_ 10 (by omega),hq⟩
 . have h2:(128:Int) ^ (k+1)<=128 ^ j:=by exact_mod_cast Nat.pow_le_pow_right (by omega:0<128) (by omega:k+1<=j)
   rw [jf,Int.ediv_eq_zero_of_lt h0 (by omega)];rfl
 . by_cases hk0:k=0
   . exact .inl hk0
   . refine .inr ?_;have hlen:7 * k+1<=(eG x).toNat:=by split at hgeq<;>omega
     have hx1:1<=x:=by
      obtain h | h:=Int.lt_or_le x 1
      . have hx0:x=0:=by omega
        subst hx0;have:(dE 0).toNat-1=0:=by decide
        omega
      . exact h
     have h3:=a2 hx1;have h4:(2:Int) ^ (7 * k+1)<=2 ^ (eG x).toNat:=by exact_mod_cast Nat.pow_le_pow_right (by omega:0<2) hlen
     have h5:(2:Int) ^ (7 * k+1)=2 * 128 ^ k:=by rw [Int.pow_succ,Int.pow_mul,Int.mul_comm]; rfl
     have h6:(128:Int) ^ k<=x:=by omega
     have h7:1<=x / 128 ^ k:=(Int.le_ediv_iff_mul_le hpk).2 (by omega);rw [jf]; omega
theorem ch5:TX 91=some RY:=by kernel_rfl
theorem cd6:aP 91=false:=by kernel_rfl
theorem Eh {x:Int}(h0:0<=x)(h1:x<2 ^ 64):(aK x).map (iv .u8)=(eF (kZ x (kN x 10))).take (kN x 10+1):=by
 obtain ⟨e1,e2⟩:=Mc h0 h1;rw [aK,← e1,xK _ _ h0];rw [← e1] at e2;have hk:=zI x 10;generalize kN x 10=k at *;have hn:0<=x / 128 ^ k:=Int.ediv_nonneg h0 (Int.le_of_lt (Int.pow_pos (by omega)));apply List.ext_getElem
 . simp [eF]; omega
 . intro n a1 a2;have hn1:n<k+1:=by simp at a1; omega
   simp only [List.getElem_map,List.getElem_take,eF,List.getElem_range]
   congr 1
   by_cases h:n<k
   . rw [List.getElem_append_left (by simpa using h)];simp [kZ,h]
   . have:n=k:=by omega
     subst this;rw [List.getElem_append_right (by simp)];simp only [cc,List.length_range,Nat.sub_self,List.getElem_cons_zero,kZ,jf,wrap_u8];rw [if_neg (by omega)];omega
theorem Vo {x:Int}(h0:0<=x)(h1:x<2 ^ 64)(bs:List Blk):∃ A,∀ lo,Sm E TX aP 91 [.d (u64 x)] ⟨bs,lo⟩=some (.row (bs.length+2) 0 (aK x).length none 1,⟨bs++[.cells A,.cells [],.cells ((aK x).map (iv .u8))],min lo bs.length⟩):=by
 refine ⟨eF (kZ x (kN x 10)),λlo=>?_⟩;have hk:=zI x 10;have k1:=ab8 (E:=E) h0 h1 bs 10 0 [.cells (eF (jS x 0))] rfl rfl;have hs1:eF (jS x 10)=eF (kZ x 0):=qh λj hj=>by simp [jS,kZ,hj]
 rw [hs1] at k1;have k2:=ad2 (E:=E) (x:=x) bs (kN x 10) (by omega) (kN x 10) 0 [.cells (eF (kZ x 0))] (by omega) rfl;have hu:=Eh h0 h1;have hul:(aK x).length=kN x 10+1:=by
  have:=congrArg List.length hu;simp [eF] at this;omega
 have h00:eF (jS x 0)=[.d (.int .u8 0),.d (.int .u8 0),.d (.int .u8 0),.d (.int .u8 0),.d (.int .u8 0),.d (.int .u8 0),.d (.int .u8 0),.d (.int .u8 0),.d (.int .u8 0),.d (.int .u8 0)]:=by
  simp only [eF,jS]; rfl
 rw [h00] at k1;simp only [Int.pow_zero,Int.ediv_one] at k1;have hl0:kN x 0=0:=rfl;rw [hl0] at k1;have hal:=wh (kZ x (kN x 10));rw [hul];generalize kN x 10=k at *;have hw:wrap .i64 ((k:Int)+1)=((k+1:Nat):Int):=by rw [wrap64]<;>omega
 have hsl:∀ (ev:X->V) lo,ev (.t 36)=.d (.int .i64 ((k+1:Nat):Int))->bM ⟨bs++[.cells (eF (kZ x k)),.cells []],lo⟩ ev (.ar 10) 1 (.ptr bs.length 0) none (some (.t 36)) none=some (.row bs.length 0 (k+1) (some 10) 1):=λev lo hev=>by
  simp only [bM,bD,hev];rw [if_pos (by omega)];simp only [Int.toNat_natCast];rw [if_pos ⟨by omega,by omega,by omega,by omega⟩];simp [hal]
 have hrc:∀ lo,aF ⟨bs++[.cells (eF (kZ x k)),.cells []],lo⟩ (.row bs.length 0 (k+1) (some 10) 1) 1=some (k+1,(eF (kZ x k)).take (k+1)):=λlo=>by
  simp only [aF,if_true,get_eq,gu,tJ,Nat.mul_one];rw [iy,if_pos (by rw [hal]; omega)];simp
 have hroom:roomy (0+(k+1)) 1=true:=by simp only [roomy,ap,br]; omega
 have hap:∀ lo,dY ⟨bs++[.cells (eF (kZ x k)),.cells []],lo⟩ 1 1 (.row (bs.length+1) 0 0 (some 0) 1) (.row bs.length 0 (k+1) (some 10) 1)=some (.row (bs.length+2) 0 (k+1) none 1,⟨bs++[.cells (eF (kZ x k)),.cells [],.cells ((aK x).map (iv .u8))],lo⟩):=λlo=>by
  simp only [dY,hrc,aI,hu];rw [Nat.zero_add] at hroom;simp [hroom]
 rw [aM ch5 cd6];simp at k1 k2;simp [ae,RY];rw [ai];simp [k1];rw [ai];simp [k2];simp [hw,hsl,hap,V.under]
end
section
variable {E:Calls'}
def Bv (m:Nat)(bs:List Blk)(v:V)(l:List Int):Prop:=(l=[]/\v=.d (.slice true []))\/(l≠[]/\∃ b,m<=b/\v=.row b 0 l.length none 1/\aa bs b=some (l.map (iv .u8)))
theorem Bv.nu {m:Nat}{bs:List Blk}{v:V}{l:List Int}(h:Bv m bs v l):Go.Proofs.YtadlkhfomhgllaaGreat.nu v=some v:=by
 obtain ⟨_,rfl⟩ | ⟨_,b,_,rfl,_⟩:=h<;>rfl
theorem Bv.ok {m:Nat}{bs:List Blk}{v:V}{l:List Int}(h:Bv m bs v l):okV v=true:=by
 obtain ⟨_,rfl⟩ | ⟨_,b,_,rfl,_⟩:=h<;>rfl
theorem Bv.lay {m:Nat}{bs:List Blk}{v:V}{l:List Int}(h:Bv m bs v l)(ys:List Blk):Bv m (bs++ys) v l:=by
 obtain h | ⟨h1,b,h2,h3,h4⟩:=h
 . exact .inl h
 . exact .inr ⟨h1,b,h2,h3,ay h4⟩
theorem Bv.le {m m':Nat}{bs:List Blk}{v:V}{l:List Int}(h:Bv m bs v l)(hm:m'<=m):Bv m' bs v l:=by
 obtain h | ⟨h1,b,h2,h3⟩:=h
 . exact .inl h
 . exact .inr ⟨h1,b,by omega,h3⟩
def gp:V->Option Nat
 | .row b _ _ _ _=>some b
 | _=>none
def Kx (o:Option Nat)(bs bs':List Blk):Prop:=bs.length<=bs'.length/\∀ x,x<bs.length->o≠some x->bs'[x]?=bs[x]?
theorem Kx.refl (o:Option Nat)(bs:List Blk):Kx o bs bs:=⟨bo _,λ_ _ _=>rfl⟩
theorem Kx.lay (o:Option Nat)(bs ys:List Blk):Kx o bs (bs++ys):=⟨by simp,λx hx _=>am hx⟩
theorem Kx.trans {o o':Option Nat}{a b c:List Blk}(h:Kx o a b)(k:Kx o' b c)(ho:o'=o\/∀ y,o'=some y->a.length<=y):Kx o a c :=
 ⟨ch h.1 k.1,λx hx hn=>(k.2 x (by have:=h.1; omega) (λe=>by
  obtain rfl | ho:=ho
  . exact hn e
  . have:=ho x e; omega)).trans (h.2 x hx hn)⟩
theorem Kx.get {o:Option Nat}{bs bs':List Blk}(h:Kx o bs bs'){x:Nat}{cs:List V}(hn:o≠some x)(hg:aa bs x=some cs):aa bs' x=some cs:=by
 have:=h.2 x (aN hg) hn;unfold aa at hg ⊢;rw [this]; exact hg
theorem Bv.blk {m:Nat}{bs:List Blk}{v:V}{l:List Int}(h:Bv m bs v l){x:Nat}(hx:gp v=some x):m<=x/\x<bs.length:=by
 obtain ⟨_,rfl⟩ | ⟨_,b,h2,rfl,h4⟩:=h
 . cases hx
 . cases hx; exact ⟨h2,aN h4⟩
theorem Bv.app {m:Nat}{bs:List Blk}{v:V}{l xs:List Int}(h:Bv m bs v l)(hm:m<=bs.length)(hx:xs≠[])(hl:l.length+xs.length<=big){src:V}(hs:∀ lo,aF ⟨bs,lo⟩ src 1=some (xs.length,xs.map (iv .u8))) :
 ∃ bs',∃ F:Nat->Nat,(∀ lo,dY ⟨bs,lo⟩ 1 1 v src=some (.row bs.length 0 (l++xs).length none 1,⟨bs',F lo⟩))/\Bv bs.length bs' (.row bs.length 0 (l++xs).length none 1) (l++xs)/\Kx (gp v) bs bs'/\bs'.length=bs.length+1/\∀ lo,m<=lo->m<=F lo:=by
 have hxl:xs.length≠0:=by intro h0; exact hx (List.length_eq_zero_iff.1 h0)
 have hroom:∀ n,n<=big->roomy n 1=true:=λn hn=>by simp only [roomy,ap,br]; exact ⟨hn,by decide⟩
 obtain ⟨rfl,rfl⟩ | ⟨h1,b,h2,rfl,h4⟩:=h
 . refine ⟨bs++[.cells (xs.map (iv .u8))],id,λlo=>?_,.inr ⟨by simpa using hx,bs.length,bo _,rfl,by simp⟩,Kx.lay _ _ _,by simp,λ_ h=>h⟩;simp only [dY,hs,aI,if_neg hxl,hroom xs.length (by simpa using hl)];simp
 . have hll:0<l.length:=List.length_pos_iff.2 h1;have hsub:sub (l.map (iv .u8)) 0 (l.length * 1)=some (l.map (iv .u8)):=bB (by simp);refine ⟨bs.set b (.cells [])++[.cells ((l++xs).map (iv .u8))],λlo=>min lo b,λlo=>?_,.inr ⟨by simp [h1],bs.length,bo _,rfl,?_⟩,⟨by simp,λx hxm hxn=>?_⟩,by simp,λlo hlo=>by show m<=min lo b; omega⟩
   . simp only [dY,hs,aI,get_eq,h4,hsub,if_neg hxl,hroom _ hl];simp [hll,Hp.set]
   . have:=gu (bs:=bs.set b (.cells [])) (ys:=[.cells ((l++xs).map (iv .u8))]);simp only [List.length_set] at this;rw [this]; rfl
   . rw [am (by simp; omega),ac (λe=>hxn (by simp [gp,e]))]
def Gro (E:Calls')(f:FuncId)(args:List V)(o:Option Nat)(m:Nat)(bs:List Blk)(l:List Int):Prop:=∃ b bs' k,(∀ lo,Sm E TX aP f args ⟨bs,lo⟩=some (.row b 0 l.length none 1,⟨bs',min lo k⟩))/\Bv bs.length bs' (.row b 0 l.length none 1) l/\bs.length<=b/\Kx o bs bs'/\m<=k
theorem Gro.short {x:Int}(h0:0<=x)(h1:x<2 ^ 64){m:Nat}{bs:List Blk}(hm:m<=bs.length):Gro E 91 [.d (u64 x)] none m bs (aK x):=by
 obtain ⟨A,hA⟩:=Vo (E:=E) h0 h1 bs;have hne:aK x≠[]:=by intro h; have:=congrArg List.length h; rw [aK,mE] at this; simp at this
 refine ⟨bs.length+2,bs++[.cells A,.cells [],.cells ((aK x).map (iv .u8))],bs.length,λlo=>?_,.inr ⟨hne,_,by omega,rfl,?_⟩,by omega,Kx.lay _ _ _,hm⟩
 . exact hA lo
 . have:=gK (bs:=bs) (ys:=[.cells A,.cells [],.cells ((aK x).map (iv .u8))]) (i:=2);rw [this]; rfl
theorem Bv.dat {m:Nat}{bs:List Blk}{v:V}{l:List Int}(h:Bv m bs v l)(hl:l≠[])(lo k:Nat):dataV ⟨bs,lo⟩ (k+1) v=some (bytesD l)/\lS ⟨bs,lo⟩ (k+1) v=true:=by
 obtain ⟨h1,_⟩ | ⟨h1,b,h2,rfl,h4⟩:=h
 . exact absurd h1 hl
 . have hf:flat (l.map λn=>[D.int .u8 n])=l.map (iv .u8):=by
    clear h1 h4 hl
    induction l with
    | nil=>rfl
    | cons x l ih=>rw [cr,flat_cons,ih]; rfl
   refine ⟨?_,?_⟩
   . exact iO (h:=⟨bs,lo⟩) (k:=k) (b:=b) (z:=1) (n:=l.length) (cap:=none) (es:=l.map λn=>[D.int .u8 n]) (rest:=[]) (by intro e he; obtain ⟨x,_,rfl⟩:=cd.1 he; rfl) (by simp) (by rw [hf,List.append_nil]; exact h4)
   . simp only [lS,get_eq,h4,List.all_map,cm];intro x _;simp [iv,lS]
theorem jR (h:Hp)(l:List Int):aF h (.d (bytesD l)) 1=some (l.length,l.map (iv .u8)):=by
 have hf:(l.map λn=>[D.int .u8 n]).flatten.map V.d=l.map (iv .u8):=by
  induction l with
  | nil=>rfl
  | cons x l ih=>simp only [cr,List.flatten_cons,List.map_append,ih]; rfl
 simp only [aF,bytesD,hf,cc];rw [if_pos (by simp)]
theorem Bv.rc {m:Nat}{bs:List Blk}{b:Nat}{l:List Int}(h:Bv m bs (.row b 0 l.length none 1) l)(lo:Nat):aF ⟨bs,lo⟩ (.row b 0 l.length none 1) 1=some (l.length,l.map (iv .u8)):=by
 obtain ⟨h1,h2⟩ | ⟨h1,b',h2,h3,h4⟩:=h
 . cases h2
 . cases h3;have hsub:sub (l.map (iv .u8)) 0 (l.length * 1)=some (l.map (iv .u8)):=bB (by simp);simp only [aF,if_true,get_eq,h4,hsub,Option.map_some]
theorem dZ {k:Nat}{keep:List Nat}{body:QC}{α:Type}(l:List α)(enc:α->List Int)(env:Nat->V->EA)(X:V->Ex×EA)(m:Nat)
 (K:List Blk->V->Prop)
 (hr:∀ i x,l[i]?=some x->i<l.length->∀ bs lo v acc,K bs v->m<=bs.length->Bv m bs v acc->acc.length+(enc x).length<=big->∃ bs' lo' v',(∀ W:EA->Hp->dx,bH keep W (Cd E TX aP body (bq keep (env i v)) ⟨bs,lo⟩)=W (env (i+1) v') ⟨bs',lo'⟩)/\K bs' v'/\m<=bs'.length/\Bv m bs' v' (acc++enc x)/\(k<=lo->k<=lo'))
 (he:∀ bs lo v acc,K bs v->Bv m bs v acc->∀ W:EA->Hp->dx,bH keep W (Cd E TX aP body (bq keep (env l.length v)) ⟨bs,lo⟩)=some ((X v).1,(X v).2,⟨bs,lo⟩))
 (bs:List Blk) (lo:Nat) (v:V) (acc:List Int) (hK:K bs v) (hm:m<=bs.length) (hB:Bv m bs v acc) (hb:acc.length+(l.flatMap enc).length<=big) :
 ∃ bs' lo' v',Cd E TX aP (.loop keep body) (env 0 v) ⟨bs,lo⟩=some ((X v').1,(X v').2,⟨bs',lo'⟩)/\K bs' v'/\m<=bs'.length/\Bv m bs' v' (acc++l.flatMap enc)/\(k<=lo->k<=lo'):=by
 have:∀ (n i:Nat) (bs:List Blk) (lo:Nat) (v:V) (acc:List Int),i+n=l.length->K bs v->m<=bs.length->Bv m bs v acc->acc.length+((l.drop i).flatMap enc).length<=big →
  ∃ bs' lo' v',Cd E TX aP (.loop keep body) (env i v) ⟨bs,lo⟩=some ((X v').1,(X v').2,⟨bs',lo'⟩)/\K bs' v'/\m<=bs'.length/\Bv m bs' v' (acc++(l.drop i).flatMap enc)/\(k<=lo->k<=lo'):=by
  intro n;have key:=aB (E:=E) (T:=TX) (val:=aP) keep body;generalize Cd E TX aP (.loop keep body)=W at key ⊢
  induction n with
  | zero =>
   intro i bs lo v acc hi hK hm hB hb;refine ⟨bs,lo,v,?_,hK,hm,?_,id⟩
   . rw [key,show i=l.length by omega,he bs lo v acc hK hB W]
   . rw [aw (by omega)]; simpa using hB
  | succ n ih =>
   intro i bs lo v acc hi hK hm hB hb;have hlt:i<l.length:=by omega
   rw [aq hlt,dn] at hb;obtain ⟨bs1,lo1,v1,i1,i2,i3,i4,i5⟩:=hr i _ (ab hlt) hlt bs lo v acc hK hm hB (by omega);obtain ⟨bs2,lo2,v2,j1,j2,j3,j4,j5⟩:=ih (i+1) bs1 lo1 v1 _ (by omega) i2 i3 i4 (by rw [ao]; omega);refine ⟨bs2,lo2,v2,?_,j2,j3,?_,λh=>j5 (i5 h)⟩
   . rw [key,i1 W,j1]
   . rw [aq hlt,List.flatMap_cons,← List.append_assoc]; exact j4
 have:=this l.length 0 bs lo v acc (by omega) hK hm hB (by simpa using hb);simpa using this
theorem ch0:TX 31=some Rz:=by kernel_rfl
theorem cc8:aP 31=true:=by kernel_rfl
theorem nY {bs:List Blk}{x:Int}{k:IntKind}(lo:Nat):aF ⟨bs++[.cells [.d (.int k x)]],lo⟩ (.row bs.length 0 1 (some 1) 1) 1=some (([x]:List Int).length,([x]:List Int).map (iv k)):=J8 lo
theorem CL (s:ByteArray)(hs:(bA s).length<=big)(h:Hp):Sm E TX aP 31 [.d (.str s)] h=some (.d (bytesD (bA s)),h):=by
 have hsl:=eX s;have hs2:=hs;simp only [bA,ao,cc,hsl] at hs2;have hsz:s.size<2 ^ 62:=cg (m:=big) (by omega) (by decide);obtain ⟨b,bs1,k1,c1,c2,c3,c4,c5⟩:=Gro.short (E:=E) (x:=s.size) (by omega) (by omega) (m:=0) (bs:=[]) (bo _);have hfm:∀ l:List UInt8,l.flatMap (λb=>[(b.toNat:Int)])=l.map λb=>(b.toNat:Int):=λl=>by
  induction l with
  | nil=>rfl
  | cons x l ih=>rw [List.flatMap_cons,ih]; rfl
 obtain ⟨bs2,lo2,v2,d1,_,_,d4,_⟩:=dZ (E:=E) (k:=0) (keep:=[0,3,4]) (body:=vz) s.toList (λb=>[(b.toNat:Int)]) (λi v=>[(0,.d (.str s)),(3,v),(4,.d (i64 i))]) (λv=>(.exit 0,[(3,v)])) 0 (λ_ _=>True)
  (λi x hx hi bs lo v acc _ _ hB hb=>by
    have hxs:=λh=>iB (h:=h) hx;have hw:=ax (show i<s.size by omega) hsz;have h0:((i:Int)<s.size):=by omega
    obtain ⟨bs',F,p1,p2,p3,p4,p5⟩:=(hB.lay [.cells [.d (.int .u8 (x.toNat:Int))]]).app (Nat.zero_le _) (xs:=[(x.toNat:Int)]) (by simp) hb (src:=.row bs.length 0 1 (some 1) 1) (λlo=>nY lo);refine ⟨bs',F lo,_,λW=>?_,trivial,Nat.zero_le _,p2.le (Nat.zero_le _),λ_=>Nat.zero_le _⟩;have hnu:=hB.nu;have hq:=p1 lo;simp at hq;simp [vz,hxs,h0,hnu,az,hq,hw])
  (λbs lo v acc _ hB W=>by
    have hnu:=hB.nu;simp [vz,hsl]) bs1 (min 0 k1) (.row b 0 (aK s.size).length none 1) (aK s.size) trivial (Nat.zero_le _) (c2.le (Nat.zero_le _)) (by rw [hfm]; simp; omega)
 rw [hfm] at d4;have d4':Bv 0 bs2 v2 (bA s):=d4;have hne:bA s≠[]:=by simp [bA,cu]
 have hdat:=λlo=>d4'.dat hne lo 7;have hnu:=d4'.nu;have hw:wrap .u64 (s.size:Int)=s.size:=by rw [wrap_u64]; omega
 rw [aY ch0 cc8];simp at d1;have c1':=c1 0;simp at c1';simp [ae,Rz,hw,c1'];rw [ai];simp [d1,hnu];obtain ⟨h1,_⟩ | ⟨_,b',_,rfl,_⟩:=d4'
 . exact absurd h1 hne
 . simp [hdat]
theorem cg9:TX 30=some Ry:=by kernel_rfl
theorem cc7:aP 30=false:=by kernel_rfl
theorem Uk {xs:List Int}(hx:∀ x∈xs,0<=x/\x<2 ^ 64)(hne:xs≠[])(hxn:xs.length<2 ^ 62){m:Nat}{bs:List Blk}{v:V}{acc:List Int}(hB:Bv m bs v acc)(hm:m<=bs.length){q:Nat}{cap:Option Nat}(hq:aa bs q=some (xs.map λn=>V.d (u64 n)))(hvq:gp v≠some q)(hl:acc.length+(xs.flatMap aK).length<=big) :
 Gro E 30 [v,.row q 0 xs.length cap 1] (gp v) m bs (acc++xs.flatMap aK):=by
 obtain ⟨bs2,lo2,v2,d1,⟨d2,d3,d5,d6⟩,_,d4,d7⟩:=dZ (E:=E) (k:=m) (keep:=[0,1,5]) (body:=vw) xs aK (λi v=>[(0,v),(1,.row q 0 xs.length cap 1),(5,.d (i64 i))]) (λv=>(.exit 0,[(0,v)])) m
  (λbs' v'=>aa bs' q=some (xs.map λn=>V.d (u64 n))/\gp v'≠some q/\Kx (gp v) bs bs'/\(v'=v\/∃ b n,v'=.row b 0 n none 1/\bs.length<=b))
  (λi x hxi hi bs1 lo v1 acc1 ⟨hq1,hv1,hk1,hn1⟩ hm1 hB1 hb=>by
    have hw:=ax hi hxn;have h0:((i:Int)<xs.length):=by omega
    have hxe:xs[i]=x:=by rw [ab hi] at hxi; exact ct hxi
    have hix:=λh=>jU (b:=q) (o:=0) (z:=1) (cap:=cap) (kd:=.i64) (h:=h) hi;simp only [Nat.mul_one,Nat.zero_add] at hix;have hs:sub (xs.map λn=>V.d (u64 n)) i 1=some [.d (u64 x)]:=by
     rw [iy,if_pos (by simp; omega),aq (by simpa using hi)]; simp [hxe]
    have hld:ldv ⟨bs1,lo⟩ (.ptr q i) 1 true=some (.d (u64 x),⟨bs1,lo⟩):=by
     rw [dw,get_eq];show (match (match aa bs1 q with | some cs=>sub cs i 1 | none=>none) with | some cs=>_ | none=>none)=_;rw [hq1]; simp only [hs]; rfl
    obtain ⟨y0,y1⟩:=hx x (ce hxi);obtain ⟨b,bs2,k,c1,c2,c3,c4,c5⟩:=Gro.short (E:=E) y0 y1 hm1;have hB2:Bv m bs2 v1 acc1:=by
     obtain h | ⟨e1,b',e2,rfl,e4⟩:=hB1
     . exact .inl h
     . exact .inr ⟨e1,b',e2,rfl,c4.get (by simp) e4⟩
    have hlen2:m<=bs2.length:=ch hm1 c4.1;obtain ⟨bs3,F,p1,p2,p3,p4,p5⟩:=hB2.app hlen2 (cu x) hb (src:=.row b 0 (aK x).length none 1) (λlo=>c2.rc lo);have hlen1:=hk1.1;have hbq:=aN hq1;have hl2:=c4.1;refine ⟨bs3,F (min lo k),_,λW=>?_,⟨?_,?_,?_,.inr ⟨bs2.length,_,rfl,by omega⟩⟩,by omega,p2.le hlen2,λh=>p5 _ (by omega)⟩
    . have hnu:=hB1.nu;have hq':=p1 (min lo k);simp at hq';simp [vw,h0,hnu,hix,hld,c1,hq',hw,-dw]
    . exact p3.get hv1 (c4.get (by simp) hq1)
    . simp only [gp,ne_eq,ba]; omega
    . refine (hk1.trans c4 (.inr λy e=>by cases e)).trans p3 ?_;obtain rfl | ⟨b',n,rfl,e⟩:=hn1
      . exact .inl rfl
      . refine .inr λy e'=>?_;cases e'; exact e)
  (λbs lo v acc _ hB W=>by
    have hnu:=hB.nu;simp [vw]) bs bs.length v acc ⟨hq,hvq,Kx.refl _ _,.inl rfl⟩ hm hB hl
 have hne2:acc++xs.flatMap aK≠[]:=by
  cases xs with
  | nil=>exact absurd rfl hne
  | cons x l=>simp [cu]
 obtain ⟨h1,_⟩ | ⟨e1,b,e2,rfl,e4⟩:=d4
 . exact absurd h1 hne2
 have hbb:bs.length<=b:=by
  obtain h | ⟨b',n,h,e⟩:=d6
  . obtain ⟨h1,h2⟩ | ⟨h1,b',h2,h3,h4⟩:=hB
    . rw [h2] at h; cases h
    . rw [h3] at h;injection h with hb1 hb2 hb3
      rw [ao] at hb3;have:0<(xs.flatMap aK).length:=by
       cases xs with
       | nil=>exact absurd rfl hne
       | cons x l=>rw [dn]; have:=List.length_pos_iff.2 (cu x); omega
      omega
  . cases h; exact e
 refine ⟨b,bs2,lo2,λlo=>?_,.inr ⟨e1,b,hbb,rfl,e4⟩,hbb,d5,d7 hm⟩;have hnu:=hB.nu;rw [aM cg9 cc7];simp at d1;simp [ae,Ry];rw [ai];simp [d1];intro _ hu;simp [V.under] at hu;omega
end
section
variable {E:Calls'}
def Qt1 (m:Nat)(u:Tr):Prop:=u.call=false/\u.big=false/\u.wr=[]/\u.lo=u.hi/\∀ b∈u.nd,b<m
def Hi1 (m:Nat)(t:Tr):Prop:=∀ u,Qt1 m u->t.spares u=true/\u.spares t=true
theorem Qt1.hi {m:Nat}{t:Tr}(h:Qt1 m t):Hi1 m t:=λu k=>by
 obtain ⟨a1,a2,a3,a4,a5⟩:=h;obtain ⟨b1,b2,b3,b4,b5⟩:=k;constructor
 . simp only [Tr.spares,a2,b2,b1,a3,a4,Bool.or_self,bk,if_false,cm];intro b _; simp
 . simp only [Tr.spares,a2,b2,a1,b3,b4,Bool.or_self,bk,if_false,cm];intro b _; simp
theorem Hi1.mem {m:Nat}{nd wr:List Nat}{lo hi:Nat}{bl:Bl}(hw:∀ b∈wr,m<=b)(hl:m<=lo):Hi1 m ⟨false,false,nd,wr,lo,hi,bl⟩:=λu k=>by
 obtain ⟨b1,b2,b3,b4,b5⟩:=k;constructor
 . simp only [Tr.spares,b2,b1,Bool.or_self,bk,if_false,cm];intro b hb;have h1:=b5 b hb;have h2:b ∉ wr:=λh=>by have:=hw b h; omega
   have h3:¬ lo<=b:=by omega
   simp [h2,h3]
 . simp only [Tr.spares,b2,b3,b4,Bool.or_self,bk,if_false,cm];intro b _; simp
theorem Hi1.calm {m n:Nat}{bl:Bl}:Hi1 m ⟨true,false,[],[],n,n,bl⟩:=λu k=>by
 obtain ⟨b1,b2,b3,b4,b5⟩:=k;constructor
 . simp only [Tr.spares,b2,b1,Bool.or_self,bk,if_false,cm];intro b _; simp
 . simp only [Tr.spares,b2,b3,b4,Bool.or_self,bk,if_false,if_true];simp
theorem Hi1.lay {m n n':Nat}{bl:Bl}(hn:m<=n):Hi1 m ⟨true,false,[],[],n,n',bl⟩:=λu k=>by
 obtain ⟨b1,b2,b3,b4,b5⟩:=k;constructor
 . simp only [Tr.spares,b2,b1,Bool.or_self,bk,if_false,cm];intro b hb;have h1:=b5 b hb;have h3:¬ n<=b:=by omega
   simp [h3]
 . simp only [Tr.spares,b2,b3,b4,Bool.or_self,bk,if_false,if_true];simp
theorem Hi1.big {m n n' k:Nat}{kp:List Nat}(hk:m<=k):Hi1 m ⟨true,true,[],[],n,n',⟨k,kp⟩⟩:=λu q=>by
 obtain ⟨b1,b2,b3,b4,b5⟩:=q;constructor
 . have h3:(u.nd.all λb=>decide (b<k)||kp.contains b)=true:=cm.2 λb hb=>by
    have h1:=b5 b hb;have:b<k:=by omega
    simp [this]
   simp only [Tr.spares,Bool.true_or,if_true,b1,h3,Bool.not_false,Bool.and_true,Bool.or_true]
 . simp [Tr.spares,Tr.calm,b2,b3,b4]
def Cl1 (m:Nat):List Bool->List Tr->Prop
 | [],[]=>True
 | true::cs,t::ts=>Qt1 m t/\Cl1 m cs ts
 | false::cs,t::ts=>Hi1 m t/\Cl1 m cs ts
 | _,_=>False
def ck1 (pr:List (List Nat))(cs:List Bool):Bool:=(List.range cs.length).all λi=>(List.range cs.length).all λj =>
 i==j||(pr.getD i []).contains j||(pr.getD j []).contains i||cs.getD i false||cs.getD j false
theorem Cl1.len {m:Nat}:∀ {cs:List Bool} {ts:List Tr},Cl1 m cs ts->cs.length=ts.length
 | [],[],_=>rfl
 | true::_,_::_,h=>by simp [Cl1.len h.2]
 | false::_,_::_,h=>by simp [Cl1.len h.2]
 | [],_::_,h=>h.elim
 | true::_,[],h=>h.elim
 | false::_,[],h=>h.elim
theorem Cl1.get {m:Nat}:∀ {cs:List Bool} {ts:List Tr},Cl1 m cs ts->∀ {i:Nat},i<ts.length->∃ t,ts[i]?=some t/\Hi1 m t/\(cs.getD i false=true->Qt1 m t)
 | [],[],_,i,hi=>by simp at hi
 | true::cs,t::ts,h,0,_=>⟨t,rfl,h.1.hi,λ_=>h.1⟩
 | false::cs,t::ts,h,0,_=>⟨t,rfl,h.1,λh=>by simp at h⟩
 | true::cs,t::ts,h,i+1,hi=>by
  obtain ⟨t,h1,h2⟩:=Cl1.get h.2 (i:=i) (by simpa using hi);exact ⟨t,by simpa using h1,by simpa using h2⟩
 | false::cs,t::ts,h,i+1,hi=>by
  obtain ⟨t,h1,h2⟩:=Cl1.get h.2 (i:=i) (by simpa using hi);exact ⟨t,by simpa using h1,by simpa using h2⟩
 | [],_::_,h,_,_=>h.elim
 | true::_,[],h,_,hi=>h.elim
 | false::_,[],h,_,hi=>h.elim
theorem lV {pr:List (List Nat)}{l:List Tr}(m:Nat)(cs:List Bool)(hck:ck1 pr cs=true)(h:Cl1 m cs l):bI pr l=true:=by
 unfold bI;simp only [cm,List.mem_range];intro i hi j hj;simp only [ck1,h.len,cm,List.mem_range] at hck;have hc:=hck i hi j hj;obtain ⟨s,s1,s2,s3⟩:=h.get hi;obtain ⟨t,t1,t2,t3⟩:=h.get hj;simp only [Bool.or_eq_true] at hc ⊢;obtain (hc | hc) | hc:=hc
 . exact .inl hc
 . refine .inr ?_;rw [s1,t1];exact (t2 s (s3 hc)).2
 . refine .inr ?_;rw [s1,t1];exact (s2 t (t3 hc)).1
theorem Gro.open {f:FuncId}{args:List V}{o:Option Nat}{m:Nat}{bs:List Blk}{l:List Int}(h:Gro E f args o m bs l)(hm:m<=bs.length):∃ b bs' t,∃ F:Nat->Nat,
 (∀ (lo:Nat) (xs:List X) (ev:X->V),xs.all (λx=>okV (ev x))=true->xs.map ev=args->ev (.c (.fn f []))=.fn f []->cB (Sm E TX aP) (.call (.c (.fn f [])) xs) ev ⟨bs,lo⟩=some (.row b 0 l.length none 1,⟨bs',F lo⟩,t)) ∧
 Hi1 m t/\Bv bs.length bs' (.row b 0 l.length none 1) l/\bs.length<=b/\Kx o bs bs'/\∀ lo,m<=lo->m<=F lo:=by
 obtain ⟨b,bs',k,c1,c2,c3,c4,c5⟩:=h;by_cases hk:bs.length<=k
 . by_cases hl:bs'.length=bs.length
   . have:=(c2.blk rfl).2;omega
   . refine ⟨b,bs',⟨true,false,[],[],bs.length,bs'.length,0⟩,λlo=>lo,λlo xs ev ha hx hf=>?_,Hi1.lay hm,c2,c3,c4,λ_ h=>h⟩;rw [aC,if_pos ha,hf,hx,jM,List.append_nil,c1];simp only;rw [if_pos (by omega),if_neg hl]
 . refine ⟨b,bs',⟨true,true,[],[],bs.length,bs'.length,⟨min bs.length k,nE bs bs'⟩⟩,λlo=>min lo (min bs.length k),λlo xs ev ha hx hf=>?_,Hi1.big (by omega),c2,c3,c4,λlo h=>by show m<=min lo (min bs.length k); omega⟩;rw [aC,if_pos ha,hf,hx,jM,List.append_nil,c1];simp only;rw [if_neg (by omega)]
end
section
variable {E:Calls'}
theorem Bv.vblk {m:Nat}{bs:List Blk}{v:V}{l:List Int}(h:Bv m bs v l):∀ b∈v.blk,m<=b:=by
 obtain ⟨_,rfl⟩ | ⟨_,b,h2,rfl,h4⟩:=h
 . intro b hb; cases hb
 . intro x hx;have:x=b:=by simpa [V.blk] using hx
   omega
theorem Cl1.t {m n:Nat}{cs:List Bool}{ts:List Tr}{nd:List Nat}{bl:Bl}(h:∀ b∈nd,b<m)(k:Cl1 m cs ts):Cl1 m (true::cs) (⟨false,false,nd,[],n,n,bl⟩::ts):=⟨⟨rfl,rfl,rfl,rfl,h⟩,k⟩
theorem Cl1.c {m n:Nat}{cs:List Bool}{ts:List Tr}{bl:Bl}(k:Cl1 m cs ts):Cl1 m (false::cs) (⟨true,false,[],[],n,n,bl⟩::ts):=⟨Hi1.calm,k⟩
theorem Cl1.m {m lo hi:Nat}{cs:List Bool}{ts:List Tr}{nd wr:List Nat}{bl:Bl}(hw:∀ b∈wr,m<=b)(hl:m<=lo)(k:Cl1 m cs ts):Cl1 m (false::cs) (⟨false,false,nd,wr,lo,hi,bl⟩::ts):=⟨Hi1.mem hw hl,k⟩
theorem ch6:TX 92=some RZ:=by kernel_rfl
theorem cd7:aP 92=false:=by kernel_rfl
theorem ab9 (s:Sl Term)(hs:s.l.length<2 ^ 62){m:Nat}{bs:List Blk}{v:V}{acc:List Int}(hB:Bv m bs v acc)(hm:m<=bs.length)(hl:acc.length+(s.l.flatMap bY).length<=big)(lo:Nat)(bs0:List Blk)(o:Option Nat)(hk:Kx o bs0 bs)(hn:∀ b,gp v=some b->bs0.length<=b) :
 ∃ bs' lo' v',Cd E TX aP (.loop [0,1,5] sH) [(0,v),(1,.d (s.d Term.c)),(5,.d (i64 ((0:Nat):Int)))] ⟨bs,lo⟩=some (.exit 0,[(0,v')],⟨bs',lo'⟩)/\(Kx o bs0 bs'/\∀ b,gp v'=some b->bs0.length<=b)/\m<=bs'.length/\Bv m bs' v' (acc++s.l.flatMap bY)/\(m<=lo->m<=lo'):=by
 refine dZ (E:=E) (keep:=[0,1,5]) (body:=sH) s.l bY (λi v=>[(0,v),(1,.d (s.d Term.c)),(5,.d (i64 i))]) (λv=>(.exit 0,[(0,v)])) m
  (λbs' v'=>Kx o bs0 bs'/\∀ b,gp v'=some b->bs0.length<=b)
  (λi x hx hi bs1 lo v1 acc1 ⟨hk1,hn1⟩ hm1 hB1 hb=>?_)
  (λbs lo v acc _ hB W=>?_) bs lo v acc ⟨hk,hn⟩ hm hB hl
 . have hix:=λh=>aA (z:=2) h hx (cells:=Term.c) rfl;have hw:=ax hi hs;have h0:((i:Int)<s.l.length):=by omega
   simp only [bY,cj] at hb;obtain ⟨bs2,F,p1,p2,p3,p4,p5⟩:=(hB1.lay [.cells [.d (.int .u8 (wrap .u8 x.kind))]]).app (by simp; omega) (xs:=[wrap .u8 x.kind]) (by simp) (by simp; omega) (src:=.row bs1.length 0 1 (some 1) 1) (λlo=>nY lo);have ht:=λh=>CL (E:=E) x.text (by omega) h;have hne:bA x.text≠[]:=by simp [bA,cu]
   obtain ⟨bs3,F3,r1,r2,r3,r4,r5⟩:=(p2.le (ch hm1 (by simp))).app (m:=m) (by rw [p4]; simp; omega) hne (by simp; omega) (src:=.d (bytesD (bA x.text))) (λlo=>jR _ _);have eT:acc1++[wrap .u8 x.kind]++bA x.text=acc1++bY x:=by simp [bY]
   rw [eT] at r1 r2;have hl2:bs2.length=bs1.length+2:=by rw [p4]; simp
   have hl01:=hk1.1;have hq1:=p1 lo;have hnu:=hB1.nu;simp at hq1;have hq2:=r1 (F lo);simp at hq2;refine ⟨bs3,F3 (F lo),.row bs2.length 0 (acc1++bY x).length none 1,λW=>?_,⟨?_,?_⟩,by omega,?_,λh=>r5 _ (p5 _ h)⟩
   . simp [sH,h0,hix,hnu,aL,aC,az,hq1,ht,hq2];rw [if_pos (lV m [true,true,true,true,true,true,true,false,false,true,true,true,true,true,false,false,true] (by decide) ?_)]
     . simp [hw]
     . have hvb:=hB1.vblk
       repeat' first
        | exact trivial
        | refine Cl1.t (by simp) ?_
        | refine Cl1.c ?_
        | refine Cl1.m ?_ ?_ ?_
       all_goals first
        | exact hvb
        | omega
        | (simp; try omega)
   . exact ((hk1.trans (Kx.lay o _ _) (.inl rfl)).trans p3 (.inr λy e=>hn1 y e)).trans r3 (.inr λy e=>by cases e; simp; omega)
   . intro b e;cases e; omega
   . exact r2.le (show m<=bs2.length by omega)
 . have hnu:=hB.nu;simp [sH]
theorem Fy (s:Sl Term)(hs:s.l.length<2 ^ 62){m:Nat}{bs:List Blk}{v:V}{acc:List Int}(hB:Bv m bs v acc)(hm:m<=bs.length)(hl:acc.length+(seqB bY s.l).length<=big) :
 Gro E 92 [v,.d (s.d Term.c)] (gp v) m bs (acc++seqB bY s.l):=by
 simp only [seqB,ao] at hl;obtain ⟨b,bs1,k,c1,c2,c3,c4,c5⟩:=Gro.short (E:=E) (x:=s.l.length) (by omega) (by omega) hm;have hB2:Bv m bs1 v acc:=by
  obtain h | ⟨e1,b',e2,rfl,e4⟩:=hB
  . exact .inl h
  . exact .inr ⟨e1,b',e2,rfl,c4.get (by simp) e4⟩
 have hl1:=c4.1;obtain ⟨bs2,F,p1,p2,p3,p4,p5⟩:=hB2.app (by omega) (cu _) (by omega) (src:=.row b 0 (aK s.l.length).length none 1) (λlo=>c2.rc lo);have hK:Kx (gp v) bs bs2:=(Kx.trans c4 (Kx.refl none _) (.inl rfl) |> λ_=>(show Kx (gp v) bs bs1 from ⟨c4.1,λx hx _=>c4.2 x hx (by simp)⟩)).trans p3 (.inl rfl);obtain ⟨bs3,lo3,v3,d1,⟨d2,d3⟩,d4,d5,d6⟩:=ab9 (E:=E) s hs (p2.le (show m<=bs1.length by omega)) (by omega) (by rw [ao]; omega) (F (min bs.length k)) bs (gp v) hK (λb e=>by cases e; omega);have hne:acc++seqB bY s.l≠[]:=by simp [seqB,cu]
 have eA:acc++aK s.l.length++s.l.flatMap bY=acc++seqB bY s.l:=by simp [seqB]
 rw [eA] at d5;have hw:wrap .u64 (s.l.length:Int)=s.l.length:=by rw [wrap_u64]; omega
 have hnu:=hB.nu;have hq:=p1 (min bs.length k);simp at hq;simp at d1;have hlo:m<=lo3:=d6 (p5 _ (by omega));obtain ⟨h1,_⟩ | ⟨e1,b3,e2,rfl,e4⟩:=d5
 . exact absurd h1 hne
 have hbb:=d3 b3 rfl;refine ⟨b3,bs3,lo3,λlo=>?_,.inr ⟨e1,b3,hbb,rfl,e4⟩,hbb,d2,hlo⟩;rw [aM ch6 cd7];simp [ae,RZ,hw,hnu,c1,hq];rw [ai];simp [d1];intro _ hu;simp [V.under] at hu;omega
end
section
variable {E:Calls'}
theorem ch7:TX 93=some R3:=by kernel_rfl
theorem cd8:aP 93=true:=by kernel_rfl
theorem ak2 (x:Int)(h:Hp):Sm E TX aP 93 [.d (u64 x),.d (i64 4)] h=some (.d (bytesD (qP x)),h):=by
 rw [aY ch7 cd8];have key:=aB (E:=E) (T:=TX) (val:=aP) [0,1,5,6] lG;generalize hW:Cd E TX aP (.loop [0,1,5,6] lG)=W at key;have hm:∀ (ev:X->V) (hp:Hp),ev (.t 7)=.d (i64 4)->opE (Sm E TX aP) (.mksl 1 1 [(.d (.int .u8 0))] (.t 7) (.t 7)) ev hp=some (.row hp.size 0 4 (some 4) 1,hp.alloc [.d (.int .u8 0),.d (.int .u8 0),.d (.int .u8 0),.d (.int .u8 0)]):=λev hp he=>by
  simp only [opE,he]; rfl
 have s0:bK .shr (.d (.int .u64 x)) (.d (.int .i64 0))=some (.int .u64 x):=by rw [iE (by decide)]; simp
 have s1:bK .shr (.d (.int .u64 x)) (.d (.int .i64 8))=some (.int .u64 (x.fdiv 256)):=by rw [iE (by decide)]; rfl
 have s2:bK .shr (.d (.int .u64 x)) (.d (.int .i64 16))=some (.int .u64 (x.fdiv 65536)):=by rw [iE (by decide)]; rfl
 have s3:bK .shr (.d (.int .u64 x)) (.d (.int .i64 24))=some (.int .u64 (x.fdiv 16777216)):=by rw [iE (by decide)]; rfl
 have m0:bK .mul (.d (.int .i64 8)) (.d (.int .i64 0))=some (.int .i64 0):=by rfl
 have m1:bK .mul (.d (.int .i64 8)) (.d (.int .i64 1))=some (.int .i64 8):=by rfl
 have m2:bK .mul (.d (.int .i64 8)) (.d (.int .i64 2))=some (.int .i64 16):=by rfl
 have m3:bK .mul (.d (.int .i64 8)) (.d (.int .i64 3))=some (.int .i64 24):=by rfl
 have w1:wrap .i64 1=1:=by decide
 have w2:wrap .i64 2=2:=by decide
 have w3:wrap .i64 3=3:=by decide
 have w4:wrap .i64 4=4:=by decide
 simp [ae,R3,hm];rw [ai,hW,key];simp [lG,s0,m0,w1,eY];rw [key];simp [lG,s1,m1,w2,eY];rw [key];simp [lG,s2,m2,w3,eY];rw [key];simp [lG,s3,m3,w4,eY];rw [key];simp [lG];simp [bytesD,qP,dataV,dataV.chunks,sub]
theorem Cz {f:FuncId}{args:List V}{v:V}(hc:∀ h,Sm E TX aP f args h=some (v,h))(bs:List Blk):∀ (lo:Nat) (xs:List X) (ev:X->V),xs.all (λx=>okV (ev x))=true->xs.map ev=args->ev (.c (.fn f []))=.fn f []->cB (Sm E TX aP) (.call (.c (.fn f [])) xs) ev ⟨bs,lo⟩=some (v,⟨bs,lo⟩,⟨true,false,[],[],bs.length,bs.length,0⟩):=λlo xs ev ha hx hf=>by
 rw [aC,if_pos ha,hf,hx,jM,List.append_nil,hc];simp
def jG (s:Source):List Int:=seqB bY s.names.l++(seqB bY s.spaces.l++(wrap .u8 (s.nets.l.length:Int)::s.nets.l.flatMap jh))
def jH (t:Target):List Int:=(wrap .u8 (t.ports.l.length:Int)::t.ports.l.flatMap ko)++(seqB bY t.methods.l++(seqB bY t.paths.l++seqB bY t.hosts.l))
def qf (w:When):List Int:=bA w.head++seqB bY w.terms.l
def qc (r:Rule):List Int:=(wrap .u8 (r.frm.l.length:Int)::r.frm.l.flatMap jG)++((wrap .u8 (r.to.l.length:Int)::r.to.l.flatMap jH)++(wrap .u8 (r.whn.l.length:Int)::r.whn.l.flatMap qf))
def zN (p:Pol):List Int:=aK p.id++(bA p.ns++(aK p.service++(wrap .u8 p.deny::wrap .u8 (p.rules.l.length:Int)::p.rules.l.flatMap qc)))
structure K2 (p:Pol) (L:Nat) (r:Rule) (bs:List Blk):Prop where
 p0:aa bs 0=some (p.c.map .d)
 r0:aa bs L=some (r.c.map .d)
theorem K2.kx {p:Pol}{L:Nat}{r:Rule}{bs bs':List Blk}(h:K2 p L r bs){v:V}{acc:List Int}(hB:Bv (L+1) bs v acc)(hk:Kx (gp v) bs bs'):K2 p L r bs' :=
 ⟨hk.get (λe=>by have:=(hB.blk e).1; omega) h.p0,hk.get (λe=>by have:=(hB.blk e).1; omega) h.r0⟩
theorem K2.lay {p:Pol}{L:Nat}{r:Rule}{bs:List Blk}(h:K2 p L r bs)(ys:List Blk):K2 p L r (bs++ys):=⟨ay h.p0,ay h.r0⟩
section
variable {p:Pol}{L:Nat}{r:Rule}(hr:r.wf big)
include hr
theorem ad5 {k:Nat}{s:Source}(hs:r.frm.l[k]?=some s)(hk:k<r.frm.l.length)(pi:Nat)(bs:List Blk)(lo:Nat)(v:V)(acc:List Int)(hK:K2 p L r bs)(hm:L+1<=bs.length)(hB:Bv (L+1) bs v acc)(hb:acc.length+(s.nets.l.flatMap jh).length<=big) :
 ∃ bs' lo' v',Cd E TX aP (.loop [1,3,4,5,6,7] rZ) [(1,.ptr 0 0),(3,v),(4,.d (i64 (pi:Int))),(5,.ptr L 0),(6,.d (i64 (k:Int))),(7,.d (i64 ((0:Nat):Int)))] ⟨bs,lo⟩ =
  some (.exit 4,[(1,.ptr 0 0),(3,v'),(4,.d (i64 (pi:Int))),(5,.ptr L 0),(6,.d (i64 (k:Int)))],⟨bs',lo'⟩)/\K2 p L r bs'/\L+1<=bs'.length/\Bv (L+1) bs' v' (acc++s.nets.l.flatMap jh)/\(L+1<=lo->L+1<=lo'):=by
 have hwf:=hr.1.2 s (ce hs);refine dZ (E:=E) (keep:=[1,3,4,5,6,7]) (body:=rZ) s.nets.l jh (λi v=>[(1,.ptr 0 0),(3,v),(4,.d (i64 (pi:Int))),(5,.ptr L 0),(6,.d (i64 (k:Int))),(7,.d (i64 i))]) (λv=>(.exit 4,[(1,.ptr 0 0),(3,v),(4,.d (i64 (pi:Int))),(5,.ptr L 0),(6,.d (i64 (k:Int)))])) (L+1)
  (λbs' v'=>K2 p L r bs') (λi x hx hi bs1 lo v1 acc1 hK1 hm1 hB1 hb=>?_) (λbs lo v acc hK1 hB W=>?_) bs lo v acc hK hm hB hb
 . have hsx:=λh=>aA (z:=3) h hs (cells:=Source.c) rfl;have hix:=λh=>aA (z:=2) h hx (cells:=Cidr.c) rfl;have hw:=ax hi (fit.lt hwf.2.2.1);have h0:((i:Int)<s.nets.l.length):=by omega
   have hxr:=EM (hwf.2.2.2 x (ce hx)).1;have hwa:wrap .u64 x.addr=x.addr:=by rw [wrap_u64]; omega
   have hc:=λh=>ak2 (E:=E) x.addr h;have hu:(qP x.addr).length=4:=rfl;have hb':acc1.length+5<=big:=by
    have:(jh x).length=5:=rfl;omega
   obtain ⟨bs2,F,p1,p2,p3,p4,p5⟩:=hB1.app hm1 (xs:=qP x.addr) (by simp [qP]) (by rw [hu]; omega) (src:=.d (bytesD (qP x.addr))) (λlo=>jR _ _);have hB2:=p2.le (show L+1<=bs1.length by omega);have hK2:=hK1.kx hB1 p3;obtain ⟨bs3,F3,r1,r2,r3,r4,r5⟩:=(hB2.lay [.cells [.d (.int .u8 (wrap .u8 x.bits))]]).app (by simp; omega) (xs:=[wrap .u8 x.bits]) (by simp) (by rw [ao,hu]; simp; omega) (src:=.row bs2.length 0 1 (some 1) 1) (λlo=>nY lo);have eT:acc1++qP x.addr++[wrap .u8 x.bits]=acc1++jh x:=by simp [jh]
   rw [eT] at r1 r2;have hl3:bs3.length=bs2.length+2:=by rw [r4]; simp
   refine ⟨bs3,F3 (F lo),_,λW=>?_,(hK2.lay _).kx (hB2.lay _) r3,by omega,r2.le (by simp; omega),λh=>r5 _ (p5 _ h)⟩;have hnu:=hB1.nu;have hq1:=p1 lo;have hq2:=r1 (F lo);simp at hq1 hq2;simp [rZ,hK1.r0,hK2.r0,h0,hsx,hix,hnu,hwa,hc,hq1,az,hq2,hw]
 . have hsx:=λh=>aA (z:=3) h hs (cells:=Source.c) rfl;have hnu:=hB.nu;simp [rZ,hK1.r0,hsx]
end
end
section
variable {E:Calls'}
theorem gD {α:Type}(a b:List α):(a++b).length=a.length+b.length:=ao
section
variable {p:Pol}{L:Nat}{r:Rule}(hr:r.wf big)
include hr
theorem ad1 (pi:Nat)(bs:List Blk)(lo:Nat)(v:V)(acc:List Int)(hK:K2 p L r bs)(hm:L+1<=bs.length)(hB:Bv (L+1) bs v acc)(hb:acc.length+(r.frm.l.flatMap jG).length<=big) :
 ∃ bs' lo' v',Cd E TX aP (.loop [1,3,4,5,6] si) [(1,.ptr 0 0),(3,v),(4,.d (i64 (pi:Int))),(5,.ptr L 0),(6,.d (i64 ((0:Nat):Int)))] ⟨bs,lo⟩ =
  some (.exit 2,[(1,.ptr 0 0),(3,v'),(4,.d (i64 (pi:Int))),(5,.ptr L 0)],⟨bs',lo'⟩)/\K2 p L r bs'/\L+1<=bs'.length/\Bv (L+1) bs' v' (acc++r.frm.l.flatMap jG)/\(L+1<=lo->L+1<=lo'):=by
 refine dZ (E:=E) (keep:=[1,3,4,5,6]) (body:=si) r.frm.l jG (λi v=>[(1,.ptr 0 0),(3,v),(4,.d (i64 (pi:Int))),(5,.ptr L 0),(6,.d (i64 i))]) (λv=>(.exit 2,[(1,.ptr 0 0),(3,v),(4,.d (i64 (pi:Int))),(5,.ptr L 0)])) (L+1)
  (λbs' v'=>K2 p L r bs') (λi x hx hi bs1 lo v1 acc1 hK1 hm1 hB1 hb=>?_) (λbs lo v acc hK1 hB W=>?_) bs lo v acc hK hm hB hb
 . have hwf:=hr.1.2 x (ce hx);have hsx:=λh=>aA (z:=3) h hx (cells:=Source.c) rfl;have hw:=ax hi (fit.lt hr.1.1);have h0:((i:Int)<r.frm.l.length):=by omega
   simp only [jG,gD,cj] at hb;obtain ⟨b1,bs2,t1,F1,o1,i1,B1,g1,k1,l1⟩:=(Fy (E:=E) x.names (fit.lt hwf.1.1) hB1 hm1 (by omega)).open hm1;have hK2:=hK1.kx hB1 k1;have hm2:L+1<=bs2.length:=ch hm1 k1.1;have B1':=B1.le hm1;obtain ⟨b2,bs3,t2,F2,o2,i2,B2,g2,k2,l2⟩:=(Fy (E:=E) x.spaces (fit.lt hwf.2.1.1) B1' hm2 (by rw [gD]; omega)).open hm2;have hK3:=hK2.kx B1' k2;have hm3:L+1<=bs3.length:=ch hm2 k2.1;have B2':=B2.le hm2;obtain ⟨bs4,F3,r1,r2,r3,r4,r5⟩:=(B2'.lay [.cells [.d (.int .u8 (wrap .u8 (x.nets.l.length:Int)))]]).app (by simp; omega) (xs:=[wrap .u8 (x.nets.l.length:Int)]) (by simp) (by simp only [gD,cj,ck]; omega) (src:=.row bs3.length 0 1 (some 1) 1) (λlo=>nY lo);have hK4:=(hK3.lay _).kx (B2'.lay _) r3;have hl4:bs4.length=bs3.length+2:=by rw [r4]; simp
   have B4:=r2.le (show L+1<=_ by simp; omega);obtain ⟨bs5,lo5,v5,d1,d2,d3,d4,d5⟩:=ad5 (E:=E) hr hx hi pi bs4 (F3 (F2 (F1 lo))) _ _ hK4 (by omega) B4 (by simp only [gD,cj,ck]; omega);have eT:acc1++seqB bY x.names.l++seqB bY x.spaces.l++[wrap .u8 (x.nets.l.length:Int)]++x.nets.l.flatMap jh=acc1++jG x:=by simp [jG]
   rw [eT] at d4;refine ⟨bs5,lo5,v5,λW=>?_,d2,d3,d4,λh=>d5 (r5 _ (l2 _ (l1 _ h)))⟩;have hnu:=hB1.nu;have hok:=hB1.ok;have hq2:=r1 (F2 (F1 lo));simp at hq2;simp at d1;simp [si,hK1.r0,hK2.r0,h0,hsx,hnu,hok,aL,o1,o2];rw [if_pos (lV (L+1) [true,true,true,true,true,true,true,false,true,true,true,true,true,true,false,true] (by decide) ?_)]
   . simp [hK3.r0,hsx,az,hq2];rw [ai];simp [d1,hw]
   . repeat' first
      | exact trivial
      | refine Cl1.t (by simp) ?_
      | exact ⟨i1,?_⟩
      | refine ⟨i1,?_⟩
      | refine ⟨i2,?_⟩
 . have hnu:=hB.nu;simp [si,hK1.r0]
theorem ae4 {k:Nat}{t:Target}(ht:r.to.l[k]?=some t)(pi:Nat)(bs:List Blk)(lo:Nat)(v:V)(acc:List Int)(hK:K2 p L r bs)(hm:L+1<=bs.length)(hB:Bv (L+1) bs v acc)(hb:acc.length+(t.ports.l.flatMap ko).length<=big) :
 ∃ bs' lo' v',Cd E TX aP (.loop [1,3,4,5,8,9] sj) [(1,.ptr 0 0),(3,v),(4,.d (i64 (pi:Int))),(5,.ptr L 0),(8,.d (i64 (k:Int))),(9,.d (i64 ((0:Nat):Int)))] ⟨bs,lo⟩ =
  some (.exit 8,[(1,.ptr 0 0),(3,v'),(4,.d (i64 (pi:Int))),(5,.ptr L 0),(8,.d (i64 (k:Int)))],⟨bs',lo'⟩)/\K2 p L r bs'/\L+1<=bs'.length/\Bv (L+1) bs' v' (acc++t.ports.l.flatMap ko)/\(L+1<=lo->L+1<=lo'):=by
 have hwf:=hr.2.1.2 t (ce ht);refine dZ (E:=E) (keep:=[1,3,4,5,8,9]) (body:=sj) t.ports.l ko (λi v=>[(1,.ptr 0 0),(3,v),(4,.d (i64 (pi:Int))),(5,.ptr L 0),(8,.d (i64 (k:Int))),(9,.d (i64 i))]) (λv=>(.exit 8,[(1,.ptr 0 0),(3,v),(4,.d (i64 (pi:Int))),(5,.ptr L 0),(8,.d (i64 (k:Int)))])) (L+1)
  (λbs' v'=>K2 p L r bs') (λi x hx hi bs1 lo v1 acc1 hK1 hm1 hB1 hb=>?_) (λbs lo v acc hK1 hB W=>?_) bs lo v acc hK hm hB hb
 . have htx:=λh=>aA (z:=4) h ht (cells:=Target.c) rfl;have hix:=λh=>aA (z:=1) h hx (cells:=fE) rfl;have hw:=ax hi (fit.lt hwf.1.1);have h0:((i:Int)<t.ports.l.length):=by omega
   have hr0:0<=wrap .u64 x:=by rw [wrap_u64]; omega
   have hr1:wrap .u64 x<2 ^ 64:=by rw [wrap_u64]; omega
   obtain ⟨b,bs2,k2,c1,c2,c3,c4,c5⟩:=Gro.short (E:=E) hr0 hr1 hm1;have hB2:Bv (L+1) bs2 v1 acc1:=by
    obtain h | ⟨e1,b',e2,rfl,e4⟩:=hB1
    . exact .inl h
    . exact .inr ⟨e1,b',e2,rfl,c4.get (by simp) e4⟩
   have hK2:K2 p L r bs2:=⟨c4.get (by simp) hK1.p0,c4.get (by simp) hK1.r0⟩;have hl2:=c4.1;obtain ⟨bs3,F,p1,p2,p3,p4,p5⟩:=hB2.app (by omega) (cu (wrap .u64 x)) hb (src:=.row b 0 (aK (wrap .u64 x)).length none 1) (λlo=>c2.rc lo);refine ⟨bs3,F (min lo k2),_,λW=>?_,hK2.kx hB2 p3,by omega,p2.le (show L+1<=bs2.length by omega),λh=>p5 _ (by omega)⟩;have hnu:=hB1.nu;have hq1:=p1 (min lo k2);simp at hq1;simp [sj,hK1.r0,h0,htx,hix,hnu,c1,hq1,hw,fE]
 . have htx:=λh=>aA (z:=4) h ht (cells:=Target.c) rfl;have hnu:=hB.nu;simp [sj,hK1.r0,htx]
theorem ap2 (pi:Nat)(bs:List Blk)(lo:Nat)(v:V)(acc:List Int)(hK:K2 p L r bs)(hm:L+1<=bs.length)(hB:Bv (L+1) bs v acc)(hb:acc.length+(r.to.l.flatMap jH).length<=big) :
 ∃ bs' lo' v',Cd E TX aP (.loop [1,3,4,5,8] su) [(1,.ptr 0 0),(3,v),(4,.d (i64 (pi:Int))),(5,.ptr L 0),(8,.d (i64 ((0:Nat):Int)))] ⟨bs,lo⟩ =
  some (.exit 6,[(1,.ptr 0 0),(3,v'),(4,.d (i64 (pi:Int))),(5,.ptr L 0)],⟨bs',lo'⟩)/\K2 p L r bs'/\L+1<=bs'.length/\Bv (L+1) bs' v' (acc++r.to.l.flatMap jH)/\(L+1<=lo->L+1<=lo'):=by
 refine dZ (E:=E) (keep:=[1,3,4,5,8]) (body:=su) r.to.l jH (λi v=>[(1,.ptr 0 0),(3,v),(4,.d (i64 (pi:Int))),(5,.ptr L 0),(8,.d (i64 i))]) (λv=>(.exit 6,[(1,.ptr 0 0),(3,v),(4,.d (i64 (pi:Int))),(5,.ptr L 0)])) (L+1)
  (λbs' v'=>K2 p L r bs') (λi x hx hi bs1 lo v1 acc1 hK1 hm1 hB1 hb=>?_) (λbs lo v acc hK1 hB W=>?_) bs lo v acc hK hm hB hb
 . have hwf:=hr.2.1.2 x (ce hx);have hsx:=λh=>aA (z:=4) h hx (cells:=Target.c) rfl;have hw:=ax hi (fit.lt hr.2.1.1);have h0:((i:Int)<r.to.l.length):=by omega
   simp only [jH,gD,cj] at hb;obtain ⟨bs2,F1,r1,r2,r3,r4,r5⟩:=(hB1.lay [.cells [.d (.int .u8 (wrap .u8 (x.ports.l.length:Int)))]]).app (by simp; omega) (xs:=[wrap .u8 (x.ports.l.length:Int)]) (by simp) (by simp only [cj,ck]; omega) (src:=.row bs1.length 0 1 (some 1) 1) (λlo=>nY lo);have hK2:=(hK1.lay _).kx (hB1.lay _) r3;have hl2:bs2.length=bs1.length+2:=by rw [r4]; simp
   have B2:=r2.le (show L+1<=_ by simp; omega);obtain ⟨bs3,lo3,v3,d1,hK3,hm3,B3,d5⟩:=ae4 (E:=E) hr hx pi bs2 (F1 lo) _ _ hK2 (by omega) B2 (by simp only [gD,cj,ck]; omega);obtain ⟨b1,bs4,t1,G1,o1,i1,B4,g1,k1,l1⟩:=(Fy (E:=E) x.methods (fit.lt hwf.2.1.1) B3 hm3 (by simp only [gD,cj,ck]; omega)).open hm3;have hK4:=hK3.kx B3 k1;have hm4:L+1<=bs4.length:=ch hm3 k1.1;have B4':=B4.le hm3;obtain ⟨b2,bs5,t2,G2,o2,i2,B5,g2,k2,l2⟩:=(Fy (E:=E) x.paths (fit.lt hwf.2.2.1.1) B4' hm4 (by simp only [gD,cj,ck]; omega)).open hm4;have hK5:=hK4.kx B4' k2;have hm5:L+1<=bs5.length:=ch hm4 k2.1;have B5':=B5.le hm4;obtain ⟨b3,bs6,t3,G3,o3,i3,B6,g3,k3,l3⟩:=(Fy (E:=E) x.hosts (fit.lt hwf.2.2.2.1) B5' hm5 (by simp only [gD,cj,ck]; omega)).open hm5;have hK6:=hK5.kx B5' k3;have hm6:L+1<=bs6.length:=ch hm5 k3.1;have B6':=B6.le hm5;have eT:acc1++[wrap .u8 (x.ports.l.length:Int)]++x.ports.l.flatMap ko++seqB bY x.methods.l++seqB bY x.paths.l++seqB bY x.hosts.l=acc1++jH x:=by simp [jH]
   rw [eT] at B6' o3;refine ⟨bs6,G3 (G2 (G1 lo3)),_,λW=>?_,hK6,hm6,B6',λh=>l3 _ (l2 _ (l1 _ (d5 (r5 _ h))))⟩;have hnu:=hB1.nu;have hok3:=B3.ok;have hnu3:=B3.nu;have hq2:=r1 lo;simp at hq2;simp at d1;simp [su,hK1.r0,h0,hsx,hnu,az,hq2];rw [ai];simp [d1,hnu3,hok3,hK3.r0,hK4.r0,hK5.r0,hsx,aL,o1,o2,o3];rw [if_pos (lV (L+1) [true,true,true,true,true,true,true,false,true,true,true,true,true,true,false,true,true,true,true,true,true,false,true] (by decide) ?_)]
   . simp [hw]
   . repeat' first
      | exact trivial
      | refine Cl1.t (by simp) ?_
      | refine ⟨i1,?_⟩
      | refine ⟨i2,?_⟩
      | refine ⟨i3,?_⟩
 . have hnu:=hB.nu;simp [su,hK1.r0]
theorem ap3 (pi:Nat)(bs:List Blk)(lo:Nat)(v:V)(acc:List Int)(hK:K2 p L r bs)(hm:L+1<=bs.length)(hB:Bv (L+1) bs v acc)(hb:acc.length+(r.whn.l.flatMap qf).length<=big) :
 ∃ bs' lo' v',Cd E TX aP (.loop [1,3,4,5,10] sw) [(1,.ptr 0 0),(3,v),(4,.d (i64 (pi:Int))),(5,.ptr L 0),(10,.d (i64 ((0:Nat):Int)))] ⟨bs,lo⟩ =
  some (.exit 10,[(1,.ptr 0 0),(3,v'),(4,.d (i64 (pi:Int)))],⟨bs',lo'⟩)/\K2 p L r bs'/\L+1<=bs'.length/\Bv (L+1) bs' v' (acc++r.whn.l.flatMap qf)/\(L+1<=lo->L+1<=lo'):=by
 refine dZ (E:=E) (keep:=[1,3,4,5,10]) (body:=sw) r.whn.l qf (λi v=>[(1,.ptr 0 0),(3,v),(4,.d (i64 (pi:Int))),(5,.ptr L 0),(10,.d (i64 i))]) (λv=>(.exit 10,[(1,.ptr 0 0),(3,v),(4,.d (i64 (pi:Int)))])) (L+1)
  (λbs' v'=>K2 p L r bs') (λi x hx hi bs1 lo v1 acc1 hK1 hm1 hB1 hb=>?_) (λbs lo v acc hK1 hB W=>?_) bs lo v acc hK hm hB hb
 . have hwf:=hr.2.2.2 x (ce hx);have hsx:=λh=>aA (z:=2) h hx (cells:=When.c) rfl;have hw:=ax hi (fit.lt hr.2.2.1);have h0:((i:Int)<r.whn.l.length):=by omega
   simp only [qf,gD] at hb;have hne:bA x.head≠[]:=by simp [bA,cu]
   have o0:=Cz (λh=>CL (E:=E) x.head (by omega) h) bs1;obtain ⟨bs2,F1,r1,r2,r3,r4,r5⟩:=hB1.app hm1 hne (by omega) (src:=.d (bytesD (bA x.head))) (λlo=>jR _ _);have hK2:=hK1.kx hB1 r3;have B2:=r2.le (show L+1<=bs1.length by omega);have hm2:L+1<=bs2.length:=by omega
   obtain ⟨b1,bs3,t1,G1,o1,i1,B3,g1,k1,l1⟩:=(Fy (E:=E) x.terms (fit.lt hwf.2.1) B2 hm2 (by simp only [gD]; omega)).open hm2;have hK3:=hK2.kx B2 k1;have hm3:L+1<=bs3.length:=ch hm2 k1.1;have B3':=B3.le hm2;have eT:acc1++bA x.head++seqB bY x.terms.l=acc1++qf x:=by simp [qf]
   rw [eT] at B3' o1;refine ⟨bs3,G1 (F1 lo),_,λW=>?_,hK3,hm3,B3',λh=>l1 _ (r5 _ h)⟩;have hnu:=hB1.nu;have hq2:=r1 lo;simp at hq2;simp [sw,hK1.r0,hK2.r0,h0,hsx,hnu,aL,o0,hq2,o1];rw [if_pos (lV (L+1) [true,true,true,true,true,true,true,false,false,true,true,true,true,true,true,false,true] (by decide) ?_)]
   . simp [hw]
   . have hvb:=hB1.vblk
     repeat' first
      | exact trivial
      | refine Cl1.t (by simp) ?_
      | refine Cl1.c ?_
      | refine Cl1.m ?_ ?_ ?_
      | refine ⟨i1,?_⟩
      | exact hvb
      | fail
     all_goals first
      | exact hvb
      | omega
      | (simp; try omega)
 . have hnu:=hB.nu;simp [sw,hK1.r0]
end
end
section
variable {E:Calls'}
theorem ae6 (p:Pol)(hp:p.wf big)(bs:List Blk)(lo:Nat)(v:V)(acc:List Int)(hK:aa bs 0=some (p.c.map .d))(hm:1<=bs.length)(hB:Bv 1 bs v acc)(hb:acc.length+(p.rules.l.flatMap qc).length<=big) :
 ∃ bs' lo' v',Cd E TX aP (.loop [1,3,4] sD) [(1,.ptr 0 0),(3,v),(4,.d (i64 ((0:Nat):Int)))] ⟨bs,lo⟩ =
  some (.exit 0,[(3,v')],⟨bs',lo'⟩)/\aa bs' 0=some (p.c.map .d)/\1<=bs'.length/\Bv 1 bs' v' (acc++p.rules.l.flatMap qc)/\(0<=lo->0<=lo'):=by
 refine dZ (E:=E) (keep:=[1,3,4]) (body:=sD) p.rules.l qc (λi v=>[(1,.ptr 0 0),(3,v),(4,.d (i64 i))]) (λv=>(.exit 0,[(3,v)])) 1
  (λbs' v'=>aa bs' 0=some (p.c.map .d)) (λi x hx hi bs1 lo v1 acc1 hK1 hm1 hB1 hb=>?_) (λbs lo v acc hK1 hB W=>?_) bs lo v acc hK hm hB hb
 . have hwf:=hp.2.2.2.2.2 x (ce hx);have hsx:=λh=>aA (z:=3) h hx (cells:=Rule.c) rfl;have hw:=ax hi (fit.lt hp.2.2.2.2.1);have h0:((i:Int)<p.rules.l.length):=by omega
   simp only [qc,gD,cj] at hb;have hKa:K2 p bs1.length x (bs1++[.cells (x.c.map .d)]):=⟨ay hK1,by simp⟩;have hA:=hB1.lay [.cells (x.c.map .d)];obtain ⟨bs2,F1,r1,r2,r3,r4,r5⟩:=(hA.lay [.cells [.d (.int .u8 (wrap .u8 (x.frm.l.length:Int)))]]).app (by simp) (xs:=[wrap .u8 (x.frm.l.length:Int)]) (by simp) (by simp only [cj,ck]; omega) (src:=.row (bs1++[Blk.cells (x.c.map .d)]).length 0 1 (some 1) 1) (λlo=>nY lo);have hne:gp v1≠some bs1.length:=λe=>by have:=(hB1.blk e).2; omega
   have hn0:gp v1≠some 0:=λe=>by have:=(hB1.blk e).1; omega
   have hK2:K2 p bs1.length x bs2:=⟨r3.get hn0 (hKa.lay _).p0,r3.get hne (hKa.lay _).r0⟩;have hl2:bs2.length=bs1.length+3:=by rw [r4]; simp
   have B2:=r2.le (show bs1.length+1<=_ by simp);obtain ⟨bs3,lo3,v3,d1,hK3,hm3,B3,d5⟩:=ad1 (E:=E) hwf i bs2 (F1 (min lo bs1.length)) _ _ hK2 (by omega) B2 (by simp only [gD,cj,ck]; omega);obtain ⟨bs4,F2,s1,s2,s3,s4,s5⟩:=(B3.lay [.cells [.d (.int .u8 (wrap .u8 (x.to.l.length:Int)))]]).app (by simp; omega) (xs:=[wrap .u8 (x.to.l.length:Int)]) (by simp) (by simp only [gD,cj,ck]; omega) (src:=.row bs3.length 0 1 (some 1) 1) (λlo=>nY lo);have hK4:=(hK3.lay _).kx (B3.lay _) s3;have hl4:bs4.length=bs3.length+2:=by rw [s4]; simp
   have B4:=s2.le (show bs1.length+1<=_ by simp; omega);obtain ⟨bs5,lo5,v5,e1,hK5,hm5,B5,e5⟩:=ap2 (E:=E) hwf i bs4 (F2 lo3) _ _ hK4 (by omega) B4 (by simp only [gD,cj,ck]; omega);obtain ⟨bs6,F3,t1,t2,t3,t4,t5⟩:=(B5.lay [.cells [.d (.int .u8 (wrap .u8 (x.whn.l.length:Int)))]]).app (by simp; omega) (xs:=[wrap .u8 (x.whn.l.length:Int)]) (by simp) (by simp only [gD,cj,ck]; omega) (src:=.row bs5.length 0 1 (some 1) 1) (λlo=>nY lo);have hK6:=(hK5.lay _).kx (B5.lay _) t3;have hl6:bs6.length=bs5.length+2:=by rw [t4]; simp
   have B6:=t2.le (show bs1.length+1<=_ by simp; omega);obtain ⟨bs7,lo7,v7,f1,hK7,hm7,B7,f5⟩:=ap3 (E:=E) hwf i bs6 (F3 lo5) _ _ hK6 (by omega) B6 (by simp only [gD,cj,ck]; omega);have eT:acc1++[wrap .u8 (x.frm.l.length:Int)]++x.frm.l.flatMap jG++[wrap .u8 (x.to.l.length:Int)]++x.to.l.flatMap jH++[wrap .u8 (x.whn.l.length:Int)]++x.whn.l.flatMap qf=acc1++qc x:=by simp [qc]
   rw [eT] at B7;refine ⟨bs7,lo7,v7,λW=>?_,hK7.p0,by omega,B7.le (by omega),λh=>?_⟩
   . have hnu:=hB1.nu;have hnu3:=B3.nu;have hnu5:=B5.nu;have hg:=ay (ys:=[.cells (x.c.map .d)]) hK1;have hq1:=r1 (min lo bs1.length);have hq2:=s1 lo3;have hq3:=t1 lo5;simp at hq1 hq2 hq3 d1 e1 f1;simp [sD,hK1,h0,hsx,hnu,az,hq1];rw [ai];simp [d1,hK3.r0,hnu3,az,hq2];rw [ai];simp [e1,hK5.r0,hnu5,az,hq3];rw [ai];simp [f1,hw]
   . exact Nat.zero_le _
 . have hnu:=hB.nu;simp [sD,hK1]
theorem S9 {bs:List Blk}{x y:Int}{k:IntKind}(lo:Nat):aF ⟨bs++[.cells [.d (.int k x),.d (.int k y)]],lo⟩ (.row bs.length 0 2 (some 2) 1) 1=some (([x,y]:List Int).length,([x,y]:List Int).map (iv k)):=by
 simp only [aF,if_true,get_eq,gu];rfl
theorem Bv.short {m:Nat}{bs bs':List Blk}{v:V}{acc:List Int}(h:Bv m bs v acc)(k:Kx none bs bs'):Bv m bs' v acc:=by
 obtain h | ⟨e1,b',e2,rfl,e4⟩:=h
 . exact .inl h
 . exact .inr ⟨e1,b',e2,rfl,k.get (by simp) e4⟩
theorem rA {n:Int}(h:Inr .u64 n):0<=n/\n<2 ^ 64:=by
 simp [Inr,Lit.wf,IntKind.min,IntKind.max,IntKind.bits,IntKind.signed] at h;omega
theorem ch1:TX 32=some RA:=by kernel_rfl
theorem cc9:aP 32=true:=by kernel_rfl
theorem ai2 (p:Pol)(hp:p.wf big)(hl:(zN p).length<=big)(h:Hp):Sm E TX aP 32 [ag p.c] h=some (.d (bytesD (zN p)),h):=by
 simp only [zN,gD,cj] at hl;have hid:=rA hp.1;have hsv:=rA hp.2.2.1;have hK0:aa [Blk.cells (p.c.map .d)] 0=some (p.c.map .d):=by simp
 obtain ⟨b1,bs1,t1,G1,o1,i1,B1,g1,k1,l1⟩:=(Gro.short (E:=E) (x:=p.id) (m:=1) (bs:=[Blk.cells (p.c.map .d)]) hid.1 hid.2 (by simp)).open (by simp);have hK1:=k1.get (by simp) hK0;have hne:bA p.ns≠[]:=by simp [bA,cu]
 have o2:=Cz (λh=>CL (E:=E) p.ns (by omega) h) bs1;have B1':Bv 1 bs1 _ _:=B1;have hm1:1<=bs1.length:=k1.1;obtain ⟨bs2,F2,r1,r2,r3,r4,r5⟩:=B1'.app hm1 hne (by omega) (src:=.d (bytesD (bA p.ns))) (λlo=>jR _ _);have hK2:=r3.get (λe=>by have:=(B1'.blk e).1; omega) hK1;have B2:=r2.le hm1;have hm2:1<=bs2.length:=by omega
 obtain ⟨b3,bs3,k3,c1,c2,c3,c4,c5⟩:=Gro.short (E:=E) (x:=p.service) hsv.1 hsv.2 hm2;have hK3:=c4.get (by simp) hK2;have B3:=B2.short c4;have hl3:=c4.1;obtain ⟨bs4,F4,s1,s2,s3,s4,s5⟩:=B3.app (by omega) (cu _) (by simp only [gD]; omega) (src:=.row b3 0 (aK p.service).length none 1) (λlo=>c2.rc lo);have hK4:=s3.get (λe=>by have:=(B3.blk e).1; omega) hK3;have B4:=s2.le (show 1<=bs3.length by omega);obtain ⟨bs5,F5,u1,u2,u3,u4,u5⟩:=(B4.lay [.cells [.d (.int .u8 (wrap .u8 p.deny)),.d (.int .u8 (wrap .u8 (p.rules.l.length:Int)))]]).app (by simp) (xs:=[wrap .u8 p.deny,wrap .u8 (p.rules.l.length:Int)]) (by simp) (by simp only [gD,cj,ck]; omega) (src:=.row bs4.length 0 2 (some 2) 1) (λlo=>S9 lo);have hK5:=u3.get (λe=>by have:=(B4.blk e).1; omega) (ay (ys:=[.cells [.d (.int .u8 (wrap .u8 p.deny)),.d (.int .u8 (wrap .u8 (p.rules.l.length:Int)))]]) hK4);have hl5:bs5.length=bs4.length+2:=by rw [u4]; simp
 have B5:=u2.le (show 1<=_ by simp);obtain ⟨bs6,lo6,v6,d1,_,_,B6,_⟩:=ae6 (E:=E) p hp bs5 (F5 (F4 (min (F2 (G1 0)) k3))) _ _ hK5 (by omega) B5 (by simp only [gD,cj,ck]; omega);have eT:aK p.id++bA p.ns++aK p.service++[wrap .u8 p.deny,wrap .u8 (p.rules.l.length:Int)]++p.rules.l.flatMap qc=zN p:=by simp [zN]
 rw [eT] at B6;have hne6:zN p≠[]:=by simp [zN,cu]
 have hdat:=λlo=>B6.dat hne6 lo 7;have hnu6:=B6.nu;have hq1:=r1 (G1 0);have hq2:=s1 (min (F2 (G1 0)) k3);have hq3:=u1 (F4 (min (F2 (G1 0)) k3));simp at hq1 hq2 hq3 d1;rw [aY ch1 cc9];simp [ae,RA,aL,o1,hK1,o2,hq1];rw [if_pos (lV 1 [true,true,false,true,true,false,false,true] (by decide) ?_)]
 . simp [hK2,c1,hq2,hK4,az,hq3];rw [ai];simp [d1,hnu6];obtain ⟨h1,_⟩ | ⟨_,b',_,rfl,_⟩:=B6
   . exact absurd h1 hne6
   . simp [hdat]
 . repeat' first
    | exact trivial
    | refine Cl1.t (by simp) ?_
    | refine Cl1.c ?_
    | refine Cl1.m ?_ ?_ ?_
    | refine ⟨i1,?_⟩
    | fail
   all_goals first
    | omega
    | (simp; try omega)
end
section
variable {E:Calls'}
theorem BX {xs:List Int}(hx:∀ x∈xs,0<=x/\x<2 ^ 64)(hne:xs≠[])(hxn:xs.length<2 ^ 62){bs:List Blk}{v:V}{acc:List Int}(hB:Bv 1 bs v acc)(hm:1<=bs.length)(hl:acc.length+(xs.flatMap aK).length<=big)(cap:Option Nat) :
 ∃ b bs' k,(∀ lo,Sm E TX aP 30 [v,.row bs.length 0 xs.length cap 1] ⟨bs++[.cells (xs.map λn=>V.d (u64 n))],lo⟩=some (.row b 0 (acc++xs.flatMap aK).length none 1,⟨bs',min lo k⟩)) ∧
  Bv 1 bs' (.row b 0 (acc++xs.flatMap aK).length none 1) (acc++xs.flatMap aK)/\bs.length<b/\1<=bs'.length/\Kx (gp v) bs bs':=by
 obtain ⟨b,bs',k,c1,c2,c3,c4,c5⟩:=Uk (E:=E) hx hne hxn (hB.lay [.cells (xs.map λn=>V.d (u64 n))]) (by simp) (q:=bs.length) (cap:=cap) (by simp) (λe=>by have:=(hB.blk e).2; omega) hl;refine ⟨b,bs',k,c1,c2.le (by simp),by simp at c3; omega,by have:=c4.1; simp at this; omega,(Kx.lay _ bs _).trans c4 (.inl rfl)⟩
theorem jO {n:Int}:0<=wrap .u64 n/\wrap .u64 n<2 ^ 64:=by rw [wrap_u64]; omega
theorem L9 {n:Nat}(h:n<=big):0<=(n:Int)/\(n:Int)<2 ^ 64:=by have:big=2 ^ 30:=rfl; omega
theorem A99 (c:Cfg)(hc:c.wf big)(bs:List Blk)(lo:Nat)(v:V)(acc:List Int)(hK:aa bs 0=some (c.c.map .d))(hm:1<=bs.length)(hB:Bv 1 bs v acc)(hb:acc.length+(c.pods.l.flatMap ll).length<=big) :
 ∃ bs' lo' v',Cd E TX aP (.loop [1,3,4] xq) [(1,.ptr 0 0),(3,v),(4,.d (i64 ((0:Nat):Int)))] ⟨bs,lo⟩ =
  some (.exit 0,[(1,.ptr 0 0),(3,v')],⟨bs',lo'⟩)/\aa bs' 0=some (c.c.map .d)/\1<=bs'.length/\Bv 1 bs' v' (acc++c.pods.l.flatMap ll)/\(0<=lo->0<=lo'):=by
 have hok:=hc.ok (bo _);refine dZ (E:=E) (keep:=[1,3,4]) (body:=xq) c.pods.l ll (λi v=>[(1,.ptr 0 0),(3,v),(4,.d (i64 i))]) (λv=>(.exit 0,[(1,.ptr 0 0),(3,v)])) 1
  (λbs' v'=>aa bs' 0=some (c.c.map .d)) (λi x hx hi bs1 lo v1 acc1 hK1 hm1 hB1 hb=>?_) (λbs lo v acc hK1 hB W=>?_) bs lo v acc hK hm hB hb
 . have hwf:=hc.2.2.2.2.1.2 x (ce hx);have hsx:=λh=>aA (z:=7) h hx (cells:=Pod.c) rfl;have hw:=ax hi hok.1.lt;have h0:((i:Int)<c.pods.l.length):=by omega
   simp only [ll,gD] at hb;have hn0:gp v1≠some 0:=λe=>by have:=(hB1.blk e).1; omega
   have hnL:gp v1≠some bs1.length:=λe=>by have:=(hB1.blk e).2; omega
   have hA:=hB1.lay [.cells (x.c.map .d)];have hKa:=ay (ys:=[.cells (x.c.map .d)]) hK1;have hLa:aa (bs1++[.cells (x.c.map .d)]) bs1.length=some (x.c.map .d):=by simp
   obtain ⟨b2,bs2,k2,c1,B2,g2,m2,e2⟩:=BX (E:=E) (xs:=[x.uid]) (by simpa using rA hwf.1) (by simp) (by simp) hA (by simp) (by omega) (some 1);have hK2:=e2.get hn0 hKa;have hL2:=e2.get hnL hLa;have n20:gp (V.row b2 0 (acc1++[x.uid].flatMap aK).length none 1)≠some 0:=λe=>by simp only [gp,ba] at e; simp at g2; omega
   have n2L:gp (V.row b2 0 (acc1++[x.uid].flatMap aK).length none 1)≠some bs1.length:=λe=>by simp only [gp,ba] at e; simp at g2; omega
   have hne1:bA x.ns≠[]:=by simp [bA,cu]
   have hne2:bA x.sa≠[]:=by simp [bA,cu]
   have t1:=λh=>CL (E:=E) x.ns (by omega) h;have t2:=λh=>CL (E:=E) x.sa (by omega) h;have hl2:bs1.length<bs2.length:=by have:=e2.1; simp at this; omega
   obtain ⟨bs3,F3,r1,B3,e3,l3,_⟩:=B2.app m2 hne1 (by simp only [gD]; omega) (src:=.d (bytesD (bA x.ns))) (λlo=>jR _ _);have hK3:=e3.get n20 hK2;have hL3:=e3.get n2L hL2;have B3':=B3.le m2;obtain ⟨bs4,F4,s1,B4,e4,l4,_⟩:=B3'.app (by omega) hne2 (by simp only [gD]; omega) (src:=.d (bytesD (bA x.sa))) (λlo=>jR _ _);have hK4:=e4.get (λe=>by simp only [gp,ba] at e; omega) hK3;have hL4:=e4.get (λe=>by simp only [gp,ba] at e; omega) hL3;have B4':=B4.le (show 1<=bs3.length by omega);obtain ⟨b5,bs5,k5,d1,B5,g5,m5,e5⟩:=BX (E:=E) (xs:=[wrap .u64 x.host,wrap .u64 x.addr,wrap .u64 x.port,x.service]) (by
    intro y hy;simp only [List.mem_cons,List.not_mem_nil,or_false] at hy;obtain rfl | rfl | rfl | rfl:=hy
    . exact jO
    . exact jO
    . exact jO
    . exact rA hwf.2.2.2.2.2.2) (by simp) (by simp) B4' (by omega) (by simp only [gD]; omega) (some 4)
   have hK5:=e5.get (λe=>by simp only [gp,ba] at e; omega) hK4;have eT:acc1++[x.uid].flatMap aK++bA x.ns++bA x.sa++[wrap .u64 x.host,wrap .u64 x.addr,wrap .u64 x.port,x.service].flatMap aK=acc1++ll x:=by simp [ll]
   rw [eT] at B5 d1;refine ⟨bs5,min (F4 (F3 (min (min lo bs1.length) k2))) k5,_,λW=>?_,hK5,m5,B5,λ_=>Nat.zero_le _⟩;have hnu:=hB1.nu;have hok1:=hB1.ok;have hq0:=c1 (min lo bs1.length);have hq1:=r1 (min (min lo bs1.length) k2);have hq2:=s1 (F3 (min (min lo bs1.length) k2));have hq3:=d1 (F4 (F3 (min (min lo bs1.length) k2)));simp at hq0 hq1 hq2 hq3;simp [xq,hK1,h0,hsx,hnu,hok1,az,hq0,hL2,t1,hq1,hL3,t2,hq2,hL4,hq3,hw]
 . have hnu:=hB.nu;simp [xq,hK1]
theorem B99 (c:Cfg)(hc:c.wf big)(bs:List Blk)(lo:Nat)(v:V)(acc:List Int)(hK:aa bs 0=some (c.c.map .d))(hm:1<=bs.length)(hB:Bv 1 bs v acc)(hb:acc.length+(c.services.l.flatMap lm).length<=big) :
 ∃ bs' lo' v',Cd E TX aP (.loop [1,3,6] xu) [(1,.ptr 0 0),(3,v),(6,.d (i64 ((0:Nat):Int)))] ⟨bs,lo⟩ =
  some (.exit 2,[(1,.ptr 0 0),(3,v')],⟨bs',lo'⟩)/\aa bs' 0=some (c.c.map .d)/\1<=bs'.length/\Bv 1 bs' v' (acc++c.services.l.flatMap lm)/\(0<=lo->0<=lo'):=by
 have hok:=hc.ok (bo _);refine dZ (E:=E) (keep:=[1,3,6]) (body:=xu) c.services.l lm (λi v=>[(1,.ptr 0 0),(3,v),(6,.d (i64 i))]) (λv=>(.exit 2,[(1,.ptr 0 0),(3,v)])) 1
  (λbs' v'=>aa bs' 0=some (c.c.map .d)) (λi x hx hi bs1 lo v1 acc1 hK1 hm1 hB1 hb=>?_) (λbs lo v acc hK1 hB W=>?_) bs lo v acc hK hm hB hb
 . have hwf:=hc.2.2.2.2.2.1.2 x (ce hx);have hsx:=λh=>aA (z:=5) h hx (cells:=Svc.c) rfl;have hw:=ax hi hok.2.1.lt;have h0:((i:Int)<c.services.l.length):=by omega
   simp only [lm,gD] at hb;have hn0:gp v1≠some 0:=λe=>by have:=(hB1.blk e).1; omega
   have hnL:gp v1≠some bs1.length:=λe=>by have:=(hB1.blk e).2; omega
   have hA:=hB1.lay [.cells (x.c.map .d)];have hKa:=ay (ys:=[.cells (x.c.map .d)]) hK1;have hLa:aa (bs1++[.cells (x.c.map .d)]) bs1.length=some (x.c.map .d):=by simp
   obtain ⟨b2,bs2,k2,c1,B2,g2,m2,e2⟩:=BX (E:=E) (xs:=[x.id]) (by simpa using rA hwf.1) (by simp) (by simp) hA (by simp) (by omega) (some 1);have hK2:=e2.get hn0 hKa;have hL2:=e2.get hnL hLa;have n20:gp (V.row b2 0 (acc1++[x.id].flatMap aK).length none 1)≠some 0:=λe=>by simp only [gp,ba] at e; simp at g2; omega
   have n2L:gp (V.row b2 0 (acc1++[x.id].flatMap aK).length none 1)≠some bs1.length:=λe=>by simp only [gp,ba] at e; simp at g2; omega
   have hne1:bA x.ns≠[]:=by simp [bA,cu]
   have t1:=λh=>CL (E:=E) x.ns (by omega) h;obtain ⟨bs3,F3,r1,B3,e3,l3,_⟩:=B2.app m2 hne1 (by simp only [gD]; omega) (src:=.d (bytesD (bA x.ns))) (λlo=>jR _ _);have hK3:=e3.get n20 hK2;have hL3:=e3.get n2L hL2;have B3':=B3.le m2;obtain ⟨b5,bs5,k5,d1,B5,g5,m5,e5⟩:=BX (E:=E) (xs:=[wrap .u64 x.addr,wrap .u64 x.port,x.way]) (by
    intro y hy;simp only [List.mem_cons,List.not_mem_nil,or_false] at hy;obtain rfl | rfl | rfl:=hy
    . exact jO
    . exact jO
    . exact rA hwf.2.2.2.2) (by simp) (by simp) B3' (by omega) (by simp only [gD]; omega) (some 3)
   have hK5:=e5.get (λe=>by simp only [gp,ba] at e; omega) hK3;have eT:acc1++[x.id].flatMap aK++bA x.ns++[wrap .u64 x.addr,wrap .u64 x.port,x.way].flatMap aK=acc1++lm x:=by simp [lm]
   rw [eT] at B5 d1;refine ⟨bs5,min (F3 (min (min lo bs1.length) k2)) k5,_,λW=>?_,hK5,m5,B5,λ_=>Nat.zero_le _⟩;have hnu:=hB1.nu;have hok1:=hB1.ok;have hq0:=c1 (min lo bs1.length);have hq1:=r1 (min (min lo bs1.length) k2);have hq3:=d1 (F3 (min (min lo bs1.length) k2));simp at hq0 hq1 hq3;simp [xu,hK1,h0,hsx,hnu,hok1,az,hq0,hL2,t1,hq1,hL3,hq3,hw]
 . have hnu:=hB.nu;simp [xu,hK1]
theorem C99 (c:Cfg)(hc:c.wf big)(bs:List Blk)(lo:Nat)(v:V)(acc:List Int)(hK:aa bs 0=some (c.c.map .d))(hm:1<=bs.length)(hB:Bv 1 bs v acc)(hb:acc.length+(c.bound.l.flatMap pY).length<=big) :
 ∃ bs' lo' v',Cd E TX aP (.loop [1,3,8] xw) [(1,.ptr 0 0),(3,v),(8,.d (i64 ((0:Nat):Int)))] ⟨bs,lo⟩ =
  some (.exit 4,[(1,.ptr 0 0),(3,v')],⟨bs',lo'⟩)/\aa bs' 0=some (c.c.map .d)/\1<=bs'.length/\Bv 1 bs' v' (acc++c.bound.l.flatMap pY)/\(0<=lo->0<=lo'):=by
 have hok:=hc.ok (bo _);refine dZ (E:=E) (keep:=[1,3,8]) (body:=xw) c.bound.l pY (λi v=>[(1,.ptr 0 0),(3,v),(8,.d (i64 i))]) (λv=>(.exit 4,[(1,.ptr 0 0),(3,v)])) 1
  (λbs' v'=>aa bs' 0=some (c.c.map .d)) (λi x hx hi bs1 lo v1 acc1 hK1 hm1 hB1 hb=>?_) (λbs lo v acc hK1 hB W=>?_) bs lo v acc hK hm hB hb
 . have hwf:=hc.2.2.2.2.2.2.1.2 x (ce hx);have hsx:=λh=>aA (z:=2) h hx (cells:=Way.c) rfl;have hw:=ax hi hok.2.2.1.lt;have h0:((i:Int)<c.bound.l.length):=by omega
   have hn0:gp v1≠some 0:=λe=>by have:=(hB1.blk e).1; omega
   obtain ⟨b2,bs2,t1,F1,o1,i1,B2,g2,e2,_⟩:=(Uk (E:=E) (m:=1) (bs:=bs1++[.cells [.d (u64 x.id),.d (u64 (wrap .u64 x.node))]]) (xs:=[x.id,wrap .u64 x.node]) (by
    intro y hy;simp only [List.mem_cons,List.not_mem_nil,or_false] at hy;obtain rfl | rfl:=hy
    . exact rA hwf.1
    . exact jO) (by simp) (by simp) (hB1.lay _) (by simp) (q:=bs1.length) (cap:=some 2) (by simp) (λe=>by have:=(hB1.blk e).2; omega) hb).open (by simp)
   have hK2:=e2.get hn0 (ay (ys:=[.cells [.d (u64 x.id),.d (u64 (wrap .u64 x.node))]]) hK1);have hl2:=e2.1;refine ⟨bs2,F1 lo,_,λW=>?_,hK2,by simp at hl2; omega,B2.le (by simp),λ_=>Nat.zero_le _⟩;have hnu:=hB1.nu;have hok1:=hB1.ok;simp [xw,hK1,h0,hsx,hnu,hok1,aL,az,o1];rw [if_pos (lV 1 [true,true,true,true,true,true,true,true,true,true,true,true,true,true,false,false,true] (by decide) ?_)]
   . simp [hw]
   . repeat' first
      | exact trivial
      | refine Cl1.t (by simp) ?_
      | refine Cl1.m ?_ ?_ ?_
      | refine ⟨i1,?_⟩
      | fail
     all_goals first
      | omega
      | (simp; try omega)
 . have hnu:=hB.nu;simp [xw,hK1]
theorem yX:∀ n,n<128->aK (n:Nat)=[wrap .u8 (n:Nat)]:=by decide +kernel
theorem kK {α:Type}{f g:α->List Int}:∀ {l:List α},(∀ x∈l,f x=g x)->l.flatMap f=l.flatMap g
 | [],_=>rfl
 | x::l,h=>by rw [List.flatMap_cons,List.flatMap_cons,h x (by simp),kK (l:=l) λy hy=>h y (List.mem_cons_of_mem _ hy)]
theorem D5 {s:Source}(h:bV s=true):jG s=fu s:=by
 simp only [bV,kC,ap,br] at h;have:=yX s.nets.l.length (by omega);simp [jG,fu,iq,seqB,this]
theorem Ee {t:Target}(h:aT t=true):jH t=fw t:=by
 simp only [aT,ap,br] at h;have:=yX t.ports.l.length (by omega);simp [jH,fw,iq,seqB,this]
theorem KZ (w:When):qf w=ku w:=by simp [qf,ku,iq]
theorem Kl {r:Rule}(h:eD r=true):qc r=kr r:=by
 simp only [eD,ap,br,cm] at h;obtain ⟨⟨⟨h1,h2⟩,h3,h4⟩,h5,h6⟩:=h;have a1:=yX r.frm.l.length (by omega);have a2:=yX r.to.l.length (by omega);have a3:=yX r.whn.l.length (by omega);rw [qc,kr,seqB,seqB,seqB,a1,a2,a3,kK λx hx=>D5 (h2 x hx),kK λx hx=>Ee (h4 x hx),kK λx _=>KZ x];rfl
theorem Mt {p:Pol}(h:bz p=true):zN p=jg p:=by
 simp only [bz,ap,Bool.or_eq_true,br,cm,beq_iff_eq] at h;obtain ⟨⟨_,hd⟩,h1,h2⟩:=h;have a1:=yX p.rules.l.length (by omega);have a2:aK (wrap .u64 p.deny)=[wrap .u8 p.deny]:=by
  obtain hd | hd:=hd<;>rw [hd]<;>decide +kernel
 rw [zN,jg,seqB,a1,kK λx hx=>Kl (h2 x hx)];simp [a2]
def Dr (c:Cfg):Prop:=∀ p∈c.policies.l,bz p=true
theorem D99 (c:Cfg)(hc:c.wf big)(hpm:Dr c)(bs:List Blk)(lo:Nat)(v:V)(acc:List Int)(hK:aa bs 0=some (c.c.map .d))(hm:1<=bs.length)(hB:Bv 1 bs v acc)(hb:acc.length+(c.policies.l.flatMap fF).length<=big) :
 ∃ bs' lo' v',Cd E TX aP (.loop [1,3,9] xx) [(1,.ptr 0 0),(3,v),(9,.d (i64 ((0:Nat):Int)))] ⟨bs,lo⟩ =
  some (.exit 6,[(3,v')],⟨bs',lo'⟩)/\aa bs' 0=some (c.c.map .d)/\1<=bs'.length/\Bv 1 bs' v' (acc++c.policies.l.flatMap fF)/\(0<=lo->0<=lo'):=by
 have hok:=hc.ok (bo _);refine dZ (E:=E) (keep:=[1,3,9]) (body:=xx) c.policies.l fF (λi v=>[(1,.ptr 0 0),(3,v),(9,.d (i64 i))]) (λv=>(.exit 6,[(3,v)])) 1
  (λbs' v'=>aa bs' 0=some (c.c.map .d)) (λi x hx hi bs1 lo v1 acc1 hK1 hm1 hB1 hb=>?_) (λbs lo v acc hK1 hB W=>?_) bs lo v acc hK hm hB hb
 . have hmem:=ce hx;have hwf:=hc.2.2.2.2.2.2.2.2 x hmem;have hsx:=λh=>aA (z:=5) h hx (cells:=Pol.c) rfl;have hw:=ax hi hok.2.2.2.1.lt;have h0:((i:Int)<c.policies.l.length):=by omega
   have hpx:=Mt (hpm x hmem);have hple:=oL (hpm x hmem);have hbig:big=2 ^ 30:=rfl;have p1:=λh=>ai2 (E:=E) x hwf (by rw [hpx]; omega) h;rw [hpx] at p1;have t1:=λh=>CL (E:=E) (strOf (jg x)) (by have:fF x=bA (strOf (jg x)):=rfl; rw [← this]; omega) h;have hne:fF x≠[]:=by simp [fF,bA,cu]
   obtain ⟨bs2,F1,r1,B2,e2,l2,_⟩:=hB1.app hm1 hne hb (src:=.d (bytesD (fF x))) (λlo=>jR _ _);have hK2:=e2.get (λe=>by have:=(hB1.blk e).1; omega) hK1;refine ⟨bs2,F1 lo,_,λW=>?_,hK2,by omega,B2.le hm1,λ_=>Nat.zero_le _⟩;have hnu:=hB1.nu;have hq:=r1 lo;have ht:bytesD (bA (strOf (jg x)))=bytesD (fF x):=rfl;simp at hq;simp [xx,hK1,h0,hsx,hnu,p1,ma,t1,ht,hq,hw]
 . have hnu:=hB.nu;simp [xx,hK1]
theorem x99:TX 10=some q99:=by kernel_rfl
theorem w99:aP 10=true:=by kernel_rfl
theorem S99 (c:Cfg)(hc:c.wf big)(hpm:Dr c)(hlen:(bE c).length<=big)(h:Hp):Sm E TX aP 10 [c.v] h=some (.d (bytesD (bE c)),h):=by
 have hok:=hc.ok (bo _);have hE:bE c=[c.epoch,c.next,wrap .u64 c.hosts,wrap .u64 c.ways,(c.pods.l.length:Int)].flatMap aK++(c.pods.l.flatMap ll++([(c.services.l.length:Int)].flatMap aK++(c.services.l.flatMap lm++([(c.bound.l.length:Int)].flatMap aK++(c.bound.l.flatMap pY++([(c.policies.l.length:Int)].flatMap aK++c.policies.l.flatMap fF)))))):=rfl;rw [hE] at hlen;simp only [gD] at hlen;have hw1:wrap .u64 (c.pods.l.length:Int)=c.pods.l.length:=wrapN hok.1.1;have hw2:wrap .u64 (c.services.l.length:Int)=c.services.l.length:=wrapN hok.2.1.1;have hw3:wrap .u64 (c.bound.l.length:Int)=c.bound.l.length:=wrapN hok.2.2.1.1;have hw4:wrap .u64 (c.policies.l.length:Int)=c.policies.l.length:=wrapN hok.2.2.2.1.1;have hK0:aa [Blk.cells (c.c.map .d)] 0=some (c.c.map .d):=by simp
 obtain ⟨b1,bs1,k1,c1,B1,g1,m1,e1⟩:=BX (E:=E) (xs:=[c.epoch,c.next,wrap .u64 c.hosts,wrap .u64 c.ways,(c.pods.l.length:Int)]) (by
  intro y hy;simp only [List.mem_cons,List.not_mem_nil,or_false] at hy;obtain rfl | rfl | rfl | rfl | rfl:=hy
  . exact rA hc.1
  . exact rA hc.2.1
  . exact jO
  . exact jO
  . exact L9 hok.1.1) (by simp) (by simp) (bs:=[Blk.cells (c.c.map .d)]) (v:=nV) (acc:=[]) (.inl ⟨rfl,rfl⟩) (by simp) (by simp only [ck]; omega) (some 5)
 have hK1:=e1.get (by simp [gp]) hK0;obtain ⟨bs2,lo2,v2,d2,hK2,m2,B2,_⟩:=A99 (E:=E) c hc bs1 (min 0 k1) _ _ hK1 m1 B1 (by simp only [gD,ck]; omega);obtain ⟨b3,bs3,k3,c3,B3,g3,m3,e3⟩:=BX (E:=E) (xs:=[(c.services.l.length:Int)]) (by simpa using L9 hok.2.1.1) (by simp) (by simp) B2 m2 (by simp only [gD,ck]; omega) (some 1);have hK3:=e3.get (λe=>by have:=(B2.blk e).1; omega) hK2;obtain ⟨bs4,lo4,v4,d4,hK4,m4,B4,_⟩:=B99 (E:=E) c hc bs3 (min lo2 k3) _ _ hK3 m3 B3 (by simp only [gD,ck]; omega);obtain ⟨b5,bs5,k5,c5,B5,g5,m5,e5⟩:=BX (E:=E) (xs:=[(c.bound.l.length:Int)]) (by simpa using L9 hok.2.2.1.1) (by simp) (by simp) B4 m4 (by simp only [gD,ck]; omega) (some 1);have hK5:=e5.get (λe=>by have:=(B4.blk e).1; omega) hK4;obtain ⟨bs6,lo6,v6,d6,hK6,m6,B6,_⟩:=C99 (E:=E) c hc bs5 (min lo4 k5) _ _ hK5 m5 B5 (by simp only [gD,ck]; omega);obtain ⟨b7,bs7,k7,c7,B7,g7,m7,e7⟩:=BX (E:=E) (xs:=[(c.policies.l.length:Int)]) (by simpa using L9 hok.2.2.2.1.1) (by simp) (by simp) B6 m6 (by simp only [gD,ck]; omega) (some 1);have hK7:=e7.get (λe=>by have:=(B6.blk e).1; omega) hK6;obtain ⟨bs8,lo8,v8,d8,hK8,m8,B8,_⟩:=D99 (E:=E) c hc hpm bs7 (min lo6 k7) _ _ hK7 m7 B7 (by simp only [gD,ck]; omega)
 have eT:[]++[c.epoch,c.next,wrap .u64 c.hosts,wrap .u64 c.ways,(c.pods.l.length:Int)].flatMap aK++c.pods.l.flatMap ll++[(c.services.l.length:Int)].flatMap aK++c.services.l.flatMap lm++[(c.bound.l.length:Int)].flatMap aK++c.bound.l.flatMap pY++[(c.policies.l.length:Int)].flatMap aK++c.policies.l.flatMap fF=bE c:=by rw [hE]; simp only [List.nil_append,List.append_assoc]
 rw [eT] at B8;have hne8:bE c≠[]:=by rw [hE]; simp [cu]
 have hdat:=λlo=>B8.dat hne8 lo 7;have hnu8:=B8.nu;have n2:=B2.nu;have n4:=B4.nu;have n6:=B6.nu;have o2:=B2.ok;have o4:=B4.ok;have o6:=B6.ok;have hq1:=c1 0;have hq3:=c3 lo2;have hq5:=c5 lo4;have hq7:=c7 lo6;rw [aY x99 w99];simp at hq1 hq3 hq5 hq7 d2 d4 d6 d8;simp [ae,q99,hw1,az,hq1];rw [ai];simp [d2,n2,o2,hK2,hw2,az,hq3];rw [ai];simp [d4,n4,o4,hK4,hw3,az,hq5];rw [ai];simp [d6,n6,o6,hK6,hw4,az,hq7];rw [ai];simp [d8,hnu8];obtain ⟨h1,_⟩ | ⟨_,b',_,rfl,_⟩:=B8
 . exact absurd h1 hne8
 . simp [hdat]
theorem x95:TX 8=some q95:=by kernel_rfl
theorem w95:aP 8=true:=by kernel_rfl
theorem S95 (c:Cfg)(hc:c.wf 1048576)(hcb:c.wf big)(hE:FindX E c)(h:Hp):Sm E TX aP 8 [c.v] h=some (bl (bL c),h):=by
 have n1:=λh=>S97 (E:=E) c h;have n2:=λh=>S98 c hc hcb hE h;rw [aY x95 w95,bL];cases h1:jm c with
 | false=>simp [ae,q95,n1,h1]
 | true =>
  cases h2:kP c with
  | false=>simp [ae,q95,n1,h1,n2,h2]
  | true =>
   have hle:=yA h1 h2;have hbig:big=2 ^ 30:=rfl;have hpm:Dr c:=jV (by simp only [kP,ap] at h2; exact h2.2);have n3:=λh=>S99 (E:=E) c hcb hpm (by omega) h;simp [ae,q95,n1,h1,n2,h2,n3,bytesD]
end
