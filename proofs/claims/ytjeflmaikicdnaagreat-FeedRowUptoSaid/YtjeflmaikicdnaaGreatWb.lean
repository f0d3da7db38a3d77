/- math/bits.Len64, code.groups, the writer's methods. -/
import Derived.Test.YtjeflmaikicdnaaGreatSx
import Derived.KernelRfl
set_option maxRecDepth 100000
set_option linter.unusedVariables false
set_option linter.unusedSimpArgs false
namespace Go.Proofs.YtjeflmaikicdnaaGreat
open IntKind (wrap)
section
variable {E:Calls'}
def lenTab:ByteArray:=⟨#[0,1,2,2,3,3,3,3,4,4,4,4,4,4,4,4,5,5,5,5,5,5,5,5,5,5,5,5,5,5,5,5,6,6,6,6,6,6,6,6,6,6,6,6,6,6,6,6,6,6,6,6,6,6,6,6,6,6,6,6,6,6,6,6,7,7,7,7,7,7,7,7,7,7,7,7,7,7,7,7,7,7,7,7,7,7,7,7,7,7,7,7,7,7,7,7,7,7,7,7,7,7,7,7,7,7,7,7,7,7,7,7,7,7,7,7,7,7,7,7,7,7,7,7,7,7,7,7,8,8,8,8,8,8,8,8,8,8,8,8,8,8,8,8,8,8,8,8,8,8,8,8,8,8,8,8,8,8,8,8,8,8,8,8,8,8,8,8,8,8,8,8,8,8,8,8,8,8,8,8,8,8,8,8,8,8,8,8,8,8,8,8,8,8,8,8,8,8,8,8,8,8,8,8,8,8,8,8,8,8,8,8,8,8,8,8,8,8,8,8,8,8,8,8,8,8,8,8,8,8,8,8,8,8,8,8,8,8,8,8,8,8,8,8,8,8,8,8,8,8,8,8,8,8,8,8]⟩
def lenL:List UInt8:=lenTab.data.toList
theorem Kn:lenL.length=256:=by decide +kernel
theorem Dx:lenL.all (λb=>decide (b.toNat<=8))=true:=by decide +kernel
def lenT (i:Nat):Int:=match lenL[i]? with
 | some b=>b.toNat
 | none=>0
theorem zI (i:Nat):0<=lenT i/\lenT i<=8:=by
 unfold lenT;split
 . rename_i b hb;have:=cm.1 Dx b (List.mem_of_getElem? hb);simp at this;omega
 . omega
theorem at6 (n:Int):0<=wrap .u8 n/\wrap .u8 n<256:=by
 simp [wrap,IntKind.bits,IntKind.signed];omega
theorem SI {n:Int}{h:Hp}:Bh (.d (.str lenTab)) (.d (.int .u8 (wrap .u8 n))) h=some (.d (.int .u8 (lenT (wrap .u8 n).toNat)),h):=by
 obtain ⟨h0,h1⟩:=at6 n;generalize wrap .u8 n=m at *;have hlt:m.toNat<lenL.length:=by rw [Kn]; omega
 have hb:lenTab.toList[m.toNat]?=some lenL[m.toNat]:=by rw [df]; exact ab hlt
 simp only [Bh,if_pos h0,hb,lenT,ab hlt]
def ng (x:Int):Int:=if x>=4294967296 then x.fdiv 4294967296 else x
def oq (x:Int):Int:=if x>=65536 then x.fdiv 65536 else x
def tV (x:Int):Int:=if x>=256 then x.fdiv 256 else x
def bX (x:Int):Int:=(if x>=4294967296 then 32 else 0)+(if ng x>=65536 then 16 else 0)+(if oq (ng x)>=256 then 8 else 0)+lenT (wrap .u8 (tV (oq (ng x)))).toNat
theorem wP (x:Int):0<=bX x/\bX x<=64:=by
 have:=zI (wrap .u8 (tV (oq (ng x)))).toNat;unfold bX
 repeat' split
 all_goals omega
theorem SE (x:Int):(x>=4294967296/\bR .shr (.d (.int .u64 x)) (.d (.int .u64 32))=some (.int .u64 (ng x)))\/(¬ x>=4294967296/\ng x=x):=by
 by_cases c:x>=4294967296
 . exact .inl ⟨c,by rw [kW (by decide),ng,if_pos c]; rfl⟩
 . exact .inr ⟨c,if_neg c⟩
theorem SG (x:Int):(x>=65536/\bR .shr (.d (.int .u64 x)) (.d (.int .u64 16))=some (.int .u64 (oq x)))\/(¬ x>=65536/\oq x=x):=by
 by_cases c:x>=65536
 . exact .inl ⟨c,by rw [kW (by decide),oq,if_pos c]; rfl⟩
 . exact .inr ⟨c,if_neg c⟩
theorem SH (x:Int):(x>=256/\bR .shr (.d (.int .u64 x)) (.d (.int .u64 8))=some (.int .u64 (tV x)))\/(¬ x>=256/\tV x=x):=by
 by_cases c:x>=256
 . exact .inl ⟨c,by rw [kW (by decide),tV,if_pos c]; rfl⟩
 . exact .inr ⟨c,if_neg c⟩
theorem Xw (x:Int)(h:Hp):Sm E TT ah 268 [.d (u64 x)] h=some (.d (i64 (bX x)),h):=by
 rw [aN cy7 dq0];have htab:(⟨#[0,1,2,2,3,3,3,3,4,4,4,4,4,4,4,4,5,5,5,5,5,5,5,5,5,5,5,5,5,5,5,5,6,6,6,6,6,6,6,6,6,6,6,6,6,6,6,6,6,6,6,6,6,6,6,6,6,6,6,6,6,6,6,6,7,7,7,7,7,7,7,7,7,7,7,7,7,7,7,7,7,7,7,7,7,7,7,7,7,7,7,7,7,7,7,7,7,7,7,7,7,7,7,7,7,7,7,7,7,7,7,7,7,7,7,7,7,7,7,7,7,7,7,7,7,7,7,7,8,8,8,8,8,8,8,8,8,8,8,8,8,8,8,8,8,8,8,8,8,8,8,8,8,8,8,8,8,8,8,8,8,8,8,8,8,8,8,8,8,8,8,8,8,8,8,8,8,8,8,8,8,8,8,8,8,8,8,8,8,8,8,8,8,8,8,8,8,8,8,8,8,8,8,8,8,8,8,8,8,8,8,8,8,8,8,8,8,8,8,8,8,8,8,8,8,8,8,8,8,8,8,8,8,8,8,8,8,8,8,8,8,8,8,8,8,8,8,8,8,8,8,8,8,8,8,8]⟩:ByteArray)=lenTab:=rfl;have hl:=zI (wrap .u8 (tV (oq (ng x)))).toNat;have hL:=λh=>SI (n:=tV (oq (ng x))) (h:=h);unfold bX;have hA:=SE x;have hB:=SG (ng x);have hC:=SH (oq (ng x));have hw:∀ n:Int,0<=n->n<=1000->wrap .i64 n=n:=λn h1 h2=>wrap64 (by omega) (by omega);have w16:=hw 16 (by omega) (by omega);have w40:=hw 40 (by omega) (by omega);have w48:=hw 48 (by omega) (by omega);have w56:=hw 56 (by omega) (by omega);have w24:=hw 24 (by omega) (by omega);have w8:=hw 8 (by omega) (by omega);generalize ng x=a at *;generalize oq a=b at *;generalize tV b=c at *;generalize lenT (wrap .u8 c).toNat=L at *;have wL:=hw L (by omega) (by omega);have v1:=hw (8+L) (by omega) (by omega);have v2:=hw (16+L) (by omega) (by omega);have v3:=hw (24+L) (by omega) (by omega);have v4:=hw (32+L) (by omega) (by omega);have v5:=hw (40+L) (by omega) (by omega)
 have v6:=hw (48+L) (by omega) (by omega);have v7:=hw (56+L) (by omega) (by omega);obtain ⟨a1,a2⟩ | ⟨a1,rfl⟩:=hA<;>obtain ⟨b1,b2⟩ | ⟨b1,rfl⟩:=hB<;>obtain ⟨c1,c2⟩ | ⟨c1,rfl⟩:=hC<;>simp [aa,OX, *]
def xR (x:Int):Int:=if (bX x+6).tdiv 7>1 then (bX x+6).tdiv 7 else 1
theorem Fz (x:Int):1<=xR x/\xR x<=10:=by
 have:=wP x;have h2:(bX x+6).tdiv 7=(bX x+6) / 7:=Int.tdiv_eq_ediv_of_nonneg (by omega);unfold xR;rw [h2];split<;>omega
theorem bk7 (x:Int)(h:Hp):Sm E TT ah 210 [.d (u64 x)] h=some (.d (i64 (xR x)),h):=by
 rw [aN cz1 dq3];have hl:=wP x;have h1:=λh=>Xw (E:=E) x h;have hw:wrap .i64 (bX x+6)=bX x+6:=wrap64 (by omega) (by omega);have h2:(bX x+6).tdiv 7=(bX x+6) / 7:=Int.tdiv_eq_ediv_of_nonneg (by omega);have hq:bR .quo (.d (.int .i64 (bX x+6))) (.d (.int .i64 7))=some (.int .i64 ((bX x+6).tdiv 7)):=by
  simp only [bR,if_true,eZ];rw [if_neg (by omega),wrap64]<;>omega
 simp [aa,O3,h1,hw,hq,xR]
def orI (k:IntKind)(a b:Int):Int:=k.wrap ((BitVec.ofInt k.bits a ||| BitVec.ofInt k.bits b).toNat)
theorem Ry {k:IntKind}{a b:Int}:bR .or (.d (.int k a)) (.d (.int k b))=some (.int k (orI k a b)):=by simp [bR,eZ,orI]
def xH:Nat->Int->List Int
 | 0,x=>[wrap .u8 x]
 | k+1,x=>orI .u8 (wrap .u8 x) 128::xH k (x.fdiv 128)
def cZ (x:Int):List Int:=xH ((xR x).toNat-1) x
theorem uz (k:Nat)(x:Int):(xH k x).length=k+1:=by
 induction k generalizing x with
 | zero=>rfl
 | succ k ih=>simp [xH,ih]
theorem bu (x:Int):(cZ x).length<=10:=by
 have:=Fz x;rw [cZ,uz]; omega
theorem fM {bs bs':List Blk}{lo lo' p:Nat}{r:V}(h1:lo'<=p)(h2:p<bs.length):fQ ⟨bs,lo⟩ (some (r,⟨bs',lo'⟩))=some (r,⟨bs',min lo lo'⟩):=by
 simp only [fQ];rw [if_neg (λhh=>by have:=hh.1; omega)]
theorem Vq {bs:List Blk}{x:Int}{k:IntKind}(lo:Nat):aB ⟨bs++[.cells [.d (.int k x)]],lo⟩ (.row bs.length 0 1 (some 1) 1) 1=some (1,[iv k x]):=by
 simp only [aB,if_true,get_eq,dh];rfl
theorem wR {p:Nat}{bs:List Blk}{l:List Int}(h:Wr bs p l)(x:Int)(hl:l.length+1<=big):jQ E 134 [.ptr p 0,.row bs.length 0 1 (some 1) 1] p (bs++[.cells [.d (.int .u8 x)]]) l [x] :=
 Xu (h.lay _) rfl (λlo=>Vq lo) rfl hl
theorem IU {p:Nat}:∀ (m i:Nat) (x:Int) (bs:List Blk) (lo:Nat) (l:List Int) (G:Nat),i+m=G->G<=10->Wr bs p l->l.length+(m+1)<=big →
 ∃ bs' lo' y l',Cd E TT ah (.loop [0,1,6,7] p9) [(0,.ptr p 0),(1,.d (u64 x)),(6,.d (i64 G)),(7,.d (i64 i))] ⟨bs,lo⟩=some (.exit 0,[(0,.ptr p 0),(1,.d (u64 y))],⟨bs',lo'⟩) ∧
  l++xH m x=l'++xH 0 y/\l'.length=l.length+m/\Wr bs' p l'/\Fx p bs bs':=by
 intro m;have key:=ax (E:=E) (T:=TT) (val:=ah) [0,1,6,7] p9;generalize Cd E TT ah (.loop [0,1,6,7] p9)=W at key ⊢
 induction m with
 | zero =>
  intro i x bs lo l G hi hG hW hl;refine ⟨bs,lo,x,l,?_,rfl,rfl,hW,Fx.refl _ _⟩;rw [key];simp [p9,show ¬ ((i:Int)<G) from by omega]
 | succ m ih =>
  intro i x bs lo l G hi hG hW hl;have h1:=wR (E:=E) hW (orI .u8 (wrap .u8 x) 128) (by omega);obtain ⟨bs1,lo1,k1,k2,k3,k4⟩:=h1 lo;have hw:=aI (show i<G by omega) (show G<2 ^ 62 by omega);obtain ⟨bs',lo',y,l',q1,q2,q3,q4,q5⟩:=ih (i+1) (x.fdiv 128) bs1 lo1 (l++[orI .u8 (wrap .u8 x) 128]) G (by omega) hG k3 (by simp; omega);refine ⟨bs',lo',y,l',?_,by rw [← q2]; simp [xH],by rw [q3]; simp; omega,q4,((Fx.lay hW.len _).trans k4).trans q5⟩;have hs:bR .shr (.d (.int .u64 x)) (.d (.int .u64 7))=some (.int .u64 (x.fdiv 128)):=by rw [kW (by decide)]; rfl
  rw [key];simp [p9,Ry,az,k1,hs,hw,show ((i:Int)<G) from by omega];simpa using q1
theorem Gv {p:Nat}{bs:List Blk}{l:List Int}(h:Wr bs p l)(x:Int)(hl:l.length+(cZ x).length<=big):jQ E 133 [.ptr p 0,.d (u64 x)] p bs l (cZ x):=by
 intro lo;have hg:=Fz x;rw [cZ,uz] at hl;have hp:=h.len;obtain ⟨bs1,lo1,y,l1,q1,q2,q3,q4,q5⟩:=IU (E:=E) ((xR x).toNat-1) 0 x bs bs.length l ((xR x).toNat-1) (by omega) (by omega) h (by omega);obtain ⟨bs2,lo2,k1,k2,k3,k4⟩:=wR (E:=E) q4 (wrap .u8 y) (by omega) lo1;have hS:=λh=>bk7 (E:=E) x h;have hw:wrap .i64 (xR x-1)=(((xR x).toNat-1:Nat):Int):=by rw [wrap64]<;>omega
 refine ⟨bs2,min lo lo2,?_,by omega,?_,(q5.trans (Fx.lay q4.len _)).trans k4⟩
 . rw [av cx7 dp0];simp [aa,OP,hS,hw];rw [aj];simp at q1;simp [q1,az,k1];exact fM k2 hp
 . rw [cZ,q2]; exact k3
theorem Xz {p:Nat}{bs:List Blk}{l:List Int}(h:Wr bs p l)(x:Int)(hl:l.length+1<=big):jQ E 287 [.ptr p 0,.d (.int .u8 x)] p bs l [x]:=by
 intro lo;obtain ⟨bs1,lo1,k1,k2,k3,k4⟩:=wR (E:=E) h x hl bs.length;refine ⟨bs1,min lo lo1,?_,by omega,k3,(Fx.lay h.len _).trans k4⟩;rw [av db2 ds8];simp [aa,Vd,az,k1];exact fM k2 h.len
def PY (x:Int):List Int:=[wrap .u8 x,wrap .u8 (x.fdiv 256),wrap .u8 (x.fdiv 65536),wrap .u8 (x.fdiv 16777216)]
theorem bm0 {p:Nat}{bs:List Blk}{l:List Int}(h:Wr bs p l)(x:Int)(hl:l.length+4<=big):jQ E 286 [.ptr p 0,.d (u32 x)] p bs l (PY x):=by
 intro lo;have s0:bR .shr (.d (.int .u32 x)) (.d (.int .i64 0))=some (.int .u32 x):=by rw [kW (by decide)]; simp
 have s1:bR .shr (.d (.int .u32 x)) (.d (.int .i64 8))=some (.int .u32 (x.fdiv 256)):=by rw [kW (by decide)]; rfl
 have s2:bR .shr (.d (.int .u32 x)) (.d (.int .i64 16))=some (.int .u32 (x.fdiv 65536)):=by rw [kW (by decide)]; rfl
 have s3:bR .shr (.d (.int .u32 x)) (.d (.int .i64 24))=some (.int .u32 (x.fdiv 16777216)):=by rw [kW (by decide)]; rfl
 obtain ⟨b1,l1,a1,a2,a3,a4⟩:=wR (E:=E) h (wrap .u8 x) (by omega) bs.length;obtain ⟨b2,l2,c1,c2,c3,c4⟩:=wR (E:=E) a3 (wrap .u8 (x.fdiv 256)) (by simp; omega) l1;obtain ⟨b3,l3,d1,d2,d3,d4⟩:=wR (E:=E) c3 (wrap .u8 (x.fdiv 65536)) (by simp; omega) l2;obtain ⟨b4,l4,e1,e2,e3,e4⟩:=wR (E:=E) d3 (wrap .u8 (x.fdiv 16777216)) (by simp; omega) l3;refine ⟨b4,min lo l4,?_,by omega,by simpa [PY] using e3,((Fx.lay h.len _).trans a4).trans (((Fx.lay a3.len _).trans c4).trans (((Fx.lay c3.len _).trans d4).trans ((Fx.lay d3.len _).trans e4)))⟩;rw [av db1 ds7];have key:=ax (E:=E) (T:=TT) (val:=ah) [0,1,6,7] lI;simp [aa,Vb,az];rw [aj];generalize Cd E TT ah (.loop [0,1,6,7] lI)=W at key ⊢;simp;have w1:wrap .i64 1=1:=by decide
 have w2:wrap .i64 2=2:=by decide
 have w3:wrap .i64 3=3:=by decide
 have w4:wrap .i64 4=4:=by decide
 rw [key]; simp [lI,opE,s0,az,a1,w1];rw [key]; simp [lI,opE,s1,az,c1,w2];rw [key]; simp [lI,opE,s2,az,d1,w3];rw [key]; simp [lI,opE,s3,az,e1,w4];rw [key]; simp [lI];exact fM e2 h.len
def EZ (x:V)(h:Hp):Option (V×Hp):=match x with
 | .d (.str s)=>if s.size<=2 ^ 40 then some (.row h.size 0 s.size none 1,h.alloc (s.toList.map λb=>.d (.int .u8 b.toNat))) else none
 | _=>none
@[simp] theorem Te {C:Calls'}{ev:X->V}{h:Hp}{x:X}:opE C (.convSB x) ev h=EZ (ev x) h:=(rfl)
theorem JI {h:Hp}{s:ByteArray}(hs:s.size<=2 ^ 40):EZ (.d (.str s)) h=some (.row h.size 0 s.size none 1,h.alloc (s.toList.map λb=>.d (.int .u8 b.toNat))):=if_pos hs
def jd (s:ByteArray):List Int:=cZ s.size++s.toList.map λb=>(b.toNat:Int)
theorem jo (s:ByteArray):(jd s).length<=10+s.size:=by
 have:=bu s.size;simp only [jd,aq,cb,lL];omega
theorem CR {p:Nat}{bs:List Blk}{l:List Int}(h:Wr bs p l)(s:ByteArray)(hl:l.length+(jd s).length<=big):jQ E 45 [.ptr p 0,.d (.str s)] p bs l (jd s):=by
 intro lo;have hsz:s.toList.length=s.size:=lL s;simp only [jd,aq,cb] at hl;have hs:s.size<=2 ^ 40:=ch (m:=2 ^ 30) (by rw [← hsz]; have:big=2 ^ 30:=rfl; omega) (by decide);obtain ⟨b1,l1,a1,a2,a3,a4⟩:=Gv (E:=E) h s.size (by omega) bs.length;have hrc:∀ lo,aB ⟨b1++[.cells (s.toList.map λb=>V.d (.int .u8 b.toNat))],lo⟩ (.row b1.length 0 s.size none 1) 1=some (s.size,(s.toList.map λb=>(b.toNat:Int)).map (iv .u8)):=by
  intro lo;have:sub (s.toList.map λb=>V.d (.int .u8 b.toNat)) 0 (s.size * 1)=some (s.toList.map λb=>V.d (.int .u8 b.toNat)):=bQ (by simp [hsz]);simp only [aB,if_true,get_eq,dh,yz,this,List.map_map];rfl
 obtain ⟨b2,l2,c1,c2,c3,c4⟩:=Xu (E:=E) (a3.lay _) (x:=.row b1.length 0 s.size none 1) rfl hrc (by simp [hsz]) (by simp; omega) l1;refine ⟨b2,min lo l2,?_,by omega,by simpa [jd] using c3,(a4.trans (Fx.lay a3.len _)).trans c4⟩;have hw:wrap .u64 (s.size:Int)=s.size:=by
  simp [wrap,IntKind.bits,IntKind.signed];omega
 rw [av cu7 dm3];simp [aa,Ov,hw,a1,JI hs,c1];exact fM c2 h.len
theorem K7 {p:Nat}{xs:List Int}(hxn:xs.length<2 ^ 62){q:Nat}(hq:q≠p){cap:Option Nat}:∀ (m i:Nat) (bs:List Blk) (lo:Nat) (l:List Int),i+m=xs.length->Wr bs p l->jq bs p≠some q->au bs q=some (xs.map λn=>V.d (u64 n))->l.length+((xs.drop i).flatMap cZ).length<=big →
 ∃ bs' lo',Cd E TT ah (.loop [0,6,7,8] p8) [(0,.ptr p 0),(6,.row q 0 xs.length cap 1),(7,.d (i64 xs.length)),(8,.d (i64 i))] ⟨bs,lo⟩=some (.exit 0,[],⟨bs',lo'⟩) ∧
  (lo'=lo/\xs.drop i=[]\/lo'<=p)/\Wr bs' p (l++(xs.drop i).flatMap cZ)/\Fx p bs bs':=by
 intro m;have key:=ax (E:=E) (T:=TT) (val:=ah) [0,6,7,8] p8;generalize Cd E TT ah (.loop [0,6,7,8] p8)=W at key ⊢
 induction m with
 | zero =>
  intro i bs lo l hi hW h1 h2 hl;have h0:xs.drop i=[]:=bb (by omega);refine ⟨bs,lo,?_,.inl ⟨rfl,h0⟩,by simpa [h0] using hW,Fx.refl _ _⟩;rw [key];simp [p8,show ¬ ((i:Int)<xs.length) from by omega]
 | succ m ih =>
  intro i bs lo l hi hW h1 h2 hl;have hlt:i<xs.length:=by omega
  have hd:xs.drop i=xs[i]::xs.drop (i+1):=ba hlt;have hix:=λh=>gD (b:=q) (o:=0) (z:=1) (cap:=cap) (kd:=.i64) (h:=h) hlt;simp only [Nat.mul_one,Nat.zero_add] at hix;have hs:sub (xs.map λn=>V.d (u64 n)) i 1=some [.d (u64 xs[i])]:=by
   rw [eH,if_pos (by simp; omega),ba (by simpa using hlt)]; simp
  rw [hd] at hl ⊢;simp only [List.flatMap_cons,aq] at hl;generalize xs[i]=x at *;obtain ⟨b1,l1,a1,a2,a3,a4⟩:=Gv (E:=E) hW x (by omega) lo;obtain ⟨f1,f2⟩:=a4.2 q _ hq h1 h2;obtain ⟨bs',lo',q1,q2,q3,q4⟩:=ih (i+1) b1 l1 (l++cZ x) (by omega) a3 f2 f1 (by rw [aq]; omega);have hw:=aI hlt hxn;refine ⟨bs',lo',?_,.inr ?_,by simpa using q3,a4.trans q4⟩
  . have hld:ldv ⟨bs,lo⟩ (.ptr q i) 1 true=some (.d (u64 x),⟨bs,lo⟩):=by
     rw [aC,get_eq];show (match (match au bs q with | some cs=>sub cs i 1 | none=>none) with | some cs=>_ | none=>none)=_;rw [h2]; simp only [hs]; rfl
    rw [key];simp [p8,hix,hld,a1,hw,show ((i:Int)<xs.length) from by omega,-aC];simpa using q1
  . obtain ⟨rfl,_⟩ | q2:=q2
    . exact a2
    . exact q2
theorem xN {p:Nat}{bs:List Blk}{l:List Int}(h:Wr bs p l){xs:List Int}(hne:xs≠[])(hn:xs.length<2 ^ 62){q:Nat}(hq:q≠p){cap:Option Nat}(h1:jq bs p≠some q)(h2:au bs q=some (xs.map λn=>V.d (u64 n)))(hl:l.length+(xs.flatMap cZ).length<=big):jQ E 44 [.ptr p 0,.row q 0 xs.length cap 1] p bs l (xs.flatMap cZ):=by
 intro lo;obtain ⟨bs',lo',k1,k2,k3,k4⟩:=K7 (E:=E) hn hq (cap:=cap) xs.length 0 bs bs.length l (by omega) h h1 h2 (by simpa using hl);have hle:lo'<=p:=by
  obtain ⟨_,hx⟩ | k2:=k2
  . exact absurd (by simpa using hx) hne
  . exact k2
 refine ⟨bs',min lo lo',?_,by omega,by simpa using k3,k4⟩;rw [av t213 dm2];simp [aa,Ou];rw [aj];simp at k1;simp [k1];exact fM hle h.len
theorem Xn (bs:List Blk)(lo:Nat):∃ lo',Sm E TT ah 43 [] ⟨bs,lo⟩=some (.ptr bs.length 0,⟨bs++[.cells [.d (.slice true [])]],lo'⟩):=by
 refine ⟨min lo bs.length,?_⟩;rw [av t212 v212];simp [aa,Ot,V.under]
theorem Mw (bs:List Blk):Wr (bs++[.cells [.d (.slice true [])]]) bs.length []:=.inl ⟨rfl,by simp⟩
theorem Xo {p:Nat}{bs:List Blk}{l:List Int}(h:Wr bs p l)(hl:l.length<=big)(hne:l≠[])(lo:Nat):∃ lo',Sm E TT ah 47 [.ptr p 0] ⟨bs,lo⟩=some (.row bs.length 0 l.length none 1,⟨bs++[.cells (l.map (iv .u8))],lo'⟩):=by
 obtain ⟨h1,_⟩ | ⟨_,b,h2,h3,h4⟩:=h
 . exact absurd h1 hne
 . have hl0:¬ l.length=0:=by simpa using hne
   have hroom:roomy l.length 1=true:=by
    simp only [roomy,aw,bw]; exact ⟨hl,by decide⟩
   have hsub:sub (l.map (iv .u8)) 0 (l.length * 1)=some (l.map (iv .u8)):=bQ (by simp);have hap:dP ⟨bs,bs.length⟩ 1 1 (.d (.slice true [])) (.row b 0 l.length none 1)=some (.row bs.length 0 l.length none 1,⟨bs++[.cells (l.map (iv .u8))],bs.length⟩):=by
    simp only [dP,aB,if_true,get_eq,h4,hsub,Option.map_some,aD,hl0,if_false,hroom];simp
   refine ⟨min lo bs.length,?_⟩;rw [av cu9 dm5];simp [aa,Ox,h3,hap,V.under]
end
section
variable {E:Calls'}
def seqB {α:Type}(enc:α->List Int)(l:List α):List Int:=cZ l.length++l.flatMap enc
theorem fB {α:Type}(enc:α->List Int)(x:α)(l:List α):((x::l).flatMap enc).length=(enc x).length+(l.flatMap enc).length:=by simp
theorem I1 {α:Type}{cells:α->List D}{z:Nat}{zero:List V}(hz:∀ x,(cells x).length=z)(hz0:0<z)(hzero:zero.length=z){enc:α->List Int}{p:Nat}{f:FuncId}{s:Sl α}(hs:s.l.length<2 ^ 62)
 (hf:∀ e∈s.l,∀ bs l,Wr bs p l->l.length+(enc e).length<=big->jQ E f [.ptr p 0,ag (cells e)] p bs l (enc e)):∀ (m i:Nat) (bs:List Blk) (lo:Nat) (l:List Int),i+m=s.l.length->Wr bs p l->l.length+((s.l.drop i).flatMap enc).length<=big →
 ∃ bs' lo',Cd E TT ah (.loop [0,2,13,14,15] (yQ z zero)) [(0,.ptr p 0),(2,.fn f []),(13,.d (s.d cells)),(14,.d (i64 s.l.length)),(15,.d (i64 i))] ⟨bs,lo⟩=some (.exit 0,[],⟨bs',lo'⟩) ∧
  (lo<=p->lo'<=p)/\Wr bs' p (l++(s.l.drop i).flatMap enc)/\Fx p bs bs':=by
 intro m;have key:=ax (E:=E) (T:=TT) (val:=ah) [0,2,13,14,15] (yQ z zero);generalize Cd E TT ah (.loop [0,2,13,14,15] (yQ z zero))=W at key ⊢
 induction m with
 | zero =>
  intro i bs lo l hi hW hl;have h0:s.l.drop i=[]:=bb (by omega);refine ⟨bs,lo,?_,id,by simpa [h0] using hW,Fx.refl _ _⟩;rw [key];simp [yQ,show ¬ ((i:Int)<s.l.length) from by omega]
 | succ m ih =>
  intro i bs lo l hi hW hl;have hlt:i<s.l.length:=by omega
  have hx:=λh=>bv (z:=z) h (ab hlt) (cells:=cells) (hz _);have hmem:=bj hlt;rw [ba hlt] at hl ⊢;rw [fB] at hl;generalize s.l[i]=e at *;obtain ⟨b1,l1,a1,a2,a3,a4⟩:=hf e hmem (bs++[.cells ((cells e).map .d)]) l (hW.lay _) (by omega) (min lo bs.length);obtain ⟨bs',lo',q1,q2,q3,q4⟩:=ih (i+1) b1 l1 (l++enc e) (by omega) a3 (by rw [aq]; omega);have hw:=aI hlt hs;refine ⟨bs',lo',?_,λ_=>q2 a2,by simpa using q3,((Fx.lay hW.len _).trans a4).trans q4⟩;have hsub:=bQ (hz e);have hput:put zero 0 ((cells e).map V.d)=some ((cells e).map .d):=by simp [put,hz,hzero]
  rw [key];simp [yQ,hx,hsub,hput,hz,hz0,a1,hw,show ((i:Int)<s.l.length) from by omega,-BV];simpa using q1
theorem tq {α:Type}{cells:α->List D}{z:Nat}{zero:List V}(hz:∀ x,(cells x).length=z)(hz0:0<z)(hzero:zero.length=z){id:FuncId}(ht:TT id=some (wputQ z zero))(hv:ah id=false){enc:α->List Int}{p:Nat}{f:FuncId}{s:Sl α}(hs:short s)
 (hf:∀ e∈s.l,∀ bs l,Wr bs p l->l.length+(enc e).length<=big->jQ E f [.ptr p 0,ag (cells e)] p bs l (enc e)) {bs:List Blk} {l:List Int} (h:Wr bs p l) (hl:l.length+(seqB enc s.l).length<=big):jQ E id [.ptr p 0,.d (s.d cells),.fn f []] p bs l (seqB enc s.l):=by
 intro lo;simp only [seqB,aq] at hl;obtain ⟨b1,l1,a1,a2,a3,a4⟩:=Gv (E:=E) h s.l.length (by omega) bs.length;obtain ⟨b2,l2,k1,k2,k3,k4⟩:=I1 (E:=E) (zero:=zero) hz hz0 hzero hs.lt hf s.l.length 0 b1 l1 (l++cZ s.l.length) (by omega) a3 (by rw [aq,List.drop_zero]; omega);refine ⟨b2,min lo l2,?_,by have:=k2 a2; omega,by simpa [seqB] using k3,a4.trans k4⟩;have hb:s.l.length<=big:=hs.1;have hbig:big=2 ^ 30:=rfl;have hw:wrap .u64 (s.l.length:Int)=s.l.length:=by
  simp [wrap,IntKind.bits,IntKind.signed];omega
 rw [av ht hv];simp [aa,wputQ,hw,a1];rw [aj];simp at k1;simp [k1];exact fM (k2 a2) h.len
theorem Ez {α:Type}{cell:α->D}{enc:α->List Int}{p:Nat}{f:FuncId}{s:Sl α}(hs:s.l.length<2 ^ 62)
 (hf:∀ e∈s.l,∀ bs l,Wr bs p l->l.length+(enc e).length<=big->jQ E f [.ptr p 0,.d (cell e)] p bs l (enc e)):∀ (m i:Nat) (bs:List Blk) (lo:Nat) (l:List Int),i+m=s.l.length->Wr bs p l->l.length+((s.l.drop i).flatMap enc).length<=big →
 ∃ bs' lo',Cd E TT ah (.loop [0,2,13,14,15] uB) [(0,.ptr p 0),(2,.fn f []),(13,.d (s.d λx=>[cell x])),(14,.d (i64 s.l.length)),(15,.d (i64 i))] ⟨bs,lo⟩=some (.exit 0,[],⟨bs',lo'⟩) ∧
  (lo<=p->lo'<=p)/\Wr bs' p (l++(s.l.drop i).flatMap enc)/\Fx p bs bs':=by
 intro m;have key:=ax (E:=E) (T:=TT) (val:=ah) [0,2,13,14,15] uB;generalize Cd E TT ah (.loop [0,2,13,14,15] uB)=W at key ⊢
 induction m with
 | zero =>
  intro i bs lo l hi hW hl;have h0:s.l.drop i=[]:=bb (by omega);refine ⟨bs,lo,?_,id,by simpa [h0] using hW,Fx.refl _ _⟩;rw [key];simp [uB,show ¬ ((i:Int)<s.l.length) from by omega]
 | succ m ih =>
  intro i bs lo l hi hW hl;have hlt:i<s.l.length:=by omega
  have hx:=λh=>bv (z:=1) h (ab hlt) (cells:=λx=>[cell x]) rfl;have hmem:=bj hlt;rw [ba hlt] at hl ⊢;rw [fB] at hl;generalize s.l[i]=e at *;obtain ⟨b1,l1,a1,a2,a3,a4⟩:=hf e hmem bs l hW (by omega) lo;obtain ⟨bs',lo',q1,q2,q3,q4⟩:=ih (i+1) b1 l1 (l++enc e) (by omega) a3 (by rw [aq]; omega);have hw:=aI hlt hs;refine ⟨bs',lo',?_,λ_=>q2 a2,by simpa using q3,a4.trans q4⟩;rw [key];simp [uB,hx,a1,hw,show ((i:Int)<s.l.length) from by omega];simpa using q1
theorem MU {α:Type}{cell:α->D}{id:FuncId}(ht:TT id=some wput1Q)(hv:ah id=false){enc:α->List Int}{p:Nat}{f:FuncId}{s:Sl α}(hs:short s)
 (hf:∀ e∈s.l,∀ bs l,Wr bs p l->l.length+(enc e).length<=big->jQ E f [.ptr p 0,.d (cell e)] p bs l (enc e)) {bs:List Blk} {l:List Int} (h:Wr bs p l) (hl:l.length+(seqB enc s.l).length<=big):jQ E id [.ptr p 0,.d (s.d λx=>[cell x]),.fn f []] p bs l (seqB enc s.l):=by
 intro lo;simp only [seqB,aq] at hl;obtain ⟨b1,l1,a1,a2,a3,a4⟩:=Gv (E:=E) h s.l.length (by omega) bs.length;obtain ⟨b2,l2,k1,k2,k3,k4⟩:=Ez (E:=E) hs.lt hf s.l.length 0 b1 l1 (l++cZ s.l.length) (by omega) a3 (by rw [aq,List.drop_zero]; omega);refine ⟨b2,min lo l2,?_,by have:=k2 a2; omega,by simpa [seqB] using k3,a4.trans k4⟩;have hb:s.l.length<=big:=hs.1;have hbig:big=2 ^ 30:=rfl;have hw:wrap .u64 (s.l.length:Int)=s.l.length:=by
  simp [wrap,IntKind.bits,IntKind.signed];omega
 rw [av ht hv];simp [aa,wput1Q,hw,a1];rw [aj];simp at k1;simp [k1];exact fM (k2 a2) h.len
end
section
variable {E:Calls'}
theorem Fx.new {p:Nat}{bs bs':List Blk}{l:List Int}{cs:List V}{ys:List Blk}(h:Wr bs p l)(k:Fx p (bs++(.cells cs::ys)) bs'):bs.length≠p/\jq bs' p≠some bs.length/\au bs' bs.length=some cs:=by
 have hp:=h.len;have h1:jq (bs++(.cells cs::ys)) p≠some bs.length:=by
  rw [pQ hp];intro hh;exact Nat.lt_irrefl _ (h.row_lt hh)
 obtain ⟨a,b⟩:=k.2 bs.length cs (by omega) h1 (by simp);exact ⟨by omega,b,a⟩
theorem Wr.fresh {p:Nat}{bs:List Blk}{l:List Int}(h:Wr bs p l)(ys:List Blk):bs.length≠p/\jq (bs++ys) p≠some bs.length:=by
 have hp:=h.len;refine ⟨by omega,?_⟩;rw [pQ hp];intro hh;exact Nat.lt_irrefl _ (h.row_lt hh)
def oh (t:Term):List Int:=wrap .u8 t.kind::jd t.text
theorem bm7 (t:Term){p:Nat}{bs:List Blk}{l:List Int}(h:Wr bs p l)(hl:l.length+(oh t).length<=big):jQ E 350 [.ptr p 0,ag t.c] p bs l (oh t):=by
 intro lo;simp only [oh,cj] at hl;obtain ⟨b1,l1,a1,a2,a3,a4⟩:=Xz (E:=E) (h.lay [.cells (t.c.map .d)]) (wrap .u8 t.kind) (by omega) bs.length;obtain ⟨f1,f2,f3⟩:=a4.new h;obtain ⟨b2,l2,c1,c2,c3,c4⟩:=CR (E:=E) a3 t.text (by simp; omega) l1;refine ⟨b2,min lo l2,?_,by omega,by simpa [oh] using c3,((Fx.lay h.len _).trans a4).trans c4⟩;rw [av dc8 du4];simp [aa,Vh,a1,f3,c1];exact fM c2 h.len
def uF (c:Cidr):List Int:=PY c.addr++[wrap .u8 c.bits]
theorem bl9 (t:Cidr){p:Nat}{bs:List Blk}{l:List Int}(h:Wr bs p l)(hl:l.length+(uF t).length<=big):jQ E 285 [.ptr p 0,ag t.c] p bs l (uF t):=by
 intro lo;have h5:(uF t).length=5:=rfl;obtain ⟨b1,l1,a1,a2,a3,a4⟩:=bm0 (E:=E) (h.lay [.cells (t.c.map .d)]) t.addr (by omega) bs.length;obtain ⟨f1,f2,f3⟩:=a4.new h;obtain ⟨b2,l2,c1,c2,c3,c4⟩:=Xz (E:=E) a3 (wrap .u8 t.bits) (by simp [PY]; omega) l1;refine ⟨b2,min lo l2,?_,by omega,by simpa [uF] using c3,((Fx.lay h.len _).trans a4).trans c4⟩;rw [av db0 ds6];simp [aa,Va,a1,f3,c1];exact fM c2 h.len
def yH (n:Int):List Int:=cZ (wrap .u64 n)
theorem bm2 (n:Int){p:Nat}{bs:List Blk}{l:List Int}(h:Wr bs p l)(hl:l.length+(yH n).length<=big):jQ E 289 [.ptr p 0,.d (i64 n)] p bs l (yH n):=by
 intro lo;obtain ⟨b1,l1,a1,a2,a3,a4⟩:=Gv (E:=E) h (wrap .u64 n) hl bs.length;refine ⟨b1,min lo l1,?_,by omega,a3,a4⟩;rw [av db4 dt0];simp [aa,Ve,a1];exact fM a2 h.len
theorem dx6:TT 349=some (wputQ 2 [(.d (.int .i64 0)),(.d (.str ⟨#[]⟩))]):=dc7
theorem dx4:TT 284=some (wputQ 2 [(.d (.int .u32 0)),(.d (.int .i64 0))]):=da9
theorem dx5:TT 288=some wput1Q:=db3
theorem dx1:TT 211=some (wputQ 3 (sl0 3)):=cz2
theorem dx2:TT 213=some (wputQ 4 (sl0 4)):=cz4
theorem dx3:TT 215=some (wputQ 2 [(.d (.str ⟨#[]⟩)),(.d (.slice true []))]):=cz6
theorem dx0:TT 135=some (wputQ 3 (sl0 3)):=cx9
theorem bm6 {s:Sl Term}(hs:short s){p:Nat}{bs:List Blk}{l:List Int}(h:Wr bs p l)(hl:l.length+(seqB oh s.l).length<=big):jQ E 349 [.ptr p 0,.d (s.d Term.c),.fn 350 []] p bs l (seqB oh s.l) :=
 tq (z:=2) (cells:=Term.c) (λ_=>rfl) (by decide) rfl dx6 du3 hs (λe _ bs l h hl=>bm7 e h hl) h hl
theorem bl8 {s:Sl Cidr}(hs:short s){p:Nat}{bs:List Blk}{l:List Int}(h:Wr bs p l)(hl:l.length+(seqB uF s.l).length<=big):jQ E 284 [.ptr p 0,.d (s.d Cidr.c),.fn 285 []] p bs l (seqB uF s.l) :=
 tq (z:=2) (cells:=Cidr.c) (λ_=>rfl) (by decide) rfl dx4 ds5 hs (λe _ bs l h hl=>bl9 e h hl) h hl
theorem bm1 {s:Sl Int}(hs:short s){p:Nat}{bs:List Blk}{l:List Int}(h:Wr bs p l)(hl:l.length+(seqB yH s.l).length<=big):jQ E 288 [.ptr p 0,.d (s.d om),.fn 289 []] p bs l (seqB yH s.l) :=
 MU (cell:=λn=>i64 n) dx5 ds9 hs (λe _ bs l h hl=>bm2 e h hl) h hl
def mF (ls:List (Sl Term)):List Int:=ls.flatMap λs=>seqB oh s.l
theorem Ip {p:Nat}{xs:List (Sl Term)}(hxn:xs.length<2 ^ 62)(hsh:∀ s∈xs,short s){q:Nat}(hq:q≠p){cap:Option Nat}:∀ (m i:Nat) (bs:List Blk) (lo:Nat) (l:List Int),i+m=xs.length->Wr bs p l->jq bs p≠some q->au bs q=some (xs.map λs=>V.d (s.d Term.c))->l.length+(mF (xs.drop i)).length<=big →
 ∃ bs' lo',Cd E TT ah (.loop [0,6,7,8] qc) [(0,.ptr p 0),(6,.row q 0 xs.length cap 1),(7,.d (i64 xs.length)),(8,.d (i64 i))] ⟨bs,lo⟩=some (.exit 0,[],⟨bs',lo'⟩) ∧
  (lo'=lo/\xs.drop i=[]\/lo'<=p)/\Wr bs' p (l++mF (xs.drop i))/\Fx p bs bs':=by
 intro m;have key:=ax (E:=E) (T:=TT) (val:=ah) [0,6,7,8] qc;generalize Cd E TT ah (.loop [0,6,7,8] qc)=W at key ⊢
 induction m with
 | zero =>
  intro i bs lo l hi hW h1 h2 hl;have h0:xs.drop i=[]:=bb (by omega);refine ⟨bs,lo,?_,.inl ⟨rfl,h0⟩,by simpa [h0,mF] using hW,Fx.refl _ _⟩;rw [key];simp [qc,show ¬ ((i:Int)<xs.length) from by omega]
 | succ m ih =>
  intro i bs lo l hi hW h1 h2 hl;have hlt:i<xs.length:=by omega
  have hd:xs.drop i=xs[i]::xs.drop (i+1):=ba hlt;have hix:=λh=>gD (b:=q) (o:=0) (z:=1) (cap:=cap) (kd:=.i64) (h:=h) hlt;simp only [Nat.mul_one,Nat.zero_add] at hix;have hs:sub (xs.map λs=>V.d (s.d Term.c)) i 1=some [.d (xs[i].d Term.c)]:=by
   rw [eH,if_pos (by simp; omega),ba (by simpa using hlt)]; simp
  have hx:=hsh _ (bj hlt);rw [hd] at hl ⊢;simp only [mF,List.flatMap_cons,aq] at hl;generalize xs[i]=x at *;obtain ⟨b1,l1,a1,a2,a3,a4⟩:=bm6 (E:=E) hx hW (by omega) lo;obtain ⟨f1,f2⟩:=a4.2 q _ hq h1 h2;obtain ⟨bs',lo',q1,q2,q3,q4⟩:=ih (i+1) b1 l1 (l++seqB oh x.l) (by omega) a3 f2 f1 (by rw [aq,mF]; omega);have hw:=aI hlt hxn;refine ⟨bs',lo',?_,.inr ?_,by simpa [mF] using q3,a4.trans q4⟩
  . have hld:ldv ⟨bs,lo⟩ (.ptr q i) 1 true=some (.d (x.d Term.c),⟨bs,lo⟩):=by
     rw [aC,get_eq];show (match (match au bs q with | some cs=>sub cs i 1 | none=>none) with | some cs=>_ | none=>none)=_;rw [h2]; simp only [hs]; rfl
    rw [key];simp [qc,hix,hld,a1,hw,show ((i:Int)<xs.length) from by omega,-aC];simpa using q1
  . obtain ⟨rfl,_⟩ | q2:=q2
    . exact a2
    . exact q2
theorem Rb {p:Nat}{bs:List Blk}{l:List Int}(h:Wr bs p l){xs:List (Sl Term)}(hne:xs≠[])(hn:xs.length<2 ^ 62)(hsh:∀ s∈xs,short s){q:Nat}(hq:q≠p){cap:Option Nat}{n:Nat}(hnn:n=xs.length)(h1:jq bs p≠some q)(h2:au bs q=some (xs.map λs=>V.d (s.d Term.c)))(hl:l.length+(mF xs).length<=big):jQ E 283 [.ptr p 0,.row q 0 n cap 1] p bs l (mF xs):=by
 intro lo;subst hnn;obtain ⟨bs',lo',k1,k2,k3,k4⟩:=Ip (E:=E) hn hsh hq (cap:=cap) xs.length 0 bs bs.length l (by omega) h h1 h2 (by simpa using hl);have hle:lo'<=p:=by
  obtain ⟨_,hx⟩ | k2:=k2
  . exact absurd (by simpa using hx) hne
  . exact k2
 refine ⟨bs',min lo lo',?_,by omega,by simpa using k3,k4⟩;rw [av da8 ds4];simp [aa,U9];rw [aj];simp at k1;simp [k1];exact fM hle h.len
def jX (s:Source):List Int:=mF [s.names,s.spaces]++seqB uF s.nets.l
theorem bk8 (t:Source)(ht:t.fits big){p:Nat}{bs:List Blk}{l:List Int}(h:Wr bs p l)(hl:l.length+(jX t).length<=big):jQ E 212 [.ptr p 0,ag t.c] p bs l (jX t):=by
 intro lo;simp only [jX,aq] at hl;have hW2:=h.lay [.cells (t.c.map .d),.cells [.d (t.names.d Term.c),.d (t.spaces.d Term.c)]];have hfr:bs.length+1≠p/\jq (bs++[.cells (t.c.map .d),.cells [.d (t.names.d Term.c),.d (t.spaces.d Term.c)]]) p≠some (bs.length+1):=by
  have:=h.len;refine ⟨by omega,?_⟩;rw [pQ this];intro hh;have:=h.row_lt hh;omega
 obtain ⟨b1,l1,a1,a2,a3,a4⟩:=Rb (E:=E) hW2 (xs:=[t.names,t.spaces]) (by simp) (by simp) (by
  intro s hs;simp only [List.mem_cons,List.not_mem_nil,or_false] at hs;obtain rfl | rfl:=hs
  . exact ht.1
  . exact ht.2.1) (q:=bs.length+1) hfr.1 (cap:=some 2) (n:=2) rfl hfr.2 (by simp) (by omega) bs.length
 obtain ⟨f1,f2,f3⟩:=a4.new h;obtain ⟨b2,l2,c1,c2,c3,c4⟩:=bl8 (E:=E) ht.2.2 a3 (by rw [aq]; omega) l1;refine ⟨b2,min lo l2,?_,by omega,by simpa [jX] using c3,((Fx.lay h.len _).trans a4).trans c4⟩;rw [av cz3 dq5];simp [aa,UR,az,a1,f3,c1];exact fM c2 h.len
def jZ (t:Target):List Int:=seqB yH t.ports.l++mF [t.methods,t.paths,t.hosts]
theorem bk9 (t:Target)(ht:t.fits big){p:Nat}{bs:List Blk}{l:List Int}(h:Wr bs p l)(hl:l.length+(jZ t).length<=big):jQ E 214 [.ptr p 0,ag t.c] p bs l (jZ t):=by
 intro lo;simp only [jZ,aq] at hl;obtain ⟨b1,l1,a1,a2,a3,a4⟩:=bm1 (E:=E) ht.1 (h.lay [.cells (t.c.map .d)]) (by omega) bs.length;obtain ⟨f1,f2,f3⟩:=a4.new h;have hfr:=a3.fresh [.cells [.d (t.methods.d Term.c),.d (t.paths.d Term.c),.d (t.hosts.d Term.c)]];obtain ⟨b2,l2,c1,c2,c3,c4⟩:=Rb (E:=E) (a3.lay [.cells [.d (t.methods.d Term.c),.d (t.paths.d Term.c),.d (t.hosts.d Term.c)]]) (xs:=[t.methods,t.paths,t.hosts]) (by simp) (by simp) (by
  intro s hs;simp only [List.mem_cons,List.not_mem_nil,or_false] at hs;obtain rfl | rfl | rfl:=hs
  . exact ht.2.1
  . exact ht.2.2.1
  . exact ht.2.2.2) (q:=b1.length) hfr.1 (cap:=some 3) (n:=3) rfl hfr.2 (by simp) (by rw [aq]; omega) l1
 refine ⟨b2,min lo l2,?_,by omega,by simpa [jZ] using c3,((Fx.lay h.len _).trans a4).trans ((Fx.lay a3.len _).trans c4)⟩;rw [av cz5 dq7];simp [aa,UT,az,a1,f3,c1];exact fM c2 h.len
def sU (w:When):List Int:=jd w.head++mF [w.terms]
theorem bl0 (t:When)(ht:t.fits big){p:Nat}{bs:List Blk}{l:List Int}(h:Wr bs p l)(hl:l.length+(sU t).length<=big):jQ E 216 [.ptr p 0,ag t.c] p bs l (sU t):=by
 intro lo;simp only [sU,aq] at hl;obtain ⟨b1,l1,a1,a2,a3,a4⟩:=CR (E:=E) (h.lay [.cells (t.c.map .d)]) t.head (by omega) bs.length;obtain ⟨f1,f2,f3⟩:=a4.new h;have hfr:=a3.fresh [.cells [.d (t.terms.d Term.c)]];obtain ⟨b2,l2,c1,c2,c3,c4⟩:=Rb (E:=E) (a3.lay [.cells [.d (t.terms.d Term.c)]]) (xs:=[t.terms]) (by simp) (by simp) (by
  intro s hs;simp only [List.mem_cons,List.not_mem_nil,or_false] at hs;subst hs;exact ht) (q:=b1.length) hfr.1 (cap:=some 1) (n:=1) rfl hfr.2 (by simp) (by rw [aq]; omega) l1
 refine ⟨b2,min lo l2,?_,by omega,by simpa [sU] using c3,((Fx.lay h.len _).trans a4).trans ((Fx.lay a3.len _).trans c4)⟩;rw [av cz7 dq9];simp [aa,UU,az,a1,f3,c1];exact fM c2 h.len
def qp (r:Rule):List Int:=seqB jX r.frm.l++(seqB jZ r.to.l++seqB sU r.whn.l)
theorem bi8 (t:Rule)(ht:t.fits big){p:Nat}{bs:List Blk}{l:List Int}(h:Wr bs p l)(hl:l.length+(qp t).length<=big):jQ E 136 [.ptr p 0,ag t.c] p bs l (qp t):=by
 intro lo;simp only [qp,aq] at hl;obtain ⟨b1,l1,a1,a2,a3,a4⟩:=tq (E:=E) (cells:=Source.c) (zero:=sl0 3) (λ_=>rfl) (by decide) rfl dx1 dq4 (enc:=jX) (f:=212) ht.1.1 (λe he bs l h hl=>bk8 e (ht.1.2 e he) h hl) (h.lay [.cells (t.c.map .d)]) (by omega) bs.length;obtain ⟨f1,f2,f3⟩:=a4.new h;obtain ⟨b2,l2,c1,c2,c3,c4⟩:=tq (E:=E) (cells:=Target.c) (zero:=sl0 4) (λ_=>rfl) (by decide) rfl dx2 dq6 (enc:=jZ) (f:=214) ht.2.1.1 (λe he bs l h hl=>bk9 e (ht.2.1.2 e he) h hl) a3 (by rw [aq]; omega) l1;obtain ⟨g1,g2⟩:=c4.2 _ _ f1 f2 f3;obtain ⟨b3,l3,d1,d2,d3,d4⟩:=tq (E:=E) (cells:=When.c) (zero:=[(.d (.str ⟨#[]⟩)),(.d (.slice true []))]) (λ_=>rfl) (by decide) rfl dx3 dq8 (enc:=sU) (f:=216) ht.2.2.1 (λe he bs l h hl=>bl0 e (ht.2.2.2 e he) h hl) c3 (by rw [aq,aq]; omega) l2;refine ⟨b3,min lo l3,?_,by omega,by simpa [qp] using d3,(((Fx.lay h.len _).trans a4).trans c4).trans d4⟩;rw [av cy0 dp3];simp [aa,Uy,a1,f3,c1,g1,d1];exact fM d2 h.len
end
section
variable {E:Calls'}
theorem iA {α:Type}{f:α->List Int}{K:Nat}:∀ {l:List α},(∀ x∈l,(f x).length<=K)->(l.flatMap f).length<=l.length * K
 | [],_=>by simp
 | x::l,h=>by
  have h1:=h x (by simp);have h2:=iA (l:=l) λy hy=>h y (List.mem_cons_of_mem _ hy);rw [fB,cj,Nat.add_mul,Nat.one_mul];omega
theorem nX {α:Type}{f:α->List Int}{K n:Nat}{l:List α}(hn:l.length<=n)(h:∀ x∈l,(f x).length<=K):(seqB f l).length<=10+n * K:=by
 have h1:=iA h;have h2:=bu l.length;have h3:l.length * K<=n * K:=Nat.mul_le_mul_right K hn;simp only [seqB,aq];omega
theorem Ff {s:ByteArray}(h:eqS s ⟨#[]⟩=true):s.size=0:=by
 unfold eqS at h;have h1:s.toList=(⟨#[]⟩:ByteArray).toList:=eq_of_beq h;have h2:=lL s;rw [h1,df] at h2;exact h2.symm
theorem Ma {t:Term}(h:j5 t=true):(oh t).length<=75:=by
 have h1:=jo t.text;have h2:t.text.size<=64:=by
  simp only [j5,aw] at h;obtain ⟨_,h⟩:=h;split at h
  . have:=Ff h; omega
  . simp only [aw,bw] at h;omega
 simp only [oh,cj];omega
theorem Mc {s:Sl Term}(h:bi s=true):(seqB oh s.l).length<=460:=by
 simp only [bi,aw,bw,cm] at h;exact nX (n:=6) (K:=75) (by omega) λx hx=>Ma (h.2 x hx)
theorem zW {ls:List (Sl Term)}{n:Nat}(hn:ls.length<=n)(h:ls.all bi=true):(mF ls).length<=n * 460:=by
 have h1:=iA (f:=λs:Sl Term=>seqB oh s.l) (K:=460) (l:=ls) λx hx=>Mc (cm.1 h x hx);have h3:ls.length * 460<=n * 460:=Nat.mul_le_mul_right _ hn;simp only [mF];omega
theorem Ee {s:Source}(h:gL s=true):(jX s).length<=960:=by
 have h0:([s.names,s.spaces].all bi&&nk s.nets)=true:=h;rw [aw] at h0;have h1:=zW (n:=2) (by simp) h0.1;have h2:=h0.2;simp only [nk,aw,bw] at h2;have h3:=nX (n:=6) (K:=5) (f:=uF) (l:=s.nets.l) (by omega) λx _=>br 5;simp only [jX,aq];omega
theorem En {s:Target}(h:aZ s=true):(jZ s).length<=1450:=by
 have h0:(([s.methods,s.paths,s.hosts].all bi)&&(decide ((s.ports.l.length:Int)<=6)&&s.ports.l.all ic)&&((vZ (bI s.ports.l):Int)==(s.ports.l.length:Int)))=true:=h;simp only [aw,bw] at h0;have h1:=zW (ls:=[s.methods,s.paths,s.hosts]) (n:=3) (by simp) h0.1.1;have h3:=nX (n:=6) (K:=10) (f:=yH) (l:=s.ports.l) (by omega) λx _=>bu _;simp only [jZ,aq];omega
theorem Mv {s:When}(h:kr s=true):(sU s).length<=534:=by
 have h0:(kY s.head&&[s.terms].all bi&&decide ((s.terms.l.length:Int)>0))=true:=h;simp only [aw,bw] at h0;have h1:=zW (ls:=[s.terms]) (n:=1) (by simp) h0.1.2;have h2:=jo s.head;have h3:=h0.1.1;simp only [kY,aw,bw] at h3;simp only [sU,aq];omega
theorem LG {s:Rule}(h:iq s=true):(qp s).length<=8862:=by
 simp only [iq,aw,bw,cm] at h;have h1:=nX (n:=3) (K:=960) (f:=jX) (l:=s.frm.l) (by omega) λx hx=>Ee (h.1.1.2 x hx);have h2:=nX (n:=3) (K:=1450) (f:=jZ) (l:=s.to.l) (by omega) λx hx=>En (h.1.2.2 x hx);have h3:=nX (n:=3) (K:=534) (f:=sU) (l:=s.whn.l) (by omega) λx hx=>Mv (h.2.2 x hx);simp only [qp,aq];omega
def tZ (p:Pol):List Int:=cZ p.id++(jd p.ns++([p.service,wrap .u64 p.deny].flatMap cZ++seqB qp p.rules.l))
theorem rQ {s:ByteArray}(h:cu s=true):s.size<=20:=by
 simp only [cu,aw,bw] at h;omega
theorem zS {p:Pol}(h:bY p=true):(tZ p).length<=53300:=by
 simp only [bY,aw,bw,Bool.or_eq_true,cm] at h;have h1:=nX (n:=6) (K:=8862) (f:=qp) (l:=p.rules.l) (by omega) λx hx=>LG (h.2.2 x hx);have h2:=jo p.ns;have h3:p.ns.size<=20:=by
  obtain hh | hh:=h.1.1.1.2
  . have:=Ff hh; omega
  . exact rQ hh
 have h4:=bu p.id;have h5:=bu p.service;have h6:=bu (wrap .u64 p.deny);simp only [tZ,aq,List.flatMap_cons,List.flatMap_nil,ck];omega
def bytesD (l:List Int):D:=.slice false (l.map λn=>[.int .u8 n])
theorem CP (x:Int):cZ x≠[]:=by
 intro h;have:=congrArg List.length h;rw [cZ,uz] at this;simp at this
theorem uH {h:Hp}{k b:Nat}{l:List Int}{cap:Option Nat}(hb:au h.bs b=some (l.map (iv .u8))):dataV h (k+1) (.row b 0 l.length cap 1)=some (bytesD l):=by
 have hf:∀ l:List Int,flat (l.map λn=>[D.int .u8 n])=l.map (iv .u8):=by
  intro l;simp only [flat]
  induction l with
  | nil=>rfl
  | cons x l ih=>simp only [cq,List.flatten_cons,List.map_append,ih]; rfl
 exact bB (z:=1) (es:=l.map λn=>[D.int .u8 n]) (rest:=[]) (by simp) (by simp) (by rw [hf,List.append_nil]; exact hb)
section
variable (h385:∀ t:Target,t.wf big->∀ h,E 280 [ag t.c] h=some (bl (aZ t),h))
include h385
theorem bh0 (p:Pol)(hp:p.wf big)(h:Hp):Sm E TT ah 46 [ag p.c] h=some (.tup (if bY p then [.d (bytesD (tZ p)),.d (i64 0)] else [.d (.slice true []),.d (i64 1)]),h):=by
 have n1:=λh=>Q8 h385 p hp h;rw [aN cu8 dm4];cases hm:bY p with
 | false =>
  simp only [hm] at n1;simp [aa,Ow,n1]
 | true =>
  simp only [hm] at n1;have hlen:=zS hm;have hbig:big=2 ^ 30:=rfl;simp only [tZ,aq] at hlen;obtain ⟨lo0,m1⟩:=Xn (E:=E) [.cells (p.c.map .d)] 0;have hW:=Mw [.cells (p.c.map .d)];have hW1:jq ([.cells (p.c.map .d)]++[.cells [.d (.slice true [])]]) 1≠some 0:=by simp [jq]
  obtain ⟨b1,l1,a1,a2,a3,a4⟩:=Gv (E:=E) hW p.id (by simp; omega) lo0;obtain ⟨f1,f2⟩:=a4.2 0 (p.c.map .d) (by simp) hW1 (by simp);obtain ⟨b2,l2,c1,c2,c3,c4⟩:=CR (E:=E) a3 p.ns (by simp; omega) l1;obtain ⟨g1,g2⟩:=c4.2 _ _ (by simp) f2 f1;have hfr:=c3.fresh [.cells [.d (u64 p.service),.d (u64 (wrap .u64 p.deny))]];obtain ⟨b3,l3,d1,d2,d3,d4⟩:=xN (E:=E) (c3.lay [.cells [.d (u64 p.service),.d (u64 (wrap .u64 p.deny))]]) (xs:=[p.service,wrap .u64 p.deny]) (by simp) (by simp) (q:=b2.length) hfr.1 (cap:=some 2) hfr.2 (by simp) (by simp only [aq,ck]; omega) l2;obtain ⟨k1,k2⟩:=((Fx.lay c3.len _).trans d4).2 _ _ (by simp) g2 g1;obtain ⟨b4,l4,e1,e2,e3,e4⟩:=tq (E:=E) (cells:=Rule.c) (zero:=sl0 3) (λ_=>rfl) (by decide) rfl dx0 dp2 (enc:=qp) (f:=136) hp.2.2.2.2.1 (λe he bs l h hl=>bi8 e ((hp.2.2.2.2.2 e he).fits) h hl) d3 (by simp only [aq,ck]; omega) l3;have hfin:[]++cZ p.id++jd p.ns++[p.service,wrap .u64 p.deny].flatMap cZ++seqB qp p.rules.l=tZ p:=by simp [tZ]
  rw [hfin] at e3;obtain ⟨l5,r1⟩:=Xo (E:=E) e3 (by have:=zS hm; omega) (by simp [tZ,CP]) l4;have hfz:=uH (h:=⟨b4++[.cells ((tZ p).map (iv .u8))],l5⟩) (k:=7) (b:=b4.length) (l:=tZ p) (cap:=none) (by simp);simp at a1 c1 d1 e1 r1 m1 f1 g1 k1;simp [aa,Ow,n1,m1,a1,f1,c1,g1,az,d1,k1,e1,r1];simp [hfz]
end
end
section
variable {E:Calls'}
def uS (p:Pod):List Int:=[p.uid].flatMap cZ++(jd p.ns++(jd p.sa++[wrap .u64 p.host,wrap .u64 p.addr,wrap .u64 p.port,p.service].flatMap cZ))
def uT (s:Svc):List Int:=[s.id].flatMap cZ++(jd s.ns++[wrap .u64 s.addr,wrap .u64 s.port,s.way].flatMap cZ)
def Al (w:Way):List Int:=[w.id,wrap .u64 w.node].flatMap cZ
def strOf (l:List Int):ByteArray:=⟨(l.map λn=>UInt8.ofNat n.toNat).toArray⟩
def si (p:Pol):List Int:=jd (strOf (tZ p))
theorem Wr.fresh1 {p:Nat}{bs:List Blk}{l:List Int}(h:Wr bs p l)(a:Blk)(ys:List Blk):bs.length+1≠p/\jq (bs++(a::ys)) p≠some (bs.length+1):=by
 have hp:=h.len;refine ⟨by omega,?_⟩;rw [pQ hp];intro hh;have:=h.row_lt hh;omega
theorem Hr (c:Cfg)(hs:c.pods.l.length<2 ^ 62){p:Nat}:∀ (m i:Nat) (bs:List Blk) (lo:Nat) (l:List Int),i+m=c.pods.l.length->Wr bs p l->l.length+((c.pods.l.drop i).flatMap uS).length<=big →
 ∃ bs' lo',Cd E TT ah (.loop [1,3,33,34,35] uh) [(1,.ptr 0 0),(3,.ptr p 0),(33,.d (c.pods.d Pod.c)),(34,.d (i64 c.pods.l.length)),(35,.d (i64 i))] ⟨bs,lo⟩=some (.exit 0,[(1,.ptr 0 0),(3,.ptr p 0)],⟨bs',lo'⟩) ∧
  (lo<=p->lo'<=p)/\Wr bs' p (l++(c.pods.l.drop i).flatMap uS)/\Fx p bs bs':=by
 intro m;have key:=ax (E:=E) (T:=TT) (val:=ah) [1,3,33,34,35] uh;generalize Cd E TT ah (.loop [1,3,33,34,35] uh)=W at key ⊢
 induction m with
 | zero =>
  intro i bs lo l hi hW hl;have h0:c.pods.l.drop i=[]:=bb (by omega);refine ⟨bs,lo,?_,id,by simpa [h0] using hW,Fx.refl _ _⟩;rw [key];simp [uh,show ¬ ((i:Int)<c.pods.l.length) from by omega]
 | succ m ih =>
  intro i bs lo l hi hW hl;have hlt:i<c.pods.l.length:=by omega
  have hx:=λh=>bv (z:=7) h (ab hlt) (cells:=Pod.c) rfl;rw [ba hlt] at hl ⊢;rw [fB] at hl;generalize c.pods.l[i]=e at *;have hl2:(uS e).length=([e.uid].flatMap cZ).length+((jd e.ns).length+((jd e.sa).length+([wrap .u64 e.host,wrap .u64 e.addr,wrap .u64 e.port,e.service].flatMap cZ).length)):=by simp only [uS,aq]
  have u1:=hW.fresh1 (.cells (e.c.map .d)) [.cells [.d (u64 e.uid)]];obtain ⟨b1,l1,a1,a2,a3,a4⟩:=xN (E:=E) (hW.lay (.cells (e.c.map .d)::[.cells [.d (u64 e.uid)]])) (xs:=[e.uid]) (by simp) (by simp) (q:=bs.length+1) u1.1 (cap:=some 1) u1.2 (by simp) (by omega) (min lo bs.length);obtain ⟨f1,f2,f3⟩:=a4.new hW;obtain ⟨b2,l2,c1,c2,c3,c4⟩:=CR (E:=E) a3 e.ns (by simp only [aq]; omega) l1;obtain ⟨g1,g2⟩:=c4.2 _ _ f1 f2 f3;obtain ⟨b3,l3,d1,d2,d3,d4⟩:=CR (E:=E) c3 e.sa (by simp only [aq]; omega) l2;obtain ⟨k1,k2⟩:=d4.2 _ _ f1 g2 g1;have u2:=d3.fresh [.cells [.d (u64 (wrap .u64 e.host)),.d (u64 (wrap .u64 e.addr)),.d (u64 (wrap .u64 e.port)),.d (u64 e.service)]];obtain ⟨b4,l4,e1,e2,e3,e4⟩:=xN (E:=E) (d3.lay [.cells [.d (u64 (wrap .u64 e.host)),.d (u64 (wrap .u64 e.addr)),.d (u64 (wrap .u64 e.port)),.d (u64 e.service)]]) (xs:=[wrap .u64 e.host,wrap .u64 e.addr,wrap .u64 e.port,e.service]) (by simp) (by simp) (q:=b3.length) u2.1 (cap:=some 4) u2.2 (by simp) (by simp only [aq]; omega) l3;have e3':Wr b4 p (l++uS e):=by simpa only [uS,List.append_assoc] using e3
  obtain ⟨bs',lo',q1,q2,q3,q4⟩:=ih (i+1) b4 l4 (l++uS e) (by omega) e3' (by rw [aq]; omega);have hw:=aI hlt hs;refine ⟨bs',lo',?_,λ_=>q2 e2,by simpa using q3,(((((Fx.lay hW.len _).trans a4).trans c4).trans d4).trans ((Fx.lay d3.len _).trans e4)).trans q4⟩;simp at a1 c1 d1 e1;rw [key];simp [uh,hx,az,a1,f3,c1,g1,d1,k1,e1,hw,show ((i:Int)<c.pods.l.length) from by omega];simpa using q1
theorem IP (c:Cfg)(hs:c.services.l.length<2 ^ 62){p:Nat}:∀ (m i:Nat) (bs:List Blk) (lo:Nat) (l:List Int),i+m=c.services.l.length->Wr bs p l->l.length+((c.services.l.drop i).flatMap uT).length<=big →
 ∃ bs' lo',Cd E TT ah (.loop [1,3,77,78,79] ui) [(1,.ptr 0 0),(3,.ptr p 0),(77,.d (c.services.d Svc.c)),(78,.d (i64 c.services.l.length)),(79,.d (i64 i))] ⟨bs,lo⟩=some (.exit 2,[(1,.ptr 0 0),(3,.ptr p 0)],⟨bs',lo'⟩) ∧
  (lo<=p->lo'<=p)/\Wr bs' p (l++(c.services.l.drop i).flatMap uT)/\Fx p bs bs':=by
 intro m;have key:=ax (E:=E) (T:=TT) (val:=ah) [1,3,77,78,79] ui;generalize Cd E TT ah (.loop [1,3,77,78,79] ui)=W at key ⊢
 induction m with
 | zero =>
  intro i bs lo l hi hW hl;have h0:c.services.l.drop i=[]:=bb (by omega);refine ⟨bs,lo,?_,id,by simpa [h0] using hW,Fx.refl _ _⟩;rw [key];simp [ui,show ¬ ((i:Int)<c.services.l.length) from by omega]
 | succ m ih =>
  intro i bs lo l hi hW hl;have hlt:i<c.services.l.length:=by omega
  have hx:=λh=>bv (z:=5) h (ab hlt) (cells:=Svc.c) rfl;rw [ba hlt] at hl ⊢;rw [fB] at hl;generalize c.services.l[i]=e at *;have hl2:(uT e).length=([e.id].flatMap cZ).length+((jd e.ns).length+([wrap .u64 e.addr,wrap .u64 e.port,e.way].flatMap cZ).length):=by simp only [uT,aq]
  have u1:=hW.fresh1 (.cells (e.c.map .d)) [.cells [.d (u64 e.id)]];obtain ⟨b1,l1,a1,a2,a3,a4⟩:=xN (E:=E) (hW.lay (.cells (e.c.map .d)::[.cells [.d (u64 e.id)]])) (xs:=[e.id]) (by simp) (by simp) (q:=bs.length+1) u1.1 (cap:=some 1) u1.2 (by simp) (by omega) (min lo bs.length);obtain ⟨f1,f2,f3⟩:=a4.new hW;obtain ⟨b2,l2,c1,c2,c3,c4⟩:=CR (E:=E) a3 e.ns (by simp only [aq]; omega) l1;obtain ⟨g1,g2⟩:=c4.2 _ _ f1 f2 f3;have u2:=c3.fresh [.cells [.d (u64 (wrap .u64 e.addr)),.d (u64 (wrap .u64 e.port)),.d (u64 e.way)]];obtain ⟨b4,l4,e1,e2,e3,e4⟩:=xN (E:=E) (c3.lay [.cells [.d (u64 (wrap .u64 e.addr)),.d (u64 (wrap .u64 e.port)),.d (u64 e.way)]]) (xs:=[wrap .u64 e.addr,wrap .u64 e.port,e.way]) (by simp) (by simp) (q:=b2.length) u2.1 (cap:=some 3) u2.2 (by simp) (by simp only [aq]; omega) l2;have e3':Wr b4 p (l++uT e):=by simpa only [uT,List.append_assoc] using e3
  obtain ⟨bs',lo',q1,q2,q3,q4⟩:=ih (i+1) b4 l4 (l++uT e) (by omega) e3' (by rw [aq]; omega);have hw:=aI hlt hs;refine ⟨bs',lo',?_,λ_=>q2 e2,by simpa using q3,((((Fx.lay hW.len _).trans a4).trans c4).trans ((Fx.lay c3.len _).trans e4)).trans q4⟩;simp at a1 c1 e1;rw [key];simp [ui,hx,az,a1,f3,c1,g1,e1,hw,show ((i:Int)<c.services.l.length) from by omega];simpa using q1
theorem IY (c:Cfg)(hs:c.bound.l.length<2 ^ 62){p:Nat}:∀ (m i:Nat) (bs:List Blk) (lo:Nat) (l:List Int),i+m=c.bound.l.length->Wr bs p l->l.length+((c.bound.l.drop i).flatMap Al).length<=big →
 ∃ bs' lo',Cd E TT ah (.loop [1,3,112,113,114] uj) [(1,.ptr 0 0),(3,.ptr p 0),(112,.d (c.bound.d Way.c)),(113,.d (i64 c.bound.l.length)),(114,.d (i64 i))] ⟨bs,lo⟩=some (.exit 4,[(1,.ptr 0 0),(3,.ptr p 0)],⟨bs',lo'⟩) ∧
  (lo<=p->lo'<=p)/\Wr bs' p (l++(c.bound.l.drop i).flatMap Al)/\Fx p bs bs':=by
 intro m;have key:=ax (E:=E) (T:=TT) (val:=ah) [1,3,112,113,114] uj;generalize Cd E TT ah (.loop [1,3,112,113,114] uj)=W at key ⊢
 induction m with
 | zero =>
  intro i bs lo l hi hW hl;have h0:c.bound.l.drop i=[]:=bb (by omega);refine ⟨bs,lo,?_,id,by simpa [h0] using hW,Fx.refl _ _⟩;rw [key];simp [uj,show ¬ ((i:Int)<c.bound.l.length) from by omega]
 | succ m ih =>
  intro i bs lo l hi hW hl;have hlt:i<c.bound.l.length:=by omega
  have hx:=λh=>bv (z:=2) h (ab hlt) (cells:=Way.c) rfl;rw [ba hlt] at hl ⊢;rw [fB] at hl;generalize c.bound.l[i]=e at *;have u1:=hW.fresh1 (.cells (e.c.map .d)) [.cells [.d (u64 e.id),.d (u64 (wrap .u64 e.node))]];obtain ⟨b1,l1,a1,a2,a3,a4⟩:=xN (E:=E) (hW.lay (.cells (e.c.map .d)::[.cells [.d (u64 e.id),.d (u64 (wrap .u64 e.node))]])) (xs:=[e.id,wrap .u64 e.node]) (by simp) (by simp) (q:=bs.length+1) u1.1 (cap:=some 2) u1.2 (by simp) (by have:(Al e).length=([e.id,wrap .u64 e.node].flatMap cZ).length:=rfl; omega) (min lo bs.length);obtain ⟨bs',lo',q1,q2,q3,q4⟩:=ih (i+1) b1 l1 (l++Al e) (by omega) a3 (by rw [aq]; omega);have hw:=aI hlt hs;refine ⟨bs',lo',?_,λ_=>q2 a2,by simpa using q3,((Fx.lay hW.len _).trans a4).trans q4⟩;simp at a1;rw [key];simp [uj,hx,az,a1,hw,show ((i:Int)<c.bound.l.length) from by omega];simpa using q1
def zy (x:V)(h:Hp):Option (V×Hp):=match x with
 | .d (.str _)=>none
 | v=>match aB h v 1 with
  | some (_,cs)=>match cs.mapM (λv=>match v with | .d (.int .u8 n)=>some (UInt8.ofNat n.toNat) | _=>none) with
   | some l=>some (.d (.str ⟨l.toArray⟩),h)
   | none=>none
  | none=>none
@[simp] theorem Td {C:Calls'}{ev:X->V}{h:Hp}{x:X}:opE C (.convBS x) ev h=zy (ev x) h:=(rfl)
theorem Dc (l:List Int):(l.map λn=>[D.int .u8 n]).flatten.map V.d=l.map (iv .u8):=by
 induction l with
 | nil=>rfl
 | cons x l ih=>simp only [cq,List.flatten_cons,List.map_append,ih]; rfl
theorem JG {h:Hp}{l:List Int}:zy (.d (bytesD l)) h=some (.d (.str (strOf l)),h):=by
 have hall:((l.map λn=>[D.int .u8 n]).all λe=>e.length==1)=true:=by simp
 have hm:(l.map (iv .u8)).mapM (λv=>match v with | .d (.int .u8 n)=>some (UInt8.ofNat n.toNat) | _=>none)=some (l.map λn=>UInt8.ofNat n.toNat):=by
  induction l with
  | nil=>rfl
  | cons x l ih =>
   simp only [cq,List.mapM_cons] at ih ⊢;rw [ih (by simp)];rfl
 simp only [zy,bytesD,aB,hall,if_true,Dc,hm];rfl
section
variable (h385:∀ t:Target,t.wf big->∀ h,E 280 [ag t.c] h=some (bl (aZ t),h))
include h385
theorem Hu (c:Cfg)(hs:c.policies.l.length<2 ^ 62)(hwf:∀ p∈c.policies.l,p.wf big/\bY p=true){p:Nat}:∀ (m i:Nat) (bs:List Blk) (lo:Nat) (l:List Int),i+m=c.policies.l.length->Wr bs p l->l.length+((c.policies.l.drop i).flatMap si).length<=big →
 ∃ bs' lo',Cd E TT ah (.loop [3,135,136,137] uk) [(3,.ptr p 0),(135,.d (c.policies.d Pol.c)),(136,.d (i64 c.policies.l.length)),(137,.d (i64 i))] ⟨bs,lo⟩=some (.exit 6,[(3,.ptr p 0)],⟨bs',lo'⟩) ∧
  (lo<=p->lo'<=p)/\Wr bs' p (l++(c.policies.l.drop i).flatMap si)/\Fx p bs bs':=by
 intro m;have key:=ax (E:=E) (T:=TT) (val:=ah) [3,135,136,137] uk;generalize Cd E TT ah (.loop [3,135,136,137] uk)=W at key ⊢
 induction m with
 | zero =>
  intro i bs lo l hi hW hl;have h0:c.policies.l.drop i=[]:=bb (by omega);refine ⟨bs,lo,?_,id,by simpa [h0] using hW,Fx.refl _ _⟩;rw [key];simp [uk,show ¬ ((i:Int)<c.policies.l.length) from by omega]
 | succ m ih =>
  intro i bs lo l hi hW hl;have hlt:i<c.policies.l.length:=by omega
  have hx:=λh=>bv (z:=5) h (ab hlt) (cells:=Pol.c) rfl;obtain ⟨hw1,hw2⟩:=hwf _ (bj hlt);rw [ba hlt] at hl ⊢;rw [fB] at hl;generalize c.policies.l[i]=e at *;have n1:=λh=>bh0 h385 e hw1 h;simp only [hw2,if_true] at n1;obtain ⟨b1,l1,a1,a2,a3,a4⟩:=CR (E:=E) (hW.lay [.cells (e.c.map .d)]) (strOf (tZ e)) (by have:(si e).length=(jd (strOf (tZ e))).length:=rfl; omega) (min lo bs.length);obtain ⟨bs',lo',q1,q2,q3,q4⟩:=ih (i+1) b1 l1 (l++si e) (by omega) a3 (by rw [aq]; omega);have hw:=aI hlt hs;refine ⟨bs',lo',?_,λ_=>q2 a2,by simpa using q3,((Fx.lay hW.len _).trans a4).trans q4⟩;rw [key];simp [uk,hx,n1,JG,a1,hw,show ((i:Int)<c.policies.l.length) from by omega];simpa using q1
end
end
section
variable {E:Calls'}
def fe (c:Cfg):List Int:=[c.epoch,c.next,wrap .u64 c.hosts,wrap .u64 c.ways,(c.pods.l.length:Int)].flatMap cZ++(c.pods.l.flatMap uS++([(c.services.l.length:Int)].flatMap cZ++(c.services.l.flatMap uT++([(c.bound.l.length:Int)].flatMap cZ++(c.bound.l.flatMap Al++([(c.policies.l.length:Int)].flatMap cZ++c.policies.l.flatMap si))))))
theorem Eh (l:List Int):(strOf l).size=l.length:=by
 show ((l.map λn=>UInt8.ofNat n.toNat).toArray).size=_;simp
theorem NR {p:Pod}(h1:p.ns.size<=20)(h2:p.sa.size<=20):(uS p).length<=110:=by
 have a1:=bu p.uid;have a2:=jo p.ns;have a3:=jo p.sa;have a4:=bu (wrap .u64 p.host);have a5:=bu (wrap .u64 p.addr);have a6:=bu (wrap .u64 p.port);have a7:=bu p.service;simp only [uS,aq,List.flatMap_cons,List.flatMap_nil,ck];omega
theorem PM {p:Svc}(h1:p.ns.size<=20):(uT p).length<=70:=by
 have a1:=bu p.id;have a2:=jo p.ns;have a5:=bu (wrap .u64 p.addr);have a6:=bu (wrap .u64 p.port);have a7:=bu p.way;simp only [uT,aq,List.flatMap_cons,List.flatMap_nil,ck];omega
theorem P8 {p:Way}:(Al p).length<=20:=by
 have a1:=bu p.id;have a5:=bu (wrap .u64 p.node);simp only [Al,aq,List.flatMap_cons,List.flatMap_nil,ck];omega
theorem KV {p:Pol}(h:bY p=true):(si p).length<=53310:=by
 have a2:=jo (strOf (tZ p));rw [Eh] at a2;have:=zS h;simp only [si];omega
theorem qI {c:Cfg}(h:jT c=true):∀ p∈c.pods.l,p.ns.size<=20/\p.sa.size<=20:=by
 simp only [jT,aw,Bool.not_eq_true',List.any_eq_false] at h;intro p hp;have:=h.1 p hp;simp only [dZ,dN,Bool.or_eq_true,not_or,Bool.not_eq_true',Bool.not_eq_false,aw] at this;exact ⟨rQ this.1.2.2.1,rQ this.1.2.2.2⟩
theorem pG {c:Cfg}(h:fI c=true):∀ p∈c.services.l,p.ns.size<=20:=by
 simp only [fI,aw,Bool.not_eq_true',List.any_eq_false] at h;intro p hp;have:=h.1 p hp;simp only [qX,Bool.or_eq_true,not_or,Bool.not_eq_true',Bool.not_eq_false] at this;exact rQ this.2.1
theorem ib {c:Cfg}(h:eP c=true):∀ p∈c.policies.l,bY p=true:=by
 simp only [eP,aw,Bool.not_eq_true',List.any_eq_false] at h;intro p hp;have:=h.1 p hp;simp only [tY,Bool.or_eq_true,not_or,Bool.not_eq_true',Bool.not_eq_false] at this;exact this.2.1
theorem yg {c:Cfg}(h1:fu c=true)(h2:rU c=true):(fe c).length<=700000:=by
 simp only [fu,aw,bw] at h1;simp only [rU,aw] at h2;have b1:=iA (K:=110) (f:=uS) (l:=c.pods.l) λp hp=>NR (qI h2.1.1.1.1.2 p hp).1 (qI h2.1.1.1.1.2 p hp).2;have b2:=iA (K:=70) (f:=uT) (l:=c.services.l) λp hp=>PM (pG h2.1.1.1.2 p hp);have b3:=iA (K:=20) (f:=Al) (l:=c.bound.l) λp hp=>P8;have b4:=iA (K:=53310) (f:=si) (l:=c.policies.l) λp hp=>KV (ib h2.2 p hp);have a1:=bu c.epoch;have a2:=bu c.next;have a3:=bu (wrap .u64 c.hosts);have a4:=bu (wrap .u64 c.ways);have a5:=bu (c.pods.l.length:Int);have a6:=bu (c.services.l.length:Int);have a7:=bu (c.bound.l.length:Int);have a8:=bu (c.policies.l.length:Int);simp only [fe,aq,List.flatMap_cons,List.flatMap_nil,ck];omega
theorem wrapN {n:Nat}(h:n<=2 ^ 30):wrap .u64 (n:Int)=n:=by
 simp [wrap,IntKind.bits,IntKind.signed];omega
section
variable (h385:∀ t:Target,t.wf big->∀ h,E 280 [ag t.c] h=some (bl (aZ t),h))
include h385
theorem bn4 (c:Cfg)(hc:c.wf big)(hpm:∀ p∈c.policies.l,bY p=true)(hlen:(fe c).length<=big)(h:Hp){a:V}(ha:frz h a=some (ag c.c)):Sm E TT ah 23 [a] h=some (.d (bytesD (fe c)),h):=by
 have hm:[a].mapM (frz h)=some [c.v]:=by simp [ha,Cfg.v]
 have hok:c.ok:=hc.ok (br _);have w1:=wrapN (n:=c.pods.l.length) hok.1.1;have w2:=wrapN (n:=c.services.l.length) hok.2.1.1;have w3:=wrapN (n:=c.bound.l.length) hok.2.2.1.1;have w4:=wrapN (n:=c.policies.l.length) hok.2.2.2.1.1;rw [aN t94 v94,hm,xI];have hlen0:=hlen;simp only [fe,aq] at hlen;obtain ⟨lo0,m1⟩:=Xn (E:=E) [.cells (c.c.map .d)] 0;have hW:=Mw [.cells (c.c.map .d)];have hW0:jq ([.cells (c.c.map .d)]++[.cells [.d (.slice true [])]]) 1≠some 0:=by simp [jq]
 have u1:=hW.fresh [.cells [.d (u64 c.epoch),.d (u64 c.next),.d (u64 (wrap .u64 c.hosts)),.d (u64 (wrap .u64 c.ways)),.d (u64 c.pods.l.length)]];obtain ⟨b1,l1,a1,a2,a3,a4⟩:=xN (E:=E) (hW.lay [.cells [.d (u64 c.epoch),.d (u64 c.next),.d (u64 (wrap .u64 c.hosts)),.d (u64 (wrap .u64 c.ways)),.d (u64 c.pods.l.length)]]) (xs:=[c.epoch,c.next,wrap .u64 c.hosts,wrap .u64 c.ways,(c.pods.l.length:Int)]) (by simp) (by simp) u1.1 (cap:=some 5) u1.2 (by simp) (by simp only [ck]; omega) lo0;obtain ⟨f1,f2⟩:=((Fx.lay hW.len _).trans a4).2 0 (c.c.map .d) (by simp) hW0 (by simp);obtain ⟨b2,l2,c1,c2,c3,c4⟩:=Hr (E:=E) c hok.1.lt c.pods.l.length 0 b1 l1 _ (by omega) a3 (by simp only [aq,List.drop_zero,ck]; omega);obtain ⟨g1,g2⟩:=c4.2 _ _ (by simp) f2 f1;simp only [List.drop_zero] at c3;have u2:=c3.fresh [.cells [.d (u64 c.services.l.length)]];obtain ⟨b3,l3,d1,d2,d3,d4⟩:=xN (E:=E) (c3.lay [.cells [.d (u64 c.services.l.length)]]) (xs:=[(c.services.l.length:Int)]) (by simp) (by simp) u2.1 (cap:=some 1) u2.2 (by simp) (by simp only [aq,ck]; omega) l2;obtain ⟨g3,g4⟩:=((Fx.lay c3.len _).trans d4).2 _ _ (by simp) g2 g1;obtain ⟨b4,l4,e1,e2,e3,e4⟩:=IP (E:=E) c hok.2.1.lt c.services.l.length 0 b3 l3 _ (by omega) d3 (by simp only [aq,List.drop_zero,ck]; omega);obtain ⟨g5,g6⟩:=e4.2 _ _ (by simp) g4 g3;simp only [List.drop_zero] at e3
 have u3:=e3.fresh [.cells [.d (u64 c.bound.l.length)]];obtain ⟨b5,l5,i1,i2,i3,i4⟩:=xN (E:=E) (e3.lay [.cells [.d (u64 c.bound.l.length)]]) (xs:=[(c.bound.l.length:Int)]) (by simp) (by simp) u3.1 (cap:=some 1) u3.2 (by simp) (by simp only [aq,ck]; omega) l4;obtain ⟨g7,g8⟩:=((Fx.lay e3.len _).trans i4).2 _ _ (by simp) g6 g5;obtain ⟨b6,l6,j1,j2,j3,j4⟩:=IY (E:=E) c hok.2.2.1.lt c.bound.l.length 0 b5 l5 _ (by omega) i3 (by simp only [aq,List.drop_zero,ck]; omega);obtain ⟨g9,g10⟩:=j4.2 _ _ (by simp) g8 g7;simp only [List.drop_zero] at j3;have u4:=j3.fresh [.cells [.d (u64 c.policies.l.length)]];obtain ⟨b7,l7,k1,k2,k3,k4⟩:=xN (E:=E) (j3.lay [.cells [.d (u64 c.policies.l.length)]]) (xs:=[(c.policies.l.length:Int)]) (by simp) (by simp) u4.1 (cap:=some 1) u4.2 (by simp) (by simp only [aq,ck]; omega) l6;obtain ⟨g11,g12⟩:=((Fx.lay j3.len _).trans k4).2 _ _ (by simp) g10 g9;obtain ⟨b8,l8,n1,n2,n3,n4⟩:=Hu h385 c hok.2.2.2.1.lt (λp hp=>⟨hc.2.2.2.2.2.2.2.2 p hp,hpm p hp⟩) c.policies.l.length 0 b7 l7 _ (by omega) k3 (by simp only [aq,List.drop_zero,ck]; omega);simp only [List.drop_zero] at n3
 have hfin:([]++[c.epoch,c.next,wrap .u64 c.hosts,wrap .u64 c.ways,(c.pods.l.length:Int)].flatMap cZ++c.pods.l.flatMap uS++[(c.services.l.length:Int)].flatMap cZ++c.services.l.flatMap uT++[(c.bound.l.length:Int)].flatMap cZ++c.bound.l.flatMap Al++[(c.policies.l.length:Int)].flatMap cZ++c.policies.l.flatMap si)=fe c:=by simp only [fe,List.nil_append,List.append_assoc]
 rw [hfin] at n3;have hne:fe c≠[]:=by
  simp [fe,CP]
 generalize fe c=L at *;obtain ⟨l9,r1⟩:=Xo (E:=E) n3 hlen0 hne l8;have how:qh ⟨b8++[.cells (L.map (iv .u8))],l9⟩ (.row b8.length 0 L.length none 1)=true:=by
  have hg:Hp.get ⟨b8++[.cells (L.map (iv .u8))],l9⟩ b8.length=some (L.map (iv .u8)):=by simp [get_eq]
  simp only [qh,xc,rZ,hg,List.all_map,cm];intro x _;rfl
 have hfz:=uH (h:=⟨b8++[.cells (L.map (iv .u8))],l9⟩) (k:=7) (b:=b8.length) (l:=L) (cap:=none) (by simp);simp at a1 m1 c1 d1 e1 i1 j1 k1 n1 r1 f1 g1 g3 g5 g7 g9;simp [aa,q94,m1,az,w1,a1,f1];rw [aj];simp [c1,g1,w2,az,d1,g3];rw [aj];simp [e1,g5,w3,az,i1,g7];rw [aj];simp [j1,g9,w4,az,k1,g11];rw [aj];simp [n1,r1,hfz,frz,iV,how]
theorem S94 (c:Cfg)(hc:c.wf big)(hpm:∀ p∈c.policies.l,bY p=true)(hlen:(fe c).length<=big)(h:Hp):Sm E TT ah 23 [c.v] h=some (.d (bytesD (fe c)),h):=bn4 h385 c hc hpm hlen h (by simp [Cfg.v])
def bK (c:Cfg):Bool:=fu c&&rU c&&decide (((fe c).length:Int)<=8192)
theorem S41 (c:Cfg)(hc:c.wf 1048576)(hcb:c.wf big)(h:Hp):Sm E TT ah 6 [c.v] h=some (bl (bK c),h):=by
 have n1:=λh=>S92 (E:=E) c h;have n2:=λh=>S93 h385 c hc hcb h;rw [aN t41 v41];cases h1:fu c with
 | false =>
  simp only [h1] at n1;simp +decide [aa,q41,n1,ai,bK,h1]
 | true =>
  simp only [h1] at n1;cases h2:rU c with
  | false =>
   simp only [h2] at n2;simp +decide [aa,q41,n1,n2,ai,bK,h1,h2]
  | true =>
   simp only [h2] at n2;have hle:=yg h1 h2;have hp:eP c=true:=by
    simp only [rU,aw] at h2;exact h2.2
   have n3:=λh=>S94 h385 c hcb (ib hp) (ch hle (by decide)) h;have hl:mo false (.d (bytesD (fe c))) ⟨[.cells (c.c.map .d)],0⟩=some (.d (i64 (fe c).length),⟨[.cells (c.c.map .d)],0⟩):=by
    simp [bytesD]
   generalize hL:bytesD (fe c)=L at *;simp +decide [aa,q41,n1,n2,n3,hl,ai,bK,h1,h2]
end
end
section
theorem jI:∀ {l:List Int},aU l=true->l.Pairwise (·<·)
 | [],_=>.nil
 | [x],_=>by simp
 | x::y::l,h=>by
  simp only [aU,aw,bw] at h;have ih:=jI h.2;refine List.pairwise_cons.2 ⟨λz hz=>?_,ih⟩;obtain rfl | hz:=List.mem_cons.1 hz
  . exact h.1
  . exact Int.lt_trans h.1 ((List.pairwise_cons.1 ih).1 z hz)
theorem jJ {l:List Int}(h:aU l=true):l.Nodup:=(jI h).imp λh=>by omega
theorem yu:∀ {l pre:List Int},dup pre l=false->l.Nodup/\∀ x∈l,x ∉ pre
 | [],_,_=>⟨.nil,by simp⟩
 | x::l,pre,h=>by
  simp only [dup,Bool.or_eq_false_iff,List.any_eq_false,beq_iff_eq] at h;obtain ⟨h1,h2⟩:=h;obtain ⟨h3,h4⟩:=yu h2;have hx:x ∉ pre:=λhh=>h1 x hh rfl;refine ⟨List.nodup_cons.2 ⟨λhh=>?_,h3⟩,λy hy=>?_⟩
  . exact h4 x hh (by simp)
  . obtain rfl | hy:=List.mem_cons.1 hy
    . exact hx
    . exact λhh=>h4 y hy (by simp [hh])
theorem wI {α:Type}{f:α->Int}:∀ {l:List α},(l.map f).Nodup->∀ {x:α},x∈l->l.find? (λy=>f y==f x)=some x
 | [],_,x,h=>by simp at h
 | y::l,hn,x,h=>by
  simp only [cq,List.nodup_cons] at hn;obtain rfl | h:=List.mem_cons.1 h
  . simp
  . have:f y≠f x:=λhh=>hn.1 (hh ▸ List.mem_map_of_mem h);rw [List.find?_cons];have hb:(f y==f x)=false:=by simpa using this
    simp only [hb];exact wI hn.2 h
end
section
section
variable {E:Calls'}{T:FuncId->Option QF}{val:FuncId->Bool}
theorem GI {ev:X->V}{zero xs:List V}{z:Nat}{x:X}(h0:zero.length=z)(hx:xs.length=z)(he:ev x=.agg xs):az ev zero [(0,z,x)]=some xs:=by
 simp [az,he,V.cells,hx,put,h0]
theorem MS {α:Type}{cells:α->List D}{z b cl clos del idx idf wo wi g srt p:Nat}{zero:List V}{key:α->Int}(tcl:T cl=some (cloneQ z b zero))(vcl:val cl=false)(tdel:T del=some (delQ z idx zero))(vdel:val del=false)(tidx:T idx=some (idxQ z))(vidx:val idx=false)
 (tc:T clos=some (woCQ z)) (vc:val clos=false) (two:T wo=some (woQ cl clos del)) (vwo:val wo=false) (twi:T wi=some (wiQ z b wo g srt zero)) (vwi:val wi=true) (tsrt:T srt=none) (hE:∀ args h,E srt args h=gp ⟨z,p,g,idf⟩ args h)
 (hz:∀ x,(cells x).length=z) (hz0:0<z) (hzero:zero.length=z) (hb:b<=4096) (hkey:∀ x,(cells x)[p]?=some (.int .u64 (key x))) {s:Sl α} (hs:short s) (hl:s.l.length<big) (hnd:(s.l.map key).Nodup) {x:α}
 (hid:∀ e,e∈s.l\/e=x->∀ h,Sm E T val idf [ag (cells e)] h=some (.d (u64 (key e)),h)) (h:Hp) :
 Sm E T val wi [.d (s.d cells),ag (cells x),.fn idf []] h=some (.d (.slice false ((kU key x s.l).map cells)),h):=by
 rw [aN twi vwi];have hfr:frz h (.fn idf [])=some (.fn idf []):=rfl;have hix:=hid x (.inr rfl);obtain ⟨r,bs1,lo1,w,k1,k2,k3,k4⟩:=Jh (E:=E) (T:=T) (val:=val) tcl vcl tdel vdel tidx vidx tc vc two vwo hz hz0 hzero hb hs (λe he=>hid e (.inl he)) (key x) ⟨[.cells ((cells x).map .d),.cells [.fn idf []]],2⟩;simp only [cj,ck] at k2 k3;have hfl:(s.l.filter λe=>!(key e==key x)).length<=s.l.length:=List.length_filter_le _ _;have hndK:((s.l.filter λe=>!(key e==key x)).map key).Nodup:=List.Pairwise.sublist (List.Sublist.map key List.filter_sublist) hnd;have hxK:∀ e∈s.l.filter (λe=>!(key e==key x)),key e≠key x:=λe he=>by simpa using (List.mem_filter.1 he).2
 have hput:kU key x s.l=((s.l.filter λe=>!(key e==key x))++[x]).mergeSort λa b=>decide (key a<=key b):=rfl;generalize s.l.filter (λe=>!(key e==key x))=K at *;generalize kU key x s.l=PL at *;have hw:∀ e∈K.map cells,e.length=z:=by simp; intro a _; exact hz a
 have hwp:∀ e∈PL.map cells,e.length=z:=by simp; intro a _; exact hz a
 have hndL:((K++[x]).map key).Nodup:=by
  rw [List.map_append,List.nodup_append];refine ⟨hndK,by simp,?_⟩;intro a ha b hb hab;obtain ⟨e,he,rfl⟩:=cd.1 ha;simp at hb;exact hxK e he (hab.trans hb)
 have hsrc:au (bs1++[.cells ((cells x).map .d)]) bs1.length=some ((cells x).map .d):=by rw [dh]; rfl
 obtain ⟨B,cap,bs2,rest2,f,a1,a2,a3,a4⟩:=Jo (bs:=bs1++[.cells ((cells x).map .d)]) (by_:=b) (K:=K.map cells) (v:=r) (x:=cells x) hw (hz x) hz0 hb (by simp; omega) hsrc (c:=some 1) (m:=2) (by
  obtain ⟨q1,q2,q3⟩ | ⟨B,q1,q2,q3,q4⟩ | ⟨B,rest,q,q1,q2,q3,q4,q5⟩:=k4
  . exact .inl ⟨by rw [q2]; rfl,q3⟩
  . exact .inr (.inl ⟨B,by rw [q1]; rfl,by simpa using q2,q3,ak q4⟩)
  . exact .inr (.inr ⟨B,rest,q,by simpa using q1,by simpa using q2,ak q3,q4,by simpa using q5⟩)) (by simp; omega)
 have hc:au bs2 1=some [.fn idf []]:=by
  simp only [au];rw [a4 1 (by decide),am (by omega),k3 1 (by decide)]; rfl
 have hs':=λlo2=>yM (g:=g) (idf:=idf) hz hkey (L:=K++[x]) hndL (by simp) (by simp; simp only [big] at hl; omega) (h:=⟨bs2,lo2⟩) (b:=B) (c:=1) (cap:=cap) (rest:=rest2) (by simpa using a3) hc (by omega);rw [← hput] at hs';have hsm:∀ lo2,Sm E T val srt [.row B 0 (K.length+1) cap z,.fn g [.ptr 1 0]] ⟨bs2,lo2⟩=some (.tup [],⟨bs2.set B (.cells (flat (PL.map cells)++rest2)),min lo2 B⟩):=by
  intro lo2;rw [aG tsrt,hE];simpa using hs' lo2
 have hbl:=aK a3;have hpl:PL.length=K.length+1:=by rw [hput]; simp
 have hdv:=λlo2=>bB (h:=⟨bs2.set B (.cells (flat (PL.map cells)++rest2)),lo2⟩) (k:=7) (b:=B) (n:=K.length+1) (cap:=cap) (z:=z) (es:=PL.map cells) (rest:=rest2) hwp (by simp [hpl]) (by simp [au,hbl]);have hf1:∀ {ev:X->V} {t:X},ev t=ag (cells x)->az ev zero [(0,z,t)]=some ((cells x).map .d):=λhe=>GI hzero (by simp [hz x]) he;have hne:PL.map cells≠[]:=λhh=>by have:=congrArg List.length hh; simp [hpl] at this
 have hsub:=sM (hz x);have hb10:au bs1 0=some ((cells x).map .d):=by simp only [au]; rw [k3 0 (by decide)]; rfl
 simp only [cb] at a1;have hty:V.under 2 (.tup [])=true:=rfl;have hbs:bs1.length=2->bs1=[.cells ((cells x).map .d),.cells [.fn idf []]]:=λhh=>by
  refine List.ext_getElem? λi=>?_;obtain hi | hi:=co i 2
  . exact k3 i hi
  . rw [bd (by omega),bd (by simpa using hi)]
 have hnu:nu r=some r:=by
  obtain ⟨q1,q2,q3⟩ | ⟨B,q1,q2,q3,q4⟩ | ⟨B,rest,q,q1,q2,q3,q4,q5⟩:=k4<;>rw [‹r=_›]<;>rfl
 have hap:∀ (pr:List (List Nat)) (N:Nat) (bl:Bl) (bg:Bool),pr=[[],[],[],[1,2],[],[0,4,3,1,2],[5,0,4,3,1,2],[6,5,0,4,3,1,2],[6,5,0,4,3,1,2],[7,6,5,0,4,3,1,2],[8,9,7,6,5,0,4,3,1,2]] →
  dE pr [⟨false,false,[],[],2,2,0⟩,⟨false,false,[1],[],2,2,0⟩,⟨false,false,[0],[],2,2,0⟩,⟨true,false,[],[],2,2,0⟩,⟨false,false,[1],[],2,2,0⟩,⟨true,bg,[],[],2,N,bl⟩,
   ⟨false,false,[],[],N,N,0⟩,⟨false,false,[],[],N,N,0⟩,⟨false,false,[],[],N,N,0⟩,⟨false,false,[],[],N,N,0⟩,⟨false,false,[],[],N,N,0⟩]=true:=by
  rintro pr N bl bg rfl;exact qz 5 (by rfl) (by simp [Tr.mute])
 have hpf:dK (.fn idf [])=true:=rfl;by_cases c1:2<=lo1
 . by_cases c2:bs1.length=2
   . have:=hbs c2;subst this;simp only [cj,ck,List.cons_append,List.nil_append] at a1;simp +decide [wiQ,aa,aA,ae,hfr,hix,k1,c1,hsub,hb10,hf1,a1,hsm,hdv,hnu,hpf]
   . simp +decide [wiQ,aa,aA,ae,hfr,hix,k1,c1,c2,hsub,hb10,hf1,a1,hsm,hdv,hnu,hap,hpf]
 . simp +decide [wiQ,aa,aA,ae,hfr,hix,k1,c1,hsub,hb10,hf1,a1,hsm,hdv,hnu,hap,hpf]
end
end
section
def VB:List V:=[(.d (.int .u64 0)),(.d (.str ⟨#[]⟩)),(.d (.int .u32 0)),(.d (.int .i64 0)),(.d (.int .u64 0))]
def VU:List V:=[(.d (.int .u64 0)),(.d (.int .i64 0))]
def KW:List V:=[(.d (.int .u64 0)),(.d (.str ⟨#[]⟩)),(.d (.int .u64 0)),(.d (.int .i64 0)),(.d (.slice true []))]
def F8:SF:=⟨7,0,224,57⟩
def Ga:SF:=⟨5,0,148,60⟩
def Gb:SF:=⟨2,0,155,67⟩
def F9:SF:=⟨5,0,160,72⟩
def EW:Calls':=λf args h=>match Nat.beq f 173,Nat.beq f 147,Nat.beq f 154,Nat.beq f 159 with
 | true,_,_,_=>gp F8 args h
 | _,true,_,_=>gp Ga args h
 | _,_,true,_=>gp Gb args h
 | _,_,_,true=>gp F9 args h
 | _,_,_,_=>none
def dg1:List (Nat×QF):=[(142,Y5),(59,YU),(66,YW),(71,cm5),(56,Og),(65,Oh),(70,Oi),(73,Uf),(144,Un),(153,Uo),(158,Uq),(162,Ur),(50,BX),(51,BZ),(52,Ca),(53,Cb),(143,HZ),(152,Ia),(157,Ib),(161,Ic),(145,HV),(205,HY),(194,H5),(227,Ih),(57,DU),(60,DV),(67,DW),(72,H8)]
def TW:FuncId->Option QF:=iW dg1
def sO (f:FuncId):Bool:=[142,59,66,71].any λn=>Nat.beq n f
section
variable {E:Calls'}
theorem bp3 (p:Pod)(h:Hp):Sm E TW sO 57 [ag p.c] h=some (.d (u64 p.uid),h):=by rw [av (q:=DU) (by kernel_rfl) (by kernel_rfl)]; simp [aa,DU,V.under]
theorem bp5 (p:Svc)(h:Hp):Sm E TW sO 60 [ag p.c] h=some (.d (u64 p.id),h):=by rw [av (q:=DV) (by kernel_rfl) (by kernel_rfl)]; simp [aa,DV,V.under]
theorem bp7 (p:Way)(h:Hp):Sm E TW sO 67 [ag p.c] h=some (.d (u64 p.id),h):=by rw [av (q:=DW) (by kernel_rfl) (by kernel_rfl)]; simp [aa,DW,V.under]
theorem bp9 (p:Pol)(h:Hp):Sm E TW sO 72 [ag p.c] h=some (.d (u64 p.id),h):=by rw [av (q:=H8) (by kernel_rfl) (by kernel_rfl)]; simp [aa,H8,V.under]
end
theorem bq0 (s:Sl Pod)(hs:short s)(hl:s.l.length<big)(hnd:(s.l.map Pod.uid).Nodup)(x:Pod)(h:Hp):Sm EW TW sO 142 [.d (s.d Pod.c),ag x.c,.fn 57 []] h=some (.d (.slice false ((kU Pod.uid x s.l).map Pod.c)),h) :=
 MS (E:=EW) (T:=TW) (val:=sO) (cells:=Pod.c) (key:=Pod.uid) (z:=7) (b:=72) (cl:=50) (clos:=144) (del:=143) (idx:=145) (idf:=57) (wo:=56) (wi:=142) (g:=224) (srt:=173) (p:=0) (zero:=og)
  (by kernel_rfl) (by kernel_rfl) (by kernel_rfl) (by kernel_rfl) (by kernel_rfl) (by kernel_rfl) (by kernel_rfl) (by kernel_rfl) (by kernel_rfl) (by kernel_rfl) (by kernel_rfl) (by kernel_rfl) (by kernel_rfl) (λ_ _=>rfl) (λ_=>rfl) (by decide) rfl (by decide) (λ_=>rfl) hs hl hnd (λe _ h=>bp3 e h) h
theorem bp4 (s:Sl Svc)(hs:short s)(hl:s.l.length<big)(hnd:(s.l.map Svc.id).Nodup)(x:Svc)(h:Hp):Sm EW TW sO 59 [.d (s.d Svc.c),ag x.c,.fn 60 []] h=some (.d (.slice false ((kU Svc.id x s.l).map Svc.c)),h) :=
 MS (E:=EW) (T:=TW) (val:=sO) (cells:=Svc.c) (key:=Svc.id) (z:=5) (b:=48) (cl:=51) (clos:=153) (del:=152) (idx:=205) (idf:=60) (wo:=65) (wi:=59) (g:=148) (srt:=147) (p:=0) (zero:=VB)
  (by kernel_rfl) (by kernel_rfl) (by kernel_rfl) (by kernel_rfl) (by kernel_rfl) (by kernel_rfl) (by kernel_rfl) (by kernel_rfl) (by kernel_rfl) (by kernel_rfl) (by kernel_rfl) (by kernel_rfl) (by kernel_rfl) (λ_ _=>rfl) (λ_=>rfl) (by decide) rfl (by decide) (λ_=>rfl) hs hl hnd (λe _ h=>bp5 e h) h
theorem bp6 (s:Sl Way)(hs:short s)(hl:s.l.length<big)(hnd:(s.l.map Way.id).Nodup)(x:Way)(h:Hp):Sm EW TW sO 66 [.d (s.d Way.c),ag x.c,.fn 67 []] h=some (.d (.slice false ((kU Way.id x s.l).map Way.c)),h) :=
 MS (E:=EW) (T:=TW) (val:=sO) (cells:=Way.c) (key:=Way.id) (z:=2) (b:=16) (cl:=52) (clos:=158) (del:=157) (idx:=194) (idf:=67) (wo:=70) (wi:=66) (g:=155) (srt:=154) (p:=0) (zero:=VU)
  (by kernel_rfl) (by kernel_rfl) (by kernel_rfl) (by kernel_rfl) (by kernel_rfl) (by kernel_rfl) (by kernel_rfl) (by kernel_rfl) (by kernel_rfl) (by kernel_rfl) (by kernel_rfl) (by kernel_rfl) (by kernel_rfl) (λ_ _=>rfl) (λ_=>rfl) (by decide) rfl (by decide) (λ_=>rfl) hs hl hnd (λe _ h=>bp7 e h) h
theorem bp8 (s:Sl Pol)(hs:short s)(hl:s.l.length<big)(hnd:(s.l.map Pol.id).Nodup)(x:Pol)(h:Hp):Sm EW TW sO 71 [.d (s.d Pol.c),ag x.c,.fn 72 []] h=some (.d (.slice false ((kU Pol.id x s.l).map Pol.c)),h) :=
 MS (E:=EW) (T:=TW) (val:=sO) (cells:=Pol.c) (key:=Pol.id) (z:=5) (b:=64) (cl:=53) (clos:=162) (del:=161) (idx:=227) (idf:=72) (wo:=73) (wi:=71) (g:=160) (srt:=159) (p:=0) (zero:=KW)
  (by kernel_rfl) (by kernel_rfl) (by kernel_rfl) (by kernel_rfl) (by kernel_rfl) (by kernel_rfl) (by kernel_rfl) (by kernel_rfl) (by kernel_rfl) (by kernel_rfl) (by kernel_rfl) (by kernel_rfl) (by kernel_rfl) (λ_ _=>rfl) (λ_=>rfl) (by decide) rfl (by decide) (λ_=>rfl) hs hl hnd (λe _ h=>bp9 e h) h
end
