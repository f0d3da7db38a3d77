/- code.Reader: a number, a text, a byte, four bytes from the front of bytes. -/
import Derived.Test.YtadlkhfomhgllaaGreatWo
import Derived.Test.YtadlkhfomhgllaaGreatRD
import Derived.KernelRfl
set_option maxRecDepth 100000
set_option linter.unusedVariables false
set_option linter.unusedSimpArgs false
namespace Go.Proofs.YtadlkhfomhgllaaGreat
open IntKind (wrap)
section
def YK:List (Nat×QF):=[(13,r94),(7,r89),(39,Nw),(40,SI),(41,GQ),(42,XA),(43,Nz),(44,SL),(45,XB),(46,NB),(47,XC),(48,ND),(49,XD),(50,GR),(51,Dy),(52,SN),(53,JZ),(97,az5),(98,DD),(99,az6),(100,GU),(101,GV),(102,XE),(103,GX),(105,SQ),(106,SV),(164,XF),(165,G8),(166,XG),(167,G9),(168,XH),(169,Ha),(212,Hd),(213,XI),(214,He),(215,XJ),(216,Hf),(248,XK),(249,Hg),(250,SX),(251,SY),(296,az7),(297,NS),(298,az8),(299,NT),]
def TRd:FuncId->Option QF:=lu YK
def aD (f:FuncId):Bool:=[7,13,51,98,297,299].any λn=>Nat.beq n f
theorem O0:TRd 39=some (Nw):=by kernel_rfl
theorem Pt:aD 39=false:=by kernel_rfl
theorem XP:TRd 40=some (SI):=by kernel_rfl
theorem Ye:aD 40=false:=by kernel_rfl
theorem E5:TRd 41=some (GQ):=by kernel_rfl
theorem E9:aD 41=false:=by kernel_rfl
theorem XQ:TRd 42=some (XA):=by kernel_rfl
theorem Yf:aD 42=false:=by kernel_rfl
theorem O1:TRd 43=some (Nz):=by kernel_rfl
theorem Pv:aD 43=false:=by kernel_rfl
theorem XR:TRd 44=some (SL):=by kernel_rfl
theorem Yg:aD 44=false:=by kernel_rfl
theorem XT:TRd 45=some (XB):=by kernel_rfl
theorem Yh:aD 45=false:=by kernel_rfl
theorem O3:TRd 46=some (NB):=by kernel_rfl
theorem Pw:aD 46=false:=by kernel_rfl
theorem XU:TRd 47=some (XC):=by kernel_rfl
theorem Yi:aD 47=false:=by kernel_rfl
theorem O4:TRd 48=some (ND):=by kernel_rfl
theorem Px:aD 48=false:=by kernel_rfl
theorem XV:TRd 49=some (XD):=by kernel_rfl
theorem Yj:aD 49=false:=by kernel_rfl
theorem O5:TRd 50=some (GR):=by kernel_rfl
theorem Py:aD 50=false:=by kernel_rfl
theorem XW:TRd 51=some (Dy):=by kernel_rfl
theorem Yk:aD 51=true:=by kernel_rfl
theorem XX:TRd 52=some (SN):=by kernel_rfl
theorem Yl:aD 52=false:=by kernel_rfl
theorem O6:TRd 53=some (JZ):=by kernel_rfl
theorem Pz:aD 53=false:=by kernel_rfl
theorem XZ:TRd 97=some (takeQ (.int .u64 0)):=by kernel_rfl
theorem Ym:aD 97=false:=by kernel_rfl
theorem O7:TRd 98=some (DD):=by kernel_rfl
theorem PD:aD 98=true:=by kernel_rfl
theorem X3:TRd 99=some (takeQ (.str ⟨#[]⟩)):=by kernel_rfl
theorem Yn:aD 99=false:=by kernel_rfl
theorem Ki:TRd 100=some (GU):=by kernel_rfl
theorem Km:aD 100=false:=by kernel_rfl
theorem E8:TRd 101=some (GV):=by kernel_rfl
theorem Fa:aD 101=false:=by kernel_rfl
theorem X4:TRd 102=some (XE):=by kernel_rfl
theorem Yo:aD 102=false:=by kernel_rfl
theorem O8:TRd 103=some (GX):=by kernel_rfl
theorem PE:aD 103=false:=by kernel_rfl
theorem X5:TRd 105=some (SQ):=by kernel_rfl
theorem Yp:aD 105=false:=by kernel_rfl
theorem X6:TRd 106=some (SV):=by kernel_rfl
theorem Yq:aD 106=false:=by kernel_rfl
theorem O9:TRd 164=some (XF):=by kernel_rfl
theorem PG:aD 164=false:=by kernel_rfl
theorem Pb:TRd 165=some (G8):=by kernel_rfl
theorem PH:aD 165=false:=by kernel_rfl
theorem Pd:TRd 166=some (XG):=by kernel_rfl
theorem PI:aD 166=false:=by kernel_rfl
theorem Pe:TRd 167=some (G9):=by kernel_rfl
theorem PK:aD 167=false:=by kernel_rfl
theorem Pf:TRd 168=some (XH):=by kernel_rfl
theorem PL:aD 168=false:=by kernel_rfl
theorem Pg:TRd 169=some (Ha):=by kernel_rfl
theorem PM:aD 169=false:=by kernel_rfl
theorem Ph:TRd 212=some (Hd):=by kernel_rfl
theorem PN:aD 212=false:=by kernel_rfl
theorem Pi:TRd 213=some (XI):=by kernel_rfl
theorem PO:aD 213=false:=by kernel_rfl
theorem Pj:TRd 214=some (He):=by kernel_rfl
theorem PP:aD 214=false:=by kernel_rfl
theorem Pk:TRd 215=some (XJ):=by kernel_rfl
theorem PQ:aD 215=false:=by kernel_rfl
theorem Pm:TRd 216=some (Hf):=by kernel_rfl
theorem PR:aD 216=false:=by kernel_rfl
theorem Pn:TRd 248=some (XK):=by kernel_rfl
theorem PS:aD 248=false:=by kernel_rfl
theorem Po:TRd 249=some (Hg):=by kernel_rfl
theorem PT:aD 249=false:=by kernel_rfl
theorem X8:TRd 250=some (SX):=by kernel_rfl
theorem Yr:aD 250=false:=by kernel_rfl
theorem X9:TRd 251=some (SY):=by kernel_rfl
theorem Yt:aD 251=false:=by kernel_rfl
theorem Ya:TRd 296=some (takeQ (.int .u32 0)):=by kernel_rfl
theorem Yu:aD 296=false:=by kernel_rfl
theorem Pp:TRd 297=some (NS):=by kernel_rfl
theorem PU:aD 297=true:=by kernel_rfl
theorem Yb:TRd 298=some (takeQ (.int .u8 0)):=by kernel_rfl
theorem Yv:aD 298=false:=by kernel_rfl
theorem Pq:TRd 299=some (NT):=by kernel_rfl
theorem PV:aD 299=true:=by kernel_rfl
theorem X7:TRd 163=none:=by kernel_rfl
theorem XY:TRd 104=none:=by kernel_rfl
theorem Yc:TRd 9=none:=by kernel_rfl
theorem XO:TRd 25=none:=by kernel_rfl
theorem ba1:TRd 13=some (r94):=by kernel_rfl
theorem ba3:aD 13=true:=by kernel_rfl
theorem ba0:TRd 7=some (r89):=by kernel_rfl
theorem ba2:aD 7=true:=by kernel_rfl
def u8C (n:Int):List D:=[.int .u8 n]
def BRow (bs:List Blk)(p:Nat)(v:V)(l:List Int):Prop :=
 (l=[]/\∃ nl,v=.d (.slice nl []))\/(l≠[]/\∃ B o cs,v=.row B o l.length none 1/\B<p/\aa bs B=some cs/\sub cs o l.length=some (l.map (iv .u8)))
theorem BRow.nu {bs:List Blk}{p:Nat}{v:V}{l:List Int}(h:BRow bs p v l):Go.Proofs.YtadlkhfomhgllaaGreat.nu v=some v/\okV v=true/\v.cells=some [v]:=by
 obtain ⟨_,nl,rfl⟩ | ⟨_,B,o,cs,rfl,_⟩:=h<;>exact ⟨rfl,rfl,rfl⟩
theorem BRow.len {bs:List Blk}{p:Nat}{v:V}{l:List Int}(h:BRow bs p v l)(hp:Hp):pW false v hp=some (.d (i64 l.length),hp):=by
 obtain ⟨rfl,nl,rfl⟩ | ⟨_,B,o,cs,rfl,_⟩:=h<;>rfl
theorem BRow.on {bs bs':List Blk}{p:Nat}{v:V}{l:List Int}(h:BRow bs p v l)(ho:∀ x,x≠p->x<bs.length->bs'[x]?=bs[x]?):BRow bs' p v l:=by
 obtain h | ⟨h1,B,o,cs,h2,h3,h4,h5⟩:=h
 . exact .inl h
 . exact .inr ⟨h1,B,o,cs,h2,h3,by rw [← h4]; unfold aa; rw [ho B (Nat.ne_of_lt h3) (aN h4)],h5⟩
theorem BRow.drop {bs:List Blk}{p:Nat}{v:V}{l:List Int}(h:BRow bs p v l){n:Nat}(hn:0<n)(hnl:n<=l.length):∃ v',BRow bs p v' (l.drop n)/\∀ (hp:Hp) (ev:X->V) (x:X),ev x=.d (.int .i64 n)->bM hp ev .sl 1 v (some x) none none=some v':=by
 obtain ⟨rfl,_⟩ | ⟨h1,B,o,cs,rfl,h3,h4,h5⟩:=h
 . simp at hnl; omega
 . by_cases hlt:n<l.length
   . refine ⟨.row B (o+n) (l.length-n) none 1,.inr ⟨?_,B,o+n,cs,by rw [List.length_drop],h3,h4,?_⟩,λhp ev x hx=>?_⟩
     . intro h0;have:=congrArg List.length h0;simp at this; omega
     . simp only [sub] at h5 ⊢;split at h5
       . rename_i hle;simp only [ba] at h5;rw [List.length_drop,if_pos (by omega)]
         congr 1
         rw [List.map_drop,← h5,List.drop_take,bb]
       . cases h5
     . have hn0:¬ n=0:=by omega
       simp [bM,bD,hx,hnl,hlt,hn0]
   . have he:n=l.length:=by omega
     refine ⟨.d (.slice false []),.inl ⟨aw (by omega),false,rfl⟩,λhp ev x hx=>?_⟩;have hn0:¬ n=0:=by omega
     simp [bM,bD,hx,hnl,hlt,hn0]
def RdS (p:Nat)(bs:List Blk)(st:Option (List Int)):Prop:=∃ v l,aa bs p=some [v,bl st.isNone]/\BRow bs p v l/\byteL l/\l.length<=big/\∀ b,st=some b->b=l
def Old (p:Nat)(bs bs':List Blk):Prop:=bs.length<=bs'.length/\∀ y,y≠p->y<bs.length->bs'[y]?=bs[y]?
theorem Old.refl (p:Nat)(bs:List Blk):Old p bs bs:=⟨bo _,λ_ _ _=>rfl⟩
theorem Old.trans {p:Nat}{a b c:List Blk}(h:Old p a b)(k:Old p b c):Old p a c:=⟨ch h.1 k.1,λy h1 h2=>(k.2 y h1 (cf h2 h.1)).trans (h.2 y h1 h2)⟩
theorem Old.lay {p:Nat}(bs ys:List Blk):Old p bs (bs++ys):=⟨by simp,λy _ h=>am h⟩
theorem Old.set {p:Nat}(bs:List Blk)(b:Blk):Old p bs (bs.set p b):=⟨by simp,λy h _=>by rw [ac (Ne.symm h)]⟩
theorem RdS.lt {p:Nat}{bs:List Blk}{st:Option (List Int)}(h:RdS p bs st):p<bs.length:=by
 obtain ⟨v,l,h1,_⟩:=h; exact aN h1
theorem RdS.lay {p:Nat}{bs:List Blk}{st:Option (List Int)}(h:RdS p bs st)(ys:List Blk):RdS p (bs++ys) st:=by
 obtain ⟨v,l,h1,h2,h3⟩:=h;exact ⟨v,l,ay h1,h2.on λx _ hx=>am hx,h3⟩
theorem RdS.off {p:Nat}{bs bs':List Blk}{st:Option (List Int)}(h:RdS p bs st)(ho:∀ y,y<bs.length->bs'[y]?=bs[y]?):RdS p bs' st:=by
 obtain ⟨v,l,h1,h2,h3⟩:=h;refine ⟨v,l,?_,h2.on λx _ hx=>ho x hx,h3⟩;rw [← h1]; unfold aa; rw [ho p (aN h1)]
def Reads {α:Type}(E:Calls')(f:FuncId)(args:List V)(p:Nat)(bs:List Blk)(st:Option (List Int))(P:Pr α)(enc:α->D)(zero:α):Prop :=
 ∃ x st' bs',∃ F:Nat->Nat,(∀ lo,Sm E TRd aD f args ⟨bs,lo⟩=some (.d (enc x),⟨bs',F lo⟩))/\Step P st x st'/\(st'=none->x=zero)/\RdS p bs' st'/\Old p bs bs'/\(∀ lo:Nat,F lo<=lo)/\(st=none->bs'=bs/\∀ lo,F lo=lo)/\(st≠none->∀ lo,F lo<=p)
def Finds {α:Type}(E:Calls')(f:FuncId)(caps:List V)(p:Nat)(bs:List Blk)(P:Pr α)(enc:α->D):Prop :=
 ∀ v l,BRow bs p v l->byteL l->l.length<=big->(∃ y n,P l=some (y,l.drop n)/\0<n/\n<=l.length/\∀ lo,Sm E TRd aD f (v::caps) ⟨bs,lo⟩=some (.tup [.d (enc y),.d (i64 n)],⟨bs,lo⟩)) ∨
  (P l=none/\∃ d,∀ lo,Sm E TRd aD f (v::caps) ⟨bs,lo⟩=some (.tup [.d d,.d (i64 (-1))],⟨bs,lo⟩))
section
variable {E:Calls'}
theorem nA {α:Type}{id:FuncId}{P:Pr α}{enc:α->D}{zero:α}(ht:TRd id=some (takeQ (enc zero)))(hv:aD id=false){p:Nat}{bs:List Blk}{st:Option (List Int)}{f:FuncId}{caps:List V}(hR:RdS p bs st)(hf:Finds E f caps p bs P enc) :
 Reads E id [.ptr p 0,.fn f caps] p bs st P enc zero:=by
 have hp:=hR.lt;obtain ⟨v,l,h1,h2,h3,h4,h5⟩:=hR;obtain ⟨n1,n2,n3⟩:=h2.nu;have hR0:RdS p bs st:=⟨v,l,h1,h2,h3,h4,h5⟩;cases st with
 | none =>
  simp only [Option.isNone_none] at h1;refine ⟨zero,none,bs,λlo=>lo,λlo=>?_,rfl,λ_=>rfl,hR0,Old.refl _ _,λlo=>bo _,λ_=>⟨rfl,λ_=>rfl⟩,λh=>absurd rfl h⟩;rw [aM ht hv];simp [takeQ,ae,h1,au,V.under]
 | some b =>
  obtain rfl:=h5 b rfl;simp only [Option.isNone_some] at h1;obtain ⟨y,n,k1,k2,k3,k4⟩ | ⟨k1,d,k4⟩:=hf v b h2 h3 h4
  . obtain ⟨v',g1,g2⟩:=h2.drop k2 k3;obtain ⟨m1,m2,m3⟩:=g1.nu;have hneg:¬ ((n:Int)<0):=by omega
    refine ⟨y,some (b.drop n),bs.set p (.cells [v',bl false]),λlo=>min lo p,λlo=>?_,?_,(λh=>by cases h),⟨v',b.drop n,?_,g1.on λx hx hl=>by rw [ac (Ne.symm hx)],λc hc=>h3 c (List.mem_of_mem_drop hc),by rw [List.length_drop]; omega,λb' hb'=>by cases hb'; rfl⟩,Old.set _ _,λlo=>Nat.min_le_left _ _,λh=>(by cases h),λ_ lo=>Nat.min_le_right _ _⟩
    . rw [aM ht hv];simp [takeQ,ae,h1,k4,n2,m3,hneg,au,V.under,g2,storeAt,put,Hp.set];rw [if_neg (by omega),Nat.min_eq_right (Nat.le_of_lt hp)]
    . simp [Step,k1]
    . rw [ak,if_pos rfl,if_pos hp]; rfl
  . refine ⟨zero,none,bs.set p (.cells [v,bl true])++[.cells [.d (enc zero)]],λlo=>min lo p,λlo=>?_,?_,λ_=>rfl,⟨v,b,?_,h2.on λx hx hl=>?_,h3,h4,λb' hb'=>by cases hb'⟩,⟨by simp,λy hy hl=>?_⟩,λlo=>Nat.min_le_left _ _,λh=>(by cases h),λ_ lo=>Nat.min_le_right _ _⟩
    . rw [aM ht hv];have hset:aa (bs.set p (.cells [v,bl true])++[.cells [.d (enc zero)]]) bs.length=some [.d (enc zero)]:=by
       have:=gu (bs:=bs.set p (.cells [v,bl true])) (ys:=[.cells [.d (enc zero)]]);rw [List.length_set] at this;rw [this]; rfl
      simp [takeQ,ae,h1,k4,n2,au,V.under,storeAt,put,Hp.set,hset];rw [if_neg (by omega),Nat.min_eq_right (Nat.le_of_lt hp)]
    . simp [Step,k1]
    . refine ay ?_;rw [ak,if_pos rfl,if_pos hp]; rfl
    . rw [am (by simpa using hl),ac (Ne.symm hx)]
    . rw [am (by simpa using hl),ac (Ne.symm hy)]
theorem Reads.through {α:Type}{f g:FuncId}{av args:List V}{p:Nat}{bs:List Blk}(ys:List Blk){st:Option (List Int)}{P:Pr α}{enc:α->D}{zero:α}(h:Reads E f av p (bs++ys) st P enc zero)
 (hg:∀ x bs' lo',Sm E TRd aD f av ⟨bs++ys,bs.length⟩=some (.d (enc x),⟨bs',lo'⟩)->∀ lo,Sm E TRd aD g args ⟨bs,lo⟩=fC ⟨bs,lo⟩ (some (.d (enc x),⟨bs',lo'⟩))) (hR:RdS p bs st):Reads E g args p bs st P enc zero:=by
 have hp:=hR.lt;obtain ⟨x,st',b2,F,k1,k2,k3,k4,k5,k6,k7,k8⟩:=h;have hh:=hg x b2 _ (k1 bs.length);cases st with
 | none =>
  obtain ⟨e7,q7⟩:=k7 rfl;subst e7;have hn:st'=none:=k2;subst hn;refine ⟨x,none,bs,λlo=>lo,λlo=>?_,k2,k3,hR,Old.refl _ _,λlo=>bo _,λ_=>⟨rfl,λ_=>rfl⟩,λh=>absurd rfl h⟩;rw [hh lo,eu,if_pos ⟨by show bs.length<=F bs.length; rw [q7]; exact bo _,rfl⟩]
 | some b =>
  have k8:=k8 (by simp) bs.length;refine ⟨x,st',b2,λlo=>min lo (F bs.length),λlo=>?_,k2,k3,k4,(Old.lay bs ys).trans k5,λlo=>Nat.min_le_left _ _,λh=>(by cases h),λ_ lo=>ch (Nat.min_le_right _ _) k8⟩;rw [hh lo,eu,if_neg (λhh=>by have:=hh.1; simp only at this; omega)]
end
end
section
theorem Q6 {a y:Int}{i:Nat}(h0:0<=a)(h1:a<128 ^ i)(h2:0<=y)(h3:a+y * 128 ^ i<2 ^ 64):orI .u64 a (y * 128 ^ i)=a+y * 128 ^ i:=by
 obtain ⟨A,rfl⟩:=Int.eq_ofNat_of_zero_le h0;obtain ⟨Y,rfl⟩:=Int.eq_ofNat_of_zero_le h2;have e1:((Y:Int) * 128 ^ i)=((Y * 128 ^ i:Nat):Int):=by push_cast; rfl
 rw [e1] at h3 ⊢;have h1':A<2 ^ (7 * i):=by
  have:(128:Nat) ^ i=2 ^ (7 * i):=by rw [Nat.pow_mul]
  rw [← this]; exact_mod_cast h1
 have e2:A ||| Y * 128 ^ i=A+Y * 128 ^ i:=by
  have h:=Nat.two_pow_add_eq_or_of_lt h1' Y;have h128:(128:Nat) ^ i=2 ^ (7 * i):=by rw [Nat.pow_mul]
  rw [h128,Nat.mul_comm Y,Nat.or_comm,← h,Nat.add_comm]
 have hw:IntKind.u64.bits=64:=rfl;simp only [orI,hw,BitVec.ofInt_natCast,BitVec.toNat_or,BitVec.toNat_ofNat];rw [Nat.mod_eq_of_lt (by omega),Nat.mod_eq_of_lt (by omega),e2,wrap_u64];omega
def Qr (k:IntKind)(a b:Int):Int:=k.wrap ((BitVec.ofInt k.bits a &&& BitVec.ofInt k.bits b).toNat)
theorem Lv {k:IntKind}{a b:Int}:bK .and (.d (.int k a)) (.d (.int k b))=some (.int k (Qr k a b)):=by simp [bK,fB,Qr]
theorem Lp:((List.range 256).all λa=>decide (Qr .u8 (a:Int) 127=(a:Int) % 128))=true:=by decide +kernel
theorem Eu {c:Int}(h:0<=c/\c<256):bK .and (.d (.int .u8 c)) (.d (.int .u8 127))=some (.int .u8 (c % 128)):=by
 have k:=cm.1 Lp c.toNat (List.mem_range.2 (by omega));simp only [br] at k;have e:((c.toNat:Nat):Int)=c:=by omega
 rw [e] at k;rw [Lv,k]
theorem Ew {k:IntKind}{a b:Int}:bK .mul (.d (.int k a)) (.d (.int k b))=some (.int k (k.wrap (a * b))):=by simp [bK,fB]
section
variable {E:Calls'}(h404:∀ x h,E 163 [.d (u64 x)] h=some (.d (i64 (dE x)),h))
include h404
theorem DV {l:List Int}(hb:byteL l)(hl:l.length<=big)(nl:Bool):∀ (m i:Nat) (acc:Int),i+m=l.length->(m=0\/i<=9)->0<=acc->acc<128 ^ i →
 (∃ x n,jW i acc (l.drop i)=some (x,l.drop n)/\0<n/\n<=l.length/\Cd E TRd aD (.loop [4,7,8,9] ib) [(4,.d (u64 acc)),(7,.d (Sl.d u8C ⟨nl,l⟩)),(8,.d (i64 l.length)),(9,.d (i64 i))] ⟨[],0⟩=some (.ret,[(2,.d (u64 x)),(3,.d (i64 n))],⟨[],0⟩)) ∨
 (jW i acc (l.drop i)=none/\(Cd E TRd aD (.loop [4,7,8,9] ib) [(4,.d (u64 acc)),(7,.d (Sl.d u8C ⟨nl,l⟩)),(8,.d (i64 l.length)),(9,.d (i64 i))] ⟨[],0⟩=some (.ret,[(2,.d (u64 0)),(3,.d (i64 (-1)))],⟨[],0⟩) ∨
   Cd E TRd aD (.loop [4,7,8,9] ib) [(4,.d (u64 acc)),(7,.d (Sl.d u8C ⟨nl,l⟩)),(8,.d (i64 l.length)),(9,.d (i64 i))] ⟨[],0⟩=some (.exit 0,[],⟨[],0⟩))):=by
 intro m;have key:=aB (E:=E) (T:=TRd) (val:=aD) [4,7,8,9] ib;generalize Cd E TRd aD (.loop [4,7,8,9] ib)=W at key ⊢;have hlb:l.length<2 ^ 62:=cg hl (by decide)
 induction m with
 | zero =>
  intro i acc hi _ h0 h1;have hd:l.drop i=[]:=aw (by omega);refine .inr ⟨by rw [hd]; rfl,.inr ?_⟩;rw [key];simp [ib,show ¬ ((i:Int)<l.length) from by omega]
 | succ m ih =>
  intro i acc hi h9 h0 h1;have h9':i<=9:=by omega
  have hlt:i<l.length:=by omega
  have hx:=λh=>aA (z:=1) h (ab hlt) (cells:=u8C) (s:=⟨nl,l⟩) rfl;have hc:=hb _ (bd hlt);rw [aq hlt];generalize l[i]=c at *;have hw:=ax hlt hlb;have hand:=Eu hc;have hcv:wrap .u64 (c % 128)=c % 128:=by rw [wrap_u64]; omega
  have hmul:bK .mul (.d (.int .i64 7)) (.d (.int .i64 (i:Int)))=some (.int .i64 (7 * (i:Int))):=by rw [Ew,wrap64]<;>omega
  have hp:(0:Int)<128 ^ i:=Int.pow_pos (by omega);have hli:((i:Int)<(l.length:Int)):=by omega
  have hsub:∀ x:Int,sub (u8C x) 0 1=some (u8C x):=λ_=>rfl;by_cases e9:i=9/\c>1
  . obtain ⟨e0,e1⟩:=e9;refine .inr ⟨by simp only [jW]; rw [if_pos ⟨e0,e1⟩],.inl ?_⟩;have hi9:(i:Int)=9:=by omega
    rw [key];simp [ib,hx,hli,e1,show ((i:Int)==9)=true from by simp [hi9],u8C,au]
  . have hyb:acc+c % 128 * 128 ^ i<2 ^ 64/\c % 128 * 128 ^ i<2 ^ 64/\0<=c % 128 * 128 ^ i:=by
     have hnn:0<=c % 128 * 128 ^ i:=Int.mul_nonneg (by omega) (Int.le_of_lt hp);by_cases hi9:i=9
     . subst hi9;have h128:(128:Int) ^ 9=2 ^ 63:=by decide
       rw [h128] at h1 ⊢;have:c<=1:=by
        by_cases hc1:c<=1
        . exact hc1
        . exact absurd ⟨rfl,by omega⟩ e9
       omega
     . have h8:(128:Int) ^ i<=128 ^ 8:=by
        have:i<=8:=by omega
        exact_mod_cast Nat.pow_le_pow_right (by omega:0<128) this
       have h128:(128:Int) ^ 8=2 ^ 56:=by decide
       have h2:c % 128 * 128 ^ i<=127 * 128 ^ i:=Int.mul_le_mul_of_nonneg_right (by omega) (Int.le_of_lt hp);rw [h128] at h8;omega
    have hshl:bK .shl (.d (.int .u64 (c % 128))) (.d (.int .i64 (7 * (i:Int))))=some (.int .u64 (c % 128 * 128 ^ i)):=by
     rw [mF (by omega)];have e1:(7 * (i:Int)).toNat=7 * i:=by omega
     have e2:min (7 * i) IntKind.u64.bits=7 * i:=Nat.min_eq_left (by show 7 * i<=64; omega);have e3:(2:Int) ^ (7 * i)=128 ^ i:=by rw [Int.pow_mul]; rfl
     rw [e1,e2,e3,wrap_u64]
     congr 2; omega
    have hor:bK .or (.d (.int .u64 acc)) (.d (.int .u64 (c % 128 * 128 ^ i)))=some (.int .u64 (acc+c % 128 * 128 ^ i)):=by rw [zx,Q6 h0 h1 (by omega) hyb.1]
    have n1:∀ x h,Sm E TRd aD 163 [.d (u64 x)] h=some (.d (i64 (dE x)),h):=λx h=>(fA X7).trans (h404 x h);have hpk:(if (i:Int)=9 then decide (c>1) else false)=false:=by
     by_cases hi9:i=9
     . have:¬ c>1:=λhc1=>e9 ⟨hi9,hc1⟩;simp [hi9,this]
     . simp [show ¬ (i:Int)=9 from by omega]
    have hw1:wrap .i64 ((i:Int)+1)=((i+1:Nat):Int):=hw;simp only [jW];rw [if_neg e9];by_cases e2:c<128
    . rw [if_pos e2];by_cases e3:dE (acc+c % 128 * 128 ^ i)=i+1
      . rw [if_pos e3];refine .inl ⟨acc+c % 128 * 128 ^ i,i+1,rfl,by omega,by omega,?_⟩;rw [key];by_cases hi9:(i:Int)=9
        . have hc1:¬ c>1:=λhc1=>e9 ⟨by omega,hc1⟩;simp [ib,hx,hli,hw1,hand,hcv,hmul,hshl,hor,n1,e2,e3,show ((i:Int)==9)=true from by simp [hi9],hc1,u8C,au];try omega
        . simp [ib,hx,hli,hw1,hand,hcv,hmul,hshl,hor,n1,e2,e3,hi9,u8C,au]
      . rw [if_neg e3];refine .inr ⟨rfl,.inl ?_⟩;have e3':¬ dE (acc+c % 128 * 128 ^ i)=((i+1:Nat):Int):=by push_cast; exact e3
        rw [key];by_cases hi9:(i:Int)=9
        . have hc1:¬ c>1:=λhc1=>e9 ⟨by omega,hc1⟩;simp [ib,hx,hli,hw1,hand,hcv,hmul,hshl,hor,n1,e2,e3,show ((i:Int)==9)=true from by simp [hi9],hc1,u8C,au]
        . simp [ib,hx,hli,hw1,hand,hcv,hmul,hshl,hor,n1,e2,e3,hi9,u8C,au]
    . rw [if_neg e2];have hi8:¬ (i:Int)=9:=λhi9=>e9 ⟨by omega,by omega⟩;have hlt2:acc+c % 128 * 128 ^ i<128 ^ (i+1):=by
       have h2:c % 128 * 128 ^ i<=127 * 128 ^ i:=Int.mul_le_mul_of_nonneg_right (by omega) (Int.le_of_lt hp);rw [Int.pow_succ]; omega
      have hr:W [(4,.d (u64 acc)),(7,.d (Sl.d u8C ⟨nl,l⟩)),(8,.d (i64 l.length)),(9,.d (i64 i))] ⟨[],0⟩=W [(4,.d (u64 (acc+c % 128 * 128 ^ i))),(7,.d (Sl.d u8C ⟨nl,l⟩)),(8,.d (i64 l.length)),(9,.d (i64 ((i+1:Nat):Int)))] ⟨[],0⟩:=by
       rw [key];simp [ib,hx,hli,hw1,hand,hcv,hmul,hshl,hor,e2,hi8,u8C,au]
      rw [hr];exact ih (i+1) _ (by omega) (by omega) (by omega) hlt2
theorem aa2 (l:List Int)(hb:byteL l)(hl:l.length<=big)(nl:Bool) :
 (∃ x n,pUint l=some (x,l.drop n)/\0<n/\n<=l.length/\Bd E TRd aD DD [.d (Sl.d u8C ⟨nl,l⟩)] ⟨[],0⟩=some (.tup [.d (u64 x),.d (i64 n)],⟨[],0⟩)) ∨
 (pUint l=none/\Bd E TRd aD DD [.d (Sl.d u8C ⟨nl,l⟩)] ⟨[],0⟩=some (.tup [.d (u64 0),.d (i64 (-1))],⟨[],0⟩)):=by
 obtain ⟨x,n,k1,k2,k3,k4⟩ | ⟨k1,k4 | k4⟩:=DV h404 hb hl nl l.length 0 0 (by omega) (by omega) (Int.le_refl 0) (by simp)
 . refine .inl ⟨x,n,by simpa [pUint] using k1,k2,k3,?_⟩;simp only [Int.natCast_zero] at k4;simp [ae,DD];rw [ai];simp [k4]
 . refine .inr ⟨by simpa [pUint] using k1,?_⟩;simp only [Int.natCast_zero] at k4;simp [ae,DD];rw [ai];simp [k4]
 . refine .inr ⟨by simpa [pUint] using k1,?_⟩;simp only [Int.natCast_zero] at k4;simp [ae,DD];rw [ai];simp [k4]
end
end
section
theorem Ah (l:List Int):(l.map u8C).flatten=l.map λn=>D.int .u8 n:=by
 induction l with
 | nil=>rfl
 | cons x l ih=>simp only [cr,List.flatten_cons,ih]; rfl
theorem BRow.frz {bs:List Blk}{p:Nat}{v:V}{l:List Int}(h:BRow bs p v l):∃ nl,∀ lo,Go.Proofs.YtadlkhfomhgllaaGreat.frz ⟨bs,lo⟩ v=some (.d (Sl.d u8C ⟨nl,l⟩)):=by
 obtain ⟨rfl,nl,rfl⟩ | ⟨h1,B,o,cs,rfl,h3,h4,h5⟩:=h
 . exact ⟨nl,λlo=>by simp [Go.Proofs.YtadlkhfomhgllaaGreat.frz,dh,Sl.d]⟩
 . refine ⟨false,λlo=>?_⟩;have hm:(l.map (iv .u8)).mapM (dataV ⟨bs,lo⟩ 7)=some (l.map λn=>D.int .u8 n):=by
    have:=fM ⟨bs,lo⟩ 7 (l.map λn=>D.int .u8 n);rw [List.map_map] at this;exact this
   have hd:dataV ⟨bs,lo⟩ 8 (.row B o l.length none 1)=some (.slice false (l.map u8C)):=by
    simp only [dataV,get_eq,h4,Nat.mul_one,h5,hm];rw [← Ah];have:=iT (z:=1) (l.map u8C) (λe he=>by obtain ⟨n,_,rfl⟩:=cd.1 he; rfl);rw [cc] at this;rw [this]
   simp [Go.Proofs.YtadlkhfomhgllaaGreat.frz,dh,hd,Sl.d]
section
variable {E:Calls'}
theorem pR {f:FuncId}{q:QF}(ht:TRd f=some q)(hv:aD f=true){v:V}{h h':Hp}{d a b:D}(hf:Go.Proofs.YtadlkhfomhgllaaGreat.frz h v=some (.d d))(hB:Bd E TRd aD q [.d d] ⟨[],0⟩=some (.tup [.d a,.d b],h'))(ho:ownR h' (.tup [.d a,.d b])=true):Sm E TRd aD f [v] h=some (.tup [.d a,.d b],h):=by
 rw [aY ht hv];have hz:Go.Proofs.YtadlkhfomhgllaaGreat.frz h' (.tup [.d a,.d b])=some (.tup [.d a,.d b]):=by simp [Go.Proofs.YtadlkhfomhgllaaGreat.frz,dh]
 simp [hf,hB,hz,ho]
section
variable (h404:∀ x h,E 163 [.d (u64 x)] h=some (.d (i64 (dE x)),h))
include h404
theorem EG (p:Nat)(bs:List Blk):Finds E 98 [] p bs pUint u64:=by
 intro v l hB hb hl;obtain ⟨nl,hf⟩:=hB.frz;obtain ⟨x,n,k1,k2,k3,k4⟩ | ⟨k1,k4⟩:=aa2 h404 l hb hl nl
 . exact .inl ⟨x,n,k1,k2,k3,λlo=>pR O7 PD (hf lo) k4 rfl⟩
 . exact .inr ⟨k1,.int .u64 0,λlo=>pR O7 PD (hf lo) k4 rfl⟩
theorem vS {p:Nat}{bs:List Blk}{st:Option (List Int)}(hR:RdS p bs st):Reads E 40 [.ptr p 0] p bs st pUint u64 0:=by
 have h:=nA (E:=E) (enc:=u64) (zero:=0) XZ Ym hR (EG h404 p bs);have h':Reads E 97 [.ptr p 0,.fn 98 []] p (bs++[]) st pUint u64 0:=by rw [List.append_nil]; exact h
 refine h'.through [] (λx bs' lo' k lo=>?_) hR;rw [List.append_nil] at k;rw [aM XP Ye];simp [ae,SI,k]
end
theorem LU (p:Nat)(bs:List Blk):Finds E 299 [] p bs pByte (λn=>.int .u8 n):=by
 intro v l hB hb hl;obtain ⟨nl,hf⟩:=hB.frz;cases l with
 | nil =>
  refine .inr ⟨rfl,.int .u8 0,λlo=>pR (h':=⟨[],0⟩) Pq PV (hf lo) ?_ rfl⟩;simp [ae,NT,Sl.d]
 | cons c l =>
  refine .inl ⟨c,1,rfl,by omega,by simp,λlo=>pR (h':=⟨[],0⟩) Pq PV (hf lo) ?_ rfl⟩;have hx:=λh=>aA (z:=1) (k:=0) (s:=⟨nl,c::l⟩) (cells:=u8C) (e:=c) h rfl rfl;simp only [Int.natCast_zero] at hx;have hne:¬ ((l.length:Int)+1=0):=by omega
  simp [ae,NT,hx,hne,u8C]
theorem Qg {p:Nat}{bs:List Blk}{st:Option (List Int)}(hR:RdS p bs st):Reads E 251 [.ptr p 0] p bs st pByte (λn=>.int .u8 n) 0:=by
 have h:=nA (E:=E) (enc:=λn=>D.int .u8 n) (zero:=0) Yb Yv hR (LU p bs);have h':Reads E 298 [.ptr p 0,.fn 299 []] p (bs++[]) st pByte (λn=>.int .u8 n) 0:=by rw [List.append_nil]; exact h
 refine h'.through [] (λx bs' lo' k lo=>?_) hR;rw [List.append_nil] at k;rw [aM X9 Yt];simp [ae,SY,k]
theorem Dn {a y:Int}{i:Nat}(h0:0<=a)(h1:a<2 ^ i)(h2:0<=y)(h3:a+y * 2 ^ i<2 ^ 32):orI .u32 (y * 2 ^ i) a=a+y * 2 ^ i:=by
 obtain ⟨A,rfl⟩:=Int.eq_ofNat_of_zero_le h0;obtain ⟨Y,rfl⟩:=Int.eq_ofNat_of_zero_le h2;have e1:((Y:Int) * 2 ^ i)=((Y * 2 ^ i:Nat):Int):=by push_cast; rfl
 rw [e1] at h3 ⊢;have h1':A<2 ^ i:=by exact_mod_cast h1
 have e2:Y * 2 ^ i ||| A=A+Y * 2 ^ i:=by
  have h:=Nat.two_pow_add_eq_or_of_lt h1' Y;rw [Nat.mul_comm Y,← h,Nat.add_comm]
 have hw:IntKind.u32.bits=32:=rfl;simp only [orI,hw,BitVec.ofInt_natCast,BitVec.toNat_or,BitVec.toNat_ofNat];rw [Nat.mod_eq_of_lt (by omega),Nat.mod_eq_of_lt (by omega),e2];simp [wrap,IntKind.bits,IntKind.signed];omega
end
end
section
variable {w:Bool}
def KB (L:Nat)(bs:List Blk)(B:Nat):Nat->Prop:=λx=>L<=x/\x<bs.length/\x≠B
def KL (L:Nat)(bs:List Blk):Nat->Prop:=λx=>L<=x/\x<bs.length
def AccV (w:Bool)(L z k n:Nat)(ds:List D)(bs:List Blk)(v:V):Prop:=(n=0/\ds=[]/\v=.d (.slice true []))\/(0<n/\∃ B cs,L<=B/\v=.row B 0 n none z/\aa bs B=some cs/\cs.length=n * z/\Hngs w (KB L bs B) bs k cs ds)
theorem AccV.nil (L z k:Nat)(bs:List Blk):AccV w L z k 0 [] bs (nV):=.inl ⟨rfl,rfl,rfl⟩
theorem AccV.nu {L z k n:Nat}{ds:List D}{bs:List Blk}{v:V}(h:AccV w L z k n ds bs v):nu v=some v:=by
 obtain ⟨_,_,rfl⟩ | ⟨_,B,cs,_,rfl,_⟩:=h<;>rfl
theorem AccV.on {L z k n:Nat}{ds:List D}{bs bs':List Blk}{v:V}(h:AccV w L z k n ds bs v)(hl:bs.length<=bs'.length)(ho:∀ x,L<=x->x<bs.length->bs'[x]?=bs[x]?):AccV w L z k n ds bs' v:=by
 obtain h | ⟨h0,B,cs,h1,h2,h3,h4,h5⟩:=h
 . exact .inl h
 . refine .inr ⟨h0,B,cs,h1,h2,?_,h4,h5.on (λx hx=>ho x hx.1 hx.2.1) λx hx=>⟨hx.1,by have:=hx.2.1; omega,hx.2.2⟩⟩;rw [← h3]; unfold aa; rw [ho B h1 (aN h3)]
theorem AccV.app {L L2 z k n:Nat}{ds es:List D}{bs:List Blk}{v:V}(h:AccV w L z k n ds bs v)(hz0:0<z){by_:Nat}(hby:by_<=4096)(hl:n<big){r:Nat}{cap:Option Nat}{vs:List V}(hvl:vs.length=z)(hr:aa bs r=some vs)
 (hL:L<=L2) (hB:∀ B n' c,v=.row B 0 n' c z->B<L2) (hv:Hngs w (KL L2 bs) bs k vs es) (hLb:L<=bs.length) :
 ∃ v' bs',∃ F:Nat->Nat,(∀ lo,dY ⟨bs,lo⟩ z by_ v (.row r 0 1 cap z)=some (v',⟨bs',F lo⟩))/\AccV w L z k (n+1) (ds++es) bs' v'/\bs.length<=bs'.length/\(∀ x,x<L->bs'[x]?=bs[x]?)/\∀ lo:Nat,F lo<=lo:=by
 have hrc:∀ lo,aF ⟨bs,lo⟩ (.row r 0 1 cap z) z=some (1,vs):=λlo=>by
  have:sub vs 0 z=some vs:=bB hvl;simp only [aF,if_true,get_eq,hr,Nat.one_mul,this,Option.map_some]
 have hroom:∀ n,n<=big->roomy n by_=true:=λn hn=>by simp only [roomy,ap,br]; exact ⟨hn,hby⟩
 obtain ⟨rfl,rfl,rfl⟩ | ⟨h0,B,cs,h1,rfl,h3,h4,h5⟩:=h
 . refine ⟨.row bs.length 0 1 none z,bs++[.cells vs],id,λlo=>by simp only [dY,hrc,aI,if_neg (show ¬ (1=0) by decide),if_neg (show ¬ z=0 by omega),hroom 1 (by decide),if_true]; rfl,.inr ⟨by omega,bs.length,vs,hLb,rfl,by simp,by simpa using hvl,?_⟩,by simp,λx hx=>by rw [am (by omega)],λlo=>bo _⟩;exact hv.on (λx hx=>by rw [am hx.2]) λx hx=>⟨by have:=hx.1; omega,by have:=hx.2; simp; omega,by have:=hx.2; omega⟩
 . have hsub:sub cs 0 (n * z)=some cs:=bB h4;have hpos:0<cs.length:=by rw [h4]; exact Nat.mul_pos h0 hz0
   have hbl:=aN h3;have hBL:=hB B n none rfl;refine ⟨.row bs.length 0 (n+1) none z,bs.set B (.cells [])++[.cells (cs++vs)],λlo=>min lo B,λlo=>by simp only [dY,hrc,aI,ne_eq,not_true_eq_false,false_or,if_neg (show ¬ (1=0) by decide),if_neg (show ¬ z=0 by omega),get_eq,h3,hsub,hroom (n+1) (by omega),Bool.not_true,bk,if_false,hpos,and_self,if_true,Hp.size,Hp.alloc,Hp.set],.inr ⟨by omega,bs.length,cs++vs,hLb,rfl,?_,by rw [ao,h4,hvl,Nat.succ_mul],?_⟩,by simp,λx hx=>?_,λlo=>Nat.min_le_left _ _⟩
   . have:aa (bs.set B (.cells [])++[.cells (cs++vs)]) (bs.set B (.cells [])).length=some (cs++vs):=by rw [gu]; rfl
     rw [List.length_set] at this;exact this
   . have ho:∀ x,x<bs.length->x≠B->(bs.set B (.cells [])++[.cells (cs++vs)])[x]?=bs[x]?:=λx hx hne=>by
      rw [am (by simpa using hx),ac (Ne.symm hne)]
     refine (h5.on (λx hx=>ho x hx.2.1 hx.2.2) λx hx=>⟨hx.1,by have:=hx.2.1; simp; omega,by have:=hx.2.1; omega⟩).app (hv.on (λx hx=>ho x hx.2 (by have:=hx.1; omega)) λx hx=>⟨by have:=hx.1; omega,by have:=hx.2; simp; omega,by have:=hx.2; omega⟩)
   . rw [am (by simp; omega),ac (by omega)]
theorem AccV.hng {L z k n:Nat}{bs:List Blk}{v:V}{es:List (List D)}(h:AccV w L z k n es.flatten bs v)(hz:∀ e∈es,e.length=z)(hn:n=es.length):Hng w (KL L bs) bs v (.slice es.isEmpty es) (k+1):=by
 obtain ⟨h0,h1,rfl⟩ | ⟨h0,B,cs,h1,rfl,h3,h4,h5⟩:=h
 . have:es=[]:=List.eq_nil_of_length_eq_zero (by omega);subst this;exact Hng.d λnl c cs hh=>by simp at hh
 . have he:es.isEmpty=false:=by cases es with
    | nil=>simp at hn; omega
    | cons _ _=>rfl
   rw [he];exact Hng.row ⟨h1,aN h3⟩ h3 (h5.on (λ_ _=>rfl) λx hx=>⟨hx.1,hx.2.1⟩) hz hn
def Rds {α:Type}(w:Bool)(E:Calls')(g:FuncId)(args:List V)(p:Nat)(P:Pr α)(cells:α->List D)(k:Nat)(Z:V)(bs:List Blk):Prop :=
 ∀ st,RdS p bs st->∃ v vs x st' bs',∃ F:Nat->Nat,(∀ lo,Sm E TRd aD g args ⟨bs,lo⟩=some (v,⟨bs',F lo⟩))/\v.cells=some vs/\Hngs w (KL bs.length bs') bs' k vs (cells x)/\Step P st x st'/\RdS p bs' st'/\Old p bs bs'/\(∀ lo:Nat,F lo<=lo)/\(st=none->v=Z/\bs'=bs/\∀ lo,F lo=lo)/\(st≠none->∀ lo,F lo<=p)
def FB {α:Type}(w:Bool)(E:Calls')(g:FuncId)(args:List V)(p:Nat)(P:Pr α)(cells:α->List D)(k:Nat)(bs:List Blk):Prop :=
 ∀ st,RdS p bs st->∃ v vs x st' bs',∃ F:Nat->Nat,(∀ lo,Sm E TRd aD g args ⟨bs,lo⟩=some (v,⟨bs',F lo⟩))/\v.cells=some vs/\Hngs w (KL bs.length bs') bs' k vs (cells x)/\Step P st x st'/\RdS p bs' st'/\Old p bs bs'/\∀ lo:Nat,F lo<=lo
theorem Rds.weak {α:Type}{E:Calls'}{g:FuncId}{args:List V}{p:Nat}{P:Pr α}{cells:α->List D}{k:Nat}{Z:V}{bs:List Blk}(h:Rds w E g args p P cells k Z bs):FB w E g args p P cells k bs:=λst hR=>by
 obtain ⟨v,vs,x,st',bs',F,a1,a2,a3,a4,a5,a6,a7,_⟩:=h st hR;exact ⟨v,vs,x,st',bs',F,a1,a2,a3,a4,a5,a6,a7⟩
def RdsR {α:Type}(w:Bool)(E:Calls')(g:FuncId)(args:List V)(p:Nat)(P:Pr (Sl α))(cells:α->List D)(k:Nat)(bs:List Blk):Prop :=
 ∀ st,RdS p bs st->∃ v x st' bs',∃ F:Nat->Nat,(∀ lo,Sm E TRd aD g args ⟨bs,lo⟩=some (v,⟨bs',F lo⟩))/\(v.cells=some [v]/\nu v=some v)/\Hng w (KL bs.length bs') bs' v (Sl.d cells x) k/\Step P st x st'/\RdS p bs' st'/\Old p bs bs'/\(∀ lo:Nat,F lo<=lo)/\(st≠none->∀ lo,F lo<=p)
theorem RdsR.mk {α:Type}{E:Calls'}{g:FuncId}{args:List V}{p:Nat}{P:Pr (Sl α)}{cells:α->List D}{k:Nat}{bs:List Blk}(h0:RdS p bs none->∀ lo,Sm E TRd aD g args ⟨bs,lo⟩=some (nV,⟨bs,lo⟩))
 (h1:∀ b,RdS p bs (some b)->∃ v x st' bs',∃ F:Nat->Nat,(∀ lo,Sm E TRd aD g args ⟨bs,lo⟩=some (v,⟨bs',F lo⟩))/\(v.cells=some [v]/\nu v=some v)/\Hng w (KL bs.length bs') bs' v (Sl.d cells x) k/\Step P (some b) x st'/\RdS p bs' st'/\Old p bs bs'/\(∀ lo:Nat,F lo<=lo)/\∀ lo,F lo<=p):RdsR w E g args p P cells k bs:=by
 intro st hR;cases st with
 | none=>exact ⟨_,⟨true,[]⟩,none,bs,λlo=>lo,h0 hR,⟨rfl,rfl⟩,Hng.d (by simp []),rfl,hR,Old.refl _ _,λlo=>bo _,λh=>absurd rfl h⟩
 | some b =>
  obtain ⟨v,x,st',bs',F,a1,a2,a3,a4,a5,a6,a7,a8⟩:=h1 b hR;exact ⟨v,x,st',bs',F,a1,a2,a3,a4,a5,a6,a7,λ_=>a8⟩
end
section
variable {w:Bool}
def Cf (z by_:Nat)(zero:List V):QC:=(sr [op 12 (bt .lss 11 10)] (.seq (.cond (.t 12) .skip (.exit 0 [7])) (.seq (.block 1 (.reg none [mv 13 7,mv 14 2,op 15 (kt' 14 []),op 16 (.buildS z 1 zero [(0,z,(.t 15))]),op 17 (.app z by_ (.t 13) (.t 16)),mv 7 17])) (.reg none [op 18 (bc .add 11 1),mv 11 18]))))
def rowQ (sm z by_:Nat)(zero:List V):QF:=⟨20,[.tmp 6],(sr [op 3 (.box (.t 0)),op 6 (.mov (.c zs0))] (sr [op 7 (.mov (.c zs0))] (.seq (sr [op 8 (lf 1 3),mv 9 1,op 10 (.call (.c (.fn sm [])) [.t 8,.t 9]),oc' 11 0] (.block 0 (.loop [2,7,10,11] (Cf z by_ zero)))) (sr [mv 19 7,mv 6 19] (.ret [6])))))⟩
theorem Be {ev:X->V}{x:X}{v:V}{vs zero:List V}{z:Nat}(hx:ev x=v)(hv:v.cells=some vs)(hvl:vs.length=z)(hz:zero.length=z):az ev zero [(0,z,x)]=some vs:=by
 simp [az,hx,hv,hvl,put,hz]
theorem Hngs.cells_len {K:Nat->Prop}{bs:List Blk}{k:Nat}{vs:List V}{ds:List D}(h:Hngs w K bs k vs ds){z:Nat}(hz:ds.length=z):vs.length=z:=h.len.trans hz
theorem RdS.upto {p:Nat}{bs bs':List Blk}{st:Option (List Int)}(h:RdS p bs st)(ho:∀ y,y<=p->bs'[y]?=bs[y]?):RdS p bs' st:=by
 obtain ⟨v,l,h1,h2,h3⟩:=h;refine ⟨v,l,?_,?_,h3⟩
 . rw [← h1]; unfold aa; rw [ho p (bo _)]
 . obtain h | ⟨g1,B,o,cs,g2,g3,g4,g5⟩:=h2
   . exact .inl h
   . exact .inr ⟨g1,B,o,cs,g2,g3,by rw [← g4]; unfold aa; rw [ho B (by omega)],g5⟩
section
variable {E:Calls'}
theorem Kh {α:Type}{P:Pr α}{cells:α->List D}{z by_ k:Nat}{zero:List V}(hz0:0<z)(hby:by_<=4096)(hzero:zero.length=z)(hcl:∀ x,(cells x).length=z){g:FuncId}{args:List V}{fv:V}(hfv:∀ C h,gG C fv [] h=C g args h)(hnu:nu fv=some fv)
 {p:Nat} {bs0:List Blk} (hp:p<bs0.length) (hone:∀ bs,Old p bs0 bs->FB w E g args p P cells k bs) {N:Nat} (hN:N<big) :
 ∀ (m i:Nat) (bs:List Blk) (v:V) (st:Option (List Int)) (ds:List D),i+m=N->RdS p bs st->AccV w bs0.length z k i ds bs v->Old p bs0 bs →
 ∃ v' xs st' bs',∃ F:Nat->Nat,(∀ lo,Cd E TRd aD (.loop [2,7,10,11] (Cf z by_ zero)) [(2,fv),(7,v),(10,.d (i64 N)),(11,.d (i64 i))] ⟨bs,lo⟩=some (.exit 0,[(7,v')],⟨bs',F lo⟩))/\xs.length=m/\AccV w bs0.length z k N (ds++(xs.map cells).flatten) bs' v'/\Step (gX P m) st xs st'/\RdS p bs' st'/\Old p bs0 bs'/\∀ lo:Nat,F lo<=lo:=by
 intro m;have hN2:N<2 ^ 62:=Nat.lt_trans hN (by decide);have key:=aB (E:=E) (T:=TRd) (val:=aD) [2,7,10,11] (Cf z by_ zero);generalize Cd E TRd aD (.loop [2,7,10,11] (Cf z by_ zero))=W at key ⊢
 induction m with
 | zero =>
  intro i bs v st ds hi hR hA ho;have:i=N:=by omega
  subst this;refine ⟨v,[],st,bs,id,λlo=>?_,rfl,by simpa using hA,Step.nil,hR,ho,λlo=>bo _⟩;rw [key];simp [Cf]
 | succ m ih =>
  intro i bs v st ds hi hR hA ho;obtain ⟨v1,vs,x,st1,bs1,F1,a1,a2,a3,a4,a5,a6,a7⟩:=hone bs ho st hR;have hvl:=a3.cells_len (hcl x);have hA1:AccV w bs0.length z k i ds (bs1++[.cells vs]) v:=hA.on (by have:=a6.1; simp; omega) λy h1 h2=>by
   rw [am (by have:=a6.1; omega)];exact a6.2 y (by omega) h2
  have hBl:∀ B n' c,v=.row B 0 n' c z->B<bs.length:=by
   rintro B n' c rfl;obtain ⟨_,_,h⟩ | ⟨_,B',cs,_,h,h3,_⟩:=hA
   . cases h
   . cases h; exact aN h3
  have hle:=ho.1;have hle1:=a6.1;obtain ⟨v2,bs2,F2,b1,b2,b3,b4,b5⟩:=hA1.app hz0 hby (by omega) (r:=bs1.length) (cap:=some 1) hvl (by simp) (L2:=bs.length) hle hBl
   (a3.on (λy hy=>by rw [am hy.2]) λy hy=>⟨hy.1,by have:=hy.2; simp; omega⟩) (by simp; omega)
  have hR2:RdS p bs2 st1:=a5.upto λy hy=>by
   rw [b4 y (by omega),am (by omega)]
  have ho2:Old p bs0 bs2:=⟨by simp at b3; omega,λy h1 h2=>by
   rw [b4 y h2,am (by omega),a6.2 y h1 (by omega),ho.2 y h1 h2]⟩
  obtain ⟨v',xs,st',bs',F3,c1,c2,c3,c4,c5,c6,c7⟩:=ih (i+1) bs2 v2 st1 _ (by omega) hR2 b2 ho2;refine ⟨v',x::xs,st',bs',λlo=>F3 (F2 (F1 lo)),λlo=>?_,by simp [c2],by simpa using c3,Step.row a4 c4,c5,c6,λlo=>ch (c7 _) (ch (b5 _) (a7 _))⟩;rw [← c1,key];have hw:=ax (i:=i) (n:=N) (by omega) hN2;have hlt:((i:Int)<(N:Int)):=by omega
  have hfill:∀ ev:X->V,ev (.t 15)=v1->az ev zero [(0,z,.t 15)]=some vs:=λev he=>Be he a2 hvl hzero;simp [Cf,hlt,hA.nu,hnu,hfv,a1,hfill,b1,b2.nu,hw]
end
end
section
variable {w:Bool}
section
variable {E:Calls'}
theorem Le {p:Nat}{bs:List Blk}{st:Option (List Int)}(hR:RdS p bs st):∃ bs',(∀ lo,Sm E TRd aD 52 [.ptr p 0] ⟨bs,lo⟩=some (.tup [],⟨bs',min lo p⟩))/\RdS p bs' none/\Old p bs bs':=by
 have hp:=hR.lt;obtain ⟨v,l,h1,h2,h3,h4,h5⟩:=hR;obtain ⟨n1,n2,n3⟩:=h2.nu;refine ⟨bs.set p (.cells [v,bl true]),λlo=>?_,⟨v,l,?_,h2.on λx hx hl=>by rw [ac (Ne.symm hx)],h3,h4,λb hb=>by cases hb⟩,Old.set _ _⟩
 . rw [aM XX Yl];simp [SN,ae,h1,storeAt,put,Hp.set];rw [if_neg (by omega),Nat.min_eq_right (Nat.le_of_lt hp)];rfl
 . rw [ak,if_pos rfl,if_pos hp]; rfl
theorem H7 {n most:Int}(h0:0<=most)(h1:most<2 ^ 63)(hn:n<=most)(h2:0<=n):wrap .i64 n=n:=wrap64 (by omega) (by omega)
section
variable (h404:∀ x h,E 163 [.d (u64 x)] h=some (.d (i64 (dE x)),h))
include h404
theorem Il {p:Nat}{bs:List Blk}{st:Option (List Int)}(hR:RdS p bs st){most:Int}(hm0:0<=most)(hm:most<2 ^ 63) :
 ∃ n st' bs',∃ F:Nat->Nat,(∀ lo,Sm E TRd aD 101 [.agg [.ptr p 0],.d (i64 most)] ⟨bs,lo⟩=some (.d (i64 n),⟨bs',F lo⟩))/\StepZ (bT most) st n st'/\0<=n/\n<=most/\RdS p bs' st'/\Old p bs bs'/\(∀ lo:Nat,F lo<=lo)/\(st=none->n=0/\bs'=bs/\∀ lo,F lo=lo)/\(st≠none->∀ lo,F lo<=p):=by
 have hp:=hR.lt;obtain ⟨x,st1,bs1,F1,k1,k2,k3,k4,k5,k6,k7,k8⟩:=vS h404 (hR.lay [.cells [.ptr p 0]]);have hL:aa bs1 bs.length=some [.ptr p 0]:=by
  have:=k5.2 bs.length (by omega) (by simp);unfold aa; rw [this]; simp
 have hw:wrap .u64 most=most:=by rw [wrap_u64]; omega
 cases st with
 | none =>
  obtain ⟨rfl,k7⟩:=k7 rfl;have hn:st1=none:=k2;subst hn;have hx:=k3 rfl;subst hx;refine ⟨0,none,bs,id,λlo=>?_,⟨rfl,λ_=>rfl⟩,Int.le_refl _,hm0,hR,Old.refl _ _,λlo=>bo _,λ_=>⟨rfl,rfl,λ_=>rfl⟩,λh=>absurd rfl h⟩;rw [aM E8 Fa];simp [GV,ae,k1,k7,hw,show ¬ ((0:Int)>most) from by omega,show wrap .i64 0=0 from by decide,V.under]
 | some b =>
  have k8:=k8 (by simp);have hlow:¬ bs.length<=F1 bs.length:=by have:=k8 bs.length; omega
  cases hu:pUint b with
  | none =>
   have hst:st1=none:=by simpa [Step,hu] using k2
   subst hst;have hx:=k3 rfl;subst hx;refine ⟨0,none,bs1,λlo=>min lo (F1 bs.length),λlo=>?_,⟨by simp [Step,bT,Pr.keep,hu],λ_=>rfl⟩,Int.le_refl _,hm0,k4,(Old.lay bs _).trans k5,λlo=>Nat.min_le_left _ _,λh=>(by cases h),λ_ lo=>ch (Nat.min_le_right _ _) (k8 _)⟩;rw [aM E8 Fa];simp [GV,ae,k1,hw,show ¬ ((0:Int)>most) from by omega,show wrap .i64 0=0 from by decide,hlow]
  | some y =>
   obtain ⟨y,l⟩:=y;have hst:x=y/\st1=some l:=by simpa [Step,hu] using k2
   obtain ⟨rfl,rfl⟩:=hst;have hbyte:byteL b:=by
    obtain ⟨v,l',g1,g2,g3,g4,g5⟩:=hR;rw [g5 b rfl]; exact g3
   have h0:=(uint_cod.bwd b x l hbyte hu).2;by_cases hgt:x>most
   . obtain ⟨bs2,q1,q2,q3⟩:=Le (E:=E) k4;refine ⟨0,none,bs2,λlo=>min lo (min (F1 bs.length) p),λlo=>?_,⟨by simp [Step,bT,Pr.keep,hu,show ¬ x<=most from by omega],λ_=>rfl⟩,Int.le_refl _,hm0,q2,((Old.lay bs _).trans k5).trans q3,λlo=>Nat.min_le_left _ _,λh=>(by cases h),λ_ lo=>ch (Nat.min_le_right _ _) (Nat.min_le_right _ _)⟩;rw [aM E8 Fa];simp [GV,ae,k1,hw,hgt,hL,q1,show ¬ bs.length<=min (F1 bs.length) p from by omega]
   . refine ⟨x,some l,bs1,λlo=>min lo (F1 bs.length),λlo=>?_,⟨by simp [Step,bT,Pr.keep,hu,show x<=most from by omega],λh=>by cases h⟩,h0.1,by omega,k4,(Old.lay bs _).trans k5,λlo=>Nat.min_le_left _ _,λh=>(by cases h),λ_ lo=>ch (Nat.min_le_right _ _) (k8 _)⟩;rw [aM E8 Fa];simp [GV,ae,k1,hw,hgt,H7 hm0 hm (by omega) h0.1,hlow]
omit h404 in
theorem row_zero {z by_:Nat}{zero:List V}{fv v:V}(hv:nu v=some v)(h:Hp):Cd E TRd aD (.loop [2,7,10,11] (Cf z by_ zero)) [(2,fv),(7,v),(10,.d (i64 0)),(11,.d (i64 0))] h=some (.exit 0,[(7,v)],h):=by
 rw [aB];simp [Cf]
theorem qg {id z by_:Nat}{zero:List V}(ht:TRd id=some (rowQ 101 z by_ zero))(hv:aD id=false){fv:V}(hnu:nu fv=some fv)(hok:okV fv=true){p:Nat}{bs:List Blk}{most:Int}(hm0:0<=most)(hm:most<big)(hR:RdS p bs none)(lo:Nat) :
 Sm E TRd aD id [.agg [.ptr p 0],.d (i64 most),fv] ⟨bs,lo⟩=some (nV,⟨bs,lo⟩):=by
 obtain ⟨n,st1,bs1,F1,a1,a2,a3,a4,a5,a6,a7,a8,a9⟩:=Il h404 (hR.lay [.cells [.ptr p 0]]) hm0 (show most<2 ^ 63 from Int.lt_trans hm (by decide));obtain ⟨rfl,rfl,a8⟩:=a8 rfl;rw [aM ht hv];simp [rowQ,ae,a1,a8];rw [ai];simp [row_zero (E:=E) (v:=nV) rfl,V.under]
theorem vY {α:Type}{P:Pr α}{cells:α->List D}{z by_ k id:Nat}{zero:List V}(ht:TRd id=some (rowQ 101 z by_ zero))(hv:aD id=false)(hz0:0<z)(hby:by_<=4096)(hzero:zero.length=z)(hcl:∀ x,(cells x).length=z){g:FuncId}{args:List V}{fv:V}(hfv:∀ C h,gG C fv [] h=C g args h)(hnu:nu fv=some fv)(hok:okV fv=true)
 {p:Nat} {bs:List Blk} {most:Int} (hm0:0<=most) (hm:most<big) (hone:∀ bs',Old p bs bs'->FB w E g args p P cells k bs') :
 RdsR w E id [.agg [.ptr p 0],.d (i64 most),fv] p (pSl most P) cells (k+1) bs:=by
 refine RdsR.mk (qg h404 ht hv hnu hok hm0 hm) λb hR=>?_;have hp:=hR.lt;obtain ⟨n,st1,bs1,F1,a1,a2,a3,a4,a5,a6,a7,a8,a9⟩:=Il h404 (hR.lay [.cells [.ptr p 0]]) hm0 (show most<2 ^ 63 from Int.lt_trans hm (by decide));have a9:=a9 (by simp);obtain ⟨N,rfl⟩:=Int.eq_ofNat_of_zero_le a3;obtain ⟨v',xs,st',bs',F2,c1,c2,c3,c4,c5,c6,c7⟩:=Kh (E:=E) (by_:=by_) hz0 hby hzero hcl hfv hnu (bs0:=bs++[.cells [.ptr p 0]]) (by simp; omega) (λbs' ho=>hone bs' ((Old.lay bs _).trans ho)) (N:=N) (by omega) N 0 bs1 (nV) st1 [] (by omega) a5 (AccV.nil _ _ _ _) a6;have hflat:(xs.map cells).length=N:=by simp [c2]
 have hH:=AccV.hng (es:=xs.map cells) (by simpa using c3) (λe he=>by obtain ⟨x,_,rfl⟩:=cd.1 he; exact hcl x) hflat.symm;have hS:Step (pSl most P) (some b) ⟨xs.isEmpty,xs⟩ st':=by
  have:=(StepZ.seq a2 (l:=xs) (s2:=st') (by simpa using c4)).map λl=>(⟨l.isEmpty,l⟩:Sl α);exact this
 have hF:F2 (F1 bs.length)<=p:=ch (c7 _) (a9 _);refine ⟨v',⟨xs.isEmpty,xs⟩,st',bs',λlo=>min lo (F2 (F1 bs.length)),λlo=>?_,⟨?_,c3.nu⟩,?_,hS,c5,(Old.lay bs _).trans c6,λlo=>Nat.min_le_left _ _,λlo=>ch (Nat.min_le_right _ _) hF⟩
 . rw [aM ht hv];simp only [Int.natCast_zero] at c1;simp [rowQ,ae,a1];rw [ai];simp [c1,c3.nu,show ¬ bs.length<=F2 (F1 bs.length) from by omega]
 . obtain ⟨_,_,rfl⟩ | ⟨_,B,cs,_,rfl,_⟩:=c3<;>rfl
 . have:Sl.d cells ⟨xs.isEmpty,xs⟩=.slice (xs.map cells).isEmpty (xs.map cells):=by simp [Sl.d]
   rw [this];exact hH.on (λ_ _=>rfl) λx hx=>⟨by
    have h1:bs.length+1<=x:=hx.1;omega,hx.2⟩
end
end
end
section
section
variable {E:Calls'}
theorem LQ (p:Nat)(bs:List Blk):Finds E 297 [] p bs pU32 (λn=>.int .u32 n):=by
 intro v l hB hb hl;obtain ⟨nl,hf⟩:=hB.frz;have hlen:∀ h,pW false (.d (Sl.d u8C ⟨nl,l⟩)) h=some (.d (i64 l.length),h):=λh=>by simp [Sl.d]
 have short:l.length<4->pU32 l=none->(pU32 l=none/\∃ d,∀ lo,Sm E TRd aD 297 (v::[]) ⟨bs,lo⟩=some (.tup [.d d,.d (i64 (-1))],⟨bs,lo⟩)):=λh1 h2=>by
  have h3:((l.length:Int)<4):=by omega
  exact ⟨h2,.int .u32 0,λlo=>pR (h':=⟨[],0⟩) Pp PU (hf lo) (by simp [ae,NS,hlen,h3]) rfl⟩
 match l,hb,hl,hf,hlen,short with
 | [],_,_,_,_,short=>exact .inr (short (by simp) rfl)
 | [_],_,_,_,_,short=>exact .inr (short (by simp) rfl)
 | [_,_],_,_,_,_,short=>exact .inr (short (by simp) rfl)
 | [_,_,_],_,_,_,_,short=>exact .inr (short (by simp) rfl)
 | a::b::c::d::l,hb,hl,hf,hlen,_ =>
  have ha:=hb a (by simp);have hb':=hb b (by simp);have hc:=hb c (by simp);have hd:=hb d (by simp);refine .inl ⟨a+256 * b+65536 * c+16777216 * d,4,rfl,by omega,by simp,λlo=>pR (h':=⟨[],0⟩) Pp PU (hf lo) ?_ rfl⟩;have x0:=λh=>aA (z:=1) (k:=0) (s:=⟨nl,a::b::c::d::l⟩) (cells:=u8C) (e:=a) h rfl rfl;have x1:=λh=>aA (z:=1) (k:=1) (s:=⟨nl,a::b::c::d::l⟩) (cells:=u8C) (e:=b) h rfl rfl;have x2:=λh=>aA (z:=1) (k:=2) (s:=⟨nl,a::b::c::d::l⟩) (cells:=u8C) (e:=c) h rfl rfl;have x3:=λh=>aA (z:=1) (k:=3) (s:=⟨nl,a::b::c::d::l⟩) (cells:=u8C) (e:=d) h rfl rfl;have h3:¬ (((a::b::c::d::l).length:Int)<4):=by simp; omega
  have wu:∀ n:Int,0<=n->n<4294967296->wrap .u32 n=n:=λn h1 h2=>by simp [wrap,IntKind.bits,IntKind.signed]; omega
  have s1:bK .shl (.d (.int .u32 d)) (.d (.int .u64 24))=some (.int .u32 (d * 2 ^ 24)):=by rw [mF (by omega)]; congr 1; show D.int .u32 (wrap .u32 (d * 2 ^ 24))=_; rw [wu _ (by omega) (by omega)]
  have s2:bK .shl (.d (.int .u32 c)) (.d (.int .u64 16))=some (.int .u32 (c * 2 ^ 16)):=by rw [mF (by omega)]; congr 1; show D.int .u32 (wrap .u32 (c * 2 ^ 16))=_; rw [wu _ (by omega) (by omega)]
  have s3:bK .shl (.d (.int .u32 b)) (.d (.int .u64 8))=some (.int .u32 (b * 2 ^ 8)):=by rw [mF (by omega)]; congr 1; show D.int .u32 (wrap .u32 (b * 2 ^ 8))=_; rw [wu _ (by omega) (by omega)]
  have o1:orI .u32 (d * 2 ^ 24) (c * 2 ^ 16)=c * 2 ^ 16+d * 2 ^ 24:=Dn (by omega) (by omega) (by omega) (by omega);have e2:c * 2 ^ 16+d * 2 ^ 24=(c+d * 2 ^ 8) * 2 ^ 16:=by omega
  have o2:orI .u32 (c * 2 ^ 16+d * 2 ^ 24) (b * 2 ^ 8)=b * 2 ^ 8+(c * 2 ^ 16+d * 2 ^ 24):=by rw [e2]; exact Dn (by omega) (by omega) (by omega) (by omega)
  have e3:b * 2 ^ 8+(c * 2 ^ 16+d * 2 ^ 24)=(b+c * 2 ^ 8+d * 2 ^ 16) * 2 ^ 8:=by omega
  have o3:orI .u32 (b * 2 ^ 8+(c * 2 ^ 16+d * 2 ^ 24)) a=a+256 * b+65536 * c+16777216 * d:=by
   rw [e3,Dn (by omega) (by omega) (by omega) (by omega)]; omega
  simp only [show ((0:Nat):Int)=0 from rfl,show ((1:Nat):Int)=1 from rfl,show ((2:Nat):Int)=2 from rfl,show ((3:Nat):Int)=3 from rfl] at x0 x1 x2 x3;have h3':¬ ((l.length:Int)+1+1+1+1<4):=by omega
  simp [ae,NS,hlen,h3',x0,x1,x2,x3,u8C,wu a ha.1 (by omega),wu b hb'.1 (by omega),wu c hc.1 (by omega),wu d hd.1 (by omega),s1,s2,s3,zx];have p24:(2:Int) ^ 24=16777216:=by decide
  have p16:(2:Int) ^ 16=65536:=by decide
  have p8:(2:Int) ^ 8=256:=by decide
  rw [← o3,← o2,← o1,p24,p16,p8]
theorem U2 {p:Nat}{bs:List Blk}{st:Option (List Int)}(hR:RdS p bs st):Reads E 250 [.ptr p 0] p bs st pU32 (λn=>.int .u32 n) 0:=by
 have h:=nA (E:=E) (enc:=λn=>D.int .u32 n) (zero:=0) Ya Yu hR (LQ p bs);have h':Reads E 296 [.ptr p 0,.fn 297 []] p (bs++[]) st pU32 (λn=>.int .u32 n) 0:=by rw [List.append_nil]; exact h
 refine h'.through [] (λx bs' lo' k lo=>?_) hR;rw [List.append_nil] at k;rw [aM X8 Yr];simp [ae,SX,k]
theorem BRow.text {bs:List Blk}{p:Nat}{v:V}{l:List Int}(h:BRow bs p v l){n x:Nat}(hn:0<n)(hx:n+x<=l.length) :
 ∃ w,(∀ (hp:Hp) (ev:X->V) (a b:X),ev a=.d (.int .i64 n)->ev b=.d (.int .i64 ((n+x:Nat):Int))->bM hp ev .sl 1 v (some a) (some b) none=some w)/\∀ lo,iW w ⟨bs,lo⟩=some (.d (.str (strOf ((l.drop n).take x))),⟨bs,lo⟩):=by
 obtain ⟨rfl,_⟩ | ⟨h1,B,o,cs,rfl,h3,h4,h5⟩:=h
 . simp at hx; omega
 . by_cases hlt:n<l.length
   . refine ⟨.row B (o+n) x none 1,λhp ev a b ha hb=>?_,λlo=>?_⟩
     . have e1:((n+x:Nat):Int).toNat=n+x:=Int.toNat_natCast _;have hn0:¬ n=0:=by omega
       simp only [bM,bD,ha,hb,Int.natCast_nonneg,if_true,Int.toNat_natCast,Nat.le_add_right,hx,hn0,hlt,if_false,true_and,Nat.mul_one,Option.map_none,Nat.add_sub_cancel_left]
     . have hs:sub cs (o+n) x=some (((l.drop n).take x).map (iv .u8)):=by
        simp only [sub] at h5 ⊢;split at h5
        . rename_i hle;simp only [ba] at h5;rw [if_pos (by omega)]
          congr 1
          rw [List.map_take,List.map_drop,← h5,List.drop_take,List.take_take,bb,Nat.min_eq_left (by omega)]
        . cases h5
       have hb:=ma (h:=⟨bs,lo⟩) (l:=(l.drop n).take x);have hall:(((l.drop n).take x).map λn=>[D.int .u8 n]).all (λe=>e.length==1)=true:=by
        rw [cm];intro e he;obtain ⟨m,_,rfl⟩:=cd.1 he;rfl
       simp only [iW,bytesD,aF,hall,if_true,kJ] at hb;simp only [iW,aF,if_true,get_eq,h4,Nat.mul_one,hs,Option.map_some];exact hb
   . have he:n=l.length:=by omega
     have hx0:x=0:=by omega
     subst hx0;refine ⟨.d (.slice false []),λhp ev a b ha hb=>?_,λlo=>?_⟩
     . have hn0:¬ n=0:=by omega
       simp only [Nat.add_zero] at hb;simp [bM,bD,ha,hb,hlt,hn0];omega
     . simp only [List.take_zero];rfl
section
variable (h404:∀ x h,E 163 [.d (u64 x)] h=some (.d (i64 (dE x)),h))
include h404
theorem LP {p:Nat}{bs:List Blk}{m:Nat}{most:Int}(hm:aa bs m=some [.d (i64 most)])(h0:0<=most)(h1:most<2 ^ 62):Finds E 100 [.ptr m 0] p bs (gN most) (λs=>.str s):=by
 intro v l hB hb hl;obtain ⟨n1,n2,n3⟩:=hB.nu;have hlen:=λh=>hB.len h;have hw:wrap .u64 most=most:=by rw [wrap_u64]; omega
 have hlb:l.length<2 ^ 62:=cg hl (by decide);obtain ⟨x,n,k1,k2,k3,k4⟩ | ⟨k1,d,k4⟩:=EG h404 p bs v l hB hb hl
 . have hux:=(uint_cod.bwd l x (l.drop n) hb k1).2;have hneg:¬ ((n:Int)<0):=by omega
   have hmn:¬ (most<0):=by omega
   have hws:wrap .i64 ((l.length:Int)-n)=(l.length:Int)-n:=wrap64 (by omega) (by omega);have hwu:wrap .u64 ((l.length:Int)-n)=(l.length:Int)-n:=by rw [wrap_u64]; omega
   by_cases hbig:x<=most/\x<=((l.drop n).length:Int)
   . have hb2:x<=(l.length:Int)-n:=by have:=hbig.2; rw [List.length_drop] at this; omega
     obtain ⟨X,rfl⟩:=Int.eq_ofNat_of_zero_le hux.1;have hXn:n+X<=l.length:=by omega
     obtain ⟨w,g1,g2⟩:=hB.text k2 hXn;have hwx:wrap .i64 (X:Int)=X:=wrap64 (by omega) (by omega);have hwe:wrap .i64 ((n:Int)+X)=((n+X:Nat):Int):=by rw [wrap64]<;>omega
     refine .inl ⟨strOf ((l.drop n).take X),n+X,?_,by omega,by omega,λlo=>?_⟩
     . simp only [gN,k1];rw [if_pos hbig,bb];simp
     . rw [aM Ki Km];simp [ae,GU,k4,hm,hneg,hmn,hw,hws,hwu,hlen,n1,n2,au,show ¬ (X:Int)>most from by omega,show ¬ (X:Int)>(l.length:Int)-n from by omega,hwx,hwe,g1,g2,V.under,V.under.go]
   . refine .inr ⟨?_,.str ⟨#[]⟩,λlo=>?_⟩
     . simp only [gN,k1];rw [if_neg hbig]
     . rw [aM Ki Km];by_cases hg:x>most
       . simp [ae,GU,k4,hm,hneg,hmn,hw,n1,n2,au,hg,V.under,V.under.go]
       . have hg2:x>(l.length:Int)-n:=by rw [List.length_drop] at hbig; omega
         simp [ae,GU,k4,hm,hneg,hmn,hw,hws,hwu,hlen,n1,n2,au,hg,hg2,V.under,V.under.go]
 . refine .inr ⟨by simp only [gN,k1],.str ⟨#[]⟩,λlo=>?_⟩;rw [aM Ki Km];simp [ae,GU,k4,n1,n2,au,V.under,V.under.go]
theorem Ak {p:Nat}{bs:List Blk}{st:Option (List Int)}(hR:RdS p bs st){most:Int}(h0:0<=most)(h1:most<2 ^ 62):Reads E 44 [.ptr p 0,.d (i64 most)] p bs st (gN most) (λs=>.str s) ⟨#[]⟩:=by
 have h:=nA (E:=E) (enc:=λs=>D.str s) (zero:=⟨#[]⟩) X3 Yn (hR.lay [.cells [.d (i64 most)]]) (LP h404 (p:=p) (m:=bs.length) (by simp) h0 h1);refine h.through [.cells [.d (i64 most)]] (λx bs' lo' k lo=>?_) hR;rw [aM XR Yg];simp [ae,SL,k]
end
theorem aa3 {p:Nat}{bs:List Blk}{st:Option (List Int)}(hR:RdS p bs st):∃ l,(∀ b,st=some b->b=l)/\∀ lo,Sm E TRd aD 105 [.ptr p 0] ⟨bs,lo⟩=some (.d (i64 l.length),⟨bs,lo⟩):=by
 obtain ⟨v,l,h1,h2,h3,h4,h5⟩:=hR;obtain ⟨n1,n2,n3⟩:=h2.nu;refine ⟨l,h5,λlo=>?_⟩;have hlen:=λh=>h2.len h;rw [aM X5 Yp];simp [ae,SQ,h1,hlen,V.under]
theorem Uf {p:Nat}{bs:List Blk}{st:Option (List Int)}(hR:RdS p bs st)(lo:Nat):Sm E TRd aD 106 [.ptr p 0] ⟨bs,lo⟩=some (.d (i64 (if st.isNone=true then 2 else 0)),⟨bs,lo⟩):=by
 obtain ⟨v,l,h1,h2,h3,h4,h5⟩:=hR;obtain ⟨n1,n2,n3⟩:=h2.nu;rw [aM X6 Yq];cases hst:st.isNone<;>rw [hst] at h1<;>simp [ae,SV,h1,au,V.under]
theorem Ue {p:Nat}{bs:List Blk}{st:Option (List Int)}(hR:RdS p bs st):∃ bs',∃ F:Nat->Nat,(∀ lo,Sm E TRd aD 53 [.ptr p 0] ⟨bs,lo⟩=some (.d (i64 (if st=some [] then 0 else 2)),⟨bs',F lo⟩))/\Old p bs bs'/\∀ lo:Nat,F lo<=lo:=by
 obtain ⟨l,k1,k2⟩:=aa3 (E:=E) hR;have hp:=hR.lt;by_cases hl:0<l.length
 . obtain ⟨bs',q1,q2,q3⟩:=Le (E:=E) hR;have q4:=Uf (E:=E) q2 (min bs.length p);have hne:¬ st=some []:=λh=>by have:=k1 _ h; subst this; simp at hl
   refine ⟨bs',λlo=>min lo (min bs.length p),λlo=>?_,q3,λlo=>Nat.min_le_left _ _⟩;rw [aM O6 Pz];simp at q4;simp [ae,JZ,k2,q1,q4,hl,hne,V.under];intro hh;omega
 . have hl0:l=[]:=List.eq_nil_of_length_eq_zero (by omega);subst hl0;have q4:=Uf (E:=E) hR bs.length;refine ⟨bs,id,λlo=>?_,Old.refl _ _,λlo=>bo _⟩;rw [aM O6 Pz];cases st with
   | none=>simp at q4; simp [ae,JZ,k2,q4,V.under]
   | some b =>
    have:=k1 b rfl;subst this;simp at q4; simp [ae,JZ,k2,q4,V.under]
end
end
section
def Quiet (K:List Nat)(u:Tr):Prop:=u.call=false/\u.big=false/\u.wr=[]/\u.lo=u.hi/\∀ b∈u.nd,b∈K
def Sto (K:List Nat)(u:Tr):Prop:=u.call=false/\u.big=false/\u.lo=u.hi/\∀ b∈u.wr,b ∉ K
def Lay (K:List Nat)(m:Nat)(u:Tr):Prop:=u.call=false/\u.big=false/\u.wr=[]/\u.nd=[]/\m<=u.lo/\∀ b∈K,b<m
def TrR (K:List Nat)(m:Nat)(t:Tr):Prop:=(∀ u,Quiet K u->t.spares u=true/\u.spares t=true)/\∀ u,Lay K m u->t.spares u=true/\u.spares t=true
theorem Quiet.spares {K:List Nat}{u w:Tr}(h:Quiet K u)(k:Quiet K w):u.spares w=true:=by
 obtain ⟨a1,a2,a3,a4,_⟩:=h;obtain ⟨b1,b2,_⟩:=k;simp only [Tr.spares,a2,b2,b1,a3,a4,Bool.or_self,bk,if_false,cm];intro b _;simp
theorem Quiet.sto {K:List Nat}{u w:Tr}(h:Quiet K u)(k:Sto K w):u.spares w=true/\w.spares u=true:=by
 obtain ⟨a1,a2,a3,a4,a5⟩:=h;obtain ⟨b1,b2,b3,b4⟩:=k;constructor
 . simp only [Tr.spares,a2,b2,b1,a3,a4,Bool.or_self,bk,if_false,cm];intro b _;simp
 . simp only [Tr.spares,a2,b2,a1,b3,Bool.or_self,bk,if_false,cm];intro b hb;have:b ∉ w.wr:=λhw=>b4 b hw (a5 b hb);simp [this]
theorem Quiet.lay {K:List Nat}{m:Nat}{u w:Tr}(h:Quiet K u)(k:Lay K m w):u.spares w=true/\w.spares u=true:=by
 obtain ⟨a1,a2,a3,a4,a5⟩:=h;obtain ⟨b1,b2,b3,b4,b5,b6⟩:=k;constructor
 . simp only [Tr.spares,a2,b2,b1,b4,Bool.or_self,bk,if_false,List.all_nil]
 . simp only [Tr.spares,a2,b2,a1,b3,Bool.or_self,bk,if_false,cm];intro b hb;have h1:=b6 b (a5 b hb);have:¬ w.lo<=b:=by omega
   simp [this]
def Cls (K:List Nat)(m:Nat):Nat->Tr->Prop
 | 0,t=>Quiet K t
 | 1,t=>TrR K m t
 | 2,t=>Sto K t
 | _,t=>Lay K m t
def ClsOk (K:List Nat)(m:Nat):List Nat->List Tr->Prop
 | [],[]=>True
 | c::cs,t::ts=>Cls K m c t/\ClsOk K m cs ts
 | _,_=>False
def Qy:Nat->Nat->Bool
 | 0,_=>true
 | _,0=>true
 | 1,3=>true
 | 3,1=>true
 | _,_=>false
def OG (pr:List (List Nat))(cs:List Nat):Bool:=(List.range cs.length).all λi=>(List.range cs.length).all λj =>
 i==j||(pr.getD i []).contains j||(pr.getD j []).contains i||Qy (cs.getD i 2) (cs.getD j 2)
theorem ClsOk.len {K:List Nat}{m:Nat}:∀ {cs:List Nat} {ts:List Tr},ClsOk K m cs ts->cs.length=ts.length
 | [],[],_=>rfl
 | _::_,_::_,h=>by simp [ClsOk.len h.2]
 | [],_::_,h=>h.elim
 | _::_,[],h=>h.elim
theorem ClsOk.get {K:List Nat}{m:Nat}:∀ {cs:List Nat} {ts:List Tr},ClsOk K m cs ts->∀ {i:Nat},i<ts.length->∃ t,ts[i]?=some t/\Cls K m (cs.getD i 2) t
 | [],[],_,i,hi=>by simp at hi
 | c::cs,t::ts,h,0,_=>⟨t,rfl,h.1⟩
 | c::cs,t::ts,h,i+1,hi=>by
  obtain ⟨t,h1,h2⟩:=ClsOk.get h.2 (i:=i) (by simpa using hi);exact ⟨t,by simpa using h1,by simpa using h2⟩
 | [],_::_,h,_,_=>h.elim
 | _::_,[],h,_,hi=>h.elim
theorem Cls.spares {K:List Nat}{m:Nat}{s t:Tr}{a b:Nat}(ha:Cls K m a s)(hb:Cls K m b t)(h:Qy a b=true):s.spares t=true:=by
 unfold Qy at h;split at h
 . have ha:Quiet K s:=ha;unfold Cls at hb;split at hb
   . exact ha.spares hb
   . exact (hb.1 _ ha).2
   . exact (ha.sto hb).1
   . exact (ha.lay hb).1
 . have hb:Quiet K t:=hb;unfold Cls at ha;split at ha
   . exact Quiet.spares ha hb
   . exact (ha.1 _ hb).1
   . exact (hb.sto ha).2
   . exact (hb.lay ha).2
 . have ha:TrR K m s:=ha;have hb:Lay K m t:=hb;exact (ha.2 _ hb).1
 . have ha:Lay K m s:=ha;have hb:TrR K m t:=hb;exact (hb.2 _ ha).2
 . cases h
theorem dI {pr:List (List Nat)}{l:List Tr}(K:List Nat)(m:Nat)(cs:List Nat)(hck:OG pr cs=true)(h:ClsOk K m cs l):bI pr l=true:=by
 unfold bI;simp only [cm,List.mem_range];intro i hi j hj;simp only [OG,h.len,cm,List.mem_range] at hck;have hc:=hck i hi j hj;obtain ⟨s,s1,s2⟩:=h.get hi;obtain ⟨t,t1,t2⟩:=h.get hj;simp only [Bool.or_eq_true] at hc ⊢;obtain hc | hc:=hc
 . exact .inl hc
 . refine .inr ?_;rw [s1,t1];exact s2.spares t2 hc
theorem cz {C:Calls'}{f:FuncId}{A:List V}{bs bs':List Blk}{v:V}{p:Nat}{F:Nat->Nat}(hc:∀ lo,C f A ⟨bs,lo⟩=some (v,⟨bs',F lo⟩))(hp:p<bs.length)(ho:Old p bs bs'){st:Option (List Int)}(h0:st=none->bs'=bs/\∀ lo,F lo=lo)(h1:st≠none->∀ lo,F lo<=p)
 {K:List Nat} (hK:∀ b∈K,b≠p/\∃ cs,aa bs b=some cs/\dm cs cs=true) {m:Nat} (hm:bs.length<=m) :
 ∃ t,∃ G:Nat->Nat,(∀ (lo:Nat) (args:List X) (ev:X->V),args.all (λx=>okV (ev x))=true->args.map ev=A->ev (.c (.fn f []))=.fn f []->cB C (.call (.c (.fn f [])) args) ev ⟨bs,lo⟩=some (v,⟨bs',G lo⟩,t))/\TrR K m t/\(∀ lo,G lo<=lo)/\(st=none->∀ lo,G lo=lo)/\(st≠none->∀ lo,G lo<=p):=by
 cases st with
 | none =>
  obtain ⟨e0,f0⟩:=h0 rfl;subst e0;refine ⟨⟨true,false,[],[],bs'.length,bs'.length,0⟩,λlo=>lo,λlo args ev ha hm hf=>?_,⟨λu hu=>⟨?_,?_⟩,λu hu=>⟨?_,?_⟩⟩,λlo=>bo _,λ_ lo=>rfl,λh=>absurd rfl h⟩
  . rw [aC,if_pos ha,hf,hm,jM,List.append_nil,hc,f0];simp
  . obtain ⟨a1,a2,a3,a4,_⟩:=hu;simp [Tr.spares,a1,a2]
  . obtain ⟨a1,a2,a3,a4,_⟩:=hu;simp [Tr.spares,a2,a3,a4]
  . obtain ⟨a1,a2,a3,a4,_⟩:=hu;simp [Tr.spares,a1,a2,a4]
  . obtain ⟨a1,a2,a3,a4,a5,_⟩:=hu;have:bs'.length<=u.lo:=by omega
    simp [Tr.spares,a2,a3,this]
 | some b =>
  have h1:=h1 (by simp) bs.length;refine ⟨⟨true,true,[],[],bs.length,bs'.length,⟨F bs.length,nE bs bs'⟩⟩,λlo=>min lo (F bs.length),λlo args ev ha hm hf=>?_,⟨λu hu=>⟨?_,?_⟩,λu hu=>⟨?_,?_⟩⟩,λlo=>Nat.min_le_left _ _,(λh=>by cases h),λ_ lo=>ch (Nat.min_le_right _ _) h1⟩
  . rw [aC,if_pos ha,hf,hm,jM,List.append_nil,hc];simp only;rw [if_neg (by omega)]
  . obtain ⟨a1,a2,a3,a4,a5⟩:=hu;have:(u.nd.all λb=>decide (b<F bs.length)||(nE bs bs').contains b)=true:=by
     rw [cm];intro b hb;obtain ⟨c1,cs,c2,c3⟩:=hK b (a5 b hb);have hbl:=aN c2;have hcell:bs[b]?=some (.cells cs):=by
      unfold aa at c2;split at c2
      . rename_i hh; rw [hh]; simpa using c2
      . cases c2
     have:b∈nE bs bs':=by
      simp only [nE,List.mem_filter,List.mem_range];exact ⟨hbl,by rw [ho.2 b c1 hbl,hcell]; exact c3⟩
     simp [this]
    simp only [Tr.spares,a1,this,Bool.true_or,if_true];simp
  . obtain ⟨a1,a2,a3,a4,a5⟩:=hu;simp [Tr.spares,Tr.calm,a2,a3,a4]
  . obtain ⟨a1,a2,a3,a4,_⟩:=hu;simp [Tr.spares,a1,a4]
  . obtain ⟨a1,a2,a3,a4,a5,_⟩:=hu;have:bs.length<=u.lo:=by omega
    simp [Tr.spares,a2,a3,this]
end
section
theorem Step.of {α:Type}{p:Pr α}{b:List Int}{x:α}{st':Option (List Int)}(h:Step p (some b) x st'):(∃ l,p b=some (x,l)/\st'=some l)\/(p b=none/\st'=none):=by
 unfold Step at h;simp only at h;split at h
 . rename_i y l hp;exact .inl ⟨l,by rw [hp,h.1],h.2⟩
 . rename_i hp;exact .inr ⟨hp,h⟩
theorem Step.ok {α:Type}{p:Pr α}{b:List Int}{x:α}{l:List Int}(h:p b=some (x,l)):Step p (some b) x (some l):=by simp [Step,h]
theorem Step.fails {α:Type}{p:Pr α}{b:List Int}{x:α}(h:p b=none):Step p (some b) x none:=by simp [Step,h]
theorem jD {n:Int}(h0:0<=n)(h1:n<=4294967295):Inr .i64 n:=by
 simp [Inr,Lit.wf,IntKind.min,IntKind.max,IntKind.bits,IntKind.signed]; omega
theorem iZ {n:Int}(h:oz n):Inr .u64 n:=by
 obtain ⟨h0,h1⟩:=h;simp [Inr,Lit.wf,IntKind.min,IntKind.max,IntKind.bits,IntKind.signed]; omega
theorem wP {n:Int}(h0:0<=n)(h1:n<=4294967295):Inr .u32 n:=by
 simp [Inr,Lit.wf,IntKind.min,IntKind.max,IntKind.bits,IntKind.signed]; omega
theorem SlOk.wf {α:Type}{f:Nat->α->Prop}{ok:α->Prop}{most:Int}{B:Nat}{s:Sl α}(h:SlOk most ok s)(hm:most<=B)(hf:∀ x,ok x->f B x):s.wf B f:=by
 obtain ⟨h1,h2,h3⟩:=h;refine ⟨⟨by omega,λhn=>?_⟩,λx hx=>hf x (h3 x hx)⟩;rw [h1] at hn;exact List.isEmpty_iff.1 hn
section
variable {B:Nat}(hB:8192<=B)
include hB
theorem termOk.wf {t:Term}(h:termOk t):t.wf B:=⟨jD h.1.1 (by have:=h.1.2; omega),by have:=h.2.1; omega⟩
omit hB in
theorem cidrOk.wf {t:Cidr}(h:cidrOk t):t.wf B:=⟨wP h.1.1 (by have:=h.1.2; omega),jD h.2.1 (by have:=h.2.2; omega)⟩
theorem TmOk.wf {s:Sl Term}(h:TmOk s):s.wf B Term.wf:=SlOk.wf h (by omega) λx hx=>termOk.wf hB hx
theorem sourceOk.wf {s:Source}(h:sourceOk s):s.wf B:=⟨TmOk.wf hB h.1,TmOk.wf hB h.2.1,SlOk.wf h.2.2 (by omega) λx hx=>cidrOk.wf hx⟩
theorem targetOk.wf {s:Target}(h:targetOk s):s.wf B:=⟨SlOk.wf (f:=Jm) h.1 (by omega) λx hx=>jD hx.1 (by have:=hx.2; omega),TmOk.wf hB h.2.1,TmOk.wf hB h.2.2.1,TmOk.wf hB h.2.2.2⟩
theorem whenOk.wf {s:When}(h:whenOk s):s.wf B:=⟨by have:=h.1.1; omega,TmOk.wf hB h.2⟩
theorem ruleOk.wf {s:Rule}(h:ruleOk s):s.wf B:=⟨SlOk.wf h.1 (by omega) λx hx=>sourceOk.wf hB hx,SlOk.wf h.2.1 (by omega) λx hx=>targetOk.wf hB hx,SlOk.wf h.2.2 (by omega) λx hx=>whenOk.wf hB hx⟩
theorem polOk.wf {p:Pol}(h:polOk p):p.wf B:=⟨iZ h.1,by have:=h.2.1.1; omega,iZ h.2.2.1,jD h.2.2.2.1.1 (by have:=h.2.2.2.1.2; omega),SlOk.wf h.2.2.2.2 (by omega) λx hx=>ruleOk.wf hB hx⟩
theorem podOk.wf {p:Pod}(h:podOk p):p.wf B:=by
 obtain ⟨h1,h2,h3,h4,h5,h6,h7⟩:=h;exact ⟨iZ h1,by have:=h2.1; omega,by have:=h3.1; omega,jD h4.1 (by have:=h4.2; omega),wP h5.1 h5.2,jD h6.1 (by have:=h6.2; omega),iZ h7⟩
theorem svcOk.wf {p:Svc}(h:svcOk p):p.wf B:=by
 obtain ⟨h1,h2,h3,h4,h5⟩:=h;exact ⟨iZ h1,by have:=h2.1; omega,wP h3.1 h3.2,jD h4.1 (by have:=h4.2; omega),iZ h5⟩
omit hB in
theorem wayOk.wf {p:Way}(h:wayOk p):p.wf B:=⟨iZ h.1,jD h.2.1 (by have:=h.2.2; omega)⟩
theorem cfgOk.wf {c:Cfg}(h:cfgOk c):c.wf B:=by
 obtain ⟨h1,h2,h3,h4,h5,h6,h7,h8⟩:=h;exact ⟨iZ h1,iZ h2,jD h3.1 (by have:=h3.2; omega),jD h4.1 (by have:=h4.2; omega),SlOk.wf h5 (by omega) λx hx=>podOk.wf hB hx,SlOk.wf h6 (by omega) λx hx=>svcOk.wf hB hx,SlOk.wf h7 (by omega) λx hx=>wayOk.wf hx,SlOk.wf h8 (by omega) λx hx=>polOk.wf hB hx.1⟩
end
end
