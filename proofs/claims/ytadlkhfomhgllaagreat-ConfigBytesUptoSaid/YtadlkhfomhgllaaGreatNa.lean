/- The document's reader, in plain words: the number at the front of bytes. -/
import Derived.Test.YtadlkhfomhgllaaGreatUn
import Derived.Test.YtadlkhfomhgllaaGreatXy
set_option maxRecDepth 100000
set_option linter.unusedVariables false
set_option linter.unusedSimpArgs false
namespace Go.Proofs.YtadlkhfomhgllaaGreat
open IntKind (wrap)
section
def xL:List Int->Int
 | []=>0
 | c::l=>c % 128+128 * xL l
theorem xN:∀ (k:Nat) (x:Int),0<=x->x<128 ^ (k+1)->xL (iw k x)=x
 | 0,x,h0,h1=>by simp only [iw,xL,wrap_u8]; omega
 | k+1,x,h0,h1=>by
  have h2:x.fdiv 128=x / 128:=Int.fdiv_eq_ediv_of_nonneg _ (by decide);have h3:x / 128<128 ^ (k+1):=by
   rw [Int.pow_succ] at h1;exact Int.ediv_lt_of_lt_mul (by decide) h1
  rw [iw,xL,xc,h2,xN k _ (by omega) h3];omega
theorem QP {x:Int}(h0:0<=x)(h1:x<2 ^ 64):x<128 ^ ((dE x).toNat-1+1):=by
 obtain ⟨a0,a1,_⟩:=wR h0 h1;have hgeq:=zD x;have e:((dE x).toNat-1+1:Nat)=(dE x).toNat:=by omega
 rw [e];have h7:(128:Int) ^ (dE x).toNat=2 ^ (7 * (dE x).toNat):=by
  rw [Int.pow_mul]; rfl
 have hle:(eG x).toNat<=7 * (dE x).toNat:=by split at hgeq<;>omega
 have hpp:(2:Int) ^ (eG x).toNat<=2 ^ (7 * (dE x).toNat):=by
  exact_mod_cast Nat.pow_le_pow_right (by omega:0<2) hle
 rw [h7]; omega
theorem xM {x:Int}(h0:0<=x)(h1:x<2 ^ 64):xL (aK x)=x:=xN _ _ h0 (QP h0 h1)
def gI (l:List Int):Int×Nat:=match pUint l with
 | some (x,m)=>(x,l.length-m.length)
 | none=>(0,0)
def atF (l:List Int)(n:Nat):Int:=wrap .u64 (xL (l.take n))
def uR (l:List Int)(n:Nat):Bool:=aK (atF l n)==l.take n
theorem PZ {n:Int}(h0:0<=n)(h1:n<2 ^ 64):wrap .u64 n=n:=by
 simp only [wrap,IntKind.bits,IntKind.signed,Bool.false_and,bk,if_false];exact Int.emod_eq_of_lt h0 h1
theorem pU (n:Int):0<=wrap .u64 n/\wrap .u64 n<2 ^ 64:=by
 have h1:=Int.emod_nonneg n (show (2:Int) ^ 64≠0 by decide);have h2:=Int.emod_lt_of_pos n (show (0:Int)<2 ^ 64 by decide);simp only [wrap,IntKind.bits,IntKind.signed,Bool.false_and,bk,if_false];exact ⟨h1,h2⟩
theorem yG {l:List Int}{n:Nat}(h:uR l n=true):pUint l=some (atF l n,l.drop n):=by
 have h1:aK (atF l n)=l.take n:=by simpa [uR] using h
 have:=uint_cod.fwd (atF l n) (l.drop n) (pU _)
 rwa [h1,List.take_append_drop] at this
theorem qo {l:List Int}(hb:byteL l){x:Int}{m:List Int}(h:pUint l=some (x,m)):∃ n,1<=n/\n<=10/\n<=l.length/\uR l n=true/\m=l.drop n/\l.length-m.length=n/\x=atF l n:=by
 obtain ⟨h1,h2,h3⟩:=uint_cod.bwd l x m hb h;have hl:=KO x;have hg:=oH x;refine ⟨(aK x).length,by omega,by omega,by rw [h1]; simp,?_,by rw [h1,List.drop_left],by rw [h1]; simp,?_⟩
 . simp only [uR,atF,h1,List.take_left,xM h2 h3,PZ h2 h3,beq_self_eq_true]
 . simp only [atF,h1,List.take_left,xM h2 h3,PZ h2 h3]
theorem ru {l:List Int}(hb:byteL l){n:Nat}(h1:1<=n)(h2:uR l n=true)(h3:n<=l.length):gI l=(atF l n,n):=by
 simp only [gI,yG h2,List.length_drop]
 congr 1
 omega
end
section
def YH:List (Nat×QF):=[(107,GY),(108,GZ),(54,J3),(56,Dz),(58,NG),(225,J6),(174,NN),(55,NF),(172,NM),(173,J5),(109,J4),(57,DC),(14,r95)]
def TDr:FuncId->Option QF:=lu YH
def aV (f:FuncId):Bool:=[57,14].any λn=>Nat.beq n f
variable {E:Calls'}
def dL (E:Calls'):Prop:=∀ x:Int,0<=x->x<2 ^ 64->∀ bs,∃ A,∀ lo,E 91 [.d (u64 x)] ⟨bs,lo⟩=some (.row (bs.length+2) 0 (aK x).length none 1,⟨bs++[.cells A,.cells [],.cells ((aK x).map (iv .u8))],min lo bs.length⟩)
def Byts (bs:List Blk)(v:V)(l:List Int):Prop:=(∃ nl,v=.d (Sl.d u8C ⟨nl,l⟩))\/∃ b o cap cs,v=.row b o l.length cap 1/\aa bs b=some cs/\sub cs o l.length=some (l.map (iv .u8))
theorem Byts.lay {bs:List Blk}{v:V}{l:List Int}(h:Byts bs v l)(ys:List Blk):Byts (bs++ys) v l:=by
 obtain h | ⟨b,o,cap,cs,h1,h2,h3⟩:=h
 . exact .inl h
 . exact .inr ⟨b,o,cap,cs,h1,ay h2,h3⟩
theorem Byts.len {bs:List Blk}{v:V}{l:List Int}(h:Byts bs v l)(hp:Hp):pW false v hp=some (.d (i64 l.length),hp):=by
 obtain ⟨nl,rfl⟩ | ⟨b,o,cap,cs,rfl,_⟩:=h
 . simp [Sl.d]
 . rfl
theorem Byts.nu {bs:List Blk}{v:V}{l:List Int}(h:Byts bs v l):Go.Proofs.YtadlkhfomhgllaaGreat.nu v=some v/\okV v=true/\v.cells=some [v]:=by
 obtain ⟨nl,rfl⟩ | ⟨b,o,cap,cs,rfl,_⟩:=h<;>exact ⟨rfl,rfl,rfl⟩
theorem Byts.rowIs {bs:List Blk}{v:V}{l:List Int}(h:Byts bs v l):RowIs bs v 1 (l.map u8C):=by
 refine ⟨by simp [u8C],?_⟩;obtain ⟨nl,rfl⟩ | ⟨b,o,cap,cs,rfl,h2,h3⟩:=h
 . exact .inl ⟨nl,rfl⟩
 . refine .inr ⟨b,o,cap,cs,by simp,h2,?_⟩;have:(l.map u8C).flatten.map V.d=l.map (iv .u8):=kJ l;rw [this]; simpa using h3
theorem Byts.str {bs:List Blk}{v:V}{l:List Int}(h:Byts bs v l)(lo:Nat):iW v ⟨bs,lo⟩=some (.d (.str (strOf l)),⟨bs,lo⟩):=by
 obtain ⟨nl,rfl⟩ | ⟨b,o,cap,cs,rfl,h2,h3⟩:=h
 . exact IP
 . have hb:=ma (h:=⟨bs,lo⟩) (l:=l);have hall:(l.map λn=>[D.int .u8 n]).all (λe=>e.length==1)=true:=by simp
   simp only [iW,bytesD,aF,hall,if_true,kJ] at hb;simp only [iW,aF,if_true,get_eq,h2,Nat.mul_one,h3,Option.map_some];exact hb
theorem Byts.cut {bs:List Blk}{v:V}{l:List Int}(h:Byts bs v l){a b:Nat}(hab:a<=b)(hb:b<=l.length):∃ w,Byts bs w ((l.take b).drop a)/\∀ (hp:Hp) (ev:X->V) (lo hi:Option X),bD ev lo 0=some a->bD ev hi l.length=some b->bM hp ev .sl 1 v lo hi none=some w:=by
 obtain ⟨nl,rfl⟩ | ⟨B,o,cap,cs,rfl,h2,h3⟩:=h
 . refine ⟨.d (Sl.d u8C ⟨nl,(l.take b).drop a⟩),.inl ⟨nl,rfl⟩,λhp ev lo hi e1 e2=>?_⟩;have e3:bD ev hi (l.map u8C).length=some b:=by rw [cc]; exact e2
   simp only [Sl.d,bM,e1,e3];rw [if_pos ⟨hab,by rw [cc]; exact hb,by cases l<;>rfl⟩,List.map_drop,List.map_take]
 . have hlen:((l.take b).drop a).length=b-a:=by simp; omega
   by_cases ha:a=0
   . subst ha;refine ⟨.row B o b cap 1,.inr ⟨B,o,cap,cs,by rw [hlen]; rfl,h2,?_⟩,λhp ev lo hi e1 e2=>?_⟩
     . simp only [sub] at h3 ⊢;split at h3
       . simp only [ba] at h3;rw [hlen,if_pos (by omega)]
         congr 1
         rw [List.drop_zero,List.map_take,← h3,List.take_take,Nat.min_eq_left (by omega)]; rfl
       . cases h3
     . simp only [bM,e1,e2];rw [if_pos ⟨hab,hb,trivial⟩];simp
   . by_cases hal:a<l.length
     . refine ⟨.row B (o+a) (b-a) (cap.map (· - a)) 1,.inr ⟨B,o+a,_,cs,by rw [hlen],h2,?_⟩,λhp ev lo hi e1 e2=>?_⟩
       . simp only [sub] at h3 ⊢;split at h3
         . simp only [ba] at h3;rw [hlen,if_pos (by omega)]
           congr 1
           rw [List.map_drop,List.map_take,← h3,List.take_take,List.drop_take,bb,Nat.min_eq_left (by omega)]
         . cases h3
       . simp only [bM,e1,e2];rw [if_pos ⟨hab,hb,trivial⟩,if_neg ha,if_pos hal,Nat.mul_one]
     . refine ⟨.d (.slice false []),.inl ⟨false,?_⟩,λhp ev lo hi e1 e2=>?_⟩
       . have:(l.take b).drop a=[]:=aw (by simp; omega);rw [this]; rfl
       . simp only [bM,e1,e2];rw [if_pos ⟨hab,hb,trivial⟩,if_neg ha,if_neg hal]
theorem Byts.blk {bs:List Blk}{v:V}{l:List Int}(h:Byts bs v l):v.blk=[]\/∃ B,v.blk=[B]/\B<bs.length:=by
 obtain ⟨nl,rfl⟩ | ⟨b,o,cap,cs,rfl,h2,h3⟩:=h
 . exact .inl rfl
 . exact .inr ⟨b,rfl,aN h2⟩
theorem LG {a b:List Int}(ha:byteL a)(hb:byteL b):eqS (strOf a) (strOf b)=(a==b):=by
 rw [Bool.eq_iff_iff,KC ha hb]; simp
theorem wT {T:FuncId->Option QF}{val:FuncId->Bool}{keep:List Nat}{body:QC}(env:Nat->EA)(I:Hp->Prop)(k:Nat)(R:Ex×EA)
 (hr:∀ i,i<k->∀ h,I h->∃ h',I h'/\∀ W:EA->Hp->dx,bH keep W (Cd E T val body (bq keep (env i)) h)=W (env (i+1)) h')
 (hR:∀ h,I h->∃ h',I h'/\∀ W:EA->Hp->dx,bH keep W (Cd E T val body (bq keep (env k)) h)=some (R.1,R.2,h')) (h:Hp) (hI:I h) :
 ∃ h',I h'/\Cd E T val (.loop keep body) (env 0) h=some (R.1,R.2,h'):=by
 have:∀ (m i:Nat) (h:Hp),i+m=k->I h->∃ h',I h'/\Cd E T val (.loop keep body) (env i) h=some (R.1,R.2,h'):=by
  intro m;have key:=aB (E:=E) (T:=T) (val:=val) keep body;generalize Cd E T val (.loop keep body)=W at key ⊢
  induction m with
  | zero =>
   intro i h hi hI;obtain ⟨h',h1,h2⟩:=hR h hI;exact ⟨h',h1,by rw [key,show i=k by omega,h2 W]⟩
  | succ m ih =>
   intro i h hi hI;obtain ⟨h',h1,h2⟩:=hr i (by omega) h hI;obtain ⟨h2',h3,h4⟩:=ih (i+1) h' (by omega) h1;exact ⟨h2',h3,by rw [key,h2 W,h4]⟩
 exact this k 0 h (by omega) hI
def RwS (p:Nat)(bs:List Blk)(st:Option (List Int)):Prop:=∃ v l,aa bs p=some [v,bl st.isNone]/\Byts bs v l/\byteL l/\l.length<=big/\(∀ b,st=some b->b=l)/\∀ b o n cap z,v=.row b o n cap z->b≠p
theorem Ih (v c:Int):wrap .u64 (wrap .u64 (wrap .u64 v * 128)+wrap .u64 (c % 128))=wrap .u64 (c % 128+128 * v):=by
 simp only [wrap_u64];omega
theorem NI {bs:List Blk}{p:Nat}{v x:V}{l:List Int}(hp:aa bs p=some [v,x])(hv:Byts bs v l)(hb:byteL l){n:Nat}(hn:n<=l.length)(hl:l.length<2 ^ 62)(lo:Nat) :
 Cd E TDr aV (.loop [0,4,5,6] sJ) [(0,.ptr p 0),(4,.d (i64 n)),(5,.d (u64 0)),(6,.d (i64 ((n:Int)-1)))] ⟨bs,lo⟩=some (.exit 2,[(0,.ptr p 0),(4,.d (i64 n)),(5,.d (u64 (atF l n)))],⟨bs,lo⟩):=by
 have X0:wrap .u64 (xL ((l.take n).drop n))=0:=by
  rw [aw (by simp; omega)]; rfl
 have key:=yK (E:=E) (T:=TDr) (val:=aV) (keep:=[0,4,5,6]) (body:=sJ) (λj=>[(0,.ptr p 0),(4,.d (i64 n)),(5,.d (u64 (wrap .u64 (xL ((l.take n).drop (n-j)))))),(6,.d (i64 ((n:Int)-1-j)))]) ⟨bs,lo⟩ n (.exit 2,[(0,.ptr p 0),(4,.d (i64 n)),(5,.d (u64 (atF l n)))],⟨bs,lo⟩) (λj hj W=>?_) (λW=>?_)
 . have v0:wrap .u64 (xL [])=0:=rfl;simpa [v0] using key
 . have hlt:n-1-j<l.length:=by omega
   have hidx:((n:Int)-1-j)=((n-1-j:Nat):Int):=by omega
   obtain ⟨q,q1,q2⟩:=hv.rowIs.at hlt (l:=lo);have hc:=hb _ (bd hlt);have hd:(l.take n).drop (n-(j+1))=l[n-1-j]::(l.take n).drop (n-j):=by
    have h1:n-(j+1)<(l.take n).length:=by simp; omega
    rw [aq h1];have h2:n-(j+1)+1=n-j:=by omega
    have h3:n-(j+1)=n-1-j:=by omega
    rw [h2,List.getElem_take];simp only [h3]
   generalize l[n-1-j]=c at *;rw [hd,xL];have hw:wrap .i64 ((n:Int)-1-j-1)=(n:Int)-1-((j:Int)+1):=by rw [wrap64]<;>omega
   have h0:(j:Int)<=(n:Int)-1:=by omega
   have hst:=Ih (xL ((l.take n).drop (n-j))) c;have hsh:∀ a:Int,bK .shl (.d (.int .u64 a)) (.d (.int .u64 7))=some (.int .u64 (wrap .u64 (a * 2 ^ (min (7:Int).toNat 64)))):=λa=>mF (by decide);simp only [show min (7:Int).toNat 64=7 by decide,show (2:Int) ^ 7=128 by decide] at hsh;rw [← hidx] at q1;simp [u8C] at q2;simp [sJ,h0,hp,q1,q2,ldv,hsh,hst,Eu hc,hw]
 . have h0:¬ (n:Int)<=(n:Int)-1:=by omega
   simp [sJ,atF,h0]
theorem qM (hE:dL E){bs:List Blk}{p:Nat}{v x:V}{l:List Int}(hp:aa bs p=some [v,x])(hv:Byts bs v l)(hb:byteL l)(hl:l.length<=big){i:Nat}(hi:i+1<=10)(hil:i+1<=l.length)(h:Hp)(hI:∃ ys lo',h=⟨bs++ys,lo'⟩/\bs.length<=lo') :
 ∃ h',(∃ ys lo',h'=⟨bs++ys,lo'⟩/\bs.length<=lo')/\∀ W:EA->Hp->dx,bH [0,4] W (Cd E TDr aV lI (bq [0,4] [(0,.ptr p 0),(4,.d (i64 ((i+1:Nat):Int)))]) h)=cond (uR l (i+1)) (some (.ret,[(2,.d (u64 (atF l (i+1)))),(3,.d (i64 ((i+1:Nat):Int)))],h')) (W [(0,.ptr p 0),(4,.d (i64 ((i+1+1:Nat):Int)))] h'):=by
 obtain ⟨ys,lo',rfl,hlo⟩:=hI;have hlen:l.length<2 ^ 62:=cg hl (by decide);have hp':aa (bs++ys) p=some [v,x]:=ay hp;have hv':=hv.lay ys;have hin:=NI (E:=E) hp' hv' hb hil hlen lo';obtain ⟨A,hsh⟩:=hE (atF l (i+1)) (pU _).1 (pU _).2 (bs++ys);have hsh:=λlo=>(fA (E:=E) (T:=TDr) (val:=aV) (f:=91) (by kernel_rfl)).trans (hsh lo);obtain ⟨w,w1,w2⟩:=(hv'.lay [.cells A,.cells [],.cells ((aK (atF l (i+1))).map (iv .u8))]).cut (Nat.zero_le (i+1)) hil;obtain ⟨w',w1',w2'⟩:=hv.cut (Nat.zero_le (i+1)) hil;have hww:w=w':=ct ((w2 ⟨[],0⟩ (λx=>.d (i64 ((i:Int)+1))) none (some (.t 0)) rfl (by simp only [bD]; rw [if_pos (by omega)]; congr 1)).symm.trans (w2' ⟨[],0⟩ (λx=>.d (i64 ((i:Int)+1))) none (some (.t 0)) rfl (by simp only [bD]; rw [if_pos (by omega)]; congr 1)));have bw:=w1'.blk;rw [← hww] at bw;have bv:=hv.blk;have bp:=aN hp;rw [List.drop_zero] at w1;have hrow:Byts (bs++ys++[.cells A,.cells [],.cells ((aK (atF l (i+1))).map (iv .u8))]) (.row ((bs++ys).length+2) 0 (aK (atF l (i+1))).length none 1) (aK (atF l (i+1))):=.inr ⟨_,0,none,_,rfl,by rw [gK]; rfl,by rw [← cc (f:=iv .u8)]; exact bB rfl⟩;have e1:=hrow.str;have e2:=w1.str;have hbt:byteL (l.take (i+1)):=λc hc=>hb c (List.mem_of_mem_take hc);have heq:=LG (uint_cod.rng (atF l (i+1)) (pU _)) hbt;have hu:=hv.nu
 have hw:wrap .i64 ((i:Int)+1+1)=(i:Int)+1+1:=by rw [wrap64]<;>omega
 have hw1:wrap .i64 (i:Int)=i:=by rw [wrap64]<;>omega
 have hln:=hv.len;have h10:(i:Int)+1<=10:=by omega
 have hll:(i:Int)+1<=l.length:=by omega
 simp at hin;simp only [List.append_assoc] at hsh e1 e2 w2;refine ⟨⟨bs++(ys++[.cells A,.cells [],.cells ((aK (atF l (i+1))).map (iv .u8))]),lo'⟩,⟨_,_,rfl,hlo⟩,λW=>?_⟩;simp [lI,hp',hln,h10,hll,hw1];rw [ai];have hp2:∀ zs,aa (bs++(ys++zs)) p=some [v,x]:=λzs=>ay hp;have hw2:∀ (hp:Hp) (ev:X->V),ev (.t 45)=.d (i64 ((i:Int)+1))->bM hp ev .sl 1 v none (some (.t 45)) none=some w:=λhp ev he=>w2 hp ev none (some (.t 45)) rfl (by simp only [bD,he]; rw [if_pos (by omega)]; congr 1);simp at hsh e1;simp [hin,hsh,hp2,e1,e2,hw2,heq,aL,aC];rw [if_pos]
 . have hh:(aK (atF l (i+1))==l.take (i+1))=uR l (i+1):=rfl;rw [hh];cases uR l (i+1)<;>simp [hw]
 . obtain bv | ⟨Bv,bv,bv2⟩:=bv<;>obtain bw | ⟨Bw,bw,bw2⟩:=bw<;>simp [bI,List.range,List.range.loop,Tr.spares,bv,bw]<;>omega
theorem Bi {l:List Int}(h:pUint l=none):gI l=(0,0):=by simp [gI,h]
theorem VN:TDr 107=some GY:=by kernel_rfl
theorem Vs (hE:dL E){bs:List Blk}{p:Nat}{v x:V}{l:List Int}(hp:aa bs p=some [v,x])(hv:Byts bs v l)(hb:byteL l)(hl:l.length<=big)(lo:Nat) :
 Sm E TDr aV 107 [.ptr p 0] ⟨bs,lo⟩=some (.tup [.d (u64 (gI l).1),.d (i64 (gI l).2)],⟨bs,lo⟩):=by
 have hln:=hv.len;have hL:∃ (R:Ex×EA) (h':Hp),(∃ ys lo',h'=⟨bs++ys,lo'⟩/\bs.length<=lo')/\Cd E TDr aV (.loop [0,4] lI) [(0,.ptr p 0),(4,.d (i64 1))] ⟨bs,bs.length⟩=some (R.1,R.2,h') ∧
  ((gI l=(0,0)/\R=(.exit 0,[]))\/R=(.ret,[(2,.d (u64 (gI l).1)),(3,.d (i64 (gI l).2))])):=by
  have hI0:∃ ys lo',(⟨bs,bs.length⟩:Hp)=⟨bs++ys,lo'⟩/\bs.length<=lo':=⟨[],bs.length,by simp,bo _⟩;cases hpu:pUint l with
  | some r =>
   obtain ⟨y,m⟩:=r;obtain ⟨n,n1,n2,n3,n4,n5,n6,n7⟩:=qo hb hpu;have hfr:=ru hb n1 n4 n3;have hmiss:∀ i,i+1<n->uR l (i+1)=false:=λi hi=>by
    cases hh:uR l (i+1) with
    | false=>rfl
    | true =>
     have h1:=ru hb (by omega) hh (by omega);rw [hfr] at h1;have h2:=congrArg Prod.snd h1;simp at h2;omega
   obtain ⟨h',q1,q2⟩:=wT (E:=E) (T:=TDr) (val:=aV) (keep:=[0,4]) (body:=lI) (λi=>[(0,.ptr p 0),(4,.d (i64 ((i+1:Nat):Int)))]) (λh=>∃ ys lo',h=⟨bs++ys,lo'⟩/\bs.length<=lo') (n-1) (.ret,[(2,.d (u64 (gI l).1)),(3,.d (i64 (gI l).2))])
    (λi hi h hI=>by
      obtain ⟨h',a1,a2⟩:=qM hE hp hv hb hl (i:=i) (by omega) (by omega) h hI;exact ⟨h',a1,λW=>by rw [a2 W,hmiss i (by omega)]; rfl⟩)
    (λh hI=>by
      obtain ⟨h',a1,a2⟩:=qM hE hp hv hb hl (i:=n-1) (by omega) (by omega) h hI;have e:n-1+1=n:=by omega
      rw [e] at a2;exact ⟨h',a1,λW=>by simp only [e]; rw [a2 W,n4,hfr]; rfl⟩) _ hI0
   exact ⟨_,h',q1,by simpa using q2,.inr rfl⟩
  | none =>
   have hmiss:∀ i,i+1<=10->i+1<=l.length->uR l (i+1)=false:=λi h1 h2=>by
    cases hh:uR l (i+1) with
    | false=>rfl
    | true=>rw [yG hh] at hpu; cases hpu
   obtain ⟨h',q1,q2⟩:=wT (E:=E) (T:=TDr) (val:=aV) (keep:=[0,4]) (body:=lI) (λi=>[(0,.ptr p 0),(4,.d (i64 ((i+1:Nat):Int)))]) (λh=>∃ ys lo',h=⟨bs++ys,lo'⟩/\bs.length<=lo') (min 10 l.length) (.exit 0,[])
    (λi hi h hI=>by
      obtain ⟨h',a1,a2⟩:=qM hE hp hv hb hl (i:=i) (by omega) (by omega) h hI;exact ⟨h',a1,λW=>by rw [a2 W,hmiss i (by omega) (by omega)]; rfl⟩)
    (λh hI=>by
      obtain ⟨ys,lo',rfl,hlo⟩:=hI;refine ⟨_,⟨ys,lo',rfl,hlo⟩,λW=>?_⟩;have hp':aa (bs++ys) p=some [v,x]:=ay hp;by_cases h10:10<=l.length
      . have e:min 10 l.length=10:=by omega
        simp [lI,e]
      . have e:min 10 l.length=l.length:=by omega
        have hA:(l.length:Int)+1<=10:=by omega
        have hB:¬ ((l.length:Int)+1<=l.length):=by omega
        simp [lI,e,hp',hln,hA,hB]) _ hI0
   exact ⟨_,h',q1,by simpa using q2,.inl ⟨Bi hpu,rfl⟩⟩
 obtain ⟨R,h',⟨ys,lo',rfl,hlo⟩,hC,hR⟩:=hL;rw [aM VN rfl];show fC ⟨bs,lo⟩ (Bd E TDr aV GY [.ptr p 0] ⟨bs,bs.length⟩)=_;have hB:Bd E TDr aV GY [.ptr p 0] ⟨bs,bs.length⟩=some (.tup [.d (u64 (gI l).1),.d (i64 (gI l).2)],⟨bs++ys,lo'⟩):=by
  obtain ⟨hf,rfl⟩ | rfl:=hR
  . simp [ae,GY,hf];rw [ai];simp [hC]
  . simp [ae,GY];rw [ai];simp [hC]
 rw [hB,eu,if_pos ⟨hlo,rfl⟩]
end
section
variable {E:Calls'}
theorem bC {bs bs':List Blk}{x:Nat}{cs:List V}(h:bs'[x]?=bs[x]?)(hg:aa bs x=some cs):aa bs' x=some cs:=by
 rw [← hg]; unfold aa; rw [h]
theorem Byts.cells {bs:List Blk}{v:V}{l:List Int}(h:Byts bs v l)(lo:Nat):aF ⟨bs,lo⟩ v 1=some (l.length,l.map (iv .u8)):=by
 obtain ⟨nl,rfl⟩ | ⟨b,o,cap,cs,rfl,h2,h3⟩:=h
 . have hall:(l.map u8C).all (λe=>e.length==1)=true:=by simp [u8C]
   have hf:(l.map u8C).flatten.map V.d=l.map (iv .u8):=kJ l;simp only [aF,Sl.d,hall,if_true,cc,hf]
 . simp only [aF,if_true,get_eq,h2,Nat.mul_one,h3,Option.map_some]
theorem Byts.cpy {bs:List Blk}{w:V}{l:List Int}(h:Byts bs w l)(hl:l.length<=big):∃ v bs',(∀ lo,dY ⟨bs++[.cells []],lo⟩ 1 1 (.row bs.length 0 0 (some 0) 1) w=some (v,⟨bs',lo⟩))/\bs.length<=bs'.length/\(∀ x,x<bs.length->bs'[x]?=bs[x]?)/\Byts bs' v l/\(∀ b o n cap z,v=.row b o n cap z->bs.length<=b)/\v.cells=some [v]/\Go.Proofs.YtadlkhfomhgllaaGreat.nu v=some v/\okV v=true:=by
 have hrc:=λlo=>(h.lay [.cells []]).cells lo;by_cases h0:l.length=0
 . have hl0:l=[]:=List.length_eq_zero_iff.1 h0;subst hl0;refine ⟨.row bs.length 0 0 (some 0) 1,bs++[.cells []],λlo=>?_,by simp,λx hx=>am hx,.inr ⟨bs.length,0,some 0,[],rfl,by simp,rfl⟩,λb o n cap z hh=>by cases hh; exact bo _,rfl,rfl,rfl⟩;simp only [dY,hrc,aI];simp
 . have hroom:roomy l.length 1=true:=by simp only [roomy,ap,br]; exact ⟨hl,by decide⟩
   refine ⟨.row (bs.length+1) 0 l.length none 1,bs++[.cells [],.cells (l.map (iv .u8))],λlo=>?_,by simp,λx hx=>am hx,.inr ⟨bs.length+1,0,none,l.map (iv .u8),rfl,?_,?_⟩,λb o n cap z hh=>by cases hh; omega,rfl,rfl,rfl⟩
   . simp only [dY,hrc,aI,if_neg h0];simp [hroom,h0]
   . have:=gK (bs:=bs) (ys:=[.cells [],.cells (l.map (iv .u8))]) (i:=1);rw [this]; rfl
   . rw [← cc (f:=iv .u8)]; exact bB rfl
def RdBk (p:Nat)(bs:List Blk)(b:Nat):Prop:=∃ o n c z x,aa bs p=some [.row b o n c z,x]
def OldR (p:Nat)(bs bs':List Blk):Prop:=Old p bs bs'/\∀ b,RdBk p bs' b->RdBk p bs b\/bs.length<=b
theorem OldR.trans {p:Nat}{a b c:List Blk}(h:OldR p a b)(k:OldR p b c):OldR p a c:=⟨h.1.trans k.1,λx hx=>by
 obtain h1 | h1:=k.2 x hx
 . exact h.2 x h1
 . exact .inr (ch h.1.1 h1)⟩
theorem OldR.of {p:Nat}{bs bs':List Blk}(h:Old p bs bs')(hp:bs'[p]?=bs[p]?):OldR p bs bs':=⟨h,λb ⟨o,n,c,z,x,hx⟩=>.inl ⟨o,n,c,z,x,by rw [← hx]; unfold aa; rw [hp]⟩⟩
theorem OldR.lay {p:Nat}(bs ys:List Blk)(hp:p<bs.length):OldR p bs (bs++ys):=OldR.of (Old.lay _ _) (am hp)
theorem VO:TDr 108=some GZ:=by kernel_rfl
theorem QG:TDr 54=some J3:=by kernel_rfl
theorem Qi {bs:List Blk}{p:Nat}{v x:V}{l:List Int}(hp:aa bs p=some [v,x])(hv:Byts bs v l)(hl:l.length<=big)(hvp:∀ b o n cap z,v=.row b o n cap z->b≠p){n:Nat}(hn:n<=l.length) :
 ∃ v' bs',(∀ lo,Sm E TDr aV 108 [.ptr p 0,.d (i64 n)] ⟨bs,lo⟩=some (.tup [],⟨bs',min lo p⟩))/\aa bs' p=some [v',x]/\Byts bs' v' (l.drop n)/\(∀ b o n cap z,v'=.row b o n cap z->b≠p)/\OldR p bs bs':=by
 have bp:=aN hp;obtain ⟨w,w1,w2⟩:=(hv.lay [.cells []]).cut hn (bo _);obtain ⟨w',w1',w2'⟩:=hv.cut hn (bo _);have hbd:∀ (ev:X->V) (x:X),ev x=.d (.int .i64 n)->bD ev (some x) 0=some n:=λev x he=>by
  simp only [bD,he]; rw [if_pos (by omega)]; congr 1
 have hww:w=w':=ct ((w2 ⟨[],0⟩ (λ_=>.d (.int .i64 n)) (some (.t 0)) none (hbd _ _ rfl) rfl).symm.trans (w2' ⟨[],0⟩ (λ_=>.d (.int .i64 n)) (some (.t 0)) none (hbd _ _ rfl) rfl));rw [← hww,List.take_length] at w1';obtain ⟨v',bs',a1,a2,a3,a4,a5,a6,a7,a8⟩:=w1'.cpy (by simp; omega);have hp':aa (bs++[Blk.cells []]) p=some [v,x]:=ay hp;have hpb:aa bs' p=some [v,x]:=bC (a3 p bp) hp;have hw2:∀ (hp:Hp) (ev:X->V),ev (.t 10)=.d (i64 (n:Int))->bM hp ev .sl 1 v (some (.t 10)) none none=some w:=λhp ev he=>w2 hp ev (some (.t 10)) none (hbd _ _ he) rfl;have hpt:put [v,x] 0 [v']=some [v',x]:=rfl;refine ⟨v',bs'.set p (.cells [v',x]),λlo=>?_,aG hpb,?_,λb o n cap z hh=>by have:=a5 b o n cap z hh; omega,⟨⟨by simpa using a2,λy h1 h2=>by rw [ac (Ne.symm h1),a3 y h2]⟩,λb ⟨o,n,c,z,x,hx⟩=>.inr (by rw [aG hpb] at hx; cases hx; exact a5 _ _ _ _ _ rfl)⟩⟩
 . have hB:(Bd E TDr aV GZ [.ptr p 0,.d (i64 n)] ⟨bs,bs.length⟩).map (λo=>(o.1,o.2.bs,o.2.low))=some (.tup [],bs'.set p (.cells [v',x]),min bs.length p):=by
    simp [ae,GZ,az,hp',hw2,a1,hpb,hpt,a6,dB]
   cases hbd:Bd E TDr aV GZ [.ptr p 0,.d (i64 n)] ⟨bs,bs.length⟩ with
   | none=>rw [hbd] at hB; cases hB
   | some o =>
    obtain ⟨v3,bs3,lo3⟩:=o;rw [hbd] at hB;simp only [Option.map_some,ba,cv] at hB;obtain ⟨rfl,rfl,rfl⟩:=hB;rw [aM VO rfl];show fC ⟨bs,lo⟩ (Bd E TDr aV GZ [.ptr p 0,.d (i64 n)] ⟨bs,bs.length⟩)=_;rw [hbd,eu,if_neg (λhh=>by have:=hh.1; simp at this; omega)]
    congr 3
    simp only;omega
 . obtain h | ⟨b,o,cap,cs,rfl,h2,h3⟩:=a4
   . exact .inl h
   . have:=a5 b o _ _ _ rfl;exact .inr ⟨b,o,cap,cs,rfl,(fV (by omega)).trans h2,h3⟩
end
section
variable {E:Calls'}
def vU {α:Type}(E:Calls')(f:FuncId)(args:List V)(p:Nat)(bs:List Blk)(st:Option (List Int))(P:Pr α)(enc:α->D)(zero:α):Prop :=
 ∃ x st' bs',(∀ lo,Sm E TDr aV f args ⟨bs,lo⟩=some (.d (enc x),⟨bs',min lo p⟩))/\Step P st x st'/\(st'=none->x=zero)/\RwS p bs' st'/\OldR p bs bs'
theorem RwS.lt {p:Nat}{bs:List Blk}{st:Option (List Int)}(h:RwS p bs st):p<bs.length:=by
 obtain ⟨v,l,h1,_⟩:=h; exact aN h1
theorem Byts.off {bs bs':List Blk}{v:V}{l:List Int}{p:Nat}(h:Byts bs v l)(hv:∀ b o n cap z,v=.row b o n cap z->b≠p)(ho:Old p bs bs'):Byts bs' v l:=by
 obtain h | ⟨b,o,cap,cs,rfl,h2,h3⟩:=h
 . exact .inl h
 . exact .inr ⟨b,o,cap,cs,rfl,bC (ho.2 b (hv _ _ _ _ _ rfl) (aN h2)) h2,h3⟩
theorem RwS.lay {p:Nat}{bs:List Blk}{st:Option (List Int)}(h:RwS p bs st)(ys:List Blk):RwS p (bs++ys) st:=by
 obtain ⟨v,l,h1,h2,h3,h4,h5,h6⟩:=h;exact ⟨v,l,ay h1,h2.lay ys,h3,h4,h5,h6⟩
theorem RwS.stop {p:Nat}{bs:List Blk}{v x:V}{l:List Int}(h1:aa bs p=some [v,x])(h2:Byts bs v l)(h3:byteL l)(h4:l.length<=big)(h6:∀ b o n cap z,v=.row b o n cap z->b≠p):RwS p (bs.set p (.cells [v,bl true])) none/\OldR p bs (bs.set p (.cells [v,bl true])) :=
 ⟨⟨v,l,aG h1,h2.off h6 (Old.set _ _),h3,h4,(λb hb=>by cases hb),h6⟩,Old.set _ _,λb ⟨o,n,c,z,x,hx⟩=>.inl (by rw [aG h1] at hx; cases hx; exact ⟨_,_,_,_,_,h1⟩)⟩
theorem nZ {f:FuncId}{q:QF}(ht:TDr f=some q)(hv:aV f=false){args:List V}{bs bs':List Blk}{v:V}{p:Nat}(hp:p<bs.length)(hB:Bd E TDr aV q args ⟨bs,bs.length⟩=some (v,⟨bs',p⟩))(lo:Nat):Sm E TDr aV f args ⟨bs,lo⟩=some (v,⟨bs',min lo p⟩):=by
 rw [aM ht hv];show fC ⟨bs,lo⟩ (Bd E TDr aV q args ⟨bs,bs.length⟩)=_;rw [hB,eu,if_neg (λh=>by have:=h.1; simp only at this; omega)]
theorem vV (hE:dL E){p:Nat}{bs:List Blk}{st:Option (List Int)}(hR:RwS p bs st):vU E 54 [.ptr p 0] p bs st pUint u64 0:=by
 have hpl:=hR.lt;have hmin:min bs.length p=p:=Nat.min_eq_right (Nat.le_of_lt hpl);obtain ⟨v,l,h1,h2,h3,h4,h5,h6⟩:=hR;have hf:=λlo=>Vs hE h1 h2 h3 h4 lo;obtain ⟨r1,r2⟩:=RwS.stop h1 h2 h3 h4 h6;cases st with
 | none =>
  refine ⟨0,none,_,λlo=>nZ QG rfl hpl ?_ lo,rfl,λ_=>rfl,r1,r2⟩;simp [ae,J3,hf,h1,storeAt,put,Hp.set,hmin,bl]
 | some b =>
  obtain rfl:=h5 b rfl;cases hpu:pUint b with
  | none =>
   refine ⟨0,none,_,λlo=>nZ QG rfl hpl ?_ lo,by simp [Step,hpu],λ_=>rfl,r1,r2⟩;simp [ae,J3,hf,gI,hpu,h1,storeAt,put,Hp.set,hmin,bl,au]
  | some r =>
   obtain ⟨x,m⟩:=r;obtain ⟨n,n1,n2,n3,n4,n5,n6,n7⟩:=qo h3 hpu;obtain ⟨v',bs',a1,a2,a3,a4,a5⟩:=Qi (E:=E) h1 h2 h4 h6 n3;subst n5;refine ⟨x,some (b.drop n),bs',λlo=>nZ QG rfl hpl ?_ lo,by simp [Step,hpu],(λh=>by cases h),⟨v',b.drop n,a2,a3,λc hc=>h3 c (List.mem_of_mem_drop hc),by rw [List.length_drop]; omega,λb' hb'=>by cases hb'; rfl,a4⟩,a5⟩;have hn:¬ (n=0):=by omega
   have hfr:gI b=(x,n):=by rw [n7]; exact ru h3 n1 n4 n3
   simp [ae,J3,hf,hfr,h1,hmin,bl,hn,a1,au]
end
section
variable {E:Calls'}
theorem VT:TDr 55=some NF:=by kernel_rfl
theorem OI:TDr 172=some NM:=by kernel_rfl
theorem ar5:TDr 58=some NG:=by kernel_rfl
theorem xE {most:Int}{st st':Option (List Int)}{x:Int}(h:Step pUint st x st')(h0:st'=none->x=0)(hm:0<=most):(x<=most/\Step (bT most) st x st')\/(most<x/\Step (bT most) st 0 none):=by
 cases st with
 | none =>
  have h':st'=none:=h;subst h';rw [h0 rfl];exact .inl ⟨hm,rfl⟩
 | some b =>
  simp only [Step] at h ⊢;cases hp:pUint b with
  | none =>
   rw [hp] at h;have h':st'=none:=h;subst h';rw [h0 rfl];exact .inl ⟨hm,by simp [bT,Pr.keep,hp]⟩
  | some r =>
   obtain ⟨y,m⟩:=r;rw [hp] at h;obtain ⟨rfl,rfl⟩:=h;by_cases hx:x<=most
   . exact .inl ⟨hx,by simp [bT,Pr.keep,hp,hx]⟩
   . exact .inr ⟨by omega,by simp [bT,Pr.keep,hp,hx]⟩
theorem ai6 (hE:dL E){p:Nat}{bs:List Blk}{st:Option (List Int)}(hR:RwS p bs st){most:Int}(h0:0<=most):vU E 55 [.ptr p 0,.d (u64 most)] p bs st (bT most) u64 0:=by
 have hpl:=hR.lt;have hmin:min bs.length p=p:=Nat.min_eq_right (Nat.le_of_lt hpl);obtain ⟨x,st',bs',k1,k2,k3,k4,k5⟩:=vV hE hR;obtain ⟨hx,hs⟩ | ⟨hx,hs⟩:=xE k2 k3 h0
 . refine ⟨x,st',bs',λlo=>nZ VT rfl hpl ?_ lo,hs,k3,k4,k5⟩;have hg:¬ x>most:=by omega
   simp [ae,NF,k1,hg,hmin]
 . obtain ⟨v,l,h1,h2,h3,h4,h5,h6⟩:=k4;obtain ⟨r1,r2⟩:=RwS.stop h1 h2 h3 h4 h6;refine ⟨0,none,_,λlo=>nZ VT rfl hpl ?_ lo,hs,λ_=>rfl,r1,k5.trans r2⟩;simp [ae,NF,k1,hx,hmin,h1,storeAt,put,Hp.set,bl]
theorem ao4 (hE:dL E){p:Nat}{bs:List Blk}{st:Option (List Int)}(hR:RwS p bs st){most:Int}(h0:0<=most)(h9:most<2 ^ 62):vU E 172 [.ptr p 0,.d (u64 most)] p bs st (bT most) i64 0:=by
 have hpl:=hR.lt;have hmin:min bs.length p=p:=Nat.min_eq_right (Nat.le_of_lt hpl);have hR':=hR;obtain ⟨x,st',bs',k1,k2,k3,k4,k5⟩:=vV hE hR;obtain ⟨hx,hs⟩ | ⟨hx,hs⟩:=xE k2 k3 h0
 . refine ⟨x,st',bs',λlo=>nZ OI rfl hpl ?_ lo,hs,k3,k4,k5⟩;have hx0:0<=x:=by
    obtain ⟨v,l,g1,g2,g3,g4,g5,g6⟩:=hR';cases st with
    | none=>have:st'=none:=k2; rw [k3 this]; exact Int.le_refl _
    | some b =>
     obtain rfl:=g5 b rfl;simp only [Step] at k2;cases hp:pUint b with
     | none=>rw [hp] at k2; have:st'=none:=k2; rw [k3 this]; exact Int.le_refl _
     | some r =>
      obtain ⟨y,m⟩:=r;rw [hp] at k2;obtain ⟨rfl,_⟩:=k2;exact (uint_cod.bwd b x m g3 hp).2.1
   have hw:wrap .i64 x=x:=wrap64 (by omega) (by omega);simp [ae,NM,k1,hmin,show ¬ most<x from by omega,hw]
 . obtain ⟨v,l,h1,h2,h3,h4,h5,h6⟩:=k4;obtain ⟨r1,r2⟩:=RwS.stop h1 h2 h3 h4 h6;refine ⟨0,none,_,λlo=>nZ OI rfl hpl ?_ lo,hs,λ_=>rfl,r1,k5.trans r2⟩;simp [ae,NM,k1,hx,hmin,h1,storeAt,put,Hp.set,bl]
theorem Vi {p:Nat}{bs:List Blk}{st:Option (List Int)}(hR:RwS p bs st):∃ bs',(∀ lo,Sm E TDr aV 58 [.ptr p 0] ⟨bs,lo⟩=some (bl (decide (st≠some [])),⟨bs',min lo p⟩))/\Old p bs bs':=by
 have hpl:=hR.lt;have hmin:min bs.length p=p:=Nat.min_eq_right (Nat.le_of_lt hpl);obtain ⟨v,l,h1,h2,h3,h4,h5,h6⟩:=hR;have hln:=h2.len;have hg:∀ z,aa (bs.set p (.cells [v,z])) p=some [v,z]:=λz=>aG h1;refine ⟨bs.set p (.cells [v,bl (decide (st≠some []))]),λlo=>nZ ar5 rfl hpl ?_ lo,Old.set _ _⟩;cases st with
 | none =>
  simp [ae,NG,h1,storeAt,put,Hp.set,hmin,bl];simp [hg]
 | some b =>
  obtain rfl:=h5 b rfl;have e:decide (0<b.length)=!decide (b=[]):=by cases b<;>simp
  simp [ae,NG,h1,hln,storeAt,put,Hp.set,hmin,bl,au,e];simp [hg]
end
section
variable {E:Calls'}
theorem LD:TDr 56=some Dz:=by kernel_rfl
theorem I1:TDr 225=some J6:=by kernel_rfl
theorem OJ:TDr 174=some NN:=by kernel_rfl
theorem CO (hE:dL E){p:Nat}{bs:List Blk}{st:Option (List Int)}(hR:RwS p bs st){most:Int}(h0:0<=most)(h9:most<2 ^ 62):vU E 56 [.ptr p 0,.d (i64 most)] p bs st (gN most) (λs=>.str s) ⟨#[]⟩:=by
 have hpl:=hR.lt;have hmin:min bs.length p=p:=Nat.min_eq_right (Nat.le_of_lt hpl);obtain ⟨v,l,h1,h2,h3,h4,h5,h6⟩:=hR;have hf:=λlo=>Vs hE h1 h2 h3 h4 lo;have hu:=h2.nu;have hln:=h2.len;have hlb:l.length<2 ^ 62:=cg h4 (by decide);have hw:wrap .u64 most=most:=by rw [wrap_u64]; omega
 have hmn:¬ most<0:=by omega
 obtain ⟨r1,r2⟩:=RwS.stop h1 h2 h3 h4 h6;cases st with
 | none =>
  refine ⟨⟨#[]⟩,none,_,λlo=>nZ LD rfl hpl ?_ lo,rfl,λ_=>rfl,r1,r2⟩;simp [ae,Dz,hf,h1,storeAt,put,Hp.set,hmin,bl]
 | some b =>
  obtain rfl:=h5 b rfl;cases hpu:pUint b with
  | none =>
   refine ⟨⟨#[]⟩,none,_,λlo=>nZ LD rfl hpl ?_ lo,by simp [Step,gN,hpu],λ_=>rfl,r1,r2⟩;simp [ae,Dz,hf,gI,hpu,h1,storeAt,put,Hp.set,hmin,bl,au]
  | some r =>
   obtain ⟨x,m⟩:=r;obtain ⟨n,n1,n2,n3,n4,n5,n6,n7⟩:=qo h3 hpu;subst n5;have hux:=(uint_cod.bwd b x (b.drop n) h3 hpu).2;have hn:¬ (n=0):=by omega
   have hfr:gI b=(x,n):=by rw [n7]; exact ru h3 n1 n4 n3
   have hws:wrap .i64 ((b.length:Int)-n)=(b.length:Int)-n:=wrap64 (by omega) (by omega);have hwu:wrap .u64 ((b.length:Int)-n)=(b.length:Int)-n:=by rw [wrap_u64]; omega
   by_cases hbig:x<=most/\x<=((b.drop n).length:Int)
   . have hb2:x<=(b.length:Int)-n:=by have:=hbig.2; rw [List.length_drop] at this; omega
     obtain ⟨Y,rfl⟩:=Int.eq_ofNat_of_zero_le hux.1;have hXn:n+Y<=b.length:=by omega
     obtain ⟨w,w1,w2⟩:=h2.cut (Nat.le_add_right n Y) hXn;have w3:=w1.str;obtain ⟨v',bs',a1,a2,a3,a4,a5⟩:=Qi (E:=E) h1 h2 h4 h6 hXn;have hwx:wrap .i64 (Y:Int)=Y:=wrap64 (by omega) (by omega);have hwe:wrap .i64 ((n:Int)+Y)=((n+Y:Nat):Int):=by rw [wrap64]<;>omega
     have hcast:((n+Y:Nat):Int)=(n:Int)+Y:=by omega
     simp only [hcast] at a1;refine ⟨strOf ((b.drop n).take Y),some (b.drop (n+Y)),bs',λlo=>nZ LD rfl hpl ?_ lo,?_,(λh=>by cases h),⟨v',b.drop (n+Y),a2,a3,λc hc=>h3 c (List.mem_of_mem_drop hc),by rw [List.length_drop]; omega,λb' hb'=>by cases hb'; rfl,a4⟩,a5⟩
     . have hw2:∀ (hp:Hp) (ev:X->V),ev (.t 50)=.d (i64 (n:Int))->ev (.t 54)=.d (i64 ((n+Y:Nat):Int))->bM hp ev .sl 1 v (some (.t 50)) (some (.t 54)) none=some w:=λhp ev e1 e2=>w2 hp ev (some (.t 50)) (some (.t 54)) (by simp only [bD,e1]; rw [if_pos (by omega)]; congr 1) (by simp only [bD,e2]; rw [if_pos (by omega)]; congr 1);rw [List.drop_take,Nat.add_sub_cancel_left] at w3;simp [ae,Dz,hf,hfr,h1,hln,hmin,bl,hn,a1,au,hmn,hw,hws,hwu,show ¬ most<(Y:Int) from by omega,show ¬ (b.length:Int)-n<(Y:Int) from by omega,hwx,hwe,hw2,w3]
     . simp only [Step,gN,hpu];rw [if_pos hbig,bb];simp
   . have hk:Step (gN most) (some b) ⟨#[]⟩ none:=by
      have hk:gN most b=none:=by
       simp only [gN,hpu];rw [if_neg hbig]
      simp [Step,hk]
     refine ⟨⟨#[]⟩,none,_,λlo=>nZ LD rfl hpl ?_ lo,hk,λ_=>rfl,r1,r2⟩;by_cases hg:most<x
     . simp [ae,Dz,hf,hfr,h1,storeAt,put,Hp.set,hmin,bl,hn,au,hmn,hw,hg]
     . have hg2:(b.length:Int)-n<x:=by rw [List.length_drop] at hbig; omega
       simp [ae,Dz,hf,hfr,h1,hln,storeAt,put,Hp.set,hmin,bl,hn,au,hmn,hw,hg,hws,hwu,hg2]
end
section
variable {E:Calls'}
theorem ao9 {p:Nat}{bs:List Blk}{st:Option (List Int)}(hR:RwS p bs st)(n:Nat)(hn:n<2 ^ 62) :
 (∃ w b bs',st=some b/\n<=b.length/\(∀ lo,Sm E TDr aV 225 [.ptr p 0,.d (i64 n)] ⟨bs,lo⟩=some (w,⟨bs',min lo p⟩))/\Byts bs' w (b.take n)/\byteL (b.take n)/\RwS p bs' (some (b.drop n))/\OldR p bs bs') ∨
 ((∀ b,st=some b->b.length<n)/\∃ bs',(∀ lo,Sm E TDr aV 225 [.ptr p 0,.d (i64 n)] ⟨bs,lo⟩=some (nV,⟨bs',min lo p⟩))/\RwS p bs' none/\OldR p bs bs'):=by
 have hpl:=hR.lt;have hmin:min bs.length p=p:=Nat.min_eq_right (Nat.le_of_lt hpl);obtain ⟨v,l,h1,h2,h3,h4,h5,h6⟩:=hR;have hln:=h2.len;have hneg:¬ ((n:Int)<0):=by omega
 obtain ⟨r1,r2⟩:=RwS.stop h1 h2 h3 h4 h6;cases st with
 | none =>
  refine .inr ⟨(λb hb=>by cases hb),_,λlo=>nZ I1 rfl hpl ?_ lo,r1,r2⟩;simp [ae,J6,h1,storeAt,put,Hp.set,hmin,bl]
 | some b =>
  obtain rfl:=h5 b rfl;by_cases hnb:n<=b.length
  . obtain ⟨w,w1,w2⟩:=(h2.lay [.cells []]).cut (Nat.zero_le n) hnb;obtain ⟨w',w1',w2'⟩:=h2.cut (Nat.zero_le n) hnb;have hbd:∀ (ev:X->V) (x:X),ev x=.d (.int .i64 n)->bD ev (some x) b.length=some n:=λev x he=>by
     simp only [bD,he]; rw [if_pos (by omega)]; congr 1
    have hww:w=w':=ct ((w2 ⟨[],0⟩ (λ_=>.d (.int .i64 n)) none (some (.t 0)) rfl (hbd _ _ rfl)).symm.trans (w2' ⟨[],0⟩ (λ_=>.d (.int .i64 n)) none (some (.t 0)) rfl (hbd _ _ rfl)));rw [← hww,List.drop_zero] at w1';have hw2:∀ (hp:Hp) (ev:X->V),ev (.t 31)=.d (i64 (n:Int))->bM hp ev .sl 1 v none (some (.t 31)) none=some w:=λhp ev he=>w2 hp ev none (some (.t 31)) rfl (hbd _ _ he);obtain ⟨v1,bs1,a1,a2,a3,a4,a5,a6,a7,a8⟩:=w1'.cpy (by simp; omega);have hp1:aa bs1 p=some [v,bl (some b).isNone]:=bC (a3 p hpl) h1;have ho1:Old p bs bs1:=⟨a2,λy _ h=>a3 y h⟩;obtain ⟨v',bs',c1,c2,c3,c4,c5⟩:=Qi (E:=E) hp1 (h2.off h6 ho1) h4 h6 hnb;have hv1:∀ B o n cap z,v1=.row B o n cap z->B≠p:=λB o n cap z hh=>by have:=a5 B o n cap z hh; omega
    have hp':aa (bs++[Blk.cells []]) p=some [v,bl (some b).isNone]:=ay h1;refine .inl ⟨v1,b,bs',rfl,hnb,λlo=>nZ I1 rfl hpl ?_ lo,a4.off hv1 c5.1,λc hc=>h3 c (List.mem_of_mem_take hc),⟨v',b.drop n,c2,c3,λc hc=>h3 c (List.mem_of_mem_drop hc),by rw [List.length_drop]; omega,λb' hb'=>by cases hb'; rfl,c4⟩,(OldR.of ho1 (a3 p hpl)).trans c5⟩;have hg:¬ ((b.length:Int)<n):=by omega
    simp [ae,J6,az,h1,hp',hln,hmin,bl,au,hneg,hg,hw2,a1,a7,c1]
  . refine .inr ⟨(λb' hb'=>by cases hb'; omega),_,λlo=>nZ I1 rfl hpl ?_ lo,r1,r2⟩;simp [ae,J6,h1,hln,storeAt,put,Hp.set,hmin,bl,au,hneg,show b.length<n from by omega]
end
section
variable {E:Calls'}
theorem Ml {a y:Int}{i:Nat}(h0:0<=a)(h1:a<2 ^ (8 * i))(h2:0<=y)(h3:a+y * 2 ^ (8 * i)<2 ^ 64):orI .u64 a (y * 2 ^ (8 * i))=a+y * 2 ^ (8 * i):=by
 obtain ⟨A,rfl⟩:=Int.eq_ofNat_of_zero_le h0;obtain ⟨Y,rfl⟩:=Int.eq_ofNat_of_zero_le h2;have e1:((Y:Int) * 2 ^ (8 * i))=((Y * 2 ^ (8 * i):Nat):Int):=by push_cast; rfl
 rw [e1] at h3 ⊢;have h1':A<2 ^ (8 * i):=by exact_mod_cast h1
 have e2:A ||| Y * 2 ^ (8 * i)=A+Y * 2 ^ (8 * i):=by
  have h:=Nat.two_pow_add_eq_or_of_lt h1' Y;rw [Nat.mul_comm Y,Nat.or_comm,← h,Nat.add_comm]
 have hw:IntKind.u64.bits=64:=rfl;simp only [orI,hw,BitVec.ofInt_natCast,BitVec.toNat_or,BitVec.toNat_ofNat];rw [Nat.mod_eq_of_lt (by omega),Nat.mod_eq_of_lt (by omega),e2,wrap_u64];omega
def leB:List Int->Int
 | []=>0
 | c::l=>c+256 * leB l
theorem EO:∀ {l:List Int},byteL l->0<=leB l/\leB l<2 ^ (8 * l.length)
 | [],_=>by simp [leB]
 | c::l,h=>by
  have h1:=h c (by simp);have h2:=EO (l:=l) λx hx=>h x (by simp [hx]);have e:(2:Int) ^ (8 * (c::l).length)=256 * 2 ^ (8 * l.length):=by
   rw [cj,Nat.mul_add,Int.pow_add,Int.mul_comm]; rfl
  rw [e];simp only [leB];omega
theorem Br:∀ (l:List Int) (c:Int),leB (l++[c])=leB l+c * 2 ^ (8 * l.length)
 | [],c=>by simp [leB]
 | a::l,c=>by
  have e:(2:Int) ^ (8 * (a::l).length)=256 * 2 ^ (8 * l.length):=by
   rw [cj,Nat.mul_add,Int.pow_add,Int.mul_comm]; rfl
  rw [e,List.cons_append,leB,Br l c,leB,Int.mul_add,Int.add_assoc,Int.mul_left_comm c]
theorem EZ {bs:List Blk}{w:V}{l:List Int}(hv:Byts bs w l)(hb:byteL l)(hl:l.length<=7)(lo:Nat) :
 Cd E TDr aV (.loop [5,6,7] sK) [(5,w),(6,.d (u64 0)),(7,.d (i64 0))] ⟨bs,lo⟩=some (.exit 0,[(6,.d (u64 (leB l)))],⟨bs,lo⟩):=by
 have hu:=hv.nu;have hln:=hv.len;have key:=yK (E:=E) (T:=TDr) (val:=aV) (keep:=[5,6,7]) (body:=sK) (λj=>[(5,w),(6,.d (u64 (leB (l.take j)))),(7,.d (i64 (j:Int)))]) ⟨bs,lo⟩ l.length (.exit 0,[(6,.d (u64 (leB l)))],⟨bs,lo⟩) (λj hj W=>?_) (λW=>?_)
 . simpa [leB] using key
 . obtain ⟨q,q1,q2⟩:=hv.rowIs.at hj (l:=lo);have hc:=hb _ (bd hj);have ht:l.take (j+1)=l.take j++[l[j]]:=by rw [List.take_succ_eq_append_getElem hj]
   have hbt:byteL (l.take j):=λx hx=>hb x (List.mem_of_mem_take hx);have hr:=EO hbt;have hlt:(l.take j).length=j:=by simp; omega
   rw [hlt] at hr;rw [ht,Br,hlt];generalize l[j]=c at *;have hpw:(2:Int) ^ (8 * j)<=2 ^ 48:=by exact_mod_cast Nat.pow_le_pow_right (by omega:0<2) (by omega:8 * j<=48)
   have hpn:(0:Int)<=2 ^ (8 * j):=Int.le_of_lt (Int.pow_pos (by decide));have hcp:c * 2 ^ (8 * j)<=255 * 2 ^ 48:=Int.mul_le_mul (by omega) hpw hpn (by decide);have hcn:0<=c * 2 ^ (8 * j):=Int.mul_nonneg hc.1 hpn;have hsh:bK .shl (.d (.int .u64 c)) (.d (.int .i64 (8 * (j:Int))))=some (.int .u64 (c * 2 ^ (8 * j))):=by
    have hk:(8 * (j:Int)).toNat=8 * j:=by omega
    have h1:=mF (k:=.u64) (k':=.i64) (a:=c) (b:=8 * (j:Int)) (by omega);have hm:min (8 * j) IntKind.u64.bits=8 * j:=Nat.min_eq_left (by show 8 * j<=64; omega);rw [hk,hm,wrap_u64,Int.emod_eq_of_lt hcn (by omega)] at h1;exact h1
   have hor:=Ml (a:=leB (l.take j)) (y:=c) (i:=j) hr.1 hr.2 hc.1 (by omega);have hmul:bK .mul (.d (.int .i64 8)) (.d (.int .i64 (j:Int)))=some (.int .i64 (8 * (j:Int))):=by
    rw [Ew,wrap64]<;>omega
   have h0:(j:Int)<l.length:=by omega
   have hw:wrap .i64 ((j:Int)+1)=(j:Int)+1:=by rw [wrap64]<;>omega
   have hwc:wrap .u64 c=c:=by rw [wrap_u64]; omega
   have hbo:∀ a b:Int,bK .or (.d (.int .u64 a)) (.d (.int .u64 b))=some (.int .u64 (orI .u64 a b)):=λa b=>zx;simp [u8C] at q2;simp [sK,h0,hu.1,hln,q1,q2,ldv,hsh,hbo,hor,hmul,hw,hwc]
 . simp [sK,hu.1,hln]
theorem Vu {p:Nat}{bs:List Blk}{st:Option (List Int)}(hR:RwS p bs st){n:Nat}(hn:n<=7){P:Pr Int}(hP:∀ b,P b=if n<=b.length then some (leB (b.take n),b.drop n) else none):vU E 174 [.ptr p 0,.d (i64 n)] p bs st P u64 0:=by
 have hpl:=hR.lt;have hmin:min bs.length p=p:=Nat.min_eq_right (Nat.le_of_lt hpl);obtain ⟨w,b,bs',rfl,hnb,k1,k2,k3,k4,k5⟩ | ⟨h1,bs',k1,k4,k5⟩:=ao9 (E:=E) hR n (by omega)
 . have hlp:=λlo=>EZ (E:=E) k2 k3 (by simp; omega) lo;refine ⟨leB (b.take n),some (b.drop n),bs',λlo=>nZ OJ rfl hpl ?_ lo,by simp [Step,hP,hnb],(λh=>by cases h),k4,k5⟩;simp [ae,NN,k1,hmin,k2.nu.1];rw [ai];simp [hlp]
 . have hlp:=λlo=>EZ (E:=E) (bs:=bs') (w:=nV) (l:=[]) (.inl ⟨true,rfl⟩) (by intro c hc; cases hc) (by simp) lo;have hs:Step P st 0 none:=by
    cases st with
    | none=>rfl
    | some b =>
     have:=h1 b rfl;simp [Step,hP,show ¬ n<=b.length from by omega]
   refine ⟨0,none,bs',λlo=>nZ OJ rfl hpl ?_ lo,hs,λ_=>rfl,k4,k5⟩;simp [ae,NN,k1,hmin];rw [ai];simp [hlp,leB]
theorem OC {p:Nat}{bs:List Blk}{st:Option (List Int)}(hR:RwS p bs st):vU E 174 [.ptr p 0,.d (i64 1)] p bs st pByte u64 0 :=
 Vu hR (n:=1) (by omega) λb=>by
  cases b with
  | nil=>rfl
  | cons c l=>simp [pByte,leB]
theorem Vv {p:Nat}{bs:List Blk}{st:Option (List Int)}(hR:RwS p bs st):vU E 174 [.ptr p 0,.d (i64 4)] p bs st pU32 u64 0 :=
 Vu hR (n:=4) (by omega) λb=>by
  obtain _ | ⟨a,_ | ⟨b,_ | ⟨c,_ | ⟨d,l⟩⟩⟩⟩:=b
  . rfl
  . simp [pU32]
  . simp [pU32]
  . simp [pU32]
  . simp [pU32,leB]; omega
end
section
variable {E:Calls'}
theorem iA {α:Type}{P:Pr α}{cells:α->List D}{keep:List Nat}{body:QC}(env:Nat->V->EA)(I:Nat->List Blk->V->Option (List Int)->List D->Prop)(R:V->Ex×EA)(N:Nat)
 (hr:∀ i bs v st ds,i<N->I i bs v st ds->∃ x bs2 v2 st2,I (i+1) bs2 v2 st2 (ds++cells x)/\Step P st x st2/\∀ lo,∃ lo2,lo2<=lo/\∀ W:EA->Hp->dx,bH keep W (Cd E TDr aV body (bq keep (env i v)) ⟨bs,lo⟩)=W (env (i+1) v2) ⟨bs2,lo2⟩)
 (he:∀ bs v st ds lo,I N bs v st ds->∀ W:EA->Hp->dx,bH keep W (Cd E TDr aV body (bq keep (env N v)) ⟨bs,lo⟩)=some ((R v).1,(R v).2,⟨bs,lo⟩))
 {bs:List Blk} {v:V} {st:Option (List Int)} (hI:I 0 bs v st []) :
 ∃ xs v' bs' st',∃ F:Nat->Nat,(∀ lo,Cd E TDr aV (.loop keep body) (env 0 v) ⟨bs,lo⟩=some ((R v').1,(R v').2,⟨bs',F lo⟩))/\xs.length=N/\I N bs' v' st' (xs.map cells).flatten/\Step (gX P N) st xs st'/\∀ lo,F lo<=lo:=by
 have key:=aB (E:=E) (T:=TDr) (val:=aV) keep body;generalize Cd E TDr aV (.loop keep body)=W at key ⊢;have:∀ (m i:Nat) (bs:List Blk) (v:V) (st:Option (List Int)) (ds:List D),i+m=N->I i bs v st ds →
  ∃ xs v' bs' st',xs.length=m/\I N bs' v' st' (ds++(xs.map cells).flatten)/\Step (gX P m) st xs st'/\∀ lo,∃ lo',lo'<=lo/\W (env i v) ⟨bs,lo⟩=some ((R v').1,(R v').2,⟨bs',lo'⟩):=by
  intro m
  induction m with
  | zero =>
   intro i bs v st ds hi hI;have:i=N:=by omega
   subst this;exact ⟨[],v,bs,st,rfl,by simpa using hI,Step.nil,λlo=>⟨lo,bo _,by rw [key,he bs v st ds lo hI]⟩⟩
  | succ m ih =>
   intro i bs v st ds hi hI;obtain ⟨x,bs2,v2,st2,h1,h2,h4⟩:=hr i bs v st ds (by omega) hI;obtain ⟨xs,v',bs',st',c2,c3,c4,c5⟩:=ih (i+1) bs2 v2 st2 _ (by omega) h1;refine ⟨x::xs,v',bs',st',by simp [c2],by simpa using c3,Step.row h2 c4,λlo=>?_⟩;obtain ⟨lo2,h3,h4⟩:=h4 lo;obtain ⟨lo',c5,c1⟩:=c5 lo2;exact ⟨lo',ch c5 h3,by rw [key,h4 W,c1]⟩
 obtain ⟨xs,v',bs',st',h1,h2,h3,h4⟩:=this N 0 bs v st [] (by omega) hI;exact ⟨xs,v',bs',st',λlo=>Classical.choose (h4 lo),λlo=>(Classical.choose_spec (h4 lo)).2,h1,by simpa using h2,h3,λlo=>(Classical.choose_spec (h4 lo)).1⟩
def ym (v:V)(B:Nat):Prop:=∀ o n c z,v≠.row B o n c z
theorem AccV.appD {w:Bool}{L L2 z k n:Nat}{ds es:List D}{bs:List Blk}{v:V}(h:AccV w L z k n ds bs v)(hz0:0<z){by_:Nat}(hby:by_<=4096)(hl:n<big){r:Nat}{cap:Option Nat}{vs:List V}(hvl:vs.length=z)(hr:aa bs r=some vs)
 (hL:L<=L2) (hB:∀ B n' c,v=.row B 0 n' c z->B<L2) (hv:Hngs w (KL L2 bs) bs k vs es) (hLb:L<=bs.length) :
 ∃ v' bs',∃ F:Nat->Nat,(∀ lo,dY ⟨bs,lo⟩ z by_ v (.row r 0 1 cap z)=some (v',⟨bs',F lo⟩))/\AccV w L z k (n+1) (ds++es) bs' v'/\bs.length<=bs'.length/\(∀ x,x<bs.length->(x<L\/ym v x)->bs'[x]?=bs[x]?)/\(∀ lo:Nat,F lo<=lo)/\∀ x,x<bs.length->ym v' x:=by
 have hrc:∀ lo,aF ⟨bs,lo⟩ (.row r 0 1 cap z) z=some (1,vs):=λlo=>by
  have:sub vs 0 z=some vs:=bB hvl;simp only [aF,if_true,get_eq,hr,Nat.one_mul,this,Option.map_some]
 have hroom:∀ n,n<=big->roomy n by_=true:=λn hn=>by simp only [roomy,ap,br]; exact ⟨hn,hby⟩
 obtain ⟨rfl,rfl,rfl⟩ | ⟨h0,B,cs,h1,rfl,h3,h4,h5⟩:=h
 . refine ⟨.row bs.length 0 1 none z,bs++[.cells vs],id,λlo=>by simp only [dY,hrc,aI,if_neg (show ¬ (1=0) by decide),if_neg (show ¬ z=0 by omega),hroom 1 (by decide),if_true]; rfl,.inr ⟨by omega,bs.length,vs,hLb,rfl,by simp,by simpa using hvl,?_⟩,by simp,λx hx _=>by rw [am (by omega)],λlo=>bo _,λx hx o n c z hh=>by cases hh; omega⟩;exact hv.on (λx hx=>by rw [am hx.2]) λx hx=>⟨by have:=hx.1; omega,by have:=hx.2; simp; omega,by have:=hx.2; omega⟩
 . have hsub:sub cs 0 (n * z)=some cs:=bB h4;have hpos:0<cs.length:=by rw [h4]; exact Nat.mul_pos h0 hz0
   have hbl:=aN h3;have hBL:=hB B n none rfl;refine ⟨.row bs.length 0 (n+1) none z,bs.set B (.cells [])++[.cells (cs++vs)],λlo=>min lo B,λlo=>by simp only [dY,hrc,aI,ne_eq,not_true_eq_false,false_or,if_neg (show ¬ (1=0) by decide),if_neg (show ¬ z=0 by omega),get_eq,h3,hsub,hroom (n+1) (by omega),Bool.not_true,bk,if_false,hpos,and_self,if_true,Hp.size,Hp.alloc,Hp.set],.inr ⟨by omega,bs.length,cs++vs,hLb,rfl,?_,by rw [ao,h4,hvl,Nat.succ_mul],?_⟩,by simp,λx hx hx2=>?_,λlo=>Nat.min_le_left _ _,λx hx o n c z hh=>by cases hh; omega⟩
   . have:aa (bs.set B (.cells [])++[.cells (cs++vs)]) (bs.set B (.cells [])).length=some (cs++vs):=by rw [gu]; rfl
     rw [List.length_set] at this;exact this
   . have ho:∀ x,x<bs.length->x≠B->(bs.set B (.cells [])++[.cells (cs++vs)])[x]?=bs[x]?:=λx hx hne=>by
      rw [am (by simpa using hx),ac (Ne.symm hne)]
     refine (h5.on (λx hx=>ho x hx.2.1 hx.2.2) λx hx=>⟨hx.1,by have:=hx.2.1; simp; omega,by have:=hx.2.1; omega⟩).app (hv.on (λx hx=>ho x hx.2 (by have:=hx.1; omega)) λx hx=>⟨by have:=hx.1; omega,by have:=hx.2; simp; omega,by have:=hx.2; omega⟩)
   . have:x≠B:=by
      obtain h | h:=hx2
      . omega
      . rintro rfl; exact h _ _ _ _ rfl
     rw [am (by simp; omega),ac (Ne.symm this)]
theorem AccV.cells {w:Bool}{L z k n:Nat}{ds:List D}{bs:List Blk}{v:V}(h:AccV w L z k n ds bs v):v.cells=some [v]/\okV v=true:=by
 obtain ⟨_,_,rfl⟩ | ⟨_,B,cs,_,rfl,_⟩:=h<;>exact ⟨rfl,rfl⟩
theorem AccV.lt {w:Bool}{L z k n:Nat}{ds:List D}{bs:List Blk}{v:V}(h:AccV w L z k n ds bs v){B o m:Nat}{c:Option Nat}{z':Nat}(hv:v=.row B o m c z'):L<=B/\B<bs.length:=by
 obtain ⟨_,_,rfl⟩ | ⟨_,B',cs,h1,rfl,h3,_⟩:=h
 . cases hv
 . cases hv; exact ⟨h1,aN h3⟩
end
section
variable {E:Calls'}
def af8 {α:Type}(E:Calls')(f:FuncId)(args:List V)(p:Nat)(bs:List Blk)(st:Option (List Int))(P:Pr (Sl α))(cells:α->List D)(k:Nat):Prop :=
 ∃ v x st' bs' c,c<=p/\(∀ lo,Sm E TDr aV f args ⟨bs,lo⟩=some (v,⟨bs',min lo c⟩))/\(v.cells=some [v]/\nu v=some v/\okV v=true)/\Hng true (KL bs.length bs') bs' v (Sl.d cells x) k/\Step P st x st'/\RwS p bs' st'/\OldR p bs bs'
theorem RdBk.lt {p:Nat}{bs:List Blk}{st:Option (List Int)}(h:RwS p bs st){b:Nat}(hb:RdBk p bs b):b<bs.length/\b≠p:=by
 obtain ⟨v,l,h1,h2,h3,h4,h5,h6⟩:=h;obtain ⟨o,n,c,z,x,hx⟩:=hb;rw [h1] at hx;cases hx;obtain ⟨nl,h2⟩ | ⟨b',o',cap,cs,h2,h7,_⟩:=h2
 . cases h2
 . cases h2;exact ⟨aN h7,h6 _ _ _ _ _ rfl⟩
theorem RwS.keep {p:Nat}{bs bs':List Blk}{st:Option (List Int)}(h:RwS p bs st)(hp:bs'[p]?=bs[p]?)(hd:∀ b,RdBk p bs b->bs'[b]?=bs[b]?):RwS p bs' st:=by
 obtain ⟨v,l,h1,h2,h3,h4,h5,h6⟩:=h;refine ⟨v,l,bC hp h1,?_,h3,h4,h5,h6⟩;obtain h2 | ⟨b,o,cap,cs,rfl,h7,h8⟩:=h2
 . exact .inl h2
 . exact .inr ⟨b,o,cap,cs,rfl,bC (hd b ⟨_,_,_,_,_,h1⟩) h7,h8⟩
theorem RdBk.same {p:Nat}{bs bs':List Blk}(hp:bs'[p]?=bs[p]?){b:Nat}(h:RdBk p bs' b):RdBk p bs b:=by
 obtain ⟨o,n,c,z,x,hx⟩:=h;exact ⟨o,n,c,z,x,by rw [← hx]; unfold aa; rw [hp]⟩
def AccI (p:Nat)(bs0:List Blk)(z k i:Nat)(bs:List Blk)(v:V)(st:Option (List Int))(ds:List D):Prop:=RwS p bs st/\AccV true bs0.length z k i ds bs v/\OldR p bs0 bs/\∀ b,RdBk p bs b->ym v b
theorem AccI.nil {p:Nat}{bs:List Blk}{z k:Nat}{st:Option (List Int)}(h:RwS p bs st):AccI p bs z k 0 bs (nV) st []:=⟨h,AccV.nil _ _ _ _,OldR.of (Old.refl _ _) rfl,λb _ o n c z hh=>by cases hh⟩
theorem AccI.app {p:Nat}{bs0 bs bs2:List Blk}{z k i:Nat}{v:V}{st st2:Option (List Int)}{ds es:List D}(h:AccI p bs0 z k i bs v st ds)(hp:p<bs0.length)(hR:RwS p bs2 st2)(ho:OldR p bs bs2){vs:List V}(hv:Hngs true (KL bs.length bs2) bs2 k vs es)(hvl:vs.length=z)(hz0:0<z){by_:Nat}(hby:by_<=4096)(hl:i<big) :
 ∃ v2 bs3,∃ F:Nat->Nat,(∀ lo,dY ⟨bs2++[.cells vs],lo⟩ z by_ v (.row bs2.length 0 1 (some 1) z)=some (v2,⟨bs3,F lo⟩))/\AccI p bs0 z k (i+1) bs3 v2 st2 (ds++es)/\(∀ lo,F lo<=lo):=by
 obtain ⟨a1,a2,a3,a4⟩:=h;have hle:=a3.1.1;have hle2:=ho.1.1;have hA:AccV true bs0.length z k i ds (bs2++[.cells vs]) v:=a2.on (by simp; omega) λx h1 h2=>by
  rw [am (by omega),ho.1.2 x (by omega) h2]
 obtain ⟨v2,bs3,F,b1,b2,b3,b4,b5,b6⟩:=hA.appD hz0 hby hl (r:=bs2.length) (cap:=some 1) hvl (by simp) (L2:=bs.length) hle (λB n' c hh=>(a2.lt hh).2)
  (hv.on (λy hy=>by rw [am hy.2]) λy hy=>⟨hy.1,by have:=hy.2; simp; omega⟩) (by simp; omega)
 have hpp:bs3[p]?=bs2[p]?:=by rw [b4 p (by simp; omega) (.inl hp),am (by omega)]
 have hd:∀ b,RdBk p bs2 b->b<bs2.length/\ym v b:=λb hb=>⟨(RdBk.lt hR hb).1,by
  obtain h1 | h1:=ho.2 b hb
  . exact a4 b h1
  . rintro o n c z' rfl;have:=(a2.lt rfl).2;omega⟩
 refine ⟨v2,bs3,F,b1,⟨hR.keep hpp λb hb=>?_,b2,⟨⟨by simp at b3; omega,λy h1 h2=>?_⟩,λb hb=>(a3.trans ho).2 b (hb.same hpp)⟩,λb hb=>b6 b ?_⟩,b5⟩
 . obtain ⟨h1,h2⟩:=hd b hb;rw [b4 b (by simp; omega) (.inr h2),am h1]
 . rw [b4 y (by simp; omega) (.inl h2),am (by omega)];exact (a3.trans ho).1.2 y h1 h2
 . have:=(hd b (hb.same hpp)).1;simp; omega
theorem kw (hE:dL E){p:Nat}{bs:List Blk}{st:Option (List Int)}(hR:RwS p bs st){most:Int}(h0:0<=most)(h9:most<2 ^ 62) :
 ∃ (n:Nat) (st':Option (List Int)) (bs':List Blk),(∀ lo,Sm E TDr aV 172 [.ptr p 0,.d (u64 most)] ⟨bs,lo⟩=some (.d (i64 n),⟨bs',min lo p⟩))/\StepZ (bT most) st n st'/\(n:Int)<=most/\RwS p bs' st'/\OldR p bs bs':=by
 obtain ⟨x,st',bs',k1,k2,k3,k4,k5⟩:=ao4 hE hR h0 h9;have hx:0<=x/\x<=most:=by
  obtain ⟨v,l,g1,g2,g3,g4,g5,g6⟩:=hR;cases st with
  | none=>have:st'=none:=k2; rw [k3 this]; exact ⟨Int.le_refl _,h0⟩
  | some b =>
   obtain rfl:=g5 b rfl;obtain ⟨m,h1,_⟩ | ⟨_,h1⟩:=Step.of k2
   . simp only [bT,Pr.keep] at h1;cases hp:pUint b with
     | none=>rw [hp] at h1; cases h1
     | some r =>
      obtain ⟨y,l'⟩:=r;rw [hp] at h1;simp only at h1;split at h1
      . rename_i hh;simp only [br] at hh;cases h1;exact ⟨(uint_cod.bwd b x m g3 hp).2.1,hh⟩
      . cases h1
   . rw [k3 h1]; exact ⟨Int.le_refl _,h0⟩
 obtain ⟨N,rfl⟩:=Int.eq_ofNat_of_zero_le hx.1;exact ⟨N,st',bs',k1,⟨k2,k3⟩,hx.2,k4,k5⟩
end
