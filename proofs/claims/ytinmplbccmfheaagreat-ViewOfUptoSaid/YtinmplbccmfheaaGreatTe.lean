/- Sorting numbers in place: the choice of a pivot. -/
import Derived.Test.YtinmplbccmfheaaGreatVb
import Derived.Sort.LotC
import Derived.Sort.LotA
import Derived.Sort.LotD2
set_option maxRecDepth 100000
set_option linter.unusedVariables false
set_option linter.unusedSimpArgs false
namespace Go.Proofs.YtinmplbccmfheaaGreat
open IntKind (wrap)
section
open Go.Sort (swp ltInt order2 median medianAdjacent choosePivot Hint)
theorem ZI:TS 220=some OB:=by kernel_rfl
theorem ab4:aW 220=false:=by kernel_rfl
theorem bh2:TS 184=some Tm:=by kernel_rfl
theorem cp6:aW 184=false:=by kernel_rfl
theorem bh0:TS 183=some Tk:=by kernel_rfl
theorem cp5:aW 183=false:=by kernel_rfl
theorem bg2:TS 117=some CV:=by kernel_rfl
theorem co6:aW 117=false:=by kernel_rfl
abbrev Mn (bs:List Blk) (b:Nat) (d:Array Int) (s:Nat) (lo:Nat):Hp:=Mz .u32 (bs++[.cells [.d (i64 s)]]) b d lo
theorem zZ {bs:List Blk}{b:Nat}{d:Array Int}{s lo:Nat}:(Mn bs b d s lo).bs.length=bs.length+1:=by simp [Mn,Mz,Mr]
theorem IJ {bs:List Blk}{b:Nat}(hb:b<bs.length){d:Array Int}{s lo:Nat}:ah (Mn bs b d s lo).bs bs.length=some [.d (i64 s)]:=by
 simp only [Mn,Mz,Mr,ah];rw [am (by omega)];simp
theorem Pt {bs:List Blk}{b:Nat}(hb:b<bs.length){d:Array Int}{s lo:Nat}:ldv (Mn bs b d s lo) (.ptr bs.length 0) 1 true=some (.d (i64 s),Mn bs b d s lo):=by
 have h:=IJ hb (d:=d) (s:=s) (lo:=lo);generalize Mn bs b d s lo=M at *;simp [h]
theorem VC {bs:List Blk}{b:Nat}(hb:b<bs.length){d:Array Int}{s t lo:Nat}:stv (Mn bs b d s lo) (.ptr bs.length 0) (.d (i64 t)) 1=some (.undef,Mn bs b d t (min lo bs.length)):=by
 have h:=IJ hb (d:=d) (s:=s) (lo:=lo);have hs:(Mn bs b d s lo).set bs.length [.d (i64 t)]=Mn bs b d t (min lo bs.length):=by
  simp only [Mn,Mz,Mr,Hp.set]
  congr 1
  rw [List.set_comm _ _ (by omega)]
  congr 1
  simp
 rw [← hs];generalize Mn bs b d s lo=M at *;simp [h]
def Ks (c lo s lo' s':Nat):Prop:=(lo'=lo/\s'=s)\/lo'=min lo c
theorem Ks.trans {c lo s lo' s' lo'' s'':Nat}(h:Ks c lo s lo' s')(k:Ks c lo' s' lo'' s''):Ks c lo s lo'' s'':=by
 unfold Ks at *;obtain ⟨rfl,rfl⟩ | rfl:=h<;>obtain ⟨rfl,rfl⟩ | rfl:=k
 . exact .inl ⟨rfl,rfl⟩
 . exact .inr rfl
 . exact .inr rfl
 . exact .inr (by omega)
theorem vZ {bs:List Blk}{b:Nat}{d:Array Int}{s s' lo lo':Nat}{r:V}(hr:r.under (bs.length+1)=true)(hk:Ks bs.length (bs.length+1) s lo' s') :
 ∃ lo2,eU (Mn bs b d s lo) (some (r,Mn bs b d s' lo'))=some (r,Mn bs b d s' lo2)/\Ks bs.length lo s lo2 s':=by
 have hl:=zZ (bs:=bs) (b:=b) (d:=d) (s:=s) (lo:=lo);rw [ed,hl];obtain ⟨rfl,rfl⟩ | rfl:=hk
 . rw [if_pos ⟨br _,hr⟩];exact ⟨lo,rfl,.inl ⟨rfl,rfl⟩⟩
 . rw [if_neg (λhh=>by have:=hh.1; simp only [Mn,Mz,Mr] at this; omega)];exact ⟨min lo (min (bs.length+1) bs.length),rfl,.inr (by omega)⟩
theorem uA {d:Array Int}{x y s n:Nat}(hx:x<n)(hy:y<n):(order2 ltInt d x y s).1<n/\(order2 ltInt d x y s).2.1<n/\(order2 ltInt d x y s).2.2<=s+1:=by
 unfold order2;split
 . exact ⟨hy,hx,br _⟩
 . exact ⟨hx,hy,Nat.le_succ _⟩
section
variable {E:Calls'}(h334:∀ x y h,E 120 [.d (u32 x),.d (u32 y)] h=some (bl (ltInt x y),h))
include h334
theorem Qw {bs:List Blk}{b:Nat}(hb:b<bs.length){n x y s:Nat}(hn:n<2 ^ 60)(hx:x<n)(hy:y<n)(hs:s<2 ^ 60){cap:Option Nat}(d:Array Int)(lo:Nat)(hd:d.size=n) :
 ∃ lo',Sm E TS aW 220 [.row b 0 n cap 1,.d (i64 x),.d (i64 y),.ptr bs.length 0] (Mn bs b d s lo) =
  some (.tup [.d (i64 (order2 ltInt d x y s).1),.d (i64 (order2 ltInt d x y s).2.1)],Mn bs b d (order2 ltInt d x y s).2.2 lo')/\Ks bs.length lo s lo' (order2 ltInt d x y s).2.2:=by
 have hbl:b<(bs++[Blk.cells [.d (i64 s)]]).length:=by simp; omega
 have hl:=zZ (bs:=bs) (b:=b) (d:=d) (s:=s) (lo:=lo);have hM:(⟨(Mn bs b d s lo).bs,bs.length+1⟩:Hp)=Mn bs b d s (bs.length+1):=rfl;have ixx:=λh=>ixz (b:=b) (n:=n) (cap:=cap) (h:=h) (i:=x) hx;have ixy:=λh=>ixz (b:=b) (n:=n) (cap:=cap) (h:=h) (i:=y) hy;have lx:ldv (Mn bs b d s (bs.length+1)) (.ptr b x) 1 true=some (.d (.int .u32 d[x]!),Mn bs b d s (bs.length+1)):=bH (kd:=.u32) hbl (d:=d) (i:=x) (by omega);have ly:ldv (Mn bs b d s (bs.length+1)) (.ptr b y) 1 true=some (.d (.int .u32 d[y]!),Mn bs b d s (bs.length+1)):=bH (kd:=.u32) hbl (d:=d) (i:=y) (by omega);obtain ⟨s1,hs1⟩:∃ j,s+1=j:=⟨_,rfl⟩;have ls:=Pt hb (d:=d) (s:=s) (lo:=bs.length+1);have ss:=VC hb (d:=d) (s:=s) (t:=s1) (lo:=bs.length+1);have ws:=iA (x:=s) (k:=s1) hs1 (by omega);have c:=λh=>ui h334 d[y]! d[x]! h;unfold order2;rw [hs1];generalize d[x]! = X at *;generalize d[y]! = Y at *;cases hc:ltInt Y X with
 | true =>
  obtain ⟨lo2,r1,r2⟩:=vZ (bs:=bs) (b:=b) (d:=d) (s:=s) (s':=s1) (lo:=lo) (r:=.tup [.d (i64 y),.d (i64 x)]) rfl (.inr rfl:Ks bs.length (bs.length+1) s (min (bs.length+1) bs.length) s1);refine ⟨lo2,?_,r2⟩;rw [aJ ZI ab4,hl,hM];refine Eq.trans ?_ r1
  congr 1
  generalize Mn bs b d s (bs.length+1)=M1 at *;generalize Mn bs b d s1 (min (bs.length+1) bs.length)=M2 at *;simp +decide [af,OB,ixx,ixy,lx,ly,ls,ss,ws,c,hc,ai,aa,az,ae,Tr.mute,bK,-aG,-aN]
 | false =>
  obtain ⟨lo2,r1,r2⟩:=vZ (bs:=bs) (b:=b) (d:=d) (s:=s) (s':=s) (lo:=lo) (r:=.tup [.d (i64 x),.d (i64 y)]) rfl (.inl ⟨rfl,rfl⟩:Ks bs.length (bs.length+1) s (bs.length+1) s);refine ⟨lo2,?_,r2⟩;rw [aJ ZI ab4,hl,hM];refine Eq.trans ?_ r1
  congr 1
  generalize Mn bs b d s (bs.length+1)=M1 at *;simp +decide [af,OB,ixx,ixy,lx,ly,c,hc,ai,aa,az,ae,Tr.mute,bK,-aG,-aN]
theorem Qu {bs:List Blk}{b:Nat}(hb:b<bs.length){n x y z s:Nat}(hn:n<2 ^ 60)(hx:x<n)(hy:y<n)(hz:z<n)(hs:s<2 ^ 50){cap:Option Nat}(d:Array Int)(lo:Nat)(hd:d.size=n) :
 ∃ lo',Sm E TS aW 184 [.row b 0 n cap 1,.d (i64 x),.d (i64 y),.d (i64 z),.ptr bs.length 0] (Mn bs b d s lo) =
  some (.d (i64 (median ltInt d x y z s).1),Mn bs b d (median ltInt d x y z s).2 lo')/\Ks bs.length lo s lo' (median ltInt d x y z s).2/\(median ltInt d x y z s).1<n/\(median ltInt d x y z s).2<=s+3:=by
 have hl:=zZ (bs:=bs) (b:=b) (d:=d) (s:=s) (lo:=lo);have hM:(⟨(Mn bs b d s lo).bs,bs.length+1⟩:Hp)=Mn bs b d s (bs.length+1):=rfl;unfold median;simp only;obtain ⟨p1,p2,p3⟩:=uA (d:=d) (s:=s) hx hy;obtain ⟨lo1,a1,a2⟩:=Qw h334 hb hn hx hy (by omega) (cap:=cap) d (bs.length+1) hd (s:=s);generalize order2 ltInt d x y s=r1 at *;obtain ⟨u1,u2,u3⟩:=r1;simp only at *;obtain ⟨e1,e2,e3⟩:=uA (d:=d) (s:=u3) p2 hz;obtain ⟨lo2,c1,c2⟩:=Qw h334 hb hn p2 hz (by omega) (cap:=cap) d lo1 hd (s:=u3);generalize order2 ltInt d u2 z u3=r2 at *;obtain ⟨w1,w2,w3⟩:=r2;simp only at *;obtain ⟨g1,g2,g3⟩:=uA (d:=d) (s:=w3) p1 e1;obtain ⟨lo3,i1,i2⟩:=Qw h334 hb hn p1 e1 (by omega) (cap:=cap) d lo2 hd (s:=w3);generalize order2 ltInt d u1 w1 w3=r3 at *;obtain ⟨v1,v2,v3⟩:=r3;simp only at *;obtain ⟨lo4,r1,r2⟩:=vZ (bs:=bs) (b:=b) (d:=d) (s:=s) (s':=v3) (lo:=lo) (r:=.d (i64 v2)) rfl (a2.trans (c2.trans i2));refine ⟨lo4,?_,r2,g2,by omega⟩;rw [aJ bh2 cp6,hl,hM];refine Eq.trans ?_ r1
 congr 1
 generalize Mn bs b d s (bs.length+1)=M1 at *;generalize Mn bs b d u3 lo1=M2 at *;generalize Mn bs b d w3 lo2=M3 at *;generalize Mn bs b d v3 lo3=M4 at *;simp [af,Tm,a1,c1,i1,bK]
theorem Qt {bs:List Blk}{b:Nat}(hb:b<bs.length){n x s:Nat}(hn:n<2 ^ 60)(h0:0<x)(hx:x+1<n)(hs:s<2 ^ 50){cap:Option Nat}(d:Array Int)(lo:Nat)(hd:d.size=n) :
 ∃ lo',Sm E TS aW 183 [.row b 0 n cap 1,.d (i64 x),.ptr bs.length 0] (Mn bs b d s lo) =
  some (.d (i64 (medianAdjacent ltInt d x s).1),Mn bs b d (medianAdjacent ltInt d x s).2 lo')/\Ks bs.length lo s lo' (medianAdjacent ltInt d x s).2/\(medianAdjacent ltInt d x s).1<n/\(medianAdjacent ltInt d x s).2<=s+3:=by
 have hl:=zZ (bs:=bs) (b:=b) (d:=d) (s:=s) (lo:=lo);have hM:(⟨(Mn bs b d s lo).bs,bs.length+1⟩:Hp)=Mn bs b d s (bs.length+1):=rfl;unfold medianAdjacent;obtain ⟨x0,hx0⟩:∃ j,x=j+1:=⟨x-1,by omega⟩;obtain ⟨x1,hx1⟩:∃ j,x+1=j:=⟨_,rfl⟩;have w0:=gZ (x:=x) (k:=x0) hx0 (by omega);have w1:=iA (x:=x) (k:=x1) hx1 (by omega);rw [show x-1=x0 by omega,hx1];obtain ⟨lo1,a1,a2,a3,a4⟩:=Qu h334 hb hn (x:=x0) (y:=x) (z:=x1) (by omega) (by omega) (by omega) hs (cap:=cap) d (bs.length+1) hd;generalize median ltInt d x0 x x1 s=r at *;obtain ⟨v2,v3⟩:=r;simp only at *;obtain ⟨lo4,r1,r2⟩:=vZ (bs:=bs) (b:=b) (d:=d) (s:=s) (s':=v3) (lo:=lo) (r:=.d (i64 v2)) rfl a2;refine ⟨lo4,?_,r2,a3,a4⟩;rw [aJ bh0 cp5,hl,hM];refine Eq.trans ?_ r1
 congr 1
 generalize Mn bs b d s (bs.length+1)=M1 at *;generalize Mn bs b d v3 lo1=M2 at *;simp [af,Tk,a1,w0,w1,bK]
end
end
section
open Go.Sort (swp ltInt order2 median medianAdjacent choosePivot Hint)
def jl:Hint->Int
 | .unknown=>0
 | .increasing=>1
 | .decreasing=>2
theorem Pn {x y:Nat}{k:Nat}(h:x * y=k)(hk:k<2 ^ 62):wrap .i64 ((x:Int) * (y:Int))=(k:Int):=by
 have:(x:Int) * (y:Int)=(k:Int):=by rw [← h]; exact (Int.natCast_mul x y).symm
 rw [this,wrap64]<;>omega
section
variable {E:Calls'}(h334:∀ x y h,E 120 [.d (u32 x),.d (u32 y)] h=some (bl (ltInt x y),h))
include h334
theorem ar6 {bs:List Blk}{b:Nat}(hb:b<bs.length){n a e:Nat}(hn:n<2 ^ 60)(ha:a+12<e)(he:e<=n){cap:Option Nat}(d:Array Int)(lo:Nat)(hd:d.size=n) :
 Sm E TS aW 117 [.row b 0 n cap 1,.d (i64 a),.d (i64 e)] (Mz .u32 bs b d lo)=some (.tup [.d (i64 (choosePivot ltInt d a e).1),.d (i64 (jl (choosePivot ltInt d a e).2))],Mz .u32 bs b d lo):=by
 have hl:(Mz .u32 bs b d lo).bs.length=bs.length:=by simp [Mz,Mr]
 have hM:(⟨(Mz .u32 bs b d lo).bs,bs.length⟩:Hp)=Mz .u32 bs b d bs.length:=rfl;obtain ⟨l,hl1⟩:∃ j,e-a=j:=⟨_,rfl⟩;obtain ⟨q,hq⟩:∃ j,l / 4=j:=⟨_,rfl⟩;obtain ⟨q2,hq2⟩:∃ j,q * 2=j:=⟨_,rfl⟩;obtain ⟨q3,hq3⟩:∃ j,q * 3=j:=⟨_,rfl⟩;obtain ⟨i,hi⟩:∃ j,a+q=j:=⟨_,rfl⟩;obtain ⟨j,hj⟩:∃ j,a+q2=j:=⟨_,rfl⟩;obtain ⟨k,hk⟩:∃ j,a+q3=j:=⟨_,rfl⟩;have wl:=vU (x:=e) (y:=a) (k:=l) (by omega) (by omega);have wq:bC .quo (.d (.int .i64 l)) (.d (.int .i64 4))=some (.int .i64 q):=tL (x:=l) (y:=4) (z:=q) (by decide) hq (by omega);have w1:wrap .i64 (q:Int)=(q:Int):=by rw [wrap64]<;>omega
 have w2:wrap .i64 ((q:Int) * 2)=(q2:Int):=Pn (x:=q) (y:=2) hq2 (by omega);have w3:wrap .i64 ((q:Int) * 3)=(q3:Int):=Pn (x:=q) (y:=3) hq3 (by omega);have wi:=yF (x:=a) (y:=q) hi (by omega);have wj:=yF (x:=a) (y:=q2) hj (by omega);have wk:=yF (x:=a) (y:=q3) hk (by omega);have h8:(l:Int)>=8:=by omega
 have hnew:(Mz .u32 bs b d bs.length).alloc [.d (.int .i64 0)]=Mn bs b d 0 bs.length:=by
  simp only [Mn,Mz,Mr,Hp.alloc]
  congr 1
  rw [List.set_append_left _ _ (by simpa using hb)];rfl
 have hlow0:(Mz .u32 bs b d bs.length).low=bs.length:=rfl;have hMn:∀ s,ldv (Mn bs b d s bs.length) (.ptr bs.length 0) 1 true=some (.d (i64 s),Mn bs b d s bs.length):=λs=>Pt hb;have hMl:∀ s,(Mn bs b d s bs.length).low=bs.length:=λs=>rfl;have hlen0:(Mz .u32 bs b d bs.length).bs.length=bs.length:=by simp [Mz,Mr]
 have hbr:∀ s v w,eU (Mz .u32 bs b d lo) (some (.tup [.d v,.d w],Mn bs b d s bs.length))=some (.tup [.d v,.d w],Mz .u32 bs b d lo):=λs v w=>by
  rw [ed,hl,hMl,if_pos ⟨br _,rfl⟩]
 rw [aJ bg2 co6,hl,hM];unfold choosePivot;simp only [hl1,hq,Nat.mul_one,hq2,hq3,hi,hj,hk];rw [if_pos (show l>=8 by omega)];by_cases h50:l>=50
 . have h50':(l:Int)>=50:=by omega
   rw [if_pos h50];have Ksl:∀ {s s' lo'},Ks bs.length bs.length s lo' s'->lo'=bs.length:=λh=>by unfold Ks at h; omega
   obtain ⟨lo1,a1,a2,a3,a4⟩:=Qt h334 hb hn (x:=i) (by omega) (by omega) (s:=0) (by omega) (cap:=cap) d bs.length hd;obtain rfl:=Ksl a2;generalize medianAdjacent ltInt d i 0=ri at *;obtain ⟨i1,s1⟩:=ri;simp only at *;obtain ⟨lo2,b1,b2,b3,b4⟩:=Qt h334 hb hn (x:=j) (by omega) (by omega) (s:=s1) (by omega) (cap:=cap) d bs.length hd;obtain rfl:=Ksl b2;generalize medianAdjacent ltInt d j s1=rj at *;obtain ⟨j1,s2⟩:=rj;simp only at *;obtain ⟨lo3,c1,c2,c3,c4⟩:=Qt h334 hb hn (x:=k) (by omega) (by omega) (s:=s2) (by omega) (cap:=cap) d bs.length hd;obtain rfl:=Ksl c2;generalize medianAdjacent ltInt d k s2=rk at *;obtain ⟨k1,s3⟩:=rk;simp only at *;obtain ⟨lo4,d1,d2,d3,d4⟩:=Qu h334 hb hn (x:=i1) (y:=j1) (z:=k1) a3 b3 c3 (s:=s3) (by omega) (cap:=cap) d bs.length hd;obtain rfl:=Ksl d2;generalize median ltInt d i1 j1 k1 s3=r at *;obtain ⟨m,s4⟩:=r;simp only at *;have hld:=hMn s4;have hbr:=hbr s4;generalize Mz .u32 bs b d bs.length=M0 at *;generalize Mn bs b d 0 bs.length=N0 at *;generalize Mn bs b d s1 bs.length=N1 at *;generalize Mn bs b d s2 bs.length=N2 at *;generalize Mn bs b d s3 bs.length=N3 at *;generalize Mn bs b d s4 bs.length=N4 at *;by_cases e0:s4=0
   . simp only [e0,if_true,jl];refine Eq.trans ?_ (hbr _ _)
     congr 1
     simp +decide [af,CV,wl,wq,w1,w2,w3,wi,wj,wk,h8,h50',hlen0,hlow0,hnew,a1,b1,c1,d1,hld,e0,bK,-aG]
   . have e0':¬ (s4:Int)=0:=by omega
     by_cases e1:s4=12
     . simp only [e0,e1,if_true,if_false,jl];refine Eq.trans ?_ (hbr _ _)
       congr 1
       subst e1;simp +decide [af,CV,wl,wq,w1,w2,w3,wi,wj,wk,h8,h50',hlen0,hlow0,hnew,a1,b1,c1,d1,hld,bK,-aG]
     . have e1':¬ (s4:Int)=12:=by omega
       simp only [e0,e1,if_false,jl];refine Eq.trans ?_ (hbr _ _)
       congr 1
       simp +decide [af,CV,wl,wq,w1,w2,w3,wi,wj,wk,h8,h50',hlen0,hlow0,hnew,a1,b1,c1,d1,hld,e0',e1',e0,e1,bK,-aG]
 . have h50':¬ (l:Int)>=50:=by omega
   rw [if_neg h50];have Ksl:∀ {s s' lo'},Ks bs.length bs.length s lo' s'->lo'=bs.length:=λh=>by unfold Ks at h; omega
   obtain ⟨lo4,d1,d2,d3,d4⟩:=Qu h334 hb hn (x:=i) (y:=j) (z:=k) (by omega) (by omega) (by omega) (s:=0) (by omega) (cap:=cap) d bs.length hd;obtain rfl:=Ksl d2;generalize median ltInt d i j k 0=r at *;obtain ⟨m,s4⟩:=r;simp only at *;have hld:=hMn s4;have hbr:=hbr s4;generalize Mz .u32 bs b d bs.length=M0 at *;generalize Mn bs b d 0 bs.length=N0 at *;generalize Mn bs b d s4 bs.length=N4 at *;by_cases e0:s4=0
   . simp only [e0,if_true,jl];refine Eq.trans ?_ (hbr _ _)
     congr 1
     simp +decide [af,CV,wl,wq,w1,w2,w3,wi,wj,wk,h8,h50',hlen0,hlow0,hnew,d1,hld,e0,bK,-aG]
   . have e0':¬ (s4:Int)=0:=by omega
     by_cases e1:s4=12
     . simp only [e0,e1,if_true,if_false,jl];refine Eq.trans ?_ (hbr _ _)
       congr 1
       subst e1;simp +decide [af,CV,wl,wq,w1,w2,w3,wi,wj,wk,h8,h50',hlen0,hlow0,hnew,d1,hld,bK,-aG]
     . have e1':¬ (s4:Int)=12:=by omega
       simp only [e0,e1,if_false,jl];refine Eq.trans ?_ (hbr _ _)
       congr 1
       simp +decide [af,CV,wl,wq,w1,w2,w3,wi,wj,wk,h8,h50',hlen0,hlow0,hnew,d1,hld,e0',e1',e0,e1,bK,-aG]
end
end
section
open Go.Sort (swp ltInt scanUp scanDown partLoop partEqLoop partition partitionEqual)
theorem ZH:TS 122=some Oi:=by kernel_rfl
theorem ab3:aW 122=false:=by kernel_rfl
theorem bg6:TS 121=some SX:=by kernel_rfl
theorem co9:aW 121=false:=by kernel_rfl
section
variable {E:Calls'}(h334:∀ x y h,E 120 [.d (u32 x),.d (u32 y)] h=some (bl (ltInt x y),h))
include h334
theorem Pj {bs:List Blk}{b:Nat}(hb:b<bs.length){n a j:Nat}(hn:n<2 ^ 60)(ha:a<n)(hj:j<n){cap:Option Nat}(d:Array Int)(lo:Nat)(hd:d.size=n):∀ (m i:Nat),j+1-i<=m->i<=j+1 →
 Cd E TS aW (.loop [0,1,10,11] lJ) [(0,.row b 0 n cap 1),(1,.d (i64 a)),(10,.d (i64 i)),(11,.d (i64 j))] (Mz .u32 bs b d lo)=some (.exit 0,[(0,.row b 0 n cap 1),(1,.d (i64 a)),(10,.d (i64 (scanUp (λx=>ltInt x d[a]!) d j i))),(11,.d (i64 j))],Mz .u32 bs b d lo):=by
 intro m;have key:=ay (E:=E) (T:=TS) (val:=aW) [0,1,10,11] lJ;generalize Cd E TS aW (.loop [0,1,10,11] lJ)=W at key ⊢
 induction m with
 | zero =>
  intro i hm hi;rw [scanUp,if_neg (by simp; omega),key];simp +decide [lJ,ai,az,ae,Tr.mute,show ¬ ((i:Int)<=(j:Int)) from by omega]
 | succ m ih =>
  intro i hm hi;by_cases hij:i<=j
  . have hij':(i:Int)<=(j:Int):=by omega
    have ixi:=λh=>ixz (b:=b) (n:=n) (cap:=cap) (h:=h) (i:=i) (by omega);have ixa:=λh=>ixz (b:=b) (n:=n) (cap:=cap) (h:=h) (i:=a) ha;have li:=bH (kd:=.u32) (lo:=lo) hb (d:=d) (i:=i) (by omega);have la:=bH (kd:=.u32) (lo:=lo) hb (d:=d) (i:=a) (by omega);have c:=λx y h=>ui h334 x y h;obtain ⟨i1,hi1⟩:∃ k,i+1=k:=⟨_,rfl⟩;have wi:=iA (x:=i) (k:=i1) hi1 (by omega);have q:=ih i1 (by omega) (by omega);rw [scanUp,hi1];generalize scanUp (λx=>ltInt x d[a]!) d j i1=R at *;generalize d[a]! = A at *;generalize d[i]! = X at *;generalize Mz .u32 bs b d lo=M0 at *;rw [key];cases hc:ltInt X A with
    | true =>
     simp +decide [lJ,ai,aa,az,ae,Tr.mute,ixi,ixa,li,la,c,hij,hij',hc,wi,-aG,-aN];try simpa using q
    | false =>
     simp +decide [lJ,ai,aa,az,ae,Tr.mute,ixi,ixa,li,la,c,hij,hij',hc,wi,-aG,-aN];try simpa using q
  . rw [scanUp,if_neg (by simp; omega),key];simp +decide [lJ,ai,az,ae,Tr.mute,show ¬ ((i:Int)<=(j:Int)) from by omega]
theorem Ml {bs:List Blk}{b:Nat}(hb:b<bs.length){n a i:Nat}(hn:n<2 ^ 60)(ha:a<n)(hi:0<i){cap:Option Nat}(d:Array Int)(lo:Nat)(hd:d.size=n):∀ (j:Nat),j<n →
 Cd E TS aW (.loop [0,1,10,11] lK) [(0,.row b 0 n cap 1),(1,.d (i64 a)),(10,.d (i64 i)),(11,.d (i64 j))] (Mz .u32 bs b d lo)=some (.exit 2,[(0,.row b 0 n cap 1),(1,.d (i64 a)),(10,.d (i64 i)),(11,.d (i64 (scanDown (λx=>!ltInt x d[a]!) d i j)))],Mz .u32 bs b d lo):=by
 intro j;have key:=ay (E:=E) (T:=TS) (val:=aW) [0,1,10,11] lK;generalize Cd E TS aW (.loop [0,1,10,11] lK)=W at key ⊢
 induction j with
 | zero =>
  intro hj;rw [key];simp +decide [lK,ai,az,ae,Tr.mute,scanDown,show ¬ ((i:Int)<=0) from by omega,show ¬ i=0 from by omega]
 | succ j ih =>
  intro hj;obtain ⟨j1,hj1⟩:∃ k,j+1=k:=⟨_,rfl⟩;have wj:=gZ (x:=j1) (k:=j) hj1.symm (by omega);have q:=ih (by omega);rw [scanDown,hj1];by_cases hij:i<=j1
  . have hij':(i:Int)<=(j1:Int):=by omega
    have ixj:=λh=>ixz (b:=b) (n:=n) (cap:=cap) (h:=h) (i:=j1) (by omega);have ixa:=λh=>ixz (b:=b) (n:=n) (cap:=cap) (h:=h) (i:=a) ha;have lj:=bH (kd:=.u32) (lo:=lo) hb (d:=d) (i:=j1) (by omega);have la:=bH (kd:=.u32) (lo:=lo) hb (d:=d) (i:=a) (by omega);have c:=λx y h=>ui h334 x y h;generalize scanDown (λx=>!ltInt x d[a]!) d i j=R at *;generalize d[a]! = A at *;generalize d[j1]! = X at *;generalize Mz .u32 bs b d lo=M0 at *;rw [key];cases hc:ltInt X A with
    | true =>
     simp +decide [lK,ai,aa,az,ae,Tr.mute,ixj,ixa,lj,la,c,hij,hij',hc,wj,-aG,-aN];try simpa using q
    | false =>
     simp +decide [lK,ai,aa,az,ae,Tr.mute,ixj,ixa,lj,la,c,hij,hij',hc,wj,-aG,-aN];try simpa using q
  . have hij':¬ (i:Int)<=(j1:Int):=by omega
    rw [if_neg (by simp [hij]),key];simp +decide [lK,ai,az,ae,Tr.mute,hij',hij]
theorem Gc {bs:List Blk}{b:Nat}(hb:b<bs.length){n a j:Nat}(hn:n<2 ^ 60)(ha:a<n)(hj:j<n){cap:Option Nat}(d:Array Int)(lo:Nat)(hd:d.size=n):∀ (m i:Nat),j+1-i<=m->i<=j+1 →
 Cd E TS aW (.loop [0,1,10,11] lL) [(0,.row b 0 n cap 1),(1,.d (i64 a)),(10,.d (i64 i)),(11,.d (i64 j))] (Mz .u32 bs b d lo)=some (.exit 6,[(0,.row b 0 n cap 1),(1,.d (i64 a)),(10,.d (i64 (scanUp (λx=>ltInt x d[a]!) d j i))),(11,.d (i64 j))],Mz .u32 bs b d lo):=by
 intro m;have key:=ay (E:=E) (T:=TS) (val:=aW) [0,1,10,11] lL;generalize Cd E TS aW (.loop [0,1,10,11] lL)=W at key ⊢
 induction m with
 | zero =>
  intro i hm hi;rw [scanUp,if_neg (by simp; omega),key];simp +decide [lL,ai,az,ae,Tr.mute,show ¬ ((i:Int)<=(j:Int)) from by omega]
 | succ m ih =>
  intro i hm hi;by_cases hij:i<=j
  . have hij':(i:Int)<=(j:Int):=by omega
    have ixi:=λh=>ixz (b:=b) (n:=n) (cap:=cap) (h:=h) (i:=i) (by omega);have ixa:=λh=>ixz (b:=b) (n:=n) (cap:=cap) (h:=h) (i:=a) ha;have li:=bH (kd:=.u32) (lo:=lo) hb (d:=d) (i:=i) (by omega);have la:=bH (kd:=.u32) (lo:=lo) hb (d:=d) (i:=a) (by omega);have c:=λx y h=>ui h334 x y h;obtain ⟨i1,hi1⟩:∃ k,i+1=k:=⟨_,rfl⟩;have wi:=iA (x:=i) (k:=i1) hi1 (by omega);have q:=ih i1 (by omega) (by omega);rw [scanUp,hi1];generalize scanUp (λx=>ltInt x d[a]!) d j i1=R at *;generalize d[a]! = A at *;generalize d[i]! = X at *;generalize Mz .u32 bs b d lo=M0 at *;rw [key];cases hc:ltInt X A with
    | true =>
     simp +decide [lL,ai,aa,az,ae,Tr.mute,ixi,ixa,li,la,c,hij,hij',hc,wi,-aG,-aN];try simpa using q
    | false =>
     simp +decide [lL,ai,aa,az,ae,Tr.mute,ixi,ixa,li,la,c,hij,hij',hc,wi,-aG,-aN];try simpa using q
  . rw [scanUp,if_neg (by simp; omega),key];simp +decide [lL,ai,az,ae,Tr.mute,show ¬ ((i:Int)<=(j:Int)) from by omega]
theorem FB {bs:List Blk}{b:Nat}(hb:b<bs.length){n a i:Nat}(hn:n<2 ^ 60)(ha:a<n)(hi:0<i){cap:Option Nat}(d:Array Int)(lo:Nat)(hd:d.size=n):∀ (j:Nat),j<n →
 Cd E TS aW (.loop [0,1,10,11] lM) [(0,.row b 0 n cap 1),(1,.d (i64 a)),(10,.d (i64 i)),(11,.d (i64 j))] (Mz .u32 bs b d lo)=some (.exit 8,[(0,.row b 0 n cap 1),(1,.d (i64 a)),(10,.d (i64 i)),(11,.d (i64 (scanDown (λx=>!ltInt x d[a]!) d i j)))],Mz .u32 bs b d lo):=by
 intro j;have key:=ay (E:=E) (T:=TS) (val:=aW) [0,1,10,11] lM;generalize Cd E TS aW (.loop [0,1,10,11] lM)=W at key ⊢
 induction j with
 | zero =>
  intro hj;rw [key];simp +decide [lM,ai,az,ae,Tr.mute,scanDown,show ¬ ((i:Int)<=0) from by omega,show ¬ i=0 from by omega]
 | succ j ih =>
  intro hj;obtain ⟨j1,hj1⟩:∃ k,j+1=k:=⟨_,rfl⟩;have wj:=gZ (x:=j1) (k:=j) hj1.symm (by omega);have q:=ih (by omega);rw [scanDown,hj1];by_cases hij:i<=j1
  . have hij':(i:Int)<=(j1:Int):=by omega
    have ixj:=λh=>ixz (b:=b) (n:=n) (cap:=cap) (h:=h) (i:=j1) (by omega);have ixa:=λh=>ixz (b:=b) (n:=n) (cap:=cap) (h:=h) (i:=a) ha;have lj:=bH (kd:=.u32) (lo:=lo) hb (d:=d) (i:=j1) (by omega);have la:=bH (kd:=.u32) (lo:=lo) hb (d:=d) (i:=a) (by omega);have c:=λx y h=>ui h334 x y h;generalize scanDown (λx=>!ltInt x d[a]!) d i j=R at *;generalize d[a]! = A at *;generalize d[j1]! = X at *;generalize Mz .u32 bs b d lo=M0 at *;rw [key];cases hc:ltInt X A with
    | true =>
     simp +decide [lM,ai,aa,az,ae,Tr.mute,ixj,ixa,lj,la,c,hij,hij',hc,wj,-aG,-aN];try simpa using q
    | false =>
     simp +decide [lM,ai,aa,az,ae,Tr.mute,ixj,ixa,lj,la,c,hij,hij',hc,wj,-aG,-aN];try simpa using q
  . have hij':¬ (i:Int)<=(j1:Int):=by omega
    rw [if_neg (by simp [hij]),key];simp +decide [lM,ai,az,ae,Tr.mute,hij',hij]
theorem Gb {bs:List Blk}{b:Nat}(hb:b<bs.length){n a j:Nat}(hn:n<2 ^ 60)(ha:a<n)(hj:j<n){cap:Option Nat}(d:Array Int)(lo:Nat)(hd:d.size=n):∀ (m i:Nat),j+1-i<=m->i<=j+1 →
 Cd E TS aW (.loop [0,1,9,10] lH) [(0,.row b 0 n cap 1),(1,.d (i64 a)),(9,.d (i64 i)),(10,.d (i64 j))] (Mz .u32 bs b d lo)=some (.exit 2,[(0,.row b 0 n cap 1),(1,.d (i64 a)),(9,.d (i64 (scanUp (λx=>!ltInt d[a]! x) d j i))),(10,.d (i64 j))],Mz .u32 bs b d lo):=by
 intro m;have key:=ay (E:=E) (T:=TS) (val:=aW) [0,1,9,10] lH;generalize Cd E TS aW (.loop [0,1,9,10] lH)=W at key ⊢
 induction m with
 | zero =>
  intro i hm hi;rw [scanUp,if_neg (by simp; omega),key];simp +decide [lH,ai,az,ae,Tr.mute,show ¬ ((i:Int)<=(j:Int)) from by omega]
 | succ m ih =>
  intro i hm hi;by_cases hij:i<=j
  . have hij':(i:Int)<=(j:Int):=by omega
    have ixi:=λh=>ixz (b:=b) (n:=n) (cap:=cap) (h:=h) (i:=i) (by omega);have ixa:=λh=>ixz (b:=b) (n:=n) (cap:=cap) (h:=h) (i:=a) ha;have li:=bH (kd:=.u32) (lo:=lo) hb (d:=d) (i:=i) (by omega);have la:=bH (kd:=.u32) (lo:=lo) hb (d:=d) (i:=a) (by omega);have c:=λx y h=>ui h334 x y h;obtain ⟨i1,hi1⟩:∃ k,i+1=k:=⟨_,rfl⟩;have wi:=iA (x:=i) (k:=i1) hi1 (by omega);have q:=ih i1 (by omega) (by omega);rw [scanUp,hi1];generalize scanUp (λx=>!ltInt d[a]! x) d j i1=R at *;generalize d[a]! = A at *;generalize d[i]! = X at *;generalize Mz .u32 bs b d lo=M0 at *;rw [key];cases hc:ltInt A X with
    | true =>
     simp +decide [lH,ai,aa,az,ae,Tr.mute,ixi,ixa,li,la,c,hij,hij',hc,wi,-aG,-aN];try simpa using q
    | false =>
     simp +decide [lH,ai,aa,az,ae,Tr.mute,ixi,ixa,li,la,c,hij,hij',hc,wi,-aG,-aN];try simpa using q
  . rw [scanUp,if_neg (by simp; omega),key];simp +decide [lH,ai,az,ae,Tr.mute,show ¬ ((i:Int)<=(j:Int)) from by omega]
theorem Fz {bs:List Blk}{b:Nat}(hb:b<bs.length){n a i:Nat}(hn:n<2 ^ 60)(ha:a<n)(hi:0<i){cap:Option Nat}(d:Array Int)(lo:Nat)(hd:d.size=n):∀ (j:Nat),j<n →
 Cd E TS aW (.loop [0,1,9,10] lI) [(0,.row b 0 n cap 1),(1,.d (i64 a)),(9,.d (i64 i)),(10,.d (i64 j))] (Mz .u32 bs b d lo)=some (.exit 4,[(0,.row b 0 n cap 1),(1,.d (i64 a)),(9,.d (i64 i)),(10,.d (i64 (scanDown (λx=>ltInt d[a]! x) d i j)))],Mz .u32 bs b d lo):=by
 intro j;have key:=ay (E:=E) (T:=TS) (val:=aW) [0,1,9,10] lI;generalize Cd E TS aW (.loop [0,1,9,10] lI)=W at key ⊢
 induction j with
 | zero =>
  intro hj;rw [key];simp +decide [lI,ai,az,ae,Tr.mute,scanDown,show ¬ ((i:Int)<=0) from by omega,show ¬ i=0 from by omega]
 | succ j ih =>
  intro hj;obtain ⟨j1,hj1⟩:∃ k,j+1=k:=⟨_,rfl⟩;have wj:=gZ (x:=j1) (k:=j) hj1.symm (by omega);have q:=ih (by omega);rw [scanDown,hj1];by_cases hij:i<=j1
  . have hij':(i:Int)<=(j1:Int):=by omega
    have ixj:=λh=>ixz (b:=b) (n:=n) (cap:=cap) (h:=h) (i:=j1) (by omega);have ixa:=λh=>ixz (b:=b) (n:=n) (cap:=cap) (h:=h) (i:=a) ha;have lj:=bH (kd:=.u32) (lo:=lo) hb (d:=d) (i:=j1) (by omega);have la:=bH (kd:=.u32) (lo:=lo) hb (d:=d) (i:=a) (by omega);have c:=λx y h=>ui h334 x y h;generalize scanDown (λx=>ltInt d[a]! x) d i j=R at *;generalize d[a]! = A at *;generalize d[j1]! = X at *;generalize Mz .u32 bs b d lo=M0 at *;rw [key];cases hc:ltInt A X with
    | true =>
     simp +decide [lI,ai,aa,az,ae,Tr.mute,ixj,ixa,lj,la,c,hij,hij',hc,wj,-aG,-aN];try simpa using q
    | false =>
     simp +decide [lI,ai,aa,az,ae,Tr.mute,ixj,ixa,lj,la,c,hij,hij',hc,wj,-aG,-aN];try simpa using q
  . have hij':¬ (i:Int)<=(j1:Int):=by omega
    rw [if_neg (by simp [hij]),key];simp +decide [lI,ai,az,ae,Tr.mute,hij',hij]
end
end
section
open Go.Sort (swp ltInt scanUp scanDown partLoop partEqLoop partition partitionEqual scanUp_spec scanDown_spec partLoop_eq partEqLoop_eq)
section
variable {E:Calls'}(h334:∀ x y h,E 120 [.d (u32 x),.d (u32 y)] h=some (bl (ltInt x y),h))
include h334
theorem Hf {bs:List Blk}{b:Nat}(hb:b<bs.length){n a:Nat}(hn:n<2 ^ 60)(ha:a<n){cap:Option Nat}:∀ (m i j:Nat) (d:Array Int) (lo:Nat),j+1-i<=m->a<i->i<=j+1->j<n->d.size=n →
 ∃ lo',Cd E TS aW (.loop [0,1,10,11] nN) [(0,.row b 0 n cap 1),(1,.d (i64 a)),(10,.d (i64 i)),(11,.d (i64 j))] (Mz .u32 bs b d lo) =
  some (.exit 4,[(0,.row b 0 n cap 1),(1,.d (i64 a)),(11,.d (i64 (partLoop ltInt a i j d).1))],Mz .u32 bs b (partLoop ltInt a i j d).2 lo')/\Kz b lo d lo' (partLoop ltInt a i j d).2/\(partLoop ltInt a i j d).2.size=n/\(partLoop ltInt a i j d).1<n:=by
 intro m;have key:=ay (E:=E) (T:=TS) (val:=aW) [0,1,10,11] nN;generalize Cd E TS aW (.loop [0,1,10,11] nN)=W at key ⊢
 induction m with
 | zero =>
  intro i j d lo hm hai hij hj hd;have u:=Gc h334 hb hn ha hj (cap:=cap) d lo hd (j+1-i) i (br _) hij;have w:=λi2 h2=>FB h334 hb hn ha (i:=i2) h2 (cap:=cap) d lo hd j hj;obtain ⟨u1,u2,_,_⟩:=scanUp_spec (λx=>ltInt x d[a]!) d j _ i rfl;have hui:scanUp (λx=>ltInt x d[a]!) d j i=i:=by have:=u2 hij; omega
  rw [partLoop_eq];rw [hui] at u ⊢;have w:=w i (by omega);obtain ⟨w1,_,_,_⟩:=scanDown_spec (λx=>!ltInt x d[a]!) d i j;generalize scanDown (λx=>!ltInt x d[a]!) d i j=j2 at *;rw [if_pos (show i>j2 by omega)];refine ⟨lo,?_,.refl,hd,by omega⟩;generalize Mz .u32 bs b d lo=M0 at *;rw [key];simp +decide [nN];rw [aj];try simp at u w
  simp [u];rw [aj];simp [w,show ((i:Int)>(j2:Int)) from by omega]
 | succ m ih =>
  intro i j d lo hm hai hij hj hd;have u:=Gc h334 hb hn ha hj (cap:=cap) d lo hd (j+1-i) i (br _) hij;obtain ⟨u1,u2,_,u4⟩:=scanUp_spec (λx=>ltInt x d[a]!) d j _ i rfl;have u2:=u2 hij;rw [partLoop_eq];generalize scanUp (λx=>ltInt x d[a]!) d j i=i2 at *;have w:=FB h334 hb hn ha (i:=i2) (by omega) (cap:=cap) d lo hd j hj;obtain ⟨w1,_,_,w4⟩:=scanDown_spec (λx=>!ltInt x d[a]!) d i2 j;generalize scanDown (λx=>!ltInt x d[a]!) d i2 j=j2 at *;have hne:i2≠j2:=λhh=>by
   have e1:=u4 (by omega);have e2:=w4 (by omega) (by omega);rw [← hh] at e2;simp only [e1] at e2;cases e2
  by_cases hgt:i2>j2
  . rw [if_pos hgt];refine ⟨lo,?_,.refl,hd,by omega⟩;generalize Mz .u32 bs b d lo=M0 at *;rw [key];simp +decide [nN];rw [aj];try simp at u w
    simp [u];rw [aj];simp [w,show ((i2:Int)>(j2:Int)) from by omega]
  . rw [if_neg hgt];obtain ⟨i3,hi3⟩:∃ k,i2+1=k:=⟨_,rfl⟩;obtain ⟨j3,hj3⟩:∃ k,j2=k+1:=⟨j2-1,by omega⟩;have wi:=iA (x:=i2) (k:=i3) hi3 (by omega);have wj:=gZ (x:=j2) (k:=j3) hj3 (by omega);rw [hi3,show j2-1=j3 by omega];have ixi:=λh=>ixz (b:=b) (n:=n) (cap:=cap) (h:=h) (i:=i2) (by omega);have ixj:=λh=>ixz (b:=b) (n:=n) (cap:=cap) (h:=h) (i:=j2) (by omega);have li:=bH (kd:=.u32) (lo:=lo) hb (d:=d) (i:=i2) (by omega);have lj:=bH (kd:=.u32) (lo:=lo) hb (d:=d) (i:=j2) (by omega);obtain ⟨st1,st2⟩:=fE (kd:=.u32) (lo:=lo) hb (d:=d) (i:=i2) (j:=j2) (by omega) (by omega);obtain ⟨lo',q1,q2,q3,q4⟩:=ih i3 j3 (swp d i2 j2) (min (min lo b) b) (by omega) (by omega) (by omega) (by omega) (by rw [cu]; exact hd);have hK:Kz b lo d (min (min lo b) b) (swp d i2 j2):=.inl (by omega);refine ⟨lo',?_,hK.trans q2,q3,q4⟩;generalize partLoop ltInt a i3 j3 (swp d i2 j2)=D at *;clear u4 w4;generalize d[i2]! = x at *;generalize d[j2]! = y at *;generalize d.setIfInBounds i2 y=d1 at *;generalize swp d i2 j2=d3 at *;generalize Mz .u32 bs b d lo=M0 at *;rw [key];generalize hM1:Mz .u32 bs b d1=M1 at *;simp +decide [nN];rw [aj];try simp at u w
    simp [u];rw [aj];simp +decide [w,show ¬ ((i2:Int)>(j2:Int)) from by omega,ixi,ixj,li,lj,st1,st2,wi,wj,ai,aa,az,ae,Tr.mute,-aG,-aN];simpa using q1
theorem CL {bs:List Blk}{b:Nat}(hb:b<bs.length){n a:Nat}(hn:n<2 ^ 60)(ha:a<n){cap:Option Nat}:∀ (m i j:Nat) (d:Array Int) (lo:Nat),j+1-i<=m->a<i->i<=j+1->j<n->d.size=n →
 ∃ lo',Cd E TS aW (.loop [0,1,9,10] nM) [(0,.row b 0 n cap 1),(1,.d (i64 a)),(9,.d (i64 i)),(10,.d (i64 j))] (Mz .u32 bs b d lo) =
  some (.exit 0,[(9,.d (i64 (partEqLoop ltInt a i j d).1))],Mz .u32 bs b (partEqLoop ltInt a i j d).2 lo')/\Kz b lo d lo' (partEqLoop ltInt a i j d).2/\(partEqLoop ltInt a i j d).2.size=n:=by
 intro m;have key:=ay (E:=E) (T:=TS) (val:=aW) [0,1,9,10] nM;generalize Cd E TS aW (.loop [0,1,9,10] nM)=W at key ⊢
 induction m with
 | zero =>
  intro i j d lo hm hai hij hj hd;have u:=Gb h334 hb hn ha hj (cap:=cap) d lo hd (j+1-i) i (br _) hij;have w:=λi2 h2=>Fz h334 hb hn ha (i:=i2) h2 (cap:=cap) d lo hd j hj;obtain ⟨u1,u2,_,_⟩:=scanUp_spec (λx=>!ltInt d[a]! x) d j _ i rfl;have hui:scanUp (λx=>!ltInt d[a]! x) d j i=i:=by have:=u2 hij; omega
  rw [partEqLoop_eq];rw [hui] at u ⊢;have w:=w i (by omega);obtain ⟨w1,_,_,_⟩:=scanDown_spec (λx=>ltInt d[a]! x) d i j;generalize scanDown (λx=>ltInt d[a]! x) d i j=j2 at *;rw [if_pos (show i>j2 by omega)];refine ⟨lo,?_,.refl,hd⟩;generalize Mz .u32 bs b d lo=M0 at *;rw [key];simp +decide [nM];rw [aj];try simp at u w
  simp [u];rw [aj];simp [w,show ((i:Int)>(j2:Int)) from by omega]
 | succ m ih =>
  intro i j d lo hm hai hij hj hd;have u:=Gb h334 hb hn ha hj (cap:=cap) d lo hd (j+1-i) i (br _) hij;obtain ⟨u1,u2,_,u4⟩:=scanUp_spec (λx=>!ltInt d[a]! x) d j _ i rfl;have u2:=u2 hij;rw [partEqLoop_eq];generalize scanUp (λx=>!ltInt d[a]! x) d j i=i2 at *;have w:=Fz h334 hb hn ha (i:=i2) (by omega) (cap:=cap) d lo hd j hj;obtain ⟨w1,_,_,w4⟩:=scanDown_spec (λx=>ltInt d[a]! x) d i2 j;generalize scanDown (λx=>ltInt d[a]! x) d i2 j=j2 at *;have hne:i2≠j2:=λhh=>by
   have e1:=u4 (by omega);have e2:=w4 (by omega) (by omega);rw [← hh] at e2;simp only [e2] at e1;cases e1
  by_cases hgt:i2>j2
  . rw [if_pos hgt];refine ⟨lo,?_,.refl,hd⟩;generalize Mz .u32 bs b d lo=M0 at *;rw [key];simp +decide [nM];rw [aj];try simp at u w
    simp [u];rw [aj];simp [w,show ((i2:Int)>(j2:Int)) from by omega]
  . rw [if_neg hgt];obtain ⟨i3,hi3⟩:∃ k,i2+1=k:=⟨_,rfl⟩;obtain ⟨j3,hj3⟩:∃ k,j2=k+1:=⟨j2-1,by omega⟩;have wi:=iA (x:=i2) (k:=i3) hi3 (by omega);have wj:=gZ (x:=j2) (k:=j3) hj3 (by omega);rw [hi3,show j2-1=j3 by omega];have ixi:=λh=>ixz (b:=b) (n:=n) (cap:=cap) (h:=h) (i:=i2) (by omega);have ixj:=λh=>ixz (b:=b) (n:=n) (cap:=cap) (h:=h) (i:=j2) (by omega);have li:=bH (kd:=.u32) (lo:=lo) hb (d:=d) (i:=i2) (by omega);have lj:=bH (kd:=.u32) (lo:=lo) hb (d:=d) (i:=j2) (by omega);obtain ⟨st1,st2⟩:=fE (kd:=.u32) (lo:=lo) hb (d:=d) (i:=i2) (j:=j2) (by omega) (by omega);obtain ⟨lo',q1,q2,q3⟩:=ih i3 j3 (swp d i2 j2) (min (min lo b) b) (by omega) (by omega) (by omega) (by omega) (by rw [cu]; exact hd);have hK:Kz b lo d (min (min lo b) b) (swp d i2 j2):=.inl (by omega);refine ⟨lo',?_,hK.trans q2,q3⟩;generalize partEqLoop ltInt a i3 j3 (swp d i2 j2)=D at *;clear u4 w4;generalize d[i2]! = x at *;generalize d[j2]! = y at *;generalize d.setIfInBounds i2 y=d1 at *;generalize swp d i2 j2=d3 at *;generalize Mz .u32 bs b d lo=M0 at *;rw [key];generalize hM1:Mz .u32 bs b d1=M1 at *;simp +decide [nM];rw [aj];try simp at u w
    simp [u];rw [aj];simp +decide [w,show ¬ ((i2:Int)>(j2:Int)) from by omega,ixi,ixj,li,lj,st1,st2,wi,wj,ai,aa,az,ae,Tr.mute,-aG,-aN];simpa using q1
theorem as0 {bs:List Blk}{b:Nat}(hb:b<bs.length){n a e p:Nat}(hn:n<2 ^ 60)(ha:a<e)(he:e<=n)(hp:p<n){cap:Option Nat}(d:Array Int)(lo:Nat)(hd:d.size=n) :
 ∃ lo',Sm E TS aW 121 [.row b 0 n cap 1,.d (i64 a),.d (i64 e),.d (i64 p)] (Mz .u32 bs b d lo)=some (.d (i64 (partitionEqual ltInt d a e p).1),Mz .u32 bs b (partitionEqual ltInt d a e p).2 lo')/\Kz b lo d lo' (partitionEqual ltInt d a e p).2/\(partitionEqual ltInt d a e p).2.size=n:=by
 obtain ⟨i,hi⟩:∃ k,a+1=k:=⟨_,rfl⟩;obtain ⟨j,hj⟩:∃ k,e=k+1:=⟨e-1,by omega⟩;have wi:=iA (x:=a) (k:=i) hi (by omega);have wj:=gZ (x:=e) (k:=j) hj (by omega);have hM:(⟨(Mz .u32 bs b d lo).bs,bs.length⟩:Hp)=Mz .u32 bs b d bs.length:=rfl;have hl:(Mz .u32 bs b d lo).bs.length=bs.length:=by simp [Mz,Mr]
 have ixa:=λh=>ixz (b:=b) (n:=n) (cap:=cap) (h:=h) (i:=a) (by omega);have ixp:=λh=>ixz (b:=b) (n:=n) (cap:=cap) (h:=h) (i:=p) hp;have la:=bH (kd:=.u32) (lo:=bs.length) hb (d:=d) (i:=a) (by omega);have lp:=bH (kd:=.u32) (lo:=bs.length) hb (d:=d) (i:=p) (by omega);obtain ⟨st1,st2⟩:=fE (kd:=.u32) (lo:=bs.length) hb (d:=d) (i:=a) (j:=p) (by omega) (by omega);obtain ⟨lo1,q1,q2,q3⟩:=CL h334 hb hn (a:=a) (by omega) (cap:=cap) (j+1-i) i j (swp d a p) (min bs.length b) (br _) (by omega) (by omega) (by omega) (by rw [cu]; exact hd);have hS:partitionEqual ltInt d a e p=partEqLoop ltInt a i j (swp d a p):=by unfold partitionEqual; rw [hi,show e-1=j by omega]
 rw [hS];have hK:Kz b bs.length d (min bs.length b) (swp d a p):=.inl (by omega);obtain ⟨lo2,r1,r2⟩:=lg (kd:=.u32) (lo:=lo) (r:=.d (i64 (partEqLoop ltInt a i j (swp d a p)).1)) hb rfl (hK.trans q2);refine ⟨lo2,?_,r2,q3⟩;rw [aJ bg6 co9,hl,hM];refine Eq.trans ?_ r1
 congr 1
 generalize partEqLoop ltInt a i j (swp d a p)=D at *;generalize d[a]! = x at *;generalize d[p]! = y at *;generalize d.setIfInBounds a y=d1 at *;generalize swp d a p=d3 at *;generalize Mz .u32 bs b d bs.length=M0 at *;generalize hM1:Mz .u32 bs b d1=M1 at *;simp +decide [af,SX,ixa,ixp,la,lp,st1,st2,wi,wj,ai,aa,az,ae,Tr.mute,-aG,-aN];rw [aj];try simp at q1
 simp [q1,bK]
theorem as2 {bs:List Blk}{b:Nat}(hb:b<bs.length){n a e p:Nat}(hn:n<2 ^ 60)(ha:a<e)(he:e<=n)(hp:p<n){cap:Option Nat}(d:Array Int)(lo:Nat)(hd:d.size=n) :
 ∃ lo',Sm E TS aW 122 [.row b 0 n cap 1,.d (i64 a),.d (i64 e),.d (i64 p)] (Mz .u32 bs b d lo)=some (.tup [.d (i64 (partition ltInt d a e p).1),bl (partition ltInt d a e p).2.1],Mz .u32 bs b (partition ltInt d a e p).2.2 lo')/\Kz b lo d lo' (partition ltInt d a e p).2.2/\(partition ltInt d a e p).2.2.size=n:=by
 obtain ⟨i,hi⟩:∃ k,a+1=k:=⟨_,rfl⟩;obtain ⟨j,hj⟩:∃ k,e=k+1:=⟨e-1,by omega⟩;have wi:=iA (x:=a) (k:=i) hi (by omega);have wj:=gZ (x:=e) (k:=j) hj (by omega);have hM:(⟨(Mz .u32 bs b d lo).bs,bs.length⟩:Hp)=Mz .u32 bs b d bs.length:=rfl;have hl:(Mz .u32 bs b d lo).bs.length=bs.length:=by simp [Mz,Mr]
 have ixa:=λh=>ixz (b:=b) (n:=n) (cap:=cap) (h:=h) (i:=a) (by omega);have ixp:=λh=>ixz (b:=b) (n:=n) (cap:=cap) (h:=h) (i:=p) hp;have la:=bH (kd:=.u32) (lo:=bs.length) hb (d:=d) (i:=a) (by omega);have lp:=bH (kd:=.u32) (lo:=bs.length) hb (d:=d) (i:=p) (by omega);obtain ⟨st1,st2⟩:=fE (kd:=.u32) (lo:=bs.length) hb (d:=d) (i:=a) (j:=p) (by omega) (by omega);have hd1:(swp d a p).size=n:=by rw [cu]; exact hd
 have hS:partition ltInt d a e p=(if scanUp (λx=>ltInt x (swp d a p)[a]!) (swp d a p) j i>scanDown (λx=>!ltInt x (swp d a p)[a]!) (swp d a p) (scanUp (λx=>ltInt x (swp d a p)[a]!) (swp d a p) j i) j then
  (scanDown (λx=>!ltInt x (swp d a p)[a]!) (swp d a p) (scanUp (λx=>ltInt x (swp d a p)[a]!) (swp d a p) j i) j,true,swp (swp d a p) (scanDown (λx=>!ltInt x (swp d a p)[a]!) (swp d a p) (scanUp (λx=>ltInt x (swp d a p)[a]!) (swp d a p) j i) j) a) else
  ((partLoop ltInt a (scanUp (λx=>ltInt x (swp d a p)[a]!) (swp d a p) j i+1) (scanDown (λx=>!ltInt x (swp d a p)[a]!) (swp d a p) (scanUp (λx=>ltInt x (swp d a p)[a]!) (swp d a p) j i) j-1) (swp (swp d a p) (scanUp (λx=>ltInt x (swp d a p)[a]!) (swp d a p) j i) (scanDown (λx=>!ltInt x (swp d a p)[a]!) (swp d a p) (scanUp (λx=>ltInt x (swp d a p)[a]!) (swp d a p) j i) j))).1,false,
   swp (partLoop ltInt a (scanUp (λx=>ltInt x (swp d a p)[a]!) (swp d a p) j i+1) (scanDown (λx=>!ltInt x (swp d a p)[a]!) (swp d a p) (scanUp (λx=>ltInt x (swp d a p)[a]!) (swp d a p) j i) j-1) (swp (swp d a p) (scanUp (λx=>ltInt x (swp d a p)[a]!) (swp d a p) j i) (scanDown (λx=>!ltInt x (swp d a p)[a]!) (swp d a p) (scanUp (λx=>ltInt x (swp d a p)[a]!) (swp d a p) j i) j))).2
    (partLoop ltInt a (scanUp (λx=>ltInt x (swp d a p)[a]!) (swp d a p) j i+1) (scanDown (λx=>!ltInt x (swp d a p)[a]!) (swp d a p) (scanUp (λx=>ltInt x (swp d a p)[a]!) (swp d a p) j i) j-1) (swp (swp d a p) (scanUp (λx=>ltInt x (swp d a p)[a]!) (swp d a p) j i) (scanDown (λx=>!ltInt x (swp d a p)[a]!) (swp d a p) (scanUp (λx=>ltInt x (swp d a p)[a]!) (swp d a p) j i) j))).1 a)):=by
  unfold partition;simp only [hi,show e-1=j by omega]
 rw [hS];clear hS;have hK:Kz b bs.length d (min bs.length b) (swp d a p):=.inl (by omega);generalize hD:swp d a p=D at *;have u:=Pj h334 hb hn (a:=a) (j:=j) (by omega) (by omega) (cap:=cap) D (min bs.length b) hd1 (j+1-i) i (br _) (by omega);obtain ⟨u1,u2,_,u4⟩:=scanUp_spec (λx=>ltInt x D[a]!) D j _ i rfl;have u2:=u2 (by omega);generalize scanUp (λx=>ltInt x D[a]!) D j i=i2 at *;have w:=Ml h334 hb hn (a:=a) (by omega) (i:=i2) (by omega) (cap:=cap) D (min bs.length b) hd1 j (by omega);obtain ⟨w1,w2,_,w4⟩:=scanDown_spec (λx=>!ltInt x D[a]!) D i2 j;generalize scanDown (λx=>!ltInt x D[a]!) D i2 j=j2 at *;have hne:i2≠j2:=λhh=>by
  have e1:=u4 (by omega);have e2:=w4 (by omega) (by omega);rw [← hh] at e2;simp only [e1] at e2;cases e2
 clear u4 w4;have ixi:=λ(hh:i2<n) h=>ixz (b:=b) (n:=n) (cap:=cap) (h:=h) (i:=i2) hh;have ixj:=λh=>ixz (b:=b) (n:=n) (cap:=cap) (h:=h) (i:=j2) (by omega);have lj:=bH (kd:=.u32) (lo:=min bs.length b) hb (d:=D) (i:=j2) (by omega);have la2:=bH (kd:=.u32) (lo:=min bs.length b) hb (d:=D) (i:=a) (by omega);by_cases hgt:i2>j2
 . rw [if_pos hgt];have hgt':(i2:Int)>(j2:Int):=by omega
   obtain ⟨t1,t2⟩:=fE (kd:=.u32) (lo:=min bs.length b) hb (d:=D) (i:=j2) (j:=a) (by omega) (by omega);have hK2:Kz b (min bs.length b) D (min (min (min bs.length b) b) b) (swp D j2 a):=.inl (by omega);have hsz:(swp D j2 a).size=n:=by rw [cu]; exact hd1
   obtain ⟨lo2,r1,r2⟩:=lg (kd:=.u32) (lo:=lo) (r:=.tup [.d (i64 j2),bl true]) hb rfl (hK.trans hK2);refine ⟨lo2,?_,r2,hsz⟩;rw [aJ ZH ab3,hl,hM];refine Eq.trans ?_ r1
   congr 1
   generalize d[a]! = x at *;generalize d[p]! = y at *;generalize d.setIfInBounds a y=d1 at *;generalize D[a]! = x2 at *;generalize D[j2]! = y2 at *;generalize D.setIfInBounds j2 x2=d4 at *;generalize swp D j2 a=d5 at *;generalize Mz .u32 bs b d bs.length=M0 at *;generalize hM1:Mz .u32 bs b d1=M1 at *;generalize hM2:Mz .u32 bs b D=M2 at *;generalize hM4:Mz .u32 bs b d4=M4 at *;simp +decide [af,Oi,ixa,ixp,la,lp,st1,st2,wi,wj,ai,aa,az,ae,Tr.mute,-aG,-aN];rw [aj];try simp at u w
   simp [u];rw [aj];try simp [-aG,-aN] at t1 t2
   simp +decide [w,hgt',ixa,ixj,lj,la2,t1,t2,ai,aa,az,ae,Tr.mute,bK,-aG,-aN]
 . rw [if_neg hgt];have hgt':¬ (i2:Int)>(j2:Int):=by omega
   obtain ⟨i3,hi3⟩:∃ k,i2+1=k:=⟨_,rfl⟩;obtain ⟨j3,hj3⟩:∃ k,j2=k+1:=⟨j2-1,by omega⟩;have wi3:=iA (x:=i2) (k:=i3) hi3 (by omega);have wj3:=gZ (x:=j2) (k:=j3) hj3 (by omega);rw [hi3,show j2-1=j3 by omega];have ixi:=ixi (by omega);have li:=bH (kd:=.u32) (lo:=min bs.length b) hb (d:=D) (i:=i2) (by omega);obtain ⟨t1,t2⟩:=fE (kd:=.u32) (lo:=min bs.length b) hb (d:=D) (i:=i2) (j:=j2) (by omega) (by omega);obtain ⟨lo1,q1,q2,q3,q4⟩:=Hf h334 hb hn (a:=a) (by omega) (cap:=cap) (j3+1-i3) i3 j3 (swp D i2 j2) (min bs.length b) (br _) (by omega) (by omega) (by omega) (by rw [cu]; exact hd1);have hK2:Kz b (min bs.length b) D (min bs.length b) (swp D i2 j2):=.inl (by omega);generalize hPL:partLoop ltInt a i3 j3 (swp D i2 j2)=PL at *;obtain ⟨m,PD⟩:=PL;simp only at q1 q2 q3 q4 ⊢;have ixm:=λh=>ixz (b:=b) (n:=n) (cap:=cap) (h:=h) (i:=m) q4;have lm:=bH (kd:=.u32) (lo:=lo1) hb (d:=PD) (i:=m) (by omega);have la3:=bH (kd:=.u32) (lo:=lo1) hb (d:=PD) (i:=a) (by omega);obtain ⟨v1,v2⟩:=fE (kd:=.u32) (lo:=lo1) hb (d:=PD) (i:=m) (j:=a) (by omega) (by omega);have hsz:(swp PD m a).size=n:=by rw [cu]; exact q3
   have hK3:Kz b lo1 PD (min (min lo1 b) b) (swp PD m a):=.inl (by omega);obtain ⟨lo2,r1,r2⟩:=lg (kd:=.u32) (lo:=lo) (r:=.tup [.d (i64 m),bl false]) hb rfl (hK.trans (hK2.trans (q2.trans hK3)));refine ⟨lo2,?_,r2,hsz⟩;rw [aJ ZH ab3,hl,hM];refine Eq.trans ?_ r1
   congr 1
   clear hPL;generalize d[a]! = x at *;generalize d[p]! = y at *;generalize d.setIfInBounds a y=d1 at *;generalize D[i2]! = x2 at *;generalize D[j2]! = y2 at *;generalize D.setIfInBounds i2 y2=d4 at *;generalize swp D i2 j2=d5 at *;generalize PD[a]! = x3 at *;generalize PD[m]! = y3 at *;generalize PD.setIfInBounds m x3=d6 at *;generalize swp PD m a=d7 at *;generalize Mz .u32 bs b d bs.length=M0 at *;generalize hM1:Mz .u32 bs b d1=M1 at *;generalize hM2:Mz .u32 bs b D=M2 at *;generalize hM4:Mz .u32 bs b d4=M4 at *;generalize hM5:Mz .u32 bs b d5=M5 at *;generalize hM6:Mz .u32 bs b d6=M6 at *;generalize hM7:Mz .u32 bs b PD=M7 at *;simp +decide [af,Oi,ixa,ixp,la,lp,st1,st2,wi,wj,ai,aa,az,ae,Tr.mute,-aG,-aN];rw [aj];try simp at u w
   simp [u];rw [aj];try simp [-aG,-aN] at t1 t2
   simp +decide [w,hgt',ixi,ixj,li,lj,t1,t2,wi3,wj3,ai,aa,az,ae,Tr.mute,-aG,-aN];rw [aj];try simp at q1
   simp +decide [q1,ixm,ixa,lm,la3,v1,v2,ai,aa,az,ae,Tr.mute,bK,-aG,-aN]
end
end
section
open Go.Sort (swp ltInt scanSorted shiftDown shiftUp partialIns partialInsertionSort)
theorem bg4:TS 119=some SV:=by kernel_rfl
theorem co8:aW 119=false:=by kernel_rfl
theorem qE {d:Array Int}{e:Nat}:∀ (m i:Nat),e-i<=m->i<=e->i<=scanSorted ltInt d e i/\scanSorted ltInt d e i<=e
 | 0,i,hm,hi=>by rw [scanSorted,if_neg (by simp; omega)]; exact ⟨br _,hi⟩
 | m+1,i,hm,hi=>by
  rw [scanSorted];split
  . rename_i hc;simp only [aE,bw] at hc;have hc1:=hc.1;have:=qE (d:=d) (e:=e) m (i+1) (by omega) (by omega);omega
  . exact ⟨br _,hi⟩
section
variable {E:Calls'}(h334:∀ x y h,E 120 [.d (u32 x),.d (u32 y)] h=some (bl (ltInt x y),h))
include h334
theorem OX {bs:List Blk}{b:Nat}(hb:b<bs.length){n e:Nat}(hn:n<2 ^ 60)(he:e<=n){cap:Option Nat}(t1 t8:V)(d:Array Int)(lo:Nat)(hd:d.size=n):∀ (m i:Nat),e-i<=m->0<i->i<=e →
 Cd E TS aW (.loop [0,1,2,7,8] lD) [(0,.row b 0 n cap 1),(1,t1),(2,.d (i64 e)),(7,.d (i64 i)),(8,t8)] (Mz .u32 bs b d lo)=some (.exit 2,[(0,.row b 0 n cap 1),(1,t1),(2,.d (i64 e)),(7,.d (i64 (scanSorted ltInt d e i))),(8,t8)],Mz .u32 bs b d lo):=by
 intro m;have key:=ay (E:=E) (T:=TS) (val:=aW) [0,1,2,7,8] lD;generalize Cd E TS aW (.loop [0,1,2,7,8] lD)=W at key ⊢
 induction m with
 | zero =>
  intro i hm h0 hi;rw [scanSorted,if_neg (by simp; omega),key];simp +decide [lD,ai,az,ae,Tr.mute,show ¬ ((i:Int)<(e:Int)) from by omega]
 | succ m ih =>
  intro i hm h0 hi;by_cases hij:i<e
  . have hij':(i:Int)<(e:Int):=by omega
    obtain ⟨i0,hi0⟩:∃ k,i=k+1:=⟨i-1,by omega⟩;obtain ⟨i1,hi1⟩:∃ k,i+1=k:=⟨_,rfl⟩;have wi:=iA (x:=i) (k:=i1) hi1 (by omega);have w0:=gZ (x:=i) (k:=i0) hi0 (by omega);have ixi:=λh=>ixz (b:=b) (n:=n) (cap:=cap) (h:=h) (i:=i) (by omega);have ix0:=λh=>ixz (b:=b) (n:=n) (cap:=cap) (h:=h) (i:=i0) (by omega);have li:=bH (kd:=.u32) (lo:=lo) hb (d:=d) (i:=i) (by omega);have l0:=bH (kd:=.u32) (lo:=lo) hb (d:=d) (i:=i0) (by omega);have c:=λx y h=>ui h334 x y h;have q:=ih i1 (by omega) (by omega) (by omega);rw [scanSorted,hi1,show i-1=i0 by omega];generalize scanSorted ltInt d e i1=R at *;generalize d[i0]! = A at *;generalize d[i]! = X at *;generalize Mz .u32 bs b d lo=M0 at *;rw [key];cases hc:ltInt X A with
    | true =>
     simp +decide [lD,ai,aa,az,ae,Tr.mute,ixi,ix0,li,l0,c,hij,hij',hc,wi,w0,-aG,-aN]
    | false =>
     simp +decide [lD,ai,aa,az,ae,Tr.mute,ixi,ix0,li,l0,c,hij,hij',hc,wi,w0,-aG,-aN];simpa using q
  . rw [scanSorted,if_neg (by simp [hij]),key];simp +decide [lD,ai,az,ae,Tr.mute,show ¬ ((i:Int)<(e:Int)) from by omega]
theorem OY {bs:List Blk}{b:Nat}(hb:b<bs.length){n:Nat}(hn:n<2 ^ 60){cap:Option Nat}(t1 t2 t7 t8:V):∀ (j:Nat) (d:Array Int) (lo:Nat),j<n->d.size=n →
 ∃ lo',Cd E TS aW (.loop [0,1,2,7,8,9] nL) [(0,.row b 0 n cap 1),(1,t1),(2,t2),(7,t7),(8,t8),(9,.d (i64 j))] (Mz .u32 bs b d lo)=some (.exit 4,[(0,.row b 0 n cap 1),(1,t1),(2,t2),(7,t7),(8,t8)],Mz .u32 bs b (shiftDown ltInt j d) lo')/\Kz b lo d lo' (shiftDown ltInt j d)/\(shiftDown ltInt j d).size=n:=by
 intro j;have key:=ay (E:=E) (T:=TS) (val:=aW) [0,1,2,7,8,9] nL;generalize Cd E TS aW (.loop [0,1,2,7,8,9] nL)=W at key ⊢
 induction j with
 | zero =>
  intro d lo hj hd;refine ⟨lo,?_,.refl,hd⟩;rw [key];simp +decide [nL,shiftDown]
 | succ j ih =>
  intro d lo hj hd;obtain ⟨k,hk⟩:∃ k,j+1=k:=⟨_,rfl⟩;have w0:=gZ (x:=k) (k:=j) hk.symm (by omega);have ixk:=λh=>ixz (b:=b) (n:=n) (cap:=cap) (h:=h) (i:=k) (by omega);have ixj:=λh=>ixz (b:=b) (n:=n) (cap:=cap) (h:=h) (i:=j) (by omega);have lk:=bH (kd:=.u32) (lo:=lo) hb (d:=d) (i:=k) (by omega);have lj:=bH (kd:=.u32) (lo:=lo) hb (d:=d) (i:=j) (by omega);obtain ⟨st1,st2⟩:=fE (kd:=.u32) (lo:=lo) hb (d:=d) (i:=k) (j:=j) (by omega) (by omega);have c:=λx y h=>ui h334 x y h;obtain ⟨lo',q1,q2,q3⟩:=ih (swp d k j) (min (min lo b) b) (by omega) (by rw [cu]; exact hd);have hk1:(k:Int)>=1:=by omega
  have hK:Kz b lo d (min (min lo b) b) (swp d k j):=.inl (by omega);rw [shiftDown,hk];by_cases hc:ltInt d[k]! d[j]! = true
  . rw [if_neg (by simp [hc])];refine ⟨lo',?_,hK.trans q2,q3⟩;generalize shiftDown ltInt j (swp d k j)=D at *;generalize d[k]! = x at *;generalize d[j]! = y at *;generalize d.setIfInBounds k y=d1 at *;generalize swp d k j=d3 at *;generalize Mz .u32 bs b d lo=M0 at *;rw [key];generalize hM1:Mz .u32 bs b d1=M1 at *;simp +decide [nL,ai,aa,az,ae,Tr.mute,ixk,ixj,lk,lj,c,hc,w0,hk1,st1,st2,-aG,-aN];simpa using q1
  . rw [if_pos (by simp [hc])];refine ⟨lo,?_,.refl,hd⟩;generalize d[k]! = x at *;generalize d[j]! = y at *;generalize Mz .u32 bs b d lo=M0 at *;rw [key];simp +decide [nL,ai,aa,az,ae,Tr.mute,ixk,ixj,lk,lj,c,hc,w0,hk1,-aG,-aN]
theorem F8 {bs:List Blk}{b:Nat}(hb:b<bs.length){n e:Nat}(hn:n<2 ^ 60)(he:e<=n){cap:Option Nat}(t1 t7 t8:V):∀ (m j:Nat) (d:Array Int) (lo:Nat),e-j<=m->0<j->j<=e->d.size=n →
 ∃ lo',Cd E TS aW (.loop [0,1,2,7,8,10] lG) [(0,.row b 0 n cap 1),(1,t1),(2,.d (i64 e)),(7,t7),(8,t8),(10,.d (i64 j))] (Mz .u32 bs b d lo)=some (.exit 6,[(0,.row b 0 n cap 1),(1,t1),(2,.d (i64 e)),(7,t7),(8,t8)],Mz .u32 bs b (shiftUp ltInt e j d) lo')/\Kz b lo d lo' (shiftUp ltInt e j d)/\(shiftUp ltInt e j d).size=n:=by
 intro m;have key:=ay (E:=E) (T:=TS) (val:=aW) [0,1,2,7,8,10] lG;generalize Cd E TS aW (.loop [0,1,2,7,8,10] lG)=W at key ⊢
 induction m with
 | zero =>
  intro j d lo hm h0 hj hd;have hu:shiftUp ltInt e j d=d:=by rw [shiftUp,if_neg (by omega)]
  rw [hu];refine ⟨lo,?_,.refl,hd⟩;rw [key];simp +decide [lG,show ¬ ((j:Int)<(e:Int)) from by omega]
 | succ m ih =>
  intro j d lo hm h0 hj hd;by_cases hje:j<e
  . have hje':(j:Int)<(e:Int):=by omega
    obtain ⟨j0,hj0⟩:∃ k,j=k+1:=⟨j-1,by omega⟩;obtain ⟨j1,hj1⟩:∃ k,j+1=k:=⟨_,rfl⟩;have w1:=iA (x:=j) (k:=j1) hj1 (by omega);have w0:=gZ (x:=j) (k:=j0) hj0 (by omega);have ixj:=λh=>ixz (b:=b) (n:=n) (cap:=cap) (h:=h) (i:=j) (by omega);have ix0:=λh=>ixz (b:=b) (n:=n) (cap:=cap) (h:=h) (i:=j0) (by omega);have lj:=bH (kd:=.u32) (lo:=lo) hb (d:=d) (i:=j) (by omega);have l0:=bH (kd:=.u32) (lo:=lo) hb (d:=d) (i:=j0) (by omega);obtain ⟨st1,st2⟩:=fE (kd:=.u32) (lo:=lo) hb (d:=d) (i:=j) (j:=j0) (by omega) (by omega);have c:=λx y h=>ui h334 x y h;obtain ⟨lo',q1,q2,q3⟩:=ih j1 (swp d j j0) (min (min lo b) b) (by omega) (by omega) (by omega) (by rw [cu]; exact hd);have hK:Kz b lo d (min (min lo b) b) (swp d j j0):=.inl (by omega);rw [shiftUp,if_pos hje,hj1,show j-1=j0 by omega];by_cases hc:ltInt d[j]! d[j0]! = true
    . rw [if_neg (by simp [hc])];refine ⟨lo',?_,hK.trans q2,q3⟩;generalize shiftUp ltInt e j1 (swp d j j0)=D at *;generalize d[j]! = x at *;generalize d[j0]! = y at *;generalize d.setIfInBounds j y=d1 at *;generalize swp d j j0=d3 at *;generalize Mz .u32 bs b d lo=M0 at *;rw [key];generalize hM1:Mz .u32 bs b d1=M1 at *;simp +decide [lG,ai,aa,az,ae,Tr.mute,ixj,ix0,lj,l0,c,hc,w0,w1,hje',st1,st2,-aG,-aN];simpa using q1
    . rw [if_pos (by simp [hc])];refine ⟨lo,?_,.refl,hd⟩;generalize d[j]! = x at *;generalize d[j0]! = y at *;generalize Mz .u32 bs b d lo=M0 at *;rw [key];simp +decide [lG,ai,aa,az,ae,Tr.mute,ixj,ix0,lj,l0,c,hc,w0,w1,hje',-aG,-aN]
  . have hu:shiftUp ltInt e j d=d:=by rw [shiftUp,if_neg hje]
    rw [hu];refine ⟨lo,?_,.refl,hd⟩;rw [key];simp +decide [lG,show ¬ ((j:Int)<(e:Int)) from by omega]
def VD (r:Bool)(ex:Ex)(e:EA):Prop:=(ex=.ret/\e=[(6,bl r)])\/(ex=.exit 0/\e=[]/\r=false)
theorem MW {bs:List Blk}{b:Nat}(hb:b<bs.length){n a e:Nat}(hn:n<2 ^ 60)(ha:a<e)(he:e<=n){cap:Option Nat}:∀ (s i:Nat) (d:Array Int) (lo:Nat),s<=5->a<i->i<=e->d.size=n →
 ∃ lo' ex ev,VD (partialIns ltInt a e s i d).2 ex ev/\Cd E TS aW (.loop [0,1,2,7,8] jf) [(0,.row b 0 n cap 1),(1,.d (i64 a)),(2,.d (i64 e)),(7,.d (i64 i)),(8,.d (i64 ((5-s:Nat):Int)))] (Mz .u32 bs b d lo) =
  some (ex,ev,Mz .u32 bs b (partialIns ltInt a e s i d).1 lo')/\Kz b lo d lo' (partialIns ltInt a e s i d).1/\(partialIns ltInt a e s i d).1.size=n:=by
 intro s;have key:=ay (E:=E) (T:=TS) (val:=aW) [0,1,2,7,8] jf;generalize Cd E TS aW (.loop [0,1,2,7,8] jf)=W at key ⊢
 induction s with
 | zero =>
  intro i d lo hs hi hie hd;refine ⟨lo,_,_,.inr ⟨rfl,rfl,rfl⟩,?_,.refl,hd⟩;rw [key];simp +decide [jf,partialIns]
 | succ s ih =>
  intro i d lo hs hi hie hd;obtain ⟨k,hk⟩:∃ k,5-(s+1)=k:=⟨_,rfl⟩;obtain ⟨k1,hk1⟩:∃ j,5-s=j:=⟨_,rfl⟩;have wk:=iA (x:=k) (k:=k1) (by omega) (by omega);have hk5:(k:Int)<5:=by omega
  have u:=OX h334 hb hn he (cap:=cap) (.d (i64 a)) (.d (i64 k)) d lo hd (e-i) i (br _) (by omega) hie;obtain ⟨u1,u2⟩:=qE (d:=d) (e:=e) (e-i) i (br _) hie;simp only [partialIns];rw [hk];generalize scanSorted ltInt d e i=i2 at *;by_cases h1:i2=e
  . subst h1;rw [if_pos rfl];refine ⟨lo,_,_,.inl ⟨rfl,rfl⟩,?_,.refl,hd⟩;generalize Mz .u32 bs b d lo=M0 at *;rw [key];simp +decide [jf,hk5];rw [aj];try simp at u
    simp [u]
  rw [if_neg h1];have h1':¬ (i2:Int)=(e:Int):=by omega
  obtain ⟨l,hl⟩:∃ j,e-a=j:=⟨_,rfl⟩;have wl:=vU (x:=e) (y:=a) (k:=l) (by omega) (by omega);by_cases h2:l<50
  . have h2':(l:Int)<50:=by omega
    rw [if_pos (by omega)];refine ⟨lo,_,_,.inl ⟨rfl,rfl⟩,?_,.refl,hd⟩;generalize Mz .u32 bs b d lo=M0 at *;rw [key];simp +decide [jf,hk5];rw [aj];try simp at u
    simp [u,h1,h1',wl,h2',h2]
  have h2':¬ (l:Int)<50:=by omega
  rw [if_neg (by omega)];obtain ⟨i0,hi0⟩:∃ j,i2=j+1:=⟨i2-1,by omega⟩;obtain ⟨i3,hi3⟩:∃ j,i2+1=j:=⟨_,rfl⟩;obtain ⟨p,hp⟩:∃ j,i2-a=j:=⟨_,rfl⟩;obtain ⟨q,hq⟩:∃ j,e-i2=j:=⟨_,rfl⟩;have w0:=gZ (x:=i2) (k:=i0) hi0 (by omega);have w3:=iA (x:=i2) (k:=i3) hi3 (by omega);have wp:=vU (x:=i2) (y:=a) (k:=p) (by omega) (by omega);have wq:=vU (x:=e) (y:=i2) (k:=q) (by omega) (by omega);rw [show i2-1=i0 by omega,hi3,hp,hq];have ix2:=λh=>ixz (b:=b) (n:=n) (cap:=cap) (h:=h) (i:=i2) (by omega);have ix0:=λh=>ixz (b:=b) (n:=n) (cap:=cap) (h:=h) (i:=i0) (by omega);have l2:=bH (kd:=.u32) (lo:=lo) hb (d:=d) (i:=i2) (by omega);have l0:=bH (kd:=.u32) (lo:=lo) hb (d:=d) (i:=i0) (by omega);obtain ⟨st1,st2⟩:=fE (kd:=.u32) (lo:=lo) hb (d:=d) (i:=i2) (j:=i0) (by omega) (by omega);have hsz:(swp d i2 i0).size=n:=by rw [cu]; exact hd
  have hK:Kz b lo d (min lo b) (swp d i2 i0):=.inl (by omega);generalize swp d i2 i0=dS at *;generalize d[i2]! = x at *;generalize d[i0]! = y at *;generalize d.setIfInBounds i2 y=d1 at *;generalize Mz .u32 bs b d lo=M0 at *;by_cases hp2:p>=2
  . have hp2':(p:Int)>=2:=by omega
    rw [if_pos hp2];obtain ⟨loA,a1,a2,a3⟩:=OY h334 hb hn (cap:=cap) (.d (i64 a)) (.d (i64 e)) (.d (i64 i2)) (.d (i64 k)) i0 dS (min lo b) (by omega) hsz;generalize shiftDown ltInt i0 dS=dA at *;by_cases hq2:q>=2
    . have hq2':(q:Int)>=2:=by omega
      rw [if_pos hq2];obtain ⟨loB,b1,b2,b3⟩:=F8 h334 hb hn he (cap:=cap) (.d (i64 a)) (.d (i64 i2)) (.d (i64 k)) (e-i3) i3 dA loA (br _) (by omega) (by omega) a3;generalize shiftUp ltInt e i3 dA=dB at *;obtain ⟨lo',ex,ev,r0,r1,r2,r3⟩:=ih i2 dB loB (by omega) (by omega) (by omega) b3;refine ⟨lo',ex,ev,r0,?_,hK.trans (a2.trans (b2.trans r2)),r3⟩;rw [hk1] at r1;rw [key];generalize hM1:Mz .u32 bs b d1=M1 at *;simp +decide [jf,hk5];rw [aj];try simp at u
      try simp [-aG,-aN] at st2
      simp +decide [u,h1,h1',wl,h2',h2,w0,w3,wp,wq,ix2,ix0,l2,l0,st1,st2,hp2,hp2',ai,aa,az,ae,Tr.mute,-aG,-aN];rw [aj];try simp at a1
      simp +decide [a1,w3,wq,hq2,hq2'];rw [aj];try simp at b1
      simp [b1,wk];simpa using r1
    . have hq2':¬ (q:Int)>=2:=by omega
      rw [if_neg hq2];obtain ⟨lo',ex,ev,r0,r1,r2,r3⟩:=ih i2 dA loA (by omega) (by omega) (by omega) a3;refine ⟨lo',ex,ev,r0,?_,hK.trans (a2.trans r2),r3⟩;rw [hk1] at r1;rw [key];generalize hM1:Mz .u32 bs b d1=M1 at *;simp +decide [jf,hk5];rw [aj];try simp at u
      try simp [-aG,-aN] at st2
      simp +decide [u,h1,h1',wl,h2',h2,w0,w3,wp,wq,ix2,ix0,l2,l0,st1,st2,hp2,hp2',ai,aa,az,ae,Tr.mute,-aG,-aN];rw [aj];try simp at a1
      simp +decide [a1,w3,wq,hq2,hq2',wk];simpa using r1
  . have hp2':¬ (p:Int)>=2:=by omega
    rw [if_neg hp2];by_cases hq2:q>=2
    . have hq2':(q:Int)>=2:=by omega
      rw [if_pos hq2];obtain ⟨loB,b1,b2,b3⟩:=F8 h334 hb hn he (cap:=cap) (.d (i64 a)) (.d (i64 i2)) (.d (i64 k)) (e-i3) i3 dS (min lo b) (br _) (by omega) (by omega) hsz;generalize shiftUp ltInt e i3 dS=dB at *;obtain ⟨lo',ex,ev,r0,r1,r2,r3⟩:=ih i2 dB loB (by omega) (by omega) (by omega) b3;refine ⟨lo',ex,ev,r0,?_,hK.trans (b2.trans r2),r3⟩;rw [hk1] at r1;rw [key];generalize hM1:Mz .u32 bs b d1=M1 at *;simp +decide [jf,hk5];rw [aj];try simp at u
      try simp [-aG,-aN] at st2
      simp +decide [u,h1,h1',wl,h2',h2,w0,w3,wp,wq,ix2,ix0,l2,l0,st1,st2,hp2,hp2',hq2,hq2',ai,aa,az,ae,Tr.mute,-aG,-aN];rw [aj];try simp at b1
      simp [b1,wk];simpa using r1
    . have hq2':¬ (q:Int)>=2:=by omega
      rw [if_neg hq2];obtain ⟨lo',ex,ev,r0,r1,r2,r3⟩:=ih i2 dS (min lo b) (by omega) (by omega) (by omega) hsz;refine ⟨lo',ex,ev,r0,?_,hK.trans r2,r3⟩;rw [hk1] at r1;rw [key];generalize hM1:Mz .u32 bs b d1=M1 at *;simp +decide [jf,hk5];rw [aj];try simp at u
      try simp [-aG,-aN] at st2
      simp +decide [u,h1,h1',wl,h2',h2,w0,w3,wp,wq,ix2,ix0,l2,l0,st1,st2,hp2,hp2',hq2,hq2',wk,ai,aa,az,ae,Tr.mute,-aG,-aN];simpa using r1
theorem ar8 {bs:List Blk}{b:Nat}(hb:b<bs.length){n a e:Nat}(hn:n<2 ^ 60)(ha:a<e)(he:e<=n){cap:Option Nat}(d:Array Int)(lo:Nat)(hd:d.size=n) :
 ∃ lo',Sm E TS aW 119 [.row b 0 n cap 1,.d (i64 a),.d (i64 e)] (Mz .u32 bs b d lo)=some (bl (partialInsertionSort ltInt d a e).2,Mz .u32 bs b (partialInsertionSort ltInt d a e).1 lo')/\Kz b lo d lo' (partialInsertionSort ltInt d a e).1/\(partialInsertionSort ltInt d a e).1.size=n:=by
 obtain ⟨i,hi⟩:∃ k,a+1=k:=⟨_,rfl⟩;have wi:=iA (x:=a) (k:=i) hi (by omega);have hM:(⟨(Mz .u32 bs b d lo).bs,bs.length⟩:Hp)=Mz .u32 bs b d bs.length:=rfl;have hl:(Mz .u32 bs b d lo).bs.length=bs.length:=by simp [Mz,Mr]
 obtain ⟨lo1,ex,ev,q0,q1,q2,q3⟩:=MW h334 hb hn ha he (cap:=cap) 5 i d bs.length (br _) (by omega) (by omega) hd;have hS:partialInsertionSort ltInt d a e=partialIns ltInt a e 5 i d:=by unfold partialInsertionSort; rw [hi]
 rw [hS];generalize partialIns ltInt a e 5 i d=R at *;obtain ⟨D,r⟩:=R;simp only at *;obtain ⟨lo2,r1,r2⟩:=lg (kd:=.u32) (lo:=lo) (r:=bl r) hb rfl q2;refine ⟨lo2,?_,r2,q3⟩;rw [aJ bg4 co8,hl,hM];refine Eq.trans ?_ r1
 congr 1
 generalize Mz .u32 bs b d bs.length=M0 at *;generalize Mz .u32 bs b D lo1=M1 at *;simp [af,SV,wi];rw [aj];try simp at q1
 obtain ⟨rfl,rfl⟩ | ⟨rfl,rfl,rfl⟩:=q0<;>simp [q1,bK]
end
end
section
open Go.Sort (swp ltInt PermIn permIn_trans permIn_refl swp_permIn)
theorem bg1:TS 116=some SN:=by kernel_rfl
theorem co5:aW 116=false:=by kernel_rfl
theorem bg8:TS 181=some Ti:=by kernel_rfl
theorem cp3:aW 181=true:=by kernel_rfl
theorem bg9:TS 182=some Tj:=by kernel_rfl
theorem cp4:aW 182=false:=by kernel_rfl
theorem bf9:TS 80=none:=by kernel_rfl
theorem yI (k:IntKind)(a b:Int):∃ y,bC .xor (.d (.int k a)) (.d (.int k b))=some (.int k y):=⟨k.wrap ((BitVec.ofInt k.bits a ^^^ BitVec.ofInt k.bits b).toNat),by simp [bC,fw]⟩
theorem Dc (k k':IntKind)(a:Int){b:Int}(hb:0<=b):∃ y,bC .shl (.d (.int k a)) (.d (.int k' b))=some (.int k y):=⟨k.wrap (a * 2 ^ (min b.toNat k.bits)),by simp [bC,show ¬ b<0 by omega]⟩
theorem K8 (k k':IntKind)(a:Int){b:Int}(hb:0<=b):∃ y,bC .shr (.d (.int k a)) (.d (.int k' b))=some (.int k y):=⟨a.fdiv (2 ^ (min b.toNat k.bits)),by simp [bC,show ¬ b<0 by omega]⟩
theorem IX (x:Int){k:Nat}(hk:k<2 ^ 62):∃ y:Nat,y<=k/\bC .and (.d (.int .u64 x)) (.d (.int .u64 k))=some (.int .u64 y):=by
 have h1:(BitVec.ofInt 64 x &&& BitVec.ofInt 64 (k:Int)).toNat<=k:=by
  rw [BitVec.toNat_and];have h2:(BitVec.ofInt 64 (k:Int)).toNat=k:=by
   rw [BitVec.toNat_ofInt];omega
  rw [h2];exact Nat.and_le_right
 refine ⟨_,h1,?_⟩;simp only [bC,if_true,fw]
 congr 2
 generalize hy:(BitVec.ofInt 64 x &&& BitVec.ofInt 64 (k:Int)).toNat=y at *;have:(BitVec.ofInt IntKind.u64.bits x &&& BitVec.ofInt IntKind.u64.bits (k:Int)).toNat=y:=hy;rw [this];simp [wrap,IntKind.bits,IntKind.signed];omega
abbrev Mx (bs:List Blk) (b:Nat) (d:Array Int) (s:Int) (lo:Nat):Hp:=Mz .u32 (bs++[.cells [.d (u64 s)]]) b d lo
theorem Qo {bs:List Blk}{b:Nat}{d:Array Int}{s:Int}{lo:Nat}:(Mx bs b d s lo).bs.length=bs.length+1:=by simp [Mx,Mz,Mr]
theorem IL {bs:List Blk}{b:Nat}(hb:b<bs.length){d:Array Int}{s:Int}{lo:Nat}:ah (Mx bs b d s lo).bs bs.length=some [.d (u64 s)]:=by
 simp only [Mx,Mz,Mr,ah];rw [am (by omega)];simp
theorem Fj {bs:List Blk}{b:Nat}(hb:b<bs.length){d:Array Int}{s:Int}{lo:Nat}:ldv (Mx bs b d s lo) (.ptr bs.length 0) 1 true=some (.d (u64 s),Mx bs b d s lo):=by
 have h:=IL hb (d:=d) (s:=s) (lo:=lo);generalize Mx bs b d s lo=M at *;simp [h]
theorem Fp {bs:List Blk}{b:Nat}(hb:b<bs.length){d:Array Int}{s t:Int}{lo:Nat}:stv (Mx bs b d s lo) (.ptr bs.length 0) (.d (u64 t)) 1=some (.undef,Mx bs b d t (min lo bs.length)):=by
 have h:=IL hb (d:=d) (s:=s) (lo:=lo);have hs:(Mx bs b d s lo).set bs.length [.d (u64 t)]=Mx bs b d t (min lo bs.length):=by
  simp only [Mx,Mz,Mr,Hp.set]
  congr 1
  rw [List.set_comm _ _ (by omega)]
  congr 1
  simp
 rw [← hs];generalize Mx bs b d s lo=M at *;simp [h]
section
variable {E:Calls'}(h241:∀ x h,E 80 [.d (u64 x)] h=some (.d (i64 (bY x)),h))
theorem at5 {bs:List Blk}{b:Nat}(hb:b<bs.length)(d:Array Int)(r:Int)(lo:Nat):∃ r',Sm E TS aW 182 [.ptr bs.length 0] (Mx bs b d r lo)=some (.d (u64 r'),Mx bs b d r' (min lo bs.length)):=by
 obtain ⟨y1,e1⟩:=Dc .u64 .u64 r (b:=13) (by decide);obtain ⟨z1,g1⟩:=yI .u64 r y1;obtain ⟨y2,e2⟩:=K8 .u64 .u64 z1 (b:=7) (by decide);obtain ⟨z2,g2⟩:=yI .u64 z1 y2;obtain ⟨y3,e3⟩:=Dc .u64 .u64 z2 (b:=17) (by decide);obtain ⟨z3,g3⟩:=yI .u64 z2 y3;have hl:=Qo (bs:=bs) (b:=b) (d:=d) (s:=r) (lo:=lo);have hM:(⟨(Mx bs b d r lo).bs,bs.length+1⟩:Hp)=Mx bs b d r (bs.length+1):=rfl;have l0:=Fj hb (d:=d) (s:=r) (lo:=bs.length+1);have s1:=Fp hb (d:=d) (s:=r) (t:=z1) (lo:=bs.length+1);have hm:min (bs.length+1) bs.length=bs.length:=by omega
 rw [hm] at s1;have l1:=Fj hb (d:=d) (s:=z1) (lo:=bs.length);have s2:=Fp hb (d:=d) (s:=z1) (t:=z2) (lo:=bs.length);rw [Nat.min_self] at s2;have l2:=Fj hb (d:=d) (s:=z2) (lo:=bs.length);have s3:=Fp hb (d:=d) (s:=z2) (t:=z3) (lo:=bs.length);rw [Nat.min_self] at s3;have l3:=Fj hb (d:=d) (s:=z3) (lo:=bs.length);refine ⟨z3,?_⟩;have hbr:eU (Mx bs b d r lo) (some (.d (u64 z3),Mx bs b d z3 bs.length))=some (.d (u64 z3),Mx bs b d z3 (min lo bs.length)):=by
  rw [ed,hl,if_neg (λhh=>by have:=hh.1; simp only [Mx,Mz,Mr] at this; omega)];rfl
 rw [aJ bg9 cp4,hl,hM];refine Eq.trans ?_ hbr
 congr 1
 generalize Mx bs b d r (bs.length+1)=M0 at *;generalize Mx bs b d z1 bs.length=M1 at *;generalize Mx bs b d z2 bs.length=M2 at *;generalize Mx bs b d z3 bs.length=M3 at *;simp +decide [af,Tj,l0,l1,l2,l3,s1,s2,s3,e1,e2,e3,g1,g2,g3,ai,az,ae,Tr.mute,bK,-aG,-aN]
include h241
theorem at1 {l:Nat}(h0:0<l)(hl:l<2 ^ 60):∃ m:Nat,l<m/\m<=2 * l/\∀ h,Sm E TS aW 181 [.d (i64 l)] h=some (.d (u64 m),h):=by
 obtain ⟨a0,a1,a2⟩:=xL (x:=(l:Int)) (by omega) (by omega);have a2:=a2 (by omega);obtain ⟨k,hk⟩:∃ k:Nat,bY l=k:=⟨(bY l).toNat,by omega⟩;have hkn:(bY l).toNat=k:=by omega
 rw [hkn] at a1 a2;have hp:(2:Int) ^ k=((2 ^ k:Nat):Int):=by simp
 rw [hp] at a1 a2;refine ⟨2 ^ k,by omega,by omega,λh=>?_⟩;have hk63:k<64:=by
  have:=Nat.pow_lt_pow_iff_right (a:=2) (n:=k) (m:=64) (by decide);exact this.1 (by omega)
 have hw:wrap .u64 (l:Int)=(l:Int):=by simp [wrap,IntKind.bits,IntKind.signed]; omega
 have hs:bC .shl (.d (.int .u64 1)) (.d (.int .i64 (k:Int)))=some (.int .u64 ((2 ^ k:Nat):Int)):=by
  have hmin:min k 64=k:=by omega
  simp only [bC,show ¬ ((k:Int)<0) by omega,if_false,Int.toNat_natCast,show IntKind.u64.bits=64 from rfl,hmin]
  congr 2
  rw [hp];generalize 2 ^ k=m at *;simp [wrap,IntKind.bits,IntKind.signed]; omega
 have n241:∀ x h,Sm E TS aW 80 [.d (u64 x)] h=some (.d (i64 (bY x)),h):=λx h=>by rw [bB bf9]; exact h241 x h
 rw [aU bg8 cp3];generalize 2 ^ k=m at *;simp +decide [af,Ti,hw,n241,hk,hs]
omit h241 in
theorem Mf {bs:List Blk}{b:Nat}(hb:b<bs.length){n a l m:Nat}(hn:n<2 ^ 60)(hl:8<=l)(hal:a+l<=n)(hm0:l<m)(hm:m<=2 * l){cap:Option Nat}:∀ (k i:Nat) (d:Array Int) (r:Int) (lo:Nat),i+k=a+l / 4 * 2+2->a<=i->d.size=n →
 ∃ d' r' lo',Cd E TS aW (.loop [0,1,6,7,8,9] lC) [(0,.row b 0 n cap 1),(1,.d (i64 a)),(6,.d (i64 l)),(7,.ptr bs.length 0),(8,.d (u64 m)),(9,.d (i64 i))] (Mx bs b d r lo)=some (.exit 0,[],Mx bs b d' r' lo')/\PermIn a (a+l) d d'/\(lo'<=b\/k=0):=by
 intro k;have key:=ay (E:=E) (T:=TS) (val:=aW) [0,1,6,7,8,9] lC;generalize Cd E TS aW (.loop [0,1,6,7,8,9] lC)=W at key ⊢;obtain ⟨q,hq⟩:∃ j,l / 4=j:=⟨_,rfl⟩;obtain ⟨q2,hq2⟩:∃ j,q * 2=j:=⟨_,rfl⟩;obtain ⟨t,ht⟩:∃ j,a+q2=j:=⟨_,rfl⟩;obtain ⟨t1,ht1⟩:∃ j,t+1=j:=⟨_,rfl⟩;have wq:bC .quo (.d (.int .i64 l)) (.d (.int .i64 4))=some (.int .i64 q):=tL (x:=l) (y:=4) (z:=q) (by decide) hq (by omega);have w2:wrap .i64 ((q:Int) * 2)=(q2:Int):=Pn (x:=q) (y:=2) hq2 (by omega);have wt:=yF (x:=a) (y:=q2) ht (by omega);have wt1:=iA (x:=t) (k:=t1) ht1 (by omega);rw [hq,hq2]
 induction k with
 | zero =>
  intro i d r lo hik hai hd;refine ⟨d,r,lo,?_,permIn_refl _ _ _,.inr rfl⟩;rw [key];simp +decide [lC,wq,w2,wt,wt1,show ¬ ((i:Int)<=(t1:Int)) from by omega]
 | succ k ih =>
  intro i d r lo hik hai hd;obtain ⟨r1,n1⟩:=at5 (E:=E) hb d r lo;obtain ⟨m1,hm1⟩:∃ j,m=j+1:=⟨m-1,by omega⟩;have wm:wrap .u64 ((m:Int)-1)=(m1:Int):=by simp [wrap,IntKind.bits,IntKind.signed]; omega
  obtain ⟨y,hy,ey⟩:=IX r1 (k:=m1) (by omega);have wy:wrap .i64 (y:Int)=(y:Int):=by rw [wrap64]<;>omega
  have hbl:b<(bs++[Blk.cells [.d (u64 r1)]]).length:=by simp; omega
  have hit:(i:Int)<=(t1:Int):=by omega
  have ixi:=λh=>ixz (b:=b) (n:=n) (cap:=cap) (h:=h) (i:=i) (by omega);obtain ⟨i1,hi1⟩:∃ j,i+1=j:=⟨_,rfl⟩;have wi:=iA (x:=i) (k:=i1) hi1 (by omega);have go:∀ o:Nat,o<l->∃ d' r' lo',(∃ M1,stv (Mx bs b d r1 (min lo bs.length)) (.ptr b i) (.d (.int .u32 d[a+o]!)) 1=some (.undef,M1)/\stv M1 (.ptr b (a+o)) (.d (.int .u32 d[i]!)) 1=some (.undef,Mx bs b (swp d i (a+o)) r1 (min lo b))) ∧
   W [(0,.row b 0 n cap 1),(1,.d (i64 a)),(6,.d (i64 l)),(7,.ptr bs.length 0),(8,.d (u64 m)),(9,.d (i64 i1))] (Mx bs b (swp d i (a+o)) r1 (min lo b))=some (.exit 0,[],Mx bs b d' r' lo')/\PermIn a (a+l) d d'/\lo'<=b:=by
   intro o ho;obtain ⟨d',r',lo',c1,c2,c3⟩:=ih i1 (swp d i (a+o)) r1 (min lo b) (by omega) (by omega) (by rw [cu]; exact hd);obtain ⟨st1,st2⟩:=fE (kd:=.u32) (lo:=min lo bs.length) hbl (d:=d) (i:=i) (j:=a+o) (by omega) (by omega);have hmin:min (min (min lo bs.length) b) b=min lo b:=by omega
   have st2:=st2 (min (min lo bs.length) b);rw [hmin] at st2;refine ⟨d',r',lo',⟨_,st1,st2⟩,c1,permIn_trans _ _ _ _ _ (swp_permIn _ _ _ _ _ hai (by omega) (by omega) (by omega) (by omega)) c2,?_⟩;obtain c3 | rfl:=c3
   . exact c3
   . have hid:=c1;rw [key] at hid;simp +decide [lC,wq,w2,wt,wt1,show ¬ ((i1:Int)<=(t1:Int)) from by omega] at hid;have hlow:=congrArg Hp.low hid;simp only [Mx,Mz,Mr] at hlow;omega
  by_cases hyl:y>=l
  . have hyl':(y:Int)>=(l:Int):=by omega
    obtain ⟨o,ho⟩:∃ j,y=j+l:=⟨y-l,by omega⟩;have wo:=vU (x:=y) (y:=l) (k:=o) ho (by omega);obtain ⟨d',r',lo',⟨M1,st1,st2⟩,c1,c2,c3⟩:=go o (by omega);obtain ⟨ao,hao⟩:∃ j,a+o=j:=⟨_,rfl⟩;have wa:=yF (x:=a) (y:=o) hao (by omega);have ixo:=λh=>ixz (b:=b) (n:=n) (cap:=cap) (h:=h) (i:=ao) (by omega);have li:ldv (Mx bs b d r1 (min lo bs.length)) (.ptr b i) 1 true=some (.d (.int .u32 d[i]!),Mx bs b d r1 (min lo bs.length)):=bH (kd:=.u32) hbl (d:=d) (i:=i) (by omega);have lo2:ldv (Mx bs b d r1 (min lo bs.length)) (.ptr b ao) 1 true=some (.d (.int .u32 d[ao]!),Mx bs b d r1 (min lo bs.length)):=bH (kd:=.u32) hbl (d:=d) (i:=ao) (by omega);rw [hao] at st1 st2 c1;refine ⟨d',r',lo',?_,c2,.inl c3⟩;generalize d[i]! = X at *;generalize d[ao]! = Y at *;generalize swp d i ao=d3 at *;generalize Mx bs b d r1 (min lo bs.length)=N1 at *;generalize Mx bs b d r lo=N0 at *;generalize Mx bs b d3 r1 (min lo b)=N3 at *;rw [key];simp +decide [lC,wq,w2,wt,wt1,hit,n1,wm,ey,wy,hyl,hyl',wo,wa,ixi,ixo,li,lo2,st1,st2,wi,ai,aa,az,ae,Tr.mute,-aG,-aN];simpa using c1
  . have hyl':¬ (y:Int)>=(l:Int):=by omega
    obtain ⟨d',r',lo',⟨M1,st1,st2⟩,c1,c2,c3⟩:=go y (by omega);obtain ⟨ao,hao⟩:∃ j,a+y=j:=⟨_,rfl⟩;have wa:=yF (x:=a) (y:=y) hao (by omega);have ixo:=λh=>ixz (b:=b) (n:=n) (cap:=cap) (h:=h) (i:=ao) (by omega);have li:ldv (Mx bs b d r1 (min lo bs.length)) (.ptr b i) 1 true=some (.d (.int .u32 d[i]!),Mx bs b d r1 (min lo bs.length)):=bH (kd:=.u32) hbl (d:=d) (i:=i) (by omega);have lo2:ldv (Mx bs b d r1 (min lo bs.length)) (.ptr b ao) 1 true=some (.d (.int .u32 d[ao]!),Mx bs b d r1 (min lo bs.length)):=bH (kd:=.u32) hbl (d:=d) (i:=ao) (by omega);rw [hao] at st1 st2 c1;refine ⟨d',r',lo',?_,c2,.inl c3⟩;generalize d[i]! = X at *;generalize d[ao]! = Y at *;generalize swp d i ao=d3 at *;generalize Mx bs b d r1 (min lo bs.length)=N1 at *;generalize Mx bs b d r lo=N0 at *;generalize Mx bs b d3 r1 (min lo b)=N3 at *;rw [key];simp +decide [lC,wq,w2,wt,wt1,hit,n1,wm,ey,wy,hyl,hyl',wa,ixi,ixo,li,lo2,st1,st2,wi,ai,aa,az,ae,Tr.mute,-aG,-aN];simpa using c1
end
end
section
open Go.Sort (swp ltInt PermIn permIn_trans permIn_refl)
section
variable {E:Calls'}(h241:∀ x h,E 80 [.d (u64 x)] h=some (.d (i64 (bY x)),h))
include h241
theorem ar5 {bs:List Blk}{b:Nat}(hb:b<bs.length){n a e:Nat}(hn:n<2 ^ 59)(ha:a+12<e)(he:e<=n){cap:Option Nat}(d:Array Int)(lo:Nat)(hd:d.size=n) :
 ∃ ys d' lo',Sm E TS aW 116 [.row b 0 n cap 1,.d (i64 a),.d (i64 e)] (Mz .u32 bs b d lo)=some (.tup [],Mz .u32 (bs++ys) b d' lo')/\PermIn a e d d'/\lo'<=b:=by
 obtain ⟨l,hl⟩:∃ j,e-a=j:=⟨_,rfl⟩;obtain ⟨q,hq⟩:∃ j,l / 4=j:=⟨_,rfl⟩;obtain ⟨q2,hq2⟩:∃ j,q * 2=j:=⟨_,rfl⟩;obtain ⟨t,ht⟩:∃ j,a+q2=j:=⟨_,rfl⟩;obtain ⟨i,hi⟩:∃ j,t=j+1:=⟨t-1,by omega⟩;have wl:=vU (x:=e) (y:=a) (k:=l) (by omega) (by omega);have wu:wrap .u64 (l:Int)=(l:Int):=by simp [wrap,IntKind.bits,IntKind.signed]; omega
 have wq:bC .quo (.d (.int .i64 l)) (.d (.int .i64 4))=some (.int .i64 q):=tL (x:=l) (y:=4) (z:=q) (by decide) hq (by omega);have w2:wrap .i64 ((q:Int) * 2)=(q2:Int):=Pn (x:=q) (y:=2) hq2 (by omega);have wt:=yF (x:=a) (y:=q2) ht (by omega);have wi:=gZ (x:=t) (k:=i) hi (by omega);obtain ⟨m,hm0,hm1,n375⟩:=at1 h241 (l:=l) (by omega) (by omega);obtain ⟨d',r',lo1,c1,c2,c3⟩:=Mf (E:=E) hb (n:=n) (a:=a) (l:=l) (m:=m) (by omega) (by omega) (by omega) hm0 hm1 (cap:=cap) 3 i d l bs.length (by omega) (by omega) hd;have c3:lo1<=b:=by omega
 rw [show a+l=e by omega] at c2;have hM:(⟨(Mz .u32 bs b d lo).bs,bs.length⟩:Hp)=Mz .u32 bs b d bs.length:=rfl;have hlen:(Mz .u32 bs b d lo).bs.length=bs.length:=by simp [Mz,Mr]
 have hlen0:(Mz .u32 bs b d bs.length).bs.length=bs.length:=by simp [Mz,Mr]
 have hnew:(Mz .u32 bs b d bs.length).alloc [.d (.int .u64 0)]=Mx bs b d 0 bs.length:=by
  simp only [Mx,Mz,Mr,Hp.alloc]
  congr 1
  rw [List.set_append_left _ _ (by simpa using hb)]
 have hst:=Fp hb (d:=d) (s:=0) (t:=(l:Int)) (lo:=bs.length);rw [Nat.min_self] at hst;refine ⟨[.cells [.d (u64 r')]],d',min lo lo1,?_,c2,by omega⟩;have hbr:eU (Mz .u32 bs b d lo) (some (.tup [],Mx bs b d' r' lo1))=some (.tup [],Mz .u32 (bs++[.cells [.d (u64 r')]]) b d' (min lo lo1)):=by
  rw [ed,hlen,if_neg (λhh=>by have:=hh.1; simp only [Mx,Mz,Mr] at this; omega)];rfl
 rw [aJ bg1 co5,hlen,hM];refine Eq.trans ?_ hbr
 congr 1
 generalize Mz .u32 bs b d bs.length=M0 at *;generalize Mx bs b d 0 bs.length=M1 at *;generalize Mx bs b d (l:Int) bs.length=M2 at *;generalize Mx bs b d' r' lo1=M3 at *;simp +decide [af,SN,wl,wu,show (l:Int)>=8 from by omega,hlen0,hnew,hst,n375,wq,w2,wt,wi,ai,aa,az,ae,Tr.mute,-aG,-aN];rw [aj];try simp at c1
 simp [c1];rfl
end
end
