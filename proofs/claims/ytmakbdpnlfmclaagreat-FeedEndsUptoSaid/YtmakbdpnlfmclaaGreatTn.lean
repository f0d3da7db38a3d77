/- Sorting numbers in place: pdqsort's round. -/
import Derived.Test.YtmakbdpnlfmclaaGreatTe
import Derived.Sort.LotD3
import Derived.Sort.LotA
import Derived.Sort.LotB
import Derived.Sort.LotD1
set_option maxRecDepth 100000
set_option linter.unusedVariables false
set_option linter.unusedSimpArgs false
namespace Go.Proofs.YtmakbdpnlfmclaaGreat
open IntKind (wrap)
section
open Go.Sort (swp ltInt PermIn SortedIn Below SWO permIn_trans permIn_refl partition partitionEqual partialInsertionSort choosePivot reverseRange round_eq round_part partition_holds partitionEqual_holds Hint)
def BB:QC:=(.seq (.seq (.reg (some [[],[0],[1,0],[2,1,0],[2,1,0],[4,2,1,0],[3,5,4,2,1,0],[6,3,5,4,2,1,0],[2,1,0],[2,1,0],[8,9,2,1,0],[10,8,9,2,1,0],[7,6,3,5,4,11,10,8,9,2,1,0],[12,7,6,3,5,4,11,10,8,9,2,1,0],[13,12,7,6,3,5,4,11,10,8,9,2,1,0]]) [mv 73 1,op 74 (bc .gtr 73 0),mv 75 74,ot 75 76 (.mov (.t 0)),ot 75 77 (.mov (.t 1)),ot 75 78 (bc .sub 77 1),ot 75 79 (ia 1 76 78),ot 75 80 (l1' 79),ot 75 81 (.mov (.t 0)),ot 75 82 (.mov (.t 11)),ot 75 83 (ia 1 81 82),ot 75 84 (l1' 83),ot 75 85 (kc' 208 [.t 80,.t 84]),ot 75 86 (.un .not (.t 85)),op 87 (.pick (.t 75) (.t 86) (.c zb))]) (.cond (.t 87) (sr [mv 88 0,mv 89 1,mv 90 2,mv 91 11,op 92 (kc' 209 [.t 88,.t 89,.t 90,.t 91]),mv 13 92] (sr [mv 93 13,mv 1 93] (.exit 1 [0,1,2,3,8,9]))) .skip)) (sr [mv 95 0,mv 96 1,mv 97 2,mv 98 11,op 99 (kc' 210 [.t 95,.t 96,.t 97,.t 98]),mv 94 99,op 100 (.ext (.t 94) 0),op 101 (.ext (.t 94) 1),mv 14 100,mv 15 101] (sr [mv 102 15,mv 9 102] (sr [mv 103 14,mv 104 1,op 105 (bt .sub 103 104),mv 106 2,mv 107 14,op 108 (bt .sub 106 107),mv 16 105,mv 17 108] (sr [mv 109 10,op 110 (bc .quo 109 8),mv 18 110] (sr [mv 111 16,mv 112 17,op 113 (bt .lss 111 112)] (.cond (.t 113) (sr [mv 114 16,mv 115 18,op 116 (bt .geq 114 115),mv 8 116] (sr [mv 117 0,mv 118 1,mv 119 14,mv 120 3,op 121 (kc' 123 [.t 117,.t 118,.t 119,.t 120])] (.reg none [mv 122 14,op 123 (bc .add 122 1),mv 1 123]))) (sr [mv 124 17,mv 125 18,op 126 (bt .geq 124 125),mv 8 126] (sr [mv 127 0,mv 128 14,op 129 (bc .add 128 1),mv 130 2,mv 131 3,op 132 (kc' 123 [.t 127,.t 129,.t 130,.t 131])] (.reg none [mv 133 14,mv 2 133]))))))))))
def BA:QC:=(.seq (sr [mv 61 8,mv 62 61,ot 62 63 (.mov (.t 9)),op 64 (.pick (.t 62) (.t 63) (.c zb)),mv 65 64,ot 65 66 (.mov (.t 12)),ot 65 67 (.eq (.sc (.i .i64)) false (.t 66) (ci 1)),op 68 (.pick (.t 65) (.t 67) (.c zb))] (.cond (.t 68) (sr [mv 69 0,mv 70 1,mv 71 2,op 72 (kc' 207 [.t 69,.t 70,.t 71])] (.cond (.t 72) (.ret []) .skip)) .skip)) BB)
def Kv:QC:=(sr [mv 43 0,mv 44 1,mv 45 2,op 46 (kc' 205 [.t 43,.t 44,.t 45]),mv 42 46,op 47 (.ext (.t 42) 0),op 48 (.ext (.t 42) 1),mv 11 47,mv 12 48] (.seq (sr [mv 49 12,op 50 (.eq (.sc (.i .i64)) false (.t 49) (ci 2))] (.cond (.t 50) (sr [mv 51 0,mv 52 1,mv 53 2,op 54 (kc' 206 [.t 51,.t 52,.t 53])] (sr [mv 55 2,op 56 (bc .sub 55 1),mv 57 11,mv 58 1,op 59 (bt .sub 57 58),op 60 (bt .sub 56 59),mv 11 60] (.reg none [oc' 12 1]))) .skip)) BA))
theorem Kw:nD=.block 1 (.seq (.reg none [⟨none,some 19,.mov (.t 2)⟩,⟨none,some 20,.mov (.t 1)⟩,⟨none,some 21,.bin .sub (.t 19) (.t 20)⟩,⟨none,some 10,.mov (.t 21)⟩]) (.seq (.seq (.reg none [⟨none,some 22,.mov (.t 10)⟩,⟨none,some 23,.bin .leq (.t 22) (.c (.d (.int .i64 12)))⟩]) (.cond (.t 23) (.seq (.reg none [⟨none,some 24,.mov (.t 0)⟩,⟨none,some 25,.mov (.t 1)⟩,⟨none,some 26,.mov (.t 2)⟩,⟨none,some 27,.call (.c (.fn 202 [])) [.t 24,.t 25,.t 26]⟩]) (.ret [])) .skip)) (.seq (.seq (.reg none [⟨none,some 28,.mov (.t 3)⟩,⟨none,some 29,.eq (.sc (.i .i64)) false (.t 28) (.c (.d (.int .i64 0)))⟩]) (.cond (.t 29) (.seq (.reg none [⟨none,some 30,.mov (.t 0)⟩,⟨none,some 31,.mov (.t 1)⟩,⟨none,some 32,.mov (.t 2)⟩,⟨none,some 33,.call (.c (.fn 203 [])) [.t 30,.t 31,.t 32]⟩]) (.ret [])) .skip)) (.seq (.seq (.reg none [⟨none,some 34,.mov (.t 8)⟩,⟨none,some 35,.un .not (.t 34)⟩]) (.cond (.t 35) (.seq (.reg none [⟨none,some 36,.mov (.t 0)⟩,⟨none,some 37,.mov (.t 1)⟩,⟨none,some 38,.mov (.t 2)⟩,⟨none,some 39,.call (.c (.fn 204 [])) [.t 36,.t 37,.t 38]⟩]) (.reg none [⟨none,some 40,.mov (.t 3)⟩,⟨none,some 41,.bin .sub (.t 40) (.c (.d (.int .i64 1)))⟩,⟨none,some 3,.mov (.t 41)⟩])) .skip)) Kv)))):=rfl
theorem Vq:TS 123=some Hf:=by kernel_rfl
theorem VK:aS 123=false:=by kernel_rfl
theorem Ip:SWO ltInt:=⟨λx=>by simp [ltInt],λx y z h1 h2=>by simp [ltInt] at *; omega,λx y z h1 h2=>by simp [ltInt] at *; omega⟩
def Kq (b lo:Nat)(d:Array Int)(ys:List Blk)(lo':Nat)(d':Array Int):Prop:=lo'<=b\/(d'=d/\ys=[]/\lo'=lo)
theorem Kq.of {b lo lo':Nat}{d d':Array Int}(h:Kz b lo d lo' d'):Kq b lo d [] lo' d':=by
 obtain h | ⟨h1,h2⟩:=h
 . exact .inl h
 . exact .inr ⟨h1,rfl,h2⟩
theorem Kq.trans {b lo lo' lo'':Nat}{d d' d'':Array Int}{ys zs:List Blk}(h:Kq b lo d ys lo' d')(k:Kq b lo' d' zs lo'' d''):Kq b lo d (ys++zs) lo'' d'':=by
 obtain k | ⟨rfl,rfl,rfl⟩:=k
 . exact .inl k
 . obtain h | ⟨rfl,rfl,rfl⟩:=h
   . exact .inl h
   . exact .inr ⟨rfl,rfl,rfl⟩
def Ei (E:Calls')(b n:Nat)(cap:Option Nat)(lim x y:Nat):Prop:=∀ (bs:List Blk) (d:Array Int) (lo:Nat),b<bs.length->x<=y->y<=n->d.size=n->Below ltInt x y d →
 ∃ ys d' lo',Sm E TS aS 123 [.row b 0 n cap 1,.d (i64 x),.d (i64 y),.d (i64 lim)] (Mz .u32 bs b d lo)=some (.tup [],Mz .u32 (bs++ys) b d' lo')/\PermIn x y d d'/\SortedIn ltInt x y d'/\Kq b lo d ys lo' d'
def Round (E:Calls')(b n:Nat)(cap:Option Nat)(lim a e:Nat)(bs:List Blk)(d:Array Int)(lo:Nat)(o:iN):Prop :=
 (∃ ys d' lo',o=some (.ret,[],Mz .u32 (bs++ys) b d' lo')/\PermIn a e d d'/\SortedIn ltInt a e d'/\Kq b lo d ys lo' d') ∨
 (∃ (a2 e2:Nat) (wb2 wp2:Bool) (ys:List Blk) (d2:Array Int) (lo2:Nat),(∀ W,iP [0,1,2,3,8,9] W (leave 1 o)=W [(0,.row b 0 n cap 1),(1,.d (i64 a2)),(2,.d (i64 e2)),(3,.d (i64 lim)),(8,bl wb2),(9,bl wp2)] (Mz .u32 (bs++ys) b d2 lo2)) ∧
  a2<=e2/\e2<=e/\e2-a2<e-a/\d2.size=n/\Below ltInt a2 e2 d2/\(∀ R,PermIn a2 e2 d2 R->SortedIn ltInt a2 e2 R->PermIn a e d R/\SortedIn ltInt a e R)/\Kq b lo d ys lo2 d2)
section
variable {E:Calls'}(h334:∀ x y h,E 208 [.d (u32 x),.d (u32 y)] h=some (bl (ltInt x y),h))
include h334
theorem GQ {bs:List Blk}{b:Nat}(hb:b<bs.length){n a e p lim:Nat}(hn:n<2 ^ 59)(ha:a+12<e)(he:e<=n)(hp1:a<=p)(hp2:p<e){cap:Option Nat}(d:Array Int)(lo:Nat)(hd:d.size=n)(hB:Below ltInt a e d)(wb wp:Bool)
 (hrec:∀ x y,y-x<e-a->Ei E b n cap lim x y) {ev:EA} (g0:ev.get 0=.row b 0 n cap 1) (g1:ev.get 1=.d (i64 a)) (g2:ev.get 2=.d (i64 e)) (g3:ev.get 3=.d (i64 lim)) (g8:ev.get 8=bl wb) (g9:ev.get 9=bl wp) (g10:ev.get 10=.d (i64 ((e-a:Nat):Int))) (g11:ev.get 11=.d (i64 p)) :
 Round E b n cap lim a e bs d lo (Cd E TS aS BB ev (Mz .u32 bs b d lo)):=by
 right;have hn60:n<2 ^ 60:=by omega
 have c:=λx y h=>sJ h334 x y h;have ixp:=λh=>ixz (b:=b) (n:=n) (cap:=cap) (h:=h) (i:=p) (by omega);have lp:=bC (kd:=.u32) (lo:=lo) hb (d:=d) (i:=p) (by omega);by_cases heq:0<a/\ltInt d[a-1]! d[p]! = false
 . obtain ⟨h0,hnl⟩:=heq;obtain ⟨a0,ha0⟩:∃ j,a=j+1:=⟨a-1,by omega⟩;have w0:=gN (x:=a) (k:=a0) ha0 (by omega);rw [show a-1=a0 by omega] at hnl;have ix0:=λh=>ixz (b:=b) (n:=n) (cap:=cap) (h:=h) (i:=a0) (by omega);have l0:=bC (kd:=.u32) (lo:=lo) hb (d:=d) (i:=a0) (by omega);obtain ⟨lo1,q1,q2,q3⟩:=bj6 h334 hb hn60 (a:=a) (e:=e) (p:=p) (by omega) he (by omega) (cap:=cap) d lo hd;obtain ⟨r1,r2,r3,r4,r5⟩:=round_eq Ip (partitionEqual_holds ltInt) (d4:=(partitionEqual ltInt d a e p).2) (mid:=(partitionEqual ltInt d a e p).1) h0 hp1 hp2 (by omega) hB (by rw [show a-1=a0 by omega]; exact hnl) rfl;generalize partitionEqual ltInt d a e p=R at *;obtain ⟨mid,d4⟩:=R;simp only at *;refine ⟨mid,e,wb,wp,[],d4,lo1,λW=>?_,r2,bp _,by omega,q3,r4,r5,.of q2⟩;have hag:(a:Int)>0:=by omega
   rw [List.append_nil];generalize d[a0]! = X at *;generalize d[p]! = Y at *;generalize Mz .u32 bs b d lo=M0 at *;simp +decide [BB,g0,g1,g2,g3,g8,g9,g11,h0,w0,ix0,l0,ixp,lp,c,hnl,q1,ay,ae,av,Tr.mute,-aB,-aM]
 . have hcond:(0<a->ltInt d[a-1]! d[p]! = true):=λh=>by
    cases hx:ltInt d[a-1]! d[p]! with
    | true=>rfl
    | false=>exact absurd ⟨h,hx⟩ heq
   obtain ⟨lo1,q1,q2,q3⟩:=bj7 h334 hb hn60 (a:=a) (e:=e) (p:=p) (by omega) he (by omega) (cap:=cap) d lo hd;obtain ⟨r1,r2,r3,r4,r5,r6,r7⟩:=round_part Ip (partition_holds ltInt) (d4:=(partition ltInt d a e p).2.2) (mid:=(partition ltInt d a e p).1) (ap:=(partition ltInt d a e p).2.1) hp1 hp2 (by omega) hB rfl;generalize partition ltInt d a e p=R at *;obtain ⟨mid,ap,d4⟩:=R;simp only at *;obtain ⟨lf,hlf⟩:∃ j,mid-a=j:=⟨_,rfl⟩;obtain ⟨rg,hrg⟩:∃ j,e-mid=j:=⟨_,rfl⟩;obtain ⟨l,hl⟩:∃ j,e-a=j:=⟨_,rfl⟩;obtain ⟨th,hth⟩:∃ j,l / 8=j:=⟨_,rfl⟩;obtain ⟨m1,hm1⟩:∃ j,mid+1=j:=⟨_,rfl⟩;have wlf:=uL (x:=mid) (y:=a) (k:=lf) (by omega) (by omega);have wrg:=uL (x:=e) (y:=mid) (k:=rg) (by omega) (by omega);have wth:bQ .quo (.d (.int .i64 l)) (.d (.int .i64 8))=some (.int .i64 th):=rR (x:=l) (y:=8) (z:=th) (by decide) hth (by omega);have wm1:=ib (x:=mid) (k:=m1) hm1 (by omega);rw [hl] at g10;rw [hm1] at r5 r6 r7;by_cases hlr:lf<rg
   . have hlr':(lf:Int)<(rg:Int):=by omega
     obtain ⟨ys,L,lo2,s1,s2,s3,s4⟩:=hrec a mid (by omega) bs d4 lo1 hb r1 (by omega) q3 r4;obtain ⟨t1,t2⟩:=r6 L s2 s3;refine ⟨m1,e,decide ((lf:Int)>=(th:Int)),ap,ys,L,lo2,λW=>?_,by omega,bp _,by omega,s2.1.trans q3,t1,t2,?_⟩
     . by_cases h0:0<a
       . have hag:(a:Int)>0:=by omega
         obtain ⟨a0,ha0⟩:∃ j,a=j+1:=⟨a-1,by omega⟩;have w0:=gN (x:=a) (k:=a0) ha0 (by omega);have hnl:=hcond h0;rw [show a-1=a0 by omega] at hnl;have ix0:=λh=>ixz (b:=b) (n:=n) (cap:=cap) (h:=h) (i:=a0) (by omega);have l0:=bC (kd:=.u32) (lo:=lo) hb (d:=d) (i:=a0) (by omega);generalize d[a0]! = X at *;generalize d[p]! = Y at *;generalize Mz .u32 bs b d lo=M0 at *;generalize Mz .u32 bs b d4 lo1=M1 at *;simp +decide [BB,g0,g1,g2,g3,g10,g11,h0,w0,ix0,l0,ixp,lp,c,hnl,q1,wlf,wrg,wth,hlr',s1,wm1,ay,ae,av,Tr.mute,-aB,-aM]
       . have hag:¬ (a:Int)>0:=by omega
         generalize Mz .u32 bs b d lo=M0 at *;generalize Mz .u32 bs b d4 lo1=M1 at *;simp +decide [BB,g0,g1,g2,g3,g10,g11,h0,q1,wlf,wrg,wth,hlr',s1,wm1,ay,bM,av,Tr.mute,-aB,-aM]
     . have:=Kq.trans (.of q2) s4;simpa using this
   . have hlr':¬ (lf:Int)<(rg:Int):=by omega
     obtain ⟨ys,L,lo2,s1,s2,s3,s4⟩:=hrec m1 e (by omega) bs d4 lo1 hb (by omega) he q3 r5;obtain ⟨t1,t2⟩:=r7 L s2 s3;refine ⟨a,mid,decide ((rg:Int)>=(th:Int)),ap,ys,L,lo2,λW=>?_,r1,by omega,by omega,s2.1.trans q3,t1,t2,?_⟩
     . by_cases h0:0<a
       . have hag:(a:Int)>0:=by omega
         obtain ⟨a0,ha0⟩:∃ j,a=j+1:=⟨a-1,by omega⟩;have w0:=gN (x:=a) (k:=a0) ha0 (by omega);have hnl:=hcond h0;rw [show a-1=a0 by omega] at hnl;have ix0:=λh=>ixz (b:=b) (n:=n) (cap:=cap) (h:=h) (i:=a0) (by omega);have l0:=bC (kd:=.u32) (lo:=lo) hb (d:=d) (i:=a0) (by omega);generalize d[a0]! = X at *;generalize d[p]! = Y at *;generalize Mz .u32 bs b d lo=M0 at *;generalize Mz .u32 bs b d4 lo1=M1 at *;simp +decide [BB,g0,g1,g2,g3,g10,g11,h0,w0,ix0,l0,ixp,lp,c,hnl,q1,wlf,wrg,wth,hlr',s1,wm1,ay,ae,av,Tr.mute,-aB,-aM]
       . have hag:¬ (a:Int)>0:=by omega
         generalize Mz .u32 bs b d lo=M0 at *;generalize Mz .u32 bs b d4 lo1=M1 at *;simp +decide [BB,g0,g1,g2,g3,g10,g11,h0,q1,wlf,wrg,wth,hlr',s1,wm1,ay,bM,av,Tr.mute,-aB,-aM]
     . have:=Kq.trans (.of q2) s4;simpa using this
end
end
section
open Go.Sort (swp ltInt PermIn SortedIn Below SWO permIn_trans permIn_refl partialInsertionSort choosePivot reverseRange partialInsertionSort_holds choosePivot_holds reverseRange_holds insertionSort_holds heapSort_holds insertionSort heapSort Hint)
theorem yS {bs ys:List Blk}{b lo lo':Nat}{d d':Array Int}(hb:b<bs.length)(hk:Kq b bs.length d ys lo' d') :
 ∃ lo2,gm (Mz .u32 bs b d lo) (some (.tup [],Mz .u32 (bs++ys) b d' lo'))=some (.tup [],Mz .u32 (bs++ys) b d' lo2)/\Kq b lo d ys lo2 d':=by
 have hl:(Mz .u32 bs b d lo).bs.length=bs.length:=by simp [Mz,Mr]
 rw [iQ,hl];obtain hk | ⟨rfl,rfl,rfl⟩:=hk
 . rw [if_neg (λhh=>by have:=hh.1; simp only [Mz,Mr] at this; omega)];exact ⟨min lo lo',rfl,.inl (by omega)⟩
 . rw [if_pos ⟨bp _,rfl⟩,List.append_nil];exact ⟨lo,rfl,.inr ⟨rfl,rfl,rfl⟩⟩
theorem Round.behind {E:Calls'}{b n lim a e:Nat}{cap:Option Nat}{bs ys:List Blk}{d D:Array Int}{lo lo1:Nat}{o:iN}(hp:PermIn a e d D)(hk:Kq b lo d ys lo1 D)(h:Round E b n cap lim a e (bs++ys) D lo1 o):Round E b n cap lim a e bs d lo o:=by
 obtain ⟨zs,d',lo',h1,h2,h3,h4⟩ | ⟨a2,e2,wb2,wp2,zs,d2,lo2,h1,h2,h3,h4,h5,h6,h7,h8⟩:=h
 . exact .inl ⟨ys++zs,d',lo',by rw [h1,List.append_assoc],permIn_trans _ _ _ _ _ hp h2,h3,hk.trans h4⟩
 . exact .inr ⟨a2,e2,wb2,wp2,ys++zs,d2,lo2,λW=>by rw [h1 W,List.append_assoc],h2,h3,h4,h5,h6,λR r1 r2=>⟨permIn_trans _ _ _ _ _ hp (h7 R r1 r2).1,(h7 R r1 r2).2⟩,hk.trans h8⟩
section
variable {E:Calls'}(h334:∀ x y h,E 208 [.d (u32 x),.d (u32 y)] h=some (bl (ltInt x y),h))(h241:∀ x h,E 124 [.d (u64 x)] h=some (.d (i64 (bS x)),h))
include h334
theorem xZ {bs:List Blk}{b:Nat}(hb:b<bs.length){n a e p lim:Nat}(hn:n<2 ^ 59)(ha:a+12<e)(he:e<=n)(hp1:a<=p)(hp2:p<e){cap:Option Nat}(d:Array Int)(lo:Nat)(hd:d.size=n)(hB:Below ltInt a e d)(wb wp:Bool)(hint:Hint)
 (hrec:∀ x y,y-x<e-a->Ei E b n cap lim x y) {ev:EA} (g0:ev.get 0=.row b 0 n cap 1) (g1:ev.get 1=.d (i64 a)) (g2:ev.get 2=.d (i64 e)) (g3:ev.get 3=.d (i64 lim)) (g8:ev.get 8=bl wb) (g9:ev.get 9=bl wp) (g10:ev.get 10=.d (i64 ((e-a:Nat):Int))) (g11:ev.get 11=.d (i64 p)) (g12:ev.get 12=.d (i64 (jd hint))) :
 Round E b n cap lim a e bs d lo (Cd E TS aS BA ev (Mz .u32 bs b d lo)):=by
 have next:∀ (D:Array Int) (lo1:Nat),D.size=n->Below ltInt a e D->∀ ev':EA,ev'.get 0=.row b 0 n cap 1->ev'.get 1=.d (i64 a)->ev'.get 2=.d (i64 e)->ev'.get 3=.d (i64 lim)->ev'.get 8=bl wb->ev'.get 9=bl wp->ev'.get 10=.d (i64 ((e-a:Nat):Int))->ev'.get 11=.d (i64 p)->Round E b n cap lim a e bs D lo1 (Cd E TS aS BB ev' (Mz .u32 bs b D lo1)) :=
  λD lo1 h1 h2 ev' k0 k1 k2 k3 k8 k9 k10 k11=>GQ h334 hb hn ha he hp1 hp2 D lo1 h1 h2 wb wp hrec k0 k1 k2 k3 k8 k9 k10 k11
 cases wb with
 | false =>
  have nx:=next d lo hd hB
  generalize Mz .u32 bs b d lo=M0 at *;simp +decide [BA,g8];exact nx _ (by simp [g0]) (by simp [g1]) (by simp [g2]) (by simp [g3]) (by simp [g8]) (by simp [g9]) (by simp [g10]) (by simp [g11])
 | true =>
  cases wp with
  | false =>
   have nx:=next d lo hd hB
   generalize Mz .u32 bs b d lo=M0 at *;simp +decide [BA,g8,g9];exact nx _ (by simp [g0]) (by simp [g1]) (by simp [g2]) (by simp [g3]) (by simp [g8]) (by simp [g9]) (by simp [g10]) (by simp [g11])
  | true =>
   have other:jd hint≠1->Round E b n cap lim a e bs d lo (Cd E TS aS BA ev (Mz .u32 bs b d lo)):=λhne=>by
    have nx:=next d lo hd hB
    generalize Mz .u32 bs b d lo=M0 at *;simp +decide [BA,g8,g9,g12,hne];exact nx _ (by simp [g0]) (by simp [g1]) (by simp [g2]) (by simp [g3]) (by simp [g8]) (by simp [g9]) (by simp [g10]) (by simp [g11])
   cases hint with
   | unknown=>exact other (by simp [jd])
   | decreasing=>exact other (by simp [jd])
   | increasing =>
    obtain ⟨lo1,q1,q2,q3⟩:=bj4 h334 hb (by omega) (a:=a) (e:=e) (by omega) he (cap:=cap) d lo hd;obtain ⟨p1,p2⟩:=partialInsertionSort_holds Ip d a e (by omega) (by omega) hB;generalize partialInsertionSort ltInt d a e=R at *;obtain ⟨D,r⟩:=R;simp only at *;have hBD:=hB.perm (by omega) p1;cases r with
    | true =>
     refine .inl ⟨[],D,lo1,?_,p1,p2 rfl,.of q2⟩;rw [List.append_nil];generalize Mz .u32 bs b d lo=M0 at *;generalize Mz .u32 bs b D lo1=M1 at *;simp +decide [BA,g0,g1,g2,g8,g9,g12,jd,q1]
    | false =>
     have nx:=next D lo1 q3 hBD
     refine Round.behind (ys:=[]) p1 (.of q2) ?_;rw [List.append_nil];generalize Mz .u32 bs b d lo=M0 at *;generalize Mz .u32 bs b D lo1=M1 at *;simp +decide [BA,g0,g1,g2,g8,g9,g12,jd,q1];exact nx _ (by simp [g0]) (by simp [g1]) (by simp [g2]) (by simp [g3]) (by simp [g8]) (by simp [g9]) (by simp [g10]) (by simp [g11])
theorem xY {bs:List Blk}{b:Nat}(hb:b<bs.length){n a e lim:Nat}(hn:n<2 ^ 59)(ha:a+12<e)(he:e<=n){cap:Option Nat}(d:Array Int)(lo:Nat)(hd:d.size=n)(hB:Below ltInt a e d)(wb wp:Bool)
 (hrec:∀ x y,y-x<e-a->Ei E b n cap lim x y) {ev:EA} (g0:ev.get 0=.row b 0 n cap 1) (g1:ev.get 1=.d (i64 a)) (g2:ev.get 2=.d (i64 e)) (g3:ev.get 3=.d (i64 lim)) (g8:ev.get 8=bl wb) (g9:ev.get 9=bl wp) (g10:ev.get 10=.d (i64 ((e-a:Nat):Int))) :
 Round E b n cap lim a e bs d lo (Cd E TS aS Kv ev (Mz .u32 bs b d lo)):=by
 have c1:=bj2 h334 hb (by omega) ha he (cap:=cap) d lo hd;obtain ⟨p1,p2⟩:=choosePivot_holds ltInt d a e (by omega);generalize choosePivot ltInt d a e=C at *;obtain ⟨c,hint⟩:=C;simp only at *;have other:jd hint≠2->Round E b n cap lim a e bs d lo (Cd E TS aS Kv ev (Mz .u32 bs b d lo)):=λhne=>by
  have nx:=λev' k0 k1 k2 k3 k8 k9 k10 k11 k12=>xZ h334 hb hn ha he p1 p2 d lo hd hB wb wp hint hrec (ev:=ev') k0 k1 k2 k3 k8 k9 k10 k11 k12;generalize Mz .u32 bs b d lo=M0 at *;simp +decide [Kv,g0,g1,g2,c1,hne];exact nx _ (by simp [g0]) (by simp [g1]) (by simp [g2]) (by simp [g3]) (by simp [g8]) (by simp [g9]) (by simp [g10]) (by simp) (by simp)
 cases hint with
 | unknown=>exact other (by simp [jd])
 | increasing=>exact other (by simp [jd])
 | decreasing =>
  obtain ⟨lo1,q1,q2,q3⟩:=bj3 (E:=E) hb (by omega) (a:=a) (e:=e) (by omega) he (cap:=cap) d lo hd;have r1:=reverseRange_holds d a e (by omega) (by omega);generalize reverseRange d a e=D at *;obtain ⟨e1,he1⟩:∃ j,e=j+1:=⟨e-1,by omega⟩;obtain ⟨ca,hca⟩:∃ j,c=j+a:=⟨c-a,by omega⟩;obtain ⟨p,hp⟩:∃ j,e1=j+ca:=⟨e1-ca,by omega⟩;have w1:=gN (x:=e) (k:=e1) he1 (by omega);have w2:=uL (x:=c) (y:=a) (k:=ca) hca (by omega);have w3:=uL (x:=e1) (y:=ca) (k:=p) hp (by omega);have nx:=λev' k0 k1 k2 k3 k8 k9 k10 k11 k12=>xZ h334 hb hn ha he (p:=p) (by omega) (by omega) D lo1 q3 (hB.perm (by omega) r1) wb wp .increasing hrec (ev:=ev') k0 k1 k2 k3 k8 k9 k10 k11 k12;refine Round.behind (ys:=[]) r1 (.of q2) ?_;rw [List.append_nil];generalize Mz .u32 bs b d lo=M0 at *;generalize Mz .u32 bs b D lo1=M1 at *;simp +decide [Kv,g0,g1,g2,c1,jd,q1,w1,w2,w3];exact nx _ (by simp [g0]) (by simp [g1]) (by simp [g2]) (by simp [g3]) (by simp [g8]) (by simp [g9]) (by simp [g10]) (by simp) (by simp [jd])
include h241
theorem Ky {b n:Nat}(hn:n<2 ^ 59){cap:Option Nat}:∀ (N a e lim:Nat) (wb wp:Bool) (bs:List Blk) (d:Array Int) (lo:Nat),e-a<N->b<bs.length->a<=e->e<=n->d.size=n->lim<2 ^ 60->Below ltInt a e d →
 ∃ ys d' lo',Cd E TS aS (.loop [0,1,2,3,8,9] nD) [(0,.row b 0 n cap 1),(1,.d (i64 a)),(2,.d (i64 e)),(3,.d (i64 lim)),(8,bl wb),(9,bl wp)] (Mz .u32 bs b d lo)=some (.ret,[],Mz .u32 (bs++ys) b d' lo')/\PermIn a e d d'/\SortedIn ltInt a e d'/\Kq b lo d ys lo' d':=by
 intro N;have key:=ak (E:=E) (T:=TS) (val:=aS) [0,1,2,3,8,9] nD;have hfun:∀ (bs:List Blk) (d:Array Int) (x y lim lo1:Nat) (ys:List Blk) (d':Array Int),b<bs.length →
  Cd E TS aS (.loop [0,1,2,3,8,9] nD) [(0,.row b 0 n cap 1),(1,.d (i64 x)),(2,.d (i64 y)),(3,.d (i64 lim)),(8,bl true),(9,bl true)] (Mz .u32 bs b d bs.length)=some (.ret,[],Mz .u32 (bs++ys) b d' lo1) →
  ∀ lo,Sm E TS aS 123 [.row b 0 n cap 1,.d (i64 x),.d (i64 y),.d (i64 lim)] (Mz .u32 bs b d lo)=gm (Mz .u32 bs b d lo) (some (.tup [],Mz .u32 (bs++ys) b d' lo1)):=λbs d x y lim lo1 ys d' hb h lo=>by
  have hl:(Mz .u32 bs b d lo).bs.length=bs.length:=by simp [Mz,Mr]
  have hM:(⟨(Mz .u32 bs b d lo).bs,bs.length⟩:Hp)=Mz .u32 bs b d bs.length:=rfl;rw [ax Vq VK,hl,hM]
  congr 1
  generalize Mz .u32 bs b d bs.length=M0 at *;generalize Mz .u32 (bs++ys) b d' lo1=M1 at *;simp [aa,Hf];rw [aj];try simp at h
  simp [h];rfl
 generalize Cd E TS aS (.loop [0,1,2,3,8,9] nD)=W at key hfun ⊢
 induction N with
 | zero=>intro a e lim wb wp bs d lo h; omega
 | succ N ih =>
  intro a e lim wb wp bs d lo hN hb hae hen hd hlim hB;have hrec:∀ lim',lim'<2 ^ 60->∀ x y,y-x<e-a->Ei E b n cap lim' x y:=λlim' hl x y hxy bs d lo hb hx hy hd hB=>by
   obtain ⟨ys,d',lo1,c1,c2,c3,c4⟩:=ih x y lim' true true bs d bs.length (by omega) hb hx hy hd hl hB;obtain ⟨lo2,r1,r2⟩:=yS (lo:=lo) hb c4;exact ⟨ys,d',lo2,(hfun bs d x y lim' lo1 ys d' hb c1 lo).trans r1,c2,c3,r2⟩
  obtain ⟨l,hl⟩:∃ j,e-a=j:=⟨_,rfl⟩;have wl:=uL (x:=e) (y:=a) (k:=l) (by omega) (by omega);rw [key,Kw];by_cases h12:l<=12
  . have h12':(l:Int)<=12:=by omega
    obtain ⟨lo1,q1,q2,q3⟩:=bi9 h334 hb (by omega) (a:=a) (e:=e) (by omega) hen (cap:=cap) d lo hd;obtain ⟨p1,p2⟩:=insertionSort_holds Ip d a e hae (by omega);refine ⟨[],_,lo1,?_,p1,p2,.of q2⟩;rw [List.append_nil];generalize Mz .u32 bs b d lo=M0 at *;generalize Mz .u32 bs b (insertionSort ltInt d a e) lo1=M1 at *;simp +decide [wl,h12',q1]
  have h12':¬ (l:Int)<=12:=by omega
  by_cases hl0:lim=0
  . subst hl0;obtain ⟨lo1,q1,q2,q3⟩:=bj0 h334 hb (by omega) (a:=a) (e:=e) (by omega) hen (cap:=cap) d lo hd;obtain ⟨p1,p2⟩:=heapSort_holds Ip d a e hae (by omega);refine ⟨[],_,lo1,?_,p1,p2,.of q2⟩;rw [List.append_nil];generalize Mz .u32 bs b d lo=M0 at *;generalize Mz .u32 bs b (heapSort ltInt d a e) lo1=M1 at *;simp +decide [wl,h12',q1]
  have fin_:∀ (lim':Nat) (o:iN),lim'<2 ^ 60->Round E b n cap lim' a e bs d lo o->∃ ys d' lo',iP [0,1,2,3,8,9] W (leave 1 o)=some (.ret,[],Mz .u32 (bs++ys) b d' lo')/\PermIn a e d d'/\SortedIn ltInt a e d'/\Kq b lo d ys lo' d':=by
   rintro lim' o hl' (⟨ys,d',lo',rfl,h2,h3,h4⟩ | ⟨a2,e2,wb2,wp2,ys,d2,lo2,h1,h2,h3,h4,h5,h6,h7,h8⟩)
   . exact ⟨ys,d',lo',rfl,h2,h3,h4⟩
   . have hKb:b<(bs++ys).length:=by simp; omega
     obtain ⟨zs,d',lo',c1,c2,c3,c4⟩:=ih a2 e2 lim' wb2 wp2 (bs++ys) d2 lo2 (by omega) hKb h2 (by omega) h5 hl' h6;refine ⟨ys++zs,d',lo',?_,(h7 d' c2 c3).1,(h7 d' c2 c3).2,h8.trans c4⟩;rw [h1 W,c1,List.append_assoc]
  cases wb with
  | true =>
   have st:=λev k0 k1 k2 k3 k8 k9 k10=>fin_ lim _ hlim (xY h334 hb hn (a:=a) (e:=e) (by omega) hen (cap:=cap) d lo hd hB true wp (hrec lim hlim) (ev:=ev) k0 k1 k2 k3 k8 k9 k10);generalize Mz .u32 bs b d lo=M0 at *;simp +decide [wl,h12',hl0];refine st _ ?_ ?_ ?_ ?_ ?_ ?_ ?_<;>simp [hl]
  | false =>
   obtain ⟨lm,hlm⟩:∃ j,lim=j+1:=⟨lim-1,by omega⟩;have wlm:=gN (x:=lim) (k:=lm) hlm (by omega);obtain ⟨ys,d1,lo1,q1,q2,q3⟩:=bj1 h241 hb hn (a:=a) (e:=e) (by omega) hen (cap:=cap) d lo hd;have hb1:b<(bs++ys).length:=by simp; omega
   have st:=λev k0 k1 k2 k3 k8 k9 k10=>fin_ lm _ (by omega) (Round.behind q2 (.inl q3) (xY h334 hb1 hn (a:=a) (e:=e) (by omega) hen (cap:=cap) d1 lo1 (q2.1.trans hd) (hB.perm (by omega) q2) false wp (hrec lm (by omega)) (ev:=ev) k0 k1 k2 k3 k8 k9 k10));generalize Mz .u32 bs b d lo=M0 at *;generalize Mz .u32 (bs++ys) b d1 lo1=M1 at *;simp +decide [wl,h12',hl0,q1,wlm];refine st _ ?_ ?_ ?_ ?_ ?_ ?_ ?_<;>simp [hl]
theorem bg8 {b n:Nat}(hn:n<2 ^ 59){cap:Option Nat}{lim:Nat}(hlim:lim<2 ^ 60){bs:List Blk}(hb:b<bs.length)(d:Array Int)(lo:Nat)(hd:d.size=n) :
 ∃ ys d' lo',Sm E TS aS 123 [.row b 0 n cap 1,.d (i64 0),.d (i64 n),.d (i64 lim)] (Mz .u32 bs b d lo)=some (.tup [],Mz .u32 (bs++ys) b d' lo')/\PermIn 0 n d d'/\SortedIn ltInt 0 n d'/\Kq b lo d ys lo' d':=by
 obtain ⟨ys,d',lo1,c1,c2,c3,c4⟩:=Ky h334 h241 hn (cap:=cap) (n+1) 0 n lim true true bs d bs.length (by omega) hb (Nat.zero_le _) (bp _) hd hlim (.inl rfl);obtain ⟨lo2,r1,r2⟩:=yS (lo:=lo) hb c4;refine ⟨ys,d',lo2,?_,c2,c3,r2⟩;refine Eq.trans ?_ r1;have hl:(Mz .u32 bs b d lo).bs.length=bs.length:=by simp [Mz,Mr]
 have hM:(⟨(Mz .u32 bs b d lo).bs,bs.length⟩:Hp)=Mz .u32 bs b d bs.length:=rfl;rw [ax Vq VK,hl,hM]
 congr 1
 generalize Mz .u32 bs b d bs.length=M0 at *;generalize Mz .u32 (bs++ys) b d' lo1=M1 at *;simp [aa,Hf];rw [aj];try simp at c1
 simp [c1];rfl
end
end
section
open Go.Sort (ltInt PermIn SortedIn sorted_unique_holds)
def dg8:List (Nat×QF):=[(44,KU),(45,YL)]
def TU:FuncId->Option QF:=gM dg8
def zW (f:FuncId):Bool:=false
theorem aj4:TU 44=some KU:=by kernel_rfl
theorem aj5:TU 45=some (cmpQ .u32):=by kernel_rfl
theorem aj7:TU 123=none:=by kernel_rfl
theorem aj8:TU 124=none:=by kernel_rfl
theorem Ed {bs:List Blk}{b lo:Nat}{cs:List V}(hb:ai bs b=some cs):Mr bs b cs lo=⟨bs,lo⟩:=by
 have hbl:=aI hb;unfold Mr
 congr 1
 apply List.ext_getElem?;intro i;by_cases hi:b=i
 . subst hi;rw [List.getElem?_set_self hbl];unfold ai at hb;split at hb
   . rename_i hh; cases hb; exact hh.symm
   . cases hb
 . rw [ac hi]
theorem Pp {d d':Array Int}(h1:PermIn 0 d.size d d')(h2:SortedIn ltInt 0 d.size d'):d'.toList=bD d.toList:=by
 have:=sorted_unique_holds Ip (λx y a b=>by simp [ltInt] at a b; omega) d d' h1 h2;rw [this,bD]
 congr 1
 funext x y;simp only [ltInt];by_cases h:x<=y
 . simp [h]
 . simp [h]; omega
section
variable {E:Calls'}(h334:∀ x y h,E 208 [.d (u32 x),.d (u32 y)] h=some (bl (ltInt x y),h))(h241:∀ x h,E 124 [.d (u64 x)] h=some (.d (i64 (bS x)),h))
include h334 h241
theorem be5 {E2:Calls'}(k240:∀ args h,E2 123 args h=Sm E TS aS 123 args h)(k241:∀ x h,E2 124 [.d (u64 x)] h=some (.d (i64 (bS x)),h)){bs:List Blk}{b lo n:Nat}{cap:Option Nat}(hb:b<bs.length)(d:Array Int)(hd:d.size=n)(hn:n<2 ^ 59) :
 ∃ ys lo',Sm E2 TU zW 44 [.row b 0 n cap 1] (Mz .u32 bs b d lo)=some (.tup [],Mr (bs++ys) b ((bD d.toList).map (iv .u32)) lo'):=by
 obtain ⟨a0,a1,a2⟩:=Ba (x:=(n:Int)) (by omega) (by omega);have hle:=wh (n:Int);obtain ⟨k,hk⟩:∃ k:Nat,bS n=k:=⟨(bS n).toNat,by omega⟩;obtain ⟨ys,d',lo1,c1,c2,c3,c4⟩:=bg8 h334 h241 hn (cap:=cap) (lim:=k) (by omega) hb d bs.length hd;have hsz:=c2.1;have hl:=Pp (d:=d) (d':=d') (by rw [hd]; exact c2) (by rw [hd]; exact c3);have hz:zsV .u32 d'=(bD d.toList).map (iv .u32):=by rw [zsV,hl]
 obtain ⟨lo2,r1,r2⟩:=yS (lo:=lo) hb c4;have hwu:wrap .u64 (n:Int)=(n:Int):=by simp [wrap,IntKind.bits,IntKind.signed]; omega
 have n240:∀ args h,Sm E2 TU zW 123 args h=Sm E TS aS 123 args h:=λargs h=>by rw [aL aj7]; exact k240 args h
 have n241:∀ x h,Sm E2 TU zW 124 [.d (u64 x)] h=some (.d (i64 (bS x)),h):=λx h=>by rw [aL aj8]; exact k241 x h
 refine ⟨ys,lo2,?_⟩;rw [← hz];refine Eq.trans ?_ r1;have hlen:(Mz .u32 bs b d lo).bs.length=bs.length:=by simp [Mz,Mr]
 have hM:(⟨(Mz .u32 bs b d lo).bs,bs.length⟩:Hp)=Mz .u32 bs b d bs.length:=rfl;rw [ax aj4 rfl,hlen,hM]
 congr 1
 generalize Mz .u32 bs b d bs.length=M0 at *;generalize Mz .u32 (bs++ys) b d' lo1=M1 at *;try simp at c1
 simp [aa,KU,hwu,n240,n241,hk,c1];rfl
end
def pR:List Int->List Int
 | x::y::l=>(if x=y then [] else [y])++pR (y::l)
 | _=>[]
theorem qV:∀ l:List Int,(pR l).length=chg l
 | []=>rfl
 | [_]=>rfl
 | x::y::l=>by
  have:=qV (y::l);simp only [pR,chg,am,this];split<;>simp
theorem xM {zs:List Int}{i:Nat}(h:i+1<zs.length):pR (zs.drop i)=(if zs[i]=zs[i+1] then [] else [zs[i+1]])++pR (zs.drop (i+1)):=by
 rw [aw (show i<zs.length by omega),aw h];simp only [pR]
theorem Au:∀ (x:Int) (l:List Int),cmpL (x::l)=x::pR (x::l)
 | x,[]=>rfl
 | x,y::l=>by
  have ih:=Au y l;rw [cmpL,ih];by_cases h:x=y
  . subst h; simp [pR]
  . simp [pR,h]
section
variable {E:Calls'}{T:FuncId->Option QF}{val:FuncId->Bool}{kd:IntKind}
theorem MP {bs:List Blk}{b:Nat}(hb:b<bs.length){zs:List Int}{cap cap2:Option Nat}(hn:zs.length<2 ^ 62){k0:Nat}(hk0:1<=k0)(hk1:k0<zs.length):∀ (m i k:Nat) (cur:List V) (lo:Nat),k0+i+m=zs.length->1<=i->k<k0+i->cur.length=zs.length->(∀ j (hj:j<zs.length),k<=j->cur[j]?=some (iv kd zs[j])) →
 ∃ cur' lo',Cd E T val (.loop [0,3,4,5] (mD kd)) [(0,.row b 0 zs.length cap 1),(3,.d (i64 k)),(4,.row b k0 (zs.length-k0) cap2 1),(5,.d (i64 i))] (Mr bs b cur lo) =
  some (.exit 2,[(0,.row b 0 zs.length cap 1),(3,.d (i64 (k+chg (zs.drop (k0+i-1)):Nat)))],Mr bs b cur' lo')/\cur'.length=zs.length/\(lo'=lo\/lo'=min lo b)/\cur'.take (k+chg (zs.drop (k0+i-1)))=cur.take k++(pR (zs.drop (k0+i-1))).map (iv kd):=by
 intro m;have key:=ak (E:=E) (T:=T) (val:=val) [0,3,4,5] (mD kd);generalize Cd E T val (.loop [0,3,4,5] (mD kd))=W at key ⊢
 induction m with
 | zero =>
  intro i k cur lo hi h1 hk hl hc;have h0:chg (zs.drop (k0+i-1))=0:=by
   have:=qg (zs.drop (k0+i-1));simp only [List.length_drop] at this;omega
  have hL:pR (zs.drop (k0+i-1))=[]:=List.eq_nil_of_length_eq_zero (by rw [qV,h0]);refine ⟨cur,lo,?_,hl,.inl rfl,by rw [h0,hL]; simp⟩;rw [key,h0];simp [mD,show ¬ ((i:Int)<((zs.length-k0:Nat):Int)) from by omega]
 | succ m ih =>
  intro i k cur lo hi h1 hk hl hc;have hlt:i<zs.length-k0:=by omega
  have e1:=hc (k0+i) (by omega) (by omega);have e0:=hc (k0+i-1) (by omega) (by omega);have hd:=qW (zs:=zs) (i:=k0+i-1) (by omega);have hdL:=xM (zs:=zs) (i:=k0+i-1) (by omega);have hs:k0+i-1+1=k0+i:=by omega
  simp only [hs] at hd hdL;rw [hd,hdL];have hw:=aA (show i<zs.length by omega) hn;have hwk:=aA (show k<zs.length by omega) hn;have hwm:wrap .i64 ((i:Int)-1)=((i-1:Nat):Int):=by rw [wrap64]<;>omega
  have i1:=λh=>gD (b:=b) (o:=k0) (z:=1) (cap:=cap2) (kd:=.i64) (h:=h) hlt;have i0:=λh=>gD (b:=b) (o:=k0) (z:=1) (cap:=cap2) (kd:=.i64) (h:=h) (show i-1<zs.length-k0 by omega);have ik:=λh=>gD (b:=b) (o:=0) (z:=1) (cap:=cap) (kd:=.i64) (h:=h) (show k<zs.length by omega);simp only [Nat.mul_one,show k0+(i-1)=k0+i-1 by omega,Nat.zero_add] at i1 i0 ik;have l1:=qN (lo:=lo) hb e1;have l0:=qN (lo:=lo) hb e0;generalize zs[k0+i]'(by omega)=y at *;generalize zs[k0+i-1]'(by omega)=x at *;by_cases hxy:x=y
  . obtain ⟨cur',lo',k1,k2,k3,k4⟩:=ih (i+1) k cur lo (by omega) (by omega) (by omega) hl hc;simp only [show k0+(i+1)-1=k0+i by omega] at k1 k4;simp only [hxy,if_true,Nat.zero_add,List.nil_append];refine ⟨cur',lo',?_,k2,k3,k4⟩;rw [key];subst hxy;simp [mD,i1,i0,l1,l0,iv,hw,hwm,show ((i:Int)<((zs.length-k0:Nat):Int)) from by omega,-aB];simpa using k1
  . have st:=IM (lo:=lo) (x:=.int kd y) hb (show k<cur.length by omega);obtain ⟨cur',lo',k1,k2,k3,k4⟩:=ih (i+1) (k+1) (cur.set k (.d (.int kd y))) (min lo b) (by omega) (by omega) (by omega) (by simpa using hl) (by
     intro j hj hkj;rw [ac (by omega)];exact hc j hj (by omega))
    simp only [show k0+(i+1)-1=k0+i by omega] at k1 k4;simp only [hxy,if_false];refine ⟨cur',lo',?_,k2,by obtain k3 | k3:=k3<;>omega,?_⟩
    . rw [key];have hyx:¬ y=x:=λh=>hxy h.symm;simp [mD,i1,i0,ik,l1,l0,st,iv,hw,hwk,hwm,hyx,show ((i:Int)<((zs.length-k0:Nat):Int)) from by omega,-aB,-aM];rw [show ((k:Int)+(1+(chg (zs.drop (k0+i)):Int)))=((k+1+chg (zs.drop (k0+i)):Nat):Int) by omega];simpa using k1
    . rw [show k+(1+chg (zs.drop (k0+i)))=k+1+chg (zs.drop (k0+i)) by omega,k4];have hset:(cur.set k (.d (.int kd y))).take (k+1)=cur.take k++[iv kd y]:=by
       rw [List.take_add_one];rw [List.take_set_of_le (bp k)];rw [List.getElem?_set_self (by omega)];rfl
      rw [hset];simp
theorem Jm {C:Calls'}{bs:List Blk}{b lo:Nat}{cur:List V}(hb:b<bs.length){n k:Nat}{cap:Option Nat}{e:EA}{x:X}{zero:V}(he:x.ea e=.row b k (n-k) cap 1)(hc:cur.length=n)(hk:k<n) :
 ∃ cur',cur'.length=n/\cur'.take k=cur.take k/\opE C (.clear 1 [zero] x) (X.ea e) (Mr bs b cur lo)=some (.undef,Mr bs b cur' (min lo b)):=by
 have hr:((List.replicate (n-k) [zero]).flatten).length=n-k:=by simp
 have hp:put cur k (List.replicate (n-k) [zero]).flatten=some (cur.take k++(List.replicate (n-k) [zero]).flatten++cur.drop (k+(n-k))):=by
  unfold put;rw [if_pos (by rw [hr]; omega),hr]
 refine ⟨cur.take k++(List.replicate (n-k) [zero]).flatten++cur.drop (k+(n-k)),by simp only [am,hr,List.length_take,List.length_drop]; omega,?_,?_⟩
 . rw [List.append_assoc,List.take_append_of_le_length (by simp; omega),List.take_take,Nat.min_self]
 have hne:¬ (n-k) * 1=0:=by omega
 simp only [opE,he,if_true,get_eq,sH hb,if_neg hne,hp];simp [Hp.set,Mr]
theorem Jn {bs:List Blk}{b lo:Nat}(hb:b<bs.length){zs:List Int}{cap:Option Nat}(hn:zs.length<2 ^ 62):∀ (m k:Nat),k+m=zs.length->1<=k →
 ∃ cur' lo',(Cd E T val (.loop [0,3] (kG kd)) [(0,.row b 0 zs.length cap 1),(3,.d (i64 k))] (Mr bs b (zs.map (iv kd)) lo)=some (.ret,[(2,.row b 0 (k+chg (zs.drop (k-1))) cap 1)],Mr bs b cur' lo')/\cur'.length=zs.length/\lo'=min lo b/\cur'.take (k+chg (zs.drop (k-1)))=(zs.take k++pR (zs.drop (k-1))).map (iv kd)) ∨
  (Cd E T val (.loop [0,3] (kG kd)) [(0,.row b 0 zs.length cap 1),(3,.d (i64 k))] (Mr bs b (zs.map (iv kd)) lo)=some (.exit 0,[(0,.row b 0 zs.length cap 1)],Mr bs b (zs.map (iv kd)) lo)/\k+chg (zs.drop (k-1))=zs.length/\zs=zs.take k++pR (zs.drop (k-1))):=by
 intro m;have key:=ak (E:=E) (T:=T) (val:=val) [0,3] (kG kd);generalize Cd E T val (.loop [0,3] (kG kd))=W at key ⊢
 induction m with
 | zero =>
  intro k hk h1;have h0:chg (zs.drop (k-1))=0:=by
   have:=qg (zs.drop (k-1));simp only [List.length_drop] at this;omega
  have hL:pR (zs.drop (k-1))=[]:=List.eq_nil_of_length_eq_zero (by rw [qV,h0]);refine ⟨[],0,.inr ⟨?_,by omega,by rw [hL,List.take_of_length_le (by omega)]; simp⟩⟩;rw [key];simp [kG,show ¬ ((k:Int)<(zs.length:Int)) from by omega]
 | succ m ih =>
  intro k hk h1;have hlt:k<zs.length:=by omega
  have e1:(zs.map (iv kd))[k]?=some (iv kd zs[k]):=by simp [hlt]
  have e0:(zs.map (iv kd))[k-1]?=some (iv kd (zs[k-1]'(by omega))):=by rw [List.getElem?_map,ab (show k-1<zs.length by omega)]; rfl
  have hd:=qW (zs:=zs) (i:=k-1) (by omega);have hdL:=xM (zs:=zs) (i:=k-1) (by omega);have hs:k-1+1=k:=by omega
  simp only [hs] at hd hdL;have htk:zs.take (k+1)=zs.take k++[zs[k]]:=by rw [List.take_add_one,ab hlt]; rfl
  have hw:=aA hlt hn;have hwm:wrap .i64 ((k:Int)-1)=((k-1:Nat):Int):=by rw [wrap64]<;>omega
  have i1:=λh=>gD (b:=b) (o:=0) (z:=1) (cap:=cap) (kd:=.i64) (h:=h) hlt;have i0:=λh=>gD (b:=b) (o:=0) (z:=1) (cap:=cap) (kd:=.i64) (h:=h) (show k-1<zs.length by omega);simp only [Nat.mul_one,Nat.zero_add] at i1 i0;have l1:=qN (lo:=lo) hb e1;have l0:=qN (lo:=lo) hb e0;have hin:=MP (E:=E) (T:=T) (val:=val) (kd:=kd) hb (zs:=zs) (cap:=cap) (cap2:=cap.map (· - k)) hn h1 hlt (zs.length-k-1) 1 k (zs.map (iv kd)) lo (by omega) (by omega) (by omega) (by simp) (λj hj _=>by simp [hj]);have hcl:=qg (zs.drop k);simp only [List.length_drop] at hcl;rw [hd,hdL];generalize zs[k]'(by omega)=y at *;generalize zs[k-1]'(by omega)=x at *;by_cases hxy:x=y
  . obtain ⟨cur',lo',k1,k2,k3,k4⟩:=hin;simp only [show k+1-1=k by omega] at k1 k4;have hK:k+chg (zs.drop k)<zs.length:=by omega
    generalize hKe:k+chg (zs.drop k)=K at *;obtain ⟨cur2,c1,c3,c2⟩:=Jm (C:=Sm E T val) (lo:=lo') hb (cur:=cur') (e:=[(56,.row b K (zs.length-K) (cap.map (· - K)) 1),(55,.d (i64 K)),(54,.row b 0 zs.length cap 1),(0,.row b 0 zs.length cap 1),(3,.d (i64 K))]) (x:=.t 56) (n:=zs.length) (k:=K) (cap:=cap.map (· - K)) (zero:=.d (.int kd 0)) (by simp) k2 hK;have sl1:=λh=>yU (h:=h) (ev:=X.ea [(27,.d (i64 k)),(26,.row b 0 zs.length cap 1),(25,.d (.bool true)),(24,iv kd x),(23,.ptr b (k-1)),(22,.d (i64 (k-1:Nat))),(21,.d (i64 k)),(20,.row b 0 zs.length cap 1),(19,iv kd y),(18,.ptr b k),(17,.d (i64 k)),(16,.row b 0 zs.length cap 1),(13,.d (.bool true)),(12,.d (i64 zs.length)),(11,.row b 0 zs.length cap 1),(10,.d (i64 k)),(0,.row b 0 zs.length cap 1),(3,.d (i64 k))]) (x:=.t 27) (b:=b) (n:=zs.length) (cap:=cap) (k:=k) (by simp) hlt h1;have sl2:=λh=>yU (h:=h) (ev:=X.ea [(55,.d (i64 K)),(54,.row b 0 zs.length cap 1),(0,.row b 0 zs.length cap 1),(3,.d (i64 K))]) (x:=.t 55) (b:=b) (n:=zs.length) (cap:=cap) (k:=K) (by simp) hK (by omega);have sl3:=λh=>rW (h:=h) (ev:=X.ea [(58,.d (i64 K)),(57,.row b 0 zs.length cap 1),(56,.row b K (zs.length-K) (cap.map (· - K)) 1),(55,.d (i64 K)),(54,.row b 0 zs.length cap 1),(0,.row b 0 zs.length cap 1),(3,.d (i64 K))]) (x:=.t 58) (b:=b) (z:=1) (len:=zs.length) (cap:=cap) (n:=K) (by simp) (by omega);simp only [hxy,if_true,Nat.zero_add,List.nil_append]
    refine ⟨cur2,min lo' b,.inl ⟨?_,c1,by obtain k3 | k3:=k3<;>omega,?_⟩⟩
    . rw [key];subst hxy;simp [iv] at sl1;simp [kG,i1,i0,l1,l0,iv,hwm,hlt,sl1,-aB];rw [aj];simp at k1;simp [k1,sl2];rw [c2];simp [sl3,hKe]
    . rw [hKe,c3,k4,List.map_append,List.map_take]
  . obtain ⟨cur',lo',hh⟩:=ih (k+1) (by omega) (by omega);simp only [show k+1-1=k by omega,htk] at hh;refine ⟨cur',lo',?_⟩;have hyx:¬ y=x:=λh=>hxy h.symm;have hadd:k+(1+chg (zs.drop k))=k+1+chg (zs.drop k):=by omega
    have happ:zs.take k++([y]++pR (zs.drop k))=zs.take k++[y]++pR (zs.drop k):=by simp
    simp only [hxy,if_false,hadd,happ];rw [key];simp [kG,i1,i0,l1,l0,iv,hwm,hw,hlt,hyx,-aB];simpa [iv] using hh
theorem Cx {id:FuncId}(ht:T id=some (cmpQ kd))(hv:val id=false){zs:List Int}{b lo:Nat}{cap:Option Nat}{bs:List Blk}(hb:b<bs.length)(hn:zs.length<2 ^ 62) :
 ∃ cur lo',Sm E T val id [.row b 0 zs.length cap 1] (Mr bs b (zs.map (iv kd)) lo)=some (.row b 0 (cmpL zs).length cap 1,Mr bs b cur lo')/\cur.take (cmpL zs).length=(cmpL zs).map (iv kd):=by
 have hl:(Mr bs b (zs.map (iv kd)) lo).bs.length=bs.length:=by simp [Mr]
 have hM:(⟨(Mr bs b (zs.map (iv kd)) lo).bs,bs.length⟩:Hp)=Mr bs b (zs.map (iv kd)) bs.length:=rfl;have hlow:∀ lo cur,(Mr bs b cur lo).low=lo:=λ_ _=>rfl;have hlen:∀ lo cur,(Mr bs b cur lo).bs.length=bs.length:=λ_ _=>by simp [Mr]
 have hmk:∀ cur lo lo',(⟨(Mr bs b cur lo).bs,lo'⟩:Hp)=Mr bs b cur lo':=λ_ _ _=>rfl;rw [ax ht hv,hl,hM];by_cases h2:zs.length<2
 . have hz:cmpL zs=zs:=by
    match zs,h2 with
    | [],_=>rfl
    | [x],_=>rfl
    | _::_::_,h2=>simp at h2; omega
   rw [hz];refine ⟨zs.map (iv kd),lo,?_,by rw [List.take_of_length_le (by simp)]⟩;have h1:=hlow bs.length (zs.map (iv kd));have h5:=hlen lo (zs.map (iv kd));generalize Mr bs b (zs.map (iv kd)) bs.length=M0 at *;generalize Mr bs b (zs.map (iv kd)) lo=M1 at *;simp [cmpQ,aa,show ((zs.length:Int)<2) from by omega,V.under,hb,h1,h5]
 . obtain ⟨x,l,rfl⟩:∃ x l,zs=x::l:=by
    cases zs with
    | nil=>simp at h2
    | cons x l=>exact ⟨x,l,rfl⟩
   have hc:=Au x l;have hcl:(cmpL (x::l)).length=1+chg (x::l):=by rw [hc,ch,qV]; omega
   obtain ⟨cur',lo',hh | hh⟩:=Jn (E:=E) (T:=T) (val:=val) (kd:=kd) (lo:=bs.length) (cap:=cap) hb hn ((x::l).length-1) 1 (by simp at h2 ⊢; omega) (by omega)
   . obtain ⟨k1,k2,k3,k4⟩:=hh;simp only [Nat.sub_self,List.drop_zero,List.take_succ_cons,List.take_zero,List.singleton_append] at k1 k4;rw [← hc] at k4;rw [hcl];have hlo:lo'=b:=by omega
     subst hlo;refine ⟨cur',min lo lo',?_,k4⟩;have h1:=hlow lo' cur';have h5:=hlen lo ((x::l).map (iv kd));have h6:=hlow lo ((x::l).map (iv kd));have h7:=hmk cur' lo' (min lo lo');generalize (x::l)=zs at *;generalize Mr bs lo' (zs.map (iv kd)) bs.length=M0 at *;generalize Mr bs lo' (zs.map (iv kd)) lo=M1 at *;generalize Mr bs lo' cur' lo'=M2 at *;simp at k1;simp [cmpQ,aa,show ¬ ((zs.length:Int)<2) from by omega];rw [aj];simp [k1,V.under,hb,h1,h5,h6,h7,show ¬ (bs.length<=lo') from by omega]
   . obtain ⟨k1,k2,k3⟩:=hh;simp only [Nat.sub_self,List.drop_zero,List.take_succ_cons,List.take_zero,List.singleton_append] at k1 k2 k3;rw [← hc] at k3;rw [← k3];refine ⟨(x::l).map (iv kd),lo,?_,by rw [List.take_of_length_le (by simp)]⟩;have h1:=hlow bs.length ((x::l).map (iv kd));have h5:=hlen lo ((x::l).map (iv kd));generalize (x::l)=zs at *;generalize Mr bs b (zs.map (iv kd)) bs.length=M0 at *;generalize Mr bs b (zs.map (iv kd)) lo=M1 at *;simp at k1;simp [cmpQ,aa,show ¬ ((zs.length:Int)<2) from by omega];rw [aj];simp [k1,V.under,hb,h1,h5]
end
end
section
abbrev aQ:V:=.d (.slice true [])
def qR (c:Cfg)(s:Scp):List Blk:=[.cells (c.c.map .d),.cells (s.c.map .d),.cells [.d (.int .u64 0),aQ,aQ,aQ,aQ,aQ],.cells [.fn 35 [.ptr 1 0]],.cells [.fn 36 [.ptr 1 0]],.cells [.fn 38 [.ptr 0 0,.ptr 3 0]],.cells [.fn 40 [.ptr 0 0]],.cells [.fn 43 [.ptr 1 0,.ptr 6 0,.ptr 5 0]]]
theorem base_E {c:Cfg}{s:Scp}:OfE c s (qR c s):=⟨rfl,rfl,rfl,rfl,rfl,rfl,rfl⟩
def oZ (l:List Int):List V:=l.map λn=>.d (u32 n)
theorem wY:∀ l:List Int,flat (l.map aV)=oZ l
 | []=>rfl
 | x::l=>by
  have:=wY l;simp only [flat,oZ] at this ⊢;simp [aV,this]
def CvR (D:Nat)(nl:Bool)(acc:List Int)(bs:List Blk)(v:V):Prop :=
 (nl=true/\acc=[]/\v=aQ)\/(nl=false/\∃ b cap,8<=b/\b≠D/\v=.row b 0 acc.length cap 1/\((cap=none/\acc≠[])\/(cap=some 0/\acc=[]))/\ai bs b=some (oZ acc))
structure Cv (c:Cfg) (s:Scp) (D:Nat) (nl:Bool) (acc:List Int) (bs:List Blk) (v:V):Prop where
 env:OfE c s bs
 b2:ai bs 2=some [.d (.int .u64 0),aQ,aQ,aQ,aQ,aQ]
 d8:8<=D
 d0:ai bs D=some (aP c.epoch v aQ aQ aQ aQ)
 is:CvR D nl acc bs v
def regV:List (List Nat)×List RO:=([[],[0],[],[2],[3,2],[1,0,4,3,2],[],[5,1,0,4,3,2,6]],[⟨none,some 30,.fldA (.t 2) 0⟩,⟨none,some 31,.load true 1 (.t 30)⟩,⟨none,some 32,.fldA (.t 3) 1⟩,⟨none,some 33,.load true 1 (.t 32)⟩,⟨none,some 34,.call (.c (.fn 29 [])) [.t 33]⟩,⟨none,some 35,.build [(.d (.int .u64 0)),(.d (.slice true [])),(.d (.slice true [])),(.d (.slice true [])),(.d (.slice true [])),(.d (.slice true []))] [(0,1,(.t 31)),(1,1,(.t 34))]⟩,⟨none,some 11,.new [(.d (.int .u64 0)),(.d (.slice true [])),(.d (.slice true [])),(.d (.slice true [])),(.d (.slice true [])),(.d (.slice true []))]⟩,⟨none,none,.store 6 (.t 11) (.t 35)⟩])
theorem bo2 {E:Calls'}{c:Cfg}{s:Scp}(hs:short s.addrs)(x29 x25 x26 x27 x28 x24 x23 x21 x20 x19 x18 x17 x16 x15 x14 x5 x4 x6 x7 x8 x9 x10 x0 x1:V) :
 ∃ D v bs x35 x33 x32 x31 x30,ay (Sm E TV aX) regV.1 regV.2 [(10,x10),(29,x29),(9,x9),(28,x28),(8,x8),(27,x27),(7,x7),(26,x26),(6,x6),(25,x25),(24,x24),(23,x23),(21,x21),(20,x20),(19,x19),(18,x18),(17,x17),(16,x16),(15,x15),(14,x14),(5,x5),(4,x4),(3,.ptr 1 0),(2,.ptr 0 0),(0,x0),(1,x1)] ⟨qR c s,0⟩ =
  some ([(11,.ptr D 0),(35,x35),(34,v),(33,x33),(32,x32),(31,x31),(30,x30),(10,x10),(29,x29),(9,x9),(28,x28),(8,x8),(27,x27),(7,x7),(26,x26),(6,x6),(25,x25),(24,x24),(23,x23),(21,x21),(20,x20),(19,x19),(18,x18),(17,x17),(16,x16),(15,x15),(14,x14),(5,x5),(4,x4),(3,.ptr 1 0),(2,.ptr 0 0),(0,x0),(1,x1)],⟨bs,0⟩)/\Cv c s D s.addrs.nl s.addrs.l bs v:=by
 have hcl:=λh=>iO (E:=E) (T:=TV) (val:=aX) al7 ap7 (by decide) (by decide) (nl:=s.addrs.nl) (es:=s.addrs.l.map aV) (by simp [aV]) (by simpa using hs.1) h;have hd:s.addrs.d aV=.slice s.addrs.nl (s.addrs.l.map aV):=rfl;cases hnl:s.addrs.nl with
 | true =>
  have hl:=hs.2 hnl;rw [hnl] at hcl hd;simp [bH] at hcl;refine ⟨8,aQ,qR c s++[.cells (aP c.epoch aQ aQ aQ aQ aQ)],.agg (aP c.epoch (aQ) aQ aQ aQ aQ),.d (s.addrs.d aV),.ptr 1 1,.d (u64 c.epoch),.ptr 0 0,?_,base_E.lay _,rfl,by decide,rfl,.inl ⟨rfl,hl,rfl⟩⟩;simp +decide [regV,qR,hd,hcl,ay,ae,aP,aC]
 | false =>
  rw [hnl] at hcl hd;cases hll:s.addrs.l with
  | nil =>
   rw [hll] at hcl hd;simp [bH] at hcl hd;refine ⟨9,.row 8 0 0 (some 0) 1,qR c s++[.cells [],.cells (aP c.epoch (.row 8 0 0 (some 0) 1) aQ aQ aQ aQ)],.agg (aP c.epoch (.row 8 0 0 (some 0) 1) aQ aQ aQ aQ),.d (s.addrs.d aV),.ptr 1 1,.d (u64 c.epoch),.ptr 0 0,?_,base_E.lay _,rfl,by decide,rfl,.inr ⟨rfl,8,some 0,by decide,by decide,rfl,.inr ⟨rfl,rfl⟩,rfl⟩⟩;simp +decide [regV,qR,hd,hcl,ay,ae,aP,aC]
  | cons p l' =>
   have hc2:∀ bs lo,bH 1 false (s.addrs.l.map aV) bs lo=(.row (bs.length+1) 0 s.addrs.l.length none 1,⟨bs++[.cells [],.cells (oZ s.addrs.l)],lo⟩):=λbs lo=>by
    rw [← wY,hll]; simp [bH]
   simp only [hc2] at hcl;rw [← hll];refine ⟨10,.row 9 0 s.addrs.l.length none 1,qR c s++[.cells [],.cells (oZ s.addrs.l),.cells (aP c.epoch (.row 9 0 s.addrs.l.length none 1) aQ aQ aQ aQ)],.agg (aP c.epoch (.row 9 0 s.addrs.l.length none 1) aQ aQ aQ aQ),.d (s.addrs.d aV),.ptr 1 1,.d (u64 c.epoch),.ptr 0 0,?_,base_E.lay _,rfl,by decide,rfl,.inr ⟨rfl,9,none,by decide,by decide,rfl,.inl ⟨rfl,by simp [hll]⟩,rfl⟩⟩;clear hc2 hll;generalize oZ s.addrs.l=us at *;generalize s.addrs.l.length=n at *;simp +decide [regV,qR,hd,hcl,ay,ae,aP,aC]
end
section
theorem CvR.nu {D:Nat}{nl:Bool}{acc:List Int}{bs:List Blk}{v:V}(h:CvR D nl acc bs v):Go.Proofs.YtmakbdpnlfmclaaGreat.nu v=some v:=by
 obtain ⟨_,_,rfl⟩ | ⟨_,b,cap,_,_,rfl,_⟩:=h<;>rfl
theorem OfE.len {c:Cfg}{s:Scp}{bs:List Blk}(h:OfE c s bs):7<bs.length:=aI h.b7
theorem gq {bs bs':List Blk}{x:Nat}{cs:List V}(h:ai bs x=some cs)(ho:bs'[x]?=bs[x]?):ai bs' x=some cs:=by
 unfold ai at h ⊢; rw [ho]; exact h
theorem Cv.lay {c:Cfg}{s:Scp}{D:Nat}{nl:Bool}{acc:List Int}{bs:List Blk}{v:V}(h:Cv c s D nl acc bs v)(ys:List Blk):Cv c s D nl acc (bs++ys) v :=
 ⟨h.env.lay ys,az h.b2,h.d8,az h.d0,by
  obtain h | ⟨h1,b,cap,h2,h3,h4,h5,h6⟩:=h.is
  . exact .inl h
  . exact .inr ⟨h1,b,cap,h2,h3,h4,h5,az h6⟩⟩
theorem Cv.app {c:Cfg}{s:Scp}{D:Nat}{nl:Bool}{acc:List Int}{bs:List Blk}{v:V}(h:Cv c s D nl acc bs v){n:Int}(hl:acc.length<big){r:Nat}(hr:ai bs r=some [.d (u32 n)]) :
 ∃ v' bs',∃ f:Nat->Nat,(∀ lo,dZ ⟨bs,lo⟩ 1 4 v (.row r 0 1 (some 1) 1)=some (v',⟨bs',f lo⟩))/\bs.length<=bs'.length/\nu v'=some v'/\v'.cells=some [v']/\ai bs' D=some (aP c.epoch v aQ aQ aQ aQ) ∧
  Cv c s D false (acc++[n]) (bs'.set D (.cells (aP c.epoch v' aQ aQ aQ aQ))) v':=by
 have hrc:∀ lo,aF ⟨bs,lo⟩ (.row r 0 1 (some 1) 1) 1=some (1,[.d (u32 n)]):=by
  intro lo;simp only [aF,if_true,get_eq,hr];rfl
 have hroom:∀ n,n<=big->roomy n 4=true:=λn hn=>by simp only [roomy,aq,br]; exact ⟨hn,by decide⟩
 have hD:=aI h.d0;have hd8:=h.d8;have hset:∀ {bs':List Blk} {v':V},bs.length<=bs'.length->ai (bs'.set D (.cells (aP c.epoch v' aQ aQ aQ aQ))) D=some (aP c.epoch v' aQ aQ aQ aQ):=λhle=>by
  unfold ai; rw [List.getElem?_set_self (by omega)]
 obtain ⟨h1,rfl,rfl⟩ | ⟨h1,b,cap,h2,h3,rfl,h4,h5⟩:=h.is
 . refine ⟨.row bs.length 0 1 none 1,bs++[.cells [.d (u32 n)]],λlo=>lo,λlo=>by simp only [dZ,hrc,aD,if_neg (show ¬ (1=0) by decide),hroom 1 (by decide),if_true]; rfl,by simp,rfl,rfl,az h.d0,?_,?_,hd8,hset (by simp),.inr ⟨rfl,bs.length,none,by omega,by omega,rfl,.inl ⟨rfl,by simp⟩,?_⟩⟩
   . exact h.env.like λx hx=>by rw [ac (by omega),al (by omega)]
   . exact gq h.b2 (by rw [ac (by omega),al (by omega)])
   . unfold ai; rw [ac (by omega),bk (by omega)]; simp [oZ]
 . have hsub:sub (oZ acc) 0 (acc.length * 1)=some (oZ acc):=bL (by simp [oZ]);obtain ⟨bs',hlen,hA,hold,hnew⟩:∃ bs':List Blk,bs'.length=bs.length+1/\(∃ f:Nat->Nat,∀ lo,dZ ⟨bs,lo⟩ 1 4 (.row b 0 acc.length cap 1) (.row r 0 1 (some 1) 1)=some (.row bs.length 0 (acc.length+1) none 1,⟨bs',f lo⟩))/\(∀ x,x≠b->x<bs.length->bs'[x]?=bs[x]?)/\bs'[bs.length]?=some (.cells (oZ acc++[.d (u32 n)])):=by
    by_cases h0:acc=[]
    . subst h0;refine ⟨bs++[.cells [.d (u32 n)]],by simp,?_,λx _ hx=>by rw [al hx],by simp [oZ]⟩;have hb5:ai bs b=some []:=h5;obtain ⟨_,hh⟩ | ⟨rfl,_⟩:=h4
      . exact absurd rfl hh
      . exact ⟨λlo=>lo,λlo=>by simp [dZ,hrc,aD,hroom 1 (by decide),get_eq,hb5,eT,Hp.size,Hp.alloc]⟩
    . have hcn:cap=none:=by
       obtain ⟨h,_⟩ | ⟨_,h⟩:=h4
       . exact h
       . exact absurd h h0
      subst hcn;have hpos:0<(oZ acc).length:=by simp [oZ]; exact List.length_pos_iff.2 h0
      refine ⟨bs.set b (.cells [])++[.cells (oZ acc++[.d (u32 n)])],by simp,⟨λlo=>min lo b,λlo=>by simp only [dZ,hrc,aD,ne_eq,not_true_eq_false,false_or,if_neg (show ¬ (1=0) by decide),get_eq,h5,hsub,hroom (acc.length+1) (by omega),Bool.not_true,bm,if_false,hpos,and_self,if_true,Hp.size,Hp.alloc,Hp.set]⟩,λx hx hl=>?_,?_⟩
      . rw [al (by simpa using hl),ac (by omega)]
      . rw [bk (by simp)]; simp
   obtain ⟨f,hA⟩:=hA;refine ⟨_,bs',f,hA,by omega,rfl,rfl,gq h.d0 (hold _ (by omega) hD),?_,?_,hd8,hset (by omega),.inr ⟨rfl,bs.length,none,by omega,by omega,by simp,.inl ⟨rfl,by simp⟩,?_⟩⟩
   . exact h.env.like λx hx=>by rw [ac (by omega),hold x (by omega) (by omega)]
   . exact gq h.b2 (by rw [ac (by omega),hold 2 (by omega) (by omega)])
   . unfold ai; rw [ac (by omega),hnew]; simp [oZ]
def vv (c:Cfg)(node:Int)(l:List Svc):List Int:=(l.filter (kX c node)).map Svc.addr
theorem Tw (e:Int)(v w:V):put (aP e v aQ aQ aQ aQ) 1 [w]=some (aP e w aQ aQ aQ aQ):=rfl
theorem Vs (e:Int)(v w2 w3 w4 w5:V):sub (aP e v w2 w3 w4 w5) 1 1=some [v]:=rfl
section
variable {E:Calls'}(h45:∀ c:Cfg,c.ok->∀ n h,E 39 [c.v,.d (u64 n)] h=some (.tup (match xe c n with | some w=>[w.v,bl true] | none=>[way0.v,bl false]),h))
include h45
theorem L64 {c:Cfg}{s:Scp}(hc:c.ok){D:Nat}:∀ (m k:Nat) (acc:List Int) (nl:Bool) (bs:List Blk) (lo:Nat) (v:V),k+m=c.services.l.length->acc.length+m<=big->Cv c s D nl acc bs v →
 ∃ bs' lo' v' nl',Cd E TV aX (.loop [2,4,6,7,8,9,10,11,37,38,39] qC) [(2,.ptr 0 0),(4,.ptr 2 0),(6,.ptr 3 0),(7,.ptr 4 0),(8,.ptr 5 0),(9,.ptr 6 0),(10,.ptr 7 0),(11,.ptr D 0),(37,.d (c.services.d Svc.c)),(38,.d (i64 c.services.l.length)),(39,.d (i64 k))] ⟨bs,lo⟩ =
  some (.exit 0,[(2,.ptr 0 0),(4,.ptr 2 0),(6,.ptr 3 0),(7,.ptr 4 0),(8,.ptr 5 0),(9,.ptr 6 0),(10,.ptr 7 0),(11,.ptr D 0)],⟨bs',lo'⟩) ∧
  Cv c s D nl' (acc++vv c s.node (c.services.l.drop k)) bs' v':=by
 have hlt:=hc.2.1.lt;intro m;have key:=ak (E:=E) (T:=TV) (val:=aX) [2,4,6,7,8,9,10,11,37,38,39] qC;generalize Cd E TV aX (.loop [2,4,6,7,8,9,10,11,37,38,39] qC)=W at key ⊢
 induction m with
 | zero =>
  intro k acc nl bs lo v hk ha hg;have h0:c.services.l.drop k=[]:=ba (by omega);refine ⟨bs,lo,v,nl,?_,by simpa [h0,vv] using hg⟩;rw [key];simp [qC,show ¬ ((k:Int)<c.services.l.length) from by omega]
 | succ m ih =>
  intro k acc nl bs lo v hk ha hg;have h1:k<c.services.l.length:=by omega
  have hx:=λh=>aK (z:=5) h (ab h1) (cells:=Svc.c) rfl;have hw:=aA h1 hlt;have hdr:c.services.l.drop k=c.services.l[k]::c.services.l.drop (k+1):=aw h1;rw [hdr];generalize c.services.l[k]=p at *;have hz:∀ x:Svc,put [V.d (.int .u64 0),.d (.str ⟨#[]⟩),.d (.int .u32 0),.d (.int .i64 0),.d (.int .u64 0)] 0 (x.c.map V.d)=some (x.c.map V.d):=λ_=>rfl;have hfn:=λys=>az (ys:=ys) hg.env.b5;have n1:=λys lo=>Rn (E:=E) h45 (c:=c) (s:=s) (h:=⟨bs++ys,lo⟩) (hg.env.lay ys) hc p;cases hb:kX c s.node p with
  | false =>
   have hg2:=hg.lay [.cells (p.c.map .d)];obtain ⟨bs',lo',v',nl',q1,q2⟩:=ih (k+1) acc nl _ (min lo bs.length) v (by omega) (by omega) hg2;have hgF:vv c s.node (p::c.services.l.drop (k+1))=vv c s.node (c.services.l.drop (k+1)):=by simp [vv,hb]
   rw [hgF];refine ⟨bs',lo',v',nl',?_,q2⟩;rw [key];simp [qC,hx,hw,hz,hfn,n1,hb,show ((k:Int)<c.services.l.length) from by omega];simpa using q1
  | true =>
   have hg2:=hg.lay [.cells (p.c.map .d),.cells [.d (u32 p.addr)]];have hsrc:ai (bs++[.cells (p.c.map .d),.cells [.d (u32 p.addr)]]) (bs.length+1)=some [.d (u32 p.addr)]:=by
    simp only [ai]; rw [bk (by omega)]; simp
   obtain ⟨v2,bs2,f,a1,a2,a3,a6,a4,a5⟩:=hg2.app (by omega) hsrc;obtain ⟨bs',lo',v',nl',q1,q2⟩:=ih (k+1) (acc++[p.addr]) false _ (min (f (min lo bs.length)) D) v2 (by omega) (by simp; omega) a5;have hgF:vv c s.node (p::c.services.l.drop (k+1))=p.addr::vv c s.node (c.services.l.drop (k+1)):=by simp [vv,hb]
   rw [hgF];refine ⟨bs',lo',v',nl',?_,by simpa using q2⟩;have hd3:=λys=>az (ys:=ys) hg.d0;rw [key];simp [qC,hx,hw,hz,hfn,n1,hb,hd3,a1,a4,a6,Tw,Vs,aC,show ((k:Int)<c.services.l.length) from by omega];simpa using q1
end
end
section
structure OfH (E:Calls'):Prop where
 h41:∀ c:Cfg,c.wf 1048576->c.wf big->∀ h,E 6 [c.v] h=some (bl (bG c),h)
 h45:∀ c:Cfg,c.ok->∀ n h,E 39 [c.v,.d (u64 n)] h=some (.tup (match xe c n with | some w=>[w.v,bl true] | none=>[way0.v,bl false]),h)
 h52:∀ (p:Pol) (x:Pod) h,E 59 [p.v,x.v] h=some (bl (mU p x.ns x.service),h)
 h90:∀ c:Cfg,c.ok->∀ h,E 31 [c.v] h=some (c.own.v,h)
 h117:∀ s:Sl Int,short s->∀ n h,E 37 [.d (s.d aV),.d (u32 n)] h=some (bl (fM s.l n),h)
 h136:∀ (bs:List Blk) (b lo n:Nat) (cap:Option Nat),b<bs.length->∀ d:Array Int,d.size=n->n<2 ^ 59->∃ ys lo',E 44 [.row b 0 n cap 1] (Mz .u32 bs b d lo)=some (.tup [],Mr (bs++ys) b ((bD d.toList).map (iv .u32)) lo')
 h136n:∀ h,E 44 [aQ] h=some (.tup [],h)
 h137:∀ (zs:List Int) (b lo:Nat) (cap:Option Nat) (bs:List Blk),b<bs.length->zs.length<2 ^ 62->∃ cur lo',E 45 [.row b 0 zs.length cap 1] (Mr bs b (zs.map (iv .u32)) lo)=some (.row b 0 (cmpL zs).length cap 1,Mr bs b cur lo')/\cur.take (cmpL zs).length=(cmpL zs).map (iv .u32)
 h137n:∀ h,E 45 [aQ] h=some (aQ,h)
def Kp {α:Type}(cells:α->List D)(z D:Nat)(nl:Bool)(l:List α)(bs:List Blk)(v:V):Prop :=
 (nl=true/\l=[]/\v=aQ)\/(nl=false/\∃ B cap rest,8<=B/\B≠D/\v=.row B 0 l.length cap z/\ai bs B=some (flat (l.map cells)++rest))
theorem Kp.kept {α:Type}{cells:α->List D}{z D:Nat}{nl:Bool}{l:List α}{bs:List Blk}{v:V}(h:Kp cells z D nl l bs v):KeptR cells z 8 nl l bs v:=by
 obtain h | ⟨h1,B,cap,rest,h2,_,h3,h4⟩:=h
 . exact .inl h
 . exact .inr ⟨h1,B,cap,rest,h2,h3,h4⟩
theorem Kp.like {α:Type}{cells:α->List D}{z D:Nat}{nl:Bool}{l:List α}{bs bs':List Blk}{v:V}(h:Kp cells z D nl l bs v)(ho:∀ x,8<=x->x≠D->x<bs.length->bs'[x]?=bs[x]?):Kp cells z D nl l bs' v:=by
 obtain h | ⟨h1,B,cap,rest,h2,h3,h4,h5⟩:=h
 . exact .inl h
 . exact .inr ⟨h1,B,cap,rest,h2,h3,h4,gq h5 (ho B h2 h3 (aI h5))⟩
theorem Kp.of {α:Type}{cells:α->List D}{z D n:Nat}{nl:Bool}{l:List α}{bs:List Blk}{v:V}(h:KeptR cells z n nl l bs v)(h8:8<=n)(hD:D<n):Kp cells z D nl l bs v:=by
 obtain h | ⟨h1,B,cap,rest,h2,h3,h4⟩:=h
 . exact .inl h
 . exact .inr ⟨h1,B,cap,rest,by omega,by omega,h3,h4⟩
theorem KeptR.cells {α:Type}{cells:α->List D}{z n:Nat}{nl:Bool}{l:List α}{bs:List Blk}{v:V}(h:KeptR cells z n nl l bs v):v.cells=some [v]:=by
 obtain ⟨_,_,rfl⟩ | ⟨_,B,cap,rest,_,rfl,_⟩:=h<;>rfl
structure Vst (c:Cfg) (s:Scp) (D:Nat) (bs:List Blk) (v1 v2 v3 v4 v5:V):Prop where
 env:OfE c s bs
 b2:ai bs 2=some [.d (.int .u64 0),aQ,aQ,aQ,aQ,aQ]
 d8:8<=D
 d0:ai bs D=some (aP c.epoch v1 v2 v3 v4 v5)
section
variable {c:Cfg}{s:Scp}{D:Nat}{bs:List Blk}{v1 v2 v3 v4 v5:V}
theorem Vst.grow (h:Vst c s D bs v1 v2 v3 v4 v5){bs':List Blk}(ho:∀ x,x<bs.length->bs'[x]?=bs[x]?):Vst c s D bs' v1 v2 v3 v4 v5 :=
 ⟨h.env.like λx hx=>ho x (by have:=h.env.len; omega),gq h.b2 (ho 2 (by have:=h.env.len; omega)),h.d8,gq h.d0 (ho D (aI h.d0))⟩
theorem Vst.put (h:Vst c s D bs v1 v2 v3 v4 v5)(w1 w2 w3 w4 w5:V):Vst c s D (bs.set D (.cells (aP c.epoch w1 w2 w3 w4 w5))) w1 w2 w3 w4 w5:=by
 have h8:=h.d8;refine ⟨h.env.like λx hx=>by rw [ac (by omega)],gq h.b2 (by rw [ac (by omega)]),h8,?_⟩;unfold ai; rw [List.getElem?_set_self (aI h.d0)]
theorem Kp.step {α:Type}{cells:α->List Go.Proofs.YtmakbdpnlfmclaaGreat.D}{z:Nat}{nl:Bool}{l:List α}{v:V}(h:Kp cells z D nl l bs v){bs':List Blk}(ho:∀ x,x<bs.length->bs'[x]?=bs[x]?)(b:Blk):Kp cells z D nl l (bs'.set D b) v :=
 h.like λx _ h2 h3=>by rw [ac (by omega),ho x h3]
variable {E:Calls'}(H:OfH E)
include H
theorem XH {nl:Bool}{acc:List Int}{v:V}(h:Cv c s D nl acc bs v)(ha:acc.length<2 ^ 59)(lo:Nat):∃ bs2 lo2,E 44 [v] ⟨bs,lo⟩=some (.tup [],⟨bs2,lo2⟩)/\Cv c s D nl (bD acc) bs2 v:=by
 have hd8:=h.d8;have hD:=aI h.d0;obtain ⟨h1,rfl,rfl⟩ | ⟨h1,b,cap,h2,h3,rfl,h4,h5⟩:=h.is
 . refine ⟨bs,lo,H.h136n _,h.env,h.b2,h.d8,h.d0,.inl ⟨h1,List.length_eq_zero_iff.1 (by rw [bD,List.length_mergeSort]; rfl),rfl⟩⟩
 . have hbl:=aI h5;have hM:Mz .u32 bs b ⟨acc⟩ lo=⟨bs,lo⟩:=Ed h5;obtain ⟨ys,lo',k⟩:=H.h136 bs b lo acc.length cap hbl ⟨acc⟩ rfl ha;rw [hM] at k;have hsl:(bD acc).length=acc.length:=by rw [bD,List.length_mergeSort]
   have hold:∀ x,x≠b->x<bs.length->(Mr (bs++ys) b ((bD acc).map (iv .u32)) lo').bs[x]?=bs[x]?:=λx hx hl=>by
    simp only [Mr]; rw [ac (by omega),al hl]
   refine ⟨_,lo',k,h.env.like λx hx=>hold x (by omega) (by omega),gq h.b2 (hold 2 (by omega) (by omega)),hd8,gq h.d0 (hold D (by omega) hD),.inr ⟨h1,b,cap,h2,h3,by rw [hsl],?_,?_⟩⟩
   . obtain ⟨h4,h6⟩ | ⟨h4,h6⟩:=h4
     . exact .inl ⟨h4,λh0=>h6 (List.length_eq_zero_iff.1 (by rw [← hsl,h0]; rfl))⟩
     . exact .inr ⟨h4,List.length_eq_zero_iff.1 (by rw [hsl,h6]; rfl)⟩
   . have:ai (Mr (bs++ys) b ((bD acc).map (iv .u32)) lo').bs b=_:=sH (by simp; omega);exact this
theorem IZ {nl:Bool}{acc:List Int}{v:V}(h:Cv c s D nl acc bs v)(ha:acc.length<2 ^ 62)(lo:Nat) :
 ∃ v' bs2 lo2,E 45 [v] ⟨bs,lo⟩=some (v',⟨bs2,lo2⟩)/\Vst c s D bs2 v aQ aQ aQ aQ/\Kp aV 1 D nl (cmpL acc) bs2 v':=by
 have hd8:=h.d8;have hD:=aI h.d0;obtain ⟨h1,rfl,rfl⟩ | ⟨h1,b,cap,h2,h3,rfl,h4,h5⟩:=h.is
 . exact ⟨aQ,bs,lo,H.h137n _,⟨h.env,h.b2,h.d8,h.d0⟩,.inl ⟨h1,rfl,rfl⟩⟩
 . have hbl:=aI h5;have hM:Mr bs b (acc.map (iv .u32)) lo=⟨bs,lo⟩:=Ed h5;obtain ⟨cur,lo',k,hc⟩:=H.h137 acc b lo cap bs hbl ha;rw [hM] at k;have hold:∀ x,x≠b->x<bs.length->(Mr bs b cur lo').bs[x]?=bs[x]?:=λx hx hl=>by
    simp only [Mr]; rw [ac (by omega)]
   refine ⟨_,_,lo',k,⟨h.env.like λx hx=>hold x (by omega) (by omega),gq h.b2 (hold 2 (by omega) (by omega)),hd8,gq h.d0 (hold D (by omega) hD)⟩,.inr ⟨h1,b,cap,cur.drop (cmpL acc).length,h2,h3,rfl,?_⟩⟩;have hg:ai (Mr bs b cur lo').bs b=_:=sH hbl;refine hg.trans ?_;rw [wY];have:oZ (cmpL acc)=cur.take (cmpL acc).length:=hc.symm;rw [this,List.take_append_drop]
theorem Vk1 (h:Vst c s D bs v1 v2 v3 v4 v5)(hc:c.ok)(hs:short s.addrs)(lo:Nat) :
 ∃ r bs' lo',Sm E TV aX 46 [.d (c.pods.d Pod.c),.fn 47 [.ptr 7 0,.ptr 4 0,.ptr 6 0]] ⟨bs,lo⟩=some (r,⟨bs',lo'⟩)/\bs.length<=bs'.length/\(∀ x,x<bs.length->bs'[x]?=bs[x]?)/\KeptR Pod.c 7 bs.length c.pods.nl (ng c s) bs' r :=
 yJ (E:=E) (cells:=Pod.c) ak9 ao9 ak8 ao8 L6 Ma an6 ar4 am0 ap8 (λ_=>rfl) (by decide) rfl (by decide) hc.1 (q:=wJ c s) λe _ bs2 lo2 h1 h2 =>
  bn0 H.h45 H.h117 (h:=⟨bs2,lo2⟩) (h.grow (by simpa using h2)).env hc hs e
theorem Vk2 (h:Vst c s D bs v1 v2 v3 v4 v5)(hc:c.ok)(hs:short s.addrs){nl:Bool}(hr:Kp Pod.c 7 D nl (ng c s) bs v2)(lo:Nat) :
 ∃ r bs' lo',Sm E TV aX 49 [.d (c.services.d Svc.c),.fn 50 [.ptr 4 0,.ptr 5 0,.ptr D 0]] ⟨bs,lo⟩=some (r,⟨bs',lo'⟩)/\bs.length<=bs'.length/\(∀ x,x<bs.length->bs'[x]?=bs[x]?)/\KeptR Svc.c 5 bs.length c.services.nl (ni c s) bs' r:=by
 have hl:(ng c s).length<2 ^ 62:=by have:=List.length_filter_le (wJ c s) c.pods.l; have:=hc.1.lt; simp only [ng]; omega
 exact yJ (E:=E) (cells:=Svc.c) an3 ar1 an7 ar5 L8 Mc an8 ar6 am3 aq1 (λ_=>rfl) (by decide) rfl (by decide) hc.2.1 (q:=Ck c s) λe _ bs2 lo2 h1 h2=>by
  have hg:=h.grow (bs':=bs2) (by simpa using h2);exact bn2 H.h45 H.h117 (h:=⟨bs2,lo2⟩) hg.env hc hs hg.d0 hl ((hr.like λx _ _ h3=>h2 x h3).kept.rowIs λ_=>rfl) e
omit H in
theorem Vk3 (h:Vst c s D bs v1 v2 v3 v4 v5)(hc:c.ok){nl:Bool}(hr:Kp Svc.c 5 D nl (ni c s) bs v3)(lo:Nat) :
 ∃ r bs' lo',Sm E TV aX 53 [.d (c.bound.d Way.c),.fn 54 [.ptr 3 0,.ptr D 0]] ⟨bs,lo⟩=some (r,⟨bs',lo'⟩)/\bs.length<=bs'.length/\(∀ x,x<bs.length->bs'[x]?=bs[x]?)/\KeptR Way.c 2 bs.length c.bound.nl (wD c s) bs' r:=by
 have hl:(ni c s).length<2 ^ 62:=by have:=List.length_filter_le (Ck c s) c.services.l; have:=hc.2.1.lt; simp only [ni]; omega
 exact yJ (E:=E) (cells:=Way.c) an4 ar2 an9 ar7 al0 ap0 ao0 ar8 am6 aq4 (λ_=>rfl) (by decide) rfl (by decide) hc.2.2.1 (q:=FU c s) λe _ bs2 lo2 h1 h2=>by
  have hg:=h.grow (bs':=bs2) (by simpa using h2);exact bn4 (h:=⟨bs2,lo2⟩) hg.env hg.d0 hl ((hr.like λx _ _ h3=>h2 x h3).kept.rowIs λ_=>rfl) e
theorem Vk4 (h:Vst c s D bs v1 v2 v3 v4 v5)(hc:c.ok)(lo:Nat) :
 ∃ r bs' lo',Sm E TV aX 56 [.d (c.policies.d Pol.c),.fn 57 [.ptr 0 0,.ptr 7 0]] ⟨bs,lo⟩=some (r,⟨bs',lo'⟩)/\bs.length<=bs'.length/\(∀ x,x<bs.length->bs'[x]?=bs[x]?)/\KeptR Pol.c 5 bs.length c.policies.nl (c.policies.l.filter (wK c s.node)) bs' r :=
 yJ (E:=E) (cells:=Pol.c) an5 ar3 ao1 ar9 ao5 as4 ao2 as0 am9 aq7 (λ_=>rfl) (by decide) rfl (by decide) hc.2.2.2.1 (q:=wK c s.node) λe _ bs2 lo2 h1 h2 =>
  bn6 H.h45 H.h52 (h:=⟨bs2,lo2⟩) (h.grow (by simpa using h2)).env hc e
end
end
section
def vw0:Vw:=⟨0,⟨true,[]⟩,⟨true,[]⟩,⟨true,[]⟩,⟨true,[]⟩,⟨true,[]⟩⟩
theorem bo1 {E:Calls'}(H:OfH E){c:Cfg}(hc:c.wf 1048576)(hcb:c.wf big){s:Scp}(hs:short s.addrs)(hno:(bG c&&bJ s)=false)(h:Hp) :
 Sm E TV aX 15 [c.v,s.v] h=some (.tup [vw0.v,.d (i64 1)],h):=by
 have e1:∀ h,Sm E TV aX 6 [c.v] h=some (bl (bG c),h):=λh=>by rw [aL ao6]; exact H.h41 c hc hcb h
 have e2:=λh=>V67 (E:=E) H.h117 hs h;rw [aN ao7 as5];cases m1:bG c with
 | false=>simp +decide [aa,q64,e1,m1]; rfl
 | true =>
  have m2:bJ s=false:=by simpa [m1] using hno
  simp +decide [aa,q64,e1,e2,m1,m2]; rfl
theorem V64 {E:Calls'}(H:OfH E){c:Cfg}(hc:c.wf 1048576)(hcb:c.wf big)(hok:c.ok)(hoo:c.own.ok){s:Scp}(hs:short s.addrs)(h1:bG c=true)(h2:bJ s=true)(hsz:s.addrs.l.length+c.services.l.length<=big) :
 ∃ nl,(nl=true->eB c s=[])/\∀ h,Sm E TV aX 15 [c.v,s.v] h=some (.tup [(ofT c s ⟨nl,eB c s⟩).v,.d (i64 0)],h):=by
 have e1:∀ h,Sm E TV aX 6 [c.v] h=some (bl true,h):=λh=>by rw [aL ao6,← h1]; exact H.h41 c hc hcb h
 have e2:∀ h,Sm E TV aX 27 [s.v] h=some (bl true,h):=λh=>by rw [← h2]; exact V67 (E:=E) H.h117 hs h
 have e3:∀ h,Sm E TV aX 31 [c.v] h=some (c.own.v,h):=λh=>by rw [aL dx9]; exact H.h90 c hok h
 have n136:∀ args h,Sm E TV aX 44 args h=E 44 args h:=λargs h=>by rw [aL al8]
 have n137:∀ args h,Sm E TV aX 45 args h=E 45 args h:=λargs h=>by rw [aL al9]
 have hz:∀ x:Cfg,put (c.c.map V.d) 0 (x.c.map V.d)=some (x.c.map V.d):=λ_=>rfl;have hfc:∀ f caps,(V.fn f caps).cells=some [V.fn f caps]:=λ_ _=>rfl;obtain ⟨D,v,bs,x35,x33,x32,x31,x30,p1,p2⟩:=bo2 (E:=E) (c:=c.own) hs (.fn 43 [.ptr 1 0,.ptr 6 0,.ptr 5 0]) (.fn 35 [.ptr 1 0]) (.fn 36 [.ptr 1 0]) (.fn 38 [.ptr 0 0,.ptr 3 0]) (.fn 40 [.ptr 0 0]) c.own.v (ag c.c) (.d (.bool false)) (.d (.bool false)) (bl true) (ag s.c) (.d (.bool false)) (.d (.bool false)) (bl true) (ag c.c) (.d (.int .i64 0)) (.ptr 2 0) (.ptr 3 0) (.ptr 4 0) (.ptr 5 0) (.ptr 6 0) (.ptr 7 0) (ag c.c) (ag s.c);simp only [regV,qR,aQ] at p1;obtain ⟨bs1,lo1,v',nl,l1,l2⟩:=L64 H.h45 (s:=s) hoo c.services.l.length 0 s.addrs.l s.addrs.nl bs 0 v (by simp [Cfg.own]) (by omega) p2;simp only [List.drop_zero] at l2;rw [show ((0:Nat):Int)=0 from rfl] at l1;have hlen:(s.addrs.l++vv c.own s.node c.own.services.l).length<2 ^ 59:=by
  have:(vv c.own s.node c.own.services.l).length<=c.services.l.length:=by
   simp only [vv,bx]; exact List.length_filter_le _ _
  rw [am];have hb:big<2 ^ 59:=by decide
  omega
 obtain ⟨bs2,lo2,s1,s2⟩:=XH H l2 hlen lo1;obtain ⟨w1,bs3,lo3,c1,c2,c3⟩:=IZ H s2 (by rw [bD,List.length_mergeSort]; omega) lo2;refine ⟨nl,?_,?_⟩
 . intro hnl;obtain ⟨_,h0,_⟩ | ⟨h0,_⟩:=c3
   . exact h0
   . rw [hnl] at h0; cases h0
 have d3:=c2.put w1 aQ aQ aQ aQ;have k3:=c3.step (λ_ _=>rfl) (.cells (aP c.own.epoch w1 aQ aQ aQ aQ));obtain ⟨w2,bs4,lo4,g1,g2,g3,g4⟩:=Vk1 H d3 hoo hs (min lo3 D);have d4:=(d3.grow g3).put w1 w2 aQ aQ aQ;have k4:=k3.step g3 (.cells (aP c.own.epoch w1 w2 aQ aQ aQ));have hD3:=aI d3.d0;have hd8:=d3.d8;have a4:=(Kp.of g4 (by omega) hD3).step (λ_ _=>rfl) (.cells (aP c.own.epoch w1 w2 aQ aQ aQ));obtain ⟨w3,bs5,lo5,i1,i2,i3,i4⟩:=Vk2 H d4 hoo hs a4 (min lo4 D);have d5:=(d4.grow i3).put w1 w2 w3 aQ aQ;have hD4:=aI d4.d0;have k5:=k4.step i3 (.cells (aP c.own.epoch w1 w2 w3 aQ aQ));have a5:=a4.step i3 (.cells (aP c.own.epoch w1 w2 w3 aQ aQ));have b5:=(Kp.of i4 (by omega) hD4).step (λ_ _=>rfl) (.cells (aP c.own.epoch w1 w2 w3 aQ aQ));obtain ⟨w4,bs6,lo6,j1,j2,j3,j4⟩:=Vk3 (E:=E) d5 hoo b5 (min lo5 D);have d6:=(d5.grow j3).put w1 w2 w3 w4 aQ;have hD5:=aI d5.d0;have k6:=k5.step j3 (.cells (aP c.own.epoch w1 w2 w3 w4 aQ));have a6:=a5.step j3 (.cells (aP c.own.epoch w1 w2 w3 w4 aQ));have b6:=b5.step j3 (.cells (aP c.own.epoch w1 w2 w3 w4 aQ));have c6:=(Kp.of j4 (by omega) hD5).step (λ_ _=>rfl) (.cells (aP c.own.epoch w1 w2 w3 w4 aQ));obtain ⟨w5,bs7,lo7,m1,m2,m3,m4⟩:=Vk4 H d6 hoo (min lo6 D);have d7:=(d6.grow m3).put w1 w2 w3 w4 w5;have hD6:=aI d6.d0;have k7:=k6.step m3 (.cells (aP c.own.epoch w1 w2 w3 w4 w5))
 have a7:=a6.step m3 (.cells (aP c.own.epoch w1 w2 w3 w4 w5));have b7:=b6.step m3 (.cells (aP c.own.epoch w1 w2 w3 w4 w5));have c7:=c6.step m3 (.cells (aP c.own.epoch w1 w2 w3 w4 w5));have e7:=(Kp.of m4 (by omega) hD6).step (λ_ _=>rfl) (.cells (aP c.own.epoch w1 w2 w3 w4 w5));have hfin:∀ lo,eZ ⟨((bs7.set D (.cells (aP c.own.epoch w1 w2 w3 w4 w5))).set 2 (.cells (aP c.own.epoch w1 w2 w3 w4 w5))),lo⟩ (aP c.own.epoch w1 w2 w3 w4 w5)=some (ofT c s ⟨nl,eB c s⟩).c:=by
  intro lo;have st:∀ x,8<=x->x≠D->x<(bs7.set D (Blk.cells (aP c.own.epoch w1 w2 w3 w4 w5))).length->((bs7.set D (Blk.cells (aP c.own.epoch w1 w2 w3 w4 w5))).set 2 (.cells (aP c.own.epoch w1 w2 w3 w4 w5)))[x]?=(bs7.set D (Blk.cells (aP c.own.epoch w1 w2 w3 w4 w5)))[x]?:=λx hx _ _=>by rw [ac (by omega)]
  have r1:=KeptR.dat (cells:=aV) (z:=1) (λ_=>rfl) (k7.like st).kept lo 7;have r2:=KeptR.dat (cells:=Pod.c) (z:=7) (λ_=>rfl) (a7.like st).kept lo 7;have r3:=KeptR.dat (cells:=Svc.c) (z:=5) (λ_=>rfl) (b7.like st).kept lo 7;have r4:=KeptR.dat (cells:=Way.c) (z:=2) (λ_=>rfl) (c7.like st).kept lo 7;have r5:=KeptR.dat (cells:=Pol.c) (z:=5) (λ_=>rfl) (e7.like st).kept lo 7;simp only [aP] at r1 r2 r3 r4 r5 ⊢;simp only [eZ,List.mapM_cons,List.mapM_nil,r1,r2,r3,r4,r5];rfl
 have sv0:∀ e v1 v2 v3 v4 v5,sub (aP e v1 v2 v3 v4 v5) 0 6=some (aP e v1 v2 v3 v4 v5):=λ_ _ _ _ _ _=>rfl;have sv1:∀ e v1 v2 v3 v4 v5,sub (aP e v1 v2 v3 v4 v5) 1 1=some [v1]:=λ_ _ _ _ _ _=>rfl;have pu1:∀ e v1 v2 v3 v4 v5 w,put (aP e v1 v2 v3 v4 v5) 1 [w]=some (aP e w v2 v3 v4 v5):=λ_ _ _ _ _ _ _=>rfl;have pu2:∀ e v1 v2 v3 v4 v5 w,put (aP e v1 v2 v3 v4 v5) 2 [w]=some (aP e v1 w v3 v4 v5):=λ_ _ _ _ _ _ _=>rfl;have pu3:∀ e v1 v2 v3 v4 v5 w,put (aP e v1 v2 v3 v4 v5) 3 [w]=some (aP e v1 v2 w v4 v5):=λ_ _ _ _ _ _ _=>rfl;have pu4:∀ e v1 v2 v3 v4 v5 w,put (aP e v1 v2 v3 v4 v5) 4 [w]=some (aP e v1 v2 v3 w v5):=λ_ _ _ _ _ _ _=>rfl;have pu5:∀ e v1 v2 v3 v4 v5 w,put (aP e v1 v2 v3 v4 v5) 5 [w]=some (aP e v1 v2 v3 v4 w):=λ_ _ _ _ _ _ _=>rfl;have pz:∀ e v1 v2 v3 v4 v5,put [V.d (.int .u64 0),.d (.slice true []),.d (.slice true []),.d (.slice true []),.d (.slice true []),.d (.slice true [])] 0 (aP e v1 v2 v3 v4 v5)=some (aP e v1 v2 v3 v4 v5):=λ_ _ _ _ _ _=>rfl;have vl:∀ e v1 v2 v3 v4 v5,(aP e v1 v2 v3 v4 v5).length=6:=λ_ _ _ _ _ _=>rfl;have u1:=k7.kept.nu.1;have u2:=a7.kept.nu.1;have u3:=b7.kept.nu.1;have u4:=c7.kept.nu.1;have u5:=e7.kept.nu.1;have o1:=k7.kept.cells;have o2:=a7.kept.cells;have o3:=b7.kept.cells;have o4:=c7.kept.cells;have o5:=e7.kept.cells;have uv:=l2.is.nu;have q0:okV v'=true:=by obtain ⟨_,_,rfl⟩ | ⟨_,b,cap,_,_,rfl,_⟩:=l2.is<;>rfl
 have q1:=k7.kept.nu.2;have q2:=a7.kept.nu.2;have q3:=b7.kept.nu.2;have q4:=c7.kept.nu.2;have q5:=e7.kept.nu.2;have y1:=l2.d0;have y2:=s2.d0;have y3:=c2.d0;have y4:=(d3.grow g3).d0;have y5:=(d4.grow i3).d0;have y6:=(d5.grow j3).d0;have y7:=(d6.grow m3).d0;have y8:=d7.d0;have y9:=d7.b2;have y10:ai ((bs7.set D (.cells (aP c.own.epoch w1 w2 w3 w4 w5))).set 2 (.cells (aP c.own.epoch w1 w2 w3 w4 w5))) 2=some (aP c.own.epoch w1 w2 w3 w4 w5):=by
  have:=aI y9;unfold ai; rw [List.getElem?_set_self this]
 have ht3:=d3.env.b0;have ht4:=d4.env.b0;have ht5:=d5.env.b0;have ht6:=d6.env.b0;have hpb:=p2.env.b0;have hlc:(ofT c s ⟨nl,eB c s⟩).v=.agg ((ofT c s ⟨nl,eB c s⟩).c.map .d):=rfl;have hz8:∀ x:Cfg,x.c.length=8:=λ_=>rfl;intro h;rw [aN ao7 as5];simp +decide [aa,q64,e1,e2,e3,hz,hfc,p1,hpb];rw [aj];simp +decide [l1,y1,y2,y3,y4,y5,y6,y7,y8,y9,y10,ht3,ht4,ht5,ht6,sv0,sv1,pu1,pu2,pu3,pu4,pu5,pz,vl,o1,o2,o3,o4,o5,q0,n136,n137,s1,c1,g1,i1,j1,m1,hfin]
end
section
end
