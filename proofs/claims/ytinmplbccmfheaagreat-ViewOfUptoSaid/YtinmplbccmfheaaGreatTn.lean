/- Sorting numbers in place: pdqsort's round. -/
import Derived.Test.YtinmplbccmfheaaGreatTe
import Derived.Sort.LotD3
import Derived.Sort.LotA
import Derived.Sort.LotB
import Derived.Sort.LotD1
set_option maxRecDepth 100000
set_option linter.unusedVariables false
set_option linter.unusedSimpArgs false
namespace Go.Proofs.YtinmplbccmfheaaGreat
open IntKind (wrap)
section
open Go.Sort (swp ltInt PermIn SortedIn Below SWO permIn_trans permIn_refl partition partitionEqual partialInsertionSort choosePivot reverseRange round_eq round_part partition_holds partitionEqual_holds Hint)
def CP:QC:=(.seq (.seq (.reg (some [[],[0],[1,0],[2,1,0],[2,1,0],[4,2,1,0],[3,5,4,2,1,0],[6,3,5,4,2,1,0],[2,1,0],[2,1,0],[8,9,2,1,0],[10,8,9,2,1,0],[7,6,3,5,4,11,10,8,9,2,1,0],[12,7,6,3,5,4,11,10,8,9,2,1,0],[13,12,7,6,3,5,4,11,10,8,9,2,1,0]]) [mv 73 1,op 74 (bc .gtr 73 0),mv 75 74,ot 75 76 (.mov (.t 0)),ot 75 77 (.mov (.t 1)),ot 75 78 (bc .sub 77 1),ot 75 79 (ia 1 76 78),ot 75 80 (l1' 79),ot 75 81 (.mov (.t 0)),ot 75 82 (.mov (.t 11)),ot 75 83 (ia 1 81 82),ot 75 84 (l1' 83),ot 75 85 (kc' 120 [.t 80,.t 84]),ot 75 86 (.un .not (.t 85)),op 87 (.pick (.t 75) (.t 86) (.c zb))]) (.cond (.t 87) (sr [mv 88 0,mv 89 1,mv 90 2,mv 91 11,op 92 (kc' 121 [.t 88,.t 89,.t 90,.t 91]),mv 13 92] (sr [mv 93 13,mv 1 93] (.exit 1 [0,1,2,3,8,9]))) .skip)) (sr [mv 95 0,mv 96 1,mv 97 2,mv 98 11,op 99 (kc' 122 [.t 95,.t 96,.t 97,.t 98]),mv 94 99,op 100 (.ext (.t 94) 0),op 101 (.ext (.t 94) 1),mv 14 100,mv 15 101] (sr [mv 102 15,mv 9 102] (sr [mv 103 14,mv 104 1,op 105 (bt .sub 103 104),mv 106 2,mv 107 14,op 108 (bt .sub 106 107),mv 16 105,mv 17 108] (sr [mv 109 10,op 110 (bc .quo 109 8),mv 18 110] (sr [mv 111 16,mv 112 17,op 113 (bt .lss 111 112)] (.cond (.t 113) (sr [mv 114 16,mv 115 18,op 116 (bt .geq 114 115),mv 8 116] (sr [mv 117 0,mv 118 1,mv 119 14,mv 120 3,op 121 (kc' 79 [.t 117,.t 118,.t 119,.t 120])] (.reg none [mv 122 14,op 123 (bc .add 122 1),mv 1 123]))) (sr [mv 124 17,mv 125 18,op 126 (bt .geq 124 125),mv 8 126] (sr [mv 127 0,mv 128 14,op 129 (bc .add 128 1),mv 130 2,mv 131 3,op 132 (kc' 79 [.t 127,.t 129,.t 130,.t 131])] (.reg none [mv 133 14,mv 2 133]))))))))))
def CO:QC:=(.seq (sr [mv 61 8,mv 62 61,ot 62 63 (.mov (.t 9)),op 64 (.pick (.t 62) (.t 63) (.c zb)),mv 65 64,ot 65 66 (.mov (.t 12)),ot 65 67 (.eq (.sc (.i .i64)) false (.t 66) (ci 1)),op 68 (.pick (.t 65) (.t 67) (.c zb))] (.cond (.t 68) (sr [mv 69 0,mv 70 1,mv 71 2,op 72 (kc' 119 [.t 69,.t 70,.t 71])] (.cond (.t 72) (.ret []) .skip)) .skip)) CP)
def Kb:QC:=(sr [mv 43 0,mv 44 1,mv 45 2,op 46 (kc' 117 [.t 43,.t 44,.t 45]),mv 42 46,op 47 (.ext (.t 42) 0),op 48 (.ext (.t 42) 1),mv 11 47,mv 12 48] (.seq (sr [mv 49 12,op 50 (.eq (.sc (.i .i64)) false (.t 49) (ci 2))] (.cond (.t 50) (sr [mv 51 0,mv 52 1,mv 53 2,op 54 (kc' 118 [.t 51,.t 52,.t 53])] (sr [mv 55 2,op 56 (bc .sub 55 1),mv 57 11,mv 58 1,op 59 (bt .sub 57 58),op 60 (bt .sub 56 59),mv 11 60] (.reg none [oc' 12 1]))) .skip)) CO))
theorem Kc:nG=.block 1 (.seq (.reg none [⟨none,some 19,.mov (.t 2)⟩,⟨none,some 20,.mov (.t 1)⟩,⟨none,some 21,.bin .sub (.t 19) (.t 20)⟩,⟨none,some 10,.mov (.t 21)⟩]) (.seq (.seq (.reg none [⟨none,some 22,.mov (.t 10)⟩,⟨none,some 23,.bin .leq (.t 22) (.c (.d (.int .i64 12)))⟩]) (.cond (.t 23) (.seq (.reg none [⟨none,some 24,.mov (.t 0)⟩,⟨none,some 25,.mov (.t 1)⟩,⟨none,some 26,.mov (.t 2)⟩,⟨none,some 27,.call (.c (.fn 114 [])) [.t 24,.t 25,.t 26]⟩]) (.ret [])) .skip)) (.seq (.seq (.reg none [⟨none,some 28,.mov (.t 3)⟩,⟨none,some 29,.eq (.sc (.i .i64)) false (.t 28) (.c (.d (.int .i64 0)))⟩]) (.cond (.t 29) (.seq (.reg none [⟨none,some 30,.mov (.t 0)⟩,⟨none,some 31,.mov (.t 1)⟩,⟨none,some 32,.mov (.t 2)⟩,⟨none,some 33,.call (.c (.fn 115 [])) [.t 30,.t 31,.t 32]⟩]) (.ret [])) .skip)) (.seq (.seq (.reg none [⟨none,some 34,.mov (.t 8)⟩,⟨none,some 35,.un .not (.t 34)⟩]) (.cond (.t 35) (.seq (.reg none [⟨none,some 36,.mov (.t 0)⟩,⟨none,some 37,.mov (.t 1)⟩,⟨none,some 38,.mov (.t 2)⟩,⟨none,some 39,.call (.c (.fn 116 [])) [.t 36,.t 37,.t 38]⟩]) (.reg none [⟨none,some 40,.mov (.t 3)⟩,⟨none,some 41,.bin .sub (.t 40) (.c (.d (.int .i64 1)))⟩,⟨none,some 3,.mov (.t 41)⟩])) .skip)) Kb)))):=rfl
theorem T9:TS 79=some Hu:=by kernel_rfl
theorem Um:aW 79=false:=by kernel_rfl
theorem Io:SWO ltInt:=⟨λx=>by simp [ltInt],λx y z h1 h2=>by simp [ltInt] at *; omega,λx y z h1 h2=>by simp [ltInt] at *; omega⟩
def Kq (b lo:Nat)(d:Array Int)(ys:List Blk)(lo':Nat)(d':Array Int):Prop:=lo'<=b\/(d'=d/\ys=[]/\lo'=lo)
theorem Kq.of {b lo lo':Nat}{d d':Array Int}(h:Kz b lo d lo' d'):Kq b lo d [] lo' d':=by
 obtain h | ⟨h1,h2⟩:=h
 . exact .inl h
 . exact .inr ⟨h1,rfl,h2⟩
theorem Kq.trans {b lo lo' lo'':Nat}{d d' d'':Array Int}{ys zs:List Blk}(h:Kq b lo d ys lo' d')(k:Kq b lo' d' zs lo'' d''):Kq b lo d (ys++zs) lo'' d'':=by
 obtain k | ⟨rfl,rfl,rfl⟩:=k
 . exact .inl k
 . obtain h | ⟨rfl,rfl,rfl⟩:=h
   . exact .inl h
   . exact .inr ⟨rfl,rfl,rfl⟩
def Fq (E:Calls')(b n:Nat)(cap:Option Nat)(lim x y:Nat):Prop:=∀ (bs:List Blk) (d:Array Int) (lo:Nat),b<bs.length->x<=y->y<=n->d.size=n->Below ltInt x y d →
 ∃ ys d' lo',Sm E TS aW 79 [.row b 0 n cap 1,.d (i64 x),.d (i64 y),.d (i64 lim)] (Mz .u32 bs b d lo)=some (.tup [],Mz .u32 (bs++ys) b d' lo')/\PermIn x y d d'/\SortedIn ltInt x y d'/\Kq b lo d ys lo' d'
def Round (E:Calls')(b n:Nat)(cap:Option Nat)(lim a e:Nat)(bs:List Blk)(d:Array Int)(lo:Nat)(o:fM):Prop :=
 (∃ ys d' lo',o=some (.ret,[],Mz .u32 (bs++ys) b d' lo')/\PermIn a e d d'/\SortedIn ltInt a e d'/\Kq b lo d ys lo' d') ∨
 (∃ (a2 e2:Nat) (wb2 wp2:Bool) (ys:List Blk) (d2:Array Int) (lo2:Nat),(∀ W,dK [0,1,2,3,8,9] W (leave 1 o)=W [(0,.row b 0 n cap 1),(1,.d (i64 a2)),(2,.d (i64 e2)),(3,.d (i64 lim)),(8,bl wb2),(9,bl wp2)] (Mz .u32 (bs++ys) b d2 lo2)) ∧
  a2<=e2/\e2<=e/\e2-a2<e-a/\d2.size=n/\Below ltInt a2 e2 d2/\(∀ R,PermIn a2 e2 d2 R->SortedIn ltInt a2 e2 R->PermIn a e d R/\SortedIn ltInt a e R)/\Kq b lo d ys lo2 d2)
section
variable {E:Calls'}(h334:∀ x y h,E 120 [.d (u32 x),.d (u32 y)] h=some (bl (ltInt x y),h))
include h334
theorem Hg {bs:List Blk}{b:Nat}(hb:b<bs.length){n a e p lim:Nat}(hn:n<2 ^ 59)(ha:a+12<e)(he:e<=n)(hp1:a<=p)(hp2:p<e){cap:Option Nat}(d:Array Int)(lo:Nat)(hd:d.size=n)(hB:Below ltInt a e d)(wb wp:Bool)
 (hrec:∀ x y,y-x<e-a->Fq E b n cap lim x y) {ev:EA} (g0:ev.get 0=.row b 0 n cap 1) (g1:ev.get 1=.d (i64 a)) (g2:ev.get 2=.d (i64 e)) (g3:ev.get 3=.d (i64 lim)) (g8:ev.get 8=bl wb) (g9:ev.get 9=bl wp) (g10:ev.get 10=.d (i64 ((e-a:Nat):Int))) (g11:ev.get 11=.d (i64 p)) :
 Round E b n cap lim a e bs d lo (Cd E TS aW CP ev (Mz .u32 bs b d lo)):=by
 right;have hn60:n<2 ^ 60:=by omega
 have c:=λx y h=>ui h334 x y h;have ixp:=λh=>ixz (b:=b) (n:=n) (cap:=cap) (h:=h) (i:=p) (by omega);have lp:=bH (kd:=.u32) (lo:=lo) hb (d:=d) (i:=p) (by omega);by_cases heq:0<a/\ltInt d[a-1]! d[p]! = false
 . obtain ⟨h0,hnl⟩:=heq;obtain ⟨a0,ha0⟩:∃ j,a=j+1:=⟨a-1,by omega⟩;have w0:=gZ (x:=a) (k:=a0) ha0 (by omega);rw [show a-1=a0 by omega] at hnl;have ix0:=λh=>ixz (b:=b) (n:=n) (cap:=cap) (h:=h) (i:=a0) (by omega);have l0:=bH (kd:=.u32) (lo:=lo) hb (d:=d) (i:=a0) (by omega);obtain ⟨lo1,q1,q2,q3⟩:=as0 h334 hb hn60 (a:=a) (e:=e) (p:=p) (by omega) he (by omega) (cap:=cap) d lo hd;obtain ⟨r1,r2,r3,r4,r5⟩:=round_eq Io (partitionEqual_holds ltInt) (d4:=(partitionEqual ltInt d a e p).2) (mid:=(partitionEqual ltInt d a e p).1) h0 hp1 hp2 (by omega) hB (by rw [show a-1=a0 by omega]; exact hnl) rfl;generalize partitionEqual ltInt d a e p=R at *;obtain ⟨mid,d4⟩:=R;simp only at *;refine ⟨mid,e,wb,wp,[],d4,lo1,λW=>?_,r2,br _,by omega,q3,r4,r5,.of q2⟩;have hag:(a:Int)>0:=by omega
   rw [List.append_nil];generalize d[a0]! = X at *;generalize d[p]! = Y at *;generalize Mz .u32 bs b d lo=M0 at *;simp +decide [CP,g0,g1,g2,g3,g8,g9,g10,g11,hag,h0,w0,ix0,l0,ixp,lp,c,hnl,q1,ai,aa,az,ae,Tr.mute,-aG,-aN]
 . have hcond:(0<a->ltInt d[a-1]! d[p]! = true):=λh=>by
    cases hx:ltInt d[a-1]! d[p]! with
    | true=>rfl
    | false=>exact absurd ⟨h,hx⟩ heq
   obtain ⟨lo1,q1,q2,q3⟩:=as2 h334 hb hn60 (a:=a) (e:=e) (p:=p) (by omega) he (by omega) (cap:=cap) d lo hd;obtain ⟨r1,r2,r3,r4,r5,r6,r7⟩:=round_part Io (partition_holds ltInt) (d4:=(partition ltInt d a e p).2.2) (mid:=(partition ltInt d a e p).1) (ap:=(partition ltInt d a e p).2.1) hp1 hp2 (by omega) hB rfl;generalize partition ltInt d a e p=R at *;obtain ⟨mid,ap,d4⟩:=R;simp only at *;obtain ⟨lf,hlf⟩:∃ j,mid-a=j:=⟨_,rfl⟩;obtain ⟨rg,hrg⟩:∃ j,e-mid=j:=⟨_,rfl⟩;obtain ⟨l,hl⟩:∃ j,e-a=j:=⟨_,rfl⟩;obtain ⟨th,hth⟩:∃ j,l / 8=j:=⟨_,rfl⟩;obtain ⟨m1,hm1⟩:∃ j,mid+1=j:=⟨_,rfl⟩;have wlf:=vU (x:=mid) (y:=a) (k:=lf) (by omega) (by omega);have wrg:=vU (x:=e) (y:=mid) (k:=rg) (by omega) (by omega);have wth:bC .quo (.d (.int .i64 l)) (.d (.int .i64 8))=some (.int .i64 th):=tL (x:=l) (y:=8) (z:=th) (by decide) hth (by omega);have wm1:=iA (x:=mid) (k:=m1) hm1 (by omega);rw [hl] at g10;rw [hm1] at r5 r6 r7;by_cases hlr:lf<rg
   . have hlr':(lf:Int)<(rg:Int):=by omega
     obtain ⟨ys,L,lo2,s1,s2,s3,s4⟩:=hrec a mid (by omega) bs d4 lo1 hb r1 (by omega) q3 r4;obtain ⟨t1,t2⟩:=r6 L s2 s3;refine ⟨m1,e,decide ((lf:Int)>=(th:Int)),ap,ys,L,lo2,λW=>?_,by omega,br _,by omega,s2.1.trans q3,t1,t2,?_⟩
     . by_cases h0:0<a
       . have hag:(a:Int)>0:=by omega
         obtain ⟨a0,ha0⟩:∃ j,a=j+1:=⟨a-1,by omega⟩;have w0:=gZ (x:=a) (k:=a0) ha0 (by omega);have hnl:=hcond h0;rw [show a-1=a0 by omega] at hnl;have ix0:=λh=>ixz (b:=b) (n:=n) (cap:=cap) (h:=h) (i:=a0) (by omega);have l0:=bH (kd:=.u32) (lo:=lo) hb (d:=d) (i:=a0) (by omega);generalize d[a0]! = X at *;generalize d[p]! = Y at *;generalize Mz .u32 bs b d lo=M0 at *;generalize Mz .u32 bs b d4 lo1=M1 at *;simp +decide [CP,g0,g1,g2,g3,g8,g9,g10,g11,hag,h0,w0,ix0,l0,ixp,lp,c,hnl,q1,wlf,wrg,wth,hlr',hlr,s1,wm1,ai,aa,az,ae,Tr.mute,-aG,-aN]
       . have hag:¬ (a:Int)>0:=by omega
         generalize Mz .u32 bs b d lo=M0 at *;generalize Mz .u32 bs b d4 lo1=M1 at *;simp +decide [CP,g0,g1,g2,g3,g8,g9,g10,g11,hag,h0,q1,wlf,wrg,wth,hlr',hlr,s1,wm1,ai,aa,az,ae,Tr.mute,-aG,-aN]
     . have:=Kq.trans (.of q2) s4;simpa using this
   . have hlr':¬ (lf:Int)<(rg:Int):=by omega
     obtain ⟨ys,L,lo2,s1,s2,s3,s4⟩:=hrec m1 e (by omega) bs d4 lo1 hb (by omega) he q3 r5;obtain ⟨t1,t2⟩:=r7 L s2 s3;refine ⟨a,mid,decide ((rg:Int)>=(th:Int)),ap,ys,L,lo2,λW=>?_,r1,by omega,by omega,s2.1.trans q3,t1,t2,?_⟩
     . by_cases h0:0<a
       . have hag:(a:Int)>0:=by omega
         obtain ⟨a0,ha0⟩:∃ j,a=j+1:=⟨a-1,by omega⟩;have w0:=gZ (x:=a) (k:=a0) ha0 (by omega);have hnl:=hcond h0;rw [show a-1=a0 by omega] at hnl;have ix0:=λh=>ixz (b:=b) (n:=n) (cap:=cap) (h:=h) (i:=a0) (by omega);have l0:=bH (kd:=.u32) (lo:=lo) hb (d:=d) (i:=a0) (by omega);generalize d[a0]! = X at *;generalize d[p]! = Y at *;generalize Mz .u32 bs b d lo=M0 at *;generalize Mz .u32 bs b d4 lo1=M1 at *;simp +decide [CP,g0,g1,g2,g3,g8,g9,g10,g11,hag,h0,w0,ix0,l0,ixp,lp,c,hnl,q1,wlf,wrg,wth,hlr',hlr,s1,wm1,ai,aa,az,ae,Tr.mute,-aG,-aN]
       . have hag:¬ (a:Int)>0:=by omega
         generalize Mz .u32 bs b d lo=M0 at *;generalize Mz .u32 bs b d4 lo1=M1 at *;simp +decide [CP,g0,g1,g2,g3,g8,g9,g10,g11,hag,h0,q1,wlf,wrg,wth,hlr',hlr,s1,wm1,ai,aa,az,ae,Tr.mute,-aG,-aN]
     . have:=Kq.trans (.of q2) s4;simpa using this
end
end
section
open Go.Sort (swp ltInt PermIn SortedIn Below SWO permIn_trans permIn_refl partialInsertionSort choosePivot reverseRange partialInsertionSort_holds choosePivot_holds reverseRange_holds insertionSort_holds heapSort_holds insertionSort heapSort Hint)
theorem Af {bs ys:List Blk}{b lo lo':Nat}{d d':Array Int}(hb:b<bs.length)(hk:Kq b bs.length d ys lo' d') :
 ∃ lo2,eU (Mz .u32 bs b d lo) (some (.tup [],Mz .u32 (bs++ys) b d' lo'))=some (.tup [],Mz .u32 (bs++ys) b d' lo2)/\Kq b lo d ys lo2 d':=by
 have hl:(Mz .u32 bs b d lo).bs.length=bs.length:=by simp [Mz,Mr]
 rw [ed,hl];obtain hk | ⟨rfl,rfl,rfl⟩:=hk
 . rw [if_neg (λhh=>by have:=hh.1; simp only [Mz,Mr] at this; omega)];exact ⟨min lo lo',rfl,.inl (by omega)⟩
 . rw [if_pos ⟨br _,rfl⟩,List.append_nil];exact ⟨lo,rfl,.inr ⟨rfl,rfl,rfl⟩⟩
theorem Round.behind {E:Calls'}{b n lim a e:Nat}{cap:Option Nat}{bs ys:List Blk}{d D:Array Int}{lo lo1:Nat}{o:fM}(hp:PermIn a e d D)(hk:Kq b lo d ys lo1 D)(h:Round E b n cap lim a e (bs++ys) D lo1 o):Round E b n cap lim a e bs d lo o:=by
 obtain ⟨zs,d',lo',h1,h2,h3,h4⟩ | ⟨a2,e2,wb2,wp2,zs,d2,lo2,h1,h2,h3,h4,h5,h6,h7,h8⟩:=h
 . exact .inl ⟨ys++zs,d',lo',by rw [h1,List.append_assoc],permIn_trans _ _ _ _ _ hp h2,h3,hk.trans h4⟩
 . exact .inr ⟨a2,e2,wb2,wp2,ys++zs,d2,lo2,λW=>by rw [h1 W,List.append_assoc],h2,h3,h4,h5,h6,λR r1 r2=>⟨permIn_trans _ _ _ _ _ hp (h7 R r1 r2).1,(h7 R r1 r2).2⟩,hk.trans h8⟩
section
variable {E:Calls'}(h334:∀ x y h,E 120 [.d (u32 x),.d (u32 y)] h=some (bl (ltInt x y),h))(h241:∀ x h,E 80 [.d (u64 x)] h=some (.d (i64 (bY x)),h))
include h334
theorem zJ {bs:List Blk}{b:Nat}(hb:b<bs.length){n a e p lim:Nat}(hn:n<2 ^ 59)(ha:a+12<e)(he:e<=n)(hp1:a<=p)(hp2:p<e){cap:Option Nat}(d:Array Int)(lo:Nat)(hd:d.size=n)(hB:Below ltInt a e d)(wb wp:Bool)(hint:Hint)
 (hrec:∀ x y,y-x<e-a->Fq E b n cap lim x y) {ev:EA} (g0:ev.get 0=.row b 0 n cap 1) (g1:ev.get 1=.d (i64 a)) (g2:ev.get 2=.d (i64 e)) (g3:ev.get 3=.d (i64 lim)) (g8:ev.get 8=bl wb) (g9:ev.get 9=bl wp) (g10:ev.get 10=.d (i64 ((e-a:Nat):Int))) (g11:ev.get 11=.d (i64 p)) (g12:ev.get 12=.d (i64 (jl hint))) :
 Round E b n cap lim a e bs d lo (Cd E TS aW CO ev (Mz .u32 bs b d lo)):=by
 have next:∀ (D:Array Int) (lo1:Nat),D.size=n->Below ltInt a e D->∀ ev':EA,ev'.get 0=.row b 0 n cap 1->ev'.get 1=.d (i64 a)->ev'.get 2=.d (i64 e)->ev'.get 3=.d (i64 lim)->ev'.get 8=bl wb->ev'.get 9=bl wp->ev'.get 10=.d (i64 ((e-a:Nat):Int))->ev'.get 11=.d (i64 p)->Round E b n cap lim a e bs D lo1 (Cd E TS aW CP ev' (Mz .u32 bs b D lo1)) :=
  λD lo1 h1 h2 ev' k0 k1 k2 k3 k8 k9 k10 k11=>Hg h334 hb hn ha he hp1 hp2 D lo1 h1 h2 wb wp hrec k0 k1 k2 k3 k8 k9 k10 k11
 cases wb with
 | false =>
  have nx:=next d lo hd hB
  generalize Mz .u32 bs b d lo=M0 at *;simp +decide [CO,g8,g9,g12];exact nx _ (by simp [g0]) (by simp [g1]) (by simp [g2]) (by simp [g3]) (by simp [g8]) (by simp [g9]) (by simp [g10]) (by simp [g11])
 | true =>
  cases wp with
  | false =>
   have nx:=next d lo hd hB
   generalize Mz .u32 bs b d lo=M0 at *;simp +decide [CO,g8,g9,g12];exact nx _ (by simp [g0]) (by simp [g1]) (by simp [g2]) (by simp [g3]) (by simp [g8]) (by simp [g9]) (by simp [g10]) (by simp [g11])
  | true =>
   have other:jl hint≠1->Round E b n cap lim a e bs d lo (Cd E TS aW CO ev (Mz .u32 bs b d lo)):=λhne=>by
    have nx:=next d lo hd hB
    generalize Mz .u32 bs b d lo=M0 at *;simp +decide [CO,g8,g9,g12,hne];exact nx _ (by simp [g0]) (by simp [g1]) (by simp [g2]) (by simp [g3]) (by simp [g8]) (by simp [g9]) (by simp [g10]) (by simp [g11])
   cases hint with
   | unknown=>exact other (by simp [jl])
   | decreasing=>exact other (by simp [jl])
   | increasing =>
    obtain ⟨lo1,q1,q2,q3⟩:=ar8 h334 hb (by omega) (a:=a) (e:=e) (by omega) he (cap:=cap) d lo hd;obtain ⟨p1,p2⟩:=partialInsertionSort_holds Io d a e (by omega) (by omega) hB;generalize partialInsertionSort ltInt d a e=R at *;obtain ⟨D,r⟩:=R;simp only at *;have hBD:=hB.perm (by omega) p1;cases r with
    | true =>
     refine .inl ⟨[],D,lo1,?_,p1,p2 rfl,.of q2⟩;rw [List.append_nil];generalize Mz .u32 bs b d lo=M0 at *;generalize Mz .u32 bs b D lo1=M1 at *;simp +decide [CO,g0,g1,g2,g8,g9,g12,jl,q1]
    | false =>
     have nx:=next D lo1 q3 hBD
     refine Round.behind (ys:=[]) p1 (.of q2) ?_;rw [List.append_nil];generalize Mz .u32 bs b d lo=M0 at *;generalize Mz .u32 bs b D lo1=M1 at *;simp +decide [CO,g0,g1,g2,g8,g9,g12,jl,q1];exact nx _ (by simp [g0]) (by simp [g1]) (by simp [g2]) (by simp [g3]) (by simp [g8]) (by simp [g9]) (by simp [g10]) (by simp [g11])
theorem zI {bs:List Blk}{b:Nat}(hb:b<bs.length){n a e lim:Nat}(hn:n<2 ^ 59)(ha:a+12<e)(he:e<=n){cap:Option Nat}(d:Array Int)(lo:Nat)(hd:d.size=n)(hB:Below ltInt a e d)(wb wp:Bool)
 (hrec:∀ x y,y-x<e-a->Fq E b n cap lim x y) {ev:EA} (g0:ev.get 0=.row b 0 n cap 1) (g1:ev.get 1=.d (i64 a)) (g2:ev.get 2=.d (i64 e)) (g3:ev.get 3=.d (i64 lim)) (g8:ev.get 8=bl wb) (g9:ev.get 9=bl wp) (g10:ev.get 10=.d (i64 ((e-a:Nat):Int))) :
 Round E b n cap lim a e bs d lo (Cd E TS aW Kb ev (Mz .u32 bs b d lo)):=by
 have c1:=ar6 h334 hb (by omega) ha he (cap:=cap) d lo hd;obtain ⟨p1,p2⟩:=choosePivot_holds ltInt d a e (by omega);generalize choosePivot ltInt d a e=C at *;obtain ⟨c,hint⟩:=C;simp only at *;have other:jl hint≠2->Round E b n cap lim a e bs d lo (Cd E TS aW Kb ev (Mz .u32 bs b d lo)):=λhne=>by
  have nx:=λev' k0 k1 k2 k3 k8 k9 k10 k11 k12=>zJ h334 hb hn ha he p1 p2 d lo hd hB wb wp hint hrec (ev:=ev') k0 k1 k2 k3 k8 k9 k10 k11 k12;generalize Mz .u32 bs b d lo=M0 at *;simp +decide [Kb,g0,g1,g2,c1,hne];exact nx _ (by simp [g0]) (by simp [g1]) (by simp [g2]) (by simp [g3]) (by simp [g8]) (by simp [g9]) (by simp [g10]) (by simp) (by simp)
 cases hint with
 | unknown=>exact other (by simp [jl])
 | increasing=>exact other (by simp [jl])
 | decreasing =>
  obtain ⟨lo1,q1,q2,q3⟩:=ar7 (E:=E) hb (by omega) (a:=a) (e:=e) (by omega) he (cap:=cap) d lo hd;have r1:=reverseRange_holds d a e (by omega) (by omega);generalize reverseRange d a e=D at *;obtain ⟨e1,he1⟩:∃ j,e=j+1:=⟨e-1,by omega⟩;obtain ⟨ca,hca⟩:∃ j,c=j+a:=⟨c-a,by omega⟩;obtain ⟨p,hp⟩:∃ j,e1=j+ca:=⟨e1-ca,by omega⟩;have w1:=gZ (x:=e) (k:=e1) he1 (by omega);have w2:=vU (x:=c) (y:=a) (k:=ca) hca (by omega);have w3:=vU (x:=e1) (y:=ca) (k:=p) hp (by omega);have nx:=λev' k0 k1 k2 k3 k8 k9 k10 k11 k12=>zJ h334 hb hn ha he (p:=p) (by omega) (by omega) D lo1 q3 (hB.perm (by omega) r1) wb wp .increasing hrec (ev:=ev') k0 k1 k2 k3 k8 k9 k10 k11 k12;refine Round.behind (ys:=[]) r1 (.of q2) ?_;rw [List.append_nil];generalize Mz .u32 bs b d lo=M0 at *;generalize Mz .u32 bs b D lo1=M1 at *;simp +decide [Kb,g0,g1,g2,c1,jl,q1,w1,w2,w3];exact nx _ (by simp [g0]) (by simp [g1]) (by simp [g2]) (by simp [g3]) (by simp [g8]) (by simp [g9]) (by simp [g10]) (by simp) (by simp [jl])
include h241
theorem Ke {b n:Nat}(hn:n<2 ^ 59){cap:Option Nat}:∀ (N a e lim:Nat) (wb wp:Bool) (bs:List Blk) (d:Array Int) (lo:Nat),e-a<N->b<bs.length->a<=e->e<=n->d.size=n->lim<2 ^ 60->Below ltInt a e d →
 ∃ ys d' lo',Cd E TS aW (.loop [0,1,2,3,8,9] nG) [(0,.row b 0 n cap 1),(1,.d (i64 a)),(2,.d (i64 e)),(3,.d (i64 lim)),(8,bl wb),(9,bl wp)] (Mz .u32 bs b d lo)=some (.ret,[],Mz .u32 (bs++ys) b d' lo')/\PermIn a e d d'/\SortedIn ltInt a e d'/\Kq b lo d ys lo' d':=by
 intro N;have key:=ay (E:=E) (T:=TS) (val:=aW) [0,1,2,3,8,9] nG;have hfun:∀ (bs:List Blk) (d:Array Int) (x y lim lo1:Nat) (ys:List Blk) (d':Array Int),b<bs.length →
  Cd E TS aW (.loop [0,1,2,3,8,9] nG) [(0,.row b 0 n cap 1),(1,.d (i64 x)),(2,.d (i64 y)),(3,.d (i64 lim)),(8,bl true),(9,bl true)] (Mz .u32 bs b d bs.length)=some (.ret,[],Mz .u32 (bs++ys) b d' lo1) →
  ∀ lo,Sm E TS aW 79 [.row b 0 n cap 1,.d (i64 x),.d (i64 y),.d (i64 lim)] (Mz .u32 bs b d lo)=eU (Mz .u32 bs b d lo) (some (.tup [],Mz .u32 (bs++ys) b d' lo1)):=λbs d x y lim lo1 ys d' hb h lo=>by
  have hl:(Mz .u32 bs b d lo).bs.length=bs.length:=by simp [Mz,Mr]
  have hM:(⟨(Mz .u32 bs b d lo).bs,bs.length⟩:Hp)=Mz .u32 bs b d bs.length:=rfl;rw [aJ T9 Um,hl,hM]
  congr 1
  generalize Mz .u32 bs b d bs.length=M0 at *;generalize Mz .u32 (bs++ys) b d' lo1=M1 at *;simp [af,Hu];rw [aj];try simp at h
  simp [h];rfl
 generalize Cd E TS aW (.loop [0,1,2,3,8,9] nG)=W at key hfun ⊢
 induction N with
 | zero=>intro a e lim wb wp bs d lo h; omega
 | succ N ih =>
  intro a e lim wb wp bs d lo hN hb hae hen hd hlim hB;have hrec:∀ lim',lim'<2 ^ 60->∀ x y,y-x<e-a->Fq E b n cap lim' x y:=λlim' hl x y hxy bs d lo hb hx hy hd hB=>by
   obtain ⟨ys,d',lo1,c1,c2,c3,c4⟩:=ih x y lim' true true bs d bs.length (by omega) hb hx hy hd hl hB;obtain ⟨lo2,r1,r2⟩:=Af (lo:=lo) hb c4;exact ⟨ys,d',lo2,(hfun bs d x y lim' lo1 ys d' hb c1 lo).trans r1,c2,c3,r2⟩
  obtain ⟨l,hl⟩:∃ j,e-a=j:=⟨_,rfl⟩;have wl:=vU (x:=e) (y:=a) (k:=l) (by omega) (by omega);rw [key,Kc];by_cases h12:l<=12
  . have h12':(l:Int)<=12:=by omega
    obtain ⟨lo1,q1,q2,q3⟩:=ar3 h334 hb (by omega) (a:=a) (e:=e) (by omega) hen (cap:=cap) d lo hd;obtain ⟨p1,p2⟩:=insertionSort_holds Io d a e hae (by omega);refine ⟨[],_,lo1,?_,p1,p2,.of q2⟩;rw [List.append_nil];generalize Mz .u32 bs b d lo=M0 at *;generalize Mz .u32 bs b (insertionSort ltInt d a e) lo1=M1 at *;simp +decide [wl,h12,h12',q1]
  have h12':¬ (l:Int)<=12:=by omega
  by_cases hl0:lim=0
  . subst hl0;obtain ⟨lo1,q1,q2,q3⟩:=ar4 h334 hb (by omega) (a:=a) (e:=e) (by omega) hen (cap:=cap) d lo hd;obtain ⟨p1,p2⟩:=heapSort_holds Io d a e hae (by omega);refine ⟨[],_,lo1,?_,p1,p2,.of q2⟩;rw [List.append_nil];generalize Mz .u32 bs b d lo=M0 at *;generalize Mz .u32 bs b (heapSort ltInt d a e) lo1=M1 at *;simp +decide [wl,h12,h12',q1]
  have hl0':¬ (lim:Int)=0:=by omega
  have fin_:∀ (lim':Nat) (o:fM),lim'<2 ^ 60->Round E b n cap lim' a e bs d lo o->∃ ys d' lo',dK [0,1,2,3,8,9] W (leave 1 o)=some (.ret,[],Mz .u32 (bs++ys) b d' lo')/\PermIn a e d d'/\SortedIn ltInt a e d'/\Kq b lo d ys lo' d':=by
   rintro lim' o hl' (⟨ys,d',lo',rfl,h2,h3,h4⟩ | ⟨a2,e2,wb2,wp2,ys,d2,lo2,h1,h2,h3,h4,h5,h6,h7,h8⟩)
   . exact ⟨ys,d',lo',rfl,h2,h3,h4⟩
   . have hKb:b<(bs++ys).length:=by simp; omega
     obtain ⟨zs,d',lo',c1,c2,c3,c4⟩:=ih a2 e2 lim' wb2 wp2 (bs++ys) d2 lo2 (by omega) hKb h2 (by omega) h5 hl' h6;refine ⟨ys++zs,d',lo',?_,(h7 d' c2 c3).1,(h7 d' c2 c3).2,h8.trans c4⟩;rw [h1 W,c1,List.append_assoc]
  cases wb with
  | true =>
   have st:=λev k0 k1 k2 k3 k8 k9 k10=>fin_ lim _ hlim (zI h334 hb hn (a:=a) (e:=e) (by omega) hen (cap:=cap) d lo hd hB true wp (hrec lim hlim) (ev:=ev) k0 k1 k2 k3 k8 k9 k10);generalize Mz .u32 bs b d lo=M0 at *;simp +decide [wl,h12,h12',hl0,hl0'];refine st _ ?_ ?_ ?_ ?_ ?_ ?_ ?_<;>simp [hl]
  | false =>
   obtain ⟨lm,hlm⟩:∃ j,lim=j+1:=⟨lim-1,by omega⟩;have wlm:=gZ (x:=lim) (k:=lm) hlm (by omega);obtain ⟨ys,d1,lo1,q1,q2,q3⟩:=ar5 h241 hb hn (a:=a) (e:=e) (by omega) hen (cap:=cap) d lo hd;have hb1:b<(bs++ys).length:=by simp; omega
   have st:=λev k0 k1 k2 k3 k8 k9 k10=>fin_ lm _ (by omega) (Round.behind q2 (.inl q3) (zI h334 hb1 hn (a:=a) (e:=e) (by omega) hen (cap:=cap) d1 lo1 (q2.1.trans hd) (hB.perm (by omega) q2) false wp (hrec lm (by omega)) (ev:=ev) k0 k1 k2 k3 k8 k9 k10));generalize Mz .u32 bs b d lo=M0 at *;generalize Mz .u32 (bs++ys) b d1 lo1=M1 at *;simp +decide [wl,h12,h12',hl0,hl0',q1,wlm];refine st _ ?_ ?_ ?_ ?_ ?_ ?_ ?_<;>simp [hl]
theorem ap0 {b n:Nat}(hn:n<2 ^ 59){cap:Option Nat}{lim:Nat}(hlim:lim<2 ^ 60){bs:List Blk}(hb:b<bs.length)(d:Array Int)(lo:Nat)(hd:d.size=n) :
 ∃ ys d' lo',Sm E TS aW 79 [.row b 0 n cap 1,.d (i64 0),.d (i64 n),.d (i64 lim)] (Mz .u32 bs b d lo)=some (.tup [],Mz .u32 (bs++ys) b d' lo')/\PermIn 0 n d d'/\SortedIn ltInt 0 n d'/\Kq b lo d ys lo' d':=by
 obtain ⟨ys,d',lo1,c1,c2,c3,c4⟩:=Ke h334 h241 hn (cap:=cap) (n+1) 0 n lim true true bs d bs.length (by omega) hb (Nat.zero_le _) (br _) hd hlim (.inl rfl);obtain ⟨lo2,r1,r2⟩:=Af (lo:=lo) hb c4;refine ⟨ys,d',lo2,?_,c2,c3,r2⟩;refine Eq.trans ?_ r1;have hl:(Mz .u32 bs b d lo).bs.length=bs.length:=by simp [Mz,Mr]
 have hM:(⟨(Mz .u32 bs b d lo).bs,bs.length⟩:Hp)=Mz .u32 bs b d bs.length:=rfl;rw [aJ T9 Um,hl,hM]
 congr 1
 generalize Mz .u32 bs b d bs.length=M0 at *;generalize Mz .u32 (bs++ys) b d' lo1=M1 at *;simp [af,Hu];rw [aj];try simp at c1
 simp [c1];rfl
end
end
section
open Go.Sort (ltInt PermIn SortedIn sorted_unique_holds)
def bu1:List (Nat×QF):=[(30,Kt),(31,YJ)]
def TU:FuncId->Option QF:=kN bu1
def Bj (f:FuncId):Bool:=false
theorem Z6:TU 30=some Kt:=by kernel_rfl
theorem Z7:TU 31=some (cmpQ .u32):=by kernel_rfl
theorem Z8:TU 79=none:=by kernel_rfl
theorem Z9:TU 80=none:=by kernel_rfl
theorem Fh {bs:List Blk}{b lo:Nat}{cs:List V}(hb:ah bs b=some cs):Mr bs b cs lo=⟨bs,lo⟩:=by
 have hbl:=aK hb;unfold Mr
 congr 1
 apply List.ext_getElem?;intro i;by_cases hi:b=i
 . subst hi;rw [List.getElem?_set_self hbl];unfold ah at hb;split at hb
   . rename_i hh; cases hb; exact hh.symm
   . cases hb
 . rw [am hi]
theorem O1 {d d':Array Int}(h1:PermIn 0 d.size d d')(h2:SortedIn ltInt 0 d.size d'):d'.toList=bM d.toList:=by
 have:=sorted_unique_holds Io (λx y a b=>by simp [ltInt] at a b; omega) d d' h1 h2;rw [this,bM]
 congr 1
 funext x y;simp only [ltInt];by_cases h:x<=y
 . simp [h]
 . simp [h]; omega
section
variable {E:Calls'}(h334:∀ x y h,E 120 [.d (u32 x),.d (u32 y)] h=some (bl (ltInt x y),h))(h241:∀ x h,E 80 [.d (u64 x)] h=some (.d (i64 (bY x)),h))
include h334 h241
theorem am9 {E2:Calls'}(k240:∀ args h,E2 79 args h=Sm E TS aW 79 args h)(k241:∀ x h,E2 80 [.d (u64 x)] h=some (.d (i64 (bY x)),h)){bs:List Blk}{b lo n:Nat}{cap:Option Nat}(hb:b<bs.length)(d:Array Int)(hd:d.size=n)(hn:n<2 ^ 59) :
 ∃ ys lo',Sm E2 TU Bj 30 [.row b 0 n cap 1] (Mz .u32 bs b d lo)=some (.tup [],Mr (bs++ys) b ((bM d.toList).map (iv .u32)) lo'):=by
 obtain ⟨a0,a1,a2⟩:=xL (x:=(n:Int)) (by omega) (by omega);have hle:=oQ (n:Int);obtain ⟨k,hk⟩:∃ k:Nat,bY n=k:=⟨(bY n).toNat,by omega⟩;obtain ⟨ys,d',lo1,c1,c2,c3,c4⟩:=ap0 h334 h241 hn (cap:=cap) (lim:=k) (by omega) hb d bs.length hd;have hsz:=c2.1;have hl:=O1 (d:=d) (d':=d') (by rw [hd]; exact c2) (by rw [hd]; exact c3);have hz:zsV .u32 d'=(bM d.toList).map (iv .u32):=by rw [zsV,hl]
 obtain ⟨lo2,r1,r2⟩:=Af (lo:=lo) hb c4;have hwu:wrap .u64 (n:Int)=(n:Int):=by simp [wrap,IntKind.bits,IntKind.signed]; omega
 have n240:∀ args h,Sm E2 TU Bj 79 args h=Sm E TS aW 79 args h:=λargs h=>by rw [bB Z8]; exact k240 args h
 have n241:∀ x h,Sm E2 TU Bj 80 [.d (u64 x)] h=some (.d (i64 (bY x)),h):=λx h=>by rw [bB Z9]; exact k241 x h
 refine ⟨ys,lo2,?_⟩;rw [← hz];refine Eq.trans ?_ r1;have hlen:(Mz .u32 bs b d lo).bs.length=bs.length:=by simp [Mz,Mr]
 have hM:(⟨(Mz .u32 bs b d lo).bs,bs.length⟩:Hp)=Mz .u32 bs b d bs.length:=rfl;rw [aJ Z6 rfl,hlen,hM]
 congr 1
 generalize Mz .u32 bs b d bs.length=M0 at *;generalize Mz .u32 (bs++ys) b d' lo1=M1 at *;try simp at c1
 simp [af,Kt,hwu,n240,n241,hk,c1];rfl
end
def qy:List Int->List Int
 | x::y::l=>(if x=y then [] else [y])++qy (y::l)
 | _=>[]
theorem rU:∀ l:List Int,(qy l).length=chg l
 | []=>rfl
 | [_]=>rfl
 | x::y::l=>by
  have:=rU (y::l);simp only [qy,chg,aw,this];split<;>simp
theorem zm {zs:List Int}{i:Nat}(h:i+1<zs.length):qy (zs.drop i)=(if zs[i]=zs[i+1] then [] else [zs[i+1]])++qy (zs.drop (i+1)):=by
 rw [ba (show i<zs.length by omega),ba h];simp only [qy]
theorem BO:∀ (x:Int) (l:List Int),cmpL (x::l)=x::qy (x::l)
 | x,[]=>rfl
 | x,y::l=>by
  have ih:=BO y l;rw [cmpL,ih];by_cases h:x=y
  . subst h; simp [qy]
  . simp [qy,h]
section
variable {E:Calls'}{T:FuncId->Option QF}{val:FuncId->Bool}{kd:IntKind}
theorem Mi {bs:List Blk}{b:Nat}(hb:b<bs.length){zs:List Int}{cap cap2:Option Nat}(hn:zs.length<2 ^ 62){k0:Nat}(hk0:1<=k0)(hk1:k0<zs.length):∀ (m i k:Nat) (cur:List V) (lo:Nat),k0+i+m=zs.length->1<=i->k<k0+i->cur.length=zs.length->(∀ j (hj:j<zs.length),k<=j->cur[j]?=some (iv kd zs[j])) →
 ∃ cur' lo',Cd E T val (.loop [0,3,4,5] (mo kd)) [(0,.row b 0 zs.length cap 1),(3,.d (i64 k)),(4,.row b k0 (zs.length-k0) cap2 1),(5,.d (i64 i))] (Mr bs b cur lo) =
  some (.exit 2,[(0,.row b 0 zs.length cap 1),(3,.d (i64 (k+chg (zs.drop (k0+i-1)):Nat)))],Mr bs b cur' lo')/\cur'.length=zs.length/\(lo'=lo\/lo'=min lo b)/\cur'.take (k+chg (zs.drop (k0+i-1)))=cur.take k++(qy (zs.drop (k0+i-1))).map (iv kd):=by
 intro m;have key:=ay (E:=E) (T:=T) (val:=val) [0,3,4,5] (mo kd);generalize Cd E T val (.loop [0,3,4,5] (mo kd))=W at key ⊢
 induction m with
 | zero =>
  intro i k cur lo hi h1 hk hl hc;have h0:chg (zs.drop (k0+i-1))=0:=by
   have:=oJ (zs.drop (k0+i-1));simp only [List.length_drop] at this;omega
  have hL:qy (zs.drop (k0+i-1))=[]:=List.eq_nil_of_length_eq_zero (by rw [rU,h0]);refine ⟨cur,lo,?_,hl,.inl rfl,by rw [h0,hL]; simp⟩;rw [key,h0];simp [mo,show ¬ ((i:Int)<((zs.length-k0:Nat):Int)) from by omega]
 | succ m ih =>
  intro i k cur lo hi h1 hk hl hc;have hlt:i<zs.length-k0:=by omega
  have e1:=hc (k0+i) (by omega) (by omega);have e0:=hc (k0+i-1) (by omega) (by omega);have hd:=rV (zs:=zs) (i:=k0+i-1) (by omega);have hdL:=zm (zs:=zs) (i:=k0+i-1) (by omega);have hs:k0+i-1+1=k0+i:=by omega
  simp only [hs] at hd hdL;rw [hd,hdL];have hw:=ax (show i<zs.length by omega) hn;have hwk:=ax (show k<zs.length by omega) hn;have hwm:wrap .i64 ((i:Int)-1)=((i-1:Nat):Int):=by rw [wrap64]<;>omega
  have i1:=λh=>fQ (b:=b) (o:=k0) (z:=1) (cap:=cap2) (kd:=.i64) (h:=h) hlt;have i0:=λh=>fQ (b:=b) (o:=k0) (z:=1) (cap:=cap2) (kd:=.i64) (h:=h) (show i-1<zs.length-k0 by omega);have ik:=λh=>fQ (b:=b) (o:=0) (z:=1) (cap:=cap) (kd:=.i64) (h:=h) (show k<zs.length by omega);simp only [Nat.mul_one,show k0+(i-1)=k0+i-1 by omega,Nat.zero_add] at i1 i0 ik;have l1:=rO (lo:=lo) hb e1;have l0:=rO (lo:=lo) hb e0;generalize zs[k0+i]'(by omega)=y at *;generalize zs[k0+i-1]'(by omega)=x at *;by_cases hxy:x=y
  . obtain ⟨cur',lo',k1,k2,k3,k4⟩:=ih (i+1) k cur lo (by omega) (by omega) (by omega) hl hc;simp only [show k0+(i+1)-1=k0+i by omega] at k1 k4;simp only [hxy,if_true,Nat.zero_add,List.nil_append];refine ⟨cur',lo',?_,k2,k3,k4⟩;rw [key];subst hxy;simp [mo,i1,i0,l1,l0,iv,hw,hwm,show ((i:Int)<((zs.length-k0:Nat):Int)) from by omega,-aG];simpa using k1
  . have st:=IK (lo:=lo) (x:=.int kd y) hb (show k<cur.length by omega);obtain ⟨cur',lo',k1,k2,k3,k4⟩:=ih (i+1) (k+1) (cur.set k (.d (.int kd y))) (min lo b) (by omega) (by omega) (by omega) (by simpa using hl) (by
     intro j hj hkj;rw [am (by omega)];exact hc j hj (by omega))
    simp only [show k0+(i+1)-1=k0+i by omega] at k1 k4;simp only [hxy,if_false];refine ⟨cur',lo',?_,k2,by obtain k3 | k3:=k3<;>omega,?_⟩
    . rw [key];have hyx:¬ y=x:=λh=>hxy h.symm;simp [mo,i1,i0,ik,l1,l0,st,iv,hw,hwk,hwm,hyx,show ((i:Int)<((zs.length-k0:Nat):Int)) from by omega,-aG,-aN];rw [show ((k:Int)+(1+(chg (zs.drop (k0+i)):Int)))=((k+1+chg (zs.drop (k0+i)):Nat):Int) by omega];simpa using k1
    . rw [show k+(1+chg (zs.drop (k0+i)))=k+1+chg (zs.drop (k0+i)) by omega,k4];have hset:(cur.set k (.d (.int kd y))).take (k+1)=cur.take k++[iv kd y]:=by
       rw [List.take_add_one];rw [List.take_set_of_le (br k)];rw [List.getElem?_set_self (by omega)];rfl
      rw [hset];simp
theorem Jg {C:Calls'}{bs:List Blk}{b lo:Nat}{cur:List V}(hb:b<bs.length){n k:Nat}{cap:Option Nat}{e:EA}{x:X}{zero:V}(he:x.ea e=.row b k (n-k) cap 1)(hc:cur.length=n)(hk:k<n) :
 ∃ cur',cur'.length=n/\cur'.take k=cur.take k/\opE C (.clear 1 [zero] x) (X.ea e) (Mr bs b cur lo)=some (.undef,Mr bs b cur' (min lo b)):=by
 have hr:((List.replicate (n-k) [zero]).flatten).length=n-k:=by simp
 have hp:put cur k (List.replicate (n-k) [zero]).flatten=some (cur.take k++(List.replicate (n-k) [zero]).flatten++cur.drop (k+(n-k))):=by
  unfold put;rw [if_pos (by rw [hr]; omega),hr]
 refine ⟨cur.take k++(List.replicate (n-k) [zero]).flatten++cur.drop (k+(n-k)),by simp only [aw,hr,List.length_take,List.length_drop]; omega,?_,?_⟩
 . rw [List.append_assoc,List.take_append_of_le_length (by simp; omega),List.take_take,Nat.min_self]
 have hne:¬ (n-k) * 1=0:=by omega
 simp only [opE,he,if_true,get_eq,ug hb,if_neg hne,hp];simp [Hp.set,Mr]
theorem Jh {bs:List Blk}{b lo:Nat}(hb:b<bs.length){zs:List Int}{cap:Option Nat}(hn:zs.length<2 ^ 62):∀ (m k:Nat),k+m=zs.length->1<=k →
 ∃ cur' lo',(Cd E T val (.loop [0,3] (kJ kd)) [(0,.row b 0 zs.length cap 1),(3,.d (i64 k))] (Mr bs b (zs.map (iv kd)) lo)=some (.ret,[(2,.row b 0 (k+chg (zs.drop (k-1))) cap 1)],Mr bs b cur' lo')/\cur'.length=zs.length/\lo'=min lo b/\cur'.take (k+chg (zs.drop (k-1)))=(zs.take k++qy (zs.drop (k-1))).map (iv kd)) ∨
  (Cd E T val (.loop [0,3] (kJ kd)) [(0,.row b 0 zs.length cap 1),(3,.d (i64 k))] (Mr bs b (zs.map (iv kd)) lo)=some (.exit 0,[(0,.row b 0 zs.length cap 1)],Mr bs b (zs.map (iv kd)) lo)/\k+chg (zs.drop (k-1))=zs.length/\zs=zs.take k++qy (zs.drop (k-1))):=by
 intro m;have key:=ay (E:=E) (T:=T) (val:=val) [0,3] (kJ kd);generalize Cd E T val (.loop [0,3] (kJ kd))=W at key ⊢
 induction m with
 | zero =>
  intro k hk h1;have h0:chg (zs.drop (k-1))=0:=by
   have:=oJ (zs.drop (k-1));simp only [List.length_drop] at this;omega
  have hL:qy (zs.drop (k-1))=[]:=List.eq_nil_of_length_eq_zero (by rw [rU,h0]);refine ⟨[],0,.inr ⟨?_,by omega,by rw [hL,List.take_of_length_le (by omega)]; simp⟩⟩;rw [key];simp [kJ,show ¬ ((k:Int)<(zs.length:Int)) from by omega]
 | succ m ih =>
  intro k hk h1;have hlt:k<zs.length:=by omega
  have e1:(zs.map (iv kd))[k]?=some (iv kd zs[k]):=by simp [hlt]
  have e0:(zs.map (iv kd))[k-1]?=some (iv kd (zs[k-1]'(by omega))):=by rw [List.getElem?_map,ac (show k-1<zs.length by omega)]; rfl
  have hd:=rV (zs:=zs) (i:=k-1) (by omega);have hdL:=zm (zs:=zs) (i:=k-1) (by omega);have hs:k-1+1=k:=by omega
  simp only [hs] at hd hdL;have htk:zs.take (k+1)=zs.take k++[zs[k]]:=by rw [List.take_add_one,ac hlt]; rfl
  have hw:=ax hlt hn;have hwm:wrap .i64 ((k:Int)-1)=((k-1:Nat):Int):=by rw [wrap64]<;>omega
  have i1:=λh=>fQ (b:=b) (o:=0) (z:=1) (cap:=cap) (kd:=.i64) (h:=h) hlt;have i0:=λh=>fQ (b:=b) (o:=0) (z:=1) (cap:=cap) (kd:=.i64) (h:=h) (show k-1<zs.length by omega);simp only [Nat.mul_one,Nat.zero_add] at i1 i0;have l1:=rO (lo:=lo) hb e1;have l0:=rO (lo:=lo) hb e0;have hin:=Mi (E:=E) (T:=T) (val:=val) (kd:=kd) hb (zs:=zs) (cap:=cap) (cap2:=cap.map (· - k)) hn h1 hlt (zs.length-k-1) 1 k (zs.map (iv kd)) lo (by omega) (by omega) (by omega) (by simp) (λj hj _=>by simp [hj]);have hcl:=oJ (zs.drop k);simp only [List.length_drop] at hcl;rw [hd,hdL];generalize zs[k]'(by omega)=y at *;generalize zs[k-1]'(by omega)=x at *;by_cases hxy:x=y
  . obtain ⟨cur',lo',k1,k2,k3,k4⟩:=hin;simp only [show k+1-1=k by omega] at k1 k4;have hK:k+chg (zs.drop k)<zs.length:=by omega
    generalize hKe:k+chg (zs.drop k)=K at *;obtain ⟨cur2,c1,c3,c2⟩:=Jg (C:=Sm E T val) (lo:=lo') hb (cur:=cur') (e:=[(56,.row b K (zs.length-K) (cap.map (· - K)) 1),(55,.d (i64 K)),(54,.row b 0 zs.length cap 1),(0,.row b 0 zs.length cap 1),(3,.d (i64 K))]) (x:=.t 56) (n:=zs.length) (k:=K) (cap:=cap.map (· - K)) (zero:=.d (.int kd 0)) (by simp) k2 hK;have sl1:=λh=>Ah (h:=h) (ev:=X.ea [(27,.d (i64 k)),(26,.row b 0 zs.length cap 1),(25,.d (.bool true)),(24,iv kd x),(23,.ptr b (k-1)),(22,.d (i64 (k-1:Nat))),(21,.d (i64 k)),(20,.row b 0 zs.length cap 1),(19,iv kd y),(18,.ptr b k),(17,.d (i64 k)),(16,.row b 0 zs.length cap 1),(13,.d (.bool true)),(12,.d (i64 zs.length)),(11,.row b 0 zs.length cap 1),(10,.d (i64 k)),(0,.row b 0 zs.length cap 1),(3,.d (i64 k))]) (x:=.t 27) (b:=b) (n:=zs.length) (cap:=cap) (k:=k) (by simp) hlt h1;have sl2:=λh=>Ah (h:=h) (ev:=X.ea [(55,.d (i64 K)),(54,.row b 0 zs.length cap 1),(0,.row b 0 zs.length cap 1),(3,.d (i64 K))]) (x:=.t 55) (b:=b) (n:=zs.length) (cap:=cap) (k:=K) (by simp) hK (by omega);have sl3:=λh=>pF (h:=h) (ev:=X.ea [(58,.d (i64 K)),(57,.row b 0 zs.length cap 1),(56,.row b K (zs.length-K) (cap.map (· - K)) 1),(55,.d (i64 K)),(54,.row b 0 zs.length cap 1),(0,.row b 0 zs.length cap 1),(3,.d (i64 K))]) (x:=.t 58) (b:=b) (z:=1) (len:=zs.length) (cap:=cap) (n:=K) (by simp) (by omega);simp only [hxy,if_true,Nat.zero_add,List.nil_append]
    refine ⟨cur2,min lo' b,.inl ⟨?_,c1,by obtain k3 | k3:=k3<;>omega,?_⟩⟩
    . rw [key];subst hxy;simp [iv] at sl1;simp [kJ,i1,i0,l1,l0,iv,hwm,hlt,sl1,-aG];rw [aj];simp at k1;simp [k1,sl2];rw [c2];simp [sl3,hKe]
    . rw [hKe,c3,k4,List.map_append,List.map_take]
  . obtain ⟨cur',lo',hh⟩:=ih (k+1) (by omega) (by omega);simp only [show k+1-1=k by omega,htk] at hh;refine ⟨cur',lo',?_⟩;have hyx:¬ y=x:=λh=>hxy h.symm;have hadd:k+(1+chg (zs.drop k))=k+1+chg (zs.drop k):=by omega
    have happ:zs.take k++([y]++qy (zs.drop k))=zs.take k++[y]++qy (zs.drop k):=by simp
    simp only [hxy,if_false,hadd,happ];rw [key];simp [kJ,i1,i0,l1,l0,iv,hwm,hw,hlt,hyx,-aG];simpa [iv] using hh
theorem DD {id:FuncId}(ht:T id=some (cmpQ kd))(hv:val id=false){zs:List Int}{b lo:Nat}{cap:Option Nat}{bs:List Blk}(hb:b<bs.length)(hn:zs.length<2 ^ 62) :
 ∃ cur lo',Sm E T val id [.row b 0 zs.length cap 1] (Mr bs b (zs.map (iv kd)) lo)=some (.row b 0 (cmpL zs).length cap 1,Mr bs b cur lo')/\cur.take (cmpL zs).length=(cmpL zs).map (iv kd):=by
 have hl:(Mr bs b (zs.map (iv kd)) lo).bs.length=bs.length:=by simp [Mr]
 have hM:(⟨(Mr bs b (zs.map (iv kd)) lo).bs,bs.length⟩:Hp)=Mr bs b (zs.map (iv kd)) bs.length:=rfl;have hlow:∀ lo cur,(Mr bs b cur lo).low=lo:=λ_ _=>rfl;have hlen:∀ lo cur,(Mr bs b cur lo).bs.length=bs.length:=λ_ _=>by simp [Mr]
 have hmk:∀ cur lo lo',(⟨(Mr bs b cur lo).bs,lo'⟩:Hp)=Mr bs b cur lo':=λ_ _ _=>rfl;rw [aJ ht hv,hl,hM];by_cases h2:zs.length<2
 . have hz:cmpL zs=zs:=by
    match zs,h2 with
    | [],_=>rfl
    | [x],_=>rfl
    | _::_::_,h2=>simp at h2; omega
   rw [hz];refine ⟨zs.map (iv kd),lo,?_,by rw [List.take_of_length_le (by simp)]⟩;have h1:=hlow bs.length (zs.map (iv kd));have h3:=hlen bs.length (zs.map (iv kd));have h4:=hlow lo (zs.map (iv kd));have h5:=hlen lo (zs.map (iv kd));generalize Mr bs b (zs.map (iv kd)) bs.length=M0 at *;generalize Mr bs b (zs.map (iv kd)) lo=M1 at *;simp [cmpQ,af,show ((zs.length:Int)<2) from by omega,V.under,hb,h1,h5]
 . obtain ⟨x,l,rfl⟩:∃ x l,zs=x::l:=by
    cases zs with
    | nil=>simp at h2
    | cons x l=>exact ⟨x,l,rfl⟩
   have hc:=BO x l;have hcl:(cmpL (x::l)).length=1+chg (x::l):=by rw [hc,cg,rU]; omega
   obtain ⟨cur',lo',hh | hh⟩:=Jh (E:=E) (T:=T) (val:=val) (kd:=kd) (lo:=bs.length) (cap:=cap) hb hn ((x::l).length-1) 1 (by simp at h2 ⊢; omega) (by omega)
   . obtain ⟨k1,k2,k3,k4⟩:=hh;simp only [Nat.sub_self,List.drop_zero,List.take_succ_cons,List.take_zero,List.singleton_append] at k1 k4;rw [← hc] at k4;rw [hcl];have hlo:lo'=b:=by omega
     subst hlo;refine ⟨cur',min lo lo',?_,k4⟩;have h1:=hlow lo' cur';have h5:=hlen lo ((x::l).map (iv kd));have h6:=hlow lo ((x::l).map (iv kd));have h7:=hmk cur' lo' (min lo lo');generalize (x::l)=zs at *;generalize Mr bs lo' (zs.map (iv kd)) bs.length=M0 at *;generalize Mr bs lo' (zs.map (iv kd)) lo=M1 at *;generalize Mr bs lo' cur' lo'=M2 at *;simp at k1;simp [cmpQ,af,show ¬ ((zs.length:Int)<2) from by omega];rw [aj];simp [k1,V.under,hb,h1,h5,h6,h7,show ¬ (bs.length<=lo') from by omega]
   . obtain ⟨k1,k2,k3⟩:=hh;simp only [Nat.sub_self,List.drop_zero,List.take_succ_cons,List.take_zero,List.singleton_append] at k1 k2 k3;rw [← hc] at k3;rw [← k3];refine ⟨(x::l).map (iv kd),lo,?_,by rw [List.take_of_length_le (by simp)]⟩;have h1:=hlow bs.length ((x::l).map (iv kd));have h5:=hlen lo ((x::l).map (iv kd));generalize (x::l)=zs at *;generalize Mr bs b (zs.map (iv kd)) bs.length=M0 at *;generalize Mr bs b (zs.map (iv kd)) lo=M1 at *;simp at k1;simp [cmpQ,af,show ¬ ((zs.length:Int)<2) from by omega];rw [aj];simp [k1,V.under,hb,h1,h5]
end
end
section
abbrev aF:V:=.d (.slice true [])
def Mg (n M:Nat):List Blk:=[.cells [.fn 20 [.ptr (n+1) 0]],.cells [.fn 21 [.ptr (n+1) 0]],.cells [.fn 23 [.ptr n 0,.ptr M 0]],.cells [.fn 25 [.ptr n 0]],.cells [.fn 28 [.ptr (n+1) 0,.ptr (M+3) 0,.ptr (M+2) 0]]]
theorem iX {bs ys:List Blk}{k:Nat}:ah (bs++ys) (bs.length+k)=ah ys k:=by
 unfold ah; rw [bm (by omega)]; simp
theorem QN {n:Nat}{B X:List Blk}{c:Cfg}{s:Scp}{v4 v5 v6 v7:V}(hl:X.length=B.length)(h3:n+3<=B.length)(h0:ah X n=some (cq c v4 v5 v6 v7))(h1:ah X (n+1)=some (s.c.map .d))(ho:∀ x,x≠n->x≠n+2->x<B.length->X[x]?=B[x]?):OfM n B c s v4 v5 v6 v7 (X++Mg n B.length) :=
 ⟨av h0,av h1,by rw [← hl]; exact iX (k:=0),by rw [← hl]; exact iX (k:=1),by rw [← hl]; exact iX (k:=2),by rw [← hl]; exact iX (k:=3),by rw [← hl]; exact iX (k:=4),λx h0 h1 h2=>by
  rw [aq (by omega)]; exact ho x h0 h1 h2⟩
def mM (l:List Int):List V:=l.map λn=>.d (u32 n)
theorem Dn:∀ l:List Int,flat (l.map aY)=mM l
 | []=>rfl
 | x::l=>by
  have:=Dn l;simp only [flat,mM] at this ⊢;simp [aY,this]
def CvR (L D:Nat)(nl:Bool)(acc:List Int)(bs:List Blk)(v:V):Prop :=
 (nl=true/\acc=[]/\v=aF)\/(nl=false/\∃ b cap,L<=b/\b≠D/\v=.row b 0 acc.length cap 1/\((cap=none/\acc≠[])\/(cap=some 0/\acc=[]))/\ah bs b=some (mM acc))
structure Cv (n:Nat) (B:List Blk) (c:Cfg) (s:Scp) (v4 v5 v6 v7:V) (D:Nat) (nl:Bool) (acc:List Int) (bs:List Blk) (v:V):Prop where
 env:OfM n B c s v4 v5 v6 v7 bs
 b2:ah bs (n+2)=some [.d (.int .u64 0),aF,aF,aF,aF,aF]
 d8:B.length+5<=D
 d0:ah bs D=some (aC c.epoch v aF aF aF aF)
 is:CvR (B.length+5) D nl acc bs v
theorem RD (e:Int)(v:V):put [V.d (.int .u64 0),aF,aF,aF,aF,aF] 0 (aC e v aF aF aF aF)=some (aC e v aF aF aF aF):=rfl
def regV:List (List Nat)×List RO:=([[],[0],[],[2],[3,2],[1,0,4,3,2],[],[5,1,0,4,3,2,6]],[⟨none,some 30,.fldA (.t 2) 0⟩,⟨none,some 31,.load true 1 (.t 30)⟩,⟨none,some 32,.fldA (.t 3) 1⟩,⟨none,some 33,.load true 1 (.t 32)⟩,⟨none,some 34,.call (.c (.fn 29 [])) [.t 33]⟩,⟨none,some 35,.build [(.d (.int .u64 0)),(.d (.slice true [])),(.d (.slice true [])),(.d (.slice true [])),(.d (.slice true [])),(.d (.slice true []))] [(0,1,(.t 31)),(1,1,(.t 34))]⟩,⟨none,some 11,.new [(.d (.int .u64 0)),(.d (.slice true [])),(.d (.slice true [])),(.d (.slice true [])),(.d (.slice true [])),(.d (.slice true []))]⟩,⟨none,none,.store 6 (.t 11) (.t 35)⟩])
theorem ay2 {E:Calls'}{n:Nat}{B bs0:List Blk}{c:Cfg}{s:Scp}{v4 v5 v6 v7:V}(hE:OfM n B c s v4 v5 v6 v7 bs0)(hlen:bs0.length=B.length+5)(h3:n+3<=B.length)(hb2:ah bs0 (n+2)=some [.d (.int .u64 0),aF,aF,aF,aF,aF])(hs:short s.addrs)(x29 x25 x26 x27 x28 x24 x23 x21 x20 x19 x18 x17 x16 x15 x14 x5 x4 x6 x7 x8 x9 x10 x0 x1:V) :
 ∃ D v bs,∃ f:Nat->Nat,∃ x35 x33 x32 x31 x30,(∀ lo,ai (Sm E TJ aV) regV.1 regV.2 [(10,x10),(29,x29),(9,x9),(28,x28),(8,x8),(27,x27),(7,x7),(26,x26),(6,x6),(25,x25),(24,x24),(23,x23),(21,x21),(20,x20),(19,x19),(18,x18),(17,x17),(16,x16),(15,x15),(14,x14),(5,x5),(4,x4),(3,.ptr (n+1) 0),(2,.ptr n 0),(0,x0),(1,x1)] ⟨bs0,lo⟩ =
  some ([(11,.ptr D 0),(35,x35),(34,v),(33,x33),(32,x32),(31,x31),(30,x30),(10,x10),(29,x29),(9,x9),(28,x28),(8,x8),(27,x27),(7,x7),(26,x26),(6,x6),(25,x25),(24,x24),(23,x23),(21,x21),(20,x20),(19,x19),(18,x18),(17,x17),(16,x16),(15,x15),(14,x14),(5,x5),(4,x4),(3,.ptr (n+1) 0),(2,.ptr n 0),(0,x0),(1,x1)],⟨bs,f lo⟩))/\Cv n B c s v4 v5 v6 v7 D s.addrs.nl s.addrs.l bs v:=by
 have hcl:=λh=>om (E:=E) (T:=TJ) (val:=aV) WU XK (by decide) (by decide) (nl:=s.addrs.nl) (es:=s.addrs.l.map aY) (by simp [aY]) (by simpa using hs.1) h;have hd:s.addrs.d aY=.slice s.addrs.nl (s.addrs.l.map aY):=rfl;have p0:=λv=>RD c.epoch v;have h0:=λys=>av (ys:=ys) hE.b0;have h1:=λys=>av (ys:=ys) hE.b1;cases hnl:s.addrs.nl with
 | true =>
  have hl:=hs.2 hnl;rw [hnl] at hcl hd;simp [bO] at hcl;refine ⟨bs0.length,aF,bs0++[.cells (aC c.epoch aF aF aF aF aF)],λlo=>min lo bs0.length,.agg (aC c.epoch (aF) aF aF aF aF),.d (s.addrs.d aY),.ptr (n+1) 1,.d (u64 c.epoch),.ptr n 0,?_,hE.lay _,av hb2,by omega,by simp [ah],.inl ⟨rfl,hl,rfl⟩⟩;intro lo;simp +decide [regV,h0,h1,hE.b0,hE.b1,cs0,hd,hcl,ai,aa,az,aC,aL,bz,Tr.spares,List.range,List.range.loop];omega
 | false =>
  rw [hnl] at hcl hd;cases hll:s.addrs.l with
  | nil =>
   rw [hll] at hcl hd;simp [bO] at hcl hd;refine ⟨bs0.length+1,.row bs0.length 0 0 (some 0) 1,bs0++[.cells [],.cells (aC c.epoch (.row bs0.length 0 0 (some 0) 1) aF aF aF aF)],λlo=>min lo (bs0.length+1),.agg (aC c.epoch (.row bs0.length 0 0 (some 0) 1) aF aF aF aF),.d (s.addrs.d aY),.ptr (n+1) 1,.d (u64 c.epoch),.ptr n 0,?_,hE.lay _,av hb2,by omega,by simp [iX,ah],.inr ⟨rfl,bs0.length,some 0,by omega,by omega,rfl,.inr ⟨rfl,rfl⟩,by simp [ah,mM]⟩⟩;intro lo;simp +decide [regV,h0,h1,hE.b0,hE.b1,cs0,hd,hcl,ai,aa,az,aC,aL,bz,Tr.spares,List.range,List.range.loop];omega
  | cons p l' =>
   have hc2:∀ bs lo,bO 1 false (s.addrs.l.map aY) bs lo=(.row (bs.length+1) 0 s.addrs.l.length none 1,⟨bs++[.cells [],.cells (mM s.addrs.l)],lo⟩):=λbs lo=>by
    rw [← Dn,hll]; simp [bO]
   simp only [hc2] at hcl;rw [← hll];refine ⟨bs0.length+2,.row (bs0.length+1) 0 s.addrs.l.length none 1,bs0++[.cells [],.cells (mM s.addrs.l),.cells (aC c.epoch (.row (bs0.length+1) 0 s.addrs.l.length none 1) aF aF aF aF)],λlo=>min lo (bs0.length+2),.agg (aC c.epoch (.row (bs0.length+1) 0 s.addrs.l.length none 1) aF aF aF aF),.d (s.addrs.d aY),.ptr (n+1) 1,.d (u64 c.epoch),.ptr n 0,?_,hE.lay _,av hb2,by omega,by simp [iX,ah],.inr ⟨rfl,bs0.length+1,none,by omega,by omega,rfl,.inl ⟨rfl,by simp [hll]⟩,by simp [iX,ah]⟩⟩;clear hc2 hll;generalize mM s.addrs.l=us at *;generalize s.addrs.l.length=k at *;intro lo;simp +decide [regV,h0,h1,hE.b0,hE.b1,cs0,hd,hcl,ai,aa,az,aC,aL,bz,Tr.spares,List.range,List.range.loop];omega
end
section
theorem CvR.nu {L D:Nat}{nl:Bool}{acc:List Int}{bs:List Blk}{v:V}(h:CvR L D nl acc bs v):Go.Proofs.YtinmplbccmfheaaGreat.nu v=some v:=by
 obtain ⟨_,_,rfl⟩ | ⟨_,b,cap,_,_,rfl,_⟩:=h<;>rfl
theorem bI {bs bs':List Blk}{x:Nat}{cs:List V}(h:ah bs x=some cs)(ho:bs'[x]?=bs[x]?):ah bs' x=some cs:=by
 unfold ah at h ⊢; rw [ho]; exact h
theorem Cv.lay {n:Nat}{B:List Blk}{c:Cfg}{s:Scp}{v4 v5 v6 v7:V}{D:Nat}{nl:Bool}{acc:List Int}{bs:List Blk}{v:V}(h:Cv n B c s v4 v5 v6 v7 D nl acc bs v)(ys:List Blk):Cv n B c s v4 v5 v6 v7 D nl acc (bs++ys) v :=
 ⟨h.env.lay ys,av h.b2,h.d8,av h.d0,by
  obtain h | ⟨h1,b,cap,h2,h3,h4,h5,h6⟩:=h.is
  . exact .inl h
  . exact .inr ⟨h1,b,cap,h2,h3,h4,h5,av h6⟩⟩
theorem Cv.app {n:Nat}{B:List Blk}{c:Cfg}{s:Scp}{v4 v5 v6 v7:V}{D:Nat}{nl:Bool}{acc:List Int}{bs:List Blk}{v:V}(h:Cv n B c s v4 v5 v6 v7 D nl acc bs v)(h3:n+3<=B.length){m:Int}(hl:acc.length<big){r:Nat}(hr:ah bs r=some [.d (u32 m)]) :
 ∃ v' bs',∃ f:Nat->Nat,(∀ lo,d9 ⟨bs,lo⟩ 1 4 v (.row r 0 1 (some 1) 1)=some (v',⟨bs',f lo⟩))/\bs.length<=bs'.length/\nu v'=some v'/\v'.cells=some [v']/\ah bs' D=some (aC c.epoch v aF aF aF aF) ∧
  Cv n B c s v4 v5 v6 v7 D false (acc++[m]) (bs'.set D (.cells (aC c.epoch v' aF aF aF aF))) v':=by
 have hrc:∀ lo,aH ⟨bs,lo⟩ (.row r 0 1 (some 1) 1) 1=some (1,[.d (u32 m)]):=by
  intro lo;simp only [aH,if_true,get_eq,hr];rfl
 have hroom:∀ n,n<=big->roomy n 4=true:=λn hn=>by simp only [roomy,aE,bw]; exact ⟨hn,by decide⟩
 have h7:=h.env.len;have hD:=aK h.d0;have hd8:=h.d8;have hset:∀ {bs':List Blk} {v':V},bs.length<=bs'.length->ah (bs'.set D (.cells (aC c.epoch v' aF aF aF aF))) D=some (aC c.epoch v' aF aF aF aF):=λhle=>by
  unfold ah; rw [List.getElem?_set_self (by omega)]
 obtain ⟨h1,rfl,rfl⟩ | ⟨h1,b,cap,h2,h3',rfl,h4,h5⟩:=h.is
 . refine ⟨.row bs.length 0 1 none 1,bs++[.cells [.d (u32 m)]],λlo=>lo,λlo=>by simp only [d9,hrc,aI,if_neg (show ¬ (1=0) by decide),hroom 1 (by decide),if_true]; rfl,by simp,rfl,rfl,av h.d0,?_,?_,hd8,hset (by simp),.inr ⟨rfl,bs.length,none,by omega,by omega,rfl,.inl ⟨rfl,by simp⟩,?_⟩⟩
   . exact h.env.like h3 λx hx=>by rw [am (by omega),aq (by omega)]
   . exact bI h.b2 (by rw [am (by omega),aq (by omega)])
   . unfold ah; rw [am (by omega),bm (by omega)]; simp [mM]
 . have hsub:sub (mM acc) 0 (acc.length * 1)=some (mM acc):=bN (by simp [mM]);have hbl:=aK h5;obtain ⟨bs',hlen,hA,hold,hnew⟩:∃ bs':List Blk,bs'.length=bs.length+1/\(∃ f:Nat->Nat,∀ lo,d9 ⟨bs,lo⟩ 1 4 (.row b 0 acc.length cap 1) (.row r 0 1 (some 1) 1)=some (.row bs.length 0 (acc.length+1) none 1,⟨bs',f lo⟩))/\(∀ x,x≠b->x<bs.length->bs'[x]?=bs[x]?)/\bs'[bs.length]?=some (.cells (mM acc++[.d (u32 m)])):=by
    by_cases h0:acc=[]
    . subst h0;refine ⟨bs++[.cells [.d (u32 m)]],by simp,?_,λx _ hx=>by rw [aq hx],by simp [mM]⟩;have hb5:ah bs b=some []:=h5;obtain ⟨_,hh⟩ | ⟨rfl,_⟩:=h4
      . exact absurd rfl hh
      . exact ⟨λlo=>lo,λlo=>by simp [d9,hrc,aI,hroom 1 (by decide),get_eq,hb5,eG,Hp.size,Hp.alloc]⟩
    . have hcn:cap=none:=by
       obtain ⟨h,_⟩ | ⟨_,h⟩:=h4
       . exact h
       . exact absurd h h0
      subst hcn;have hpos:0<(mM acc).length:=by simp [mM]; exact List.length_pos_iff.2 h0
      refine ⟨bs.set b (.cells [])++[.cells (mM acc++[.d (u32 m)])],by simp,⟨λlo=>min lo b,λlo=>by simp only [d9,hrc,aI,ne_eq,not_true_eq_false,false_or,if_neg (show ¬ (1=0) by decide),get_eq,h5,hsub,hroom (acc.length+1) (by omega),Bool.not_true,bo,if_false,hpos,and_self,if_true,Hp.size,Hp.alloc,Hp.set,List.length_set]⟩,λx hx hl=>?_,?_⟩
      . rw [aq (by simpa using hl),am (by omega)]
      . rw [bm (by simp)]; simp
   obtain ⟨f,hA⟩:=hA;refine ⟨_,bs',f,hA,by omega,rfl,rfl,bI h.d0 (hold _ (by omega) hD),?_,?_,hd8,hset (by omega),.inr ⟨rfl,bs.length,none,by omega,by omega,by simp,.inl ⟨rfl,by simp⟩,?_⟩⟩
   . exact h.env.like h3 λx hx=>by rw [am (by omega),hold x (by omega) (by omega)]
   . exact bI h.b2 (by rw [am (by omega),hold (n+2) (by omega) (by omega)])
   . unfold ah; rw [am (by omega),hnew]; simp [mM]
def xe (c:Cfg)(node:Int)(l:List Svc):List Int:=(l.filter (fT c node)).map Svc.addr
theorem RG (e:Int)(v w:V):put (aC e v aF aF aF aF) 1 [w]=some (aC e w aF aF aF aF):=rfl
theorem Ub (e:Int)(v w2 w3 w4 w5:V):sub (aC e v w2 w3 w4 w5) 1 1=some [v]:=rfl
section
variable {E:Calls'}(H:OfC E)
include H
theorem al2 {n:Nat}{B:List Blk}{tag:Nat->Nat}{c:Cfg}{pl:List (Pol×V)}{s:Scp}{v4 v5 v6 v7:V}(S:OwnS (n+3) tag B c pl v4 v5 v6 v7)(h3:n+3<=B.length)(hc:c.ok){D:Nat}:∀ (m k:Nat) (acc:List Int) (nl:Bool) (bs:List Blk) (lo:Nat) (v:V),k+m=c.services.l.length->acc.length+m<=big->Cv n B c s v4 v5 v6 v7 D nl acc bs v →
 ∃ bs' lo' v' nl',Cd E TJ aV (.loop [2,4,6,7,8,9,10,11,37,38,39] q8) [(2,.ptr n 0),(4,.ptr (n+2) 0),(6,.ptr B.length 0),(7,.ptr (B.length+1) 0),(8,.ptr (B.length+2) 0),(9,.ptr (B.length+3) 0),(10,.ptr (B.length+4) 0),(11,.ptr D 0),(37,v5),(38,.d (i64 c.services.l.length)),(39,.d (i64 k))] ⟨bs,lo⟩ =
  some (.exit 0,[(2,.ptr n 0),(4,.ptr (n+2) 0),(6,.ptr B.length 0),(7,.ptr (B.length+1) 0),(8,.ptr (B.length+2) 0),(9,.ptr (B.length+3) 0),(10,.ptr (B.length+4) 0),(11,.ptr D 0)],⟨bs',lo'⟩) ∧
  Cv n B c s v4 v5 v6 v7 D nl' (acc++xe c s.node (c.services.l.drop k)) bs' v':=by
 have hlt:=hc.2.1.lt;intro m;have key:=ay (E:=E) (T:=TJ) (val:=aV) [2,4,6,7,8,9,10,11,37,38,39] q8;generalize Cd E TJ aV (.loop [2,4,6,7,8,9,10,11,37,38,39] q8)=W at key ⊢
 induction m with
 | zero =>
  intro k acc nl bs lo v hk ha hg;have h0:c.services.l.drop k=[]:=bb (by omega);refine ⟨bs,lo,v,nl,?_,by simpa [h0,xe] using hg⟩;rw [key];simp [q8,show ¬ ((k:Int)<c.services.l.length) from by omega]
 | succ m ih =>
  intro k acc nl bs lo v hk ha hg;have h1:k<c.services.l.length:=by omega
  have hr5:RowG (Tg (n+3) B.length tag 5) bs 5 (c.services.l.map qx) v5:=S.r5.on λx hx=>⟨hx,hg.env.old x hx.1 hx.2.1⟩;obtain ⟨p5,hp1,hp2⟩:=(hr5.rowT xn).at h1 (l:=lo);have hv5:=hr5.okv.2.1;have hw:=ax h1 hlt;have hdr:c.services.l.drop k=c.services.l[k]::c.services.l.drop (k+1):=ba h1;rw [hdr];generalize c.services.l[k]=p at *;have hD:=aK hg.d0;have hDb:¬ bs.length=D:=by omega
  have hDb':¬ D=bs.length:=by omega
  have hnu:=hg.is.nu;have hz:∀ x:Svc,put [V.d (.int .u64 0),.d (.str ⟨#[]⟩),.d (.int .u32 0),.d (.int .i64 0),.d (.int .u64 0)] 0 (x.c.map V.d)=some (x.c.map V.d):=λ_=>rfl;have hcs:qx p=p.c.map V.d:=rfl;rw [hcs] at hp2;have hfn:=λys=>av (ys:=ys) hg.env.b5;have hen:=hg.env.len;have hd8:=hg.d8;have n1:=λys lo=>QH H S hc (s:=s) (h:=⟨bs++ys,lo⟩) (hg.env.lay ys) p;cases hb:fT c s.node p with
  | false =>
   have hg2:=hg.lay [.cells (p.c.map .d)];obtain ⟨bs',lo',v',nl',q1,q2⟩:=ih (k+1) acc nl _ (min lo bs.length) v (by omega) (by omega) hg2;have hgF:xe c s.node (p::c.services.l.drop (k+1))=xe c s.node (c.services.l.drop (k+1)):=by simp [xe,hb]
   rw [hgF];refine ⟨bs',lo',v',nl',?_,q2⟩;rw [key];simp [q8,hv5,hp1,ldv,hp2,hw,hz,hfn,n1,hb,show ((k:Int)<c.services.l.length) from by omega];simpa using q1
  | true =>
   have hg2:=hg.lay [.cells (p.c.map .d),.cells [.d (u32 p.addr)]];have hsrc:ah (bs++[.cells (p.c.map .d),.cells [.d (u32 p.addr)]]) (bs.length+1)=some [.d (u32 p.addr)]:=by
    simp only [ah]; rw [bm (by omega)]; simp
   obtain ⟨v2,bs2,f,a1,a2,a3,a6,a4,a5⟩:=hg2.app h3 (by omega) hsrc;have hd2:=hg2.d0;obtain ⟨bs',lo',v',nl',q1,q2⟩:=ih (k+1) (acc++[p.addr]) false _ (min (f (min lo bs.length)) D) v2 (by omega) (by simp; omega) a5;have hgF:xe c s.node (p::c.services.l.drop (k+1))=p.addr::xe c s.node (c.services.l.drop (k+1)):=by simp [xe,hb]
   rw [hgF];refine ⟨bs',lo',v',nl',?_,by simpa using q2⟩;have hd3:=λys=>av (ys:=ys) hg.d0;rw [key];simp [q8,hv5,hp1,ldv,hp2,hw,hz,hfn,n1,hb,hd3,a1,a3,a4,a6,hnu,RG,Ub,aL,show ((k:Int)<c.services.l.length) from by omega];simpa using q1
end
end
section
structure OfR (E:Calls'):Prop extends OfC E where
 h41:∀ c:Cfg,c.wf 1048576->c.wf big->∀ h,E 18 [c.v] h=some (bl (bX c),h)
 h231:∀ r:Rule,r.fits big->∀ h,E 112 [ag r.c] h=some (ag r.own.c,h)
 h136:∀ (bs:List Blk) (b lo n:Nat) (cap:Option Nat),b<bs.length->∀ d:Array Int,d.size=n->n<2 ^ 59->∃ ys lo',E 30 [.row b 0 n cap 1] (Mz .u32 bs b d lo)=some (.tup [],Mr (bs++ys) b ((bM d.toList).map (iv .u32)) lo')
 h136n:∀ h,E 30 [aF] h=some (.tup [],h)
 h137:∀ (zs:List Int) (b lo:Nat) (cap:Option Nat) (bs:List Blk),b<bs.length->zs.length<2 ^ 62->∃ cur lo',E 31 [.row b 0 zs.length cap 1] (Mr bs b (zs.map (iv .u32)) lo)=some (.row b 0 (cmpL zs).length cap 1,Mr bs b cur lo')/\cur.take (cmpL zs).length=(cmpL zs).map (iv .u32)
 h137n:∀ h,E 31 [aF] h=some (aF,h)
def Wn (L U D:Nat):Nat->Prop:=λx=>L<=x/\x<U/\x≠D
def cU (a:Int):List V:=[.d (u32 a)]
theorem Jw (l:List Int):Vr.flat (l.map cU)=mM l:=by
 induction l with
 | nil=>rfl
 | cons x l ih =>
  simp only [Vr.flat,mM] at ih ⊢;simp [cU,ih]
structure Wst (n:Nat) (B:List Blk) (c:Cfg) (s:Scp) (v4 v5 v6 v7:V) (D:Nat) (bs:List Blk) (w1 w2 w3 w4 w5:V):Prop where
 env:OfM n B c s v4 v5 v6 v7 bs
 b2:ah bs (n+2)=some [.d (.int .u64 0),aF,aF,aF,aF,aF]
 d8:B.length+5<=D
 d0:ah bs D=some (aC c.epoch w1 w2 w3 w4 w5)
section
variable {n:Nat}{B:List Blk}{tag:Nat->Nat}{c:Cfg}{pl:List (Pol×V)}{s:Scp}{v4 v5 v6 v7:V}{D:Nat}{bs:List Blk}{w1 w2 w3 w4 w5:V}
theorem Wst.grow (h:Wst n B c s v4 v5 v6 v7 D bs w1 w2 w3 w4 w5)(h3:n+3<=B.length){bs':List Blk}(ho:∀ x,x<bs.length->bs'[x]?=bs[x]?):Wst n B c s v4 v5 v6 v7 D bs' w1 w2 w3 w4 w5:=by
 have hl:=h.env.len;exact ⟨h.env.like h3 λx hx=>ho x (by omega),bI h.b2 (ho (n+2) (by omega)),h.d8,bI h.d0 (ho D (aK h.d0))⟩
theorem Wst.put (h:Wst n B c s v4 v5 v6 v7 D bs w1 w2 w3 w4 w5)(h3:n+3<=B.length)(x1 x2 x3 x4 x5:V):Wst n B c s v4 v5 v6 v7 D (bs.set D (.cells (aC c.epoch x1 x2 x3 x4 x5))) x1 x2 x3 x4 x5:=by
 have h8:=h.d8;refine ⟨h.env.like h3 λx hx=>by rw [am (by omega)],bI h.b2 (by rw [am (by omega)]),h8,?_⟩;unfold ah; rw [List.getElem?_set_self (aK h.d0)]
theorem RowG.stepW {L U z:Nat}{es:List (List V)}{v:V}(h:RowG (Wn L U D) bs z es v){bs':List Blk}(hU:U<=bs.length)(ho:∀ x,x<bs.length->bs'[x]?=bs[x]?)(b:Blk):RowG (Wn L U D) (bs'.set D b) z es v :=
 h.on λx hx=>⟨hx,by rw [am (Ne.symm hx.2.2),ho x (by have:=hx.2.1; omega)]⟩
theorem Vr.KeptR.g {α:Type}{cells:α->List V}{z m:Nat}{nl:Bool}{l:List α}{v:V}(h:Vr.KeptR cells z m nl l bs v)(hD:D<m):RowG (Wn m bs.length D) bs z (l.map cells) v:=by
 obtain ⟨_,h1,h2⟩ | ⟨_,b,cap,rest,h1,h2,h3⟩:=h
 . exact .inl ⟨by simp [h1],h2⟩
 . exact .inr ⟨b,cap,rest,⟨h1,aK h3,by omega⟩,by simpa using h2,h3⟩
variable {E:Calls'}(H:OfR E)(h3:n+3<=B.length)
include H h3
theorem V6 {nl:Bool}{acc:List Int}{v:V}(h:Cv n B c s v4 v5 v6 v7 D nl acc bs v)(ha:acc.length<2 ^ 59)(lo:Nat):∃ bs2 lo2,E 30 [v] ⟨bs,lo⟩=some (.tup [],⟨bs2,lo2⟩)/\Cv n B c s v4 v5 v6 v7 D nl (bM acc) bs2 v:=by
 have h7:=h.env.len;have hd8:=h.d8;have hD:=aK h.d0;obtain ⟨h1,rfl,rfl⟩ | ⟨h1,b,cap,h2,h3',rfl,h4,h5⟩:=h.is
 . refine ⟨bs,lo,H.h136n _,h.env,h.b2,h.d8,h.d0,.inl ⟨h1,List.length_eq_zero_iff.1 (by rw [bM,List.length_mergeSort]; rfl),rfl⟩⟩
 . have hbl:=aK h5;have hM:Mz .u32 bs b ⟨acc⟩ lo=⟨bs,lo⟩:=Fh h5;obtain ⟨ys,lo',k⟩:=H.h136 bs b lo acc.length cap hbl ⟨acc⟩ rfl ha;rw [hM] at k;have hsl:(bM acc).length=acc.length:=by rw [bM,List.length_mergeSort]
   have hold:∀ x,x≠b->x<bs.length->(Mr (bs++ys) b ((bM acc).map (iv .u32)) lo').bs[x]?=bs[x]?:=λx hx hl=>by
    simp only [Mr]; rw [am (by omega),aq hl]
   refine ⟨_,lo',k,h.env.like h3 λx hx=>hold x (by omega) (by omega),bI h.b2 (hold (n+2) (by omega) (by omega)),hd8,bI h.d0 (hold D (by omega) hD),.inr ⟨h1,b,cap,h2,h3',by rw [hsl],?_,?_⟩⟩
   . obtain ⟨h4,h6⟩ | ⟨h4,h6⟩:=h4
     . exact .inl ⟨h4,λh0=>h6 (List.length_eq_zero_iff.1 (by rw [← hsl,h0]; rfl))⟩
     . exact .inr ⟨h4,List.length_eq_zero_iff.1 (by rw [hsl,h6]; rfl)⟩
   . have:ah (Mr (bs++ys) b ((bM acc).map (iv .u32)) lo').bs b=_:=ug (by simp; omega);exact this
theorem IW {nl:Bool}{acc:List Int}{v:V}(h:Cv n B c s v4 v5 v6 v7 D nl acc bs v)(ha:acc.length<2 ^ 62)(lo:Nat) :
 ∃ v' bs2 lo2,E 31 [v] ⟨bs,lo⟩=some (v',⟨bs2,lo2⟩)/\Wst n B c s v4 v5 v6 v7 D bs2 v aF aF aF aF/\RowG (Wn (B.length+5) bs2.length D) bs2 1 ((cmpL acc).map cU) v':=by
 have h7:=h.env.len;have hd8:=h.d8;have hD:=aK h.d0;obtain ⟨h1,rfl,rfl⟩ | ⟨h1,b,cap,h2,h3',rfl,h4,h5⟩:=h.is
 . exact ⟨aF,bs,lo,H.h137n _,⟨h.env,h.b2,h.d8,h.d0⟩,.inl ⟨rfl,rfl⟩⟩
 . have hbl:=aK h5;have hM:Mr bs b (acc.map (iv .u32)) lo=⟨bs,lo⟩:=Fh h5;obtain ⟨cur,lo',k,hc⟩:=H.h137 acc b lo cap bs hbl ha;rw [hM] at k;have hold:∀ x,x≠b->x<bs.length->(Mr bs b cur lo').bs[x]?=bs[x]?:=λx hx hl=>by
    simp only [Mr]; rw [am (by omega)]
   refine ⟨_,_,lo',k,⟨h.env.like h3 λx hx=>hold x (by omega) (by omega),bI h.b2 (hold (n+2) (by omega) (by omega)),hd8,bI h.d0 (hold D (by omega) hD)⟩,.inr ⟨b,cap,cur.drop (cmpL acc).length,⟨h2,by simpa [Mr] using hbl,h3'⟩,by simp,?_⟩⟩;have hg:ah (Mr bs b cur lo').bs b=_:=ug hbl;refine hg.trans ?_;rw [Jw];have:mM (cmpL acc)=cur.take (cmpL acc).length:=hc.symm;rw [this,List.take_append_drop]
variable (S:OwnS (n+3) tag B c pl v4 v5 v6 v7)(hc:c.ok)
include S hc
theorem Wk1 (h:Wst n B c s v4 v5 v6 v7 D bs w1 w2 w3 w4 w5)(hs:short s.addrs)(lo:Nat) :
 ∃ r bs' lo',Sm E TJ aV 32 [v4,.fn 33 [.ptr (B.length+4) 0,.ptr (B.length+1) 0,.ptr (B.length+3) 0]] ⟨bs,lo⟩=some (r,⟨bs',lo'⟩)/\bs.length<=bs'.length/\(∀ x,x<bs.length->bs'[x]?=bs[x]?)/\RowG (Wn bs.length bs'.length D) bs' 7 ((ja c s).map um) r:=by
 have hr:RowG (Tg (n+3) B.length tag 4) bs 7 (c.pods.l.map um) v4:=S.r4.on λx hx=>⟨hx,h.env.old x hx.1 hx.2.1⟩;obtain ⟨nl,hn,ha⟩:=hr.arg;obtain ⟨r,bs',lo',k1,k2,k3,k4⟩:=Vr.S_keep (E:=E) (cells:=um) PH PS WL XB JJ JL Xo X0 WX XL DX (by decide) rfl (by decide) (nl:=nl) (l:=c.pods.l) ⟨hc.1.1,λq=>by simpa using hn q⟩ (q:=qC c s) (h:=⟨bs,lo⟩) ha (f:=33) (caps:=[.ptr (B.length+4) 0,.ptr (B.length+1) 0,.ptr (B.length+3) 0]) λe _ bs2 lo2 h1 h2 =>
  ax0 H.toOfC S hc (h:=⟨bs2,lo2⟩) (h.grow h3 (by simpa using h2)).env hs e
 exact ⟨r,bs',lo',k1,k2,k3,k4.g (aK h.d0)⟩
theorem Wk2 (h:Wst n B c s v4 v5 v6 v7 D bs w1 w2 w3 w4 w5)(hs:short s.addrs){L U:Nat}(hU:U<=bs.length)(hr2:RowG (Wn L U D) bs 7 ((ja c s).map um) w2)(lo:Nat) :
 ∃ r bs' lo',Sm E TJ aV 35 [v5,.fn 36 [.ptr (B.length+1) 0,.ptr (B.length+2) 0,.ptr D 0]] ⟨bs,lo⟩=some (r,⟨bs',lo'⟩)/\bs.length<=bs'.length/\(∀ x,x<bs.length->bs'[x]?=bs[x]?)/\RowG (Wn bs.length bs'.length D) bs' 5 ((jb c s).map qx) r:=by
 have hl:(ja c s).length<2 ^ 62:=by have:=List.length_filter_le (qC c s) c.pods.l; have:=hc.1.lt; simp only [ja]; omega
 have hr:RowG (Tg (n+3) B.length tag 5) bs 5 (c.services.l.map qx) v5:=S.r5.on λx hx=>⟨hx,h.env.old x hx.1 hx.2.1⟩;obtain ⟨nl,hn,ha⟩:=hr.arg;obtain ⟨r,bs',lo',k1,k2,k3,k4⟩:=Vr.S_keep (E:=E) (cells:=qx) PN PV Xp X3 JK JM Xq X4 W9 XO xn (by decide) rfl (by decide) (nl:=nl) (l:=c.services.l) ⟨hc.2.1.1,λq=>by simpa using hn q⟩ (q:=Dj c s) (h:=⟨bs,lo⟩) ha (f:=36) (caps:=[.ptr (B.length+1) 0,.ptr (B.length+2) 0,.ptr D 0]) λe _ bs2 lo2 h1 h2=>by
  have hg:=h.grow h3 (bs':=bs2) (by simpa using h2);exact ax2 H.toOfC S hc (h:=⟨bs2,lo2⟩) hg.env hs hg.d0 hl ((hr2.on λx hx=>⟨hx,by simpa using h2 x (by have:=hx.2.1; show x<bs.length; omega)⟩).rowT DX) e
 exact ⟨r,bs',lo',k1,k2,k3,k4.g (aK h.d0)⟩
omit H in
theorem Wk3 (h:Wst n B c s v4 v5 v6 v7 D bs w1 w2 w3 w4 w5){L U:Nat}(hU:U<=bs.length)(hr3:RowG (Wn L U D) bs 5 ((jb c s).map qx) w3)(lo:Nat) :
 ∃ r bs' lo',Sm E TJ aV 39 [v6,.fn 40 [.ptr B.length 0,.ptr D 0]] ⟨bs,lo⟩=some (r,⟨bs',lo'⟩)/\bs.length<=bs'.length/\(∀ x,x<bs.length->bs'[x]?=bs[x]?)/\RowG (Wn bs.length bs'.length D) bs' 2 ((lY c s).map BK) r:=by
 have hl:(jb c s).length<2 ^ 62:=by have:=List.length_filter_le (Dj c s) c.services.l; have:=hc.2.1.lt; simp only [jb]; omega
 have hr:RowG (Tg (n+3) B.length tag 6) bs 2 (c.bound.l.map BK) v6:=S.r6.on λx hx=>⟨hx,h.env.old x hx.1 hx.2.1⟩;obtain ⟨nl,hn,ha⟩:=hr.arg;obtain ⟨r,bs',lo',k1,k2,k3,k4⟩:=Vr.S_keep (E:=E) (cells:=BK) PO PW Xr X5 WM XC Xt X6 Xf XR QQ (by decide) rfl (by decide) (nl:=nl) (l:=c.bound.l) ⟨hc.2.2.1.1,λq=>by simpa using hn q⟩ (q:=LA c s) (h:=⟨bs,lo⟩) ha (f:=40) (caps:=[.ptr B.length 0,.ptr D 0]) λe _ bs2 lo2 h1 h2=>by
  have hg:=h.grow h3 (bs':=bs2) (by simpa using h2);exact ax4 (h:=⟨bs2,lo2⟩) hg.env hg.d0 hl ((hr3.on λx hx=>⟨hx,by simpa using h2 x (by have:=hx.2.1; show x<bs.length; omega)⟩).rowT xn) e
 exact ⟨r,bs',lo',k1,k2,k3,k4.g (aK h.d0)⟩
theorem Wk4 (h:Wst n B c s v4 v5 v6 v7 D bs w1 w2 w3 w4 w5)(lo:Nat) :
 ∃ r bs' lo',Sm E TJ aV 42 [v7,.fn 43 [.ptr n 0,.ptr (B.length+4) 0]] ⟨bs,lo⟩=some (r,⟨bs',lo'⟩)/\bs.length<=bs'.length/\(∀ x,x<bs.length->bs'[x]?=bs[x]?)/\RowG (Wn bs.length bs'.length D) bs' 5 ((pl.filter λx=>fu c s.node x.1).map iJ) r:=by
 have hr:RowG (Tg (n+3) B.length tag 7) bs 5 (pl.map iJ) v7:=S.r7.on λx hx=>⟨hx,h.env.old x hx.1 hx.2.1⟩;have hpll:pl.length=c.policies.l.length:=by rw [S.pol]; simp
 obtain ⟨nl,hn,ha⟩:=hr.arg;obtain ⟨r,bs',lo',k1,k2,k3,k4⟩:=Vr.S_keep (E:=E) (cells:=iJ) PP PX Xu X7 Xy Yb Xv X8 Xi XV QP (by decide) rfl (by decide) (nl:=nl) (l:=pl) ⟨by rw [hpll]; exact hc.2.2.2.1.1,λq=>by simpa using hn q⟩ (q:=λx=>fu c s.node x.1) (h:=⟨bs,lo⟩) ha (f:=43) (caps:=[.ptr n 0,.ptr (B.length+4) 0]) λe he bs2 lo2 h1 h2 =>
  ax6 H.toOfC S hc (h:=⟨bs2,lo2⟩) (h.grow h3 (by simpa using h2)).env he
 exact ⟨r,bs',lo',k1,k2,k3,k4.g (aK h.d0)⟩
end
end
