/- policy.reader: term, net, port; rows of them. -/
import Derived.Test.YtjkfknafpgfchaaGreatUe
set_option maxRecDepth 100000
set_option linter.unusedVariables false
set_option linter.unusedSimpArgs false
namespace Go.Proofs.YtjkfknafpgfchaaGreat
section
theorem aa {bs bs':List Blk} {x p:Nat} {cs:List V} (ho:Old p bs bs') (hx:x ≠ p) (h:ah bs x = some cs):ah bs' x = some cs:=by
 have:=ho.2 x hx (aP h);unfold ah at h ⊢; rw [this]; exact h
theorem Old.set' {p b:Nat} {bs bs':List Blk} (h:Old p bs bs') (hb:bs.length <= b) (x:Blk):Old p bs (bs'.set b x) :=
 ⟨by simpa using h.1,fun y h1 h2=>by rw [List.getElem?_set_ne (by omega)]; exact h.2 y h1 h2⟩
theorem RdS.set' {p b:Nat} {bs:List Blk} {st:Option (List Int)} (h:RdS p bs st) (hb:p < b) (x:Blk):RdS p (bs.set b x) st :=
 h.upto fun y hy=>by rw [List.getElem?_set_ne (by omega)]
theorem Hngs.flat {K:Nat -> Prop} {bs:List Blk} {k:Nat}:∀ {ds:List D},(∀ d ∈ ds,∀ nl c cs,d ≠ .slice nl (c :: cs)) -> Hngs true K bs k (ds.map .d) ds
 | [],_=>trivial
 | d :: ds,h=>⟨Hng.d (h d (by simp)),Hngs.flat fun e he=>h e (by simp [he])⟩
section
variable {E:Calls'}
theorem dK {f:FuncId} {q:QF} (ht:TRd f = some q) (hv:aj f = false) {args:List V} {bs bs':List Blk} {v:V} {c:Nat} (hB:Bd E TRd aj q args ⟨bs,bs.length⟩ = some (v,⟨bs',c⟩)) (hc:bs.length <= c) (hu:v.under bs.length = true) (lo:Nat):Sm E TRd aj f args ⟨bs,lo⟩ = some (v,⟨bs,lo⟩):=by
 rw [aB ht hv];simp only at hB ⊢;rw [hB,nU,if_pos ⟨hc,hu⟩]
theorem dh {f:FuncId} {q:QF} (ht:TRd f = some q) (hv:aj f = false) {args:List V} {bs bs':List Blk} {v:V} {c:Nat} (hB:Bd E TRd aj q args ⟨bs,bs.length⟩ = some (v,⟨bs',c⟩)) (hc:c < bs.length) (lo:Nat):Sm E TRd aj f args ⟨bs,lo⟩ = some (v,⟨bs',min lo c⟩):=by
 rw [aB ht hv];simp only at hB ⊢;rw [hB,nU,if_neg (fun h=>by have:=h.1; simp only at this; omega)]
theorem wQ {p:Nat} {bs:List Blk} {st st1:Option (List Int)} {c:Int} (hR:RdS p bs st) (h:Step pByte st c st1) (h0:st1 = none -> c = 0):0 <= c /\ c < 256:=by
 cases st with
 | none=>rw [h0 h]; decide
 | some b =>
  cases b with
  | nil=>rw [h0 h]; decide
  | cons x l =>
   have h:c = x /\ st1 = some l:=h;obtain ⟨v,m,g1,g2,g3,g4,g5⟩:=hR;have:=g5 _ rfl;subst this;rw [h.1]; exact g3 x (by simp)
theorem hw0:IntKind.wrap .i64 0 = 0:=by decide
theorem Reads.none {α:Type} {f:FuncId} {args:List V} {p:Nat} {bs:List Blk} {P:Pr α} {enc:α -> D} {zero:α} (h:Reads E f args p bs none P enc zero) (lo:Nat):Sm E TRd aj f args ⟨bs,lo⟩ = some (.d (enc zero),⟨bs,lo⟩):=by
 obtain ⟨x,st',bs',F,h1,h2,h3,_,_,_,h7,_⟩:=h;have:=h3 h2;subst this;obtain ⟨e,q7⟩:=h7 rfl;subst e;rw [h1 lo,q7]
theorem XF {p:Nat} {bs:List Blk} (hR:RdS p bs none) (lo:Nat):Sm E TRd aj 405 [.ptr p 0] ⟨bs,lo⟩ = some (.d (.int .u8 0),⟨bs,lo⟩):=(Qt (E:=E) hR).none lo
theorem cf0 {p:Nat} {bs:List Blk} (hR:RdS p bs none) (lo:Nat):Sm E TRd aj 404 [.ptr p 0] ⟨bs,lo⟩ = some (.d (.int .u32 0),⟨bs,lo⟩):=(Xd (E:=E) hR).none lo
theorem by1 {p:Nat} {bs:List Blk} (hR:RdS p bs none) (lo:Nat):Sm E TRd aj 372 [.agg [.ptr p 0]] ⟨bs,lo⟩ = some (.agg [.d (u32 0),.d (i64 0)],⟨bs,lo⟩):=by
 have z1:=fun ys lo=>cf0 (E:=E) (hR.lay ys) lo;have z2:=fun ys lo=>XF (E:=E) (hR.lay ys) lo;have hB:∃ bs' c,Bd E TRd aj Aw [.agg [.ptr p 0]] ⟨bs,bs.length⟩ = some (.agg [.d (u32 0),.d (i64 0)],⟨bs',c⟩) /\ bs.length <= c:=by
  refine ⟨_,_,by simp (decide:=true) [af,Aw,hw0,z1,z2,aA,storeAt,put,sub,Hp.set]; first | exact ⟨rfl,rfl⟩ | exact rfl,by omega⟩
 obtain ⟨bs',c,hB,hc⟩:=hB;exact dK Pt P5 hB hc rfl lo
set_option maxHeartbeats 1000000 in
theorem bz2 {p:Nat} (bs:List Blk):Rds true E 372 [.agg [.ptr p 0]] p xU Cidr.c 0 (.agg [.d (u32 0),.d (i64 0)]) bs:=by
 intro st hR;have hp:=hR.lt;cases st with
 | none =>
  have hS:∃ x:Cidr,x.c.map V.d = [.d (u32 0),.d (i64 0)] /\ ∀ d ∈ x.c,∀ nl c cs,d ≠ .slice nl (c :: cs):=⟨⟨0,0⟩,rfl,by intro d hd; simp [Cidr.c,Sl.d] at hd; rcases hd with rfl | rfl <;> simp⟩;obtain ⟨x,hx,hd⟩:=hS;refine ⟨.agg [.d (u32 0),.d (i64 0)],_,x,none,bs,fun lo=>lo,fun lo=>by1 hR lo,rfl,by rw [← hx]; exact Hngs.flat hd,rfl,hR,Old.refl _ _,fun lo=>Nat.le_refl _,fun _=>⟨rfl,rfl,fun _=>rfl⟩,fun h=>absurd rfl h⟩
 | some b =>
  obtain ⟨x1,st1,bs1,F1,e1,s1,z1,r1,o1,l1,n1_,a1⟩:=Xd (E:=E) (hR.lay [.cells [.ptr p 0],.cells [.d (u32 0),.d (i64 0)]]);have hl1:=o1.1;simp only [List.length_append,List.length_cons,List.length_nil,List.length_set] at hl1;have gL1:ah bs1 bs.length = some [.ptr p 0]:=aa o1 (by omega) (by simp);have gR1:ah bs1 (bs.length + 1) = some [.d (u32 0),.d (i64 0)]:=aa o1 (by omega) (by simp);obtain ⟨x2,st2,bs2,F2,e2,s2,z2,r2,o2,l2,n2_,a2⟩:=Qt (E:=E) (r1.lay [.cells [.d (u32 x1),.d (i64 0)]]);have hc2:=wQ (r1) s2 z2;have hw2:IntKind.wrap .i64 x2 = x2:=wrap64 (by omega) (by omega);have hl2:=o2.1;simp only [List.length_append,List.length_cons,List.length_nil,List.length_set] at hl2;have gL2:ah bs2 bs.length = some [.ptr p 0]:=aa o2 (by omega) (au gL1);have gR2:ah bs2 (bs.length + 1) = some [.d (u32 0),.d (i64 0)]:=aa o2 (by omega) (au gR1);have gN2:ah bs2 bs1.length = some [.d (u32 x1),.d (i64 0)]:=aa o2 (by omega) (by simp);have hS:Step xU (some b) ⟨x1,x2⟩ st2:=Step.map (fun x:Int × Int=>(⟨x.1,x.2⟩:Cidr)) (s1.seq s2);have n1:¬ bs1.length = bs.length + 1:=by omega
  have n2:¬ bs.length + 1 = bs1.length:=by omega
  have n3:¬ bs1.length = bs.length:=by omega
  have n4:bs.length + 1 < bs2.length:=by omega
  have m2:bs1.length < bs2.length:=by omega
  have hB:∃ c',Bd E TRd aj Aw [.agg [.ptr p 0]] ⟨bs,bs.length⟩ = some (.agg [.d (u32 x1),.d (i64 x2)],⟨(bs2.set bs1.length (.cells [.d (u32 x1),.d (i64 x2)])).set (bs.length + 1) (.cells [.d (u32 x1),.d (i64 x2)]),c'⟩) /\ c' <= p:=by
   refine ⟨_,by simp (decide:=true) [af,Aw,e1,e2,hw2,aA,storeAt,put,sub,Hp.set,fun ys=>au (ys:=ys) gL1,gN2,gR2,ai,n1,n2,n3,n4,m2]; exact rfl,?_⟩;have q1:=a1 (by simp) bs.length;have q2:=l2 (min (F1 bs.length) bs1.length);omega
  obtain ⟨c',hB,hc⟩:=hB;have w2:∀ x,x ≠ p -> x ≠ bs1.length -> x ≠ bs.length + 1 -> x < bs2.length -> ((bs2.set bs1.length (.cells [.d (u32 x1),.d (i64 x2)])).set (bs.length + 1) (.cells [.d (u32 x1),.d (i64 x2)]))[x]? = bs2[x]?:=fun x _ y2 y3 _=>by rw [List.getElem?_set_ne (Ne.symm y3),List.getElem?_set_ne (Ne.symm y2)]
  have w1:∀ x,x ≠ p -> x ≠ bs1.length -> x ≠ bs.length + 1 -> x < bs1.length -> ((bs2.set bs1.length (.cells [.d (u32 x1),.d (i64 x2)])).set (bs.length + 1) (.cells [.d (u32 x1),.d (i64 x2)]))[x]? = bs1[x]?:=fun x y1 y2 y3 h4=>by rw [w2 x y1 y2 y3 (by omega),o2.2 x y1 (by simp; omega),List.getElem?_append_left h4]
  have d1:Old p bs bs1:=(Old.lay bs _).trans o1;have d2:Old p bs bs2:=(d1.trans (Old.lay bs1 _)).trans o2;refine ⟨.agg [.d (u32 x1),.d (i64 x2)],_,⟨x1,x2⟩,st2,(bs2.set bs1.length (.cells [.d (u32 x1),.d (i64 x2)])).set (bs.length + 1) (.cells [.d (u32 x1),.d (i64 x2)]),fun lo=>min lo c',fun lo=>dh Pt P5 hB (by omega) lo,rfl,⟨Hng.d (by simp),Hng.d (by simp),trivial⟩,hS,(r2.set' (by omega) _).set' (by omega) _,(d2.set' (by omega) _).set' (by omega) _,fun lo=>Nat.min_le_left _ _,fun h=>(by cases h),fun _ lo=>Nat.le_trans (Nat.min_le_right _ _) hc⟩
section
variable (h404:∀ x h,E 130 [.d (u64 x)] h = some (.d (i64 (dP x)),h))
include h404
theorem XE {most:Int} (h0:0 <= most) (h1:most < 2 ^ 62) {p:Nat} {bs:List Blk} (hR:RdS p bs none) (lo:Nat):Sm E TRd aj 137 [.ptr p 0,.d (i64 most)] ⟨bs,lo⟩ = some (.d (.str ⟨#[]⟩),⟨bs,lo⟩):=(wD h404 hR h0 h1).none lo
theorem by2 {p:Nat} {bs:List Blk} (hR:RdS p bs none) (lo:Nat):Sm E TRd aj 403 [.agg [.ptr p 0]] ⟨bs,lo⟩ = some (.agg [.d (i64 0),.d (.str ⟨#[]⟩)],⟨bs,lo⟩):=by
 have z1:=fun ys lo=>XF (E:=E) (hR.lay ys) lo;have z2:=fun ys lo=>XE h404 (most:=64) (by decide) (by decide) (hR.lay ys) lo;have hB:∃ bs' c,Bd E TRd aj Az [.agg [.ptr p 0]] ⟨bs,bs.length⟩ = some (.agg [.d (i64 0),.d (.str ⟨#[]⟩)],⟨bs',c⟩) /\ bs.length <= c:=by
  refine ⟨_,_,by simp (decide:=true) [af,Az,hw0,z1,z2,aA,storeAt,put,sub,Hp.set]; first | exact ⟨rfl,rfl⟩ | exact rfl,by omega⟩
 obtain ⟨bs',c,hB,hc⟩:=hB;exact dK Py P9 hB hc rfl lo
set_option maxHeartbeats 1000000 in
theorem bz4 {p:Nat} (bs:List Blk):Rds true E 403 [.agg [.ptr p 0]] p xW Term.c 0 (.agg [.d (i64 0),.d (.str ⟨#[]⟩)]) bs:=by
 intro st hR;have hp:=hR.lt;cases st with
 | none =>
  have hS:∃ x:Term,x.c.map V.d = [.d (i64 0),.d (.str ⟨#[]⟩)] /\ ∀ d ∈ x.c,∀ nl c cs,d ≠ .slice nl (c :: cs):=⟨⟨0,⟨#[]⟩⟩,rfl,by intro d hd; simp [Term.c,Sl.d] at hd; rcases hd with rfl | rfl <;> simp⟩;obtain ⟨x,hx,hd⟩:=hS;refine ⟨.agg [.d (i64 0),.d (.str ⟨#[]⟩)],_,x,none,bs,fun lo=>lo,fun lo=>by2 h404 hR lo,rfl,by rw [← hx]; exact Hngs.flat hd,rfl,hR,Old.refl _ _,fun lo=>Nat.le_refl _,fun _=>⟨rfl,rfl,fun _=>rfl⟩,fun h=>absurd rfl h⟩
 | some b =>
  obtain ⟨x1,st1,bs1,F1,e1,s1,z1,r1,o1,l1,n1_,a1⟩:=Qt (E:=E) (hR.lay [.cells [.ptr p 0],.cells [.d (i64 0),.d (.str ⟨#[]⟩)]]);have hc1:=wQ (hR) s1 z1;have hw1:IntKind.wrap .i64 x1 = x1:=wrap64 (by omega) (by omega);have hl1:=o1.1;simp only [List.length_append,List.length_cons,List.length_nil,List.length_set] at hl1;have gL1:ah bs1 bs.length = some [.ptr p 0]:=aa o1 (by omega) (by simp);have gR1:ah bs1 (bs.length + 1) = some [.d (i64 0),.d (.str ⟨#[]⟩)]:=aa o1 (by omega) (by simp);obtain ⟨x2,st2,bs2,F2,e2,s2,z2,r2,o2,l2,n2_,a2⟩:=wD h404 (r1.lay [.cells [.d (i64 x1),.d (.str ⟨#[]⟩)]]) (most:=64) (by decide) (by decide);have hl2:=o2.1;simp only [List.length_append,List.length_cons,List.length_nil,List.length_set] at hl2;have gL2:ah bs2 bs.length = some [.ptr p 0]:=aa o2 (by omega) (au gL1);have gR2:ah bs2 (bs.length + 1) = some [.d (i64 0),.d (.str ⟨#[]⟩)]:=aa o2 (by omega) (au gR1);have gN2:ah bs2 bs1.length = some [.d (i64 x1),.d (.str ⟨#[]⟩)]:=aa o2 (by omega) (by simp);have hS:Step xW (some b) ⟨x1,x2⟩ st2:=Step.map (fun x:Int × ByteArray=>(⟨x.1,x.2⟩:Term)) (s1.seq s2);have n1:¬ bs1.length = bs.length + 1:=by omega
  have n2:¬ bs.length + 1 = bs1.length:=by omega
  have n3:¬ bs1.length = bs.length:=by omega
  have n4:bs.length + 1 < bs2.length:=by omega
  have m2:bs1.length < bs2.length:=by omega
  have hB:∃ c',Bd E TRd aj Az [.agg [.ptr p 0]] ⟨bs,bs.length⟩ = some (.agg [.d (i64 x1),.d (.str x2)],⟨(bs2.set bs1.length (.cells [.d (i64 x1),.d (.str x2)])).set (bs.length + 1) (.cells [.d (i64 x1),.d (.str x2)]),c'⟩) /\ c' <= p:=by
   refine ⟨_,by simp (decide:=true) [af,Az,e1,e2,hw1,aA,storeAt,put,sub,Hp.set,fun ys=>au (ys:=ys) gL1,gN2,gR2,ai,n1,n2,n3,n4,m2]; exact rfl,?_⟩;have q1:=a1 (by simp) bs.length;have q2:=l2 (min (F1 bs.length) bs1.length);omega
  obtain ⟨c',hB,hc⟩:=hB;have w2:∀ x,x ≠ p -> x ≠ bs1.length -> x ≠ bs.length + 1 -> x < bs2.length -> ((bs2.set bs1.length (.cells [.d (i64 x1),.d (.str x2)])).set (bs.length + 1) (.cells [.d (i64 x1),.d (.str x2)]))[x]? = bs2[x]?:=fun x _ y2 y3 _=>by rw [List.getElem?_set_ne (Ne.symm y3),List.getElem?_set_ne (Ne.symm y2)]
  have w1:∀ x,x ≠ p -> x ≠ bs1.length -> x ≠ bs.length + 1 -> x < bs1.length -> ((bs2.set bs1.length (.cells [.d (i64 x1),.d (.str x2)])).set (bs.length + 1) (.cells [.d (i64 x1),.d (.str x2)]))[x]? = bs1[x]?:=fun x y1 y2 y3 h4=>by rw [w2 x y1 y2 y3 (by omega),o2.2 x y1 (by simp; omega),List.getElem?_append_left h4]
  have d1:Old p bs bs1:=(Old.lay bs _).trans o1;have d2:Old p bs bs2:=(d1.trans (Old.lay bs1 _)).trans o2;refine ⟨.agg [.d (i64 x1),.d (.str x2)],_,⟨x1,x2⟩,st2,(bs2.set bs1.length (.cells [.d (i64 x1),.d (.str x2)])).set (bs.length + 1) (.cells [.d (i64 x1),.d (.str x2)]),fun lo=>min lo c',fun lo=>dh Py P9 hB (by omega) lo,rfl,⟨Hng.d (by simp),Hng.d (by simp),trivial⟩,hS,(r2.set' (by omega) _).set' (by omega) _,(d2.set' (by omega) _).set' (by omega) _,fun lo=>Nat.min_le_left _ _,fun h=>(by cases h),fun _ lo=>Nat.le_trans (Nat.min_le_right _ _) hc⟩
theorem bx6 {most:Int} (h0:0 <= most) (h1:most < 2 ^ 63) {p:Nat} {bs:List Blk} (hR:RdS p bs none) (lo:Nat):Sm E TRd aj 217 [.agg [.ptr p 0],.d (i64 most)] ⟨bs,lo⟩ = some (.d (i64 0),⟨bs,lo⟩):=by
 obtain ⟨n,st1,bs1,F1,a1,a2,a3,a4,a5,a6,a7,a8,a9⟩:=ET h404 hR h0 h1;obtain ⟨e1,e2,q8⟩:=a8 rfl;subst e1 e2;rw [a1,q8]
theorem bz3 {p:Nat} (bs:List Blk):Rds true E 374 [.agg [.ptr p 0]] p Ck jJ 0 (.d (i64 0)) bs:=by
 intro st hR;have hp:=hR.lt;cases st with
 | none =>
  have z1:=fun ys lo=>bx6 h404 (most:=65536) (by decide) (by decide) (hR.lay ys) lo;have hB:∃ bs' c,Bd E TRd aj Ay [.agg [.ptr p 0]] ⟨bs,bs.length⟩ = some (.d (i64 0),⟨bs',c⟩) /\ bs.length <= c:=by
   refine ⟨_,_,by simp (decide:=true) [af,Ay,z1]; first | exact ⟨rfl,rfl⟩ | exact rfl,by omega⟩
  obtain ⟨bs',c,hB,hc⟩:=hB;exact ⟨.d (i64 0),_,0,none,bs,fun lo=>lo,fun lo=>dK Pw P7 hB hc rfl lo,rfl,⟨Hng.d (by simp),trivial⟩,rfl,hR,Old.refl _ _,fun lo=>Nat.le_refl _,fun _=>⟨rfl,rfl,fun _=>rfl⟩,fun h=>absurd rfl h⟩
 | some b =>
  obtain ⟨n,st1,bs1,F1,a1,a2,a3,a4,a5,a6,a7,a8,a9⟩:=ET h404 (hR.lay [.cells [.ptr p 0]]) (most:=65536) (by decide) (by decide);have a9:=a9 (by simp) bs.length;have hB:Bd E TRd aj Ay [.agg [.ptr p 0]] ⟨bs,bs.length⟩ = some (.d (i64 n),⟨bs1,F1 bs.length⟩):=by
   simp (decide:=true) [af,Ay,a1]
  exact ⟨.d (i64 n),_,n,st1,bs1,fun lo=>min lo (F1 bs.length),fun lo=>dh Pw P7 hB (by omega) lo,rfl,⟨Hng.d (by simp),trivial⟩,a2.1,a5,(Old.lay bs _).trans a6,fun lo=>Nat.min_le_left _ _,fun h=>(by cases h),fun _ lo=>Nat.le_trans (Nat.min_le_right _ _) a9⟩
theorem W9 {p:Nat} {bs:List Blk} (hR:RdS p bs none) (lo:Nat):Sm E TRd aj 402 [.agg [.ptr p 0],.d (i64 6),.mfn 403 [.agg [.ptr p 0]]] ⟨bs,lo⟩ = some (.d (.slice true []),⟨bs,lo⟩):=mP h404 (Px:TRd 402 = some (rowQ 217 2 24 [(.d (i64 0)),(.d (.str ⟨#[]⟩))])) P8 rfl rfl (by decide) (by decide) hR lo
theorem Xp {p:Nat} (bs:List Blk):RdsR true E 402 [.agg [.ptr p 0],.d (i64 6),.mfn 403 [.agg [.ptr p 0]]] p (pSl 6 xW) Term.c 1 bs :=
 rE h404 (Px:TRd 402 = some (rowQ 217 2 24 [(.d (i64 0)),(.d (.str ⟨#[]⟩))])) P8 (by decide) (by decide) rfl (fun _=>rfl) (g:=403) (args:=[.agg [.ptr p 0]]) (fun _ _=>rfl) rfl rfl (by decide) (by decide) fun bs' _=>(bz4 h404 bs').weak
theorem WY {p:Nat} {bs:List Blk} (hR:RdS p bs none) (lo:Nat):Sm E TRd aj 371 [.agg [.ptr p 0],.d (i64 6),.mfn 372 [.agg [.ptr p 0]]] ⟨bs,lo⟩ = some (.d (.slice true []),⟨bs,lo⟩):=mP h404 (Ps:TRd 371 = some (rowQ 217 2 16 [(.d (u32 0)),(.d (i64 0))])) PZ rfl rfl (by decide) (by decide) hR lo
theorem Xn {p:Nat} (bs:List Blk):RdsR true E 371 [.agg [.ptr p 0],.d (i64 6),.mfn 372 [.agg [.ptr p 0]]] p (pSl 6 xU) Cidr.c 1 bs :=
 rE h404 (Ps:TRd 371 = some (rowQ 217 2 16 [(.d (u32 0)),(.d (i64 0))])) PZ (by decide) (by decide) rfl (fun _=>rfl) (g:=372) (args:=[.agg [.ptr p 0]]) (fun _ _=>rfl) rfl rfl (by decide) (by decide) fun bs' _=>(bz2 (E:=E) bs').weak
theorem WZ {p:Nat} {bs:List Blk} (hR:RdS p bs none) (lo:Nat):Sm E TRd aj 373 [.agg [.ptr p 0],.d (i64 6),.mfn 374 [.agg [.ptr p 0]]] ⟨bs,lo⟩ = some (.d (.slice true []),⟨bs,lo⟩):=mP h404 (Pv:TRd 373 = some (rowQ 217 1 8 [(.d (i64 0))])) P6 rfl rfl (by decide) (by decide) hR lo
theorem Xo {p:Nat} (bs:List Blk):RdsR true E 373 [.agg [.ptr p 0],.d (i64 6),.mfn 374 [.agg [.ptr p 0]]] p (pSl 6 Ck) jJ 1 bs :=
 rE h404 (Pv:TRd 373 = some (rowQ 217 1 8 [(.d (i64 0))])) P6 (by decide) (by decide) rfl (fun _=>rfl) (g:=374) (args:=[.agg [.ptr p 0]]) (fun _ _=>rfl) rfl rfl (by decide) (by decide) fun bs' _=>(bz3 h404 bs').weak
theorem ES {p:Nat} {bs:List Blk} (hR:RdS p bs none) (lo:Nat):Sm E TRd aj 370 [.agg [.ptr p 0]] ⟨bs,lo⟩ = some (.d (.slice true []),⟨bs,lo⟩):=by
 have z1:=fun ys lo=>W9 h404 (hR.lay ys) lo;have hB:∃ bs' c,Bd E TRd aj Av [.agg [.ptr p 0]] ⟨bs,bs.length⟩ = some (.d (.slice true []),⟨bs',c⟩) /\ bs.length <= c:=by
  refine ⟨_,_,by simp (decide:=true) [af,Av,z1]; first | exact ⟨rfl,rfl⟩ | exact rfl,by omega⟩
 obtain ⟨bs',c,hB,hc⟩:=hB;exact dK Pq PY hB hc rfl lo
theorem CW {p:Nat} (bs:List Blk):RdsR true E 370 [.agg [.ptr p 0]] p pTerms Term.c 1 bs:=by
 refine RdsR.mk (ES h404) fun b hR=>?_;have hp:=hR.lt;obtain ⟨v,x,st1,bs1,F1,e,vc,hg,s,r,o,l,a⟩:=Xp h404 _ _ (hR.lay [.cells [.ptr p 0]]);have a:=a (by simp) bs.length;have hB:Bd E TRd aj Av [.agg [.ptr p 0]] ⟨bs,bs.length⟩ = some (v,⟨bs1,F1 bs.length⟩):=by
  simp (decide:=true) [af,Av,e,vc.2]
 exact ⟨v,x,st1,bs1,fun lo=>min lo (F1 bs.length),fun lo=>dh Pq PY hB (by omega) lo,vc,hg.on (fun _ _=>rfl) fun x hx=>⟨by have h1:=hx.1; simp only [List.length_append,List.length_cons,List.length_nil] at h1; omega,hx.2⟩,s,r,(Old.lay bs _).trans o,fun lo=>Nat.min_le_left _ _,fun lo=>Nat.le_trans (Nat.min_le_right _ _) a⟩
theorem by0 {p:Nat} {bs:List Blk} (hR:RdS p bs none) (lo:Nat):Sm E TRd aj 291 [.agg [.ptr p 0]] ⟨bs,lo⟩ = some (.agg [.d (.str ⟨#[]⟩),.d (.slice true [])],⟨bs,lo⟩):=by
 have z1:=fun ys lo=>XE h404 (most:=64) (by decide) (by decide) (hR.lay ys) lo;have z2:=fun ys lo=>ES h404 (hR.lay ys) lo;have hB:∃ bs' c,Bd E TRd aj Au [.agg [.ptr p 0]] ⟨bs,bs.length⟩ = some (.agg [.d (.str ⟨#[]⟩),.d (.slice true [])],⟨bs',c⟩) /\ bs.length <= c:=by
  refine ⟨_,_,by simp (decide:=true) [af,Au,hw0,z1,z2,aA,storeAt,put,sub,Hp.set]; first | exact ⟨rfl,rfl⟩ | exact rfl,by omega⟩
 obtain ⟨bs',c,hB,hc⟩:=hB;exact dK Pp PX hB hc rfl lo
set_option maxHeartbeats 1000000 in
theorem bz1 {p:Nat} (bs:List Blk):Rds true E 291 [.agg [.ptr p 0]] p yc When.c 1 (.agg [.d (.str ⟨#[]⟩),.d (.slice true [])]) bs:=by
 intro st hR;have hp:=hR.lt;cases st with
 | none =>
  have hS:∃ x:When,x.c.map V.d = [.d (.str ⟨#[]⟩),.d (.slice true [])] /\ ∀ d ∈ x.c,∀ nl c cs,d ≠ .slice nl (c :: cs):=⟨⟨⟨#[]⟩,⟨true,[]⟩⟩,rfl,by intro d hd; simp [When.c,Sl.d] at hd; rcases hd with rfl | rfl <;> simp⟩;obtain ⟨x,hx,hd⟩:=hS;refine ⟨.agg [.d (.str ⟨#[]⟩),.d (.slice true [])],_,x,none,bs,fun lo=>lo,fun lo=>by0 h404 hR lo,rfl,by rw [← hx]; exact Hngs.flat hd,rfl,hR,Old.refl _ _,fun lo=>Nat.le_refl _,fun _=>⟨rfl,rfl,fun _=>rfl⟩,fun h=>absurd rfl h⟩
 | some b =>
  obtain ⟨x1,st1,bs1,F1,e1,s1,z1,r1,o1,l1,n1_,a1⟩:=wD h404 (hR.lay [.cells [.ptr p 0],.cells [.d (.str ⟨#[]⟩),.d (.slice true [])]]) (most:=64) (by decide) (by decide);have hl1:=o1.1;simp only [List.length_append,List.length_cons,List.length_nil,List.length_set] at hl1;have gL1:ah bs1 bs.length = some [.ptr p 0]:=aa o1 (by omega) (by simp);have gR1:ah bs1 (bs.length + 1) = some [.d (.str ⟨#[]⟩),.d (.slice true [])]:=aa o1 (by omega) (by simp);obtain ⟨v2,x2,st2,bs2,F2,e2,vc2,hg2,s2,r2,o2,l2,a2⟩:=CW h404 _ _ (r1.lay [.cells [.d (.str x1),.d (.slice true [])]]);have hl2:=o2.1;simp only [List.length_append,List.length_cons,List.length_nil,List.length_set] at hl2;have gL2:ah bs2 bs.length = some [.ptr p 0]:=aa o2 (by omega) (au gL1);have gR2:ah bs2 (bs.length + 1) = some [.d (.str ⟨#[]⟩),.d (.slice true [])]:=aa o2 (by omega) (au gR1);have gN2:ah bs2 bs1.length = some [.d (.str x1),.d (.slice true [])]:=aa o2 (by omega) (by simp);have hS:Step yc (some b) ⟨x1,x2⟩ st2:=Step.map (fun x:ByteArray × Sl Term=>(⟨x.1,x.2⟩:When)) (s1.seq s2);have n1:¬ bs1.length = bs.length + 1:=by omega
  have n2:¬ bs.length + 1 = bs1.length:=by omega
  have n3:¬ bs1.length = bs.length:=by omega
  have n4:bs.length + 1 < bs2.length:=by omega
  have m2:bs1.length < bs2.length:=by omega
  have hB:∃ c',Bd E TRd aj Au [.agg [.ptr p 0]] ⟨bs,bs.length⟩ = some (.agg [.d (.str x1),v2],⟨(bs2.set bs1.length (.cells [.d (.str x1),v2])).set (bs.length + 1) (.cells [.d (.str x1),v2]),c'⟩) /\ c' <= p:=by
   refine ⟨_,by simp (decide:=true) [af,Au,e1,e2,vc2.1,vc2.2,aA,storeAt,put,sub,Hp.set,fun ys=>au (ys:=ys) gL1,gN2,gR2,ai,n1,n2,n3,n4,m2]; exact rfl,?_⟩;have q1:=a1 (by simp) bs.length;have q2:=l2 (min (F1 bs.length) bs1.length);omega
  obtain ⟨c',hB,hc⟩:=hB;have w2:∀ x,x ≠ p -> x ≠ bs1.length -> x ≠ bs.length + 1 -> x < bs2.length -> ((bs2.set bs1.length (.cells [.d (.str x1),v2])).set (bs.length + 1) (.cells [.d (.str x1),v2]))[x]? = bs2[x]?:=fun x _ y2 y3 _=>by rw [List.getElem?_set_ne (Ne.symm y3),List.getElem?_set_ne (Ne.symm y2)]
  have w1:∀ x,x ≠ p -> x ≠ bs1.length -> x ≠ bs.length + 1 -> x < bs1.length -> ((bs2.set bs1.length (.cells [.d (.str x1),v2])).set (bs.length + 1) (.cells [.d (.str x1),v2]))[x]? = bs1[x]?:=fun x y1 y2 y3 h4=>by rw [w2 x y1 y2 y3 (by omega),o2.2 x y1 (by simp; omega),List.getElem?_append_left h4]
  have hh2:Hng true (KL bs.length ((bs2.set bs1.length (.cells [.d (.str x1),v2])).set (bs.length + 1) (.cells [.d (.str x1),v2]))) ((bs2.set bs1.length (.cells [.d (.str x1),v2])).set (bs.length + 1) (.cells [.d (.str x1),v2])) v2 (Sl.d Term.c x2) 1:=(hg2.up (by omega)).on (fun x hx=>by
   have h1:=hx.1;simp only [List.length_append,List.length_cons,List.length_nil,List.length_set] at h1;exact w2 x (by omega) (by omega) (by omega) hx.2) fun x hx=>⟨by
   have h1:=hx.1;simp only [List.length_append,List.length_cons,List.length_nil,List.length_set] at h1;omega,by have h2:=hx.2; simp only [List.length_set]; omega⟩
  have d1:Old p bs bs1:=(Old.lay bs _).trans o1;have d2:Old p bs bs2:=(d1.trans (Old.lay bs1 _)).trans o2;refine ⟨.agg [.d (.str x1),v2],_,⟨x1,x2⟩,st2,(bs2.set bs1.length (.cells [.d (.str x1),v2])).set (bs.length + 1) (.cells [.d (.str x1),v2]),fun lo=>min lo c',fun lo=>dh Pp PX hB (by omega) lo,rfl,⟨Hng.d (by simp),hh2,trivial⟩,hS,(r2.set' (by omega) _).set' (by omega) _,(d2.set' (by omega) _).set' (by omega) _,fun lo=>Nat.min_le_left _ _,fun h=>(by cases h),fun _ lo=>Nat.le_trans (Nat.min_le_right _ _) hc⟩
theorem bx8 {p:Nat} {bs:List Blk} (hR:RdS p bs none) (lo:Nat):Sm E TRd aj 287 [.agg [.ptr p 0]] ⟨bs,lo⟩ = some (.agg [.d (.slice true []),.d (.slice true []),.d (.slice true [])],⟨bs,lo⟩):=by
 have z1:=fun ys lo=>ES h404 (hR.lay ys) lo;have z2:=fun ys lo=>ES h404 (hR.lay ys) lo;have z3:=fun ys lo=>WY h404 (hR.lay ys) lo;have hB:∃ bs' c,Bd E TRd aj Ap [.agg [.ptr p 0]] ⟨bs,bs.length⟩ = some (.agg [.d (.slice true []),.d (.slice true []),.d (.slice true [])],⟨bs',c⟩) /\ bs.length <= c:=by
  refine ⟨_,_,by simp (decide:=true) [af,Ap,hw0,z1,z2,z3,aA,storeAt,put,sub,Hp.set]; first | exact ⟨rfl,rfl⟩ | exact rfl,by omega⟩
 obtain ⟨bs',c,hB,hc⟩:=hB;exact dK Pk PS hB hc rfl lo
set_option maxHeartbeats 1000000 in
theorem by9 {p:Nat} (bs:List Blk):Rds true E 287 [.agg [.ptr p 0]] p oK Source.c 1 (.agg [.d (.slice true []),.d (.slice true []),.d (.slice true [])]) bs:=by
 intro st hR;have hp:=hR.lt;cases st with
 | none =>
  have hS:∃ x:Source,x.c.map V.d = [.d (.slice true []),.d (.slice true []),.d (.slice true [])] /\ ∀ d ∈ x.c,∀ nl c cs,d ≠ .slice nl (c :: cs):=⟨⟨⟨true,[]⟩,⟨true,[]⟩,⟨true,[]⟩⟩,rfl,by intro d hd; simp [Source.c,Sl.d] at hd; rcases hd with rfl | rfl | rfl <;> simp⟩;obtain ⟨x,hx,hd⟩:=hS;refine ⟨.agg [.d (.slice true []),.d (.slice true []),.d (.slice true [])],_,x,none,bs,fun lo=>lo,fun lo=>bx8 h404 hR lo,rfl,by rw [← hx]; exact Hngs.flat hd,rfl,hR,Old.refl _ _,fun lo=>Nat.le_refl _,fun _=>⟨rfl,rfl,fun _=>rfl⟩,fun h=>absurd rfl h⟩
 | some b =>
  obtain ⟨v1,x1,st1,bs1,F1,e1,vc1,hg1,s1,r1,o1,l1,a1⟩:=CW h404 _ _ (hR.lay [.cells [.ptr p 0],.cells [.d (.slice true []),.d (.slice true []),.d (.slice true [])]]);have hl1:=o1.1;simp only [List.length_append,List.length_cons,List.length_nil,List.length_set] at hl1;have gL1:ah bs1 bs.length = some [.ptr p 0]:=aa o1 (by omega) (by simp);have gR1:ah bs1 (bs.length + 1) = some [.d (.slice true []),.d (.slice true []),.d (.slice true [])]:=aa o1 (by omega) (by simp);obtain ⟨v2,x2,st2,bs2,F2,e2,vc2,hg2,s2,r2,o2,l2,a2⟩:=CW h404 _ _ (r1.lay [.cells [v1,.d (.slice true []),.d (.slice true [])]]);have hl2:=o2.1;simp only [List.length_append,List.length_cons,List.length_nil,List.length_set] at hl2;have gL2:ah bs2 bs.length = some [.ptr p 0]:=aa o2 (by omega) (au gL1);have gR2:ah bs2 (bs.length + 1) = some [.d (.slice true []),.d (.slice true []),.d (.slice true [])]:=aa o2 (by omega) (au gR1);have gN2:ah bs2 bs1.length = some [v1,.d (.slice true []),.d (.slice true [])]:=aa o2 (by omega) (by simp);obtain ⟨v3,x3,st3,bs3,F3,e3,vc3,hg3,s3,r3,o3,l3,a3⟩:=Xn h404 _ _ (r2.set' (b:=bs1.length) (by omega) (.cells [v1,v2,.d (.slice true [])]));have hl3:=o3.1;simp only [List.length_append,List.length_cons,List.length_nil,List.length_set] at hl3;have gL3:ah bs3 bs.length = some [.ptr p 0]:=aa o3 (by omega) (by rw [ai,if_neg (by omega)]; exact gL2)
  have gR3:ah bs3 (bs.length + 1) = some [.d (.slice true []),.d (.slice true []),.d (.slice true [])]:=aa o3 (by omega) (by rw [ai,if_neg (by omega)]; exact gR2);have gN3:ah bs3 bs1.length = some [v1,v2,.d (.slice true [])]:=aa o3 (by omega) (by rw [ai,if_pos rfl,if_pos (by omega)]);have hS:Step oK (some b) ⟨x1,x2,x3⟩ st3:=Step.map (fun x:Sl Term × Sl Term × Sl Cidr=>(⟨x.1,x.2.1,x.2.2⟩:Source)) (s1.seq (s2.seq s3));have n1:¬ bs1.length = bs.length + 1:=by omega
  have n2:¬ bs.length + 1 = bs1.length:=by omega
  have n3:¬ bs1.length = bs.length:=by omega
  have n4:bs.length + 1 < bs3.length:=by omega
  have m2:bs1.length < bs2.length:=by omega
  have m3:bs1.length < bs3.length:=by omega
  have hB:∃ c',Bd E TRd aj Ap [.agg [.ptr p 0]] ⟨bs,bs.length⟩ = some (.agg [v1,v2,v3],⟨(bs3.set bs1.length (.cells [v1,v2,v3])).set (bs.length + 1) (.cells [v1,v2,v3]),c'⟩) /\ c' <= p:=by
   refine ⟨_,by simp (decide:=true) [af,Ap,e1,e2,e3,vc1.1,vc1.2,vc2.1,vc2.2,vc3.1,vc3.2,aA,storeAt,put,sub,Hp.set,fun ys=>au (ys:=ys) gL1,gL2,gN2,gN3,gR3,ai,n1,n2,n3,n4,m2,m3]; exact rfl,?_⟩;have q1:=a1 (by simp) bs.length;have q2:=l2 (min (F1 bs.length) bs1.length);have q3:=l3 (min (F2 (min (F1 bs.length) bs1.length)) bs1.length);omega
  obtain ⟨c',hB,hc⟩:=hB;have w3:∀ x,x ≠ p -> x ≠ bs1.length -> x ≠ bs.length + 1 -> x < bs3.length -> ((bs3.set bs1.length (.cells [v1,v2,v3])).set (bs.length + 1) (.cells [v1,v2,v3]))[x]? = bs3[x]?:=fun x _ y2 y3 _=>by rw [List.getElem?_set_ne (Ne.symm y3),List.getElem?_set_ne (Ne.symm y2)]
  have w2:∀ x,x ≠ p -> x ≠ bs1.length -> x ≠ bs.length + 1 -> x < bs2.length -> ((bs3.set bs1.length (.cells [v1,v2,v3])).set (bs.length + 1) (.cells [v1,v2,v3]))[x]? = bs2[x]?:=fun x y1 y2 y3 h4=>by rw [w3 x y1 y2 y3 (by omega),o3.2 x y1 (by simp; omega),List.getElem?_set_ne (Ne.symm y2)]
  have w1:∀ x,x ≠ p -> x ≠ bs1.length -> x ≠ bs.length + 1 -> x < bs1.length -> ((bs3.set bs1.length (.cells [v1,v2,v3])).set (bs.length + 1) (.cells [v1,v2,v3]))[x]? = bs1[x]?:=fun x y1 y2 y3 h4=>by rw [w2 x y1 y2 y3 (by omega),o2.2 x y1 (by simp; omega),List.getElem?_append_left h4]
  have hh1:Hng true (KL bs.length ((bs3.set bs1.length (.cells [v1,v2,v3])).set (bs.length + 1) (.cells [v1,v2,v3]))) ((bs3.set bs1.length (.cells [v1,v2,v3])).set (bs.length + 1) (.cells [v1,v2,v3])) v1 (Sl.d Term.c x1) 1:=(hg1.up (by omega)).on (fun x hx=>by
   have h1:=hx.1;simp only [List.length_append,List.length_cons,List.length_nil,List.length_set] at h1;exact w1 x (by omega) (by have h2:=hx.2; omega) (by omega) hx.2) fun x hx=>⟨by
   have h1:=hx.1;simp only [List.length_append,List.length_cons,List.length_nil,List.length_set] at h1;omega,by have h2:=hx.2; simp only [List.length_set]; omega⟩
  have hh2:Hng true (KL bs.length ((bs3.set bs1.length (.cells [v1,v2,v3])).set (bs.length + 1) (.cells [v1,v2,v3]))) ((bs3.set bs1.length (.cells [v1,v2,v3])).set (bs.length + 1) (.cells [v1,v2,v3])) v2 (Sl.d Term.c x2) 1:=(hg2.up (by omega)).on (fun x hx=>by
   have h1:=hx.1;simp only [List.length_append,List.length_cons,List.length_nil,List.length_set] at h1;exact w2 x (by omega) (by omega) (by omega) hx.2) fun x hx=>⟨by
   have h1:=hx.1;simp only [List.length_append,List.length_cons,List.length_nil,List.length_set] at h1;omega,by have h2:=hx.2; simp only [List.length_set]; omega⟩
  have hh3:Hng true (KL bs.length ((bs3.set bs1.length (.cells [v1,v2,v3])).set (bs.length + 1) (.cells [v1,v2,v3]))) ((bs3.set bs1.length (.cells [v1,v2,v3])).set (bs.length + 1) (.cells [v1,v2,v3])) v3 (Sl.d Cidr.c x3) 1:=(hg3.up (by omega)).on (fun x hx=>by
   have h1:=hx.1;simp only [List.length_append,List.length_cons,List.length_nil,List.length_set] at h1;exact w3 x (by omega) (by omega) (by omega) hx.2) fun x hx=>⟨by
   have h1:=hx.1;simp only [List.length_append,List.length_cons,List.length_nil,List.length_set] at h1;omega,by have h2:=hx.2; simp only [List.length_set]; omega⟩
  have d1:Old p bs bs1:=(Old.lay bs _).trans o1;have d2:Old p bs bs2:=(d1.trans (Old.lay bs1 _)).trans o2;have d3:Old p bs bs3:=(d2.set' (by omega) _).trans o3;refine ⟨.agg [v1,v2,v3],_,⟨x1,x2,x3⟩,st3,(bs3.set bs1.length (.cells [v1,v2,v3])).set (bs.length + 1) (.cells [v1,v2,v3]),fun lo=>min lo c',fun lo=>dh Pk PS hB (by omega) lo,rfl,⟨hh1,hh2,hh3,trivial⟩,hS,(r3.set' (by omega) _).set' (by omega) _,(d3.set' (by omega) _).set' (by omega) _,fun lo=>Nat.min_le_left _ _,fun h=>(by cases h),fun _ lo=>Nat.le_trans (Nat.min_le_right _ _) hc⟩
end
end
end
section
section
variable {E:Calls'} (h404:∀ x h,E 130 [.d (u64 x)] h = some (.d (i64 (dP x)),h))
include h404
set_option maxHeartbeats 1000000 in
theorem bx9 {p:Nat} {bs:List Blk} (hR:RdS p bs none) (lo:Nat):Sm E TRd aj 289 [.agg [.ptr p 0]] ⟨bs,lo⟩ = some (.agg [.d (.slice true []),.d (.slice true []),.d (.slice true []),.d (.slice true [])],⟨bs,lo⟩):=by
 have z1:=fun ys lo=>WZ h404 (hR.lay ys) lo;have z2:=fun ys lo=>ES h404 (hR.lay ys) lo;have hB:∃ bs' c,Bd E TRd aj Aq [.agg [.ptr p 0]] ⟨bs,bs.length⟩ = some (.agg [.d (.slice true []),.d (.slice true []),.d (.slice true []),.d (.slice true [])],⟨bs',c⟩) /\ bs.length <= c:=by
  have key:=ax (E:=E) (T:=TRd) (val:=aj) [1,2,3,14,15,16] eH;have w1:IntKind.wrap .i64 1 = 1:=by decide
  have w2:IntKind.wrap .i64 2 = 2:=by decide
  have w3:IntKind.wrap .i64 3 = 3:=by decide
  refine ⟨bs ++ [.cells [.ptr p 0],.cells [.d (.slice true []),.d (.slice true []),.d (.slice true []),.d (.slice true [])],.cells [.d (.slice true []),.d (.slice true []),.d (.slice true []),.d (.slice true [])],.cells [.ptr (bs.length + 2) 1,.ptr (bs.length + 2) 2,.ptr (bs.length + 2) 3]],bs.length,?_,Nat.le_refl _⟩;simp (decide:=true) [af,Aq,z1,aA,storeAt,put,sub,Hp.set];rw [aH];simp;generalize Cd E TRd aj (.loop [1,2,3,14,15,16] eH) = W at key ⊢;rw [key];simp (decide:=true) [eH,z2,fP,storeAt,put,sub,Hp.set,w1];rw [key];simp (decide:=true) [eH,z2,fP,storeAt,put,sub,Hp.set,w2];rw [key];simp (decide:=true) [eH,z2,fP,storeAt,put,sub,Hp.set,w3];rw [key];simp (decide:=true) [eH,storeAt,put,sub,Hp.set]
 obtain ⟨bs',c,hB,hc⟩:=hB;exact dK Pn PU hB hc rfl lo
set_option maxHeartbeats 1000000 in
theorem bz0 {p:Nat} (bs:List Blk):Rds true E 289 [.agg [.ptr p 0]] p oL Target.c 1 (.agg [.d (.slice true []),.d (.slice true []),.d (.slice true []),.d (.slice true [])]) bs:=by
 intro st hR;have hp:=hR.lt;cases st with
 | none =>
  have hS:∃ x:Target,x.c.map V.d = [.d (.slice true []),.d (.slice true []),.d (.slice true []),.d (.slice true [])] /\ ∀ d ∈ x.c,∀ nl c cs,d ≠ .slice nl (c :: cs):=⟨⟨⟨true,[]⟩,⟨true,[]⟩,⟨true,[]⟩,⟨true,[]⟩⟩,rfl,by intro d hd; simp [Target.c,Sl.d] at hd; rcases hd with rfl | rfl | rfl | rfl <;> simp⟩;obtain ⟨x,hx,hd⟩:=hS;exact ⟨.agg [.d (.slice true []),.d (.slice true []),.d (.slice true []),.d (.slice true [])],_,x,none,bs,fun lo=>lo,fun lo=>bx9 h404 hR lo,rfl,by rw [← hx]; exact Hngs.flat hd,rfl,hR,Old.refl _ _,fun lo=>Nat.le_refl _,fun _=>⟨rfl,rfl,fun _=>rfl⟩,fun h=>absurd rfl h⟩
 | some b =>
  obtain ⟨v1,x1,st1,bs1,F1,e1,vc1,hg1,s1,r1,o1,l1,a1⟩:=Xo h404 _ _ (hR.lay [.cells [.ptr p 0],.cells [.d (.slice true []),.d (.slice true []),.d (.slice true []),.d (.slice true [])]]);have hl1:=o1.1;simp only [List.length_append,List.length_cons,List.length_nil,List.length_set] at hl1;have gL1:ah bs1 bs.length = some [.ptr p 0]:=aa o1 (by omega) (by simp);have gR1:ah bs1 (bs.length + 1) = some [.d (.slice true []),.d (.slice true []),.d (.slice true []),.d (.slice true [])]:=aa o1 (by omega) (by simp);obtain ⟨v2,x2,st2,bs2,F2,e2,vc2,hg2,s2,r2,o2,l2,a2⟩:=CW h404 _ _ (r1.lay [.cells [v1,.d (.slice true []),.d (.slice true []),.d (.slice true [])],.cells [.ptr bs1.length 1,.ptr bs1.length 2,.ptr bs1.length 3]]);have hl2:=o2.1;simp only [List.length_append,List.length_cons,List.length_nil,List.length_set] at hl2;have gL2:ah bs2 bs.length = some [.ptr p 0]:=aa o2 (by omega) (au gL1);have gR2:ah bs2 (bs.length + 1) = some [.d (.slice true []),.d (.slice true []),.d (.slice true []),.d (.slice true [])]:=aa o2 (by omega) (au gR1);have gN2:ah bs2 bs1.length = some [v1,.d (.slice true []),.d (.slice true []),.d (.slice true [])]:=aa o2 (by omega) (by simp);have gP2:ah bs2 (bs1.length + 1) = some [.ptr bs1.length 1,.ptr bs1.length 2,.ptr bs1.length 3]:=aa o2 (by omega) (by simp)
  obtain ⟨v3,x3,st3,bs3,F3,e3,vc3,hg3,s3,r3,o3,l3,a3⟩:=CW h404 _ _ (r2.set' (b:=bs1.length) (by omega) (.cells [v1,v2,.d (.slice true []),.d (.slice true [])]));have hl3:=o3.1;simp only [List.length_append,List.length_cons,List.length_nil,List.length_set] at hl3;have gL3:ah bs3 bs.length = some [.ptr p 0]:=aa o3 (by omega) (by rw [ai,if_neg (by omega)]; exact gL2);have gR3:ah bs3 (bs.length + 1) = some [.d (.slice true []),.d (.slice true []),.d (.slice true []),.d (.slice true [])]:=aa o3 (by omega) (by rw [ai,if_neg (by omega)]; exact gR2);have gP3:ah bs3 (bs1.length + 1) = some [.ptr bs1.length 1,.ptr bs1.length 2,.ptr bs1.length 3]:=aa o3 (by omega) (by rw [ai,if_neg (by omega)]; exact gP2);have gN3:ah bs3 bs1.length = some [v1,v2,.d (.slice true []),.d (.slice true [])]:=aa o3 (by omega) (by rw [ai,if_pos rfl,if_pos (by omega)]);obtain ⟨v4,x4,st4,bs4,F4,e4,vc4,hg4,s4,r4,o4,l4,a4⟩:=CW h404 _ _ (r3.set' (b:=bs1.length) (by omega) (.cells [v1,v2,v3,.d (.slice true [])]));have hl4:=o4.1;simp only [List.length_append,List.length_cons,List.length_nil,List.length_set] at hl4;have gL4:ah bs4 bs.length = some [.ptr p 0]:=aa o4 (by omega) (by rw [ai,if_neg (by omega)]; exact gL3);have gR4:ah bs4 (bs.length + 1) = some [.d (.slice true []),.d (.slice true []),.d (.slice true []),.d (.slice true [])]:=aa o4 (by omega) (by rw [ai,if_neg (by omega)]; exact gR3)
  have gP4:ah bs4 (bs1.length + 1) = some [.ptr bs1.length 1,.ptr bs1.length 2,.ptr bs1.length 3]:=aa o4 (by omega) (by rw [ai,if_neg (by omega)]; exact gP3);have gN4:ah bs4 bs1.length = some [v1,v2,v3,.d (.slice true [])]:=aa o4 (by omega) (by rw [ai,if_pos rfl,if_pos (by omega)]);have hS:Step oL (some b) ⟨x1,x2,x3,x4⟩ st4:=Step.map (fun x:Sl Int × Sl Term × Sl Term × Sl Term=>(⟨x.1,x.2.1,x.2.2.1,x.2.2.2⟩:Target)) (s1.seq (s2.seq (s3.seq s4)));have n1:¬ bs1.length = bs.length + 1:=by omega
  have n2:¬ bs.length + 1 = bs1.length:=by omega
  have n3:¬ bs1.length = bs.length:=by omega
  have n4:bs.length + 1 < bs4.length:=by omega
  have n5:¬ bs1.length = bs1.length + 1:=by omega
  have m2:bs1.length < bs2.length:=by omega
  have m3:bs1.length < bs3.length:=by omega
  have m4:bs1.length < bs4.length:=by omega
  have w1:IntKind.wrap .i64 1 = 1:=by decide
  have w2:IntKind.wrap .i64 2 = 2:=by decide
  have w3:IntKind.wrap .i64 3 = 3:=by decide
  have hB:∃ c',Bd E TRd aj Aq [.agg [.ptr p 0]] ⟨bs,bs.length⟩ = some (.agg [v1,v2,v3,v4],⟨(bs4.set bs1.length (.cells [v1,v2,v3,v4])).set (bs.length + 1) (.cells [v1,v2,v3,v4]),c'⟩) /\ c' <= p:=by
   have key:=ax (E:=E) (T:=TRd) (val:=aj) [1,2,3,14,15,16] eH;refine ⟨min (min (min (F4 (min (F3 (min (F2 (min (F1 bs.length) bs1.length)) bs1.length)) bs1.length)) bs1.length) (bs.length + 1)) p,?_,Nat.min_le_right _ _⟩;have q1:=a1 (by simp) bs.length;have q2:=l2 (min (F1 bs.length) bs1.length);have q3:=l3 (min (F2 (min (F1 bs.length) bs1.length)) bs1.length);have q4:=l4 (min (F3 (min (F2 (min (F1 bs.length) bs1.length)) bs1.length)) bs1.length);simp (decide:=true) [af,Aq,e1,vc1.1,vc1.2,aA,storeAt,put,sub,Hp.set,fun ys=>au (ys:=ys) gL1];rw [aH];simp;generalize Cd E TRd aj (.loop [1,2,3,14,15,16] eH) = W at key ⊢;rw [key];simp (decide:=true) [eH,e2,vc2.1,vc2.2,fP,storeAt,put,sub,Hp.set,fun ys=>au (ys:=ys) gL1,gN2,w1];rw [key];simp (decide:=true) [eH,e3,vc3.1,vc3.2,fP,storeAt,put,sub,Hp.set,gL2,gP2,gN3,ai,n3,n5,m2,w2];rw [key];simp (decide:=true) [eH,e4,vc4.1,vc4.2,fP,storeAt,put,sub,Hp.set,gL3,gP3,gN4,ai,n3,n5,m3,w3];rw [key];simp (decide:=true) [eH,storeAt,put,sub,Hp.set,ai,n1,n2,n4,m4,gR4];omega
  obtain ⟨c',hB,hc⟩:=hB;have w4:∀ x,x ≠ p -> x ≠ bs1.length -> x ≠ bs.length + 1 -> x < bs4.length -> ((bs4.set bs1.length (.cells [v1,v2,v3,v4])).set (bs.length + 1) (.cells [v1,v2,v3,v4]))[x]? = bs4[x]?:=fun x _ y2 y3 _=>by rw [List.getElem?_set_ne (Ne.symm y3),List.getElem?_set_ne (Ne.symm y2)]
  have w3:∀ x,x ≠ p -> x ≠ bs1.length -> x ≠ bs.length + 1 -> x < bs3.length -> ((bs4.set bs1.length (.cells [v1,v2,v3,v4])).set (bs.length + 1) (.cells [v1,v2,v3,v4]))[x]? = bs3[x]?:=fun x y1 y2 y3 h4=>by rw [w4 x y1 y2 y3 (by omega),o4.2 x y1 (by simp; omega),List.getElem?_set_ne (Ne.symm y2)]
  have w2:∀ x,x ≠ p -> x ≠ bs1.length -> x ≠ bs.length + 1 -> x < bs2.length -> ((bs4.set bs1.length (.cells [v1,v2,v3,v4])).set (bs.length + 1) (.cells [v1,v2,v3,v4]))[x]? = bs2[x]?:=fun x y1 y2 y3 h4=>by rw [w3 x y1 y2 y3 (by omega),o3.2 x y1 (by simp; omega),List.getElem?_set_ne (Ne.symm y2)]
  have w1:∀ x,x ≠ p -> x ≠ bs1.length -> x ≠ bs.length + 1 -> x < bs1.length -> ((bs4.set bs1.length (.cells [v1,v2,v3,v4])).set (bs.length + 1) (.cells [v1,v2,v3,v4]))[x]? = bs1[x]?:=fun x y1 y2 y3 h4=>by rw [w2 x y1 y2 y3 (by omega),o2.2 x y1 (by simp; omega),List.getElem?_append_left h4]
  have hh1:Hng true (KL bs.length ((bs4.set bs1.length (.cells [v1,v2,v3,v4])).set (bs.length + 1) (.cells [v1,v2,v3,v4]))) ((bs4.set bs1.length (.cells [v1,v2,v3,v4])).set (bs.length + 1) (.cells [v1,v2,v3,v4])) v1 (Sl.d jJ x1) 1:=(hg1.up (by omega)).on (fun x hx=>by
   have h1:=hx.1;simp only [List.length_append,List.length_cons,List.length_nil,List.length_set] at h1;exact w1 x (by omega) (by have h2:=hx.2; omega) (by omega) hx.2) fun x hx=>⟨by
   have h1:=hx.1;simp only [List.length_append,List.length_cons,List.length_nil,List.length_set] at h1;omega,by have h2:=hx.2; simp only [List.length_set]; omega⟩
  have hh2:Hng true (KL bs.length ((bs4.set bs1.length (.cells [v1,v2,v3,v4])).set (bs.length + 1) (.cells [v1,v2,v3,v4]))) ((bs4.set bs1.length (.cells [v1,v2,v3,v4])).set (bs.length + 1) (.cells [v1,v2,v3,v4])) v2 (Sl.d Term.c x2) 1:=(hg2.up (by omega)).on (fun x hx=>by
   have h1:=hx.1;simp only [List.length_append,List.length_cons,List.length_nil,List.length_set] at h1;exact w2 x (by omega) (by omega) (by omega) hx.2) fun x hx=>⟨by
   have h1:=hx.1;simp only [List.length_append,List.length_cons,List.length_nil,List.length_set] at h1;omega,by have h2:=hx.2; simp only [List.length_set]; omega⟩
  have hh3:Hng true (KL bs.length ((bs4.set bs1.length (.cells [v1,v2,v3,v4])).set (bs.length + 1) (.cells [v1,v2,v3,v4]))) ((bs4.set bs1.length (.cells [v1,v2,v3,v4])).set (bs.length + 1) (.cells [v1,v2,v3,v4])) v3 (Sl.d Term.c x3) 1:=(hg3.up (by omega)).on (fun x hx=>by
   have h1:=hx.1;simp only [List.length_append,List.length_cons,List.length_nil,List.length_set] at h1;exact w3 x (by omega) (by omega) (by omega) hx.2) fun x hx=>⟨by
   have h1:=hx.1;simp only [List.length_append,List.length_cons,List.length_nil,List.length_set] at h1;omega,by have h2:=hx.2; simp only [List.length_set]; omega⟩
  have hh4:Hng true (KL bs.length ((bs4.set bs1.length (.cells [v1,v2,v3,v4])).set (bs.length + 1) (.cells [v1,v2,v3,v4]))) ((bs4.set bs1.length (.cells [v1,v2,v3,v4])).set (bs.length + 1) (.cells [v1,v2,v3,v4])) v4 (Sl.d Term.c x4) 1:=(hg4.up (by omega)).on (fun x hx=>by
   have h1:=hx.1;simp only [List.length_append,List.length_cons,List.length_nil,List.length_set] at h1;exact w4 x (by omega) (by omega) (by omega) hx.2) fun x hx=>⟨by
   have h1:=hx.1;simp only [List.length_append,List.length_cons,List.length_nil,List.length_set] at h1;omega,by have h2:=hx.2; simp only [List.length_set]; omega⟩
  have d1:Old p bs bs1:=(Old.lay bs _).trans o1;have d2:Old p bs bs2:=(d1.trans (Old.lay bs1 _)).trans o2;have d3:Old p bs bs3:=(d2.set' (by omega) _).trans o3;have d4:Old p bs bs4:=(d3.set' (by omega) _).trans o4;exact ⟨.agg [v1,v2,v3,v4],_,⟨x1,x2,x3,x4⟩,st4,(bs4.set bs1.length (.cells [v1,v2,v3,v4])).set (bs.length + 1) (.cells [v1,v2,v3,v4]),fun lo=>min lo c',fun lo=>dh Pn PU hB (by omega) lo,rfl,⟨hh1,hh2,hh3,hh4,trivial⟩,hS,(r4.set' (by omega) _).set' (by omega) _,(d4.set' (by omega) _).set' (by omega) _,fun lo=>Nat.min_le_left _ _,fun h=>(by cases h),fun _ lo=>Nat.le_trans (Nat.min_le_right _ _) hc⟩
theorem WV {p:Nat} {bs:List Blk} (hR:RdS p bs none) (lo:Nat):Sm E TRd aj 286 [.agg [.ptr p 0],.d (i64 3),.mfn 287 [.agg [.ptr p 0]]] ⟨bs,lo⟩ = some (.d (.slice true []),⟨bs,lo⟩):=mP h404 (Pj:TRd 286 = some (rowQ 217 3 72 [(.d (.slice true [])),(.d (.slice true [])),(.d (.slice true []))])) PR rfl rfl (by decide) (by decide) hR lo
theorem Xk {p:Nat} (bs:List Blk):RdsR true E 286 [.agg [.ptr p 0],.d (i64 3),.mfn 287 [.agg [.ptr p 0]]] p (pSl 3 oK) Source.c 2 bs :=
 rE h404 (Pj:TRd 286 = some (rowQ 217 3 72 [(.d (.slice true [])),(.d (.slice true [])),(.d (.slice true []))])) PR (by decide) (by decide) rfl (fun _=>rfl) (g:=287) (args:=[.agg [.ptr p 0]]) (fun _ _=>rfl) rfl rfl (by decide) (by decide) fun bs' _=>(by9 h404 bs').weak
theorem WW {p:Nat} {bs:List Blk} (hR:RdS p bs none) (lo:Nat):Sm E TRd aj 288 [.agg [.ptr p 0],.d (i64 3),.mfn 289 [.agg [.ptr p 0]]] ⟨bs,lo⟩ = some (.d (.slice true []),⟨bs,lo⟩):=mP h404 (Pm:TRd 288 = some (rowQ 217 4 96 [(.d (.slice true [])),(.d (.slice true [])),(.d (.slice true [])),(.d (.slice true []))])) PT rfl rfl (by decide) (by decide) hR lo
theorem Xl {p:Nat} (bs:List Blk):RdsR true E 288 [.agg [.ptr p 0],.d (i64 3),.mfn 289 [.agg [.ptr p 0]]] p (pSl 3 oL) Target.c 2 bs :=
 rE h404 (Pm:TRd 288 = some (rowQ 217 4 96 [(.d (.slice true [])),(.d (.slice true [])),(.d (.slice true [])),(.d (.slice true []))])) PT (by decide) (by decide) rfl (fun _=>rfl) (g:=289) (args:=[.agg [.ptr p 0]]) (fun _ _=>rfl) rfl rfl (by decide) (by decide) fun bs' _=>(bz0 h404 bs').weak
theorem WX {p:Nat} {bs:List Blk} (hR:RdS p bs none) (lo:Nat):Sm E TRd aj 290 [.agg [.ptr p 0],.d (i64 3),.mfn 291 [.agg [.ptr p 0]]] ⟨bs,lo⟩ = some (.d (.slice true []),⟨bs,lo⟩):=mP h404 (Po:TRd 290 = some (rowQ 217 2 40 [(.d (.str ⟨#[]⟩)),(.d (.slice true []))])) PW rfl rfl (by decide) (by decide) hR lo
theorem Xm {p:Nat} (bs:List Blk):RdsR true E 290 [.agg [.ptr p 0],.d (i64 3),.mfn 291 [.agg [.ptr p 0]]] p (pSl 3 yc) When.c 2 bs :=
 rE h404 (Po:TRd 290 = some (rowQ 217 2 40 [(.d (.str ⟨#[]⟩)),(.d (.slice true []))])) PW (by decide) (by decide) rfl (fun _=>rfl) (g:=291) (args:=[.agg [.ptr p 0]]) (fun _ _=>rfl) rfl rfl (by decide) (by decide) fun bs' _=>(bz1 h404 bs').weak
theorem bx7 {p:Nat} {bs:List Blk} (hR:RdS p bs none) (lo:Nat):Sm E TRd aj 219 [.agg [.ptr p 0]] ⟨bs,lo⟩ = some (.agg [.d (.slice true []),.d (.slice true []),.d (.slice true [])],⟨bs,lo⟩):=by
 have z1:=fun ys lo=>WV h404 (hR.lay ys) lo;have z2:=fun ys lo=>WW h404 (hR.lay ys) lo;have z3:=fun ys lo=>WX h404 (hR.lay ys) lo;have hB:∃ bs' c,Bd E TRd aj Al [.agg [.ptr p 0]] ⟨bs,bs.length⟩ = some (.agg [.d (.slice true []),.d (.slice true []),.d (.slice true [])],⟨bs',c⟩) /\ bs.length <= c:=by
  refine ⟨_,_,by simp (decide:=true) [af,Al,hw0,z1,z2,z3,aA,storeAt,put,sub,Hp.set]; first | exact ⟨rfl,rfl⟩ | exact rfl,by omega⟩
 obtain ⟨bs',c,hB,hc⟩:=hB;exact dK Ph PP hB hc rfl lo
set_option maxHeartbeats 1000000 in
theorem by8 {p:Nat} (bs:List Blk):Rds true E 219 [.agg [.ptr p 0]] p xV Rule.c 2 (.agg [.d (.slice true []),.d (.slice true []),.d (.slice true [])]) bs:=by
 intro st hR;have hp:=hR.lt;cases st with
 | none =>
  have hS:∃ x:Rule,x.c.map V.d = [.d (.slice true []),.d (.slice true []),.d (.slice true [])] /\ ∀ d ∈ x.c,∀ nl c cs,d ≠ .slice nl (c :: cs):=⟨⟨⟨true,[]⟩,⟨true,[]⟩,⟨true,[]⟩⟩,rfl,by intro d hd; simp [Rule.c,Sl.d] at hd; rcases hd with rfl | rfl | rfl <;> simp⟩;obtain ⟨x,hx,hd⟩:=hS;refine ⟨.agg [.d (.slice true []),.d (.slice true []),.d (.slice true [])],_,x,none,bs,fun lo=>lo,fun lo=>bx7 h404 hR lo,rfl,by rw [← hx]; exact Hngs.flat hd,rfl,hR,Old.refl _ _,fun lo=>Nat.le_refl _,fun _=>⟨rfl,rfl,fun _=>rfl⟩,fun h=>absurd rfl h⟩
 | some b =>
  obtain ⟨v1,x1,st1,bs1,F1,e1,vc1,hg1,s1,r1,o1,l1,a1⟩:=Xk h404 _ _ (hR.lay [.cells [.ptr p 0],.cells [.d (.slice true []),.d (.slice true []),.d (.slice true [])]]);have hl1:=o1.1;simp only [List.length_append,List.length_cons,List.length_nil,List.length_set] at hl1;have gL1:ah bs1 bs.length = some [.ptr p 0]:=aa o1 (by omega) (by simp);have gR1:ah bs1 (bs.length + 1) = some [.d (.slice true []),.d (.slice true []),.d (.slice true [])]:=aa o1 (by omega) (by simp);obtain ⟨v2,x2,st2,bs2,F2,e2,vc2,hg2,s2,r2,o2,l2,a2⟩:=Xl h404 _ _ (r1.lay [.cells [v1,.d (.slice true []),.d (.slice true [])]]);have hl2:=o2.1;simp only [List.length_append,List.length_cons,List.length_nil,List.length_set] at hl2;have gL2:ah bs2 bs.length = some [.ptr p 0]:=aa o2 (by omega) (au gL1);have gR2:ah bs2 (bs.length + 1) = some [.d (.slice true []),.d (.slice true []),.d (.slice true [])]:=aa o2 (by omega) (au gR1);have gN2:ah bs2 bs1.length = some [v1,.d (.slice true []),.d (.slice true [])]:=aa o2 (by omega) (by simp);obtain ⟨v3,x3,st3,bs3,F3,e3,vc3,hg3,s3,r3,o3,l3,a3⟩:=Xm h404 _ _ (r2.set' (b:=bs1.length) (by omega) (.cells [v1,v2,.d (.slice true [])]));have hl3:=o3.1;simp only [List.length_append,List.length_cons,List.length_nil,List.length_set] at hl3;have gL3:ah bs3 bs.length = some [.ptr p 0]:=aa o3 (by omega) (by rw [ai,if_neg (by omega)]; exact gL2)
  have gR3:ah bs3 (bs.length + 1) = some [.d (.slice true []),.d (.slice true []),.d (.slice true [])]:=aa o3 (by omega) (by rw [ai,if_neg (by omega)]; exact gR2);have gN3:ah bs3 bs1.length = some [v1,v2,.d (.slice true [])]:=aa o3 (by omega) (by rw [ai,if_pos rfl,if_pos (by omega)]);have hS:Step xV (some b) ⟨x1,x2,x3⟩ st3:=Step.map (fun x:Sl Source × Sl Target × Sl When=>(⟨x.1,x.2.1,x.2.2⟩:Rule)) (s1.seq (s2.seq s3));have n1:¬ bs1.length = bs.length + 1:=by omega
  have n2:¬ bs.length + 1 = bs1.length:=by omega
  have n3:¬ bs1.length = bs.length:=by omega
  have n4:bs.length + 1 < bs3.length:=by omega
  have m2:bs1.length < bs2.length:=by omega
  have m3:bs1.length < bs3.length:=by omega
  have hB:∃ c',Bd E TRd aj Al [.agg [.ptr p 0]] ⟨bs,bs.length⟩ = some (.agg [v1,v2,v3],⟨(bs3.set bs1.length (.cells [v1,v2,v3])).set (bs.length + 1) (.cells [v1,v2,v3]),c'⟩) /\ c' <= p:=by
   refine ⟨_,by simp (decide:=true) [af,Al,e1,e2,e3,vc1.1,vc1.2,vc2.1,vc2.2,vc3.1,vc3.2,aA,storeAt,put,sub,Hp.set,fun ys=>au (ys:=ys) gL1,gL2,gN2,gN3,gR3,ai,n1,n2,n3,n4,m2,m3]; exact rfl,?_⟩;have q1:=a1 (by simp) bs.length;have q2:=l2 (min (F1 bs.length) bs1.length);have q3:=l3 (min (F2 (min (F1 bs.length) bs1.length)) bs1.length);omega
  obtain ⟨c',hB,hc⟩:=hB;have w3:∀ x,x ≠ p -> x ≠ bs1.length -> x ≠ bs.length + 1 -> x < bs3.length -> ((bs3.set bs1.length (.cells [v1,v2,v3])).set (bs.length + 1) (.cells [v1,v2,v3]))[x]? = bs3[x]?:=fun x _ y2 y3 _=>by rw [List.getElem?_set_ne (Ne.symm y3),List.getElem?_set_ne (Ne.symm y2)]
  have w2:∀ x,x ≠ p -> x ≠ bs1.length -> x ≠ bs.length + 1 -> x < bs2.length -> ((bs3.set bs1.length (.cells [v1,v2,v3])).set (bs.length + 1) (.cells [v1,v2,v3]))[x]? = bs2[x]?:=fun x y1 y2 y3 h4=>by rw [w3 x y1 y2 y3 (by omega),o3.2 x y1 (by simp; omega),List.getElem?_set_ne (Ne.symm y2)]
  have w1:∀ x,x ≠ p -> x ≠ bs1.length -> x ≠ bs.length + 1 -> x < bs1.length -> ((bs3.set bs1.length (.cells [v1,v2,v3])).set (bs.length + 1) (.cells [v1,v2,v3]))[x]? = bs1[x]?:=fun x y1 y2 y3 h4=>by rw [w2 x y1 y2 y3 (by omega),o2.2 x y1 (by simp; omega),List.getElem?_append_left h4]
  have hh1:Hng true (KL bs.length ((bs3.set bs1.length (.cells [v1,v2,v3])).set (bs.length + 1) (.cells [v1,v2,v3]))) ((bs3.set bs1.length (.cells [v1,v2,v3])).set (bs.length + 1) (.cells [v1,v2,v3])) v1 (Sl.d Source.c x1) 2:=(hg1.up (by omega)).on (fun x hx=>by
   have h1:=hx.1;simp only [List.length_append,List.length_cons,List.length_nil,List.length_set] at h1;exact w1 x (by omega) (by have h2:=hx.2; omega) (by omega) hx.2) fun x hx=>⟨by
   have h1:=hx.1;simp only [List.length_append,List.length_cons,List.length_nil,List.length_set] at h1;omega,by have h2:=hx.2; simp only [List.length_set]; omega⟩
  have hh2:Hng true (KL bs.length ((bs3.set bs1.length (.cells [v1,v2,v3])).set (bs.length + 1) (.cells [v1,v2,v3]))) ((bs3.set bs1.length (.cells [v1,v2,v3])).set (bs.length + 1) (.cells [v1,v2,v3])) v2 (Sl.d Target.c x2) 2:=(hg2.up (by omega)).on (fun x hx=>by
   have h1:=hx.1;simp only [List.length_append,List.length_cons,List.length_nil,List.length_set] at h1;exact w2 x (by omega) (by omega) (by omega) hx.2) fun x hx=>⟨by
   have h1:=hx.1;simp only [List.length_append,List.length_cons,List.length_nil,List.length_set] at h1;omega,by have h2:=hx.2; simp only [List.length_set]; omega⟩
  have hh3:Hng true (KL bs.length ((bs3.set bs1.length (.cells [v1,v2,v3])).set (bs.length + 1) (.cells [v1,v2,v3]))) ((bs3.set bs1.length (.cells [v1,v2,v3])).set (bs.length + 1) (.cells [v1,v2,v3])) v3 (Sl.d When.c x3) 2:=(hg3.up (by omega)).on (fun x hx=>by
   have h1:=hx.1;simp only [List.length_append,List.length_cons,List.length_nil,List.length_set] at h1;exact w3 x (by omega) (by omega) (by omega) hx.2) fun x hx=>⟨by
   have h1:=hx.1;simp only [List.length_append,List.length_cons,List.length_nil,List.length_set] at h1;omega,by have h2:=hx.2; simp only [List.length_set]; omega⟩
  have d1:Old p bs bs1:=(Old.lay bs _).trans o1;have d2:Old p bs bs2:=(d1.trans (Old.lay bs1 _)).trans o2;have d3:Old p bs bs3:=(d2.set' (by omega) _).trans o3;refine ⟨.agg [v1,v2,v3],_,⟨x1,x2,x3⟩,st3,(bs3.set bs1.length (.cells [v1,v2,v3])).set (bs.length + 1) (.cells [v1,v2,v3]),fun lo=>min lo c',fun lo=>dh Ph PP hB (by omega) lo,rfl,⟨hh1,hh2,hh3,trivial⟩,hS,(r3.set' (by omega) _).set' (by omega) _,(d3.set' (by omega) _).set' (by omega) _,fun lo=>Nat.min_le_left _ _,fun h=>(by cases h),fun _ lo=>Nat.le_trans (Nat.min_le_right _ _) hc⟩
theorem Xj {p:Nat} (bs:List Blk):RdsR true E 218 [.agg [.ptr p 0],.d (i64 6),.mfn 219 [.agg [.ptr p 0]]] p (pSl 6 xV) Rule.c 3 bs :=
 rE h404 (bc9:TRd 218 = some (rowQ 217 3 72 [(.d (.slice true [])),(.d (.slice true [])),(.d (.slice true []))])) bk3 (by decide) (by decide) rfl (fun _=>rfl) (g:=219) (args:=[.agg [.ptr p 0]]) (fun _ _=>rfl) rfl rfl (by decide) (by decide) fun bs' _=>(by8 h404 bs').weak
end
end
end Go.Proofs.YtjkfknafpgfchaaGreat
