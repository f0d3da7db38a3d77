/- policy.reader: term, net, port; rows of them. -/
import Derived.Test.YthkeklemhcfbcaaGreatUe
set_option maxRecDepth 100000
set_option linter.unusedVariables false
set_option linter.unusedSimpArgs false
namespace Go.Proofs.YthkeklemhcfbcaaGreat
theorem getB_old' {bs bs':List Blk} {x p:Nat} {cs:List V} (ho:Old p bs bs') (hx:x ≠ p) (h:getB bs x = some cs):getB bs' x = some cs:=by
 have:=ho.2 x hx (getB_len h)
 unfold getB at h ⊢; rw [this]; exact h
theorem Old.set' {p b:Nat} {bs bs':List Blk} (h:Old p bs bs') (hb:bs.length <= b) (x:Blk):Old p bs (bs'.set b x) :=
 ⟨by simpa using h.1,fun y h1 h2=>by rw [List.getElem?_set_ne (by omega)]; exact h.2 y h1 h2⟩
theorem RdS.set' {p b:Nat} {bs:List Blk} {st:Option (List Int)} (h:RdS p bs st) (hb:p < b) (x:Blk):RdS p (bs.set b x) st :=
 h.upto fun y hy=>by rw [List.getElem?_set_ne (by omega)]
theorem Hngs.flat {K:Nat -> Prop} {bs:List Blk} {k:Nat}:∀ {ds:List D},(∀ d ∈ ds,∀ nl c cs,d ≠ .slice nl (c :: cs)) -> Hngs true K bs k (ds.map .d) ds
 | [],_=>trivial
 | d :: ds,h=>⟨Hng.d (h d (by simp)),Hngs.flat fun e he=>h e (by simp [he])⟩
section
variable {E:Calls'}
theorem ref_none {f:FuncId} {q:QF} (ht:TRd f = some q) (hv:valRd f = false) {args:List V} {bs bs':List Blk} {v:V} {c:Nat} (hB:Bd E TRd valRd q args ⟨bs,bs.length⟩ = some (v,⟨bs',c⟩)) (hc:bs.length <= c) (hu:v.under bs.length = true) (lo:Nat):Sm E TRd valRd f args ⟨bs,lo⟩ = some (v,⟨bs,lo⟩):=by
 rw [Sm_ref ht hv]
 simp only at hB ⊢
 rw [hB,byRef_s,if_pos ⟨hc,hu⟩]
theorem ref_some {f:FuncId} {q:QF} (ht:TRd f = some q) (hv:valRd f = false) {args:List V} {bs bs':List Blk} {v:V} {c:Nat} (hB:Bd E TRd valRd q args ⟨bs,bs.length⟩ = some (v,⟨bs',c⟩)) (hc:c < bs.length) (lo:Nat):Sm E TRd valRd f args ⟨bs,lo⟩ = some (v,⟨bs',min lo c⟩):=by
 rw [Sm_ref ht hv]
 simp only at hB ⊢
 rw [hB,byRef_s,if_neg (fun h=>by have:=h.1; simp only at this; omega)]
theorem byte_rng {p:Nat} {bs:List Blk} {st st1:Option (List Int)} {c:Int} (hR:RdS p bs st) (h:Step pByte st c st1) (h0:st1 = none -> c = 0):0 <= c /\ c < 256:=by
 cases st with
 | none=>rw [h0 h]; decide
 | some b =>
  cases b with
  | nil=>rw [h0 h]; decide
  | cons x l =>
   have h:c = x /\ st1 = some l:=h
   obtain ⟨v,m,g1,g2,g3,g4,g5⟩:=hR
   have:=g5 _ rfl
   subst this
   rw [h.1]; exact g3 x (by simp)
theorem hw0:IntKind.wrap .i64 0 = 0:=by decide
theorem Reads.none {α:Type} {f:FuncId} {args:List V} {p:Nat} {bs:List Blk} {P:Pr α} {enc:α -> D} {zero:α} (h:Reads E f args p bs none P enc zero) (lo:Nat):Sm E TRd valRd f args ⟨bs,lo⟩ = some (.d (enc zero),⟨bs,lo⟩):=by
 obtain ⟨x,st',bs',F,h1,h2,h3,_,_,_,h7,_⟩:=h
 have:=h3 h2
 subst this
 obtain ⟨e,q7⟩:=h7 rfl
 subst e
 rw [h1 lo,q7]
theorem Z589 {p:Nat} {bs:List Blk} (hR:RdS p bs none) (lo:Nat):Sm E TRd valRd 193 [.ptr p 0] ⟨bs,lo⟩ = some (.d (.int .u8 0),⟨bs,lo⟩):=(R589 (E:=E) hR).none lo
theorem Z588 {p:Nat} {bs:List Blk} (hR:RdS p bs none) (lo:Nat):Sm E TRd valRd 192 [.ptr p 0] ⟨bs,lo⟩ = some (.d (.int .u32 0),⟨bs,lo⟩):=(R588 (E:=E) hR).none lo
theorem N544 {p:Nat} {bs:List Blk} (hR:RdS p bs none) (lo:Nat):Sm E TRd valRd 155 [.agg [.ptr p 0]] ⟨bs,lo⟩ = some (.agg [.d (u32 0),.d (i64 0)],⟨bs,lo⟩):=by
 have z1:=fun ys lo=>Z588 (E:=E) (hR.lay ys) lo
 have z2:=fun ys lo=>Z589 (E:=E) (hR.lay ys) lo
 have hB:∃ bs' c,Bd E TRd valRd r544 [.agg [.ptr p 0]] ⟨bs,bs.length⟩ = some (.agg [.d (u32 0),.d (i64 0)],⟨bs',c⟩) /\ bs.length <= c:=by
  refine ⟨_,_,by simp (decide:=true) [Bd_mk,r544,hw0,z1,z2,fillsE,storeAt,put,sub,Hp.set]; first | exact ⟨rfl,rfl⟩ | exact rfl,by omega⟩
 obtain ⟨bs',c,hB,hc⟩:=hB
 exact ref_none rt544 rv544 hB hc rfl lo
set_option maxHeartbeats 1000000 in
theorem R544 {p:Nat} (bs:List Blk):Rds true E 155 [.agg [.ptr p 0]] p pCidr Cidr.c 0 (.agg [.d (u32 0),.d (i64 0)]) bs:=by
 intro st hR
 have hp:=hR.lt
 cases st with
 | none =>
  have hS:∃ x:Cidr,x.c.map V.d = [.d (u32 0),.d (i64 0)] /\ ∀ d ∈ x.c,∀ nl c cs,d ≠ .slice nl (c :: cs):=⟨⟨0,0⟩,rfl,by intro d hd; simp [Cidr.c,Sl.d] at hd; rcases hd with rfl | rfl <;> simp⟩
  obtain ⟨x,hx,hd⟩:=hS
  refine ⟨.agg [.d (u32 0),.d (i64 0)],_,x,none,bs,fun lo=>lo,fun lo=>N544 hR lo,rfl,by rw [← hx]; exact Hngs.flat hd,rfl,hR,Old.refl _ _,fun lo=>Nat.le_refl _,fun _=>⟨rfl,rfl,fun _=>rfl⟩,fun h=>absurd rfl h⟩
 | some b =>
  obtain ⟨x1,st1,bs1,F1,e1,s1,z1,r1,o1,l1,n1_,a1⟩:=R588 (E:=E) (hR.lay [.cells [.ptr p 0],.cells [.d (u32 0),.d (i64 0)]])
  have hl1:=o1.1
  simp only [List.length_append,List.length_cons,List.length_nil,List.length_set] at hl1
  have gL1:getB bs1 bs.length = some [.ptr p 0]:=getB_old' o1 (by omega) (by simp)
  have gR1:getB bs1 (bs.length + 1) = some [.d (u32 0),.d (i64 0)]:=getB_old' o1 (by omega) (by simp)
  obtain ⟨x2,st2,bs2,F2,e2,s2,z2,r2,o2,l2,n2_,a2⟩:=R589 (E:=E) (r1.lay [.cells [.d (u32 x1),.d (i64 0)]])
  have hc2:=byte_rng (r1) s2 z2
  have hw2:IntKind.wrap .i64 x2 = x2:=wrap64 (by omega) (by omega)
  have hl2:=o2.1
  simp only [List.length_append,List.length_cons,List.length_nil,List.length_set] at hl2
  have gL2:getB bs2 bs.length = some [.ptr p 0]:=getB_old' o2 (by omega) (getB_of gL1)
  have gR2:getB bs2 (bs.length + 1) = some [.d (u32 0),.d (i64 0)]:=getB_old' o2 (by omega) (getB_of gR1)
  have gN2:getB bs2 bs1.length = some [.d (u32 x1),.d (i64 0)]:=getB_old' o2 (by omega) (by simp)
  have hS:Step pCidr (some b) ⟨x1,x2⟩ st2:=Step.map (fun x:Int × Int=>(⟨x.1,x.2⟩:Cidr)) (s1.seq s2)
  have n1:¬ bs1.length = bs.length + 1:=by omega
  have n2:¬ bs.length + 1 = bs1.length:=by omega
  have n3:¬ bs1.length = bs.length:=by omega
  have n4:bs.length + 1 < bs2.length:=by omega
  have m2:bs1.length < bs2.length:=by omega
  have hB:∃ c',Bd E TRd valRd r544 [.agg [.ptr p 0]] ⟨bs,bs.length⟩ = some (.agg [.d (u32 x1),.d (i64 x2)],⟨(bs2.set bs1.length (.cells [.d (u32 x1),.d (i64 x2)])).set (bs.length + 1) (.cells [.d (u32 x1),.d (i64 x2)]),c'⟩) /\ c' <= p:=by
   refine ⟨_,by simp (decide:=true) [Bd_mk,r544,e1,e2,hw2,fillsE,storeAt,put,sub,Hp.set,fun ys=>getB_of (ys:=ys) gL1,gN2,gR2,getB_set,n1,n2,n3,n4,m2]; exact rfl,?_⟩
   have q1:=a1 (by simp) bs.length
   have q2:=l2 (min (F1 bs.length) bs1.length)
   omega
  obtain ⟨c',hB,hc⟩:=hB
  have w2:∀ x,x ≠ p -> x ≠ bs1.length -> x ≠ bs.length + 1 -> x < bs2.length -> ((bs2.set bs1.length (.cells [.d (u32 x1),.d (i64 x2)])).set (bs.length + 1) (.cells [.d (u32 x1),.d (i64 x2)]))[x]? = bs2[x]?:=fun x _ y2 y3 _=>by rw [List.getElem?_set_ne (Ne.symm y3),List.getElem?_set_ne (Ne.symm y2)]
  have w1:∀ x,x ≠ p -> x ≠ bs1.length -> x ≠ bs.length + 1 -> x < bs1.length -> ((bs2.set bs1.length (.cells [.d (u32 x1),.d (i64 x2)])).set (bs.length + 1) (.cells [.d (u32 x1),.d (i64 x2)]))[x]? = bs1[x]?:=fun x y1 y2 y3 h4=>by rw [w2 x y1 y2 y3 (by omega),o2.2 x y1 (by simp; omega),List.getElem?_append_left h4]
  have d1:Old p bs bs1:=(Old.lay bs _).trans o1
  have d2:Old p bs bs2:=(d1.trans (Old.lay bs1 _)).trans o2
  refine ⟨.agg [.d (u32 x1),.d (i64 x2)],_,⟨x1,x2⟩,st2,(bs2.set bs1.length (.cells [.d (u32 x1),.d (i64 x2)])).set (bs.length + 1) (.cells [.d (u32 x1),.d (i64 x2)]),fun lo=>min lo c',fun lo=>ref_some rt544 rv544 hB (by omega) lo,rfl,⟨Hng.d (by simp),Hng.d (by simp),trivial⟩,hS,(r2.set' (by omega) _).set' (by omega) _,(d2.set' (by omega) _).set' (by omega) _,fun lo=>Nat.min_le_left _ _,fun h=>(by cases h),fun _ lo=>Nat.le_trans (Nat.min_le_right _ _) hc⟩
section
variable (h404:∀ x h,E 99 [.d (u64 x)] h = some (.d (i64 (grpT x)),h))
include h404
theorem Z229 {most:Int} (h0:0 <= most) (h1:most < 2 ^ 62) {p:Nat} {bs:List Blk} (hR:RdS p bs none) (lo:Nat):Sm E TRd valRd 21 [.ptr p 0,.d (i64 most)] ⟨bs,lo⟩ = some (.d (.str ⟨#[]⟩),⟨bs,lo⟩):=(R229 h404 hR h0 h1).none lo
theorem N587 {p:Nat} {bs:List Blk} (hR:RdS p bs none) (lo:Nat):Sm E TRd valRd 191 [.agg [.ptr p 0]] ⟨bs,lo⟩ = some (.agg [.d (i64 0),.d (.str ⟨#[]⟩)],⟨bs,lo⟩):=by
 have z1:=fun ys lo=>Z589 (E:=E) (hR.lay ys) lo
 have z2:=fun ys lo=>Z229 h404 (most:=64) (by decide) (by decide) (hR.lay ys) lo
 have hB:∃ bs' c,Bd E TRd valRd r587 [.agg [.ptr p 0]] ⟨bs,bs.length⟩ = some (.agg [.d (i64 0),.d (.str ⟨#[]⟩)],⟨bs',c⟩) /\ bs.length <= c:=by
  refine ⟨_,_,by simp (decide:=true) [Bd_mk,r587,hw0,z1,z2,fillsE,storeAt,put,sub,Hp.set]; first | exact ⟨rfl,rfl⟩ | exact rfl,by omega⟩
 obtain ⟨bs',c,hB,hc⟩:=hB
 exact ref_none rt587 rv587 hB hc rfl lo
set_option maxHeartbeats 1000000 in
theorem R587 {p:Nat} (bs:List Blk):Rds true E 191 [.agg [.ptr p 0]] p pTerm Term.c 0 (.agg [.d (i64 0),.d (.str ⟨#[]⟩)]) bs:=by
 intro st hR
 have hp:=hR.lt
 cases st with
 | none =>
  have hS:∃ x:Term,x.c.map V.d = [.d (i64 0),.d (.str ⟨#[]⟩)] /\ ∀ d ∈ x.c,∀ nl c cs,d ≠ .slice nl (c :: cs):=⟨⟨0,⟨#[]⟩⟩,rfl,by intro d hd; simp [Term.c,Sl.d] at hd; rcases hd with rfl | rfl <;> simp⟩
  obtain ⟨x,hx,hd⟩:=hS
  refine ⟨.agg [.d (i64 0),.d (.str ⟨#[]⟩)],_,x,none,bs,fun lo=>lo,fun lo=>N587 h404 hR lo,rfl,by rw [← hx]; exact Hngs.flat hd,rfl,hR,Old.refl _ _,fun lo=>Nat.le_refl _,fun _=>⟨rfl,rfl,fun _=>rfl⟩,fun h=>absurd rfl h⟩
 | some b =>
  obtain ⟨x1,st1,bs1,F1,e1,s1,z1,r1,o1,l1,n1_,a1⟩:=R589 (E:=E) (hR.lay [.cells [.ptr p 0],.cells [.d (i64 0),.d (.str ⟨#[]⟩)]])
  have hc1:=byte_rng (hR) s1 z1
  have hw1:IntKind.wrap .i64 x1 = x1:=wrap64 (by omega) (by omega)
  have hl1:=o1.1
  simp only [List.length_append,List.length_cons,List.length_nil,List.length_set] at hl1
  have gL1:getB bs1 bs.length = some [.ptr p 0]:=getB_old' o1 (by omega) (by simp)
  have gR1:getB bs1 (bs.length + 1) = some [.d (i64 0),.d (.str ⟨#[]⟩)]:=getB_old' o1 (by omega) (by simp)
  obtain ⟨x2,st2,bs2,F2,e2,s2,z2,r2,o2,l2,n2_,a2⟩:=R229 h404 (r1.lay [.cells [.d (i64 x1),.d (.str ⟨#[]⟩)]]) (most:=64) (by decide) (by decide)
  have hl2:=o2.1
  simp only [List.length_append,List.length_cons,List.length_nil,List.length_set] at hl2
  have gL2:getB bs2 bs.length = some [.ptr p 0]:=getB_old' o2 (by omega) (getB_of gL1)
  have gR2:getB bs2 (bs.length + 1) = some [.d (i64 0),.d (.str ⟨#[]⟩)]:=getB_old' o2 (by omega) (getB_of gR1)
  have gN2:getB bs2 bs1.length = some [.d (i64 x1),.d (.str ⟨#[]⟩)]:=getB_old' o2 (by omega) (by simp)
  have hS:Step pTerm (some b) ⟨x1,x2⟩ st2:=Step.map (fun x:Int × ByteArray=>(⟨x.1,x.2⟩:Term)) (s1.seq s2)
  have n1:¬ bs1.length = bs.length + 1:=by omega
  have n2:¬ bs.length + 1 = bs1.length:=by omega
  have n3:¬ bs1.length = bs.length:=by omega
  have n4:bs.length + 1 < bs2.length:=by omega
  have m2:bs1.length < bs2.length:=by omega
  have hB:∃ c',Bd E TRd valRd r587 [.agg [.ptr p 0]] ⟨bs,bs.length⟩ = some (.agg [.d (i64 x1),.d (.str x2)],⟨(bs2.set bs1.length (.cells [.d (i64 x1),.d (.str x2)])).set (bs.length + 1) (.cells [.d (i64 x1),.d (.str x2)]),c'⟩) /\ c' <= p:=by
   refine ⟨_,by simp (decide:=true) [Bd_mk,r587,e1,e2,hw1,fillsE,storeAt,put,sub,Hp.set,fun ys=>getB_of (ys:=ys) gL1,gN2,gR2,getB_set,n1,n2,n3,n4,m2]; exact rfl,?_⟩
   have q1:=a1 (by simp) bs.length
   have q2:=l2 (min (F1 bs.length) bs1.length)
   omega
  obtain ⟨c',hB,hc⟩:=hB
  have w2:∀ x,x ≠ p -> x ≠ bs1.length -> x ≠ bs.length + 1 -> x < bs2.length -> ((bs2.set bs1.length (.cells [.d (i64 x1),.d (.str x2)])).set (bs.length + 1) (.cells [.d (i64 x1),.d (.str x2)]))[x]? = bs2[x]?:=fun x _ y2 y3 _=>by rw [List.getElem?_set_ne (Ne.symm y3),List.getElem?_set_ne (Ne.symm y2)]
  have w1:∀ x,x ≠ p -> x ≠ bs1.length -> x ≠ bs.length + 1 -> x < bs1.length -> ((bs2.set bs1.length (.cells [.d (i64 x1),.d (.str x2)])).set (bs.length + 1) (.cells [.d (i64 x1),.d (.str x2)]))[x]? = bs1[x]?:=fun x y1 y2 y3 h4=>by rw [w2 x y1 y2 y3 (by omega),o2.2 x y1 (by simp; omega),List.getElem?_append_left h4]
  have d1:Old p bs bs1:=(Old.lay bs _).trans o1
  have d2:Old p bs bs2:=(d1.trans (Old.lay bs1 _)).trans o2
  refine ⟨.agg [.d (i64 x1),.d (.str x2)],_,⟨x1,x2⟩,st2,(bs2.set bs1.length (.cells [.d (i64 x1),.d (.str x2)])).set (bs.length + 1) (.cells [.d (i64 x1),.d (.str x2)]),fun lo=>min lo c',fun lo=>ref_some rt587 rv587 hB (by omega) lo,rfl,⟨Hng.d (by simp),Hng.d (by simp),trivial⟩,hS,(r2.set' (by omega) _).set' (by omega) _,(d2.set' (by omega) _).set' (by omega) _,fun lo=>Nat.min_le_left _ _,fun h=>(by cases h),fun _ lo=>Nat.le_trans (Nat.min_le_right _ _) hc⟩
theorem N394 {most:Int} (h0:0 <= most) (h1:most < 2 ^ 63) {p:Nat} {bs:List Blk} (hR:RdS p bs none) (lo:Nat):Sm E TRd valRd 57 [.agg [.ptr p 0],.d (i64 most)] ⟨bs,lo⟩ = some (.d (i64 0),⟨bs,lo⟩):=by
 obtain ⟨n,st1,bs1,F1,a1,a2,a3,a4,a5,a6,a7,a8,a9⟩:=R394 h404 hR h0 h1
 obtain ⟨e1,e2,q8⟩:=a8 rfl
 subst e1 e2
 rw [a1,q8]
theorem R546 {p:Nat} (bs:List Blk):Rds true E 157 [.agg [.ptr p 0]] p pPort intC 0 (.d (i64 0)) bs:=by
 intro st hR
 have hp:=hR.lt
 cases st with
 | none =>
  have z1:=fun ys lo=>N394 h404 (most:=65536) (by decide) (by decide) (hR.lay ys) lo
  have hB:∃ bs' c,Bd E TRd valRd r546 [.agg [.ptr p 0]] ⟨bs,bs.length⟩ = some (.d (i64 0),⟨bs',c⟩) /\ bs.length <= c:=by
   refine ⟨_,_,by simp (decide:=true) [Bd_mk,r546,z1]; first | exact ⟨rfl,rfl⟩ | exact rfl,by omega⟩
  obtain ⟨bs',c,hB,hc⟩:=hB
  exact ⟨.d (i64 0),_,0,none,bs,fun lo=>lo,fun lo=>ref_none rt546 rv546 hB hc rfl lo,rfl,⟨Hng.d (by simp),trivial⟩,rfl,hR,Old.refl _ _,fun lo=>Nat.le_refl _,fun _=>⟨rfl,rfl,fun _=>rfl⟩,fun h=>absurd rfl h⟩
 | some b =>
  obtain ⟨n,st1,bs1,F1,a1,a2,a3,a4,a5,a6,a7,a8,a9⟩:=R394 h404 (hR.lay [.cells [.ptr p 0]]) (most:=65536) (by decide) (by decide)
  have a9:=a9 (by simp) bs.length
  have hB:Bd E TRd valRd r546 [.agg [.ptr p 0]] ⟨bs,bs.length⟩ = some (.d (i64 n),⟨bs1,F1 bs.length⟩):=by
   simp (decide:=true) [Bd_mk,r546,a1]
  exact ⟨.d (i64 n),_,n,st1,bs1,fun lo=>min lo (F1 bs.length),fun lo=>ref_some rt546 rv546 hB (by omega) lo,rfl,⟨Hng.d (by simp),trivial⟩,a2.1,a5,(Old.lay bs _).trans a6,fun lo=>Nat.min_le_left _ _,fun h=>(by cases h),fun _ lo=>Nat.le_trans (Nat.min_le_right _ _) a9⟩
theorem NW586 {p:Nat} {bs:List Blk} (hR:RdS p bs none) (lo:Nat):Sm E TRd valRd 190 [.agg [.ptr p 0],.d (i64 6),.mfn 191 [.agg [.ptr p 0]]] ⟨bs,lo⟩ = some (.d (.slice true []),⟨bs,lo⟩):=S_rowN h404 (rt586:TRd 190 = some (rowQ 57 2 24 [(.d (i64 0)),(.d (.str ⟨#[]⟩))])) rv586 rfl rfl (by decide) (by decide) hR lo
theorem RW586 {p:Nat} (bs:List Blk):RdsR true E 190 [.agg [.ptr p 0],.d (i64 6),.mfn 191 [.agg [.ptr p 0]]] p (pSl 6 pTerm) Term.c 1 bs :=
 S_row h404 (rt586:TRd 190 = some (rowQ 57 2 24 [(.d (i64 0)),(.d (.str ⟨#[]⟩))])) rv586 (by decide) (by decide) rfl (fun _=>rfl) (g:=191) (args:=[.agg [.ptr p 0]]) (fun _ _=>rfl) rfl rfl (by decide) (by decide) fun bs' _=>(R587 h404 bs').weak
theorem NW543 {p:Nat} {bs:List Blk} (hR:RdS p bs none) (lo:Nat):Sm E TRd valRd 154 [.agg [.ptr p 0],.d (i64 6),.mfn 155 [.agg [.ptr p 0]]] ⟨bs,lo⟩ = some (.d (.slice true []),⟨bs,lo⟩):=S_rowN h404 (rt543:TRd 154 = some (rowQ 57 2 16 [(.d (u32 0)),(.d (i64 0))])) rv543 rfl rfl (by decide) (by decide) hR lo
theorem RW543 {p:Nat} (bs:List Blk):RdsR true E 154 [.agg [.ptr p 0],.d (i64 6),.mfn 155 [.agg [.ptr p 0]]] p (pSl 6 pCidr) Cidr.c 1 bs :=
 S_row h404 (rt543:TRd 154 = some (rowQ 57 2 16 [(.d (u32 0)),(.d (i64 0))])) rv543 (by decide) (by decide) rfl (fun _=>rfl) (g:=155) (args:=[.agg [.ptr p 0]]) (fun _ _=>rfl) rfl rfl (by decide) (by decide) fun bs' _=>(R544 (E:=E) bs').weak
theorem NW545 {p:Nat} {bs:List Blk} (hR:RdS p bs none) (lo:Nat):Sm E TRd valRd 156 [.agg [.ptr p 0],.d (i64 6),.mfn 157 [.agg [.ptr p 0]]] ⟨bs,lo⟩ = some (.d (.slice true []),⟨bs,lo⟩):=S_rowN h404 (rt545:TRd 156 = some (rowQ 57 1 8 [(.d (i64 0))])) rv545 rfl rfl (by decide) (by decide) hR lo
theorem RW545 {p:Nat} (bs:List Blk):RdsR true E 156 [.agg [.ptr p 0],.d (i64 6),.mfn 157 [.agg [.ptr p 0]]] p (pSl 6 pPort) intC 1 bs :=
 S_row h404 (rt545:TRd 156 = some (rowQ 57 1 8 [(.d (i64 0))])) rv545 (by decide) (by decide) rfl (fun _=>rfl) (g:=157) (args:=[.agg [.ptr p 0]]) (fun _ _=>rfl) rfl rfl (by decide) (by decide) fun bs' _=>(R546 h404 bs').weak
theorem N542 {p:Nat} {bs:List Blk} (hR:RdS p bs none) (lo:Nat):Sm E TRd valRd 153 [.agg [.ptr p 0]] ⟨bs,lo⟩ = some (.d (.slice true []),⟨bs,lo⟩):=by
 have z1:=fun ys lo=>NW586 h404 (hR.lay ys) lo
 have hB:∃ bs' c,Bd E TRd valRd r542 [.agg [.ptr p 0]] ⟨bs,bs.length⟩ = some (.d (.slice true []),⟨bs',c⟩) /\ bs.length <= c:=by
  refine ⟨_,_,by simp (decide:=true) [Bd_mk,r542,z1]; first | exact ⟨rfl,rfl⟩ | exact rfl,by omega⟩
 obtain ⟨bs',c,hB,hc⟩:=hB
 exact ref_none rt542 rv542 hB hc rfl lo
theorem R542 {p:Nat} (bs:List Blk):RdsR true E 153 [.agg [.ptr p 0]] p pTerms Term.c 1 bs:=by
 refine RdsR.mk (N542 h404) fun b hR=>?_
 have hp:=hR.lt
 obtain ⟨v,x,st1,bs1,F1,e,vc,hg,s,r,o,l,a⟩:=RW586 h404 _ _ (hR.lay [.cells [.ptr p 0]])
 have a:=a (by simp) bs.length
 have hB:Bd E TRd valRd r542 [.agg [.ptr p 0]] ⟨bs,bs.length⟩ = some (v,⟨bs1,F1 bs.length⟩):=by
  simp (decide:=true) [Bd_mk,r542,e,vc.2]
 exact ⟨v,x,st1,bs1,fun lo=>min lo (F1 bs.length),fun lo=>ref_some rt542 rv542 hB (by omega) lo,vc,hg.on (fun _ _=>rfl) fun x hx=>⟨by have h1:=hx.1; simp only [List.length_append,List.length_cons,List.length_nil] at h1; omega,hx.2⟩,s,r,(Old.lay bs _).trans o,fun lo=>Nat.min_le_left _ _,fun lo=>Nat.le_trans (Nat.min_le_right _ _) a⟩
theorem N473 {p:Nat} {bs:List Blk} (hR:RdS p bs none) (lo:Nat):Sm E TRd valRd 105 [.agg [.ptr p 0]] ⟨bs,lo⟩ = some (.agg [.d (.str ⟨#[]⟩),.d (.slice true [])],⟨bs,lo⟩):=by
 have z1:=fun ys lo=>Z229 h404 (most:=64) (by decide) (by decide) (hR.lay ys) lo
 have z2:=fun ys lo=>N542 h404 (hR.lay ys) lo
 have hB:∃ bs' c,Bd E TRd valRd r473 [.agg [.ptr p 0]] ⟨bs,bs.length⟩ = some (.agg [.d (.str ⟨#[]⟩),.d (.slice true [])],⟨bs',c⟩) /\ bs.length <= c:=by
  refine ⟨_,_,by simp (decide:=true) [Bd_mk,r473,hw0,z1,z2,fillsE,storeAt,put,sub,Hp.set]; first | exact ⟨rfl,rfl⟩ | exact rfl,by omega⟩
 obtain ⟨bs',c,hB,hc⟩:=hB
 exact ref_none rt473 rv473 hB hc rfl lo
set_option maxHeartbeats 1000000 in
theorem R473 {p:Nat} (bs:List Blk):Rds true E 105 [.agg [.ptr p 0]] p pWhen When.c 1 (.agg [.d (.str ⟨#[]⟩),.d (.slice true [])]) bs:=by
 intro st hR
 have hp:=hR.lt
 cases st with
 | none =>
  have hS:∃ x:When,x.c.map V.d = [.d (.str ⟨#[]⟩),.d (.slice true [])] /\ ∀ d ∈ x.c,∀ nl c cs,d ≠ .slice nl (c :: cs):=⟨⟨⟨#[]⟩,⟨true,[]⟩⟩,rfl,by intro d hd; simp [When.c,Sl.d] at hd; rcases hd with rfl | rfl <;> simp⟩
  obtain ⟨x,hx,hd⟩:=hS
  refine ⟨.agg [.d (.str ⟨#[]⟩),.d (.slice true [])],_,x,none,bs,fun lo=>lo,fun lo=>N473 h404 hR lo,rfl,by rw [← hx]; exact Hngs.flat hd,rfl,hR,Old.refl _ _,fun lo=>Nat.le_refl _,fun _=>⟨rfl,rfl,fun _=>rfl⟩,fun h=>absurd rfl h⟩
 | some b =>
  obtain ⟨x1,st1,bs1,F1,e1,s1,z1,r1,o1,l1,n1_,a1⟩:=R229 h404 (hR.lay [.cells [.ptr p 0],.cells [.d (.str ⟨#[]⟩),.d (.slice true [])]]) (most:=64) (by decide) (by decide)
  have hl1:=o1.1
  simp only [List.length_append,List.length_cons,List.length_nil,List.length_set] at hl1
  have gL1:getB bs1 bs.length = some [.ptr p 0]:=getB_old' o1 (by omega) (by simp)
  have gR1:getB bs1 (bs.length + 1) = some [.d (.str ⟨#[]⟩),.d (.slice true [])]:=getB_old' o1 (by omega) (by simp)
  obtain ⟨v2,x2,st2,bs2,F2,e2,vc2,hg2,s2,r2,o2,l2,a2⟩:=R542 h404 _ _ (r1.lay [.cells [.d (.str x1),.d (.slice true [])]])
  have hl2:=o2.1
  simp only [List.length_append,List.length_cons,List.length_nil,List.length_set] at hl2
  have gL2:getB bs2 bs.length = some [.ptr p 0]:=getB_old' o2 (by omega) (getB_of gL1)
  have gR2:getB bs2 (bs.length + 1) = some [.d (.str ⟨#[]⟩),.d (.slice true [])]:=getB_old' o2 (by omega) (getB_of gR1)
  have gN2:getB bs2 bs1.length = some [.d (.str x1),.d (.slice true [])]:=getB_old' o2 (by omega) (by simp)
  have hS:Step pWhen (some b) ⟨x1,x2⟩ st2:=Step.map (fun x:ByteArray × Sl Term=>(⟨x.1,x.2⟩:When)) (s1.seq s2)
  have n1:¬ bs1.length = bs.length + 1:=by omega
  have n2:¬ bs.length + 1 = bs1.length:=by omega
  have n3:¬ bs1.length = bs.length:=by omega
  have n4:bs.length + 1 < bs2.length:=by omega
  have m2:bs1.length < bs2.length:=by omega
  have hB:∃ c',Bd E TRd valRd r473 [.agg [.ptr p 0]] ⟨bs,bs.length⟩ = some (.agg [.d (.str x1),v2],⟨(bs2.set bs1.length (.cells [.d (.str x1),v2])).set (bs.length + 1) (.cells [.d (.str x1),v2]),c'⟩) /\ c' <= p:=by
   refine ⟨_,by simp (decide:=true) [Bd_mk,r473,e1,e2,vc2.1,vc2.2,fillsE,storeAt,put,sub,Hp.set,fun ys=>getB_of (ys:=ys) gL1,gN2,gR2,getB_set,n1,n2,n3,n4,m2]; exact rfl,?_⟩
   have q1:=a1 (by simp) bs.length
   have q2:=l2 (min (F1 bs.length) bs1.length)
   omega
  obtain ⟨c',hB,hc⟩:=hB
  have w2:∀ x,x ≠ p -> x ≠ bs1.length -> x ≠ bs.length + 1 -> x < bs2.length -> ((bs2.set bs1.length (.cells [.d (.str x1),v2])).set (bs.length + 1) (.cells [.d (.str x1),v2]))[x]? = bs2[x]?:=fun x _ y2 y3 _=>by rw [List.getElem?_set_ne (Ne.symm y3),List.getElem?_set_ne (Ne.symm y2)]
  have w1:∀ x,x ≠ p -> x ≠ bs1.length -> x ≠ bs.length + 1 -> x < bs1.length -> ((bs2.set bs1.length (.cells [.d (.str x1),v2])).set (bs.length + 1) (.cells [.d (.str x1),v2]))[x]? = bs1[x]?:=fun x y1 y2 y3 h4=>by rw [w2 x y1 y2 y3 (by omega),o2.2 x y1 (by simp; omega),List.getElem?_append_left h4]
  have hh2:Hng true (KL bs.length ((bs2.set bs1.length (.cells [.d (.str x1),v2])).set (bs.length + 1) (.cells [.d (.str x1),v2]))) ((bs2.set bs1.length (.cells [.d (.str x1),v2])).set (bs.length + 1) (.cells [.d (.str x1),v2])) v2 (Sl.d Term.c x2) 1:=(hg2.up (by omega)).on (fun x hx=>by
   have h1:=hx.1
   simp only [List.length_append,List.length_cons,List.length_nil,List.length_set] at h1
   exact w2 x (by omega) (by omega) (by omega) hx.2) fun x hx=>⟨by
   have h1:=hx.1
   simp only [List.length_append,List.length_cons,List.length_nil,List.length_set] at h1
   omega,by have h2:=hx.2; simp only [List.length_set]; omega⟩
  have d1:Old p bs bs1:=(Old.lay bs _).trans o1
  have d2:Old p bs bs2:=(d1.trans (Old.lay bs1 _)).trans o2
  refine ⟨.agg [.d (.str x1),v2],_,⟨x1,x2⟩,st2,(bs2.set bs1.length (.cells [.d (.str x1),v2])).set (bs.length + 1) (.cells [.d (.str x1),v2]),fun lo=>min lo c',fun lo=>ref_some rt473 rv473 hB (by omega) lo,rfl,⟨Hng.d (by simp),hh2,trivial⟩,hS,(r2.set' (by omega) _).set' (by omega) _,(d2.set' (by omega) _).set' (by omega) _,fun lo=>Nat.min_le_left _ _,fun h=>(by cases h),fun _ lo=>Nat.le_trans (Nat.min_le_right _ _) hc⟩
theorem N469 {p:Nat} {bs:List Blk} (hR:RdS p bs none) (lo:Nat):Sm E TRd valRd 101 [.agg [.ptr p 0]] ⟨bs,lo⟩ = some (.agg [.d (.slice true []),.d (.slice true []),.d (.slice true [])],⟨bs,lo⟩):=by
 have z1:=fun ys lo=>N542 h404 (hR.lay ys) lo
 have z2:=fun ys lo=>N542 h404 (hR.lay ys) lo
 have z3:=fun ys lo=>NW543 h404 (hR.lay ys) lo
 have hB:∃ bs' c,Bd E TRd valRd r469 [.agg [.ptr p 0]] ⟨bs,bs.length⟩ = some (.agg [.d (.slice true []),.d (.slice true []),.d (.slice true [])],⟨bs',c⟩) /\ bs.length <= c:=by
  refine ⟨_,_,by simp (decide:=true) [Bd_mk,r469,hw0,z1,z2,z3,fillsE,storeAt,put,sub,Hp.set]; first | exact ⟨rfl,rfl⟩ | exact rfl,by omega⟩
 obtain ⟨bs',c,hB,hc⟩:=hB
 exact ref_none rt469 rv469 hB hc rfl lo
set_option maxHeartbeats 1000000 in
theorem R469 {p:Nat} (bs:List Blk):Rds true E 101 [.agg [.ptr p 0]] p pSource Source.c 1 (.agg [.d (.slice true []),.d (.slice true []),.d (.slice true [])]) bs:=by
 intro st hR
 have hp:=hR.lt
 cases st with
 | none =>
  have hS:∃ x:Source,x.c.map V.d = [.d (.slice true []),.d (.slice true []),.d (.slice true [])] /\ ∀ d ∈ x.c,∀ nl c cs,d ≠ .slice nl (c :: cs):=⟨⟨⟨true,[]⟩,⟨true,[]⟩,⟨true,[]⟩⟩,rfl,by intro d hd; simp [Source.c,Sl.d] at hd; rcases hd with rfl | rfl | rfl <;> simp⟩
  obtain ⟨x,hx,hd⟩:=hS
  refine ⟨.agg [.d (.slice true []),.d (.slice true []),.d (.slice true [])],_,x,none,bs,fun lo=>lo,fun lo=>N469 h404 hR lo,rfl,by rw [← hx]; exact Hngs.flat hd,rfl,hR,Old.refl _ _,fun lo=>Nat.le_refl _,fun _=>⟨rfl,rfl,fun _=>rfl⟩,fun h=>absurd rfl h⟩
 | some b =>
  obtain ⟨v1,x1,st1,bs1,F1,e1,vc1,hg1,s1,r1,o1,l1,a1⟩:=R542 h404 _ _ (hR.lay [.cells [.ptr p 0],.cells [.d (.slice true []),.d (.slice true []),.d (.slice true [])]])
  have hl1:=o1.1
  simp only [List.length_append,List.length_cons,List.length_nil,List.length_set] at hl1
  have gL1:getB bs1 bs.length = some [.ptr p 0]:=getB_old' o1 (by omega) (by simp)
  have gR1:getB bs1 (bs.length + 1) = some [.d (.slice true []),.d (.slice true []),.d (.slice true [])]:=getB_old' o1 (by omega) (by simp)
  obtain ⟨v2,x2,st2,bs2,F2,e2,vc2,hg2,s2,r2,o2,l2,a2⟩:=R542 h404 _ _ (r1.lay [.cells [v1,.d (.slice true []),.d (.slice true [])]])
  have hl2:=o2.1
  simp only [List.length_append,List.length_cons,List.length_nil,List.length_set] at hl2
  have gL2:getB bs2 bs.length = some [.ptr p 0]:=getB_old' o2 (by omega) (getB_of gL1)
  have gR2:getB bs2 (bs.length + 1) = some [.d (.slice true []),.d (.slice true []),.d (.slice true [])]:=getB_old' o2 (by omega) (getB_of gR1)
  have gN2:getB bs2 bs1.length = some [v1,.d (.slice true []),.d (.slice true [])]:=getB_old' o2 (by omega) (by simp)
  obtain ⟨v3,x3,st3,bs3,F3,e3,vc3,hg3,s3,r3,o3,l3,a3⟩:=RW543 h404 _ _ (r2.set' (b:=bs1.length) (by omega) (.cells [v1,v2,.d (.slice true [])]))
  have hl3:=o3.1
  simp only [List.length_append,List.length_cons,List.length_nil,List.length_set] at hl3
  have gL3:getB bs3 bs.length = some [.ptr p 0]:=getB_old' o3 (by omega) (by rw [getB_set,if_neg (by omega)]; exact gL2)
  have gR3:getB bs3 (bs.length + 1) = some [.d (.slice true []),.d (.slice true []),.d (.slice true [])]:=getB_old' o3 (by omega) (by rw [getB_set,if_neg (by omega)]; exact gR2)
  have gN3:getB bs3 bs1.length = some [v1,v2,.d (.slice true [])]:=getB_old' o3 (by omega) (by rw [getB_set,if_pos rfl,if_pos (by omega)])
  have hS:Step pSource (some b) ⟨x1,x2,x3⟩ st3:=Step.map (fun x:Sl Term × Sl Term × Sl Cidr=>(⟨x.1,x.2.1,x.2.2⟩:Source)) (s1.seq (s2.seq s3))
  have n1:¬ bs1.length = bs.length + 1:=by omega
  have n2:¬ bs.length + 1 = bs1.length:=by omega
  have n3:¬ bs1.length = bs.length:=by omega
  have n4:bs.length + 1 < bs3.length:=by omega
  have m2:bs1.length < bs2.length:=by omega
  have m3:bs1.length < bs3.length:=by omega
  have hB:∃ c',Bd E TRd valRd r469 [.agg [.ptr p 0]] ⟨bs,bs.length⟩ = some (.agg [v1,v2,v3],⟨(bs3.set bs1.length (.cells [v1,v2,v3])).set (bs.length + 1) (.cells [v1,v2,v3]),c'⟩) /\ c' <= p:=by
   refine ⟨_,by simp (decide:=true) [Bd_mk,r469,e1,e2,e3,vc1.1,vc1.2,vc2.1,vc2.2,vc3.1,vc3.2,fillsE,storeAt,put,sub,Hp.set,fun ys=>getB_of (ys:=ys) gL1,gL2,gN2,gN3,gR3,getB_set,n1,n2,n3,n4,m2,m3]; exact rfl,?_⟩
   have q1:=a1 (by simp) bs.length
   have q2:=l2 (min (F1 bs.length) bs1.length)
   have q3:=l3 (min (F2 (min (F1 bs.length) bs1.length)) bs1.length)
   omega
  obtain ⟨c',hB,hc⟩:=hB
  have w3:∀ x,x ≠ p -> x ≠ bs1.length -> x ≠ bs.length + 1 -> x < bs3.length -> ((bs3.set bs1.length (.cells [v1,v2,v3])).set (bs.length + 1) (.cells [v1,v2,v3]))[x]? = bs3[x]?:=fun x _ y2 y3 _=>by rw [List.getElem?_set_ne (Ne.symm y3),List.getElem?_set_ne (Ne.symm y2)]
  have w2:∀ x,x ≠ p -> x ≠ bs1.length -> x ≠ bs.length + 1 -> x < bs2.length -> ((bs3.set bs1.length (.cells [v1,v2,v3])).set (bs.length + 1) (.cells [v1,v2,v3]))[x]? = bs2[x]?:=fun x y1 y2 y3 h4=>by rw [w3 x y1 y2 y3 (by omega),o3.2 x y1 (by simp; omega),List.getElem?_set_ne (Ne.symm y2)]
  have w1:∀ x,x ≠ p -> x ≠ bs1.length -> x ≠ bs.length + 1 -> x < bs1.length -> ((bs3.set bs1.length (.cells [v1,v2,v3])).set (bs.length + 1) (.cells [v1,v2,v3]))[x]? = bs1[x]?:=fun x y1 y2 y3 h4=>by rw [w2 x y1 y2 y3 (by omega),o2.2 x y1 (by simp; omega),List.getElem?_append_left h4]
  have hh1:Hng true (KL bs.length ((bs3.set bs1.length (.cells [v1,v2,v3])).set (bs.length + 1) (.cells [v1,v2,v3]))) ((bs3.set bs1.length (.cells [v1,v2,v3])).set (bs.length + 1) (.cells [v1,v2,v3])) v1 (Sl.d Term.c x1) 1:=(hg1.up (by omega)).on (fun x hx=>by
   have h1:=hx.1
   simp only [List.length_append,List.length_cons,List.length_nil,List.length_set] at h1
   exact w1 x (by omega) (by have h2:=hx.2; omega) (by omega) hx.2) fun x hx=>⟨by
   have h1:=hx.1
   simp only [List.length_append,List.length_cons,List.length_nil,List.length_set] at h1
   omega,by have h2:=hx.2; simp only [List.length_set]; omega⟩
  have hh2:Hng true (KL bs.length ((bs3.set bs1.length (.cells [v1,v2,v3])).set (bs.length + 1) (.cells [v1,v2,v3]))) ((bs3.set bs1.length (.cells [v1,v2,v3])).set (bs.length + 1) (.cells [v1,v2,v3])) v2 (Sl.d Term.c x2) 1:=(hg2.up (by omega)).on (fun x hx=>by
   have h1:=hx.1
   simp only [List.length_append,List.length_cons,List.length_nil,List.length_set] at h1
   exact w2 x (by omega) (by omega) (by omega) hx.2) fun x hx=>⟨by
   have h1:=hx.1
   simp only [List.length_append,List.length_cons,List.length_nil,List.length_set] at h1
   omega,by have h2:=hx.2; simp only [List.length_set]; omega⟩
  have hh3:Hng true (KL bs.length ((bs3.set bs1.length (.cells [v1,v2,v3])).set (bs.length + 1) (.cells [v1,v2,v3]))) ((bs3.set bs1.length (.cells [v1,v2,v3])).set (bs.length + 1) (.cells [v1,v2,v3])) v3 (Sl.d Cidr.c x3) 1:=(hg3.up (by omega)).on (fun x hx=>by
   have h1:=hx.1
   simp only [List.length_append,List.length_cons,List.length_nil,List.length_set] at h1
   exact w3 x (by omega) (by omega) (by omega) hx.2) fun x hx=>⟨by
   have h1:=hx.1
   simp only [List.length_append,List.length_cons,List.length_nil,List.length_set] at h1
   omega,by have h2:=hx.2; simp only [List.length_set]; omega⟩
  have d1:Old p bs bs1:=(Old.lay bs _).trans o1
  have d2:Old p bs bs2:=(d1.trans (Old.lay bs1 _)).trans o2
  have d3:Old p bs bs3:=(d2.set' (by omega) _).trans o3
  refine ⟨.agg [v1,v2,v3],_,⟨x1,x2,x3⟩,st3,(bs3.set bs1.length (.cells [v1,v2,v3])).set (bs.length + 1) (.cells [v1,v2,v3]),fun lo=>min lo c',fun lo=>ref_some rt469 rv469 hB (by omega) lo,rfl,⟨hh1,hh2,hh3,trivial⟩,hS,(r3.set' (by omega) _).set' (by omega) _,(d3.set' (by omega) _).set' (by omega) _,fun lo=>Nat.min_le_left _ _,fun h=>(by cases h),fun _ lo=>Nat.le_trans (Nat.min_le_right _ _) hc⟩
end
end
end Go.Proofs.YthkeklemhcfbcaaGreat
namespace Go.Proofs.YthkeklemhcfbcaaGreat
section
variable {E:Calls'} (h404:∀ x h,E 99 [.d (u64 x)] h = some (.d (i64 (grpT x)),h))
include h404
set_option maxHeartbeats 1000000 in
theorem N471 {p:Nat} {bs:List Blk} (hR:RdS p bs none) (lo:Nat):Sm E TRd valRd 103 [.agg [.ptr p 0]] ⟨bs,lo⟩ = some (.agg [.d (.slice true []),.d (.slice true []),.d (.slice true []),.d (.slice true [])],⟨bs,lo⟩):=by
 have z1:=fun ys lo=>NW545 h404 (hR.lay ys) lo
 have z2:=fun ys lo=>N542 h404 (hR.lay ys) lo
 have hB:∃ bs' c,Bd E TRd valRd r471 [.agg [.ptr p 0]] ⟨bs,bs.length⟩ = some (.agg [.d (.slice true []),.d (.slice true []),.d (.slice true []),.d (.slice true [])],⟨bs',c⟩) /\ bs.length <= c:=by
  have key:=Cd_round (E:=E) (T:=TRd) (val:=valRd) [1,2,3,14,15,16] r471_b0
  have w1:IntKind.wrap .i64 1 = 1:=by decide
  have w2:IntKind.wrap .i64 2 = 2:=by decide
  have w3:IntKind.wrap .i64 3 = 3:=by decide
  refine ⟨bs ++ [.cells [.ptr p 0],.cells [.d (.slice true []),.d (.slice true []),.d (.slice true []),.d (.slice true [])],.cells [.d (.slice true []),.d (.slice true []),.d (.slice true []),.d (.slice true [])],.cells [.ptr (bs.length + 2) 1,.ptr (bs.length + 2) 2,.ptr (bs.length + 2) 3]],bs.length,?_,Nat.le_refl _⟩
  simp (decide:=true) [Bd_mk,r471,z1,fillsE,storeAt,put,sub,Hp.set]
  rw [Cd_keep]
  simp
  generalize Cd E TRd valRd (.loop [1,2,3,14,15,16] r471_b0) = W at key ⊢
  rw [key]
  simp (decide:=true) [r471_b0,z2,idxv,storeAt,put,sub,Hp.set,w1]
  rw [key]
  simp (decide:=true) [r471_b0,z2,idxv,storeAt,put,sub,Hp.set,w2]
  rw [key]
  simp (decide:=true) [r471_b0,z2,idxv,storeAt,put,sub,Hp.set,w3]
  rw [key]
  simp (decide:=true) [r471_b0,storeAt,put,sub,Hp.set]
 obtain ⟨bs',c,hB,hc⟩:=hB
 exact ref_none rt471 rv471 hB hc rfl lo
set_option maxHeartbeats 1000000 in
theorem R471 {p:Nat} (bs:List Blk):Rds true E 103 [.agg [.ptr p 0]] p pTarget Target.c 1 (.agg [.d (.slice true []),.d (.slice true []),.d (.slice true []),.d (.slice true [])]) bs:=by
 intro st hR
 have hp:=hR.lt
 cases st with
 | none =>
  have hS:∃ x:Target,x.c.map V.d = [.d (.slice true []),.d (.slice true []),.d (.slice true []),.d (.slice true [])] /\ ∀ d ∈ x.c,∀ nl c cs,d ≠ .slice nl (c :: cs):=⟨⟨⟨true,[]⟩,⟨true,[]⟩,⟨true,[]⟩,⟨true,[]⟩⟩,rfl,by intro d hd; simp [Target.c,Sl.d] at hd; rcases hd with rfl | rfl | rfl | rfl <;> simp⟩
  obtain ⟨x,hx,hd⟩:=hS
  exact ⟨.agg [.d (.slice true []),.d (.slice true []),.d (.slice true []),.d (.slice true [])],_,x,none,bs,fun lo=>lo,fun lo=>N471 h404 hR lo,rfl,by rw [← hx]; exact Hngs.flat hd,rfl,hR,Old.refl _ _,fun lo=>Nat.le_refl _,fun _=>⟨rfl,rfl,fun _=>rfl⟩,fun h=>absurd rfl h⟩
 | some b =>
  obtain ⟨v1,x1,st1,bs1,F1,e1,vc1,hg1,s1,r1,o1,l1,a1⟩:=RW545 h404 _ _ (hR.lay [.cells [.ptr p 0],.cells [.d (.slice true []),.d (.slice true []),.d (.slice true []),.d (.slice true [])]])
  have hl1:=o1.1
  simp only [List.length_append,List.length_cons,List.length_nil,List.length_set] at hl1
  have gL1:getB bs1 bs.length = some [.ptr p 0]:=getB_old' o1 (by omega) (by simp)
  have gR1:getB bs1 (bs.length + 1) = some [.d (.slice true []),.d (.slice true []),.d (.slice true []),.d (.slice true [])]:=getB_old' o1 (by omega) (by simp)
  obtain ⟨v2,x2,st2,bs2,F2,e2,vc2,hg2,s2,r2,o2,l2,a2⟩:=R542 h404 _ _ (r1.lay [.cells [v1,.d (.slice true []),.d (.slice true []),.d (.slice true [])],.cells [.ptr bs1.length 1,.ptr bs1.length 2,.ptr bs1.length 3]])
  have hl2:=o2.1
  simp only [List.length_append,List.length_cons,List.length_nil,List.length_set] at hl2
  have gL2:getB bs2 bs.length = some [.ptr p 0]:=getB_old' o2 (by omega) (getB_of gL1)
  have gR2:getB bs2 (bs.length + 1) = some [.d (.slice true []),.d (.slice true []),.d (.slice true []),.d (.slice true [])]:=getB_old' o2 (by omega) (getB_of gR1)
  have gN2:getB bs2 bs1.length = some [v1,.d (.slice true []),.d (.slice true []),.d (.slice true [])]:=getB_old' o2 (by omega) (by simp)
  have gP2:getB bs2 (bs1.length + 1) = some [.ptr bs1.length 1,.ptr bs1.length 2,.ptr bs1.length 3]:=getB_old' o2 (by omega) (by simp)
  obtain ⟨v3,x3,st3,bs3,F3,e3,vc3,hg3,s3,r3,o3,l3,a3⟩:=R542 h404 _ _ (r2.set' (b:=bs1.length) (by omega) (.cells [v1,v2,.d (.slice true []),.d (.slice true [])]))
  have hl3:=o3.1
  simp only [List.length_append,List.length_cons,List.length_nil,List.length_set] at hl3
  have gL3:getB bs3 bs.length = some [.ptr p 0]:=getB_old' o3 (by omega) (by rw [getB_set,if_neg (by omega)]; exact gL2)
  have gR3:getB bs3 (bs.length + 1) = some [.d (.slice true []),.d (.slice true []),.d (.slice true []),.d (.slice true [])]:=getB_old' o3 (by omega) (by rw [getB_set,if_neg (by omega)]; exact gR2)
  have gP3:getB bs3 (bs1.length + 1) = some [.ptr bs1.length 1,.ptr bs1.length 2,.ptr bs1.length 3]:=getB_old' o3 (by omega) (by rw [getB_set,if_neg (by omega)]; exact gP2)
  have gN3:getB bs3 bs1.length = some [v1,v2,.d (.slice true []),.d (.slice true [])]:=getB_old' o3 (by omega) (by rw [getB_set,if_pos rfl,if_pos (by omega)])
  obtain ⟨v4,x4,st4,bs4,F4,e4,vc4,hg4,s4,r4,o4,l4,a4⟩:=R542 h404 _ _ (r3.set' (b:=bs1.length) (by omega) (.cells [v1,v2,v3,.d (.slice true [])]))
  have hl4:=o4.1
  simp only [List.length_append,List.length_cons,List.length_nil,List.length_set] at hl4
  have gL4:getB bs4 bs.length = some [.ptr p 0]:=getB_old' o4 (by omega) (by rw [getB_set,if_neg (by omega)]; exact gL3)
  have gR4:getB bs4 (bs.length + 1) = some [.d (.slice true []),.d (.slice true []),.d (.slice true []),.d (.slice true [])]:=getB_old' o4 (by omega) (by rw [getB_set,if_neg (by omega)]; exact gR3)
  have gP4:getB bs4 (bs1.length + 1) = some [.ptr bs1.length 1,.ptr bs1.length 2,.ptr bs1.length 3]:=getB_old' o4 (by omega) (by rw [getB_set,if_neg (by omega)]; exact gP3)
  have gN4:getB bs4 bs1.length = some [v1,v2,v3,.d (.slice true [])]:=getB_old' o4 (by omega) (by rw [getB_set,if_pos rfl,if_pos (by omega)])
  have hS:Step pTarget (some b) ⟨x1,x2,x3,x4⟩ st4:=Step.map (fun x:Sl Int × Sl Term × Sl Term × Sl Term=>(⟨x.1,x.2.1,x.2.2.1,x.2.2.2⟩:Target)) (s1.seq (s2.seq (s3.seq s4)))
  have n1:¬ bs1.length = bs.length + 1:=by omega
  have n2:¬ bs.length + 1 = bs1.length:=by omega
  have n3:¬ bs1.length = bs.length:=by omega
  have n4:bs.length + 1 < bs4.length:=by omega
  have n5:¬ bs1.length = bs1.length + 1:=by omega
  have m2:bs1.length < bs2.length:=by omega
  have m3:bs1.length < bs3.length:=by omega
  have m4:bs1.length < bs4.length:=by omega
  have w1:IntKind.wrap .i64 1 = 1:=by decide
  have w2:IntKind.wrap .i64 2 = 2:=by decide
  have w3:IntKind.wrap .i64 3 = 3:=by decide
  have hB:∃ c',Bd E TRd valRd r471 [.agg [.ptr p 0]] ⟨bs,bs.length⟩ = some (.agg [v1,v2,v3,v4],⟨(bs4.set bs1.length (.cells [v1,v2,v3,v4])).set (bs.length + 1) (.cells [v1,v2,v3,v4]),c'⟩) /\ c' <= p:=by
   have key:=Cd_round (E:=E) (T:=TRd) (val:=valRd) [1,2,3,14,15,16] r471_b0
   refine ⟨min (min (min (F4 (min (F3 (min (F2 (min (F1 bs.length) bs1.length)) bs1.length)) bs1.length)) bs1.length) (bs.length + 1)) p,?_,Nat.min_le_right _ _⟩
   have q1:=a1 (by simp) bs.length
   have q2:=l2 (min (F1 bs.length) bs1.length)
   have q3:=l3 (min (F2 (min (F1 bs.length) bs1.length)) bs1.length)
   have q4:=l4 (min (F3 (min (F2 (min (F1 bs.length) bs1.length)) bs1.length)) bs1.length)
   simp (decide:=true) [Bd_mk,r471,e1,vc1.1,vc1.2,fillsE,storeAt,put,sub,Hp.set,fun ys=>getB_of (ys:=ys) gL1]
   rw [Cd_keep]
   simp
   generalize Cd E TRd valRd (.loop [1,2,3,14,15,16] r471_b0) = W at key ⊢
   rw [key]
   simp (decide:=true) [r471_b0,e2,vc2.1,vc2.2,idxv,storeAt,put,sub,Hp.set,fun ys=>getB_of (ys:=ys) gL1,gN2,w1]
   rw [key]
   simp (decide:=true) [r471_b0,e3,vc3.1,vc3.2,idxv,storeAt,put,sub,Hp.set,gL2,gP2,gN3,getB_set,n3,n5,m2,w2]
   rw [key]
   simp (decide:=true) [r471_b0,e4,vc4.1,vc4.2,idxv,storeAt,put,sub,Hp.set,gL3,gP3,gN4,getB_set,n3,n5,m3,w3]
   rw [key]
   simp (decide:=true) [r471_b0,storeAt,put,sub,Hp.set,getB_set,n1,n2,n4,m4,gR4]
   omega
  obtain ⟨c',hB,hc⟩:=hB
  have w4:∀ x,x ≠ p -> x ≠ bs1.length -> x ≠ bs.length + 1 -> x < bs4.length -> ((bs4.set bs1.length (.cells [v1,v2,v3,v4])).set (bs.length + 1) (.cells [v1,v2,v3,v4]))[x]? = bs4[x]?:=fun x _ y2 y3 _=>by rw [List.getElem?_set_ne (Ne.symm y3),List.getElem?_set_ne (Ne.symm y2)]
  have w3:∀ x,x ≠ p -> x ≠ bs1.length -> x ≠ bs.length + 1 -> x < bs3.length -> ((bs4.set bs1.length (.cells [v1,v2,v3,v4])).set (bs.length + 1) (.cells [v1,v2,v3,v4]))[x]? = bs3[x]?:=fun x y1 y2 y3 h4=>by rw [w4 x y1 y2 y3 (by omega),o4.2 x y1 (by simp; omega),List.getElem?_set_ne (Ne.symm y2)]
  have w2:∀ x,x ≠ p -> x ≠ bs1.length -> x ≠ bs.length + 1 -> x < bs2.length -> ((bs4.set bs1.length (.cells [v1,v2,v3,v4])).set (bs.length + 1) (.cells [v1,v2,v3,v4]))[x]? = bs2[x]?:=fun x y1 y2 y3 h4=>by rw [w3 x y1 y2 y3 (by omega),o3.2 x y1 (by simp; omega),List.getElem?_set_ne (Ne.symm y2)]
  have w1:∀ x,x ≠ p -> x ≠ bs1.length -> x ≠ bs.length + 1 -> x < bs1.length -> ((bs4.set bs1.length (.cells [v1,v2,v3,v4])).set (bs.length + 1) (.cells [v1,v2,v3,v4]))[x]? = bs1[x]?:=fun x y1 y2 y3 h4=>by rw [w2 x y1 y2 y3 (by omega),o2.2 x y1 (by simp; omega),List.getElem?_append_left h4]
  have hh1:Hng true (KL bs.length ((bs4.set bs1.length (.cells [v1,v2,v3,v4])).set (bs.length + 1) (.cells [v1,v2,v3,v4]))) ((bs4.set bs1.length (.cells [v1,v2,v3,v4])).set (bs.length + 1) (.cells [v1,v2,v3,v4])) v1 (Sl.d intC x1) 1:=(hg1.up (by omega)).on (fun x hx=>by
   have h1:=hx.1
   simp only [List.length_append,List.length_cons,List.length_nil,List.length_set] at h1
   exact w1 x (by omega) (by have h2:=hx.2; omega) (by omega) hx.2) fun x hx=>⟨by
   have h1:=hx.1
   simp only [List.length_append,List.length_cons,List.length_nil,List.length_set] at h1
   omega,by have h2:=hx.2; simp only [List.length_set]; omega⟩
  have hh2:Hng true (KL bs.length ((bs4.set bs1.length (.cells [v1,v2,v3,v4])).set (bs.length + 1) (.cells [v1,v2,v3,v4]))) ((bs4.set bs1.length (.cells [v1,v2,v3,v4])).set (bs.length + 1) (.cells [v1,v2,v3,v4])) v2 (Sl.d Term.c x2) 1:=(hg2.up (by omega)).on (fun x hx=>by
   have h1:=hx.1
   simp only [List.length_append,List.length_cons,List.length_nil,List.length_set] at h1
   exact w2 x (by omega) (by omega) (by omega) hx.2) fun x hx=>⟨by
   have h1:=hx.1
   simp only [List.length_append,List.length_cons,List.length_nil,List.length_set] at h1
   omega,by have h2:=hx.2; simp only [List.length_set]; omega⟩
  have hh3:Hng true (KL bs.length ((bs4.set bs1.length (.cells [v1,v2,v3,v4])).set (bs.length + 1) (.cells [v1,v2,v3,v4]))) ((bs4.set bs1.length (.cells [v1,v2,v3,v4])).set (bs.length + 1) (.cells [v1,v2,v3,v4])) v3 (Sl.d Term.c x3) 1:=(hg3.up (by omega)).on (fun x hx=>by
   have h1:=hx.1
   simp only [List.length_append,List.length_cons,List.length_nil,List.length_set] at h1
   exact w3 x (by omega) (by omega) (by omega) hx.2) fun x hx=>⟨by
   have h1:=hx.1
   simp only [List.length_append,List.length_cons,List.length_nil,List.length_set] at h1
   omega,by have h2:=hx.2; simp only [List.length_set]; omega⟩
  have hh4:Hng true (KL bs.length ((bs4.set bs1.length (.cells [v1,v2,v3,v4])).set (bs.length + 1) (.cells [v1,v2,v3,v4]))) ((bs4.set bs1.length (.cells [v1,v2,v3,v4])).set (bs.length + 1) (.cells [v1,v2,v3,v4])) v4 (Sl.d Term.c x4) 1:=(hg4.up (by omega)).on (fun x hx=>by
   have h1:=hx.1
   simp only [List.length_append,List.length_cons,List.length_nil,List.length_set] at h1
   exact w4 x (by omega) (by omega) (by omega) hx.2) fun x hx=>⟨by
   have h1:=hx.1
   simp only [List.length_append,List.length_cons,List.length_nil,List.length_set] at h1
   omega,by have h2:=hx.2; simp only [List.length_set]; omega⟩
  have d1:Old p bs bs1:=(Old.lay bs _).trans o1
  have d2:Old p bs bs2:=(d1.trans (Old.lay bs1 _)).trans o2
  have d3:Old p bs bs3:=(d2.set' (by omega) _).trans o3
  have d4:Old p bs bs4:=(d3.set' (by omega) _).trans o4
  exact ⟨.agg [v1,v2,v3,v4],_,⟨x1,x2,x3,x4⟩,st4,(bs4.set bs1.length (.cells [v1,v2,v3,v4])).set (bs.length + 1) (.cells [v1,v2,v3,v4]),fun lo=>min lo c',fun lo=>ref_some rt471 rv471 hB (by omega) lo,rfl,⟨hh1,hh2,hh3,hh4,trivial⟩,hS,(r4.set' (by omega) _).set' (by omega) _,(d4.set' (by omega) _).set' (by omega) _,fun lo=>Nat.min_le_left _ _,fun h=>(by cases h),fun _ lo=>Nat.le_trans (Nat.min_le_right _ _) hc⟩
theorem NW468 {p:Nat} {bs:List Blk} (hR:RdS p bs none) (lo:Nat):Sm E TRd valRd 100 [.agg [.ptr p 0],.d (i64 3),.mfn 101 [.agg [.ptr p 0]]] ⟨bs,lo⟩ = some (.d (.slice true []),⟨bs,lo⟩):=S_rowN h404 (rt468:TRd 100 = some (rowQ 57 3 72 [(.d (.slice true [])),(.d (.slice true [])),(.d (.slice true []))])) rv468 rfl rfl (by decide) (by decide) hR lo
theorem RW468 {p:Nat} (bs:List Blk):RdsR true E 100 [.agg [.ptr p 0],.d (i64 3),.mfn 101 [.agg [.ptr p 0]]] p (pSl 3 pSource) Source.c 2 bs :=
 S_row h404 (rt468:TRd 100 = some (rowQ 57 3 72 [(.d (.slice true [])),(.d (.slice true [])),(.d (.slice true []))])) rv468 (by decide) (by decide) rfl (fun _=>rfl) (g:=101) (args:=[.agg [.ptr p 0]]) (fun _ _=>rfl) rfl rfl (by decide) (by decide) fun bs' _=>(R469 h404 bs').weak
theorem NW470 {p:Nat} {bs:List Blk} (hR:RdS p bs none) (lo:Nat):Sm E TRd valRd 102 [.agg [.ptr p 0],.d (i64 3),.mfn 103 [.agg [.ptr p 0]]] ⟨bs,lo⟩ = some (.d (.slice true []),⟨bs,lo⟩):=S_rowN h404 (rt470:TRd 102 = some (rowQ 57 4 96 [(.d (.slice true [])),(.d (.slice true [])),(.d (.slice true [])),(.d (.slice true []))])) rv470 rfl rfl (by decide) (by decide) hR lo
theorem RW470 {p:Nat} (bs:List Blk):RdsR true E 102 [.agg [.ptr p 0],.d (i64 3),.mfn 103 [.agg [.ptr p 0]]] p (pSl 3 pTarget) Target.c 2 bs :=
 S_row h404 (rt470:TRd 102 = some (rowQ 57 4 96 [(.d (.slice true [])),(.d (.slice true [])),(.d (.slice true [])),(.d (.slice true []))])) rv470 (by decide) (by decide) rfl (fun _=>rfl) (g:=103) (args:=[.agg [.ptr p 0]]) (fun _ _=>rfl) rfl rfl (by decide) (by decide) fun bs' _=>(R471 h404 bs').weak
theorem NW472 {p:Nat} {bs:List Blk} (hR:RdS p bs none) (lo:Nat):Sm E TRd valRd 104 [.agg [.ptr p 0],.d (i64 3),.mfn 105 [.agg [.ptr p 0]]] ⟨bs,lo⟩ = some (.d (.slice true []),⟨bs,lo⟩):=S_rowN h404 (rt472:TRd 104 = some (rowQ 57 2 40 [(.d (.str ⟨#[]⟩)),(.d (.slice true []))])) rv472 rfl rfl (by decide) (by decide) hR lo
theorem RW472 {p:Nat} (bs:List Blk):RdsR true E 104 [.agg [.ptr p 0],.d (i64 3),.mfn 105 [.agg [.ptr p 0]]] p (pSl 3 pWhen) When.c 2 bs :=
 S_row h404 (rt472:TRd 104 = some (rowQ 57 2 40 [(.d (.str ⟨#[]⟩)),(.d (.slice true []))])) rv472 (by decide) (by decide) rfl (fun _=>rfl) (g:=105) (args:=[.agg [.ptr p 0]]) (fun _ _=>rfl) rfl rfl (by decide) (by decide) fun bs' _=>(R473 h404 bs').weak
theorem N396 {p:Nat} {bs:List Blk} (hR:RdS p bs none) (lo:Nat):Sm E TRd valRd 59 [.agg [.ptr p 0]] ⟨bs,lo⟩ = some (.agg [.d (.slice true []),.d (.slice true []),.d (.slice true [])],⟨bs,lo⟩):=by
 have z1:=fun ys lo=>NW468 h404 (hR.lay ys) lo
 have z2:=fun ys lo=>NW470 h404 (hR.lay ys) lo
 have z3:=fun ys lo=>NW472 h404 (hR.lay ys) lo
 have hB:∃ bs' c,Bd E TRd valRd r396 [.agg [.ptr p 0]] ⟨bs,bs.length⟩ = some (.agg [.d (.slice true []),.d (.slice true []),.d (.slice true [])],⟨bs',c⟩) /\ bs.length <= c:=by
  refine ⟨_,_,by simp (decide:=true) [Bd_mk,r396,hw0,z1,z2,z3,fillsE,storeAt,put,sub,Hp.set]; first | exact ⟨rfl,rfl⟩ | exact rfl,by omega⟩
 obtain ⟨bs',c,hB,hc⟩:=hB
 exact ref_none rt396 rv396 hB hc rfl lo
set_option maxHeartbeats 1000000 in
theorem R396 {p:Nat} (bs:List Blk):Rds true E 59 [.agg [.ptr p 0]] p pRule Rule.c 2 (.agg [.d (.slice true []),.d (.slice true []),.d (.slice true [])]) bs:=by
 intro st hR
 have hp:=hR.lt
 cases st with
 | none =>
  have hS:∃ x:Rule,x.c.map V.d = [.d (.slice true []),.d (.slice true []),.d (.slice true [])] /\ ∀ d ∈ x.c,∀ nl c cs,d ≠ .slice nl (c :: cs):=⟨⟨⟨true,[]⟩,⟨true,[]⟩,⟨true,[]⟩⟩,rfl,by intro d hd; simp [Rule.c,Sl.d] at hd; rcases hd with rfl | rfl | rfl <;> simp⟩
  obtain ⟨x,hx,hd⟩:=hS
  refine ⟨.agg [.d (.slice true []),.d (.slice true []),.d (.slice true [])],_,x,none,bs,fun lo=>lo,fun lo=>N396 h404 hR lo,rfl,by rw [← hx]; exact Hngs.flat hd,rfl,hR,Old.refl _ _,fun lo=>Nat.le_refl _,fun _=>⟨rfl,rfl,fun _=>rfl⟩,fun h=>absurd rfl h⟩
 | some b =>
  obtain ⟨v1,x1,st1,bs1,F1,e1,vc1,hg1,s1,r1,o1,l1,a1⟩:=RW468 h404 _ _ (hR.lay [.cells [.ptr p 0],.cells [.d (.slice true []),.d (.slice true []),.d (.slice true [])]])
  have hl1:=o1.1
  simp only [List.length_append,List.length_cons,List.length_nil,List.length_set] at hl1
  have gL1:getB bs1 bs.length = some [.ptr p 0]:=getB_old' o1 (by omega) (by simp)
  have gR1:getB bs1 (bs.length + 1) = some [.d (.slice true []),.d (.slice true []),.d (.slice true [])]:=getB_old' o1 (by omega) (by simp)
  obtain ⟨v2,x2,st2,bs2,F2,e2,vc2,hg2,s2,r2,o2,l2,a2⟩:=RW470 h404 _ _ (r1.lay [.cells [v1,.d (.slice true []),.d (.slice true [])]])
  have hl2:=o2.1
  simp only [List.length_append,List.length_cons,List.length_nil,List.length_set] at hl2
  have gL2:getB bs2 bs.length = some [.ptr p 0]:=getB_old' o2 (by omega) (getB_of gL1)
  have gR2:getB bs2 (bs.length + 1) = some [.d (.slice true []),.d (.slice true []),.d (.slice true [])]:=getB_old' o2 (by omega) (getB_of gR1)
  have gN2:getB bs2 bs1.length = some [v1,.d (.slice true []),.d (.slice true [])]:=getB_old' o2 (by omega) (by simp)
  obtain ⟨v3,x3,st3,bs3,F3,e3,vc3,hg3,s3,r3,o3,l3,a3⟩:=RW472 h404 _ _ (r2.set' (b:=bs1.length) (by omega) (.cells [v1,v2,.d (.slice true [])]))
  have hl3:=o3.1
  simp only [List.length_append,List.length_cons,List.length_nil,List.length_set] at hl3
  have gL3:getB bs3 bs.length = some [.ptr p 0]:=getB_old' o3 (by omega) (by rw [getB_set,if_neg (by omega)]; exact gL2)
  have gR3:getB bs3 (bs.length + 1) = some [.d (.slice true []),.d (.slice true []),.d (.slice true [])]:=getB_old' o3 (by omega) (by rw [getB_set,if_neg (by omega)]; exact gR2)
  have gN3:getB bs3 bs1.length = some [v1,v2,.d (.slice true [])]:=getB_old' o3 (by omega) (by rw [getB_set,if_pos rfl,if_pos (by omega)])
  have hS:Step pRule (some b) ⟨x1,x2,x3⟩ st3:=Step.map (fun x:Sl Source × Sl Target × Sl When=>(⟨x.1,x.2.1,x.2.2⟩:Rule)) (s1.seq (s2.seq s3))
  have n1:¬ bs1.length = bs.length + 1:=by omega
  have n2:¬ bs.length + 1 = bs1.length:=by omega
  have n3:¬ bs1.length = bs.length:=by omega
  have n4:bs.length + 1 < bs3.length:=by omega
  have m2:bs1.length < bs2.length:=by omega
  have m3:bs1.length < bs3.length:=by omega
  have hB:∃ c',Bd E TRd valRd r396 [.agg [.ptr p 0]] ⟨bs,bs.length⟩ = some (.agg [v1,v2,v3],⟨(bs3.set bs1.length (.cells [v1,v2,v3])).set (bs.length + 1) (.cells [v1,v2,v3]),c'⟩) /\ c' <= p:=by
   refine ⟨_,by simp (decide:=true) [Bd_mk,r396,e1,e2,e3,vc1.1,vc1.2,vc2.1,vc2.2,vc3.1,vc3.2,fillsE,storeAt,put,sub,Hp.set,fun ys=>getB_of (ys:=ys) gL1,gL2,gN2,gN3,gR3,getB_set,n1,n2,n3,n4,m2,m3]; exact rfl,?_⟩
   have q1:=a1 (by simp) bs.length
   have q2:=l2 (min (F1 bs.length) bs1.length)
   have q3:=l3 (min (F2 (min (F1 bs.length) bs1.length)) bs1.length)
   omega
  obtain ⟨c',hB,hc⟩:=hB
  have w3:∀ x,x ≠ p -> x ≠ bs1.length -> x ≠ bs.length + 1 -> x < bs3.length -> ((bs3.set bs1.length (.cells [v1,v2,v3])).set (bs.length + 1) (.cells [v1,v2,v3]))[x]? = bs3[x]?:=fun x _ y2 y3 _=>by rw [List.getElem?_set_ne (Ne.symm y3),List.getElem?_set_ne (Ne.symm y2)]
  have w2:∀ x,x ≠ p -> x ≠ bs1.length -> x ≠ bs.length + 1 -> x < bs2.length -> ((bs3.set bs1.length (.cells [v1,v2,v3])).set (bs.length + 1) (.cells [v1,v2,v3]))[x]? = bs2[x]?:=fun x y1 y2 y3 h4=>by rw [w3 x y1 y2 y3 (by omega),o3.2 x y1 (by simp; omega),List.getElem?_set_ne (Ne.symm y2)]
  have w1:∀ x,x ≠ p -> x ≠ bs1.length -> x ≠ bs.length + 1 -> x < bs1.length -> ((bs3.set bs1.length (.cells [v1,v2,v3])).set (bs.length + 1) (.cells [v1,v2,v3]))[x]? = bs1[x]?:=fun x y1 y2 y3 h4=>by rw [w2 x y1 y2 y3 (by omega),o2.2 x y1 (by simp; omega),List.getElem?_append_left h4]
  have hh1:Hng true (KL bs.length ((bs3.set bs1.length (.cells [v1,v2,v3])).set (bs.length + 1) (.cells [v1,v2,v3]))) ((bs3.set bs1.length (.cells [v1,v2,v3])).set (bs.length + 1) (.cells [v1,v2,v3])) v1 (Sl.d Source.c x1) 2:=(hg1.up (by omega)).on (fun x hx=>by
   have h1:=hx.1
   simp only [List.length_append,List.length_cons,List.length_nil,List.length_set] at h1
   exact w1 x (by omega) (by have h2:=hx.2; omega) (by omega) hx.2) fun x hx=>⟨by
   have h1:=hx.1
   simp only [List.length_append,List.length_cons,List.length_nil,List.length_set] at h1
   omega,by have h2:=hx.2; simp only [List.length_set]; omega⟩
  have hh2:Hng true (KL bs.length ((bs3.set bs1.length (.cells [v1,v2,v3])).set (bs.length + 1) (.cells [v1,v2,v3]))) ((bs3.set bs1.length (.cells [v1,v2,v3])).set (bs.length + 1) (.cells [v1,v2,v3])) v2 (Sl.d Target.c x2) 2:=(hg2.up (by omega)).on (fun x hx=>by
   have h1:=hx.1
   simp only [List.length_append,List.length_cons,List.length_nil,List.length_set] at h1
   exact w2 x (by omega) (by omega) (by omega) hx.2) fun x hx=>⟨by
   have h1:=hx.1
   simp only [List.length_append,List.length_cons,List.length_nil,List.length_set] at h1
   omega,by have h2:=hx.2; simp only [List.length_set]; omega⟩
  have hh3:Hng true (KL bs.length ((bs3.set bs1.length (.cells [v1,v2,v3])).set (bs.length + 1) (.cells [v1,v2,v3]))) ((bs3.set bs1.length (.cells [v1,v2,v3])).set (bs.length + 1) (.cells [v1,v2,v3])) v3 (Sl.d When.c x3) 2:=(hg3.up (by omega)).on (fun x hx=>by
   have h1:=hx.1
   simp only [List.length_append,List.length_cons,List.length_nil,List.length_set] at h1
   exact w3 x (by omega) (by omega) (by omega) hx.2) fun x hx=>⟨by
   have h1:=hx.1
   simp only [List.length_append,List.length_cons,List.length_nil,List.length_set] at h1
   omega,by have h2:=hx.2; simp only [List.length_set]; omega⟩
  have d1:Old p bs bs1:=(Old.lay bs _).trans o1
  have d2:Old p bs bs2:=(d1.trans (Old.lay bs1 _)).trans o2
  have d3:Old p bs bs3:=(d2.set' (by omega) _).trans o3
  refine ⟨.agg [v1,v2,v3],_,⟨x1,x2,x3⟩,st3,(bs3.set bs1.length (.cells [v1,v2,v3])).set (bs.length + 1) (.cells [v1,v2,v3]),fun lo=>min lo c',fun lo=>ref_some rt396 rv396 hB (by omega) lo,rfl,⟨hh1,hh2,hh3,trivial⟩,hS,(r3.set' (by omega) _).set' (by omega) _,(d3.set' (by omega) _).set' (by omega) _,fun lo=>Nat.min_le_left _ _,fun h=>(by cases h),fun _ lo=>Nat.le_trans (Nat.min_le_right _ _) hc⟩
theorem RW395 {p:Nat} (bs:List Blk):RdsR true E 58 [.agg [.ptr p 0],.d (i64 6),.mfn 59 [.agg [.ptr p 0]]] p (pSl 6 pRule) Rule.c 3 bs :=
 S_row h404 (rt395:TRd 58 = some (rowQ 57 3 72 [(.d (.slice true [])),(.d (.slice true [])),(.d (.slice true []))])) rv395 (by decide) (by decide) rfl (fun _=>rfl) (g:=59) (args:=[.agg [.ptr p 0]]) (fun _ _=>rfl) rfl rfl (by decide) (by decide) fun bs' _=>(R396 h404 bs').weak
end
end Go.Proofs.YthkeklemhcfbcaaGreat
namespace Go.Proofs.YthkeklemhcfbcaaGreat
variable {w:Bool}
section
variable {E:Calls'}
section
variable (h404:∀ x h,E 99 [.d (u64 x)] h = some (.d (i64 (grpT x)),h))
include h404
theorem R226 {p:Nat} {bs:List Blk} {st:Option (List Int)} (hR:RdS p bs st) {most:Int} (hm0:0 <= most) (hm:most < 2 ^ 64) :
 ∃ n st' bs',∃ F:Nat -> Nat,(∀ lo,Sm E TRd valRd 18 [.agg [.ptr p 0],.d (u64 most)] ⟨bs,lo⟩ = some (.d (u64 n),⟨bs',F lo⟩)) /\ StepZ (pSmall most) st n st' /\ 0 <= n /\ n <= most /\ RdS p bs' st' /\ Old p bs bs' /\ (∀ lo:Nat,F lo <= lo) /\ (st = none -> n = 0 /\ bs' = bs /\ ∀ lo,F lo = lo) /\ (st ≠ none -> ∀ lo,F lo <= p):=by
 have hp:=hR.lt
 obtain ⟨x,st1,bs1,F1,k1,k2,k3,k4,k5,k6,k7,k8⟩:=R225 h404 (hR.lay [.cells [.ptr p 0]])
 have hL:getB bs1 bs.length = some [.ptr p 0]:=by
  have:=k5.2 bs.length (by omega) (by simp)
  unfold getB; rw [this]; simp
 have hw:IntKind.wrap .u64 most = most:=by rw [wrap_u64]; omega
 cases st with
 | none =>
  obtain ⟨rfl,k7⟩:=k7 rfl
  have hn:st1 = none:=k2
  subst hn
  have hx:=k3 rfl
  subst hx
  refine ⟨0,none,bs,id,fun lo=>?_,⟨rfl,fun _=>rfl⟩,Int.le_refl _,hm0,hR,Old.refl _ _,fun lo=>Nat.le_refl _,fun _=>⟨rfl,rfl,fun _=>rfl⟩,fun h=>absurd rfl h⟩
  rw [Sm_ref rt226 rv226]
  simp [r226,Bd_mk,k1,k7,hw,show ¬ ((0:Int) > most) from by omega,V.under]
 | some b =>
  have k8:=k8 (by simp)
  have hlow:¬ bs.length <= F1 bs.length:=by have:=k8 bs.length; omega
  cases hu:pUint b with
  | none =>
   have hst:st1 = none:=by simpa [Step,hu] using k2
   subst hst
   have hx:=k3 rfl
   subst hx
   refine ⟨0,none,bs1,fun lo=>min lo (F1 bs.length),fun lo=>?_,⟨by simp [Step,pSmall,Pr.keep,hu],fun _=>rfl⟩,Int.le_refl _,hm0,k4,(Old.lay bs _).trans k5,fun lo=>Nat.min_le_left _ _,fun h=>(by cases h),fun _ lo=>Nat.le_trans (Nat.min_le_right _ _) (k8 _)⟩
   rw [Sm_ref rt226 rv226]
   simp [r226,Bd_mk,k1,hw,show ¬ ((0:Int) > most) from by omega,hlow]
  | some y =>
   obtain ⟨y,l⟩:=y
   have hst:x = y /\ st1 = some l:=by simpa [Step,hu] using k2
   obtain ⟨rfl,rfl⟩:=hst
   have hbyte:byteL b:=by
    obtain ⟨v,l',g1,g2,g3,g4,g5⟩:=hR
    rw [g5 b rfl]; exact g3
   have h0:=(uint_cod.bwd b x l hbyte hu).2
   by_cases hgt:x > most
   · obtain ⟨bs2,q1,q2,q3⟩:=F237 (E:=E) k4
     refine ⟨0,none,bs2,fun lo=>min lo (min (F1 bs.length) p),fun lo=>?_,⟨by simp [Step,pSmall,Pr.keep,hu,show ¬ x <= most from by omega],fun _=>rfl⟩,Int.le_refl _,hm0,q2,((Old.lay bs _).trans k5).trans q3,fun lo=>Nat.min_le_left _ _,fun h=>(by cases h),fun _ lo=>Nat.le_trans (Nat.min_le_right _ _) (Nat.min_le_right _ _)⟩
     rw [Sm_ref rt226 rv226]
     simp [r226,Bd_mk,k1,hw,hgt,hL,q1,show ¬ bs.length <= min (F1 bs.length) p from by omega]
   · refine ⟨x,some l,bs1,fun lo=>min lo (F1 bs.length),fun lo=>?_,⟨by simp [Step,pSmall,Pr.keep,hu,show x <= most from by omega],fun h=>by cases h⟩,h0.1,by omega,k4,(Old.lay bs _).trans k5,fun lo=>Nat.min_le_left _ _,fun h=>(by cases h),fun _ lo=>Nat.le_trans (Nat.min_le_right _ _) (k8 _)⟩
     rw [Sm_ref rt226 rv226]
     simp [r226,Bd_mk,k1,hw,hgt,hlow]
end
def listB (z by_:Nat) (zero:List V):QC:=(.seq (.reg none [op 13 (.bin .lss (.t 12) (.t 11))]) (.seq (.cond (.t 13) .skip (.exit 0 [7])) (.seq (.block 1 (.reg none [mv 14 7,mv 15 2,op 16 (.call (.t 15) []),op 17 (.buildS z 1 zero [(0,z,(.t 16))]),op 18 (.app z by_ (.t 14) (.t 17)),mv 7 18])) (.reg none [op 19 (.bin .add (.t 12) (.c (.d (.int .u64 1)))),mv 12 19]))))
def listQ (sm z by_:Nat) (zero:List V):QF:=⟨21,[.tmp 6],(.seq (.reg none [op 3 (.box (.t 0)),op 6 (.mov (.c (.d (.slice true []))))]) (.seq (.reg none [op 7 (.mov (.c (.d (.slice true []))))]) (.seq (.seq (.reg none [op 8 (.load false 1 (.t 3)),mv 9 1,op 10 (.convI .u64 (.t 9)),op 11 (.call (.c (.fn sm [])) [.t 8,.t 10]),op 12 (.mov (.c (.d (.int .u64 0))))]) (.block 0 (.loop [2,7,11,12] (listB z by_ zero)))) (.seq (.reg none [mv 20 7,mv 6 20]) (.ret [6])))))⟩
theorem uint_next {i n:Nat} (h:i < n) (hn:n < 2 ^ 62):IntKind.wrap .u64 ((i:Int) + 1) = ((i + 1:Nat):Int):=by rw [wrap_u64]; omega
theorem list_loop {α:Type} {P:Pr α} {cells:α -> List D} {z by_ k:Nat} {zero:List V} (hz0:0 < z) (hby:by_ <= 4096) (hzero:zero.length = z) (hcl:∀ x,(cells x).length = z) {g:FuncId} {args:List V} {fv:V} (hfv:∀ C h,callM C fv [] h = C g args h) (hnu:nu fv = some fv)
 {p:Nat} {bs0:List Blk} (hp:p < bs0.length) (hone:∀ bs,Old p bs0 bs -> RdsW w E g args p P cells k bs) {N:Nat} (hN:N < big) :
 ∀ (m i:Nat) (bs:List Blk) (v:V) (st:Option (List Int)) (ds:List D),i + m = N -> RdS p bs st -> AccV w bs0.length z k i ds bs v -> Old p bs0 bs →
 ∃ v' xs st' bs',∃ F:Nat -> Nat,(∀ lo,Cd E TRd valRd (.loop [2,7,11,12] (listB z by_ zero)) [(2,fv),(7,v),(11,.d (u64 N)),(12,.d (u64 i))] ⟨bs,lo⟩ = some (.exit 0,[(7,v')],⟨bs',F lo⟩)) /\ xs.length = m /\ AccV w bs0.length z k N (ds ++ (xs.map cells).flatten) bs' v' /\ Step (pRow P m) st xs st' /\ RdS p bs' st' /\ Old p bs0 bs' /\ ∀ lo:Nat,F lo <= lo:=by
 intro m
 have hN2:N < 2 ^ 62:=Nat.lt_trans hN (by decide)
 have key:=Cd_round (E:=E) (T:=TRd) (val:=valRd) [2,7,11,12] (listB z by_ zero)
 generalize Cd E TRd valRd (.loop [2,7,11,12] (listB z by_ zero)) = W at key ⊢
 induction m with
 | zero =>
  intro i bs v st ds hi hR hA ho
  have:i = N:=by omega
  subst this
  refine ⟨v,[],st,bs,id,fun lo=>?_,rfl,by simpa using hA,Step.nil,hR,ho,fun lo=>Nat.le_refl _⟩
  rw [key]
  simp [listB]
 | succ m ih =>
  intro i bs v st ds hi hR hA ho
  obtain ⟨v1,vs,x,st1,bs1,F1,a1,a2,a3,a4,a5,a6,a7⟩:=hone bs ho st hR
  have hvl:=a3.cells_len (hcl x)
  have hA1:AccV w bs0.length z k i ds (bs1 ++ [.cells vs]) v:=hA.on (by have:=a6.1; simp; omega) fun y h1 h2=>by
   rw [List.getElem?_append_left (by have:=a6.1; omega)]
   exact a6.2 y (by omega) h2
  have hBl:∀ B n' c,v = .row B 0 n' c z -> B < bs.length:=by
   rintro B n' c rfl
   rcases hA with ⟨_,_,h⟩ | ⟨_,B',cs,_,h,h3,_⟩
   · cases h
   · cases h; exact getB_len h3
  have hle:=ho.1
  have hle1:=a6.1
  obtain ⟨v2,bs2,F2,b1,b2,b3,b4,b5⟩:=hA1.app hz0 hby (by omega) (r:=bs1.length) (cap:=some 1) hvl (by simp) (L2:=bs.length) hle hBl
   (a3.on (fun y hy=>by rw [List.getElem?_append_left hy.2]) fun y hy=>⟨hy.1,by have:=hy.2; simp; omega⟩) (by simp; omega)
  have hR2:RdS p bs2 st1:=a5.upto fun y hy=>by
   rw [b4 y (by omega),List.getElem?_append_left (by omega)]
  have ho2:Old p bs0 bs2:=⟨by simp at b3; omega,fun y h1 h2=>by
   rw [b4 y h2,List.getElem?_append_left (by omega),a6.2 y h1 (by omega),ho.2 y h1 h2]⟩
  obtain ⟨v',xs,st',bs',F3,c1,c2,c3,c4,c5,c6,c7⟩:=ih (i + 1) bs2 v2 st1 _ (by omega) hR2 b2 ho2
  refine ⟨v',x :: xs,st',bs',fun lo=>F3 (F2 (F1 lo)),fun lo=>?_,by simp [c2],by simpa using c3,Step.row a4 c4,c5,c6,fun lo=>Nat.le_trans (c7 _) (Nat.le_trans (b5 _) (a7 _))⟩
  rw [← c1,key]
  have hw:=uint_next (i:=i) (n:=N) (by omega) hN2
  have hlt:((i:Int) < (N:Int)):=by omega
  have hfill:∀ ev:X -> V,ev (.t 16) = v1 -> fillsE ev zero [(0,z,.t 16)] = some vs:=fun ev he=>fill_one he a2 hvl hzero
  simp [listB,hlt,hA.nu,hnu,hfv,a1,hfill,b1,b2.nu,hw]
theorem list_zero {z by_:Nat} {zero:List V} {fv v:V} (hv:nu v = some v) (h:Hp):Cd E TRd valRd (.loop [2,7,11,12] (listB z by_ zero)) [(2,fv),(7,v),(11,.d (u64 0)),(12,.d (u64 0))] h = some (.exit 0,[(7,v)],h):=by
 rw [Cd_round]
 simp [listB]
section
variable (h404:∀ x h,E 99 [.d (u64 x)] h = some (.d (i64 (grpT x)),h))
include h404
theorem S_listN {id z by_:Nat} {zero:List V} (ht:TRd id = some (listQ 18 z by_ zero)) (hv:valRd id = false) {fv:V} (hnu:nu fv = some fv) (hok:okV fv = true) {p:Nat} {bs:List Blk} {most:Int} (hm0:0 <= most) (hm:most < big) (hR:RdS p bs none) (lo:Nat) :
 Sm E TRd valRd id [.agg [.ptr p 0],.d (i64 most),fv] ⟨bs,lo⟩ = some (.d (.slice true []),⟨bs,lo⟩):=by
 obtain ⟨n,st1,bs1,F1,a1,a2,a3,a4,a5,a6,a7,a8,a9⟩:=R226 h404 (hR.lay [.cells [.ptr p 0]]) hm0 (show most < 2 ^ 64 from Int.lt_trans hm (by decide))
 obtain ⟨rfl,rfl,a8⟩:=a8 rfl
 rw [Sm_ref ht hv]
 simp [listQ,Bd_mk,a1,a8,hnu,show IntKind.wrap .u64 most = most from by rw [wrap_u64]; have:(big:Int) < 2 ^ 62:=(by decide); omega]
 rw [Cd_keep]
 simp [list_zero (E:=E) (v:=.d (.slice true [])) rfl,V.under,hnu]
theorem S_list {α:Type} {P:Pr α} {cells:α -> List D} {z by_ k id:Nat} {zero:List V} (ht:TRd id = some (listQ 18 z by_ zero)) (hv:valRd id = false) (hz0:0 < z) (hby:by_ <= 4096) (hzero:zero.length = z) (hcl:∀ x,(cells x).length = z) {g:FuncId} {args:List V} {fv:V} (hfv:∀ C h,callM C fv [] h = C g args h) (hnu:nu fv = some fv) (hok:okV fv = true)
 {p:Nat} {bs:List Blk} {most:Int} (hm0:0 <= most) (hm:most < big) (hone:∀ bs',Old p bs bs' -> RdsW w E g args p P cells k bs') :
 RdsR w E id [.agg [.ptr p 0],.d (i64 most),fv] p (pSl most P) cells (k + 1) bs:=by
 refine RdsR.mk (S_listN h404 ht hv hnu hok hm0 hm) fun b hR=>?_
 have hp:=hR.lt
 obtain ⟨n,st1,bs1,F1,a1,a2,a3,a4,a5,a6,a7,a8,a9⟩:=R226 h404 (hR.lay [.cells [.ptr p 0]]) hm0 (show most < 2 ^ 64 from Int.lt_trans hm (by decide))
 have a9:=a9 (by simp)
 obtain ⟨N,rfl⟩:=Int.eq_ofNat_of_zero_le a3
 obtain ⟨v',xs,st',bs',F2,c1,c2,c3,c4,c5,c6,c7⟩:=list_loop (E:=E) (by_:=by_) hz0 hby hzero hcl hfv hnu (bs0:=bs ++ [.cells [.ptr p 0]]) (by simp; omega) (fun bs' ho=>hone bs' ((Old.lay bs _).trans ho)) (N:=N) (by omega) N 0 bs1 (.d (.slice true [])) st1 [] (by omega) a5 (AccV.nil _ _ _ _) a6
 have hflat:(xs.map cells).length = N:=by simp [c2]
 have hH:=AccV.hng (es:=xs.map cells) (by simpa using c3) (fun e he=>by obtain ⟨x,_,rfl⟩:=List.mem_map.1 he; exact hcl x) hflat.symm
 have hS:Step (pSl most P) (some b) ⟨xs.isEmpty,xs⟩ st':=by
  have:=(StepZ.seq a2 (l:=xs) (s2:=st') (by simpa using c4)).map fun l=>(⟨l.isEmpty,l⟩:Sl α)
  exact this
 have hF:F2 (F1 bs.length) <= p:=Nat.le_trans (c7 _) (a9 _)
 refine ⟨v',⟨xs.isEmpty,xs⟩,st',bs',fun lo=>min lo (F2 (F1 bs.length)),fun lo=>?_,⟨?_,c3.nu⟩,?_,hS,c5,(Old.lay bs _).trans c6,fun lo=>Nat.min_le_left _ _,fun lo=>Nat.le_trans (Nat.min_le_right _ _) hF⟩
 · rw [Sm_ref ht hv]
   simp only [Int.natCast_zero] at c1
   simp [listQ,Bd_mk,a1,hnu,show IntKind.wrap .u64 most = most from by rw [wrap_u64]; have:(big:Int) < 2 ^ 62:=(by decide); omega]
   rw [Cd_keep]
   simp [c1,c3.nu,hnu,show ¬ bs.length <= F2 (F1 bs.length) from by omega]
 · rcases c3 with ⟨_,_,rfl⟩ | ⟨_,B,cs,_,rfl,_⟩ <;> rfl
 · have:Sl.d cells ⟨xs.isEmpty,xs⟩ = .slice (xs.map cells).isEmpty (xs.map cells):=by simp [Sl.d]
   rw [this]
   exact hH.on (fun _ _=>rfl) fun x hx=>⟨by
    have h1:bs.length + 1 <= x:=hx.1
    omega,hx.2⟩
end
end
end Go.Proofs.YthkeklemhcfbcaaGreat
namespace Go.Proofs.YthkeklemhcfbcaaGreat
section
variable {E:Calls'} (h404:∀ x h,E 99 [.d (u64 x)] h = some (.d (i64 (grpT x)),h))
include h404
set_option maxHeartbeats 1000000 in
theorem R233 {p q:Nat} (bs:List Blk) (hq:getB bs q = some [.ptr p 0]) (hqp:q ≠ p):Rds true E 25 [.ptr q 0] p pWay Way.c 0 (.agg [.d (u64 0),.d (i64 0)]) bs:=by
 intro st hR
 have hp:=hR.lt
 have hql:=getB_len hq
 obtain ⟨x1,st1,bs1,F1,e1,s1,z1,r1,o1,l1,n1,a1⟩:=R225 h404 (hR.lay [.cells [.d (u64 0),.d (i64 0)]])
 have hl1:=o1.1
 try simp only [List.length_append,List.length_cons,List.length_nil,List.length_set] at hl1
 have mQ1:getB (bs ++ [Blk.cells [.d (u64 0),.d (i64 0)]]) q = some [.ptr p 0]:=getB_of hq
 have mR1:getB (bs ++ [Blk.cells [.d (u64 0),.d (i64 0)]]) bs.length = some [.d (u64 0),.d (i64 0)]:=by simp
 have gQ1:getB bs1 q = some [.ptr p 0]:=getB_old' o1 hqp mQ1
 have gR1:getB bs1 bs.length = some [.d (u64 0),.d (i64 0)]:=getB_old' o1 (by omega) mR1
 have nN1:¬ bs1.length = bs.length:=by omega
 have nN2:¬ bs1.length = q:=by omega
 have nN3:¬ bs.length = bs1.length:=by omega
 have nN4:q < bs1.length:=by omega
 obtain ⟨x2,st2,bs2,F2,e2,sz2,b2,c2,r2,o2,l2,n2,a2⟩:=R226 h404 (r1.lay [.cells [.d (u64 x1),.d (i64 0)]]) (most:=9) (by decide) (by decide)
 have s2:=sz2.1
 have z2:=sz2.2
 have hw2:IntKind.wrap .i64 x2 = x2:=wrap64 (by omega) (by omega)
 have hl2:=o2.1
 try simp only [List.length_append,List.length_cons,List.length_nil,List.length_set] at hl2
 have mQ2:getB (bs1 ++ [Blk.cells [.d (u64 x1),.d (i64 0)]]) q = some [.ptr p 0]:=getB_of gQ1
 have mR2:getB (bs1 ++ [Blk.cells [.d (u64 x1),.d (i64 0)]]) bs.length = some [.d (u64 0),.d (i64 0)]:=getB_of gR1
 have mN2:getB (bs1 ++ [Blk.cells [.d (u64 x1),.d (i64 0)]]) bs1.length = some [.d (u64 x1),.d (i64 0)]:=by simp
 have gQ2:getB bs2 q = some [.ptr p 0]:=getB_old' o2 hqp mQ2
 have gR2:getB bs2 bs.length = some [.d (u64 0),.d (i64 0)]:=getB_old' o2 (by omega) mR2
 have gN2:getB bs2 bs1.length = some [.d (u64 x1),.d (i64 0)]:=getB_old' o2 (by omega) mN2
 have hB:∃ c',Bd E TRd valRd r233 [.ptr q 0] ⟨bs,bs.length⟩ = some (.agg [.d (u64 x1),.d (i64 x2)],⟨(bs2.set bs1.length (.cells [.d (u64 x1),.d (i64 x2)])).set bs.length (.cells [.d (u64 x1),.d (i64 x2)]),c'⟩) /\ (st ≠ none -> c' <= p) /\ (st = none -> bs.length <= c'):=by
  have hm:bs.length < bs2.length:=by omega
  have hm2:bs1.length < bs2.length:=by omega
  have hN2:bs1.length < bs2.length:=by omega
  refine ⟨_,by simp (decide:=true) [Bd_mk,r233,openA,noTr,fillsE,storeAt,put,sub,Hp.set,e1,e2,hw2,mQ1,mQ2,gQ1,gQ2,gN2,gR2,getB_set,nN1,nN2,nN3,nN4,hm,hm2,hN2]; exact rfl,fun hst=>?_,fun hst=>?_⟩
  · repeat first | exact a1 hst bs.length | refine Nat.le_trans (Nat.min_le_left _ _) ?_ | refine Nat.le_trans (l2 _) ?_
  · subst hst
    have y1:st1 = none:=s1
    subst y1
    have f1:=(n1 rfl).2
    have y2:st2 = none:=s2
    subst y2
    have f2:=(n2 rfl).2.2
    simp only [f1,f2]
    omega
 obtain ⟨c',hB,hc,hn⟩:=hB
 have hS:Step pWay st ⟨x1,x2⟩ st2:=Step.map (fun x:Int × Int=>(⟨x.1,x.2⟩:Way)) (s1.seq s2)
 have d1:Old p bs bs1:=(Old.lay bs _).trans o1
 have d2:Old p bs bs2:=(d1.trans (Old.lay bs1 _)).trans o2
 cases st with
 | none =>
  have y1:st1 = none:=s1
  subst y1
  have v1:=z1 rfl
  subst v1
  have y2:st2 = none:=s2
  subst y2
  have v2:=z2 rfl
  subst v2
  exact ⟨.agg [.d (u64 0),.d (i64 0)],_,⟨0,0⟩,none,bs,fun lo=>lo,fun lo=>ref_none rt233 rv233 hB (hn rfl) rfl lo,rfl,Hngs.flat (ds:=Way.c ⟨0,0⟩) (by simp [Way.c]),hS,hR,Old.refl _ _,fun lo=>Nat.le_refl _,fun _=>⟨rfl,rfl,fun _=>rfl⟩,fun h=>absurd rfl h⟩
 | some b =>
  have hc:=hc (by simp)
  exact ⟨.agg [.d (u64 x1),.d (i64 x2)],_,⟨x1,x2⟩,st2,(bs2.set bs1.length (.cells [.d (u64 x1),.d (i64 x2)])).set bs.length (.cells [.d (u64 x1),.d (i64 x2)]),fun lo=>min lo c',fun lo=>ref_some rt233 rv233 hB (by omega) lo,rfl,Hngs.flat (ds:=Way.c ⟨x1,x2⟩) (by simp [Way.c]),hS,(r2.set' (by omega) _).set' (by omega) _,(d2.set' (by omega) _).set' (by omega) _,fun lo=>Nat.min_le_left _ _,fun h=>(by cases h),fun _ lo=>Nat.le_trans (Nat.min_le_right _ _) hc⟩
set_option maxHeartbeats 1000000 in
theorem R231 {p q:Nat} (bs:List Blk) (hq:getB bs q = some [.ptr p 0]) (hqp:q ≠ p):Rds true E 23 [.ptr q 0] p pSvc Svc.c 0 (.agg [.d (u64 0),.d (.str ⟨#[]⟩),.d (u32 0),.d (i64 0),.d (u64 0)]) bs:=by
 intro st hR
 have hp:=hR.lt
 have hql:=getB_len hq
 obtain ⟨x1,st1,bs1,F1,e1,s1,z1,r1,o1,l1,n1,a1⟩:=R225 h404 (hR.lay [.cells [.d (u64 0),.d (.str ⟨#[]⟩),.d (u32 0),.d (i64 0),.d (u64 0)]])
 have hl1:=o1.1
 try simp only [List.length_append,List.length_cons,List.length_nil,List.length_set] at hl1
 have mQ1:getB (bs ++ [Blk.cells [.d (u64 0),.d (.str ⟨#[]⟩),.d (u32 0),.d (i64 0),.d (u64 0)]]) q = some [.ptr p 0]:=getB_of hq
 have mR1:getB (bs ++ [Blk.cells [.d (u64 0),.d (.str ⟨#[]⟩),.d (u32 0),.d (i64 0),.d (u64 0)]]) bs.length = some [.d (u64 0),.d (.str ⟨#[]⟩),.d (u32 0),.d (i64 0),.d (u64 0)]:=by simp
 have gQ1:getB bs1 q = some [.ptr p 0]:=getB_old' o1 hqp mQ1
 have gR1:getB bs1 bs.length = some [.d (u64 0),.d (.str ⟨#[]⟩),.d (u32 0),.d (i64 0),.d (u64 0)]:=getB_old' o1 (by omega) mR1
 obtain ⟨x2,st2,bs2,F2,e2,s2,z2,r2,o2,l2,n2,a2⟩:=R229 h404 r1 (most:=20) (by decide) (by decide)
 have hl2:=o2.1
 try simp only [List.length_append,List.length_cons,List.length_nil,List.length_set] at hl2
 have mQ2:=gQ1
 have mR2:=gR1
 have gQ2:getB bs2 q = some [.ptr p 0]:=getB_old' o2 hqp mQ2
 have gR2:getB bs2 bs.length = some [.d (u64 0),.d (.str ⟨#[]⟩),.d (u32 0),.d (i64 0),.d (u64 0)]:=getB_old' o2 (by omega) mR2
 have nN1:¬ bs2.length = bs.length:=by omega
 have nN2:¬ bs2.length = q:=by omega
 have nN3:¬ bs.length = bs2.length:=by omega
 have nN4:q < bs2.length:=by omega
 obtain ⟨x3,st3,bs3,F3,e3,sz3,b3,c3,r3,o3,l3,n3,a3⟩:=R226 h404 (r2.lay [.cells [.d (u64 x1),.d (.str x2),.d (u32 0),.d (i64 0),.d (u64 0)]]) (most:=4294967295) (by decide) (by decide)
 have s3:=sz3.1
 have z3:=sz3.2
 have hw3:IntKind.wrap .u32 x3 = x3:=by simp [IntKind.wrap,IntKind.bits,IntKind.signed]; omega
 have hl3:=o3.1
 try simp only [List.length_append,List.length_cons,List.length_nil,List.length_set] at hl3
 have mQ3:getB (bs2 ++ [Blk.cells [.d (u64 x1),.d (.str x2),.d (u32 0),.d (i64 0),.d (u64 0)]]) q = some [.ptr p 0]:=getB_of gQ2
 have mR3:getB (bs2 ++ [Blk.cells [.d (u64 x1),.d (.str x2),.d (u32 0),.d (i64 0),.d (u64 0)]]) bs.length = some [.d (u64 0),.d (.str ⟨#[]⟩),.d (u32 0),.d (i64 0),.d (u64 0)]:=getB_of gR2
 have mN3:getB (bs2 ++ [Blk.cells [.d (u64 x1),.d (.str x2),.d (u32 0),.d (i64 0),.d (u64 0)]]) bs2.length = some [.d (u64 x1),.d (.str x2),.d (u32 0),.d (i64 0),.d (u64 0)]:=by simp
 have gQ3:getB bs3 q = some [.ptr p 0]:=getB_old' o3 hqp mQ3
 have gR3:getB bs3 bs.length = some [.d (u64 0),.d (.str ⟨#[]⟩),.d (u32 0),.d (i64 0),.d (u64 0)]:=getB_old' o3 (by omega) mR3
 have gN3:getB bs3 bs2.length = some [.d (u64 x1),.d (.str x2),.d (u32 0),.d (i64 0),.d (u64 0)]:=getB_old' o3 (by omega) mN3
 obtain ⟨x4,st4,bs4,F4,e4,sz4,b4,c4,r4,o4,l4,n4,a4⟩:=R226 h404 r3 (most:=65535) (by decide) (by decide)
 have s4:=sz4.1
 have z4:=sz4.2
 have hw4:IntKind.wrap .i64 x4 = x4:=wrap64 (by omega) (by omega)
 have hl4:=o4.1
 try simp only [List.length_append,List.length_cons,List.length_nil,List.length_set] at hl4
 have mQ4:=gQ3
 have mR4:=gR3
 have mN4:=gN3
 have gQ4:getB bs4 q = some [.ptr p 0]:=getB_old' o4 hqp mQ4
 have gR4:getB bs4 bs.length = some [.d (u64 0),.d (.str ⟨#[]⟩),.d (u32 0),.d (i64 0),.d (u64 0)]:=getB_old' o4 (by omega) mR4
 have gN4:getB bs4 bs2.length = some [.d (u64 x1),.d (.str x2),.d (u32 0),.d (i64 0),.d (u64 0)]:=getB_old' o4 (by omega) mN4
 obtain ⟨x5,st5,bs5,F5,e5,s5,z5,r5,o5,l5,n5,a5⟩:=R225 h404 r4
 have hl5:=o5.1
 try simp only [List.length_append,List.length_cons,List.length_nil,List.length_set] at hl5
 have mQ5:=gQ4
 have mR5:=gR4
 have mN5:=gN4
 have gQ5:getB bs5 q = some [.ptr p 0]:=getB_old' o5 hqp mQ5
 have gR5:getB bs5 bs.length = some [.d (u64 0),.d (.str ⟨#[]⟩),.d (u32 0),.d (i64 0),.d (u64 0)]:=getB_old' o5 (by omega) mR5
 have gN5:getB bs5 bs2.length = some [.d (u64 x1),.d (.str x2),.d (u32 0),.d (i64 0),.d (u64 0)]:=getB_old' o5 (by omega) mN5
 obtain ⟨t1,G1,h1,T1,g1,gn1,ga1⟩:=read_open e1 (by first | omega | (simp only [List.length_append,List.length_cons,List.length_nil,List.length_set]; omega)) o1 (st:=st) (n1) a1 (K:=[q]) (fun b hb=>by simp only [List.mem_singleton] at hb; subst hb; exact ⟨hqp,_,mQ1,by simp [sameVs,sameV]⟩) (m:=bs2.length) (by first | omega | (simp only [List.length_append,List.length_cons,List.length_nil,List.length_set]; omega))
 obtain ⟨t2,G2,h2,T2,g2,gn2,ga2⟩:=read_open e2 (by first | omega | (simp only [List.length_append,List.length_cons,List.length_nil,List.length_set]; omega)) o2 (st:=st1) (n2) a2 (K:=[q]) (fun b hb=>by simp only [List.mem_singleton] at hb; subst hb; exact ⟨hqp,_,mQ2,by simp [sameVs,sameV]⟩) (m:=bs2.length) (by first | omega | (simp only [List.length_append,List.length_cons,List.length_nil,List.length_set]; omega))
 obtain ⟨t3,G3,h3,T3,g3,gn3,ga3⟩:=read_open e3 (by first | omega | (simp only [List.length_append,List.length_cons,List.length_nil,List.length_set]; omega)) o3 (st:=st2) (fun h=>⟨(n3 h).2.1,(n3 h).2.2⟩) a3 (K:=[q]) (fun b hb=>by simp only [List.mem_singleton] at hb; subst hb; exact ⟨hqp,_,mQ3,by simp [sameVs,sameV]⟩) (m:=bs5.length) (by first | omega | (simp only [List.length_append,List.length_cons,List.length_nil,List.length_set]; omega))
 obtain ⟨t4,G4,h4,T4,g4,gn4,ga4⟩:=read_open e4 (by first | omega | (simp only [List.length_append,List.length_cons,List.length_nil,List.length_set]; omega)) o4 (st:=st3) (fun h=>⟨(n4 h).2.1,(n4 h).2.2⟩) a4 (K:=[q]) (fun b hb=>by simp only [List.mem_singleton] at hb; subst hb; exact ⟨hqp,_,mQ4,by simp [sameVs,sameV]⟩) (m:=bs5.length) (by first | omega | (simp only [List.length_append,List.length_cons,List.length_nil,List.length_set]; omega))
 obtain ⟨t5,G5,h5,T5,g5,gn5,ga5⟩:=read_open e5 (by first | omega | (simp only [List.length_append,List.length_cons,List.length_nil,List.length_set]; omega)) o5 (st:=st4) (n5) a5 (K:=[q]) (fun b hb=>by simp only [List.mem_singleton] at hb; subst hb; exact ⟨hqp,_,mQ5,by simp [sameVs,sameV]⟩) (m:=bs5.length) (by first | omega | (simp only [List.length_append,List.length_cons,List.length_nil,List.length_set]; omega))
 have hB:∃ c',Bd E TRd valRd r231 [.ptr q 0] ⟨bs,bs.length⟩ = some (.agg [.d (u64 x1),.d (.str x2),.d (u32 x3),.d (i64 x4),.d (u64 x5)],⟨(bs5.set bs2.length (.cells [.d (u64 x1),.d (.str x2),.d (u32 x3),.d (i64 x4),.d (u64 x5)])).set bs.length (.cells [.d (u64 x1),.d (.str x2),.d (u32 x3),.d (i64 x4),.d (u64 x5)]),c'⟩) /\ (st ≠ none -> c' <= p) /\ (st = none -> bs.length <= c'):=by
  have hm:bs.length < bs5.length:=by omega
  have hm2:bs2.length < bs5.length:=by omega
  have hN3:bs2.length < bs3.length:=by omega
  have hN4:bs2.length < bs4.length:=by omega
  have hN5:bs2.length < bs5.length:=by omega
  refine ⟨_,by simp (decide:=true) [Bd_mk,r231,openA,noTr,fillsE,storeAt,put,sub,Hp.set,h1,h2,h3,h4,h5,hw3,hw4,mQ1,mQ2,mQ3,mQ4,mQ5,gQ1,gQ2,gQ3,gQ4,gQ5,gN3,gN4,gN5,gR5,getB_set,nN1,nN2,nN3,nN4,hm,hm2,hN3,hN4,hN5]; rw [if_pos (apartT_cls [q] (bs2.length) [0,0,1,0,0,1,0,3,2] (by rfl) (by simp [ClsOk,Cls,Quiet,Sto,Lay,T1,T2,nN1,nN2,nN3,nN4]))]; simp (decide:=true) [openA,noTr,fillsE,storeAt,put,sub,Hp.set,h1,h2,h3,h4,h5,hw3,hw4,mQ1,mQ2,mQ3,mQ4,mQ5,gQ1,gQ2,gQ3,gQ4,gQ5,gN3,gN4,gN5,gR5,getB_set,nN1,nN2,nN3,nN4,hm,hm2,hN3,hN4,hN5]; rw [if_pos (apartT_cls [q] (bs5.length) [0,1,0,0,1,0,0,0,1,0,2,0,2,0,2] (by rfl) (by simp [ClsOk,Cls,Quiet,Sto,Lay,T3,T4,T5,nN1,nN2,nN3,nN4]))]; simp (decide:=true) [openA,noTr,fillsE,storeAt,put,sub,Hp.set,h1,h2,h3,h4,h5,hw3,hw4,mQ1,mQ2,mQ3,mQ4,mQ5,gQ1,gQ2,gQ3,gQ4,gQ5,gN3,gN4,gN5,gR5,getB_set,nN1,nN2,nN3,nN4,hm,hm2,hN3,hN4,hN5]; exact rfl,fun hst=>?_,fun hst=>?_⟩
  · repeat first | exact ga1 hst bs.length | refine Nat.le_trans (Nat.min_le_left _ _) ?_ | refine Nat.le_trans (g2 _) ?_ | refine Nat.le_trans (g3 _) ?_ | refine Nat.le_trans (g4 _) ?_ | refine Nat.le_trans (g5 _) ?_
  · subst hst
    have y1:st1 = none:=s1
    subst y1
    have f1:=gn1 rfl
    have y2:st2 = none:=s2
    subst y2
    have f2:=gn2 rfl
    have y3:st3 = none:=s3
    subst y3
    have f3:=gn3 rfl
    have y4:st4 = none:=s4
    subst y4
    have f4:=gn4 rfl
    have y5:st5 = none:=s5
    subst y5
    have f5:=gn5 rfl
    simp only [f1,f2,f3,f4,f5]
    omega
 obtain ⟨c',hB,hc,hn⟩:=hB
 have hS:Step pSvc st ⟨x1,x2,x3,x4,x5⟩ st5:=Step.map (fun x:Int × ByteArray × Int × Int × Int=>(⟨x.1,x.2.1,x.2.2.1,x.2.2.2.1,x.2.2.2.2⟩:Svc)) (s1.seq (s2.seq (s3.seq (s4.seq s5))))
 have d1:Old p bs bs1:=(Old.lay bs _).trans o1
 have d2:Old p bs bs2:=d1.trans o2
 have d3:Old p bs bs3:=(d2.trans (Old.lay bs2 _)).trans o3
 have d4:Old p bs bs4:=d3.trans o4
 have d5:Old p bs bs5:=d4.trans o5
 cases st with
 | none =>
  have y1:st1 = none:=s1
  subst y1
  have v1:=z1 rfl
  subst v1
  have y2:st2 = none:=s2
  subst y2
  have v2:=z2 rfl
  subst v2
  have y3:st3 = none:=s3
  subst y3
  have v3:=z3 rfl
  subst v3
  have y4:st4 = none:=s4
  subst y4
  have v4:=z4 rfl
  subst v4
  have y5:st5 = none:=s5
  subst y5
  have v5:=z5 rfl
  subst v5
  exact ⟨.agg [.d (u64 0),.d (.str ⟨#[]⟩),.d (u32 0),.d (i64 0),.d (u64 0)],_,⟨0,⟨#[]⟩,0,0,0⟩,none,bs,fun lo=>lo,fun lo=>ref_none rt231 rv231 hB (hn rfl) rfl lo,rfl,Hngs.flat (ds:=Svc.c ⟨0,⟨#[]⟩,0,0,0⟩) (by simp [Svc.c]),hS,hR,Old.refl _ _,fun lo=>Nat.le_refl _,fun _=>⟨rfl,rfl,fun _=>rfl⟩,fun h=>absurd rfl h⟩
 | some b =>
  have hc:=hc (by simp)
  exact ⟨.agg [.d (u64 x1),.d (.str x2),.d (u32 x3),.d (i64 x4),.d (u64 x5)],_,⟨x1,x2,x3,x4,x5⟩,st5,(bs5.set bs2.length (.cells [.d (u64 x1),.d (.str x2),.d (u32 x3),.d (i64 x4),.d (u64 x5)])).set bs.length (.cells [.d (u64 x1),.d (.str x2),.d (u32 x3),.d (i64 x4),.d (u64 x5)]),fun lo=>min lo c',fun lo=>ref_some rt231 rv231 hB (by omega) lo,rfl,Hngs.flat (ds:=Svc.c ⟨x1,x2,x3,x4,x5⟩) (by simp [Svc.c]),hS,(r5.set' (by omega) _).set' (by omega) _,(d5.set' (by omega) _).set' (by omega) _,fun lo=>Nat.min_le_left _ _,fun h=>(by cases h),fun _ lo=>Nat.le_trans (Nat.min_le_right _ _) hc⟩
set_option maxHeartbeats 1000000 in
theorem R228 {p q:Nat} (bs:List Blk) (hq:getB bs q = some [.ptr p 0]) (hqp:q ≠ p):Rds true E 20 [.ptr q 0] p pPod Pod.c 0 (.agg [.d (u64 0),.d (.str ⟨#[]⟩),.d (.str ⟨#[]⟩),.d (i64 0),.d (u32 0),.d (i64 0),.d (u64 0)]) bs:=by
 intro st hR
 have hp:=hR.lt
 have hql:=getB_len hq
 obtain ⟨x1,st1,bs1,F1,e1,s1,z1,r1,o1,l1,n1,a1⟩:=R225 h404 (hR.lay [.cells [.d (u64 0),.d (.str ⟨#[]⟩),.d (.str ⟨#[]⟩),.d (i64 0),.d (u32 0),.d (i64 0),.d (u64 0)]])
 have hl1:=o1.1
 try simp only [List.length_append,List.length_cons,List.length_nil,List.length_set] at hl1
 have mQ1:getB (bs ++ [Blk.cells [.d (u64 0),.d (.str ⟨#[]⟩),.d (.str ⟨#[]⟩),.d (i64 0),.d (u32 0),.d (i64 0),.d (u64 0)]]) q = some [.ptr p 0]:=getB_of hq
 have mR1:getB (bs ++ [Blk.cells [.d (u64 0),.d (.str ⟨#[]⟩),.d (.str ⟨#[]⟩),.d (i64 0),.d (u32 0),.d (i64 0),.d (u64 0)]]) bs.length = some [.d (u64 0),.d (.str ⟨#[]⟩),.d (.str ⟨#[]⟩),.d (i64 0),.d (u32 0),.d (i64 0),.d (u64 0)]:=by simp
 have gQ1:getB bs1 q = some [.ptr p 0]:=getB_old' o1 hqp mQ1
 have gR1:getB bs1 bs.length = some [.d (u64 0),.d (.str ⟨#[]⟩),.d (.str ⟨#[]⟩),.d (i64 0),.d (u32 0),.d (i64 0),.d (u64 0)]:=getB_old' o1 (by omega) mR1
 have nN1:¬ bs1.length = bs.length:=by omega
 have nN2:¬ bs1.length = q:=by omega
 have nN3:¬ bs.length = bs1.length:=by omega
 have nN4:q < bs1.length:=by omega
 obtain ⟨x2,st2,bs2,F2,e2,s2,z2,r2,o2,l2,n2,a2⟩:=R229 h404 (r1.lay [.cells [.d (u64 x1),.d (.str ⟨#[]⟩),.d (.str ⟨#[]⟩),.d (i64 0),.d (u32 0),.d (i64 0),.d (u64 0)]]) (most:=20) (by decide) (by decide)
 have hl2:=o2.1
 try simp only [List.length_append,List.length_cons,List.length_nil,List.length_set] at hl2
 have mQ2:getB (bs1 ++ [Blk.cells [.d (u64 x1),.d (.str ⟨#[]⟩),.d (.str ⟨#[]⟩),.d (i64 0),.d (u32 0),.d (i64 0),.d (u64 0)]]) q = some [.ptr p 0]:=getB_of gQ1
 have mR2:getB (bs1 ++ [Blk.cells [.d (u64 x1),.d (.str ⟨#[]⟩),.d (.str ⟨#[]⟩),.d (i64 0),.d (u32 0),.d (i64 0),.d (u64 0)]]) bs.length = some [.d (u64 0),.d (.str ⟨#[]⟩),.d (.str ⟨#[]⟩),.d (i64 0),.d (u32 0),.d (i64 0),.d (u64 0)]:=getB_of gR1
 have mN2:getB (bs1 ++ [Blk.cells [.d (u64 x1),.d (.str ⟨#[]⟩),.d (.str ⟨#[]⟩),.d (i64 0),.d (u32 0),.d (i64 0),.d (u64 0)]]) bs1.length = some [.d (u64 x1),.d (.str ⟨#[]⟩),.d (.str ⟨#[]⟩),.d (i64 0),.d (u32 0),.d (i64 0),.d (u64 0)]:=by simp
 have gQ2:getB bs2 q = some [.ptr p 0]:=getB_old' o2 hqp mQ2
 have gR2:getB bs2 bs.length = some [.d (u64 0),.d (.str ⟨#[]⟩),.d (.str ⟨#[]⟩),.d (i64 0),.d (u32 0),.d (i64 0),.d (u64 0)]:=getB_old' o2 (by omega) mR2
 have gN2:getB bs2 bs1.length = some [.d (u64 x1),.d (.str ⟨#[]⟩),.d (.str ⟨#[]⟩),.d (i64 0),.d (u32 0),.d (i64 0),.d (u64 0)]:=getB_old' o2 (by omega) mN2
 obtain ⟨x3,st3,bs3,F3,e3,s3,z3,r3,o3,l3,n3,a3⟩:=R229 h404 r2 (most:=20) (by decide) (by decide)
 have hl3:=o3.1
 try simp only [List.length_append,List.length_cons,List.length_nil,List.length_set] at hl3
 have mQ3:=gQ2
 have mR3:=gR2
 have mN3:=gN2
 have gQ3:getB bs3 q = some [.ptr p 0]:=getB_old' o3 hqp mQ3
 have gR3:getB bs3 bs.length = some [.d (u64 0),.d (.str ⟨#[]⟩),.d (.str ⟨#[]⟩),.d (i64 0),.d (u32 0),.d (i64 0),.d (u64 0)]:=getB_old' o3 (by omega) mR3
 have gN3:getB bs3 bs1.length = some [.d (u64 x1),.d (.str ⟨#[]⟩),.d (.str ⟨#[]⟩),.d (i64 0),.d (u32 0),.d (i64 0),.d (u64 0)]:=getB_old' o3 (by omega) mN3
 obtain ⟨x4,st4,bs4,F4,e4,sz4,b4,c4,r4,o4,l4,n4,a4⟩:=R226 h404 (r3.set' (b:=bs1.length) (by omega) (.cells [.d (u64 x1),.d (.str x2),.d (.str x3),.d (i64 0),.d (u32 0),.d (i64 0),.d (u64 0)])) (most:=9) (by decide) (by decide)
 have s4:=sz4.1
 have z4:=sz4.2
 have hw4:IntKind.wrap .i64 x4 = x4:=wrap64 (by omega) (by omega)
 have hl4:=o4.1
 try simp only [List.length_append,List.length_cons,List.length_nil,List.length_set] at hl4
 have mQ4:getB (bs3.set bs1.length (.cells [.d (u64 x1),.d (.str x2),.d (.str x3),.d (i64 0),.d (u32 0),.d (i64 0),.d (u64 0)])) q = some [.ptr p 0]:=by rw [getB_set,if_neg (by omega)]; exact gQ3
 have mR4:getB (bs3.set bs1.length (.cells [.d (u64 x1),.d (.str x2),.d (.str x3),.d (i64 0),.d (u32 0),.d (i64 0),.d (u64 0)])) bs.length = some [.d (u64 0),.d (.str ⟨#[]⟩),.d (.str ⟨#[]⟩),.d (i64 0),.d (u32 0),.d (i64 0),.d (u64 0)]:=by rw [getB_set,if_neg (by omega)]; exact gR3
 have mN4:getB (bs3.set bs1.length (.cells [.d (u64 x1),.d (.str x2),.d (.str x3),.d (i64 0),.d (u32 0),.d (i64 0),.d (u64 0)])) bs1.length = some [.d (u64 x1),.d (.str x2),.d (.str x3),.d (i64 0),.d (u32 0),.d (i64 0),.d (u64 0)]:=by rw [getB_set,if_pos rfl,if_pos (by omega)]
 have gQ4:getB bs4 q = some [.ptr p 0]:=getB_old' o4 hqp mQ4
 have gR4:getB bs4 bs.length = some [.d (u64 0),.d (.str ⟨#[]⟩),.d (.str ⟨#[]⟩),.d (i64 0),.d (u32 0),.d (i64 0),.d (u64 0)]:=getB_old' o4 (by omega) mR4
 have gN4:getB bs4 bs1.length = some [.d (u64 x1),.d (.str x2),.d (.str x3),.d (i64 0),.d (u32 0),.d (i64 0),.d (u64 0)]:=getB_old' o4 (by omega) mN4
 obtain ⟨x5,st5,bs5,F5,e5,sz5,b5,c5,r5,o5,l5,n5,a5⟩:=R226 h404 r4 (most:=4294967295) (by decide) (by decide)
 have s5:=sz5.1
 have z5:=sz5.2
 have hw5:IntKind.wrap .u32 x5 = x5:=by simp [IntKind.wrap,IntKind.bits,IntKind.signed]; omega
 have hl5:=o5.1
 try simp only [List.length_append,List.length_cons,List.length_nil,List.length_set] at hl5
 have mQ5:=gQ4
 have mR5:=gR4
 have mN5:=gN4
 have gQ5:getB bs5 q = some [.ptr p 0]:=getB_old' o5 hqp mQ5
 have gR5:getB bs5 bs.length = some [.d (u64 0),.d (.str ⟨#[]⟩),.d (.str ⟨#[]⟩),.d (i64 0),.d (u32 0),.d (i64 0),.d (u64 0)]:=getB_old' o5 (by omega) mR5
 have gN5:getB bs5 bs1.length = some [.d (u64 x1),.d (.str x2),.d (.str x3),.d (i64 0),.d (u32 0),.d (i64 0),.d (u64 0)]:=getB_old' o5 (by omega) mN5
 obtain ⟨x6,st6,bs6,F6,e6,sz6,b6,c6,r6,o6,l6,n6,a6⟩:=R226 h404 r5 (most:=65535) (by decide) (by decide)
 have s6:=sz6.1
 have z6:=sz6.2
 have hw6:IntKind.wrap .i64 x6 = x6:=wrap64 (by omega) (by omega)
 have hl6:=o6.1
 try simp only [List.length_append,List.length_cons,List.length_nil,List.length_set] at hl6
 have mQ6:=gQ5
 have mR6:=gR5
 have mN6:=gN5
 have gQ6:getB bs6 q = some [.ptr p 0]:=getB_old' o6 hqp mQ6
 have gR6:getB bs6 bs.length = some [.d (u64 0),.d (.str ⟨#[]⟩),.d (.str ⟨#[]⟩),.d (i64 0),.d (u32 0),.d (i64 0),.d (u64 0)]:=getB_old' o6 (by omega) mR6
 have gN6:getB bs6 bs1.length = some [.d (u64 x1),.d (.str x2),.d (.str x3),.d (i64 0),.d (u32 0),.d (i64 0),.d (u64 0)]:=getB_old' o6 (by omega) mN6
 obtain ⟨x7,st7,bs7,F7,e7,s7,z7,r7,o7,l7,n7,a7⟩:=R225 h404 r6
 have hl7:=o7.1
 try simp only [List.length_append,List.length_cons,List.length_nil,List.length_set] at hl7
 have mQ7:=gQ6
 have mR7:=gR6
 have mN7:=gN6
 have gQ7:getB bs7 q = some [.ptr p 0]:=getB_old' o7 hqp mQ7
 have gR7:getB bs7 bs.length = some [.d (u64 0),.d (.str ⟨#[]⟩),.d (.str ⟨#[]⟩),.d (i64 0),.d (u32 0),.d (i64 0),.d (u64 0)]:=getB_old' o7 (by omega) mR7
 have gN7:getB bs7 bs1.length = some [.d (u64 x1),.d (.str x2),.d (.str x3),.d (i64 0),.d (u32 0),.d (i64 0),.d (u64 0)]:=getB_old' o7 (by omega) mN7
 obtain ⟨t2,G2,h2,T2,g2,gn2,ga2⟩:=read_open e2 (by first | omega | (simp only [List.length_append,List.length_cons,List.length_nil,List.length_set]; omega)) o2 (st:=st1) (n2) a2 (K:=[q]) (fun b hb=>by simp only [List.mem_singleton] at hb; subst hb; exact ⟨hqp,_,mQ2,by simp [sameVs,sameV]⟩) (m:=bs3.length) (by first | omega | (simp only [List.length_append,List.length_cons,List.length_nil,List.length_set]; omega))
 obtain ⟨t3,G3,h3,T3,g3,gn3,ga3⟩:=read_open e3 (by first | omega | (simp only [List.length_append,List.length_cons,List.length_nil,List.length_set]; omega)) o3 (st:=st2) (n3) a3 (K:=[q]) (fun b hb=>by simp only [List.mem_singleton] at hb; subst hb; exact ⟨hqp,_,mQ3,by simp [sameVs,sameV]⟩) (m:=bs3.length) (by first | omega | (simp only [List.length_append,List.length_cons,List.length_nil,List.length_set]; omega))
 obtain ⟨t4,G4,h4,T4,g4,gn4,ga4⟩:=read_open e4 (by first | omega | (simp only [List.length_append,List.length_cons,List.length_nil,List.length_set]; omega)) o4 (st:=st3) (fun h=>⟨(n4 h).2.1,(n4 h).2.2⟩) a4 (K:=[q]) (fun b hb=>by simp only [List.mem_singleton] at hb; subst hb; exact ⟨hqp,_,mQ4,by simp [sameVs,sameV]⟩) (m:=bs7.length) (by first | omega | (simp only [List.length_append,List.length_cons,List.length_nil,List.length_set]; omega))
 obtain ⟨t5,G5,h5,T5,g5,gn5,ga5⟩:=read_open e5 (by first | omega | (simp only [List.length_append,List.length_cons,List.length_nil,List.length_set]; omega)) o5 (st:=st4) (fun h=>⟨(n5 h).2.1,(n5 h).2.2⟩) a5 (K:=[q]) (fun b hb=>by simp only [List.mem_singleton] at hb; subst hb; exact ⟨hqp,_,mQ5,by simp [sameVs,sameV]⟩) (m:=bs7.length) (by first | omega | (simp only [List.length_append,List.length_cons,List.length_nil,List.length_set]; omega))
 obtain ⟨t6,G6,h6,T6,g6,gn6,ga6⟩:=read_open e6 (by first | omega | (simp only [List.length_append,List.length_cons,List.length_nil,List.length_set]; omega)) o6 (st:=st5) (fun h=>⟨(n6 h).2.1,(n6 h).2.2⟩) a6 (K:=[q]) (fun b hb=>by simp only [List.mem_singleton] at hb; subst hb; exact ⟨hqp,_,mQ6,by simp [sameVs,sameV]⟩) (m:=bs7.length) (by first | omega | (simp only [List.length_append,List.length_cons,List.length_nil,List.length_set]; omega))
 obtain ⟨t7,G7,h7,T7,g7,gn7,ga7⟩:=read_open e7 (by first | omega | (simp only [List.length_append,List.length_cons,List.length_nil,List.length_set]; omega)) o7 (st:=st6) (n7) a7 (K:=[q]) (fun b hb=>by simp only [List.mem_singleton] at hb; subst hb; exact ⟨hqp,_,mQ7,by simp [sameVs,sameV]⟩) (m:=bs7.length) (by first | omega | (simp only [List.length_append,List.length_cons,List.length_nil,List.length_set]; omega))
 have hB:∃ c',Bd E TRd valRd r228 [.ptr q 0] ⟨bs,bs.length⟩ = some (.agg [.d (u64 x1),.d (.str x2),.d (.str x3),.d (i64 x4),.d (u32 x5),.d (i64 x6),.d (u64 x7)],⟨(bs7.set bs1.length (.cells [.d (u64 x1),.d (.str x2),.d (.str x3),.d (i64 x4),.d (u32 x5),.d (i64 x6),.d (u64 x7)])).set bs.length (.cells [.d (u64 x1),.d (.str x2),.d (.str x3),.d (i64 x4),.d (u32 x5),.d (i64 x6),.d (u64 x7)]),c'⟩) /\ (st ≠ none -> c' <= p) /\ (st = none -> bs.length <= c'):=by
  have hm:bs.length < bs7.length:=by omega
  have hm2:bs1.length < bs7.length:=by omega
  have hN2:bs1.length < bs2.length:=by omega
  have hN3:bs1.length < bs3.length:=by omega
  have hN4:bs1.length < bs4.length:=by omega
  have hN5:bs1.length < bs5.length:=by omega
  have hN6:bs1.length < bs6.length:=by omega
  have hN7:bs1.length < bs7.length:=by omega
  refine ⟨_,by simp (decide:=true) [Bd_mk,r228,openA,noTr,fillsE,storeAt,put,sub,Hp.set,e1,h2,h3,h4,h5,h6,h7,hw4,hw5,hw6,mQ1,mQ2,mQ3,mQ4,mQ5,mQ6,mQ7,gQ1,gQ2,gQ3,gQ4,gQ5,gQ6,gQ7,gN2,gN3,gN4,gN5,gN6,gN7,gR7,getB_set,nN1,nN2,nN3,nN4,hm,hm2,hN2,hN3,hN4,hN5,hN6,hN7]; rw [if_pos (apartT_cls [q] (bs3.length) [0,0,1,0,0,1,0,0,2,0,0,2] (by rfl) (by simp [ClsOk,Cls,Quiet,Sto,Lay,T2,T3,nN1,nN2,nN3,nN4]))]; simp (decide:=true) [openA,noTr,fillsE,storeAt,put,sub,Hp.set,e1,h2,h3,h4,h5,h6,h7,hw4,hw5,hw6,mQ1,mQ2,mQ3,mQ4,mQ5,mQ6,mQ7,gQ1,gQ2,gQ3,gQ4,gQ5,gQ6,gQ7,gN2,gN3,gN4,gN5,gN6,gN7,gR7,getB_set,nN1,nN2,nN3,nN4,hm,hm2,hN2,hN3,hN4,hN5,hN6,hN7]; rw [if_pos (apartT_cls [q] (bs7.length) [0,1,0,0,1,0,0,1,0,0,0,1,0,2,0,2,0,2,0,2] (by rfl) (by simp [ClsOk,Cls,Quiet,Sto,Lay,T4,T5,T6,T7,nN1,nN2,nN3,nN4]))]; simp (decide:=true) [openA,noTr,fillsE,storeAt,put,sub,Hp.set,e1,h2,h3,h4,h5,h6,h7,hw4,hw5,hw6,mQ1,mQ2,mQ3,mQ4,mQ5,mQ6,mQ7,gQ1,gQ2,gQ3,gQ4,gQ5,gQ6,gQ7,gN2,gN3,gN4,gN5,gN6,gN7,gR7,getB_set,nN1,nN2,nN3,nN4,hm,hm2,hN2,hN3,hN4,hN5,hN6,hN7]; exact rfl,fun hst=>?_,fun hst=>?_⟩
  · repeat first | exact a1 hst bs.length | refine Nat.le_trans (Nat.min_le_left _ _) ?_ | refine Nat.le_trans (g2 _) ?_ | refine Nat.le_trans (g3 _) ?_ | refine Nat.le_trans (g4 _) ?_ | refine Nat.le_trans (g5 _) ?_ | refine Nat.le_trans (g6 _) ?_ | refine Nat.le_trans (g7 _) ?_
  · subst hst
    have y1:st1 = none:=s1
    subst y1
    have f1:=(n1 rfl).2
    have y2:st2 = none:=s2
    subst y2
    have f2:=gn2 rfl
    have y3:st3 = none:=s3
    subst y3
    have f3:=gn3 rfl
    have y4:st4 = none:=s4
    subst y4
    have f4:=gn4 rfl
    have y5:st5 = none:=s5
    subst y5
    have f5:=gn5 rfl
    have y6:st6 = none:=s6
    subst y6
    have f6:=gn6 rfl
    have y7:st7 = none:=s7
    subst y7
    have f7:=gn7 rfl
    simp only [f1,f2,f3,f4,f5,f6,f7]
    omega
 obtain ⟨c',hB,hc,hn⟩:=hB
 have hS:Step pPod st ⟨x1,x2,x3,x4,x5,x6,x7⟩ st7:=Step.map (fun x:Int × ByteArray × ByteArray × Int × Int × Int × Int=>(⟨x.1,x.2.1,x.2.2.1,x.2.2.2.1,x.2.2.2.2.1,x.2.2.2.2.2.1,x.2.2.2.2.2.2⟩:Pod)) (s1.seq (s2.seq (s3.seq (s4.seq (s5.seq (s6.seq s7))))))
 have d1:Old p bs bs1:=(Old.lay bs _).trans o1
 have d2:Old p bs bs2:=(d1.trans (Old.lay bs1 _)).trans o2
 have d3:Old p bs bs3:=d2.trans o3
 have d4:Old p bs bs4:=(d3.set' (by omega) _).trans o4
 have d5:Old p bs bs5:=d4.trans o5
 have d6:Old p bs bs6:=d5.trans o6
 have d7:Old p bs bs7:=d6.trans o7
 cases st with
 | none =>
  have y1:st1 = none:=s1
  subst y1
  have v1:=z1 rfl
  subst v1
  have y2:st2 = none:=s2
  subst y2
  have v2:=z2 rfl
  subst v2
  have y3:st3 = none:=s3
  subst y3
  have v3:=z3 rfl
  subst v3
  have y4:st4 = none:=s4
  subst y4
  have v4:=z4 rfl
  subst v4
  have y5:st5 = none:=s5
  subst y5
  have v5:=z5 rfl
  subst v5
  have y6:st6 = none:=s6
  subst y6
  have v6:=z6 rfl
  subst v6
  have y7:st7 = none:=s7
  subst y7
  have v7:=z7 rfl
  subst v7
  exact ⟨.agg [.d (u64 0),.d (.str ⟨#[]⟩),.d (.str ⟨#[]⟩),.d (i64 0),.d (u32 0),.d (i64 0),.d (u64 0)],_,⟨0,⟨#[]⟩,⟨#[]⟩,0,0,0,0⟩,none,bs,fun lo=>lo,fun lo=>ref_none rt228 rv228 hB (hn rfl) rfl lo,rfl,Hngs.flat (ds:=Pod.c ⟨0,⟨#[]⟩,⟨#[]⟩,0,0,0,0⟩) (by simp [Pod.c]),hS,hR,Old.refl _ _,fun lo=>Nat.le_refl _,fun _=>⟨rfl,rfl,fun _=>rfl⟩,fun h=>absurd rfl h⟩
 | some b =>
  have hc:=hc (by simp)
  exact ⟨.agg [.d (u64 x1),.d (.str x2),.d (.str x3),.d (i64 x4),.d (u32 x5),.d (i64 x6),.d (u64 x7)],_,⟨x1,x2,x3,x4,x5,x6,x7⟩,st7,(bs7.set bs1.length (.cells [.d (u64 x1),.d (.str x2),.d (.str x3),.d (i64 x4),.d (u32 x5),.d (i64 x6),.d (u64 x7)])).set bs.length (.cells [.d (u64 x1),.d (.str x2),.d (.str x3),.d (i64 x4),.d (u32 x5),.d (i64 x6),.d (u64 x7)]),fun lo=>min lo c',fun lo=>ref_some rt228 rv228 hB (by omega) lo,rfl,Hngs.flat (ds:=Pod.c ⟨x1,x2,x3,x4,x5,x6,x7⟩) (by simp [Pod.c]),hS,(r7.set' (by omega) _).set' (by omega) _,(d7.set' (by omega) _).set' (by omega) _,fun lo=>Nat.min_le_left _ _,fun h=>(by cases h),fun _ lo=>Nat.le_trans (Nat.min_le_right _ _) hc⟩
theorem RW227 {p q:Nat} (bs:List Blk) (hq:getB bs q = some [.ptr p 0]) (hqp:q ≠ p):RdsR true E 19 [.agg [.ptr p 0],.d (i64 16),.fn 20 [.ptr q 0]] p (pSl 16 pPod) Pod.c 1 bs :=
 S_list h404 (rt227:TRd 19 = some (listQ 18 7 72 [(.d (u64 0)),(.d (.str ⟨#[]⟩)),(.d (.str ⟨#[]⟩)),(.d (i64 0)),(.d (u32 0)),(.d (i64 0)),(.d (u64 0))])) rv227 (by decide) (by decide) rfl (fun _=>rfl) (g:=20) (args:=[.ptr q 0]) (fun _ _=>rfl) rfl rfl (by decide) (by decide) fun bs' ho=>(R228 h404 bs' (getB_old' ho hqp hq) hqp).weak
theorem RW230 {p q:Nat} (bs:List Blk) (hq:getB bs q = some [.ptr p 0]) (hqp:q ≠ p):RdsR true E 22 [.agg [.ptr p 0],.d (i64 6),.fn 23 [.ptr q 0]] p (pSl 6 pSvc) Svc.c 1 bs :=
 S_list h404 (rt230:TRd 22 = some (listQ 18 5 48 [(.d (u64 0)),(.d (.str ⟨#[]⟩)),(.d (u32 0)),(.d (i64 0)),(.d (u64 0))])) rv230 (by decide) (by decide) rfl (fun _=>rfl) (g:=23) (args:=[.ptr q 0]) (fun _ _=>rfl) rfl rfl (by decide) (by decide) fun bs' ho=>(R231 h404 bs' (getB_old' ho hqp hq) hqp).weak
theorem RW232 {p q:Nat} (bs:List Blk) (hq:getB bs q = some [.ptr p 0]) (hqp:q ≠ p):RdsR true E 24 [.agg [.ptr p 0],.d (i64 4),.fn 25 [.ptr q 0]] p (pSl 4 pWay) Way.c 1 bs :=
 S_list h404 (rt232:TRd 24 = some (listQ 18 2 16 [(.d (u64 0)),(.d (i64 0))])) rv232 (by decide) (by decide) rfl (fun _=>rfl) (g:=25) (args:=[.ptr q 0]) (fun _ _=>rfl) rfl rfl (by decide) (by decide) fun bs' ho=>(R233 h404 bs' (getB_old' ho hqp hq) hqp).weak
end
end Go.Proofs.YthkeklemhcfbcaaGreat
