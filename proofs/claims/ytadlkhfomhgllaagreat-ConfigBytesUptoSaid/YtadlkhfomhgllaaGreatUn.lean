/- policy.reader: term, net, port; rows of them. -/
import Derived.Test.YtadlkhfomhgllaaGreatUe
import Derived.KernelRfl
set_option maxHeartbeats 1000000
set_option maxRecDepth 100000
set_option linter.unusedVariables false
set_option linter.unusedSimpArgs false
namespace Go.Proofs.YtadlkhfomhgllaaGreat
open IntKind (wrap)
section
theorem af {bs bs':List Blk}{x p:Nat}{cs:List V}(ho:Old p bs bs')(hx:x≠p)(h:aa bs x=some cs):aa bs' x=some cs:=by
 have:=ho.2 x hx (aN h);unfold aa at h ⊢; rw [this]; exact h
theorem Old.set' {p b:Nat}{bs bs':List Blk}(h:Old p bs bs')(hb:bs.length<=b)(x:Blk):Old p bs (bs'.set b x) :=
 ⟨by simpa using h.1,λy h1 h2=>by rw [ac (by omega)]; exact h.2 y h1 h2⟩
theorem RdS.set' {p b:Nat}{bs:List Blk}{st:Option (List Int)}(h:RdS p bs st)(hb:p<b)(x:Blk):RdS p (bs.set b x) st :=
 h.upto λy hy=>by rw [ac (by omega)]
theorem Hngs.flat {K:Nat->Prop}{bs:List Blk}{k:Nat}:∀ {ds:List D},(∀ d∈ds,∀ nl c cs,d≠.slice nl (c::cs))->Hngs true K bs k (ds.map .d) ds
 | [],_=>trivial
 | d::ds,h=>⟨Hng.d (h d (by simp)),Hngs.flat λe he=>h e (by simp [he])⟩
section
variable {E:Calls'}
theorem gP {f:FuncId}{q:QF}(ht:TRd f=some q)(hv:aD f=false){args:List V}{bs bs':List Blk}{v:V}{c:Nat}(hB:Bd E TRd aD q args ⟨bs,bs.length⟩=some (v,⟨bs',c⟩))(hc:bs.length<=c)(hu:v.under bs.length=true)(lo:Nat):Sm E TRd aD f args ⟨bs,lo⟩=some (v,⟨bs,lo⟩):=by
 rw [aM ht hv];simp only at hB ⊢;rw [hB,eu,if_pos ⟨hc,hu⟩]
theorem fG {f:FuncId}{q:QF}(ht:TRd f=some q)(hv:aD f=false){args:List V}{bs bs':List Blk}{v:V}{c:Nat}(hB:Bd E TRd aD q args ⟨bs,bs.length⟩=some (v,⟨bs',c⟩))(hc:c<bs.length)(lo:Nat):Sm E TRd aD f args ⟨bs,lo⟩=some (v,⟨bs',min lo c⟩):=by
 rw [aM ht hv];simp only at hB ⊢;rw [hB,eu,if_neg (λh=>by have:=h.1; simp only at this; omega)]
theorem AO {p:Nat}{bs:List Blk}{st st1:Option (List Int)}{c:Int}(hR:RdS p bs st)(h:Step pByte st c st1)(h0:st1=none->c=0):0<=c/\c<256:=by
 cases st with
 | none=>rw [h0 h]; decide
 | some b =>
  cases b with
  | nil=>rw [h0 h]; decide
  | cons x l =>
   have h:c=x/\st1=some l:=h;obtain ⟨v,m,g1,g2,g3,g4,g5⟩:=hR;have:=g5 _ rfl;subst this;rw [h.1]; exact g3 x (by simp)
theorem hw0:wrap .i64 0=0:=by decide
theorem Reads.none {α:Type}{f:FuncId}{args:List V}{p:Nat}{bs:List Blk}{P:Pr α}{enc:α->D}{zero:α}(h:Reads E f args p bs none P enc zero)(lo:Nat):Sm E TRd aD f args ⟨bs,lo⟩=some (.d (enc zero),⟨bs,lo⟩):=by
 obtain ⟨x,st',bs',F,h1,h2,h3,_,_,_,h7,_⟩:=h;have:=h3 h2;subst this;obtain ⟨e,q7⟩:=h7 rfl;subst e;rw [h1 lo,q7]
theorem Vy {p:Nat}{bs:List Blk}(hR:RdS p bs none)(lo:Nat):Sm E TRd aD 251 [.ptr p 0] ⟨bs,lo⟩=some (.d (.int .u8 0),⟨bs,lo⟩):=(Qg (E:=E) hR).none lo
theorem ap4 {p:Nat}{bs:List Blk}(hR:RdS p bs none)(lo:Nat):Sm E TRd aD 250 [.ptr p 0] ⟨bs,lo⟩=some (.d (.int .u32 0),⟨bs,lo⟩):=(U2 (E:=E) hR).none lo
theorem ae1 {p:Nat}{bs:List Blk}(hR:RdS p bs none)(lo:Nat):Sm E TRd aD 214 [.agg [.ptr p 0]] ⟨bs,lo⟩=some (.agg [.d (u32 0),.d (i64 0)],⟨bs,lo⟩):=by
 have z1:=λys lo=>ap4 (E:=E) (hR.lay ys) lo;have z2:=λys lo=>Vy (E:=E) (hR.lay ys) lo;have hB:∃ bs' c,Bd E TRd aD He [.agg [.ptr p 0]] ⟨bs,bs.length⟩=some (.agg [.d (u32 0),.d (i64 0)],⟨bs',c⟩)/\bs.length<=c:=by
  refine ⟨_,_,by simp +decide [ae,He,hw0,z1,z2,az,storeAt,put,sub,Hp.set]; first | exact ⟨rfl,rfl⟩ | exact rfl,by omega⟩
 obtain ⟨bs',c,hB,hc⟩:=hB;exact gP Pj PP hB hc rfl lo
theorem af5 {p:Nat}(bs:List Blk):Rds true E 214 [.agg [.ptr p 0]] p uN Cidr.c 0 (.agg [.d (u32 0),.d (i64 0)]) bs:=by
 intro st hR;have hp:=hR.lt;cases st with
 | none =>
  have hS:∃ x:Cidr,x.c.map V.d=[.d (u32 0),.d (i64 0)]/\∀ d∈x.c,∀ nl c cs,d≠.slice nl (c::cs):=⟨⟨0,0⟩,rfl,by intro d hd; simp [Cidr.c] at hd; obtain rfl | rfl:=hd<;>simp⟩;obtain ⟨x,hx,hd⟩:=hS;refine ⟨.agg [.d (u32 0),.d (i64 0)],_,x,none,bs,λlo=>lo,λlo=>ae1 hR lo,rfl,by rw [← hx]; exact Hngs.flat hd,rfl,hR,Old.refl _ _,λlo=>bo _,λ_=>⟨rfl,rfl,λ_=>rfl⟩,λh=>absurd rfl h⟩
 | some b =>
  obtain ⟨x1,st1,bs1,F1,e1,s1,z1,r1,o1,l1,n1_,a1⟩:=U2 (E:=E) (hR.lay [.cells [.ptr p 0],.cells [.d (u32 0),.d (i64 0)]]);have hl1:=o1.1;simp only [ao,cj,ck] at hl1;have gL1:aa bs1 bs.length=some [.ptr p 0]:=af o1 (by omega) (by simp);have gR1:aa bs1 (bs.length+1)=some [.d (u32 0),.d (i64 0)]:=af o1 (by omega) (by simp);obtain ⟨x2,st2,bs2,F2,e2,s2,z2,r2,o2,l2,n2_,a2⟩:=Qg (E:=E) (r1.lay [.cells [.d (u32 x1),.d (i64 0)]]);have hc2:=AO (r1) s2 z2;have hw2:wrap .i64 x2=x2:=wrap64 (by omega) (by omega);have hl2:=o2.1;simp only [ao,cj,ck] at hl2;have gL2:aa bs2 bs.length=some [.ptr p 0]:=af o2 (by omega) (ay gL1);have gR2:aa bs2 (bs.length+1)=some [.d (u32 0),.d (i64 0)]:=af o2 (by omega) (ay gR1);have gN2:aa bs2 bs1.length=some [.d (u32 x1),.d (i64 0)]:=af o2 (by omega) (by simp);have hS:Step uN (some b) ⟨x1,x2⟩ st2:=Step.map (λx:Int×Int=>(⟨x.1,x.2⟩:Cidr)) (s1.seq s2);have n1:¬ bs1.length=bs.length+1:=by omega
  have n2:¬ bs.length+1=bs1.length:=by omega
  have n3:¬ bs1.length=bs.length:=by omega
  have n4:bs.length+1<bs2.length:=by omega
  have m2:bs1.length<bs2.length:=by omega
  have hB:∃ c',Bd E TRd aD He [.agg [.ptr p 0]] ⟨bs,bs.length⟩=some (.agg [.d (u32 x1),.d (i64 x2)],⟨(bs2.set bs1.length (.cells [.d (u32 x1),.d (i64 x2)])).set (bs.length+1) (.cells [.d (u32 x1),.d (i64 x2)]),c'⟩)/\c'<=p:=by
   refine ⟨_,by simp +decide [ae,He,e1,e2,hw2,az,storeAt,put,sub,Hp.set,λys=>ay (ys:=ys) gL1,gN2,gR2,ak,n1,n4,m2]; exact rfl,?_⟩;have q1:=a1 (by simp) bs.length;have q2:=l2 (min (F1 bs.length) bs1.length);omega
  obtain ⟨c',hB,hc⟩:=hB;have w2:∀ x,x≠p->x≠bs1.length->x≠bs.length+1->x<bs2.length->((bs2.set bs1.length (.cells [.d (u32 x1),.d (i64 x2)])).set (bs.length+1) (.cells [.d (u32 x1),.d (i64 x2)]))[x]?=bs2[x]?:=λx _ y2 y3 _=>by rw [ac (Ne.symm y3),ac (Ne.symm y2)]
  have w1:∀ x,x≠p->x≠bs1.length->x≠bs.length+1->x<bs1.length->((bs2.set bs1.length (.cells [.d (u32 x1),.d (i64 x2)])).set (bs.length+1) (.cells [.d (u32 x1),.d (i64 x2)]))[x]?=bs1[x]?:=λx y1 y2 y3 h4=>by rw [w2 x y1 y2 y3 (by omega),o2.2 x y1 (by simp; omega),am h4]
  have d1:Old p bs bs1:=(Old.lay bs _).trans o1;have d2:Old p bs bs2:=(d1.trans (Old.lay bs1 _)).trans o2;refine ⟨.agg [.d (u32 x1),.d (i64 x2)],_,⟨x1,x2⟩,st2,(bs2.set bs1.length (.cells [.d (u32 x1),.d (i64 x2)])).set (bs.length+1) (.cells [.d (u32 x1),.d (i64 x2)]),λlo=>min lo c',λlo=>fG Pj PP hB (by omega) lo,rfl,⟨Hng.d (by simp),Hng.d (by simp),trivial⟩,hS,(r2.set' (by omega) _).set' (by omega) _,(d2.set' (by omega) _).set' (by omega) _,λlo=>Nat.min_le_left _ _,λh=>(by cases h),λ_ lo=>ch (Nat.min_le_right _ _) hc⟩
section
variable (h404:∀ x h,E 163 [.d (u64 x)] h=some (.d (i64 (dE x)),h))
include h404
theorem Vx {most:Int}(h0:0<=most)(h1:most<2 ^ 62){p:Nat}{bs:List Blk}(hR:RdS p bs none)(lo:Nat):Sm E TRd aD 44 [.ptr p 0,.d (i64 most)] ⟨bs,lo⟩=some (.d (.str ⟨#[]⟩),⟨bs,lo⟩):=(Ak h404 hR h0 h1).none lo
theorem ae2 {p:Nat}{bs:List Blk}(hR:RdS p bs none)(lo:Nat):Sm E TRd aD 249 [.agg [.ptr p 0]] ⟨bs,lo⟩=some (.agg [.d (i64 0),.d (.str ⟨#[]⟩)],⟨bs,lo⟩):=by
 have z1:=λys lo=>Vy (E:=E) (hR.lay ys) lo;have z2:=λys lo=>Vx h404 (most:=64) (by decide) (by decide) (hR.lay ys) lo;have hB:∃ bs' c,Bd E TRd aD Hg [.agg [.ptr p 0]] ⟨bs,bs.length⟩=some (.agg [.d (i64 0),.d (.str ⟨#[]⟩)],⟨bs',c⟩)/\bs.length<=c:=by
  refine ⟨_,_,by simp +decide [ae,Hg,hw0,z1,z2,az,storeAt,put,sub,Hp.set]; first | exact ⟨rfl,rfl⟩ | exact rfl,by omega⟩
 obtain ⟨bs',c,hB,hc⟩:=hB;exact gP Po PT hB hc rfl lo
theorem af7 {p:Nat}(bs:List Blk):Rds true E 249 [.agg [.ptr p 0]] p yP Term.c 0 (.agg [.d (i64 0),.d (.str ⟨#[]⟩)]) bs:=by
 intro st hR;have hp:=hR.lt;cases st with
 | none =>
  have hS:∃ x:Term,x.c.map V.d=[.d (i64 0),.d (.str ⟨#[]⟩)]/\∀ d∈x.c,∀ nl c cs,d≠.slice nl (c::cs):=⟨⟨0,⟨#[]⟩⟩,rfl,by intro d hd; simp [Term.c] at hd; obtain rfl | rfl:=hd<;>simp⟩;obtain ⟨x,hx,hd⟩:=hS;refine ⟨.agg [.d (i64 0),.d (.str ⟨#[]⟩)],_,x,none,bs,λlo=>lo,λlo=>ae2 h404 hR lo,rfl,by rw [← hx]; exact Hngs.flat hd,rfl,hR,Old.refl _ _,λlo=>bo _,λ_=>⟨rfl,rfl,λ_=>rfl⟩,λh=>absurd rfl h⟩
 | some b =>
  obtain ⟨x1,st1,bs1,F1,e1,s1,z1,r1,o1,l1,n1_,a1⟩:=Qg (E:=E) (hR.lay [.cells [.ptr p 0],.cells [.d (i64 0),.d (.str ⟨#[]⟩)]]);have hc1:=AO (hR) s1 z1;have hw1:wrap .i64 x1=x1:=wrap64 (by omega) (by omega);have hl1:=o1.1;simp only [ao,cj,ck] at hl1;have gL1:aa bs1 bs.length=some [.ptr p 0]:=af o1 (by omega) (by simp);have gR1:aa bs1 (bs.length+1)=some [.d (i64 0),.d (.str ⟨#[]⟩)]:=af o1 (by omega) (by simp);obtain ⟨x2,st2,bs2,F2,e2,s2,z2,r2,o2,l2,n2_,a2⟩:=Ak h404 (r1.lay [.cells [.d (i64 x1),.d (.str ⟨#[]⟩)]]) (most:=64) (by decide) (by decide);have hl2:=o2.1;simp only [ao,cj,ck] at hl2;have gL2:aa bs2 bs.length=some [.ptr p 0]:=af o2 (by omega) (ay gL1);have gR2:aa bs2 (bs.length+1)=some [.d (i64 0),.d (.str ⟨#[]⟩)]:=af o2 (by omega) (ay gR1);have gN2:aa bs2 bs1.length=some [.d (i64 x1),.d (.str ⟨#[]⟩)]:=af o2 (by omega) (by simp);have hS:Step yP (some b) ⟨x1,x2⟩ st2:=Step.map (λx:Int×ByteArray=>(⟨x.1,x.2⟩:Term)) (s1.seq s2);have n1:¬ bs1.length=bs.length+1:=by omega
  have n2:¬ bs.length+1=bs1.length:=by omega
  have n3:¬ bs1.length=bs.length:=by omega
  have n4:bs.length+1<bs2.length:=by omega
  have m2:bs1.length<bs2.length:=by omega
  have hB:∃ c',Bd E TRd aD Hg [.agg [.ptr p 0]] ⟨bs,bs.length⟩=some (.agg [.d (i64 x1),.d (.str x2)],⟨(bs2.set bs1.length (.cells [.d (i64 x1),.d (.str x2)])).set (bs.length+1) (.cells [.d (i64 x1),.d (.str x2)]),c'⟩)/\c'<=p:=by
   refine ⟨_,by simp +decide [ae,Hg,e1,e2,hw1,az,storeAt,put,sub,Hp.set,λys=>ay (ys:=ys) gL1,gN2,gR2,ak,n1,n4,m2]; exact rfl,?_⟩;have q1:=a1 (by simp) bs.length;have q2:=l2 (min (F1 bs.length) bs1.length);omega
  obtain ⟨c',hB,hc⟩:=hB;have w2:∀ x,x≠p->x≠bs1.length->x≠bs.length+1->x<bs2.length->((bs2.set bs1.length (.cells [.d (i64 x1),.d (.str x2)])).set (bs.length+1) (.cells [.d (i64 x1),.d (.str x2)]))[x]?=bs2[x]?:=λx _ y2 y3 _=>by rw [ac (Ne.symm y3),ac (Ne.symm y2)]
  have w1:∀ x,x≠p->x≠bs1.length->x≠bs.length+1->x<bs1.length->((bs2.set bs1.length (.cells [.d (i64 x1),.d (.str x2)])).set (bs.length+1) (.cells [.d (i64 x1),.d (.str x2)]))[x]?=bs1[x]?:=λx y1 y2 y3 h4=>by rw [w2 x y1 y2 y3 (by omega),o2.2 x y1 (by simp; omega),am h4]
  have d1:Old p bs bs1:=(Old.lay bs _).trans o1;have d2:Old p bs bs2:=(d1.trans (Old.lay bs1 _)).trans o2;refine ⟨.agg [.d (i64 x1),.d (.str x2)],_,⟨x1,x2⟩,st2,(bs2.set bs1.length (.cells [.d (i64 x1),.d (.str x2)])).set (bs.length+1) (.cells [.d (i64 x1),.d (.str x2)]),λlo=>min lo c',λlo=>fG Po PT hB (by omega) lo,rfl,⟨Hng.d (by simp),Hng.d (by simp),trivial⟩,hS,(r2.set' (by omega) _).set' (by omega) _,(d2.set' (by omega) _).set' (by omega) _,λlo=>Nat.min_le_left _ _,λh=>(by cases h),λ_ lo=>ch (Nat.min_le_right _ _) hc⟩
theorem ad6 {most:Int}(h0:0<=most)(h1:most<2 ^ 63){p:Nat}{bs:List Blk}(hR:RdS p bs none)(lo:Nat):Sm E TRd aD 101 [.agg [.ptr p 0],.d (i64 most)] ⟨bs,lo⟩=some (.d (i64 0),⟨bs,lo⟩):=by
 obtain ⟨n,st1,bs1,F1,a1,a2,a3,a4,a5,a6,a7,a8,a9⟩:=Il h404 hR h0 h1;obtain ⟨e1,e2,q8⟩:=a8 rfl;subst e1 e2;rw [a1,q8]
theorem af6 {p:Nat}(bs:List Blk):Rds true E 216 [.agg [.ptr p 0]] p xg fE 0 (.d (i64 0)) bs:=by
 intro st hR;have hp:=hR.lt;cases st with
 | none =>
  have z1:=λys lo=>ad6 h404 (most:=65536) (by decide) (by decide) (hR.lay ys) lo;have hB:∃ bs' c,Bd E TRd aD Hf [.agg [.ptr p 0]] ⟨bs,bs.length⟩=some (.d (i64 0),⟨bs',c⟩)/\bs.length<=c:=by
   refine ⟨_,_,by simp +decide [ae,Hf,z1]; first | exact ⟨rfl,rfl⟩ | exact rfl,by omega⟩
  obtain ⟨bs',c,hB,hc⟩:=hB;exact ⟨.d (i64 0),_,0,none,bs,λlo=>lo,λlo=>gP Pm PR hB hc rfl lo,rfl,⟨Hng.d (by simp),trivial⟩,rfl,hR,Old.refl _ _,λlo=>bo _,λ_=>⟨rfl,rfl,λ_=>rfl⟩,λh=>absurd rfl h⟩
 | some b =>
  obtain ⟨n,st1,bs1,F1,a1,a2,a3,a4,a5,a6,a7,a8,a9⟩:=Il h404 (hR.lay [.cells [.ptr p 0]]) (most:=65536) (by decide) (by decide);have a9:=a9 (by simp) bs.length;have hB:Bd E TRd aD Hf [.agg [.ptr p 0]] ⟨bs,bs.length⟩=some (.d (i64 n),⟨bs1,F1 bs.length⟩):=by
   simp +decide [ae,Hf,a1]
  exact ⟨.d (i64 n),_,n,st1,bs1,λlo=>min lo (F1 bs.length),λlo=>fG Pm PR hB (by omega) lo,rfl,⟨Hng.d (by simp),trivial⟩,a2.1,a5,(Old.lay bs _).trans a6,λlo=>Nat.min_le_left _ _,λh=>(by cases h),λ_ lo=>ch (Nat.min_le_right _ _) a9⟩
theorem U0 {p:Nat}{bs:List Blk}(hR:RdS p bs none)(lo:Nat):Sm E TRd aD 248 [.agg [.ptr p 0],.d (i64 6),.mfn 249 [.agg [.ptr p 0]]] ⟨bs,lo⟩=some (nV,⟨bs,lo⟩):=qg h404 (Pn:TRd 248=some (rowQ 101 2 24 [(.d (i64 0)),(.d (.str ⟨#[]⟩))])) PS rfl rfl (by decide) (by decide) hR lo
theorem Ve {p:Nat}(bs:List Blk):RdsR true E 248 [.agg [.ptr p 0],.d (i64 6),.mfn 249 [.agg [.ptr p 0]]] p (pSl 6 yP) Term.c 1 bs :=
 vY h404 (Pn:TRd 248=some (rowQ 101 2 24 [(.d (i64 0)),(.d (.str ⟨#[]⟩))])) PS (by decide) (by decide) rfl (λ_=>rfl) (g:=249) (args:=[.agg [.ptr p 0]]) (λ_ _=>rfl) rfl rfl (by decide) (by decide) λbs' _=>(af7 h404 bs').weak
theorem UY {p:Nat}{bs:List Blk}(hR:RdS p bs none)(lo:Nat):Sm E TRd aD 213 [.agg [.ptr p 0],.d (i64 6),.mfn 214 [.agg [.ptr p 0]]] ⟨bs,lo⟩=some (nV,⟨bs,lo⟩):=qg h404 (Pi:TRd 213=some (rowQ 101 2 16 [(.d (u32 0)),(.d (i64 0))])) PO rfl rfl (by decide) (by decide) hR lo
theorem Vb {p:Nat}(bs:List Blk):RdsR true E 213 [.agg [.ptr p 0],.d (i64 6),.mfn 214 [.agg [.ptr p 0]]] p (pSl 6 uN) Cidr.c 1 bs :=
 vY h404 (Pi:TRd 213=some (rowQ 101 2 16 [(.d (u32 0)),(.d (i64 0))])) PO (by decide) (by decide) rfl (λ_=>rfl) (g:=214) (args:=[.agg [.ptr p 0]]) (λ_ _=>rfl) rfl rfl (by decide) (by decide) λbs' _=>(af5 (E:=E) bs').weak
theorem UZ {p:Nat}{bs:List Blk}(hR:RdS p bs none)(lo:Nat):Sm E TRd aD 215 [.agg [.ptr p 0],.d (i64 6),.mfn 216 [.agg [.ptr p 0]]] ⟨bs,lo⟩=some (nV,⟨bs,lo⟩):=qg h404 (Pk:TRd 215=some (rowQ 101 1 8 [(.d (i64 0))])) PQ rfl rfl (by decide) (by decide) hR lo
theorem Vd {p:Nat}(bs:List Blk):RdsR true E 215 [.agg [.ptr p 0],.d (i64 6),.mfn 216 [.agg [.ptr p 0]]] p (pSl 6 xg) fE 1 bs :=
 vY h404 (Pk:TRd 215=some (rowQ 101 1 8 [(.d (i64 0))])) PQ (by decide) (by decide) rfl (λ_=>rfl) (g:=216) (args:=[.agg [.ptr p 0]]) (λ_ _=>rfl) rfl rfl (by decide) (by decide) λbs' _=>(af6 h404 bs').weak
theorem Lf {p:Nat}{bs:List Blk}(hR:RdS p bs none)(lo:Nat):Sm E TRd aD 212 [.agg [.ptr p 0]] ⟨bs,lo⟩=some (nV,⟨bs,lo⟩):=by
 have z1:=λys lo=>U0 h404 (hR.lay ys) lo;have hB:∃ bs' c,Bd E TRd aD Hd [.agg [.ptr p 0]] ⟨bs,bs.length⟩=some (nV,⟨bs',c⟩)/\bs.length<=c:=by
  refine ⟨_,_,by simp +decide [ae,Hd,z1]; first | exact ⟨rfl,rfl⟩ | exact rfl,by omega⟩
 obtain ⟨bs',c,hB,hc⟩:=hB;exact gP Ph PN hB hc rfl lo
theorem Fz {p:Nat}(bs:List Blk):RdsR true E 212 [.agg [.ptr p 0]] p pTerms Term.c 1 bs:=by
 refine RdsR.mk (Lf h404) λb hR=>?_;have hp:=hR.lt;obtain ⟨v,x,st1,bs1,F1,e,vc,hg,s,r,o,l,a⟩:=Ve h404 _ _ (hR.lay [.cells [.ptr p 0]]);have a:=a (by simp) bs.length;have hB:Bd E TRd aD Hd [.agg [.ptr p 0]] ⟨bs,bs.length⟩=some (v,⟨bs1,F1 bs.length⟩):=by
  simp +decide [ae,Hd,e,vc.2]
 exact ⟨v,x,st1,bs1,λlo=>min lo (F1 bs.length),λlo=>fG Ph PN hB (by omega) lo,vc,hg.on (λ_ _=>rfl) λx hx=>⟨by have h1:=hx.1; simp only [ao,cj,ck] at h1; omega,hx.2⟩,s,r,(Old.lay bs _).trans o,λlo=>Nat.min_le_left _ _,λlo=>ch (Nat.min_le_right _ _) a⟩
theorem ae0 {p:Nat}{bs:List Blk}(hR:RdS p bs none)(lo:Nat):Sm E TRd aD 169 [.agg [.ptr p 0]] ⟨bs,lo⟩=some (.agg [.d (.str ⟨#[]⟩),nV],⟨bs,lo⟩):=by
 have z1:=λys lo=>Vx h404 (most:=64) (by decide) (by decide) (hR.lay ys) lo;have z2:=λys lo=>Lf h404 (hR.lay ys) lo;have hB:∃ bs' c,Bd E TRd aD Ha [.agg [.ptr p 0]] ⟨bs,bs.length⟩=some (.agg [.d (.str ⟨#[]⟩),nV],⟨bs',c⟩)/\bs.length<=c:=by
  refine ⟨_,_,by simp +decide [ae,Ha,z1,z2,az,storeAt,put,sub,Hp.set]; first | exact ⟨rfl,rfl⟩ | exact rfl,by omega⟩
 obtain ⟨bs',c,hB,hc⟩:=hB;exact gP Pg PM hB hc rfl lo
theorem af4 {p:Nat}(bs:List Blk):Rds true E 169 [.agg [.ptr p 0]] p uP When.c 1 (.agg [.d (.str ⟨#[]⟩),nV]) bs:=by
 intro st hR;have hp:=hR.lt;cases st with
 | none =>
  have hS:∃ x:When,x.c.map V.d=[.d (.str ⟨#[]⟩),nV]/\∀ d∈x.c,∀ nl c cs,d≠.slice nl (c::cs):=⟨⟨⟨#[]⟩,⟨true,[]⟩⟩,rfl,by intro d hd; simp [When.c,Sl.d] at hd; obtain rfl | rfl:=hd<;>simp⟩;obtain ⟨x,hx,hd⟩:=hS;refine ⟨.agg [.d (.str ⟨#[]⟩),nV],_,x,none,bs,λlo=>lo,λlo=>ae0 h404 hR lo,rfl,by rw [← hx]; exact Hngs.flat hd,rfl,hR,Old.refl _ _,λlo=>bo _,λ_=>⟨rfl,rfl,λ_=>rfl⟩,λh=>absurd rfl h⟩
 | some b =>
  obtain ⟨x1,st1,bs1,F1,e1,s1,z1,r1,o1,l1,n1_,a1⟩:=Ak h404 (hR.lay [.cells [.ptr p 0],.cells [.d (.str ⟨#[]⟩),nV]]) (most:=64) (by decide) (by decide);have hl1:=o1.1;simp only [ao,cj,ck] at hl1;have gL1:aa bs1 bs.length=some [.ptr p 0]:=af o1 (by omega) (by simp);have gR1:aa bs1 (bs.length+1)=some [.d (.str ⟨#[]⟩),nV]:=af o1 (by omega) (by simp);obtain ⟨v2,x2,st2,bs2,F2,e2,vc2,hg2,s2,r2,o2,l2,a2⟩:=Fz h404 _ _ (r1.lay [.cells [.d (.str x1),nV]]);have hl2:=o2.1;simp only [ao,cj,ck] at hl2;have gL2:aa bs2 bs.length=some [.ptr p 0]:=af o2 (by omega) (ay gL1);have gR2:aa bs2 (bs.length+1)=some [.d (.str ⟨#[]⟩),nV]:=af o2 (by omega) (ay gR1);have gN2:aa bs2 bs1.length=some [.d (.str x1),nV]:=af o2 (by omega) (by simp);have hS:Step uP (some b) ⟨x1,x2⟩ st2:=Step.map (λx:ByteArray×Sl Term=>(⟨x.1,x.2⟩:When)) (s1.seq s2);have n1:¬ bs1.length=bs.length+1:=by omega
  have n2:¬ bs.length+1=bs1.length:=by omega
  have n3:¬ bs1.length=bs.length:=by omega
  have n4:bs.length+1<bs2.length:=by omega
  have m2:bs1.length<bs2.length:=by omega
  have hB:∃ c',Bd E TRd aD Ha [.agg [.ptr p 0]] ⟨bs,bs.length⟩=some (.agg [.d (.str x1),v2],⟨(bs2.set bs1.length (.cells [.d (.str x1),v2])).set (bs.length+1) (.cells [.d (.str x1),v2]),c'⟩)/\c'<=p:=by
   refine ⟨_,by simp +decide [ae,Ha,e1,e2,vc2.1,az,storeAt,put,sub,Hp.set,λys=>ay (ys:=ys) gL1,gN2,gR2,ak,n1,n4,m2]; exact rfl,?_⟩;have q1:=a1 (by simp) bs.length;have q2:=l2 (min (F1 bs.length) bs1.length);omega
  obtain ⟨c',hB,hc⟩:=hB;have w2:∀ x,x≠p->x≠bs1.length->x≠bs.length+1->x<bs2.length->((bs2.set bs1.length (.cells [.d (.str x1),v2])).set (bs.length+1) (.cells [.d (.str x1),v2]))[x]?=bs2[x]?:=λx _ y2 y3 _=>by rw [ac (Ne.symm y3),ac (Ne.symm y2)]
  have w1:∀ x,x≠p->x≠bs1.length->x≠bs.length+1->x<bs1.length->((bs2.set bs1.length (.cells [.d (.str x1),v2])).set (bs.length+1) (.cells [.d (.str x1),v2]))[x]?=bs1[x]?:=λx y1 y2 y3 h4=>by rw [w2 x y1 y2 y3 (by omega),o2.2 x y1 (by simp; omega),am h4]
  have hh2:Hng true (KL bs.length ((bs2.set bs1.length (.cells [.d (.str x1),v2])).set (bs.length+1) (.cells [.d (.str x1),v2]))) ((bs2.set bs1.length (.cells [.d (.str x1),v2])).set (bs.length+1) (.cells [.d (.str x1),v2])) v2 (Sl.d Term.c x2) 1:=(hg2.up (by omega)).on (λx hx=>by
   have h1:=hx.1;simp only [ao,cj,ck] at h1;exact w2 x (by omega) (by omega) (by omega) hx.2) λx hx=>⟨by
   have h1:=hx.1;simp only [ao,cj,ck] at h1;omega,by have h2:=hx.2; simp only [List.length_set]; omega⟩
  have d1:Old p bs bs1:=(Old.lay bs _).trans o1;have d2:Old p bs bs2:=(d1.trans (Old.lay bs1 _)).trans o2;refine ⟨.agg [.d (.str x1),v2],_,⟨x1,x2⟩,st2,(bs2.set bs1.length (.cells [.d (.str x1),v2])).set (bs.length+1) (.cells [.d (.str x1),v2]),λlo=>min lo c',λlo=>fG Pg PM hB (by omega) lo,rfl,⟨Hng.d (by simp),hh2,trivial⟩,hS,(r2.set' (by omega) _).set' (by omega) _,(d2.set' (by omega) _).set' (by omega) _,λlo=>Nat.min_le_left _ _,λh=>(by cases h),λ_ lo=>ch (Nat.min_le_right _ _) hc⟩
theorem ad8 {p:Nat}{bs:List Blk}(hR:RdS p bs none)(lo:Nat):Sm E TRd aD 165 [.agg [.ptr p 0]] ⟨bs,lo⟩=some (.agg [nV,nV,nV],⟨bs,lo⟩):=by
 have z1:=λys lo=>Lf h404 (hR.lay ys) lo;have z3:=λys lo=>UY h404 (hR.lay ys) lo;have hB:∃ bs' c,Bd E TRd aD G8 [.agg [.ptr p 0]] ⟨bs,bs.length⟩=some (.agg [nV,nV,nV],⟨bs',c⟩)/\bs.length<=c:=by
  refine ⟨_,_,by simp +decide [ae,G8,z1,z3,az,storeAt,put,sub,Hp.set]; first | exact ⟨rfl,rfl⟩ | exact rfl,by omega⟩
 obtain ⟨bs',c,hB,hc⟩:=hB;exact gP Pb PH hB hc rfl lo
theorem af2 {p:Nat}(bs:List Blk):Rds true E 165 [.agg [.ptr p 0]] p lC Source.c 1 (.agg [nV,nV,nV]) bs:=by
 intro st hR;have hp:=hR.lt;cases st with
 | none =>
  have hS:∃ x:Source,x.c.map V.d=[nV,nV,nV]/\∀ d∈x.c,∀ nl c cs,d≠.slice nl (c::cs):=⟨⟨⟨true,[]⟩,⟨true,[]⟩,⟨true,[]⟩⟩,rfl,by intro d hd; simp [Source.c,Sl.d] at hd; obtain rfl | rfl | rfl:=hd<;>simp⟩;obtain ⟨x,hx,hd⟩:=hS;refine ⟨.agg [nV,nV,nV],_,x,none,bs,λlo=>lo,λlo=>ad8 h404 hR lo,rfl,by rw [← hx]; exact Hngs.flat hd,rfl,hR,Old.refl _ _,λlo=>bo _,λ_=>⟨rfl,rfl,λ_=>rfl⟩,λh=>absurd rfl h⟩
 | some b =>
  obtain ⟨v1,x1,st1,bs1,F1,e1,vc1,hg1,s1,r1,o1,l1,a1⟩:=Fz h404 _ _ (hR.lay [.cells [.ptr p 0],.cells [nV,nV,nV]]);have hl1:=o1.1;simp only [ao,cj,ck] at hl1;have gL1:aa bs1 bs.length=some [.ptr p 0]:=af o1 (by omega) (by simp);have gR1:aa bs1 (bs.length+1)=some [nV,nV,nV]:=af o1 (by omega) (by simp);obtain ⟨v2,x2,st2,bs2,F2,e2,vc2,hg2,s2,r2,o2,l2,a2⟩:=Fz h404 _ _ (r1.lay [.cells [v1,nV,nV]]);have hl2:=o2.1;simp only [ao,cj,ck] at hl2;have gL2:aa bs2 bs.length=some [.ptr p 0]:=af o2 (by omega) (ay gL1);have gR2:aa bs2 (bs.length+1)=some [nV,nV,nV]:=af o2 (by omega) (ay gR1);have gN2:aa bs2 bs1.length=some [v1,nV,nV]:=af o2 (by omega) (by simp);obtain ⟨v3,x3,st3,bs3,F3,e3,vc3,hg3,s3,r3,o3,l3,a3⟩:=Vb h404 _ _ (r2.set' (b:=bs1.length) (by omega) (.cells [v1,v2,nV]));have hl3:=o3.1;simp only [List.length_set] at hl3;have gL3:aa bs3 bs.length=some [.ptr p 0]:=af o3 (by omega) (by rw [ak,if_neg (by omega)]; exact gL2);have gR3:aa bs3 (bs.length+1)=some [nV,nV,nV]:=af o3 (by omega) (by rw [ak,if_neg (by omega)]; exact gR2);have gN3:aa bs3 bs1.length=some [v1,v2,nV]:=af o3 (by omega) (by rw [ak,if_pos rfl,if_pos (by omega)]);have hS:Step lC (some b) ⟨x1,x2,x3⟩ st3:=Step.map (λx:Sl Term×Sl Term×Sl Cidr=>(⟨x.1,x.2.1,x.2.2⟩:Source)) (s1.seq (s2.seq s3))
  have n1:¬ bs1.length=bs.length+1:=by omega
  have n2:¬ bs.length+1=bs1.length:=by omega
  have n3:¬ bs1.length=bs.length:=by omega
  have n4:bs.length+1<bs3.length:=by omega
  have m2:bs1.length<bs2.length:=by omega
  have m3:bs1.length<bs3.length:=by omega
  have hB:∃ c',Bd E TRd aD G8 [.agg [.ptr p 0]] ⟨bs,bs.length⟩=some (.agg [v1,v2,v3],⟨(bs3.set bs1.length (.cells [v1,v2,v3])).set (bs.length+1) (.cells [v1,v2,v3]),c'⟩)/\c'<=p:=by
   refine ⟨_,by simp +decide [ae,G8,e1,e2,e3,vc1.1,vc2.1,vc3.1,az,storeAt,put,sub,Hp.set,λys=>ay (ys:=ys) gL1,gL2,gN2,gN3,gR3,ak,n1,n3,n4,m3]; exact rfl,?_⟩;have q1:=a1 (by simp) bs.length;have q2:=l2 (min (F1 bs.length) bs1.length);have q3:=l3 (min (F2 (min (F1 bs.length) bs1.length)) bs1.length);omega
  obtain ⟨c',hB,hc⟩:=hB;have w3:∀ x,x≠p->x≠bs1.length->x≠bs.length+1->x<bs3.length->((bs3.set bs1.length (.cells [v1,v2,v3])).set (bs.length+1) (.cells [v1,v2,v3]))[x]?=bs3[x]?:=λx _ y2 y3 _=>by rw [ac (Ne.symm y3),ac (Ne.symm y2)]
  have w2:∀ x,x≠p->x≠bs1.length->x≠bs.length+1->x<bs2.length->((bs3.set bs1.length (.cells [v1,v2,v3])).set (bs.length+1) (.cells [v1,v2,v3]))[x]?=bs2[x]?:=λx y1 y2 y3 h4=>by rw [w3 x y1 y2 y3 (by omega),o3.2 x y1 (by simp; omega),ac (Ne.symm y2)]
  have w1:∀ x,x≠p->x≠bs1.length->x≠bs.length+1->x<bs1.length->((bs3.set bs1.length (.cells [v1,v2,v3])).set (bs.length+1) (.cells [v1,v2,v3]))[x]?=bs1[x]?:=λx y1 y2 y3 h4=>by rw [w2 x y1 y2 y3 (by omega),o2.2 x y1 (by simp; omega),am h4]
  have hh1:Hng true (KL bs.length ((bs3.set bs1.length (.cells [v1,v2,v3])).set (bs.length+1) (.cells [v1,v2,v3]))) ((bs3.set bs1.length (.cells [v1,v2,v3])).set (bs.length+1) (.cells [v1,v2,v3])) v1 (Sl.d Term.c x1) 1:=(hg1.up (by omega)).on (λx hx=>by
   have h1:=hx.1;simp only [ao,cj,ck] at h1;exact w1 x (by omega) (by have h2:=hx.2; omega) (by omega) hx.2) λx hx=>⟨by
   have h1:=hx.1;simp only [ao,cj,ck] at h1;omega,by have h2:=hx.2; simp only [List.length_set]; omega⟩
  have hh2:Hng true (KL bs.length ((bs3.set bs1.length (.cells [v1,v2,v3])).set (bs.length+1) (.cells [v1,v2,v3]))) ((bs3.set bs1.length (.cells [v1,v2,v3])).set (bs.length+1) (.cells [v1,v2,v3])) v2 (Sl.d Term.c x2) 1:=(hg2.up (by omega)).on (λx hx=>by
   have h1:=hx.1;simp only [ao,cj,ck] at h1;exact w2 x (by omega) (by omega) (by omega) hx.2) λx hx=>⟨by
   have h1:=hx.1;simp only [ao,cj,ck] at h1;omega,by have h2:=hx.2; simp only [List.length_set]; omega⟩
  have hh3:Hng true (KL bs.length ((bs3.set bs1.length (.cells [v1,v2,v3])).set (bs.length+1) (.cells [v1,v2,v3]))) ((bs3.set bs1.length (.cells [v1,v2,v3])).set (bs.length+1) (.cells [v1,v2,v3])) v3 (Sl.d Cidr.c x3) 1:=(hg3.up (by omega)).on (λx hx=>by
   have h1:=hx.1;simp only [List.length_set] at h1;exact w3 x (by omega) (by omega) (by omega) hx.2) λx hx=>⟨by
   have h1:=hx.1;simp only [List.length_set] at h1;omega,by have h2:=hx.2; simp only [List.length_set]; omega⟩
  have d1:Old p bs bs1:=(Old.lay bs _).trans o1;have d2:Old p bs bs2:=(d1.trans (Old.lay bs1 _)).trans o2;have d3:Old p bs bs3:=(d2.set' (by omega) _).trans o3;refine ⟨.agg [v1,v2,v3],_,⟨x1,x2,x3⟩,st3,(bs3.set bs1.length (.cells [v1,v2,v3])).set (bs.length+1) (.cells [v1,v2,v3]),λlo=>min lo c',λlo=>fG Pb PH hB (by omega) lo,rfl,⟨hh1,hh2,hh3,trivial⟩,hS,(r3.set' (by omega) _).set' (by omega) _,(d3.set' (by omega) _).set' (by omega) _,λlo=>Nat.min_le_left _ _,λh=>(by cases h),λ_ lo=>ch (Nat.min_le_right _ _) hc⟩
end
end
end
section
section
variable {E:Calls'}(h404:∀ x h,E 163 [.d (u64 x)] h=some (.d (i64 (dE x)),h))
include h404
theorem ad9 {p:Nat}{bs:List Blk}(hR:RdS p bs none)(lo:Nat):Sm E TRd aD 167 [.agg [.ptr p 0]] ⟨bs,lo⟩=some (.agg [nV,nV,nV,nV],⟨bs,lo⟩):=by
 have z1:=λys lo=>UZ h404 (hR.lay ys) lo;have z2:=λys lo=>Lf h404 (hR.lay ys) lo;have hB:∃ bs' c,Bd E TRd aD G9 [.agg [.ptr p 0]] ⟨bs,bs.length⟩=some (.agg [nV,nV,nV,nV],⟨bs',c⟩)/\bs.length<=c:=by
  have key:=aB (E:=E) (T:=TRd) (val:=aD) [1,2,3,14,15,16] ic;have w1:wrap .i64 1=1:=by decide
  have w2:wrap .i64 2=2:=by decide
  have w3:wrap .i64 3=3:=by decide
  refine ⟨bs++[.cells [.ptr p 0],.cells [nV,nV,nV,nV],.cells [nV,nV,nV,nV],.cells [.ptr (bs.length+2) 1,.ptr (bs.length+2) 2,.ptr (bs.length+2) 3]],bs.length,?_,bo _⟩;simp +decide [ae,G9,z1,az,storeAt,put,sub,Hp.set];rw [ai];simp;generalize Cd E TRd aD (.loop [1,2,3,14,15,16] ic)=W at key ⊢;rw [key];simp +decide [ic,z2,eY,storeAt,put,sub,Hp.set,w1];rw [key];simp +decide [ic,z2,eY,storeAt,put,sub,Hp.set,w2];rw [key];simp +decide [ic,z2,eY,storeAt,put,sub,Hp.set,w3];rw [key];simp +decide [ic,storeAt,put,sub,Hp.set]
 obtain ⟨bs',c,hB,hc⟩:=hB;exact gP Pe PK hB hc rfl lo
theorem af3 {p:Nat}(bs:List Blk):Rds true E 167 [.agg [.ptr p 0]] p lD Target.c 1 (.agg [nV,nV,nV,nV]) bs:=by
 intro st hR;have hp:=hR.lt;cases st with
 | none =>
  have hS:∃ x:Target,x.c.map V.d=[nV,nV,nV,nV]/\∀ d∈x.c,∀ nl c cs,d≠.slice nl (c::cs):=⟨⟨⟨true,[]⟩,⟨true,[]⟩,⟨true,[]⟩,⟨true,[]⟩⟩,rfl,by intro d hd; simp [Target.c,Sl.d] at hd; obtain rfl | rfl | rfl | rfl:=hd<;>simp⟩;obtain ⟨x,hx,hd⟩:=hS;exact ⟨.agg [nV,nV,nV,nV],_,x,none,bs,λlo=>lo,λlo=>ad9 h404 hR lo,rfl,by rw [← hx]; exact Hngs.flat hd,rfl,hR,Old.refl _ _,λlo=>bo _,λ_=>⟨rfl,rfl,λ_=>rfl⟩,λh=>absurd rfl h⟩
 | some b =>
  obtain ⟨v1,x1,st1,bs1,F1,e1,vc1,hg1,s1,r1,o1,l1,a1⟩:=Vd h404 _ _ (hR.lay [.cells [.ptr p 0],.cells [nV,nV,nV,nV]]);have hl1:=o1.1;simp only [ao,cj,ck] at hl1;have gL1:aa bs1 bs.length=some [.ptr p 0]:=af o1 (by omega) (by simp);have gR1:aa bs1 (bs.length+1)=some [nV,nV,nV,nV]:=af o1 (by omega) (by simp);obtain ⟨v2,x2,st2,bs2,F2,e2,vc2,hg2,s2,r2,o2,l2,a2⟩:=Fz h404 _ _ (r1.lay [.cells [v1,nV,nV,nV],.cells [.ptr bs1.length 1,.ptr bs1.length 2,.ptr bs1.length 3]]);have hl2:=o2.1;simp only [ao,cj,ck] at hl2;have gL2:aa bs2 bs.length=some [.ptr p 0]:=af o2 (by omega) (ay gL1);have gR2:aa bs2 (bs.length+1)=some [nV,nV,nV,nV]:=af o2 (by omega) (ay gR1);have gN2:aa bs2 bs1.length=some [v1,nV,nV,nV]:=af o2 (by omega) (by simp);have gP2:aa bs2 (bs1.length+1)=some [.ptr bs1.length 1,.ptr bs1.length 2,.ptr bs1.length 3]:=af o2 (by omega) (by simp);obtain ⟨v3,x3,st3,bs3,F3,e3,vc3,hg3,s3,r3,o3,l3,a3⟩:=Fz h404 _ _ (r2.set' (b:=bs1.length) (by omega) (.cells [v1,v2,nV,nV]));have hl3:=o3.1;simp only [List.length_set] at hl3;have gL3:aa bs3 bs.length=some [.ptr p 0]:=af o3 (by omega) (by rw [ak,if_neg (by omega)]; exact gL2);have gR3:aa bs3 (bs.length+1)=some [nV,nV,nV,nV]:=af o3 (by omega) (by rw [ak,if_neg (by omega)]; exact gR2)
  have gP3:aa bs3 (bs1.length+1)=some [.ptr bs1.length 1,.ptr bs1.length 2,.ptr bs1.length 3]:=af o3 (by omega) (by rw [ak,if_neg (by omega)]; exact gP2);have gN3:aa bs3 bs1.length=some [v1,v2,nV,nV]:=af o3 (by omega) (by rw [ak,if_pos rfl,if_pos (by omega)]);obtain ⟨v4,x4,st4,bs4,F4,e4,vc4,hg4,s4,r4,o4,l4,a4⟩:=Fz h404 _ _ (r3.set' (b:=bs1.length) (by omega) (.cells [v1,v2,v3,nV]));have hl4:=o4.1;simp only [List.length_set] at hl4;have gL4:aa bs4 bs.length=some [.ptr p 0]:=af o4 (by omega) (by rw [ak,if_neg (by omega)]; exact gL3);have gR4:aa bs4 (bs.length+1)=some [nV,nV,nV,nV]:=af o4 (by omega) (by rw [ak,if_neg (by omega)]; exact gR3);have gP4:aa bs4 (bs1.length+1)=some [.ptr bs1.length 1,.ptr bs1.length 2,.ptr bs1.length 3]:=af o4 (by omega) (by rw [ak,if_neg (by omega)]; exact gP3);have gN4:aa bs4 bs1.length=some [v1,v2,v3,nV]:=af o4 (by omega) (by rw [ak,if_pos rfl,if_pos (by omega)]);have hS:Step lD (some b) ⟨x1,x2,x3,x4⟩ st4:=Step.map (λx:Sl Int×Sl Term×Sl Term×Sl Term=>(⟨x.1,x.2.1,x.2.2.1,x.2.2.2⟩:Target)) (s1.seq (s2.seq (s3.seq s4)));have n1:¬ bs1.length=bs.length+1:=by omega
  have n2:¬ bs.length+1=bs1.length:=by omega
  have n3:¬ bs1.length=bs.length:=by omega
  have n4:bs.length+1<bs4.length:=by omega
  have n5:¬ bs1.length=bs1.length+1:=by omega
  have m2:bs1.length<bs2.length:=by omega
  have m3:bs1.length<bs3.length:=by omega
  have m4:bs1.length<bs4.length:=by omega
  have w1:wrap .i64 1=1:=by decide
  have w2:wrap .i64 2=2:=by decide
  have w3:wrap .i64 3=3:=by decide
  have hB:∃ c',Bd E TRd aD G9 [.agg [.ptr p 0]] ⟨bs,bs.length⟩=some (.agg [v1,v2,v3,v4],⟨(bs4.set bs1.length (.cells [v1,v2,v3,v4])).set (bs.length+1) (.cells [v1,v2,v3,v4]),c'⟩)/\c'<=p:=by
   have key:=aB (E:=E) (T:=TRd) (val:=aD) [1,2,3,14,15,16] ic;refine ⟨min (min (min (F4 (min (F3 (min (F2 (min (F1 bs.length) bs1.length)) bs1.length)) bs1.length)) bs1.length) (bs.length+1)) p,?_,Nat.min_le_right _ _⟩;have q1:=a1 (by simp) bs.length;have q2:=l2 (min (F1 bs.length) bs1.length);have q3:=l3 (min (F2 (min (F1 bs.length) bs1.length)) bs1.length);have q4:=l4 (min (F3 (min (F2 (min (F1 bs.length) bs1.length)) bs1.length)) bs1.length);simp +decide [ae,G9,e1,vc1.1,az,storeAt,put,sub,Hp.set];rw [ai];simp;generalize Cd E TRd aD (.loop [1,2,3,14,15,16] ic)=W at key ⊢;rw [key];simp +decide [ic,e2,vc2.1,eY,storeAt,put,sub,Hp.set,λys=>ay (ys:=ys) gL1,gN2,w1];rw [key];simp +decide [ic,e3,vc3.1,eY,storeAt,put,sub,Hp.set,gL2,gP2,gN3,ak,n3,w2];rw [key];simp +decide [ic,e4,vc4.1,eY,storeAt,put,sub,Hp.set,gL3,gP3,gN4,ak,n3,w3];rw [key];simp +decide [ic,storeAt,put,sub,Hp.set,ak,n1,n4,m4,gR4];omega
  obtain ⟨c',hB,hc⟩:=hB;have w4:∀ x,x≠p->x≠bs1.length->x≠bs.length+1->x<bs4.length->((bs4.set bs1.length (.cells [v1,v2,v3,v4])).set (bs.length+1) (.cells [v1,v2,v3,v4]))[x]?=bs4[x]?:=λx _ y2 y3 _=>by rw [ac (Ne.symm y3),ac (Ne.symm y2)]
  have w3:∀ x,x≠p->x≠bs1.length->x≠bs.length+1->x<bs3.length->((bs4.set bs1.length (.cells [v1,v2,v3,v4])).set (bs.length+1) (.cells [v1,v2,v3,v4]))[x]?=bs3[x]?:=λx y1 y2 y3 h4=>by rw [w4 x y1 y2 y3 (by omega),o4.2 x y1 (by simp; omega),ac (Ne.symm y2)]
  have w2:∀ x,x≠p->x≠bs1.length->x≠bs.length+1->x<bs2.length->((bs4.set bs1.length (.cells [v1,v2,v3,v4])).set (bs.length+1) (.cells [v1,v2,v3,v4]))[x]?=bs2[x]?:=λx y1 y2 y3 h4=>by rw [w3 x y1 y2 y3 (by omega),o3.2 x y1 (by simp; omega),ac (Ne.symm y2)]
  have w1:∀ x,x≠p->x≠bs1.length->x≠bs.length+1->x<bs1.length->((bs4.set bs1.length (.cells [v1,v2,v3,v4])).set (bs.length+1) (.cells [v1,v2,v3,v4]))[x]?=bs1[x]?:=λx y1 y2 y3 h4=>by rw [w2 x y1 y2 y3 (by omega),o2.2 x y1 (by simp; omega),am h4]
  have hh1:Hng true (KL bs.length ((bs4.set bs1.length (.cells [v1,v2,v3,v4])).set (bs.length+1) (.cells [v1,v2,v3,v4]))) ((bs4.set bs1.length (.cells [v1,v2,v3,v4])).set (bs.length+1) (.cells [v1,v2,v3,v4])) v1 (Sl.d fE x1) 1:=(hg1.up (by omega)).on (λx hx=>by
   have h1:=hx.1;simp only [ao,cj,ck] at h1;exact w1 x (by omega) (by have h2:=hx.2; omega) (by omega) hx.2) λx hx=>⟨by
   have h1:=hx.1;simp only [ao,cj,ck] at h1;omega,by have h2:=hx.2; simp only [List.length_set]; omega⟩
  have hh2:Hng true (KL bs.length ((bs4.set bs1.length (.cells [v1,v2,v3,v4])).set (bs.length+1) (.cells [v1,v2,v3,v4]))) ((bs4.set bs1.length (.cells [v1,v2,v3,v4])).set (bs.length+1) (.cells [v1,v2,v3,v4])) v2 (Sl.d Term.c x2) 1:=(hg2.up (by omega)).on (λx hx=>by
   have h1:=hx.1;simp only [ao,cj,ck] at h1;exact w2 x (by omega) (by omega) (by omega) hx.2) λx hx=>⟨by
   have h1:=hx.1;simp only [ao,cj,ck] at h1;omega,by have h2:=hx.2; simp only [List.length_set]; omega⟩
  have hh3:Hng true (KL bs.length ((bs4.set bs1.length (.cells [v1,v2,v3,v4])).set (bs.length+1) (.cells [v1,v2,v3,v4]))) ((bs4.set bs1.length (.cells [v1,v2,v3,v4])).set (bs.length+1) (.cells [v1,v2,v3,v4])) v3 (Sl.d Term.c x3) 1:=(hg3.up (by omega)).on (λx hx=>by
   have h1:=hx.1;simp only [List.length_set] at h1;exact w3 x (by omega) (by omega) (by omega) hx.2) λx hx=>⟨by
   have h1:=hx.1;simp only [List.length_set] at h1;omega,by have h2:=hx.2; simp only [List.length_set]; omega⟩
  have hh4:Hng true (KL bs.length ((bs4.set bs1.length (.cells [v1,v2,v3,v4])).set (bs.length+1) (.cells [v1,v2,v3,v4]))) ((bs4.set bs1.length (.cells [v1,v2,v3,v4])).set (bs.length+1) (.cells [v1,v2,v3,v4])) v4 (Sl.d Term.c x4) 1:=(hg4.up (by omega)).on (λx hx=>by
   have h1:=hx.1;simp only [List.length_set] at h1;exact w4 x (by omega) (by omega) (by omega) hx.2) λx hx=>⟨by
   have h1:=hx.1;simp only [List.length_set] at h1;omega,by have h2:=hx.2; simp only [List.length_set]; omega⟩
  have d1:Old p bs bs1:=(Old.lay bs _).trans o1;have d2:Old p bs bs2:=(d1.trans (Old.lay bs1 _)).trans o2;have d3:Old p bs bs3:=(d2.set' (by omega) _).trans o3;have d4:Old p bs bs4:=(d3.set' (by omega) _).trans o4;exact ⟨.agg [v1,v2,v3,v4],_,⟨x1,x2,x3,x4⟩,st4,(bs4.set bs1.length (.cells [v1,v2,v3,v4])).set (bs.length+1) (.cells [v1,v2,v3,v4]),λlo=>min lo c',λlo=>fG Pe PK hB (by omega) lo,rfl,⟨hh1,hh2,hh3,hh4,trivial⟩,hS,(r4.set' (by omega) _).set' (by omega) _,(d4.set' (by omega) _).set' (by omega) _,λlo=>Nat.min_le_left _ _,λh=>(by cases h),λ_ lo=>ch (Nat.min_le_right _ _) hc⟩
theorem UV {p:Nat}{bs:List Blk}(hR:RdS p bs none)(lo:Nat):Sm E TRd aD 164 [.agg [.ptr p 0],.d (i64 3),.mfn 165 [.agg [.ptr p 0]]] ⟨bs,lo⟩=some (nV,⟨bs,lo⟩):=qg h404 (O9:TRd 164=some (rowQ 101 3 72 [(nV),(nV),(nV)])) PG rfl rfl (by decide) (by decide) hR lo
theorem U8 {p:Nat}(bs:List Blk):RdsR true E 164 [.agg [.ptr p 0],.d (i64 3),.mfn 165 [.agg [.ptr p 0]]] p (pSl 3 lC) Source.c 2 bs :=
 vY h404 (O9:TRd 164=some (rowQ 101 3 72 [(nV),(nV),(nV)])) PG (by decide) (by decide) rfl (λ_=>rfl) (g:=165) (args:=[.agg [.ptr p 0]]) (λ_ _=>rfl) rfl rfl (by decide) (by decide) λbs' _=>(af2 h404 bs').weak
theorem UW {p:Nat}{bs:List Blk}(hR:RdS p bs none)(lo:Nat):Sm E TRd aD 166 [.agg [.ptr p 0],.d (i64 3),.mfn 167 [.agg [.ptr p 0]]] ⟨bs,lo⟩=some (nV,⟨bs,lo⟩):=qg h404 (Pd:TRd 166=some (rowQ 101 4 96 [(nV),(nV),(nV),(nV)])) PI rfl rfl (by decide) (by decide) hR lo
theorem U9 {p:Nat}(bs:List Blk):RdsR true E 166 [.agg [.ptr p 0],.d (i64 3),.mfn 167 [.agg [.ptr p 0]]] p (pSl 3 lD) Target.c 2 bs :=
 vY h404 (Pd:TRd 166=some (rowQ 101 4 96 [(nV),(nV),(nV),(nV)])) PI (by decide) (by decide) rfl (λ_=>rfl) (g:=167) (args:=[.agg [.ptr p 0]]) (λ_ _=>rfl) rfl rfl (by decide) (by decide) λbs' _=>(af3 h404 bs').weak
theorem UX {p:Nat}{bs:List Blk}(hR:RdS p bs none)(lo:Nat):Sm E TRd aD 168 [.agg [.ptr p 0],.d (i64 3),.mfn 169 [.agg [.ptr p 0]]] ⟨bs,lo⟩=some (nV,⟨bs,lo⟩):=qg h404 (Pf:TRd 168=some (rowQ 101 2 40 [(.d (.str ⟨#[]⟩)),(nV)])) PL rfl rfl (by decide) (by decide) hR lo
theorem Va {p:Nat}(bs:List Blk):RdsR true E 168 [.agg [.ptr p 0],.d (i64 3),.mfn 169 [.agg [.ptr p 0]]] p (pSl 3 uP) When.c 2 bs :=
 vY h404 (Pf:TRd 168=some (rowQ 101 2 40 [(.d (.str ⟨#[]⟩)),(nV)])) PL (by decide) (by decide) rfl (λ_=>rfl) (g:=169) (args:=[.agg [.ptr p 0]]) (λ_ _=>rfl) rfl rfl (by decide) (by decide) λbs' _=>(af4 h404 bs').weak
theorem ad7 {p:Nat}{bs:List Blk}(hR:RdS p bs none)(lo:Nat):Sm E TRd aD 103 [.agg [.ptr p 0]] ⟨bs,lo⟩=some (.agg [nV,nV,nV],⟨bs,lo⟩):=by
 have z1:=λys lo=>UV h404 (hR.lay ys) lo;have z2:=λys lo=>UW h404 (hR.lay ys) lo;have z3:=λys lo=>UX h404 (hR.lay ys) lo;have hB:∃ bs' c,Bd E TRd aD GX [.agg [.ptr p 0]] ⟨bs,bs.length⟩=some (.agg [nV,nV,nV],⟨bs',c⟩)/\bs.length<=c:=by
  refine ⟨_,_,by simp +decide [ae,GX,z1,z2,z3,az,storeAt,put,sub,Hp.set]; first | exact ⟨rfl,rfl⟩ | exact rfl,by omega⟩
 obtain ⟨bs',c,hB,hc⟩:=hB;exact gP O8 PE hB hc rfl lo
theorem af1 {p:Nat}(bs:List Blk):Rds true E 103 [.agg [.ptr p 0]] p uO Rule.c 2 (.agg [nV,nV,nV]) bs:=by
 intro st hR;have hp:=hR.lt;cases st with
 | none =>
  have hS:∃ x:Rule,x.c.map V.d=[nV,nV,nV]/\∀ d∈x.c,∀ nl c cs,d≠.slice nl (c::cs):=⟨⟨⟨true,[]⟩,⟨true,[]⟩,⟨true,[]⟩⟩,rfl,by intro d hd; simp [Rule.c,Sl.d] at hd; obtain rfl | rfl | rfl:=hd<;>simp⟩;obtain ⟨x,hx,hd⟩:=hS;refine ⟨.agg [nV,nV,nV],_,x,none,bs,λlo=>lo,λlo=>ad7 h404 hR lo,rfl,by rw [← hx]; exact Hngs.flat hd,rfl,hR,Old.refl _ _,λlo=>bo _,λ_=>⟨rfl,rfl,λ_=>rfl⟩,λh=>absurd rfl h⟩
 | some b =>
  obtain ⟨v1,x1,st1,bs1,F1,e1,vc1,hg1,s1,r1,o1,l1,a1⟩:=U8 h404 _ _ (hR.lay [.cells [.ptr p 0],.cells [nV,nV,nV]]);have hl1:=o1.1;simp only [ao,cj,ck] at hl1;have gL1:aa bs1 bs.length=some [.ptr p 0]:=af o1 (by omega) (by simp);have gR1:aa bs1 (bs.length+1)=some [nV,nV,nV]:=af o1 (by omega) (by simp);obtain ⟨v2,x2,st2,bs2,F2,e2,vc2,hg2,s2,r2,o2,l2,a2⟩:=U9 h404 _ _ (r1.lay [.cells [v1,nV,nV]]);have hl2:=o2.1;simp only [ao,cj,ck] at hl2;have gL2:aa bs2 bs.length=some [.ptr p 0]:=af o2 (by omega) (ay gL1);have gR2:aa bs2 (bs.length+1)=some [nV,nV,nV]:=af o2 (by omega) (ay gR1);have gN2:aa bs2 bs1.length=some [v1,nV,nV]:=af o2 (by omega) (by simp);obtain ⟨v3,x3,st3,bs3,F3,e3,vc3,hg3,s3,r3,o3,l3,a3⟩:=Va h404 _ _ (r2.set' (b:=bs1.length) (by omega) (.cells [v1,v2,nV]));have hl3:=o3.1;simp only [List.length_set] at hl3;have gL3:aa bs3 bs.length=some [.ptr p 0]:=af o3 (by omega) (by rw [ak,if_neg (by omega)]; exact gL2);have gR3:aa bs3 (bs.length+1)=some [nV,nV,nV]:=af o3 (by omega) (by rw [ak,if_neg (by omega)]; exact gR2);have gN3:aa bs3 bs1.length=some [v1,v2,nV]:=af o3 (by omega) (by rw [ak,if_pos rfl,if_pos (by omega)]);have hS:Step uO (some b) ⟨x1,x2,x3⟩ st3:=Step.map (λx:Sl Source×Sl Target×Sl When=>(⟨x.1,x.2.1,x.2.2⟩:Rule)) (s1.seq (s2.seq s3))
  have n1:¬ bs1.length=bs.length+1:=by omega
  have n2:¬ bs.length+1=bs1.length:=by omega
  have n3:¬ bs1.length=bs.length:=by omega
  have n4:bs.length+1<bs3.length:=by omega
  have m2:bs1.length<bs2.length:=by omega
  have m3:bs1.length<bs3.length:=by omega
  have hB:∃ c',Bd E TRd aD GX [.agg [.ptr p 0]] ⟨bs,bs.length⟩=some (.agg [v1,v2,v3],⟨(bs3.set bs1.length (.cells [v1,v2,v3])).set (bs.length+1) (.cells [v1,v2,v3]),c'⟩)/\c'<=p:=by
   refine ⟨_,by simp +decide [ae,GX,e1,e2,e3,vc1.1,vc2.1,vc3.1,az,storeAt,put,sub,Hp.set,λys=>ay (ys:=ys) gL1,gL2,gN2,gN3,gR3,ak,n1,n3,n4,m3]; exact rfl,?_⟩;have q1:=a1 (by simp) bs.length;have q2:=l2 (min (F1 bs.length) bs1.length);have q3:=l3 (min (F2 (min (F1 bs.length) bs1.length)) bs1.length);omega
  obtain ⟨c',hB,hc⟩:=hB;have w3:∀ x,x≠p->x≠bs1.length->x≠bs.length+1->x<bs3.length->((bs3.set bs1.length (.cells [v1,v2,v3])).set (bs.length+1) (.cells [v1,v2,v3]))[x]?=bs3[x]?:=λx _ y2 y3 _=>by rw [ac (Ne.symm y3),ac (Ne.symm y2)]
  have w2:∀ x,x≠p->x≠bs1.length->x≠bs.length+1->x<bs2.length->((bs3.set bs1.length (.cells [v1,v2,v3])).set (bs.length+1) (.cells [v1,v2,v3]))[x]?=bs2[x]?:=λx y1 y2 y3 h4=>by rw [w3 x y1 y2 y3 (by omega),o3.2 x y1 (by simp; omega),ac (Ne.symm y2)]
  have w1:∀ x,x≠p->x≠bs1.length->x≠bs.length+1->x<bs1.length->((bs3.set bs1.length (.cells [v1,v2,v3])).set (bs.length+1) (.cells [v1,v2,v3]))[x]?=bs1[x]?:=λx y1 y2 y3 h4=>by rw [w2 x y1 y2 y3 (by omega),o2.2 x y1 (by simp; omega),am h4]
  have hh1:Hng true (KL bs.length ((bs3.set bs1.length (.cells [v1,v2,v3])).set (bs.length+1) (.cells [v1,v2,v3]))) ((bs3.set bs1.length (.cells [v1,v2,v3])).set (bs.length+1) (.cells [v1,v2,v3])) v1 (Sl.d Source.c x1) 2:=(hg1.up (by omega)).on (λx hx=>by
   have h1:=hx.1;simp only [ao,cj,ck] at h1;exact w1 x (by omega) (by have h2:=hx.2; omega) (by omega) hx.2) λx hx=>⟨by
   have h1:=hx.1;simp only [ao,cj,ck] at h1;omega,by have h2:=hx.2; simp only [List.length_set]; omega⟩
  have hh2:Hng true (KL bs.length ((bs3.set bs1.length (.cells [v1,v2,v3])).set (bs.length+1) (.cells [v1,v2,v3]))) ((bs3.set bs1.length (.cells [v1,v2,v3])).set (bs.length+1) (.cells [v1,v2,v3])) v2 (Sl.d Target.c x2) 2:=(hg2.up (by omega)).on (λx hx=>by
   have h1:=hx.1;simp only [ao,cj,ck] at h1;exact w2 x (by omega) (by omega) (by omega) hx.2) λx hx=>⟨by
   have h1:=hx.1;simp only [ao,cj,ck] at h1;omega,by have h2:=hx.2; simp only [List.length_set]; omega⟩
  have hh3:Hng true (KL bs.length ((bs3.set bs1.length (.cells [v1,v2,v3])).set (bs.length+1) (.cells [v1,v2,v3]))) ((bs3.set bs1.length (.cells [v1,v2,v3])).set (bs.length+1) (.cells [v1,v2,v3])) v3 (Sl.d When.c x3) 2:=(hg3.up (by omega)).on (λx hx=>by
   have h1:=hx.1;simp only [List.length_set] at h1;exact w3 x (by omega) (by omega) (by omega) hx.2) λx hx=>⟨by
   have h1:=hx.1;simp only [List.length_set] at h1;omega,by have h2:=hx.2; simp only [List.length_set]; omega⟩
  have d1:Old p bs bs1:=(Old.lay bs _).trans o1;have d2:Old p bs bs2:=(d1.trans (Old.lay bs1 _)).trans o2;have d3:Old p bs bs3:=(d2.set' (by omega) _).trans o3;refine ⟨.agg [v1,v2,v3],_,⟨x1,x2,x3⟩,st3,(bs3.set bs1.length (.cells [v1,v2,v3])).set (bs.length+1) (.cells [v1,v2,v3]),λlo=>min lo c',λlo=>fG O8 PE hB (by omega) lo,rfl,⟨hh1,hh2,hh3,trivial⟩,hS,(r3.set' (by omega) _).set' (by omega) _,(d3.set' (by omega) _).set' (by omega) _,λlo=>Nat.min_le_left _ _,λh=>(by cases h),λ_ lo=>ch (Nat.min_le_right _ _) hc⟩
theorem U7 {p:Nat}(bs:List Blk):RdsR true E 102 [.agg [.ptr p 0],.d (i64 6),.mfn 103 [.agg [.ptr p 0]]] p (pSl 6 uO) Rule.c 3 bs :=
 vY h404 (X4:TRd 102=some (rowQ 101 3 72 [(nV),(nV),(nV)])) Yo (by decide) (by decide) rfl (λ_=>rfl) (g:=103) (args:=[.agg [.ptr p 0]]) (λ_ _=>rfl) rfl rfl (by decide) (by decide) λbs' _=>(af1 h404 bs').weak
end
end
section
theorem FM {nl:Bool}{c:Int}{l:List Int}(hl:(c::l).length<=big)(bs:List Blk)(lo:Nat):dY ⟨bs,lo⟩ 1 1 (nV) (.d (Sl.d u8C ⟨nl,c::l⟩))=some (.row bs.length 0 (c::l).length none 1,⟨bs++[.cells ((c::l).map (iv .u8))],lo⟩):=by
 have hall:(((c::l).map u8C).all λe=>e.length==1)=true:=by
  rw [cm];intro e he;obtain ⟨m,_,rfl⟩:=cd.1 he;rfl
 have hr:aF ⟨bs,lo⟩ (.d (Sl.d u8C ⟨nl,c::l⟩)) 1=some ((c::l).length,(c::l).map (iv .u8)):=by
  have hm:(((c::l).map u8C).flatten).map V.d=(c::l).map (iv .u8):=by
   rw [Ah,List.map_map]; rfl
  simp only [aF,Sl.d,hall,if_true,hm,cc]
 have hroom:roomy (c::l).length 1=true:=by simp only [roomy,ap,br]; exact ⟨hl,by decide⟩
 simp only [dY,hr,aI,hroom,if_true];rw [if_neg (by simp),if_neg (by decide)];rfl
section
variable {E:Calls'}
theorem OB {nl:Bool}{l:List Int}(hb:byteL l)(hl:l.length<=big)(bs:List Blk):∃ p bs',∃ F:Nat->Nat,(∀ lo,Sm E TRd aD 39 [.d (Sl.d u8C ⟨nl,l⟩)] ⟨bs,lo⟩=some (.ptr p 0,⟨bs',F lo⟩))/\RdS p bs' (some l)/\bs.length<=p/\bs.length<=bs'.length/\(∀ y,y<bs.length->bs'[y]?=bs[y]?):=by
 cases l with
 | nil =>
  refine ⟨bs.length,bs++[.cells [nV,bl false]],λlo=>min lo bs.length,λlo=>?_,⟨nV,[],by simp,.inl ⟨rfl,true,rfl⟩,byteL.nil,Nat.zero_le _,λb h=>by cases h; rfl⟩,bo _,by simp,λy hy=>by rw [am hy]⟩;rw [aM O0 Pt];simp +decide [ae,Nw,Sl.d,dY,aF,aI,az,put,V.under]
 | cons c l =>
  have ha:=λlo=>FM (nl:=nl) hl bs lo;refine ⟨bs.length+1,bs++[.cells ((c::l).map (iv .u8)),.cells [.row bs.length 0 (c::l).length none 1,bl false]],λlo=>min lo bs.length,λlo=>?_,⟨.row bs.length 0 (c::l).length none 1,c::l,by simp,.inr ⟨by simp,bs.length,0,(c::l).map (iv .u8),rfl,Nat.lt_succ_self _,by simp,bB (by simp)⟩,hb,hl,λb h=>by cases h; rfl⟩,Nat.le_succ _,by simp,λy hy=>by rw [am hy]⟩;rw [aM O0 Pt];generalize hd:Sl.d u8C ⟨nl,c::l⟩=d at ha ⊢;simp +decide [ae,Nw,ha,az,put,V.under]
end
section
variable {E:Calls'}(h404:∀ x h,E 163 [.d (u64 x)] h=some (.d (i64 (dE x)),h))
include h404
theorem aa0 (h378:∀ p:Pol,p.wf big->∀ (h:Hp) (v:V),frz h v=some (ag p.c)->E 104 [v] h=some (bl (bz p),h)){nl:Bool}{l:List Int}(hb:byteL l)(hl:l.length<=big) :
 match lh l with
 | some p=>∃ cs h' K,Bd E TRd aD Dy [.d (Sl.d u8C ⟨nl,l⟩)] ⟨[],0⟩=some (.tup [.agg cs,.d (i64 0)],h')/\Hngs true K h'.bs 4 cs p.c
 | none=>∃ h',Bd E TRd aD Dy [.d (Sl.d u8C ⟨nl,l⟩)] ⟨[],0⟩=some (.tup [.agg (plL 0 ⟨#[]⟩ 0 0 nV),.d (i64 2)],h'):=by
 obtain ⟨p,M,F0,e0,r0,hp0,hM,hold⟩:=OB (E:=E) (nl:=nl) hb hl [.cells (plL 0 ⟨#[]⟩ 0 0 nV)];simp only [cj,ck] at hp0 hM hold;have hpM:=r0.lt;have g0:aa M 0=some (plL 0 ⟨#[]⟩ 0 0 nV):=by unfold aa; rw [hold 0 (by omega)]; rfl
 obtain ⟨x1,st1,bs1,F1,e1,s1,z1,r1,o1,l1,n1,a1⟩:=vS h404 (r0.lay [.cells [.ptr p 0]]);have hl1:=o1.1;simp only [ao,cj,ck] at hl1;have gQ1:aa bs1 M.length=some [.ptr p 0]:=af o1 (by omega) (by simp);have gR1:aa bs1 0=some (plL 0 ⟨#[]⟩ 0 0 nV):=af o1 (by omega) (ay g0);obtain ⟨x2,st2,bs2,F2,e2,s2,z2,r2,o2,l2,n2,a2⟩:=Ak h404 (r1.lay [.cells (plL x1 ⟨#[]⟩ 0 0 nV)]) (most:=20) (by decide) (by decide);have hl2:=o2.1;simp only [ao,cj,ck] at hl2;have gQ2:aa bs2 M.length=some [.ptr p 0]:=af o2 (by omega) (ay gQ1);have gR2:aa bs2 0=some (plL 0 ⟨#[]⟩ 0 0 nV):=af o2 (by omega) (ay gR1);have gN2:aa bs2 bs1.length=some (plL x1 ⟨#[]⟩ 0 0 nV):=af o2 (by omega) (by simp);obtain ⟨x3,st3,bs3,F3,e3,s3,z3,r3,o3,l3,n3,a3⟩:=vS h404 (r2.set' (b:=bs1.length) (by omega) (.cells (plL x1 x2 0 0 nV)));have hl3:=o3.1;simp only [List.length_set] at hl3;have gQ3:aa bs3 M.length=some [.ptr p 0]:=af o3 (by omega) (by rw [ak,if_neg (by omega)]; exact gQ2);have gR3:aa bs3 0=some (plL 0 ⟨#[]⟩ 0 0 nV):=af o3 (by omega) (by rw [ak,if_neg (by omega)]; exact gR2);have gN3:aa bs3 bs1.length=some (plL x1 x2 0 0 nV):=af o3 (by omega) (by rw [ak,if_pos rfl,if_pos (by omega)])
 obtain ⟨x4,st4,bs4,F4,e4,sz4,b4,c4,r4,o4,l4,n4,a4⟩:=Il h404 (r3.set' (b:=bs1.length) (by omega) (.cells (plL x1 x2 x3 0 nV))) (most:=1) (by decide) (by decide);have hl4:=o4.1;simp only [List.length_set] at hl4;have gQ4:aa bs4 M.length=some [.ptr p 0]:=af o4 (by omega) (by rw [ak,if_neg (by omega)]; exact gQ3);have gR4:aa bs4 0=some (plL 0 ⟨#[]⟩ 0 0 nV):=af o4 (by omega) (by rw [ak,if_neg (by omega)]; exact gR3);have gN4:aa bs4 bs1.length=some (plL x1 x2 x3 0 nV):=af o4 (by omega) (by rw [ak,if_pos rfl,if_pos (by omega)]);obtain ⟨v5,x5,st5,bs5,F5,e5,vc5,hg5,s5,r5,o5,l5,a5⟩:=U7 h404 _ _ (r4.set' (b:=bs1.length) (by omega) (.cells (plL x1 x2 x3 x4 nV)));have hl5:=o5.1;simp only [List.length_set] at hl5;have gQ5:aa bs5 M.length=some [.ptr p 0]:=af o5 (by omega) (by rw [ak,if_neg (by omega)]; exact gQ4);have gR5:aa bs5 0=some (plL 0 ⟨#[]⟩ 0 0 nV):=af o5 (by omega) (by rw [ak,if_neg (by omega)]; exact gR4);have gN5:aa bs5 bs1.length=some (plL x1 x2 x3 x4 nV):=af o5 (by omega) (by rw [ak,if_pos rfl,if_pos (by omega)]);obtain ⟨bs6,F6,e6,o6,l6⟩:=Ue (E:=E) (r5.set' (b:=bs1.length) (by omega) (.cells (plL x1 x2 x3 x4 v5)));have hl6:=o6.1;simp only [List.length_set] at hl6;have gN6:aa bs6 bs1.length=some (plL x1 x2 x3 x4 v5):=af o6 (by omega) (by rw [ak,if_pos rfl,if_pos (by omega)])
 have gR6:aa bs6 0=some (plL 0 ⟨#[]⟩ 0 0 nV):=af o6 (by omega) (by rw [ak,if_neg (by omega)]; exact gR5);have hS:Step Gz (some l) ⟨x1,x2,x3,x4,x5⟩ st5:=Step.map (λx:Int×ByteArray×Int×Int×Sl Rule=>(⟨x.1,x.2.1,x.2.2.1,x.2.2.2.1,x.2.2.2.2⟩:Pol)) (s1.seq (s2.seq (s3.seq (sz4.1.seq s5))));have w5:∀ x,bs4.length<=x->x<bs5.length->bs6[x]?=bs5[x]?:=λx h1 h2=>by rw [o6.2 x (by omega) (by simp; omega),ac (by omega)]
 have hh:Hng true (KL bs4.length bs5) bs6 v5 (Sl.d Rule.c x5) 3:=hg5.on (λx hx=>w5 x (by have h1:=hx.1; simp only [List.length_set] at h1; exact h1) hx.2) λx hx=>⟨by have h1:=hx.1; simp only [List.length_set] at h1; exact h1,hx.2⟩;have hcs:∀ K:Nat->Prop,(∀ x,KL bs4.length bs5 x->K x)->Hngs true K bs6 4 (plL x1 x2 x3 x4 v5) (Pol.c ⟨x1,x2,x3,x4,x5⟩):=λK hK=>⟨Hng.d (by simp),Hng.d (by simp),Hng.d (by simp),Hng.d (by simp),(hh.up (by omega)).on (λ_ _=>rfl) hK,trivial⟩;have hfrz:∀ lo,frz ⟨bs6,lo⟩ (.agg (plL x1 x2 x3 x4 v5))=some (ag (Pol.c ⟨x1,x2,x3,x4,x5⟩)):=λlo=>by
  have:=(Hngs.mapM (lo:=lo) (λ_ _=>rfl) (show 4<=8 by decide) (hcs (λ_=>True) λ_ _=>trivial)).1;simp only [frz,dh,cK,this];rfl
 have n1:¬ bs1.length=0:=by omega
 have n2:¬ M.length=0:=by omega
 have n3:¬ bs1.length=M.length:=by omega
 have m2:bs1.length<bs2.length:=by omega
 have m3:bs1.length<bs3.length:=by omega
 have m4:bs1.length<bs4.length:=by omega
 have m5:bs1.length<bs5.length:=by omega
 have m6:bs1.length<bs6.length:=by omega
 have m0:0<bs6.length:=by omega
 by_cases he:st5=some []
 . rw [if_pos he] at e6;have hpp:Gz l=some (⟨x1,x2,x3,x4,x5⟩,[]):=by
    obtain ⟨l',h1,h2⟩ | ⟨h1,h2⟩:=hS.of
    . rw [he] at h2;cases h2;exact h1
    . rw [he] at h2; cases h2
   have hok:=(pol_cod.bwd l _ _ hb hpp).2;have hw:=polOk.wf (B:=big) (by decide) hok;have k378:∀ lo,Sm E TRd aD 104 [.agg (plL x1 x2 x3 x4 v5)] ⟨bs6,lo⟩=some (bl (bz ⟨x1,x2,x3,x4,x5⟩),⟨bs6,lo⟩):=λlo=>(fA XY).trans (h378 _ hw ⟨bs6,lo⟩ _ (hfrz lo));have hd:lh l=if bz ⟨x1,x2,x3,x4,x5⟩=true then some ⟨x1,x2,x3,x4,x5⟩ else none:=by simp only [lh,hpp]
   rw [hd];cases hm:bz ⟨x1,x2,x3,x4,x5⟩ with
   | true =>
    simp only [hm] at k378;simp only [if_true];refine ⟨(plL x1 x2 x3 x4 v5),⟨bs6.set 0 (.cells (plL x1 x2 x3 x4 v5)),0⟩,KL bs4.length bs5,?_,(hcs _ λ_ h=>h).on (λx hx=>by have h1:=hx.1; rw [ac (by omega)]) λ_ h=>h⟩;simp +decide [ae,Dy,e0,e1,e2,e3,e4,e5,e6,vc5.1,az,storeAt,put,sub,Hp.set,λys=>ay (ys:=ys) gQ1,gQ2,gQ3,gQ4,gQ5,gN2,gN3,gN4,gN5,gN6,gR6,ak,n3,m0,au,k378]
   | false =>
    simp only [hm] at k378;simp only [bk,if_false];exact ⟨_,by simp +decide [ae,Dy,e0,e1,e2,e3,e4,e5,e6,vc5.1,az,storeAt,put,sub,Hp.set,λys=>ay (ys:=ys) gQ1,gQ2,gQ3,gQ4,gQ5,gN2,gN3,gN4,gN5,gN6,gR6,ak,n3,m0,au,k378]; exact rfl⟩
 . rw [if_neg he] at e6;have hd:lh l=none:=by
    unfold lh;obtain ⟨l',h1,h2⟩ | ⟨h1,h2⟩:=hS.of
    . rw [h1];cases l' with
      | nil=>exact absurd h2 he
      | cons _ _=>rfl
    . rw [h1]
   rw [hd];exact ⟨_,by simp +decide [ae,Dy,e0,e1,e2,e3,e4,e5,e6,vc5.1,az,storeAt,put,sub,Hp.set,λys=>ay (ys:=ys) gQ1,gQ2,gQ3,gQ4,gQ5,gN2,gN3,gN4,gN5,gR6,ak,n3,m0,au]; exact rfl⟩
theorem ai5 (h378:∀ p:Pol,p.wf big->∀ (h:Hp) (v:V),frz h v=some (ag p.c)->E 104 [v] h=some (bl (bz p),h)){nl:Bool}{l:List Int}(hb:byteL l)(hl:l.length<=big){v:V}{h:Hp}(hv:frz h v=some (.d (Sl.d u8C ⟨nl,l⟩))) :
 Sm E TRd aD 51 [v] h=some (match lh l with | some p=>.tup [ag p.c,.d (i64 0)] | none=>.tup [ag (Pol.c ⟨0,⟨#[]⟩,0,0,⟨true,[]⟩⟩),.d (i64 2)],h):=by
 have k:=aa0 h404 h378 (nl:=nl) hb hl;rw [aY XW Yk];cases hd:lh l with
 | some p =>
  rw [hd] at k;obtain ⟨cs,h',K,k1,k2⟩:=k;have k3:=Hngs.mapM (bs':=h'.bs) (lo:=h'.low) (λ_ _=>rfl) (show 4<=8 by decide) k2;have hz:frz h' (.tup [.agg cs,.d (i64 0)])=some (.tup [ag p.c,.d (i64 0)]):=by
   simp only [frz,List.mapM_cons,List.mapM_nil,dh,cK,k3.1,ky]; rfl
  have ho:ownR h' (.tup [.agg cs,.d (i64 0)])=true:=by
   simp only [ownR,List.all_cons,List.all_nil,rV,k3.2 rfl]; rfl
  simp [hv,k1,hz,ho]
 | none =>
  rw [hd] at k;obtain ⟨h',k1⟩:=k;have hz:frz h' (.tup [.agg [.d (u64 0),.d (.str ⟨#[]⟩),.d (u64 0),.d (i64 0),.d (.slice true [])],.d (i64 2)])=some (.tup [ag (Pol.c ⟨0,⟨#[]⟩,0,0,⟨true,[]⟩⟩),.d (i64 2)]):=by
   have:dh h' (.agg [.d (u64 0),.d (.str ⟨#[]⟩),.d (u64 0),.d (i64 0),.d (.slice true [])])=some (ag (Pol.c ⟨0,⟨#[]⟩,0,0,⟨true,[]⟩⟩)):=by
    have:=fM h' 8 (Pol.c ⟨0,⟨#[]⟩,0,0,⟨true,[]⟩⟩);simp only [dh,cK];rw [show [V.d (u64 0),V.d (.str ⟨#[]⟩),V.d (u64 0),V.d (i64 0),V.d (.slice true [])]=(Pol.c ⟨0,⟨#[]⟩,0,0,⟨true,[]⟩⟩).map V.d from rfl,this];rfl
   simp only [frz,List.mapM_cons,List.mapM_nil,dh,ky]; rfl
  have ho:ownR h' (.tup [.agg [.d (u64 0),.d (.str ⟨#[]⟩),.d (u64 0),.d (i64 0),.d (.slice true [])],.d (i64 2)])=true:=rfl;simp [hv,k1,hz,ho]
end
end
section
variable {w:Bool}
section
variable {E:Calls'}
section
variable (h404:∀ x h,E 163 [.d (u64 x)] h=some (.d (i64 (dE x)),h))
include h404
theorem xR {p:Nat}{bs:List Blk}{st:Option (List Int)}(hR:RdS p bs st){most:Int}(hm0:0<=most)(hm:most<2 ^ 64) :
 ∃ n st' bs',∃ F:Nat->Nat,(∀ lo,Sm E TRd aD 41 [.agg [.ptr p 0],.d (u64 most)] ⟨bs,lo⟩=some (.d (u64 n),⟨bs',F lo⟩))/\StepZ (bT most) st n st'/\0<=n/\n<=most/\RdS p bs' st'/\Old p bs bs'/\(∀ lo:Nat,F lo<=lo)/\(st=none->n=0/\bs'=bs/\∀ lo,F lo=lo)/\(st≠none->∀ lo,F lo<=p):=by
 have hp:=hR.lt;obtain ⟨x,st1,bs1,F1,k1,k2,k3,k4,k5,k6,k7,k8⟩:=vS h404 (hR.lay [.cells [.ptr p 0]]);have hL:aa bs1 bs.length=some [.ptr p 0]:=by
  have:=k5.2 bs.length (by omega) (by simp);unfold aa; rw [this]; simp
 have hw:wrap .u64 most=most:=by rw [wrap_u64]; omega
 cases st with
 | none =>
  obtain ⟨rfl,k7⟩:=k7 rfl;have hn:st1=none:=k2;subst hn;have hx:=k3 rfl;subst hx;refine ⟨0,none,bs,id,λlo=>?_,⟨rfl,λ_=>rfl⟩,Int.le_refl _,hm0,hR,Old.refl _ _,λlo=>bo _,λ_=>⟨rfl,rfl,λ_=>rfl⟩,λh=>absurd rfl h⟩;rw [aM E5 E9];simp [GQ,ae,k1,k7,show ¬ ((0:Int)>most) from by omega,V.under]
 | some b =>
  have k8:=k8 (by simp);have hlow:¬ bs.length<=F1 bs.length:=by have:=k8 bs.length; omega
  cases hu:pUint b with
  | none =>
   have hst:st1=none:=by simpa [Step,hu] using k2
   subst hst;have hx:=k3 rfl;subst hx;refine ⟨0,none,bs1,λlo=>min lo (F1 bs.length),λlo=>?_,⟨by simp [Step,bT,Pr.keep,hu],λ_=>rfl⟩,Int.le_refl _,hm0,k4,(Old.lay bs _).trans k5,λlo=>Nat.min_le_left _ _,λh=>(by cases h),λ_ lo=>ch (Nat.min_le_right _ _) (k8 _)⟩;rw [aM E5 E9];simp [GQ,ae,k1,show ¬ ((0:Int)>most) from by omega,hlow]
  | some y =>
   obtain ⟨y,l⟩:=y;have hst:x=y/\st1=some l:=by simpa [Step,hu] using k2
   obtain ⟨rfl,rfl⟩:=hst;have hbyte:byteL b:=by
    obtain ⟨v,l',g1,g2,g3,g4,g5⟩:=hR;rw [g5 b rfl]; exact g3
   have h0:=(uint_cod.bwd b x l hbyte hu).2;by_cases hgt:x>most
   . obtain ⟨bs2,q1,q2,q3⟩:=Le (E:=E) k4;refine ⟨0,none,bs2,λlo=>min lo (min (F1 bs.length) p),λlo=>?_,⟨by simp [Step,bT,Pr.keep,hu,show ¬ x<=most from by omega],λ_=>rfl⟩,Int.le_refl _,hm0,q2,((Old.lay bs _).trans k5).trans q3,λlo=>Nat.min_le_left _ _,λh=>(by cases h),λ_ lo=>ch (Nat.min_le_right _ _) (Nat.min_le_right _ _)⟩;rw [aM E5 E9];simp [GQ,ae,k1,hgt,hL,q1,show ¬ bs.length<=min (F1 bs.length) p from by omega]
   . refine ⟨x,some l,bs1,λlo=>min lo (F1 bs.length),λlo=>?_,⟨by simp [Step,bT,Pr.keep,hu,show x<=most from by omega],λh=>by cases h⟩,h0.1,by omega,k4,(Old.lay bs _).trans k5,λlo=>Nat.min_le_left _ _,λh=>(by cases h),λ_ lo=>ch (Nat.min_le_right _ _) (k8 _)⟩;rw [aM E5 E9];simp [GQ,ae,k1,hgt,hlow]
end
def uK (z by_:Nat)(zero:List V):QC:=(sr [op 13 (bt .lss 12 11)] (.seq (.cond (.t 13) .skip (.exit 0 [7])) (.seq (.block 1 (.reg none [mv 14 7,mv 15 2,op 16 (kt' 15 []),op 17 (.buildS z 1 zero [(0,z,(.t 16))]),op 18 (.app z by_ (.t 14) (.t 17)),mv 7 18])) (.reg none [op 19 (.bin .add (.t 12) (.c (.d (.int .u64 1)))),mv 12 19]))))
def listQ (sm z by_:Nat)(zero:List V):QF:=⟨21,[.tmp 6],(sr [op 3 (.box (.t 0)),op 6 (.mov (.c zs0))] (sr [op 7 (.mov (.c zs0))] (.seq (sr [op 8 (lf 1 3),mv 9 1,op 10 (.convI .u64 (.t 9)),op 11 (.call (.c (.fn sm [])) [.t 8,.t 10]),op 12 (.mov (.c zu))] (.block 0 (.loop [2,7,11,12] (uK z by_ zero)))) (sr [mv 20 7,mv 6 20] (.ret [6])))))⟩
theorem H9 {i n:Nat}(h:i<n)(hn:n<2 ^ 62):wrap .u64 ((i:Int)+1)=((i+1:Nat):Int):=by rw [wrap_u64]; omega
theorem Gh {α:Type}{P:Pr α}{cells:α->List D}{z by_ k:Nat}{zero:List V}(hz0:0<z)(hby:by_<=4096)(hzero:zero.length=z)(hcl:∀ x,(cells x).length=z){g:FuncId}{args:List V}{fv:V}(hfv:∀ C h,gG C fv [] h=C g args h)(hnu:nu fv=some fv)
 {p:Nat} {bs0:List Blk} (hp:p<bs0.length) (hone:∀ bs,Old p bs0 bs->FB w E g args p P cells k bs) {N:Nat} (hN:N<big) :
 ∀ (m i:Nat) (bs:List Blk) (v:V) (st:Option (List Int)) (ds:List D),i+m=N->RdS p bs st->AccV w bs0.length z k i ds bs v->Old p bs0 bs →
 ∃ v' xs st' bs',∃ F:Nat->Nat,(∀ lo,Cd E TRd aD (.loop [2,7,11,12] (uK z by_ zero)) [(2,fv),(7,v),(11,.d (u64 N)),(12,.d (u64 i))] ⟨bs,lo⟩=some (.exit 0,[(7,v')],⟨bs',F lo⟩))/\xs.length=m/\AccV w bs0.length z k N (ds++(xs.map cells).flatten) bs' v'/\Step (gX P m) st xs st'/\RdS p bs' st'/\Old p bs0 bs'/\∀ lo:Nat,F lo<=lo:=by
 intro m;have hN2:N<2 ^ 62:=Nat.lt_trans hN (by decide);have key:=aB (E:=E) (T:=TRd) (val:=aD) [2,7,11,12] (uK z by_ zero);generalize Cd E TRd aD (.loop [2,7,11,12] (uK z by_ zero))=W at key ⊢
 induction m with
 | zero =>
  intro i bs v st ds hi hR hA ho;have:i=N:=by omega
  subst this;refine ⟨v,[],st,bs,id,λlo=>?_,rfl,by simpa using hA,Step.nil,hR,ho,λlo=>bo _⟩;rw [key];simp [uK]
 | succ m ih =>
  intro i bs v st ds hi hR hA ho;obtain ⟨v1,vs,x,st1,bs1,F1,a1,a2,a3,a4,a5,a6,a7⟩:=hone bs ho st hR;have hvl:=a3.cells_len (hcl x);have hA1:AccV w bs0.length z k i ds (bs1++[.cells vs]) v:=hA.on (by have:=a6.1; simp; omega) λy h1 h2=>by
   rw [am (by have:=a6.1; omega)];exact a6.2 y (by omega) h2
  have hBl:∀ B n' c,v=.row B 0 n' c z->B<bs.length:=by
   rintro B n' c rfl;obtain ⟨_,_,h⟩ | ⟨_,B',cs,_,h,h3,_⟩:=hA
   . cases h
   . cases h; exact aN h3
  have hle:=ho.1;have hle1:=a6.1;obtain ⟨v2,bs2,F2,b1,b2,b3,b4,b5⟩:=hA1.app hz0 hby (by omega) (r:=bs1.length) (cap:=some 1) hvl (by simp) (L2:=bs.length) hle hBl
   (a3.on (λy hy=>by rw [am hy.2]) λy hy=>⟨hy.1,by have:=hy.2; simp; omega⟩) (by simp; omega)
  have hR2:RdS p bs2 st1:=a5.upto λy hy=>by
   rw [b4 y (by omega),am (by omega)]
  have ho2:Old p bs0 bs2:=⟨by simp at b3; omega,λy h1 h2=>by
   rw [b4 y h2,am (by omega),a6.2 y h1 (by omega),ho.2 y h1 h2]⟩
  obtain ⟨v',xs,st',bs',F3,c1,c2,c3,c4,c5,c6,c7⟩:=ih (i+1) bs2 v2 st1 _ (by omega) hR2 b2 ho2;refine ⟨v',x::xs,st',bs',λlo=>F3 (F2 (F1 lo)),λlo=>?_,by simp [c2],by simpa using c3,Step.row a4 c4,c5,c6,λlo=>ch (c7 _) (ch (b5 _) (a7 _))⟩;rw [← c1,key];have hw:=H9 (i:=i) (n:=N) (by omega) hN2;have hlt:((i:Int)<(N:Int)):=by omega
  have hfill:∀ ev:X->V,ev (.t 16)=v1->az ev zero [(0,z,.t 16)]=some vs:=λev he=>Be he a2 hvl hzero;simp [uK,hlt,hA.nu,hnu,hfv,a1,hfill,b1,b2.nu,hw]
theorem Gi {z by_:Nat}{zero:List V}{fv v:V}(hv:nu v=some v)(h:Hp):Cd E TRd aD (.loop [2,7,11,12] (uK z by_ zero)) [(2,fv),(7,v),(11,.d (u64 0)),(12,.d (u64 0))] h=some (.exit 0,[(7,v)],h):=by
 rw [aB];simp [uK]
section
variable (h404:∀ x h,E 163 [.d (u64 x)] h=some (.d (i64 (dE x)),h))
include h404
theorem Lj {id z by_:Nat}{zero:List V}(ht:TRd id=some (listQ 41 z by_ zero))(hv:aD id=false){fv:V}(hnu:nu fv=some fv)(hok:okV fv=true){p:Nat}{bs:List Blk}{most:Int}(hm0:0<=most)(hm:most<big)(hR:RdS p bs none)(lo:Nat) :
 Sm E TRd aD id [.agg [.ptr p 0],.d (i64 most),fv] ⟨bs,lo⟩=some (nV,⟨bs,lo⟩):=by
 obtain ⟨n,st1,bs1,F1,a1,a2,a3,a4,a5,a6,a7,a8,a9⟩:=xR h404 (hR.lay [.cells [.ptr p 0]]) hm0 (show most<2 ^ 64 from Int.lt_trans hm (by decide));obtain ⟨rfl,rfl,a8⟩:=a8 rfl;rw [aM ht hv];simp [listQ,ae,a1,a8,show wrap .u64 most=most from by rw [wrap_u64]; have:(big:Int)<2 ^ 62:=(by decide); omega];rw [ai];simp [Gi (E:=E) (v:=nV) rfl,V.under]
theorem zk {α:Type}{P:Pr α}{cells:α->List D}{z by_ k id:Nat}{zero:List V}(ht:TRd id=some (listQ 41 z by_ zero))(hv:aD id=false)(hz0:0<z)(hby:by_<=4096)(hzero:zero.length=z)(hcl:∀ x,(cells x).length=z){g:FuncId}{args:List V}{fv:V}(hfv:∀ C h,gG C fv [] h=C g args h)(hnu:nu fv=some fv)(hok:okV fv=true)
 {p:Nat} {bs:List Blk} {most:Int} (hm0:0<=most) (hm:most<big) (hone:∀ bs',Old p bs bs'->FB w E g args p P cells k bs') :
 RdsR w E id [.agg [.ptr p 0],.d (i64 most),fv] p (pSl most P) cells (k+1) bs:=by
 refine RdsR.mk (Lj h404 ht hv hnu hok hm0 hm) λb hR=>?_;have hp:=hR.lt;obtain ⟨n,st1,bs1,F1,a1,a2,a3,a4,a5,a6,a7,a8,a9⟩:=xR h404 (hR.lay [.cells [.ptr p 0]]) hm0 (show most<2 ^ 64 from Int.lt_trans hm (by decide));have a9:=a9 (by simp);obtain ⟨N,rfl⟩:=Int.eq_ofNat_of_zero_le a3;obtain ⟨v',xs,st',bs',F2,c1,c2,c3,c4,c5,c6,c7⟩:=Gh (E:=E) (by_:=by_) hz0 hby hzero hcl hfv hnu (bs0:=bs++[.cells [.ptr p 0]]) (by simp; omega) (λbs' ho=>hone bs' ((Old.lay bs _).trans ho)) (N:=N) (by omega) N 0 bs1 (nV) st1 [] (by omega) a5 (AccV.nil _ _ _ _) a6;have hflat:(xs.map cells).length=N:=by simp [c2]
 have hH:=AccV.hng (es:=xs.map cells) (by simpa using c3) (λe he=>by obtain ⟨x,_,rfl⟩:=cd.1 he; exact hcl x) hflat.symm;have hS:Step (pSl most P) (some b) ⟨xs.isEmpty,xs⟩ st':=by
  have:=(StepZ.seq a2 (l:=xs) (s2:=st') (by simpa using c4)).map λl=>(⟨l.isEmpty,l⟩:Sl α);exact this
 have hF:F2 (F1 bs.length)<=p:=ch (c7 _) (a9 _);refine ⟨v',⟨xs.isEmpty,xs⟩,st',bs',λlo=>min lo (F2 (F1 bs.length)),λlo=>?_,⟨?_,c3.nu⟩,?_,hS,c5,(Old.lay bs _).trans c6,λlo=>Nat.min_le_left _ _,λlo=>ch (Nat.min_le_right _ _) hF⟩
 . rw [aM ht hv];simp only [Int.natCast_zero] at c1;simp [listQ,ae,a1,show wrap .u64 most=most from by rw [wrap_u64]; have:(big:Int)<2 ^ 62:=(by decide); omega];rw [ai];simp [c1,c3.nu,show ¬ bs.length<=F2 (F1 bs.length) from by omega]
 . obtain ⟨_,_,rfl⟩ | ⟨_,B,cs,_,rfl,_⟩:=c3<;>rfl
 . have:Sl.d cells ⟨xs.isEmpty,xs⟩=.slice (xs.map cells).isEmpty (xs.map cells):=by simp [Sl.d]
   rw [this];exact hH.on (λ_ _=>rfl) λx hx=>⟨by
    have h1:bs.length+1<=x:=hx.1;omega,hx.2⟩
end
end
end
section
section
variable {E:Calls'}(h404:∀ x h,E 163 [.d (u64 x)] h=some (.d (i64 (dE x)),h))
include h404
theorem ae8 {p q:Nat}(bs:List Blk)(hq:aa bs q=some [.ptr p 0])(hqp:q≠p):Rds true E 48 [.ptr q 0] p BP Way.c 0 (.agg [.d (u64 0),.d (i64 0)]) bs:=by
 intro st hR;have hp:=hR.lt;have hql:=aN hq;obtain ⟨x1,st1,bs1,F1,e1,s1,z1,r1,o1,l1,n1,a1⟩:=vS h404 (hR.lay [.cells [.d (u64 0),.d (i64 0)]]);have hl1:=o1.1;try simp only [ao,cj,ck] at hl1
 have mQ1:aa (bs++[Blk.cells [.d (u64 0),.d (i64 0)]]) q=some [.ptr p 0]:=ay hq;have mR1:aa (bs++[Blk.cells [.d (u64 0),.d (i64 0)]]) bs.length=some [.d (u64 0),.d (i64 0)]:=by simp
 have gQ1:aa bs1 q=some [.ptr p 0]:=af o1 hqp mQ1;have gR1:aa bs1 bs.length=some [.d (u64 0),.d (i64 0)]:=af o1 (by omega) mR1;have nN1:¬ bs1.length=bs.length:=by omega
 have nN2:¬ bs1.length=q:=by omega
 have nN3:¬ bs.length=bs1.length:=by omega
 have nN4:q<bs1.length:=by omega
 obtain ⟨x2,st2,bs2,F2,e2,sz2,b2,c2,r2,o2,l2,n2,a2⟩:=xR h404 (r1.lay [.cells [.d (u64 x1),.d (i64 0)]]) (most:=9) (by decide) (by decide);have s2:=sz2.1;have z2:=sz2.2;have hw2:wrap .i64 x2=x2:=wrap64 (by omega) (by omega);have hl2:=o2.1;try simp only [ao,cj,ck] at hl2
 have mQ2:aa (bs1++[Blk.cells [.d (u64 x1),.d (i64 0)]]) q=some [.ptr p 0]:=ay gQ1;have mR2:aa (bs1++[Blk.cells [.d (u64 x1),.d (i64 0)]]) bs.length=some [.d (u64 0),.d (i64 0)]:=ay gR1;have mN2:aa (bs1++[Blk.cells [.d (u64 x1),.d (i64 0)]]) bs1.length=some [.d (u64 x1),.d (i64 0)]:=by simp
 have gQ2:aa bs2 q=some [.ptr p 0]:=af o2 hqp mQ2;have gR2:aa bs2 bs.length=some [.d (u64 0),.d (i64 0)]:=af o2 (by omega) mR2;have gN2:aa bs2 bs1.length=some [.d (u64 x1),.d (i64 0)]:=af o2 (by omega) mN2;have hB:∃ c',Bd E TRd aD ND [.ptr q 0] ⟨bs,bs.length⟩=some (.agg [.d (u64 x1),.d (i64 x2)],⟨(bs2.set bs1.length (.cells [.d (u64 x1),.d (i64 x2)])).set bs.length (.cells [.d (u64 x1),.d (i64 x2)]),c'⟩)/\(st≠none->c'<=p)/\(st=none->bs.length<=c'):=by
  have hm:bs.length<bs2.length:=by omega
  have hm2:bs1.length<bs2.length:=by omega
  have hN2:bs1.length<bs2.length:=by omega
  refine ⟨_,by simp +decide [ae,ND,az,storeAt,put,sub,Hp.set,e1,e2,hw2,mQ1,mQ2,gN2,gR2,ak,nN1,hm,hm2]; exact rfl,λhst=>?_,λhst=>?_⟩
  . repeat first | exact a1 hst bs.length | refine ch (Nat.min_le_left _ _) ?_ | refine ch (l2 _) ?_
  . subst hst;have y1:st1=none:=s1;subst y1;have f1:=(n1 rfl).2;have y2:st2=none:=s2;subst y2;have f2:=(n2 rfl).2.2;simp only [f1,f2];omega
 obtain ⟨c',hB,hc,hn⟩:=hB;have hS:Step BP st ⟨x1,x2⟩ st2:=Step.map (λx:Int×Int=>(⟨x.1,x.2⟩:Way)) (s1.seq s2);have d1:Old p bs bs1:=(Old.lay bs _).trans o1;have d2:Old p bs bs2:=(d1.trans (Old.lay bs1 _)).trans o2;cases st with
 | none =>
  have y1:st1=none:=s1;subst y1;have v1:=z1 rfl;subst v1;have y2:st2=none:=s2;subst y2;have v2:=z2 rfl;subst v2;exact ⟨.agg [.d (u64 0),.d (i64 0)],_,⟨0,0⟩,none,bs,λlo=>lo,λlo=>gP O4 Px hB (hn rfl) rfl lo,rfl,Hngs.flat (ds:=Way.c ⟨0,0⟩) (by simp [Way.c]),hS,hR,Old.refl _ _,λlo=>bo _,λ_=>⟨rfl,rfl,λ_=>rfl⟩,λh=>absurd rfl h⟩
 | some b =>
  have hc:=hc (by simp);exact ⟨.agg [.d (u64 x1),.d (i64 x2)],_,⟨x1,x2⟩,st2,(bs2.set bs1.length (.cells [.d (u64 x1),.d (i64 x2)])).set bs.length (.cells [.d (u64 x1),.d (i64 x2)]),λlo=>min lo c',λlo=>fG O4 Px hB (by omega) lo,rfl,Hngs.flat (ds:=Way.c ⟨x1,x2⟩) (by simp [Way.c]),hS,(r2.set' (by omega) _).set' (by omega) _,(d2.set' (by omega) _).set' (by omega) _,λlo=>Nat.min_le_left _ _,λh=>(by cases h),λ_ lo=>ch (Nat.min_le_right _ _) hc⟩
theorem ae7 {p q:Nat}(bs:List Blk)(hq:aa bs q=some [.ptr p 0])(hqp:q≠p):Rds true E 46 [.ptr q 0] p BO Svc.c 0 (.agg (svL 0 ⟨#[]⟩ 0 0 0)) bs:=by
 intro st hR;have hp:=hR.lt;have hql:=aN hq;obtain ⟨x1,st1,bs1,F1,e1,s1,z1,r1,o1,l1,n1,a1⟩:=vS h404 (hR.lay [.cells (svL 0 ⟨#[]⟩ 0 0 0)]);have hl1:=o1.1;try simp only [ao,cj,ck] at hl1
 have mQ1:aa (bs++[Blk.cells (svL 0 ⟨#[]⟩ 0 0 0)]) q=some [.ptr p 0]:=ay hq;have mR1:aa (bs++[Blk.cells (svL 0 ⟨#[]⟩ 0 0 0)]) bs.length=some (svL 0 ⟨#[]⟩ 0 0 0):=by simp
 have gQ1:aa bs1 q=some [.ptr p 0]:=af o1 hqp mQ1;have gR1:aa bs1 bs.length=some (svL 0 ⟨#[]⟩ 0 0 0):=af o1 (by omega) mR1;obtain ⟨x2,st2,bs2,F2,e2,s2,z2,r2,o2,l2,n2,a2⟩:=Ak h404 r1 (most:=20) (by decide) (by decide);have hl2:=o2.1;try simp only [ao,cj,ck,List.length_set] at hl2
 have mQ2:=gQ1;have mR2:=gR1;have gQ2:aa bs2 q=some [.ptr p 0]:=af o2 hqp mQ2;have gR2:aa bs2 bs.length=some (svL 0 ⟨#[]⟩ 0 0 0):=af o2 (by omega) mR2;have nN1:¬ bs2.length=bs.length:=by omega
 have nN2:¬ bs2.length=q:=by omega
 have nN3:¬ bs.length=bs2.length:=by omega
 have nN4:q<bs2.length:=by omega
 obtain ⟨x3,st3,bs3,F3,e3,sz3,b3,c3,r3,o3,l3,n3,a3⟩:=xR h404 (r2.lay [.cells (svL x1 x2 0 0 0)]) (most:=4294967295) (by decide) (by decide);have s3:=sz3.1;have z3:=sz3.2;have hw3:wrap .u32 x3=x3:=by simp [wrap,IntKind.bits,IntKind.signed]; omega
 have hl3:=o3.1;try simp only [ao,cj,ck] at hl3
 have mQ3:aa (bs2++[Blk.cells (svL x1 x2 0 0 0)]) q=some [.ptr p 0]:=ay gQ2;have mR3:aa (bs2++[Blk.cells (svL x1 x2 0 0 0)]) bs.length=some (svL 0 ⟨#[]⟩ 0 0 0):=ay gR2;have mN3:aa (bs2++[Blk.cells (svL x1 x2 0 0 0)]) bs2.length=some (svL x1 x2 0 0 0):=by simp
 have gQ3:aa bs3 q=some [.ptr p 0]:=af o3 hqp mQ3;have gR3:aa bs3 bs.length=some (svL 0 ⟨#[]⟩ 0 0 0):=af o3 (by omega) mR3;have gN3:aa bs3 bs2.length=some (svL x1 x2 0 0 0):=af o3 (by omega) mN3;obtain ⟨x4,st4,bs4,F4,e4,sz4,b4,c4,r4,o4,l4,n4,a4⟩:=xR h404 r3 (most:=65535) (by decide) (by decide);have s4:=sz4.1;have z4:=sz4.2;have hw4:wrap .i64 x4=x4:=wrap64 (by omega) (by omega);have hl4:=o4.1;try simp only [ao,cj,ck,List.length_set] at hl4
 have mQ4:=gQ3;have mR4:=gR3;have mN4:=gN3;have gQ4:aa bs4 q=some [.ptr p 0]:=af o4 hqp mQ4;have gR4:aa bs4 bs.length=some (svL 0 ⟨#[]⟩ 0 0 0):=af o4 (by omega) mR4;have gN4:aa bs4 bs2.length=some (svL x1 x2 0 0 0):=af o4 (by omega) mN4;obtain ⟨x5,st5,bs5,F5,e5,s5,z5,r5,o5,l5,n5,a5⟩:=vS h404 r4;have hl5:=o5.1;try simp only [ao,cj,ck,List.length_set] at hl5
 have mQ5:=gQ4;have mR5:=gR4;have mN5:=gN4;have gQ5:aa bs5 q=some [.ptr p 0]:=af o5 hqp mQ5;have gR5:aa bs5 bs.length=some (svL 0 ⟨#[]⟩ 0 0 0):=af o5 (by omega) mR5;have gN5:aa bs5 bs2.length=some (svL x1 x2 0 0 0):=af o5 (by omega) mN5;obtain ⟨t1,G1,h1,T1,g1,gn1,ga1⟩:=cz e1 (by first | omega | (simp only [ao,cj,ck]; omega)) o1 (st:=st) (n1) a1 (K:=[q]) (λb hb=>by simp only [List.mem_singleton] at hb; subst hb; exact ⟨hqp,_,mQ1,by simp [dm,jc]⟩) (m:=bs2.length) (by first | omega | (simp only [ao,cj,ck]; omega));obtain ⟨t2,G2,h2,T2,g2,gn2,ga2⟩:=cz e2 (by first | omega | (simp only [ao,cj,ck,List.length_set]; omega)) o2 (st:=st1) (n2) a2 (K:=[q]) (λb hb=>by simp only [List.mem_singleton] at hb; subst hb; exact ⟨hqp,_,mQ2,by simp [dm,jc]⟩) (m:=bs2.length) (by first | omega | (simp only [ao,cj,ck,List.length_set]; omega));obtain ⟨t3,G3,h3,T3,g3,gn3,ga3⟩:=cz e3 (by first | omega | (simp only [ao,cj,ck]; omega)) o3 (st:=st2) (λh=>⟨(n3 h).2.1,(n3 h).2.2⟩) a3 (K:=[q]) (λb hb=>by simp only [List.mem_singleton] at hb; subst hb; exact ⟨hqp,_,mQ3,by simp [dm,jc]⟩) (m:=bs5.length) (by first | omega | (simp only [ao,cj,ck]; omega))
 obtain ⟨t4,G4,h4,T4,g4,gn4,ga4⟩:=cz e4 (by first | omega | (simp only [ao,cj,ck,List.length_set]; omega)) o4 (st:=st3) (λh=>⟨(n4 h).2.1,(n4 h).2.2⟩) a4 (K:=[q]) (λb hb=>by simp only [List.mem_singleton] at hb; subst hb; exact ⟨hqp,_,mQ4,by simp [dm,jc]⟩) (m:=bs5.length) (by first | omega | (simp only [ao,cj,ck,List.length_set]; omega));obtain ⟨t5,G5,h5,T5,g5,gn5,ga5⟩:=cz e5 (by first | omega | (simp only [ao,cj,ck,List.length_set]; omega)) o5 (st:=st4) (n5) a5 (K:=[q]) (λb hb=>by simp only [List.mem_singleton] at hb; subst hb; exact ⟨hqp,_,mQ5,by simp [dm,jc]⟩) (m:=bs5.length) (by first | omega | (simp only [ao,cj,ck,List.length_set]; omega));have hB:∃ c',Bd E TRd aD NB [.ptr q 0] ⟨bs,bs.length⟩=some (.agg (svL x1 x2 x3 x4 x5),⟨(bs5.set bs2.length (.cells (svL x1 x2 x3 x4 x5))).set bs.length (.cells (svL x1 x2 x3 x4 x5)),c'⟩)/\(st≠none->c'<=p)/\(st=none->bs.length<=c'):=by
  have hm:bs.length<bs5.length:=by omega
  have hm2:bs2.length<bs5.length:=by omega
  have hN3:bs2.length<bs3.length:=by omega
  have hN4:bs2.length<bs4.length:=by omega
  have hN5:bs2.length<bs5.length:=by omega
  refine ⟨_,by simp +decide [ae,NB,aL,az,storeAt,put,sub,Hp.set,h1,h2,mQ1,mQ2]; rw [if_pos (dI [q] (bs2.length) [0,0,1,0,0,1,0,3,2] (by rfl) (by simp [ClsOk,Cls,Quiet,Sto,Lay,T1,T2,nN2,nN4]))]; simp +decide [aL,storeAt,put,sub,Hp.set,h3,h4,h5,hw3,hw4,mQ3,mQ4,mQ5,gN5,ak,hm2]; rw [if_pos (dI [q] (bs5.length) [0,1,0,0,1,0,0,0,1,0,2,0,2,0,2] (by rfl) (by simp [ClsOk,Cls,Quiet,Sto,T3,T4,T5,nN2]))]; simp +decide [storeAt,put,sub,Hp.set,gR5,ak,nN1,hm,hm2]; exact rfl,λhst=>?_,λhst=>?_⟩
  . repeat first | exact ga1 hst bs.length | refine ch (Nat.min_le_left _ _) ?_ | refine ch (g2 _) ?_ | refine ch (g3 _) ?_ | refine ch (g4 _) ?_ | refine ch (g5 _) ?_
  . subst hst;have y1:st1=none:=s1;subst y1;have f1:=gn1 rfl;have y2:st2=none:=s2;subst y2;have f2:=gn2 rfl;have y3:st3=none:=s3;subst y3;have f3:=gn3 rfl;have y4:st4=none:=s4;subst y4;have f4:=gn4 rfl;have y5:st5=none:=s5;subst y5;have f5:=gn5 rfl;simp only [f1,f2,f3,f4,f5];omega
 obtain ⟨c',hB,hc,hn⟩:=hB;have hS:Step BO st ⟨x1,x2,x3,x4,x5⟩ st5:=Step.map (λx:Int×ByteArray×Int×Int×Int=>(⟨x.1,x.2.1,x.2.2.1,x.2.2.2.1,x.2.2.2.2⟩:Svc)) (s1.seq (s2.seq (s3.seq (s4.seq s5))));have d1:Old p bs bs1:=(Old.lay bs _).trans o1;have d2:Old p bs bs2:=d1.trans o2;have d3:Old p bs bs3:=(d2.trans (Old.lay bs2 _)).trans o3;have d4:Old p bs bs4:=d3.trans o4;have d5:Old p bs bs5:=d4.trans o5;cases st with
 | none =>
  have y1:st1=none:=s1;subst y1;have v1:=z1 rfl;subst v1;have y2:st2=none:=s2;subst y2;have v2:=z2 rfl;subst v2;have y3:st3=none:=s3;subst y3;have v3:=z3 rfl;subst v3;have y4:st4=none:=s4;subst y4;have v4:=z4 rfl;subst v4;have y5:st5=none:=s5;subst y5;have v5:=z5 rfl;subst v5;exact ⟨.agg (svL 0 ⟨#[]⟩ 0 0 0),_,⟨0,⟨#[]⟩,0,0,0⟩,none,bs,λlo=>lo,λlo=>gP O3 Pw hB (hn rfl) rfl lo,rfl,Hngs.flat (ds:=Svc.c ⟨0,⟨#[]⟩,0,0,0⟩) (by simp [Svc.c]),hS,hR,Old.refl _ _,λlo=>bo _,λ_=>⟨rfl,rfl,λ_=>rfl⟩,λh=>absurd rfl h⟩
 | some b =>
  have hc:=hc (by simp);exact ⟨.agg (svL x1 x2 x3 x4 x5),_,⟨x1,x2,x3,x4,x5⟩,st5,(bs5.set bs2.length (.cells (svL x1 x2 x3 x4 x5))).set bs.length (.cells (svL x1 x2 x3 x4 x5)),λlo=>min lo c',λlo=>fG O3 Pw hB (by omega) lo,rfl,Hngs.flat (ds:=Svc.c ⟨x1,x2,x3,x4,x5⟩) (by simp [Svc.c]),hS,(r5.set' (by omega) _).set' (by omega) _,(d5.set' (by omega) _).set' (by omega) _,λlo=>Nat.min_le_left _ _,λh=>(by cases h),λ_ lo=>ch (Nat.min_le_right _ _) hc⟩
theorem U1 {p q:Nat}(bs:List Blk)(hq:aa bs q=some [.ptr p 0])(hqp:q≠p):Rds true E 43 [.ptr q 0] p BN Pod.c 0 (.agg (pdL 0 ⟨#[]⟩ ⟨#[]⟩ 0 0 0 0)) bs:=by
 intro st hR;have hp:=hR.lt;have hql:=aN hq;obtain ⟨x1,st1,bs1,F1,e1,s1,z1,r1,o1,l1,n1,a1⟩:=vS h404 (hR.lay [.cells (pdL 0 ⟨#[]⟩ ⟨#[]⟩ 0 0 0 0)]);have hl1:=o1.1;try simp only [ao,cj,ck] at hl1
 have mQ1:aa (bs++[Blk.cells (pdL 0 ⟨#[]⟩ ⟨#[]⟩ 0 0 0 0)]) q=some [.ptr p 0]:=ay hq;have mR1:aa (bs++[Blk.cells (pdL 0 ⟨#[]⟩ ⟨#[]⟩ 0 0 0 0)]) bs.length=some (pdL 0 ⟨#[]⟩ ⟨#[]⟩ 0 0 0 0):=by simp
 have gQ1:aa bs1 q=some [.ptr p 0]:=af o1 hqp mQ1;have gR1:aa bs1 bs.length=some (pdL 0 ⟨#[]⟩ ⟨#[]⟩ 0 0 0 0):=af o1 (by omega) mR1;have nN1:¬ bs1.length=bs.length:=by omega
 have nN2:¬ bs1.length=q:=by omega
 have nN3:¬ bs.length=bs1.length:=by omega
 have nN4:q<bs1.length:=by omega
 obtain ⟨x2,st2,bs2,F2,e2,s2,z2,r2,o2,l2,n2,a2⟩:=Ak h404 (r1.lay [.cells (pdL x1 ⟨#[]⟩ ⟨#[]⟩ 0 0 0 0)]) (most:=20) (by decide) (by decide);have hl2:=o2.1;try simp only [ao,cj,ck] at hl2
 have mQ2:aa (bs1++[Blk.cells (pdL x1 ⟨#[]⟩ ⟨#[]⟩ 0 0 0 0)]) q=some [.ptr p 0]:=ay gQ1;have mR2:aa (bs1++[Blk.cells (pdL x1 ⟨#[]⟩ ⟨#[]⟩ 0 0 0 0)]) bs.length=some (pdL 0 ⟨#[]⟩ ⟨#[]⟩ 0 0 0 0):=ay gR1;have mN2:aa (bs1++[Blk.cells (pdL x1 ⟨#[]⟩ ⟨#[]⟩ 0 0 0 0)]) bs1.length=some (pdL x1 ⟨#[]⟩ ⟨#[]⟩ 0 0 0 0):=by simp
 have gQ2:aa bs2 q=some [.ptr p 0]:=af o2 hqp mQ2;have gR2:aa bs2 bs.length=some (pdL 0 ⟨#[]⟩ ⟨#[]⟩ 0 0 0 0):=af o2 (by omega) mR2;have gN2:aa bs2 bs1.length=some (pdL x1 ⟨#[]⟩ ⟨#[]⟩ 0 0 0 0):=af o2 (by omega) mN2;obtain ⟨x3,st3,bs3,F3,e3,s3,z3,r3,o3,l3,n3,a3⟩:=Ak h404 r2 (most:=20) (by decide) (by decide);have hl3:=o3.1;try simp only [ao,cj,ck,List.length_set] at hl3
 have mQ3:=gQ2;have mR3:=gR2;have mN3:=gN2;have gQ3:aa bs3 q=some [.ptr p 0]:=af o3 hqp mQ3;have gR3:aa bs3 bs.length=some (pdL 0 ⟨#[]⟩ ⟨#[]⟩ 0 0 0 0):=af o3 (by omega) mR3;have gN3:aa bs3 bs1.length=some (pdL x1 ⟨#[]⟩ ⟨#[]⟩ 0 0 0 0):=af o3 (by omega) mN3;obtain ⟨x4,st4,bs4,F4,e4,sz4,b4,c4,r4,o4,l4,n4,a4⟩:=xR h404 (r3.set' (b:=bs1.length) (by omega) (.cells (pdL x1 x2 x3 0 0 0 0))) (most:=9) (by decide) (by decide);have s4:=sz4.1;have z4:=sz4.2;have hw4:wrap .i64 x4=x4:=wrap64 (by omega) (by omega);have hl4:=o4.1;try simp only [List.length_set] at hl4
 have mQ4:aa (bs3.set bs1.length (.cells (pdL x1 x2 x3 0 0 0 0))) q=some [.ptr p 0]:=by rw [ak,if_neg (by omega)]; exact gQ3
 have mR4:aa (bs3.set bs1.length (.cells (pdL x1 x2 x3 0 0 0 0))) bs.length=some (pdL 0 ⟨#[]⟩ ⟨#[]⟩ 0 0 0 0):=by rw [ak,if_neg (by omega)]; exact gR3
 have mN4:aa (bs3.set bs1.length (.cells (pdL x1 x2 x3 0 0 0 0))) bs1.length=some (pdL x1 x2 x3 0 0 0 0):=by rw [ak,if_pos rfl,if_pos (by omega)]
 have gQ4:aa bs4 q=some [.ptr p 0]:=af o4 hqp mQ4;have gR4:aa bs4 bs.length=some (pdL 0 ⟨#[]⟩ ⟨#[]⟩ 0 0 0 0):=af o4 (by omega) mR4;have gN4:aa bs4 bs1.length=some (pdL x1 x2 x3 0 0 0 0):=af o4 (by omega) mN4;obtain ⟨x5,st5,bs5,F5,e5,sz5,b5,c5,r5,o5,l5,n5,a5⟩:=xR h404 r4 (most:=4294967295) (by decide) (by decide);have s5:=sz5.1;have z5:=sz5.2;have hw5:wrap .u32 x5=x5:=by simp [wrap,IntKind.bits,IntKind.signed]; omega
 have hl5:=o5.1;try simp only [ao,cj,ck,List.length_set] at hl5
 have mQ5:=gQ4;have mR5:=gR4;have mN5:=gN4;have gQ5:aa bs5 q=some [.ptr p 0]:=af o5 hqp mQ5;have gR5:aa bs5 bs.length=some (pdL 0 ⟨#[]⟩ ⟨#[]⟩ 0 0 0 0):=af o5 (by omega) mR5;have gN5:aa bs5 bs1.length=some (pdL x1 x2 x3 0 0 0 0):=af o5 (by omega) mN5;obtain ⟨x6,st6,bs6,F6,e6,sz6,b6,c6,r6,o6,l6,n6,a6⟩:=xR h404 r5 (most:=65535) (by decide) (by decide);have s6:=sz6.1;have z6:=sz6.2;have hw6:wrap .i64 x6=x6:=wrap64 (by omega) (by omega);have hl6:=o6.1;try simp only [ao,cj,ck,List.length_set] at hl6
 have mQ6:=gQ5;have mR6:=gR5;have mN6:=gN5;have gQ6:aa bs6 q=some [.ptr p 0]:=af o6 hqp mQ6;have gR6:aa bs6 bs.length=some (pdL 0 ⟨#[]⟩ ⟨#[]⟩ 0 0 0 0):=af o6 (by omega) mR6;have gN6:aa bs6 bs1.length=some (pdL x1 x2 x3 0 0 0 0):=af o6 (by omega) mN6;obtain ⟨x7,st7,bs7,F7,e7,s7,z7,r7,o7,l7,n7,a7⟩:=vS h404 r6;have hl7:=o7.1;try simp only [ao,cj,ck,List.length_set] at hl7
 have mQ7:=gQ6;have mR7:=gR6;have mN7:=gN6;have gQ7:aa bs7 q=some [.ptr p 0]:=af o7 hqp mQ7;have gR7:aa bs7 bs.length=some (pdL 0 ⟨#[]⟩ ⟨#[]⟩ 0 0 0 0):=af o7 (by omega) mR7;have gN7:aa bs7 bs1.length=some (pdL x1 x2 x3 0 0 0 0):=af o7 (by omega) mN7;obtain ⟨t2,G2,h2,T2,g2,gn2,ga2⟩:=cz e2 (by first | omega | (simp only [ao,cj,ck]; omega)) o2 (st:=st1) (n2) a2 (K:=[q]) (λb hb=>by simp only [List.mem_singleton] at hb; subst hb; exact ⟨hqp,_,mQ2,by simp [dm,jc]⟩) (m:=bs3.length) (by first | omega | (simp only [ao,cj,ck]; omega));obtain ⟨t3,G3,h3,T3,g3,gn3,ga3⟩:=cz e3 (by first | omega | (simp only [ao,cj,ck,List.length_set]; omega)) o3 (st:=st2) (n3) a3 (K:=[q]) (λb hb=>by simp only [List.mem_singleton] at hb; subst hb; exact ⟨hqp,_,mQ3,by simp [dm,jc]⟩) (m:=bs3.length) (by first | omega | (simp only [ao,cj,ck,List.length_set]; omega));obtain ⟨t4,G4,h4,T4,g4,gn4,ga4⟩:=cz e4 (by first | omega | (simp only [List.length_set]; omega)) o4 (st:=st3) (λh=>⟨(n4 h).2.1,(n4 h).2.2⟩) a4 (K:=[q]) (λb hb=>by simp only [List.mem_singleton] at hb; subst hb; exact ⟨hqp,_,mQ4,by simp [dm,jc]⟩) (m:=bs7.length) (by first | omega | (simp only [List.length_set]; omega))
 obtain ⟨t5,G5,h5,T5,g5,gn5,ga5⟩:=cz e5 (by first | omega | (simp only [ao,cj,ck,List.length_set]; omega)) o5 (st:=st4) (λh=>⟨(n5 h).2.1,(n5 h).2.2⟩) a5 (K:=[q]) (λb hb=>by simp only [List.mem_singleton] at hb; subst hb; exact ⟨hqp,_,mQ5,by simp [dm,jc]⟩) (m:=bs7.length) (by first | omega | (simp only [ao,cj,ck,List.length_set]; omega));obtain ⟨t6,G6,h6,T6,g6,gn6,ga6⟩:=cz e6 (by first | omega | (simp only [ao,cj,ck,List.length_set]; omega)) o6 (st:=st5) (λh=>⟨(n6 h).2.1,(n6 h).2.2⟩) a6 (K:=[q]) (λb hb=>by simp only [List.mem_singleton] at hb; subst hb; exact ⟨hqp,_,mQ6,by simp [dm,jc]⟩) (m:=bs7.length) (by first | omega | (simp only [ao,cj,ck,List.length_set]; omega));obtain ⟨t7,G7,h7,T7,g7,gn7,ga7⟩:=cz e7 (by first | omega | (simp only [ao,cj,ck,List.length_set]; omega)) o7 (st:=st6) (n7) a7 (K:=[q]) (λb hb=>by simp only [List.mem_singleton] at hb; subst hb; exact ⟨hqp,_,mQ7,by simp [dm,jc]⟩) (m:=bs7.length) (by first | omega | (simp only [ao,cj,ck,List.length_set]; omega))
 have hB:∃ c',Bd E TRd aD Nz [.ptr q 0] ⟨bs,bs.length⟩=some (.agg (pdL x1 x2 x3 x4 x5 x6 x7),⟨(bs7.set bs1.length (.cells (pdL x1 x2 x3 x4 x5 x6 x7))).set bs.length (.cells (pdL x1 x2 x3 x4 x5 x6 x7)),c'⟩)/\(st≠none->c'<=p)/\(st=none->bs.length<=c'):=by
  have hm:bs.length<bs7.length:=by omega
  have hm2:bs1.length<bs7.length:=by omega
  have hN2:bs1.length<bs2.length:=by omega
  have hN3:bs1.length<bs3.length:=by omega
  have hN4:bs1.length<bs4.length:=by omega
  have hN5:bs1.length<bs5.length:=by omega
  have hN6:bs1.length<bs6.length:=by omega
  have hN7:bs1.length<bs7.length:=by omega
  refine ⟨_,by simp +decide [ae,Nz,aL,az,storeAt,put,sub,Hp.set,e1,h2,h3,mQ1,mQ2,mQ3,gN3,ak,hN3]; rw [if_pos (dI [q] (bs3.length) [0,0,1,0,0,1,0,0,2,0,0,2] (by rfl) (by simp [ClsOk,Cls,Quiet,Sto,T2,T3,nN2]))]; simp +decide [aL,storeAt,put,sub,Hp.set,h4,h5,h6,h7,hw4,hw5,hw6,mQ4,mQ5,mQ6,mQ7,gN7,ak,hm2]; rw [if_pos (dI [q] (bs7.length) [0,1,0,0,1,0,0,1,0,0,0,1,0,2,0,2,0,2,0,2] (by rfl) (by simp [ClsOk,Cls,Quiet,Sto,T4,T5,T6,T7,nN2]))]; simp +decide [storeAt,put,sub,Hp.set,gR7,ak,nN1,hm,hm2]; exact rfl,λhst=>?_,λhst=>?_⟩
  . repeat first | exact a1 hst bs.length | refine ch (Nat.min_le_left _ _) ?_ | refine ch (g2 _) ?_ | refine ch (g3 _) ?_ | refine ch (g4 _) ?_ | refine ch (g5 _) ?_ | refine ch (g6 _) ?_ | refine ch (g7 _) ?_
  . subst hst;have y1:st1=none:=s1;subst y1;have f1:=(n1 rfl).2;have y2:st2=none:=s2;subst y2;have f2:=gn2 rfl;have y3:st3=none:=s3;subst y3;have f3:=gn3 rfl;have y4:st4=none:=s4;subst y4;have f4:=gn4 rfl;have y5:st5=none:=s5;subst y5;have f5:=gn5 rfl;have y6:st6=none:=s6;subst y6;have f6:=gn6 rfl;have y7:st7=none:=s7;subst y7;have f7:=gn7 rfl;simp only [f1,f2,f3,f4,f5,f6,f7];omega
 obtain ⟨c',hB,hc,hn⟩:=hB;have hS:Step BN st ⟨x1,x2,x3,x4,x5,x6,x7⟩ st7:=Step.map (λx:Int×ByteArray×ByteArray×Int×Int×Int×Int=>(⟨x.1,x.2.1,x.2.2.1,x.2.2.2.1,x.2.2.2.2.1,x.2.2.2.2.2.1,x.2.2.2.2.2.2⟩:Pod)) (s1.seq (s2.seq (s3.seq (s4.seq (s5.seq (s6.seq s7))))));have d1:Old p bs bs1:=(Old.lay bs _).trans o1;have d2:Old p bs bs2:=(d1.trans (Old.lay bs1 _)).trans o2;have d3:Old p bs bs3:=d2.trans o3;have d4:Old p bs bs4:=(d3.set' (by omega) _).trans o4;have d5:Old p bs bs5:=d4.trans o5;have d6:Old p bs bs6:=d5.trans o6;have d7:Old p bs bs7:=d6.trans o7;cases st with
 | none =>
  have y1:st1=none:=s1;subst y1;have v1:=z1 rfl;subst v1;have y2:st2=none:=s2;subst y2;have v2:=z2 rfl;subst v2;have y3:st3=none:=s3;subst y3;have v3:=z3 rfl;subst v3;have y4:st4=none:=s4;subst y4;have v4:=z4 rfl;subst v4;have y5:st5=none:=s5;subst y5;have v5:=z5 rfl;subst v5;have y6:st6=none:=s6;subst y6;have v6:=z6 rfl;subst v6;have y7:st7=none:=s7;subst y7;have v7:=z7 rfl;subst v7;exact ⟨.agg (pdL 0 ⟨#[]⟩ ⟨#[]⟩ 0 0 0 0),_,⟨0,⟨#[]⟩,⟨#[]⟩,0,0,0,0⟩,none,bs,λlo=>lo,λlo=>gP O1 Pv hB (hn rfl) rfl lo,rfl,Hngs.flat (ds:=Pod.c ⟨0,⟨#[]⟩,⟨#[]⟩,0,0,0,0⟩) (by simp [Pod.c]),hS,hR,Old.refl _ _,λlo=>bo _,λ_=>⟨rfl,rfl,λ_=>rfl⟩,λh=>absurd rfl h⟩
 | some b =>
  have hc:=hc (by simp);exact ⟨.agg (pdL x1 x2 x3 x4 x5 x6 x7),_,⟨x1,x2,x3,x4,x5,x6,x7⟩,st7,(bs7.set bs1.length (.cells (pdL x1 x2 x3 x4 x5 x6 x7))).set bs.length (.cells (pdL x1 x2 x3 x4 x5 x6 x7)),λlo=>min lo c',λlo=>fG O1 Pv hB (by omega) lo,rfl,Hngs.flat (ds:=Pod.c ⟨x1,x2,x3,x4,x5,x6,x7⟩) (by simp [Pod.c]),hS,(r7.set' (by omega) _).set' (by omega) _,(d7.set' (by omega) _).set' (by omega) _,λlo=>Nat.min_le_left _ _,λh=>(by cases h),λ_ lo=>ch (Nat.min_le_right _ _) hc⟩
theorem U3 {p q:Nat}(bs:List Blk)(hq:aa bs q=some [.ptr p 0])(hqp:q≠p):RdsR true E 42 [.agg [.ptr p 0],.d (i64 16),.fn 43 [.ptr q 0]] p (pSl 16 BN) Pod.c 1 bs :=
 zk h404 (XQ:TRd 42=some (listQ 41 7 72 [(.d (u64 0)),(.d (.str ⟨#[]⟩)),(.d (.str ⟨#[]⟩)),(.d (i64 0)),(.d (u32 0)),(.d (i64 0)),(.d (u64 0))])) Yf (by decide) (by decide) rfl (λ_=>rfl) (g:=43) (args:=[.ptr q 0]) (λ_ _=>rfl) rfl rfl (by decide) (by decide) λbs' ho=>(U1 h404 bs' (af ho hqp hq) hqp).weak
theorem U4 {p q:Nat}(bs:List Blk)(hq:aa bs q=some [.ptr p 0])(hqp:q≠p):RdsR true E 45 [.agg [.ptr p 0],.d (i64 6),.fn 46 [.ptr q 0]] p (pSl 6 BO) Svc.c 1 bs :=
 zk h404 (XT:TRd 45=some (listQ 41 5 48 [(.d (u64 0)),(.d (.str ⟨#[]⟩)),(.d (u32 0)),(.d (i64 0)),(.d (u64 0))])) Yh (by decide) (by decide) rfl (λ_=>rfl) (g:=46) (args:=[.ptr q 0]) (λ_ _=>rfl) rfl rfl (by decide) (by decide) λbs' ho=>(ae7 h404 bs' (af ho hqp hq) hqp).weak
theorem U5 {p q:Nat}(bs:List Blk)(hq:aa bs q=some [.ptr p 0])(hqp:q≠p):RdsR true E 47 [.agg [.ptr p 0],.d (i64 4),.fn 48 [.ptr q 0]] p (pSl 4 BP) Way.c 1 bs :=
 zk h404 (XU:TRd 47=some (listQ 41 2 16 [(.d (u64 0)),(.d (i64 0))])) Yi (by decide) (by decide) rfl (λ_=>rfl) (g:=48) (args:=[.ptr q 0]) (λ_ _=>rfl) rfl rfl (by decide) (by decide) λbs' ho=>(ae8 h404 bs' (af ho hqp hq) hqp).weak
end
end
section
theorem yQ {bs:List Blk}{B:Nat}{l:List Int}(h:aa bs B=some (l.map (iv .u8)))(lo:Nat):frz ⟨bs,lo⟩ (.row B 0 l.length none 1)=some (.d (Sl.d u8C ⟨false,l⟩)):=by
 have hm:(l.map (iv .u8)).mapM (dataV ⟨bs,lo⟩ 7)=some (l.map λn=>D.int .u8 n):=by
  have:=fM ⟨bs,lo⟩ 7 (l.map λn=>D.int .u8 n);rw [List.map_map] at this;exact this
 have hs:sub (l.map (iv .u8)) 0 l.length=some (l.map (iv .u8)):=bB (by simp);have hd:dataV ⟨bs,lo⟩ 8 (.row B 0 l.length none 1)=some (.slice false (l.map u8C)):=by
  simp only [dataV,get_eq,h,Nat.mul_one,hs,hm];rw [← Ah];have:=iT (z:=1) (l.map u8C) (λe he=>by obtain ⟨n,_,rfl⟩:=cd.1 he; rfl);rw [cc] at this;rw [this]
 simp [frz,dh,hd,Sl.d]
theorem wW (s:ByteArray):(s.toList.map λb=>V.d (.int .u8 b.toNat))=(dA s).map (iv .u8):=by
 simp [dA,iv,Function.comp]
theorem H6 {most:Int}(h0:0<=most){p:Nat}{bs:List Blk}{st st1:Option (List Int)}{s:ByteArray}(hR:RdS p bs st)(h:Step (gN most) st s st1)(hz:st1=none->s=⟨#[]⟩):(s.size:Int)<=most:=by
 have e0:((⟨#[]⟩:ByteArray).size:Int)<=most:=by show (0:Int)<=most; exact h0
 cases st with
 | none=>rw [hz h]; exact e0
 | some b =>
  obtain ⟨v,m,g1,g2,g3,g4,g5⟩:=hR;have:=g5 b rfl;subst this;obtain ⟨l,h1,h2⟩ | ⟨h1,h2⟩:=h.of
  . exact ((gU most).bwd b s l g3 h1).2.1
  . rw [hz h2]; exact e0
theorem Ba:lh (dA ⟨#[]⟩)=none:=by
 have:dA ⟨#[]⟩=[]:=List.eq_nil_of_length_eq_zero (kQ _);rw [this];rfl
theorem Fb {s:ByteArray}{h:Hp}(hs:s.size<=2 ^ 40):uV (.d (.str s)) h=some (.row h.bs.length 0 s.size none 1,h.alloc (s.toList.map λb=>.d (.int .u8 b.toNat))):=by
 simp only [uV,if_pos hs]; rfl
section
variable {E:Calls'}(h404:∀ x h,E 163 [.d (u64 x)] h=some (.d (i64 (dE x)),h))(h378:∀ p:Pol,p.wf big->∀ (h:Hp) (v:V),frz h v=some (ag p.c)->E 104 [v] h=some (bl (bz p),h))
include h404 h378
theorem ae9 {p q:Nat}(bs:List Blk)(hq:aa bs q=some [.ptr p 0])(hqp:q≠p):FB false E 50 [.ptr q 0] p (iP 8192) Pol.c 0 bs:=by
 intro st hR;have hp:=hR.lt;have hql:=aN hq;obtain ⟨s,st1,bs1,F1,e1,s1,z1,r1,o1,l1,n1,a1⟩:=Ak h404 (hR.lay [.cells (plL 0 ⟨#[]⟩ 0 0 nV)]) (most:=8192) (by decide) (by decide);have hl1:=o1.1;simp only [ao,cj,ck] at hl1;have gQ1:aa bs1 q=some [.ptr p 0]:=af o1 hqp (ay hq);have gR1:aa bs1 bs.length=some (plL 0 ⟨#[]⟩ 0 0 nV):=af o1 (by omega) (by simp);have hs:=H6 (by decide) hR s1 z1;have hs40:s.size<=2 ^ 40:=by omega
 have hcell:=wW s;have hnl:=kQ s;have hv:∀ ys lo,frz ⟨bs1++.cells ((dA s).map (iv .u8))::ys,lo⟩ (.row bs1.length 0 s.size none 1)=some (.d (Sl.d u8C ⟨false,dA s⟩)):=λys lo=>by
  rw [← hnl]; exact yQ (by simp) lo
 have k236:=λlo=>ai5 h404 h378 (nl:=false) (lv s) (by rw [hnl]; exact ch (show s.size<=8192 by omega) (by decide)) (hv [] lo);have n1':¬ bs1.length=bs.length:=by omega
 have n2':¬ bs1.length+1=bs.length:=by omega
 have hlt:bs.length<bs1.length:=by omega
 have hlt2:bs.length<bs1.length+1+1:=by omega
 cases hd:lh (dA s) with
 | none =>
  rw [hd] at k236;obtain ⟨bs2,q1,q2,q3⟩:=Le (E:=E) (r1.lay [.cells ((dA s).map (iv .u8)),.cells (plL 0 ⟨#[]⟩ 0 0 nV)]);have hl2:=q3.1;simp only [ao,cj,ck] at hl2;have gT2:aa bs2 (bs1.length+1)=some (plL 0 ⟨#[]⟩ 0 0 nV):=af q3 (by omega) (by simp);have gR2:aa bs2 bs.length=some (plL 0 ⟨#[]⟩ 0 0 nV):=af q3 (by omega) (ay gR1);have hB:∃ c',Bd E TRd aD GR [.ptr q 0] ⟨bs,bs.length⟩=some (.agg (plL 0 ⟨#[]⟩ 0 0 nV),⟨bs2.set bs.length (.cells (plL 0 ⟨#[]⟩ 0 0 nV)),c'⟩)/\c'<bs.length:=by
   refine ⟨min (min (min (F1 bs.length) (bs1.length+1)) p) bs.length,?_,by omega⟩;simp +decide [ae,GR,e1,ay hq,mM,Fb hs40,hcell,k236,Pol.c,Sl.d,storeAt,put,sub,Hp.set,λys=>ay (ys:=ys) gQ1,q1,gT2,gR2,ak,show bs.length<bs2.length from by omega]
  obtain ⟨c',hB,hc⟩:=hB;have hst:Step (iP 8192) st (⟨0,⟨#[]⟩,0,0,⟨true,[]⟩⟩:Pol) none:=by
   cases st with
   | none=>exact rfl
   | some b =>
    obtain ⟨l,h1,h2⟩ | ⟨h1,h2⟩:=s1.of
    . exact Step.fails (by simp only [iP,h1,hd])
    . exact Step.fails (by simp only [iP,h1])
  exact ⟨.agg (plL 0 ⟨#[]⟩ 0 0 nV),_,⟨0,⟨#[]⟩,0,0,⟨true,[]⟩⟩,none,bs2.set bs.length (.cells (plL 0 ⟨#[]⟩ 0 0 nV)),λlo=>min lo c',λlo=>fG O5 Py hB hc lo,rfl,Hngs.data (ds:=Pol.c ⟨0,⟨#[]⟩,0,0,⟨true,[]⟩⟩),hst,q2.set' (by omega) _,(((Old.lay bs _).trans o1).trans ((Old.lay bs1 _).trans q3)).set' (bo _) _,λlo=>Nat.min_le_left _ _⟩
 | some pol =>
  rw [hd] at k236;have hne:st1≠none:=λh=>by rw [z1 h,Ba] at hd; cases hd
  have hst0:st≠none:=λh=>by subst h; exact hne s1
  have a1:=a1 hst0 bs.length;generalize hPc:pol.c.map V.d=Pc at *;have hPl:Pc.length=5:=by rw [← hPc]; rfl
  have hag:(ag pol.c:V)=.agg Pc:=by rw [← hPc]; rfl
  have hput:put (plL 0 ⟨#[]⟩ 0 0 nV) 0 Pc=some Pc:=by simp [put,hPl]
  have hsub:sub Pc 0 5=some Pc:=bB hPl;simp only [hag] at k236;have hB:∃ c',Bd E TRd aD GR [.ptr q 0] ⟨bs,bs.length⟩=some (.agg Pc,⟨(bs1++[Blk.cells ((dA s).map (iv .u8)),Blk.cells Pc]).set bs.length (.cells Pc),c'⟩)/\c'<bs.length:=by
   refine ⟨min (min (F1 bs.length) (bs1.length+1)) bs.length,?_,by omega⟩;have hg:∀ ys,aa (bs1.set bs.length (.cells Pc)++ys) bs.length=some Pc:=λys=>ay (by rw [ak,if_pos rfl,if_pos hlt]);simp +decide [ae,GR,e1,ay hq,mM,Fb hs40,hcell,k236,hput,hsub,hPl,stv,V.cells,storeAt,Hp.set,λys=>ay (ys:=ys) gR1,hg,hlt]
  obtain ⟨c',hB,hc⟩:=hB;have hst:Step (iP 8192) st pol st1:=by
   cases st with
   | none=>exact absurd rfl hst0
   | some b =>
    obtain ⟨l,h1,h2⟩ | ⟨h1,h2⟩:=s1.of
    . rw [h2];exact Step.ok (by simp only [iP,h1,hd])
    . exact absurd h2 hne
  exact ⟨.agg Pc,Pc,pol,st1,_,λlo=>min lo c',λlo=>fG O5 Py hB hc lo,rfl,by rw [← hPc]; exact Hngs.data,hst,(r1.lay _).set' (by omega) _,(((Old.lay bs _).trans o1).trans (Old.lay bs1 _)).set' (bo _) _,λlo=>Nat.min_le_left _ _⟩
theorem U6 {p q:Nat}(bs:List Blk)(hq:aa bs q=some [.ptr p 0])(hqp:q≠p):RdsR false E 49 [.agg [.ptr p 0],.d (i64 12),.fn 50 [.ptr q 0]] p (pSl 12 (iP 8192)) Pol.c 1 bs :=
 zk h404 (XV:TRd 49=some (listQ 41 5 64 [(.d (u64 0)),(.d (.str ⟨#[]⟩)),(.d (u64 0)),(.d (i64 0)),(nV)])) Yj (by decide) (by decide) rfl (λ_=>rfl) (g:=50) (args:=[.ptr q 0]) (λ_ _=>rfl) rfl rfl (by decide) (by decide) λbs' ho=>ae9 h404 h378 bs' (af ho hqp hq) hqp
theorem F94 (h91:∀ c:Cfg,c.wf 1048576->c.wf big->∀ (h:Hp) (v:V),frz h v=some (ag c.c)->E 9 [v] h=some (bl (bL c),h)){nl:Bool}{l:List Int}(hb:byteL l)(hl:l.length<=big) :
 match lM l with
 | some c=>∃ cs h' K,Bd E TRd aD r94 [.d (Sl.d u8C ⟨nl,l⟩)] ⟨[],0⟩=some (.tup [.agg cs,.d (i64 0)],h')/\Hngs false K h'.bs 1 cs c.c
 | none=>∃ h',Bd E TRd aD r94 [.d (Sl.d u8C ⟨nl,l⟩)] ⟨[],0⟩=some (.tup [.agg (cfL 0 0 0 0 nV nV nV nV),.d (i64 2)],h'):=by
 obtain ⟨p,M,F0,e0,r0,hp0,hM,hold⟩:=OB (E:=E) (nl:=nl) hb hl [.cells (cfL 0 0 0 0 nV nV nV nV)];simp only [cj,ck] at hp0 hM hold;have hpM:=r0.lt;have g0:aa M 0=some (cfL 0 0 0 0 nV nV nV nV):=by unfold aa; rw [hold 0 (by omega)]; rfl
 have hqp:M.length≠p:=by omega
 obtain ⟨x1,st1,bs1,F1,e1,s1,z1,r1,o1,l1,n1,a1⟩:=vS h404 (r0.lay [.cells [.ptr p 0],.cells (cfL 0 0 0 0 nV nV nV nV)]);have hl1:=o1.1;try simp only [ao,cj,ck] at hl1
 have mQ1:aa (M++[Blk.cells [.ptr p 0],Blk.cells (cfL 0 0 0 0 nV nV nV nV)]) M.length=some [.ptr p 0]:=by simp
 have gQ1:aa bs1 M.length=some [.ptr p 0]:=af o1 hqp mQ1;have gR1:aa bs1 0=some (cfL 0 0 0 0 nV nV nV nV):=af o1 (by omega) (ay g0);have gN1:aa bs1 (M.length+1)=some (cfL 0 0 0 0 nV nV nV nV):=af o1 (by omega) (by simp);obtain ⟨x2,st2,bs2,F2,e2,s2,z2,r2,o2,l2,n2,a2⟩:=vS h404 r1;have hl2:=o2.1;try simp only [ao,cj,ck,List.length_set] at hl2
 have gQ2:aa bs2 M.length=some [.ptr p 0]:=af o2 hqp gQ1;have gR2:aa bs2 0=some (cfL 0 0 0 0 nV nV nV nV):=af o2 (by omega) gR1;have gN2:aa bs2 (M.length+1)=some (cfL 0 0 0 0 nV nV nV nV):=af o2 (by omega) gN1;obtain ⟨x3,st3,bs3,F3,e3,sz3,b3,c3,r3,o3,l3,n3,a3⟩:=xR h404 (r2.set' (b:=M.length+1) (by omega) (.cells (cfL x1 x2 0 0 nV nV nV nV))) (most:=4) (by decide) (by decide);have hl3:=o3.1;try simp only [List.length_set] at hl3
 have mQ3:aa (bs2.set (M.length+1) (.cells (cfL x1 x2 0 0 nV nV nV nV))) M.length=some [.ptr p 0]:=by rw [ak,if_neg (by omega)]; exact gQ2
 have mR3:aa (bs2.set (M.length+1) (.cells (cfL x1 x2 0 0 nV nV nV nV))) 0=some (cfL 0 0 0 0 nV nV nV nV):=by rw [ak,if_neg (by omega)]; exact gR2
 have mN3:aa (bs2.set (M.length+1) (.cells (cfL x1 x2 0 0 nV nV nV nV))) (M.length+1)=some (cfL x1 x2 0 0 nV nV nV nV):=by rw [ak,if_pos rfl,if_pos (by omega)]
 have gQ3:aa bs3 M.length=some [.ptr p 0]:=af o3 hqp mQ3;have gR3:aa bs3 0=some (cfL 0 0 0 0 nV nV nV nV):=af o3 (by omega) mR3;have gN3:aa bs3 (M.length+1)=some (cfL x1 x2 0 0 nV nV nV nV):=af o3 (by omega) mN3;obtain ⟨x4,st4,bs4,F4,e4,sz4,b4,c4,r4,o4,l4,n4,a4⟩:=xR h404 r3 (most:=4) (by decide) (by decide);have hl4:=o4.1;try simp only [ao,cj,ck,List.length_set] at hl4
 have mQ4:=gQ3;have mR4:=gR3;have mN4:=gN3;have gQ4:aa bs4 M.length=some [.ptr p 0]:=af o4 hqp mQ4;have gR4:aa bs4 0=some (cfL 0 0 0 0 nV nV nV nV):=af o4 (by omega) mR4;have gN4:aa bs4 (M.length+1)=some (cfL x1 x2 0 0 nV nV nV nV):=af o4 (by omega) mN4;have mQ5:aa (bs4.set (M.length+1) (.cells (cfL x1 x2 x3 x4 nV nV nV nV))) M.length=some [.ptr p 0]:=by rw [ak,if_neg (by omega)]; exact gQ4
 obtain ⟨v5,x5,st5,bs5,F5,e5,vc5,hg5,s5,r5,o5,l5,a5⟩:=U3 h404 _ mQ5 hqp _ (r4.set' (b:=M.length+1) (by omega) (.cells (cfL x1 x2 x3 x4 nV nV nV nV)));have hl5:=o5.1;try simp only [List.length_set] at hl5
 have mR5:aa (bs4.set (M.length+1) (.cells (cfL x1 x2 x3 x4 nV nV nV nV))) 0=some (cfL 0 0 0 0 nV nV nV nV):=by rw [ak,if_neg (by omega)]; exact gR4
 have mN5:aa (bs4.set (M.length+1) (.cells (cfL x1 x2 x3 x4 nV nV nV nV))) (M.length+1)=some (cfL x1 x2 x3 x4 nV nV nV nV):=by rw [ak,if_pos rfl,if_pos (by omega)]
 have gQ5:aa bs5 M.length=some [.ptr p 0]:=af o5 hqp mQ5;have gR5:aa bs5 0=some (cfL 0 0 0 0 nV nV nV nV):=af o5 (by omega) mR5;have gN5:aa bs5 (M.length+1)=some (cfL x1 x2 x3 x4 nV nV nV nV):=af o5 (by omega) mN5;have mQ6:aa (bs5.set (M.length+1) (.cells (cfL x1 x2 x3 x4 v5 nV nV nV))) M.length=some [.ptr p 0]:=by rw [ak,if_neg (by omega)]; exact gQ5
 obtain ⟨v6,x6,st6,bs6,F6,e6,vc6,hg6,s6,r6,o6,l6,a6⟩:=U4 h404 _ mQ6 hqp _ (r5.set' (b:=M.length+1) (by omega) (.cells (cfL x1 x2 x3 x4 v5 nV nV nV)));have hl6:=o6.1;try simp only [List.length_set] at hl6
 have mR6:aa (bs5.set (M.length+1) (.cells (cfL x1 x2 x3 x4 v5 nV nV nV))) 0=some (cfL 0 0 0 0 nV nV nV nV):=by rw [ak,if_neg (by omega)]; exact gR5
 have mN6:aa (bs5.set (M.length+1) (.cells (cfL x1 x2 x3 x4 v5 nV nV nV))) (M.length+1)=some (cfL x1 x2 x3 x4 v5 nV nV nV):=by rw [ak,if_pos rfl,if_pos (by omega)]
 have gQ6:aa bs6 M.length=some [.ptr p 0]:=af o6 hqp mQ6;have gR6:aa bs6 0=some (cfL 0 0 0 0 nV nV nV nV):=af o6 (by omega) mR6;have gN6:aa bs6 (M.length+1)=some (cfL x1 x2 x3 x4 v5 nV nV nV):=af o6 (by omega) mN6;have mQ7:aa (bs6.set (M.length+1) (.cells (cfL x1 x2 x3 x4 v5 v6 nV nV))) M.length=some [.ptr p 0]:=by rw [ak,if_neg (by omega)]; exact gQ6
 obtain ⟨v7,x7,st7,bs7,F7,e7,vc7,hg7,s7,r7,o7,l7,a7⟩:=U5 h404 _ mQ7 hqp _ (r6.set' (b:=M.length+1) (by omega) (.cells (cfL x1 x2 x3 x4 v5 v6 nV nV)));have hl7:=o7.1;try simp only [List.length_set] at hl7
 have mR7:aa (bs6.set (M.length+1) (.cells (cfL x1 x2 x3 x4 v5 v6 nV nV))) 0=some (cfL 0 0 0 0 nV nV nV nV):=by rw [ak,if_neg (by omega)]; exact gR6
 have mN7:aa (bs6.set (M.length+1) (.cells (cfL x1 x2 x3 x4 v5 v6 nV nV))) (M.length+1)=some (cfL x1 x2 x3 x4 v5 v6 nV nV):=by rw [ak,if_pos rfl,if_pos (by omega)]
 have gQ7:aa bs7 M.length=some [.ptr p 0]:=af o7 hqp mQ7;have gR7:aa bs7 0=some (cfL 0 0 0 0 nV nV nV nV):=af o7 (by omega) mR7;have gN7:aa bs7 (M.length+1)=some (cfL x1 x2 x3 x4 v5 v6 nV nV):=af o7 (by omega) mN7;have mQ8:aa (bs7.set (M.length+1) (.cells (cfL x1 x2 x3 x4 v5 v6 v7 nV))) M.length=some [.ptr p 0]:=by rw [ak,if_neg (by omega)]; exact gQ7
 obtain ⟨v8,x8,st8,bs8,F8,e8,vc8,hg8,s8,r8,o8,l8,a8⟩:=U6 h404 h378 _ mQ8 hqp _ (r7.set' (b:=M.length+1) (by omega) (.cells (cfL x1 x2 x3 x4 v5 v6 v7 nV)));have hl8:=o8.1;try simp only [List.length_set] at hl8
 have mR8:aa (bs7.set (M.length+1) (.cells (cfL x1 x2 x3 x4 v5 v6 v7 nV))) 0=some (cfL 0 0 0 0 nV nV nV nV):=by rw [ak,if_neg (by omega)]; exact gR7
 have mN8:aa (bs7.set (M.length+1) (.cells (cfL x1 x2 x3 x4 v5 v6 v7 nV))) (M.length+1)=some (cfL x1 x2 x3 x4 v5 v6 v7 nV):=by rw [ak,if_pos rfl,if_pos (by omega)]
 have gQ8:aa bs8 M.length=some [.ptr p 0]:=af o8 hqp mQ8;have gR8:aa bs8 0=some (cfL 0 0 0 0 nV nV nV nV):=af o8 (by omega) mR8;have gN8:aa bs8 (M.length+1)=some (cfL x1 x2 x3 x4 v5 v6 v7 nV):=af o8 (by omega) mN8;obtain ⟨bs9,F9,e9,o9,l9⟩:=Ue (E:=E) (r8.set' (b:=M.length+1) (by omega) (.cells (cfL x1 x2 x3 x4 v5 v6 v7 v8)));have hl9:=o9.1;try simp only [List.length_set] at hl9
 have mQ9:aa (bs8.set (M.length+1) (.cells (cfL x1 x2 x3 x4 v5 v6 v7 v8))) M.length=some [.ptr p 0]:=by rw [ak,if_neg (by omega)]; exact gQ8
 have mR9:aa (bs8.set (M.length+1) (.cells (cfL x1 x2 x3 x4 v5 v6 v7 v8))) 0=some (cfL 0 0 0 0 nV nV nV nV):=by rw [ak,if_neg (by omega)]; exact gR8
 have mN9:aa (bs8.set (M.length+1) (.cells (cfL x1 x2 x3 x4 v5 v6 v7 v8))) (M.length+1)=some (cfL x1 x2 x3 x4 v5 v6 v7 v8):=by rw [ak,if_pos rfl,if_pos (by omega)]
 have gQ9:aa bs9 M.length=some [.ptr p 0]:=af o9 hqp mQ9;have gR9:aa bs9 0=some (cfL 0 0 0 0 nV nV nV nV):=af o9 (by omega) mR9;have gN9:aa bs9 (M.length+1)=some (cfL x1 x2 x3 x4 v5 v6 v7 v8):=af o9 (by omega) mN9;have hw3:wrap .i64 x3=x3:=wrap64 (by omega) (by omega);have hw4:wrap .i64 x4=x4:=wrap64 (by omega) (by omega);have hS:Step Gy (some l) ⟨x1,x2,x3,x4,x5,x6,x7,x8⟩ st8:=Step.map (λx:Int×Int×Int×Int×Sl Pod×Sl Svc×Sl Way×Sl Pol=>(⟨x.1,x.2.1,x.2.2.1,x.2.2.2.1,x.2.2.2.2.1,x.2.2.2.2.2.1,x.2.2.2.2.2.2.1,x.2.2.2.2.2.2.2⟩:Cfg)) (s1.seq (s2.seq (sz3.1.seq (sz4.1.seq (s5.seq (s6.seq (s7.seq s8)))))));have w8:∀ x,x≠p->x≠(M.length+1)->x<bs8.length->bs9[x]?=bs8[x]?:=λx y1 y2 h=>by rw [o9.2 x y1 (by simp; omega),ac (Ne.symm y2)]
 have w7:∀ x,x≠p->x≠(M.length+1)->x<bs7.length->bs9[x]?=bs7[x]?:=λx y1 y2 h=>by rw [w8 x y1 y2 (by omega),o8.2 x y1 (by simp; omega),ac (Ne.symm y2)]
 have w6:∀ x,x≠p->x≠(M.length+1)->x<bs6.length->bs9[x]?=bs6[x]?:=λx y1 y2 h=>by rw [w7 x y1 y2 (by omega),o7.2 x y1 (by simp; omega),ac (Ne.symm y2)]
 have w5:∀ x,x≠p->x≠(M.length+1)->x<bs5.length->bs9[x]?=bs5[x]?:=λx y1 y2 h=>by rw [w6 x y1 y2 (by omega),o6.2 x y1 (by simp; omega),ac (Ne.symm y2)]
 let K:Nat->Prop:=λx=>bs4.length<=x
 have hh5:Hng false (λx=>bs4.length<=x) bs9 v5 (Sl.d Pod.c x5) 1:=(hg5.weak).on (λx hx=>by
  have h1:=hx.1;simp only [List.length_set] at h1;exact w5 x (by omega) (by omega) hx.2) λx hx=>by
  have h1:=hx.1;simp only [List.length_set] at h1;show bs4.length<=x;omega
 have hh6:Hng false (λx=>bs4.length<=x) bs9 v6 (Sl.d Svc.c x6) 1:=(hg6.weak).on (λx hx=>by
  have h1:=hx.1;simp only [List.length_set] at h1;exact w6 x (by omega) (by omega) hx.2) λx hx=>by
  have h1:=hx.1;simp only [List.length_set] at h1;show bs4.length<=x;omega
 have hh7:Hng false (λx=>bs4.length<=x) bs9 v7 (Sl.d Way.c x7) 1:=(hg7.weak).on (λx hx=>by
  have h1:=hx.1;simp only [List.length_set] at h1;exact w7 x (by omega) (by omega) hx.2) λx hx=>by
  have h1:=hx.1;simp only [List.length_set] at h1;show bs4.length<=x;omega
 have hh8:Hng false (λx=>bs4.length<=x) bs9 v8 (Sl.d Pol.c x8) 1:=(hg8).on (λx hx=>by
  have h1:=hx.1;simp only [List.length_set] at h1;exact w8 x (by omega) (by omega) hx.2) λx hx=>by
  have h1:=hx.1;simp only [List.length_set] at h1;show bs4.length<=x;omega
 have hcs:Hngs false (λx=>bs4.length<=x) bs9 1 (cfL x1 x2 x3 x4 v5 v6 v7 v8) (Cfg.c ⟨x1,x2,x3,x4,x5,x6,x7,x8⟩):=⟨Hng.data,Hng.data,Hng.data,Hng.data,hh5,hh6,hh7,hh8,trivial⟩;have hfrz:∀ lo,frz ⟨bs9,lo⟩ (.agg (cfL x1 x2 x3 x4 v5 v6 v7 v8))=some (ag (Cfg.c ⟨x1,x2,x3,x4,x5,x6,x7,x8⟩)):=λlo=>by
  have:=(Hngs.mapM (lo:=lo) (λ_ _=>rfl) (show 1<=8 by decide) hcs).1;simp only [frz,dh,cK,this];rfl
 have hK1:∀ b∈[M.length],b≠p/\∃ cs,aa (M++[Blk.cells [.ptr p 0],Blk.cells (cfL 0 0 0 0 nV nV nV nV)]) b=some cs/\dm cs cs=true:=λb hb=>by simp only [List.mem_singleton] at hb; subst hb; exact ⟨hqp,_,mQ1,by simp [dm,jc]⟩
 have hK2:∀ b∈[M.length],b≠p/\∃ cs,aa bs1 b=some cs/\dm cs cs=true:=λb hb=>by simp only [List.mem_singleton] at hb; subst hb; exact ⟨hqp,_,gQ1,by simp [dm,jc]⟩
 have hK3:∀ b∈[M.length],b≠p/\∃ cs,aa (bs2.set (M.length+1) (.cells (cfL x1 x2 0 0 nV nV nV nV))) b=some cs/\dm cs cs=true:=λb hb=>by simp only [List.mem_singleton] at hb; subst hb; exact ⟨hqp,_,mQ3,by simp [dm,jc]⟩
 have hK4:∀ b∈[M.length],b≠p/\∃ cs,aa bs3 b=some cs/\dm cs cs=true:=λb hb=>by simp only [List.mem_singleton] at hb; subst hb; exact ⟨hqp,_,gQ3,by simp [dm,jc]⟩
 obtain ⟨t1,G1,h1,T1,_⟩:=cz e1 (by simp only [ao,cj,ck]; omega) o1 (st:=some l) n1 a1 hK1 (m:=bs2.length) (by simp only [ao,cj,ck]; omega);obtain ⟨t2,G2,h2,T2,_⟩:=cz e2 (by omega) o2 (st:=st1) n2 a2 hK2 (m:=bs2.length) (by omega);obtain ⟨t3,G3,h3,T3,_⟩:=cz e3 (by simp only [List.length_set]; omega) o3 (st:=st2) (λh=>⟨(n3 h).2.1,(n3 h).2.2⟩) a3 hK3 (m:=bs4.length) (by simp only [List.length_set]; omega);obtain ⟨t4,G4,h4,T4,_⟩:=cz e4 (by omega) o4 (st:=st3) (λh=>⟨(n4 h).2.1,(n4 h).2.2⟩) a4 hK4 (m:=bs4.length) (by omega);have q1:¬ (M.length+1)=0:=by omega
 have q2:¬ M.length=0:=by omega
 have q3:¬ (M.length+1)=M.length:=by omega
 have q4:¬ M.length=(M.length+1):=by omega
 have m1:(M.length+1)<bs1.length:=by omega
 have m2:(M.length+1)<bs2.length:=by omega
 have m3:(M.length+1)<bs3.length:=by omega
 have m4:(M.length+1)<bs4.length:=by omega
 have m5:(M.length+1)<bs5.length:=by omega
 have m6:(M.length+1)<bs6.length:=by omega
 have m7:(M.length+1)<bs7.length:=by omega
 have m8:(M.length+1)<bs8.length:=by omega
 have m9:(M.length+1)<bs9.length:=by omega
 have m0:0<bs9.length:=by omega
 by_cases he:st8=some []
 . rw [if_pos he] at e9;have hpp:Gy l=some (⟨x1,x2,x3,x4,x5,x6,x7,x8⟩,[]):=by
    obtain ⟨l',h1,h2⟩ | ⟨h1,h2⟩:=hS.of
    . rw [he] at h2;cases h2;exact h1
    . rw [he] at h2; cases h2
   have hok:=(cfg_cod.bwd l _ _ hb hpp).2;have k91:∀ lo,Sm E TRd aD 9 [.agg (cfL x1 x2 x3 x4 v5 v6 v7 v8)] ⟨bs9,lo⟩=some (bl (bL ⟨x1,x2,x3,x4,x5,x6,x7,x8⟩),⟨bs9,lo⟩):=λlo=>(fA Yc).trans (h91 _ (cfgOk.wf (by decide) hok) (cfgOk.wf (by decide) hok) ⟨bs9,lo⟩ _ (hfrz lo));have hd:lM l=if bL ⟨x1,x2,x3,x4,x5,x6,x7,x8⟩=true/\l.length<=8192 then some ⟨x1,x2,x3,x4,x5,x6,x7,x8⟩ else none:=by simp only [lM,hpp]
   rw [hd];cases hm:bL ⟨x1,x2,x3,x4,x5,x6,x7,x8⟩ with
   | true =>
    simp only [hm] at k91;by_cases hlen:l.length<=8192
    . have hgt:¬ ((l.length:Int)>8192):=by omega
      rw [if_pos ⟨rfl,hlen⟩];refine ⟨(cfL x1 x2 x3 x4 v5 v6 v7 v8),⟨bs9.set 0 (.cells (cfL x1 x2 x3 x4 v5 v6 v7 v8)),0⟩,λx=>bs4.length<=x,?_,hcs.on (λx hx=>by have h1:bs4.length<=x:=hx; rw [ac (by omega)]) λ_ h=>h⟩;simp +decide [ae,r94,h1,h2,e0,az,storeAt,put,sub,Hp.set,mQ1,gQ1,gN2,ak,m2,aL]; rw [if_pos (dI [M.length] bs2.length [0,0,1,0,0,1,0,2,0,2] (by rfl) (by simp [ClsOk,Cls,Quiet,Sto,T1,T2]))]; simp +decide [h3,h4,hw3,hw4,storeAt,put,sub,Hp.set,mQ3,gQ3,gN4,ak,m4,aL]; rw [if_pos (dI [M.length] bs4.length [0,1,0,0,1,0,0,2,0,2] (by rfl) (by simp [ClsOk,Cls,Quiet,Sto,T3,T4]))]; simp +decide [e5,e6,e7,e8,e9,vc5.1,vc6.1,vc7.1,vc8.1,storeAt,put,sub,Hp.set,mQ5,mQ6,mQ7,mQ8,mQ9,gN5,gN6,gN7,gN8,gN9,gR9,ak,m0,au,k91,hgt]
    . have hgt:((l.length:Int)>8192):=by omega
      rw [if_neg (λh=>hlen h.2)];exact ⟨_,by simp +decide [ae,r94,h1,h2,e0,az,storeAt,put,sub,Hp.set,mQ1,gQ1,gN2,ak,m2,aL]; rw [if_pos (dI [M.length] bs2.length [0,0,1,0,0,1,0,2,0,2] (by rfl) (by simp [ClsOk,Cls,Quiet,Sto,T1,T2]))]; simp +decide [h3,h4,hw3,hw4,storeAt,put,sub,Hp.set,mQ3,gQ3,gN4,ak,m4,aL]; rw [if_pos (dI [M.length] bs4.length [0,1,0,0,1,0,0,2,0,2] (by rfl) (by simp [ClsOk,Cls,Quiet,Sto,T3,T4]))]; simp +decide [e5,e6,e7,e8,e9,vc5.1,vc6.1,vc7.1,vc8.1,az,storeAt,put,sub,Hp.set,mQ5,mQ6,mQ7,mQ8,mQ9,gN5,gN6,gN7,gN8,gN9,gR9,ak,m0,au,k91,hgt]; exact rfl⟩
   | false =>
    simp only [hm] at k91;rw [if_neg (λh=>by cases h.1)];exact ⟨_,by simp +decide [ae,r94,h1,h2,e0,az,storeAt,put,sub,Hp.set,mQ1,gQ1,gN2,ak,m2,aL]; rw [if_pos (dI [M.length] bs2.length [0,0,1,0,0,1,0,2,0,2] (by rfl) (by simp [ClsOk,Cls,Quiet,Sto,T1,T2]))]; simp +decide [h3,h4,hw3,hw4,storeAt,put,sub,Hp.set,mQ3,gQ3,gN4,ak,m4,aL]; rw [if_pos (dI [M.length] bs4.length [0,1,0,0,1,0,0,2,0,2] (by rfl) (by simp [ClsOk,Cls,Quiet,Sto,T3,T4]))]; simp +decide [e5,e6,e7,e8,e9,vc5.1,vc6.1,vc7.1,vc8.1,az,storeAt,put,sub,Hp.set,mQ5,mQ6,mQ7,mQ8,mQ9,gN5,gN6,gN7,gN8,gN9,gR9,ak,m0,au,k91]; exact rfl⟩
 . rw [if_neg he] at e9;have hd:lM l=none:=by
    unfold lM;obtain ⟨l',h1,h2⟩ | ⟨h1,h2⟩:=hS.of
    . rw [h1];cases l' with
      | nil=>exact absurd h2 he
      | cons _ _=>rfl
    . rw [h1]
   rw [hd];exact ⟨_,by simp +decide [ae,r94,h1,h2,e0,az,storeAt,put,sub,Hp.set,mQ1,gQ1,gN2,ak,m2,aL]; rw [if_pos (dI [M.length] bs2.length [0,0,1,0,0,1,0,2,0,2] (by rfl) (by simp [ClsOk,Cls,Quiet,Sto,T1,T2]))]; simp +decide [h3,h4,hw3,hw4,storeAt,put,sub,Hp.set,mQ3,gQ3,gN4,ak,m4,aL]; rw [if_pos (dI [M.length] bs4.length [0,1,0,0,1,0,0,2,0,2] (by rfl) (by simp [ClsOk,Cls,Quiet,Sto,T3,T4]))]; simp +decide [e5,e6,e7,e8,e9,vc5.1,vc6.1,vc7.1,vc8.1,az,storeAt,put,sub,Hp.set,mQ5,mQ6,mQ7,mQ8,mQ9,gN5,gN6,gN7,gN8,gR9,ak,m0,au]; exact rfl⟩
theorem D94 (h91:∀ c:Cfg,c.wf 1048576->c.wf big->∀ (h:Hp) (v:V),frz h v=some (ag c.c)->E 9 [v] h=some (bl (bL c),h)){nl:Bool}{l:List Int}(hb:byteL l)(hl:l.length<=big)(h:Hp) :
 Sm E TRd aD 13 [.d (Sl.d u8C ⟨nl,l⟩)] h=some (match lM l with | some c=>.tup [ag c.c,.d (i64 0)] | none=>.tup [ag (Cfg.c ⟨0,0,0,0,⟨true,[]⟩,⟨true,[]⟩,⟨true,[]⟩,⟨true,[]⟩⟩),.d (i64 2)],h):=by
 have k:=F94 h404 h378 h91 (nl:=nl) hb hl;rw [aY ba1 ba3];cases hd:lM l with
 | some c =>
  rw [hd] at k;obtain ⟨cs,h',K,k1,k2⟩:=k;have k3:=Hngs.mapM (bs':=h'.bs) (lo:=h'.low) (λ_ _=>rfl) (show 1<=8 by decide) k2;have hz:frz h' (.tup [.agg cs,.d (i64 0)])=some (.tup [ag c.c,.d (i64 0)]):=by
   simp only [frz,List.mapM_cons,List.mapM_nil,dh,cK,k3.1,ky]; rfl
  simp [k1,hz,fI]
 | none =>
  rw [hd] at k;obtain ⟨h',k1⟩:=k;have hz:frz h' (.tup [.agg (cfL 0 0 0 0 nV nV nV nV),.d (i64 2)])=some (.tup [ag (Cfg.c ⟨0,0,0,0,⟨true,[]⟩,⟨true,[]⟩,⟨true,[]⟩,⟨true,[]⟩⟩),.d (i64 2)]):=by
   have:dh h' (.agg (cfL 0 0 0 0 nV nV nV nV))=some (ag (Cfg.c ⟨0,0,0,0,⟨true,[]⟩,⟨true,[]⟩,⟨true,[]⟩,⟨true,[]⟩⟩)):=by
    have:=fM h' 8 (Cfg.c ⟨0,0,0,0,⟨true,[]⟩,⟨true,[]⟩,⟨true,[]⟩,⟨true,[]⟩⟩);simp only [dh,cK];rw [show (((cfL 0 0 0 0 nV nV nV nV):List V))=(Cfg.c ⟨0,0,0,0,⟨true,[]⟩,⟨true,[]⟩,⟨true,[]⟩,⟨true,[]⟩⟩).map V.d from rfl,this];rfl
   simp only [frz,List.mapM_cons,List.mapM_nil,dh,ky]; rfl
  simp [k1,hz,fI]
end
end
section
theorem mG {c:Cfg}(h:bL c=true):(∀ p∈c.policies.l,bz p=true)/\(bE c).length<=8192:=by
 simp only [bL,ap,br] at h;obtain ⟨⟨hs,hm⟩,hl⟩:=h;simp only [kP,ap] at hm;obtain ⟨⟨⟨⟨⟨m1,m2⟩,m3⟩,m4⟩,m5⟩,m6⟩:=hm;refine ⟨λp hp=>?_,by omega⟩;simp only [bN,ap,Bool.not_eq_true',List.any_eq_false] at m6;have b:=m6.1 p hp;simp only [eH,Bool.or_eq_true,Bool.not_eq_true',not_or,Bool.not_eq_false] at b;exact b.2.1
theorem IP {h:Hp}{nl:Bool}{l:List Int}:iW (.d (Sl.d u8C ⟨nl,l⟩)) h=some (.d (.str (strOf l)),h):=by
 have k:=ma (h:=h) (l:=l);cases nl with
 | false=>exact k
 | true=>exact k
theorem KC {a b:List Int}(ha:byteL a)(hb:byteL b):eqS (strOf a) (strOf b)=true↔a=b:=by
 rw [eqS_iff];constructor
 . intro h;have:=congrArg dA h;rw [mK ha,mK hb] at this;exact this
 . rintro rfl; rfl
section
variable {E:Calls'}
theorem ap0 (h91:∀ c:Cfg,c.wf 1048576->c.wf big->∀ h,E 9 [c.v] h=some (bl (bL c),h))(h129:∀ c:Cfg,c.wf big->(∀ p∈c.policies.l,bz p=true)->(bE c).length<=big->∀ h,E 25 [c.v] h=some (.d (bytesD (bE c)),h))(c:Cfg)(hc:c.wf 1048576)(hcb:c.wf big)(h:Hp) :
 Sm E TRd aD 7 [c.v] h=some (if bL c=true then .tup [.d (bytesD (bE c)),.d (i64 0)] else .tup [nV,.d (i64 1)],h):=by
 have k91:∀ h,Sm E TRd aD 9 [c.v] h=some (bl (bL c),h):=λh=>(fA Yc).trans (h91 c hc hcb h);rw [aY ba0 ba2];cases hm:bL c with
 | false =>
  simp only [hm] at k91;simp +decide [ae,r89,k91]
 | true =>
  simp only [hm] at k91;have k129:∀ h,Sm E TRd aD 25 [c.v] h=some (.d (bytesD (bE c)),h):=λh=>(fA XO).trans (h129 c hcb (mG hm).1 (ch (mG hm).2 (by decide)) h);generalize hB:bytesD (bE c)=B at *;simp +decide [ae,r89,k91,k129]
end
end
section
def bl8:List (Nat×QF):=[(11,Dt),(33,av7),(34,av8),(35,av9),(36,aw0),(37,GK),(94,ax5),(95,RG),(155,ay3),(156,Sa),(157,ay4),(158,Sb),(159,ay5),(160,Sc),(208,az0),(209,az1),(210,az2)]
def TA:FuncId->Option QF:=lu bl8
def gV (f:FuncId):Bool:=[11,33,34,35,36,37,94,95,155,156,157,158,159,160,208,209,210].any λn=>Nat.beq n f
theorem ap5:TA 11=some (Dt):=by kernel_rfl
theorem cb6:gV 11=true:=by kernel_rfl
theorem a173:TA 33=some (eqlQ 7 (.agg [(.i .u64),.s,.s,(.i .i64),(.i .u32),(.i .i64),(.i .u64)])):=by kernel_rfl
theorem cb7:gV 33=true:=by kernel_rfl
theorem ap6:TA 34=some (eqlQ 5 (.agg [(.i .u64),.s,(.i .u32),(.i .i64),(.i .u64)])):=by kernel_rfl
theorem cb8:gV 34=true:=by kernel_rfl
theorem a175:TA 35=some (eqlQ 2 (.agg [(.i .u64),(.i .i64)])):=by kernel_rfl
theorem cb9:gV 35=true:=by kernel_rfl
theorem ap7:TA 36=some (eqfQ 5 [(.d (.int .u64 0)),(.d (.str ⟨#[]⟩)),(.d (.int .u64 0)),(.d (.int .i64 0)),(nV)]):=by kernel_rfl
theorem cc0:gV 36=true:=by kernel_rfl
theorem ap8:TA 37=some (GK):=by kernel_rfl
theorem cc1:gV 37=true:=by kernel_rfl
theorem ap9:TA 94=some (eqfQ 3 [(nV),(nV),(nV)]):=by kernel_rfl
theorem cd0:gV 94=true:=by kernel_rfl
theorem aq0:TA 95=some (RG):=by kernel_rfl
theorem cd1:gV 95=true:=by kernel_rfl
theorem aq1:TA 155=some (eqfQ 3 [(nV),(nV),(nV)]):=by kernel_rfl
theorem cd9:gV 155=true:=by kernel_rfl
theorem aq2:TA 156=some (Sa):=by kernel_rfl
theorem ce0:gV 156=true:=by kernel_rfl
theorem aq3:TA 157=some (eqfQ 4 [(nV),(nV),(nV),(nV)]):=by kernel_rfl
theorem ce1:gV 157=true:=by kernel_rfl
theorem aq4:TA 158=some (Sb):=by kernel_rfl
theorem ce2:gV 158=true:=by kernel_rfl
theorem aq5:TA 159=some (eqfQ 2 [(.d (.str ⟨#[]⟩)),(nV)]):=by kernel_rfl
theorem ce3:gV 159=true:=by kernel_rfl
theorem aq6:TA 160=some (Sc):=by kernel_rfl
theorem ce4:gV 160=true:=by kernel_rfl
theorem aq7:TA 208=some (eqlQ 2 (.agg [(.i .i64),.s])):=by kernel_rfl
theorem ce9:gV 208=true:=by kernel_rfl
theorem aq8:TA 209=some (eqlQ 2 (.agg [(.i .u32),(.i .i64)])):=by kernel_rfl
theorem cf0:gV 209=true:=by kernel_rfl
theorem aq9:TA 210=some (eql1Q (.sc (.i .i64))):=by kernel_rfl
theorem cf1:gV 210=true:=by kernel_rfl
section
variable {E:Calls'}
theorem FI (s t:Sl Term)(hs:short s)(h:Hp):Sm E TA gV 208 [.d (s.d Term.c),.d (t.d Term.c)] h=some (bl (all2 Term.eqB s.l t.l),h) :=
 Ap (z:=2) (λ_=>rfl) (by decide) aq7 ce9 hs.lt (λx y h=>Je) h
theorem am4 (s t:Sl Cidr)(hs:short s)(h:Hp):Sm E TA gV 209 [.d (s.d Cidr.c),.d (t.d Cidr.c)] h=some (bl (all2 Cidr.eqB s.l t.l),h) :=
 Ap (z:=2) (λ_=>rfl) (by decide) aq8 cf0 hs.lt (λx y h=>Jd) h
theorem am5 (s t:Sl Int)(hs:short s)(h:Hp):Sm E TA gV 210 [.d (s.d fE),.d (t.d fE)] h=some (bl (all2 (λx y:Int=>x==y) s.l t.l),h) :=
 Qn (cell:=λn=>i64 n) aq9 cf1 hs.lt (λx y h=>VV) h
theorem ag3 (s t:Sl Pod)(hs:short s)(h:Hp):Sm E TA gV 33 [.d (s.d Pod.c),.d (t.d Pod.c)] h=some (bl (all2 Pod.eqB s.l t.l),h) :=
 Ap (z:=7) (λ_=>rfl) (by decide) a173 cb7 hs.lt (λx y h=>LJ) h
theorem ag4 (s t:Sl Svc)(hs:short s)(h:Hp):Sm E TA gV 34 [.d (s.d Svc.c),.d (t.d Svc.c)] h=some (bl (all2 Svc.eqB s.l t.l),h) :=
 Ap (z:=5) (λ_=>rfl) (by decide) ap6 cb8 hs.lt (λx y h=>LK) h
theorem ag5 (s t:Sl Way)(hs:short s)(h:Hp):Sm E TA gV 35 [.d (s.d Way.c),.d (t.d Way.c)] h=some (bl (all2 Way.eqB s.l t.l),h) :=
 Ap (z:=2) (λ_=>rfl) (by decide) a175 cb9 hs.lt (λx y h=>LM) h
theorem al1 (a b:Source)(ha:a.fits big)(h:Hp):Sm E TA gV 156 [ag a.c,ag b.c] h=some (bl (a.same b),h):=by
 have n1:=λh=>FI (E:=E) a.names b.names ha.1 h;have n2:=λh=>FI (E:=E) a.spaces b.spaces ha.2.1 h;have n3:=λh=>am4 (E:=E) a.nets b.nets ha.2.2 h;rw [aY aq2 ce0];unfold Source.same;generalize all2 Term.eqB a.names.l b.names.l=A1 at *;generalize all2 Term.eqB a.spaces.l b.spaces.l=A2 at *;generalize all2 Cidr.eqB a.nets.l b.nets.l=A3 at *;cases A1<;>cases A2<;>simp +decide [ae,Sa,n1,n2,n3,au]
theorem al2 (a b:Target)(ha:a.fits big)(h:Hp):Sm E TA gV 158 [ag a.c,ag b.c] h=some (bl (a.same b),h):=by
 have n0:=λh=>am5 (E:=E) a.ports b.ports ha.1 h;have n1:=λh=>FI (E:=E) a.methods b.methods ha.2.1 h;have n2:=λh=>FI (E:=E) a.paths b.paths ha.2.2.1 h;have n3:=λh=>FI (E:=E) a.hosts b.hosts ha.2.2.2 h;rw [aY aq4 ce2];unfold Target.same;generalize all2 (λx y:Int=>x==y) a.ports.l b.ports.l=A0 at *;generalize all2 Term.eqB a.methods.l b.methods.l=A1 at *;generalize all2 Term.eqB a.paths.l b.paths.l=A2 at *;generalize all2 Term.eqB a.hosts.l b.hosts.l=A3 at *;cases A0<;>cases A1<;>cases A2<;>simp +decide [ae,Sb,n0,n1,n2,n3,au]
theorem al3 (a b:When)(ha:a.fits big)(h:Hp):Sm E TA gV 160 [ag a.c,ag b.c] h=some (bl (a.same b),h):=by
 have n1:=λh=>FI (E:=E) a.terms b.terms ha h;rw [aY aq6 ce4];unfold When.same;generalize all2 Term.eqB a.terms.l b.terms.l=A1 at *;cases e1:eqS a.head b.head<;>simp +decide [ae,Sc,n1,e1,au]
theorem ai8 (a b:Rule)(ha:a.fits big)(h:Hp):Sm E TA gV 95 [ag a.c,ag b.c] h=some (bl (a.same b),h):=by
 have n1:=λh=>Ao (E:=E) (T:=TA) (val:=gV) (cells:=Source.c) (z:=3) (λ_=>rfl) (by decide) rfl (f:=156) (p:=Source.same) aq1 cd9 (s:=a.frm) (t:=b.frm) ha.1.1.lt (λx hx y _ h=>al1 x y (ha.1.2 x hx) h) h;have n2:=λh=>Ao (E:=E) (T:=TA) (val:=gV) (cells:=Target.c) (z:=4) (λ_=>rfl) (by decide) rfl (f:=158) (p:=Target.same) aq3 ce1 (s:=a.to) (t:=b.to) ha.2.1.1.lt (λx hx y _ h=>al2 x y (ha.2.1.2 x hx) h) h;have n3:=λh=>Ao (E:=E) (T:=TA) (val:=gV) (cells:=When.c) (z:=2) (λ_=>rfl) (by decide) rfl (f:=160) (p:=When.same) aq5 ce3 (s:=a.whn) (t:=b.whn) ha.2.2.1.lt (λx hx y _ h=>al3 x y (ha.2.2.2 x hx) h) h;rw [aY aq0 cd1];unfold Rule.same;generalize all2 Source.same a.frm.l b.frm.l=A1 at *;generalize all2 Target.same a.to.l b.to.l=A2 at *;generalize all2 When.same a.whn.l b.whn.l=A3 at *;cases A1<;>cases A2<;>simp +decide [ae,RG,n1,n2,n3,au]
theorem ag6 (a b:Pol)(ha:a.fits big)(h:Hp):Sm E TA gV 37 [ag a.c,ag b.c] h=some (bl (a.same b),h):=by
 have n1:=λh=>Ao (E:=E) (T:=TA) (val:=gV) (cells:=Rule.c) (z:=3) (λ_=>rfl) (by decide) rfl (f:=95) (p:=Rule.same) ap9 cd0 (s:=a.rules) (t:=b.rules) ha.1.lt (λx hx y _ h=>ai8 x y (ha.2 x hx) h) h;rw [aY ap8 cc1];unfold Pol.same;generalize all2 Rule.same a.rules.l b.rules.l=A1 at *;cases e1:(a.id==b.id)
 case false=>simp +decide [ae,GK,e1,au]
 cases e2:eqS a.ns b.ns
 case false=>simp +decide [ae,GK,e1,e2,au]
 cases e3:(a.service==b.service)
 case false=>simp +decide [ae,GK,e1,e2,e3,au]
 cases e4:(a.deny==b.deny)<;>simp +decide [ae,GK,n1,e1,e2,e3,e4,au]
theorem ag2 (a b:Cfg)(ha:a.ok)(h:Hp):Sm E TA gV 11 [a.v,b.v] h=some (bl (a.same b),h):=by
 have n1:=λh=>ag3 (E:=E) a.pods b.pods ha.1 h;have n2:=λh=>ag4 (E:=E) a.services b.services ha.2.1 h;have n3:=λh=>ag5 (E:=E) a.bound b.bound ha.2.2.1 h;have n4:=λh=>Ao (E:=E) (T:=TA) (val:=gV) (cells:=Pol.c) (z:=5) (λ_=>rfl) (by decide) rfl (f:=37) (p:=Pol.same) ap7 cc0 (s:=a.policies) (t:=b.policies) ha.2.2.2.1.lt (λx hx y _ h=>ag6 x y (ha.2.2.2.2 x hx) h) h;rw [aY ap5 cb6];unfold Cfg.same;generalize all2 Pod.eqB a.pods.l b.pods.l=A1 at *;generalize all2 Svc.eqB a.services.l b.services.l=A2 at *;generalize all2 Way.eqB a.bound.l b.bound.l=A3 at *;generalize all2 Pol.same a.policies.l b.policies.l=A4 at *;cases e1:(a.epoch==b.epoch)
 case false=>simp +decide [ae,Dt,e1,au]
 cases e2:(a.next==b.next)
 case false=>simp +decide [ae,Dt,e1,e2,au]
 cases e3:(a.hosts==b.hosts)
 case false=>simp +decide [ae,Dt,e1,e2,e3,au]
 cases e4:(a.ways==b.ways)
 case false=>simp +decide [ae,Dt,e1,e2,e3,e4,au]
 cases A1<;>cases A2<;>cases A3<;>simp +decide [ae,Dt,e1,e2,e3,e4,n1,n2,n3,n4,au]
end
end
