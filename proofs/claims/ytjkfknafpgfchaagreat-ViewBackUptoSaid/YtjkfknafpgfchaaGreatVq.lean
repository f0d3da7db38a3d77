/- view.reader: a number that fits, a row of things that are read. -/
import Derived.Test.YtjkfknafpgfchaaGreatUe
import Derived.Test.YtjkfknafpgfchaaGreatUn
import Derived.Test.YtjkfknafpgfchaaGreatIa
import Derived.Test.YtjkfknafpgfchaaGreatVp
import Derived.Test.YtjkfknafpgfchaaGreatUt
set_option maxRecDepth 100000
set_option linter.unusedVariables false
set_option linter.unusedSimpArgs false
namespace Go.Proofs.YtjkfknafpgfchaaGreat
section
variable {w:Bool}
def RdsL {α:Type} (w:Bool) (E:Calls') (g:FuncId) (args:List V) (p:Nat) (P:Pr (Sl α)) (cells:α -> List D) (k:Nat) (bs:List Blk):Prop :=
 ∀ st,RdS p bs st -> ∃ v x st' bs',∃ F:Nat -> Nat,(∀ lo,Sm E TRd aj g args ⟨bs,lo⟩ = some (v,⟨bs',F lo⟩)) /\ (v.cells = some [v] /\ nu v = some v) /\ Hng w (KL bs.length bs') bs' v (Sl.d cells x) k /\ Step P st x st' /\ RdS p bs' st' /\ Old p bs bs' /\ (∀ lo:Nat,F lo <= lo) /\ (st ≠ none -> ∀ lo,F lo <= p) /\ (st = none -> bs' = bs /\ ∀ lo,F lo = lo)
theorem RdsL.mk {α:Type} {E:Calls'} {g:FuncId} {args:List V} {p:Nat} {P:Pr (Sl α)} {cells:α -> List D} {k:Nat} {bs:List Blk} (h0:RdS p bs none -> ∀ lo,Sm E TRd aj g args ⟨bs,lo⟩ = some (.d (.slice true []),⟨bs,lo⟩))
 (h1:∀ b,RdS p bs (some b) -> ∃ v x st' bs',∃ F:Nat -> Nat,(∀ lo,Sm E TRd aj g args ⟨bs,lo⟩ = some (v,⟨bs',F lo⟩)) /\ (v.cells = some [v] /\ nu v = some v) /\ Hng w (KL bs.length bs') bs' v (Sl.d cells x) k /\ Step P (some b) x st' /\ RdS p bs' st' /\ Old p bs bs' /\ (∀ lo:Nat,F lo <= lo) /\ ∀ lo,F lo <= p):RdsL w E g args p P cells k bs:=by
 intro st hR;cases st with
 | none=>exact ⟨_,⟨true,[]⟩,none,bs,fun lo=>lo,h0 hR,⟨rfl,rfl⟩,Hng.d (by simp [Sl.d]),rfl,hR,Old.refl _ _,fun lo=>Nat.le_refl _,fun h=>absurd rfl h,fun _=>⟨rfl,fun _=>rfl⟩⟩
 | some b =>
  obtain ⟨v,x,st',bs',F,a1,a2,a3,a4,a5,a6,a7,a8⟩:=h1 b hR;exact ⟨v,x,st',bs',F,a1,a2,a3,a4,a5,a6,a7,fun _=>a8,fun h=>by cases h⟩
section
variable {E:Calls'}
section
variable (h404:∀ x h,E 130 [.d (u64 x)] h = some (.d (i64 (dP x)),h))
include h404
theorem EU {p:Nat} {bs:List Blk} {st:Option (List Int)} (hR:RdS p bs st) {most:Int} (hm0:0 <= most) (hm:most < 2 ^ 64) :
 ∃ n st' bs',∃ F:Nat -> Nat,(∀ lo,Sm E TRd aj 136 [.agg [.ptr p 0],.d (u64 most)] ⟨bs,lo⟩ = some (.d (u64 n),⟨bs',F lo⟩)) /\ StepZ (bV most) st n st' /\ 0 <= n /\ n <= most /\ RdS p bs' st' /\ Old p bs bs' /\ (∀ lo:Nat,F lo <= lo) /\ (st = none -> n = 0 /\ bs' = bs /\ ∀ lo,F lo = lo) /\ (st ≠ none -> ∀ lo,F lo <= p):=by
 have hp:=hR.lt;obtain ⟨x,st1,bs1,F1,k1,k2,k3,k4,k5,k6,k7,k8⟩:=rD h404 (hR.lay [.cells [.ptr p 0]]);have hL:ah bs1 bs.length = some [.ptr p 0]:=by
  have:=k5.2 bs.length (by omega) (by simp);unfold ah; rw [this]; simp
 have hw:IntKind.wrap .u64 most = most:=by rw [wrap_u64]; omega
 cases st with
 | none =>
  obtain ⟨rfl,k7⟩:=k7 rfl;have hn:st1 = none:=k2;subst hn;have hx:=k3 rfl;subst hx;refine ⟨0,none,bs,id,fun lo=>?_,⟨rfl,fun _=>rfl⟩,Int.le_refl _,hm0,hR,Old.refl _ _,fun lo=>Nat.le_refl _,fun _=>⟨rfl,rfl,fun _=>rfl⟩,fun h=>absurd rfl h⟩;rw [aB CE CG];simp [Am,af,k1,k7,hw,show ¬ ((0:Int) > most) from by omega,V.under]
 | some b =>
  have k8:=k8 (by simp);have hlow:¬ bs.length <= F1 bs.length:=by have:=k8 bs.length; omega
  cases hu:pUint b with
  | none =>
   have hst:st1 = none:=by simpa [Step,hu] using k2
   subst hst;have hx:=k3 rfl;subst hx;refine ⟨0,none,bs1,fun lo=>min lo (F1 bs.length),fun lo=>?_,⟨by simp [Step,bV,Pr.keep,hu],fun _=>rfl⟩,Int.le_refl _,hm0,k4,(Old.lay bs _).trans k5,fun lo=>Nat.min_le_left _ _,fun h=>(by cases h),fun _ lo=>Nat.le_trans (Nat.min_le_right _ _) (k8 _)⟩;rw [aB CE CG];simp [Am,af,k1,hw,show ¬ ((0:Int) > most) from by omega,hlow]
  | some y =>
   obtain ⟨y,l⟩:=y;have hst:x = y /\ st1 = some l:=by simpa [Step,hu] using k2
   obtain ⟨rfl,rfl⟩:=hst;have hbyte:byteL b:=by
    obtain ⟨v,l',g1,g2,g3,g4,g5⟩:=hR;rw [g5 b rfl]; exact g3
   have h0:=(uint_cod.bwd b x l hbyte hu).2;by_cases hgt:x > most
   · obtain ⟨bs2,q1,q2,q3⟩:=JR (E:=E) k4;refine ⟨0,none,bs2,fun lo=>min lo (min (F1 bs.length) p),fun lo=>?_,⟨by simp [Step,bV,Pr.keep,hu,show ¬ x <= most from by omega],fun _=>rfl⟩,Int.le_refl _,hm0,q2,((Old.lay bs _).trans k5).trans q3,fun lo=>Nat.min_le_left _ _,fun h=>(by cases h),fun _ lo=>Nat.le_trans (Nat.min_le_right _ _) (Nat.min_le_right _ _)⟩;rw [aB CE CG];simp [Am,af,k1,hw,hgt,hL,q1,show ¬ bs.length <= min (F1 bs.length) p from by omega]
   · refine ⟨x,some l,bs1,fun lo=>min lo (F1 bs.length),fun lo=>?_,⟨by simp [Step,bV,Pr.keep,hu,show x <= most from by omega],fun h=>by cases h⟩,h0.1,by omega,k4,(Old.lay bs _).trans k5,fun lo=>Nat.min_le_left _ _,fun h=>(by cases h),fun _ lo=>Nat.le_trans (Nat.min_le_right _ _) (k8 _)⟩;rw [aB CE CG];simp [Am,af,k1,hw,hgt,hlow]
theorem WU {most:Int} (h0:0 <= most) (h1:most < 2 ^ 64) {p:Nat} {bs:List Blk} (hR:RdS p bs none) (lo:Nat):Sm E TRd aj 136 [.agg [.ptr p 0],.d (u64 most)] ⟨bs,lo⟩ = some (.d (u64 0),⟨bs,lo⟩):=by
 obtain ⟨n,st1,bs1,F1,a1,a2,a3,a4,a5,a6,a7,a8,a9⟩:=EU h404 hR h0 h1;obtain ⟨e1,e2,q8⟩:=a8 rfl;subst e1 e2;rw [a1,q8]
end
def qC (z by_:Nat) (zero:List V):QC:=(sr [op 13 (bt .lss 12 11)] (.seq (.cond (.t 13) .skip (.exit 0 [7])) (.seq (.block 1 (.reg none [mv 14 7,mv 15 2,op 16 (kt' 15 []),op 17 (.buildS z 1 zero [(0,z,(.t 16))]),op 18 (.app z by_ (.t 14) (.t 17)),mv 7 18])) (.reg none [op 19 (.bin .add (.t 12) (.c (.d (.int .u64 1)))),mv 12 19]))))
def listQ (sm z by_:Nat) (zero:List V):QF:=⟨21,[.tmp 6],(sr [op 3 (.box (.t 0)),op 6 (.mov (.c zs0))] (sr [op 7 (.mov (.c zs0))] (.seq (sr [op 8 (lf 1 3),mv 9 1,op 10 (.convI .u64 (.t 9)),op 11 (.call (.c (.fn sm [])) [.t 8,.t 10]),op 12 (.mov (.c zu))] (.block 0 (.loop [2,7,11,12] (qC z by_ zero)))) (sr [mv 20 7,mv 6 20] (.ret [6])))))⟩
theorem EH {i n:Nat} (h:i < n) (hn:n < 2 ^ 62):IntKind.wrap .u64 ((i:Int) + 1) = ((i + 1:Nat):Int):=by rw [wrap_u64]; omega
theorem Dx {α:Type} {P:Pr α} {cells:α -> List D} {z by_ k:Nat} {zero:List V} (hz0:0 < z) (hby:by_ <= 4096) (hzero:zero.length = z) (hcl:∀ x,(cells x).length = z) {g:FuncId} {args:List V} {fv:V} (hfv:∀ C h,ed C fv [] h = C g args h) (hnu:nu fv = some fv)
 {p:Nat} {bs0:List Blk} (hp:p < bs0.length) (hone:∀ bs,Old p bs0 bs -> wE w E g args p P cells k bs) {N:Nat} (hN:N < big) :
 ∀ (m i:Nat) (bs:List Blk) (v:V) (st:Option (List Int)) (ds:List D),i + m = N -> RdS p bs st -> AccV w bs0.length z k i ds bs v -> Old p bs0 bs →
 ∃ v' xs st' bs',∃ F:Nat -> Nat,(∀ lo,Cd E TRd aj (.loop [2,7,11,12] (qC z by_ zero)) [(2,fv),(7,v),(11,.d (u64 N)),(12,.d (u64 i))] ⟨bs,lo⟩ = some (.exit 0,[(7,v')],⟨bs',F lo⟩)) /\ xs.length = m /\ AccV w bs0.length z k N (ds ++ (xs.map cells).flatten) bs' v' /\ Step (pV P m) st xs st' /\ RdS p bs' st' /\ Old p bs0 bs' /\ ∀ lo:Nat,F lo <= lo:=by
 intro m;have hN2:N < 2 ^ 62:=Nat.lt_trans hN (by decide);have key:=ax (E:=E) (T:=TRd) (val:=aj) [2,7,11,12] (qC z by_ zero);generalize Cd E TRd aj (.loop [2,7,11,12] (qC z by_ zero)) = W at key ⊢
 induction m with
 | zero =>
  intro i bs v st ds hi hR hA ho;have:i = N:=by omega
  subst this;refine ⟨v,[],st,bs,id,fun lo=>?_,rfl,by simpa using hA,Step.nil,hR,ho,fun lo=>Nat.le_refl _⟩;rw [key];simp [qC]
 | succ m ih =>
  intro i bs v st ds hi hR hA ho;obtain ⟨v1,vs,x,st1,bs1,F1,a1,a2,a3,a4,a5,a6,a7⟩:=hone bs ho st hR;have hvl:=a3.cells_len (hcl x);have hA1:AccV w bs0.length z k i ds (bs1 ++ [.cells vs]) v:=hA.on (by have:=a6.1; simp; omega) fun y h1 h2=>by
   rw [List.getElem?_append_left (by have:=a6.1; omega)];exact a6.2 y (by omega) h2
  have hBl:∀ B n' c,v = .row B 0 n' c z -> B < bs.length:=by
   rintro B n' c rfl;rcases hA with ⟨_,_,h⟩ | ⟨_,B',cs,_,h,h3,_⟩
   · cases h
   · cases h; exact aP h3
  have hle:=ho.1;have hle1:=a6.1;obtain ⟨v2,bs2,F2,b1,b2,b3,b4,b5⟩:=hA1.app hz0 hby (by omega) (r:=bs1.length) (cap:=some 1) hvl (by simp) (L2:=bs.length) hle hBl
   (a3.on (fun y hy=>by rw [List.getElem?_append_left hy.2]) fun y hy=>⟨hy.1,by have:=hy.2; simp; omega⟩) (by simp; omega)
  have hR2:RdS p bs2 st1:=a5.upto fun y hy=>by
   rw [b4 y (by omega),List.getElem?_append_left (by omega)]
  have ho2:Old p bs0 bs2:=⟨by simp at b3; omega,fun y h1 h2=>by
   rw [b4 y h2,List.getElem?_append_left (by omega),a6.2 y h1 (by omega),ho.2 y h1 h2]⟩
  obtain ⟨v',xs,st',bs',F3,c1,c2,c3,c4,c5,c6,c7⟩:=ih (i + 1) bs2 v2 st1 _ (by omega) hR2 b2 ho2;refine ⟨v',x :: xs,st',bs',fun lo=>F3 (F2 (F1 lo)),fun lo=>?_,by simp [c2],by simpa using c3,Step.row a4 c4,c5,c6,fun lo=>Nat.le_trans (c7 _) (Nat.le_trans (b5 _) (a7 _))⟩;rw [← c1,key];have hw:=EH (i:=i) (n:=N) (by omega) hN2;have hlt:((i:Int) < (N:Int)):=by omega
  have hfill:∀ ev:X -> V,ev (.t 16) = v1 -> aA ev zero [(0,z,.t 16)] = some vs:=fun ev he=>xg he a2 hvl hzero;simp [qC,hlt,hA.nu,hnu,hfv,a1,hfill,b1,b2.nu,hw]
theorem Dy {z by_:Nat} {zero:List V} {fv v:V} (hv:nu v = some v) (h:Hp):Cd E TRd aj (.loop [2,7,11,12] (qC z by_ zero)) [(2,fv),(7,v),(11,.d (u64 0)),(12,.d (u64 0))] h = some (.exit 0,[(7,v)],h):=by
 rw [ax];simp [qC]
section
variable (h404:∀ x h,E 130 [.d (u64 x)] h = some (.d (i64 (dP x)),h))
include h404
theorem JZ {id z by_:Nat} {zero:List V} (ht:TRd id = some (listQ 136 z by_ zero)) (hv:aj id = false) {fv:V} (hnu:nu fv = some fv) (hok:okV fv = true) {p:Nat} {bs:List Blk} {most:Int} (hm0:0 <= most) (hm:most < big) (hR:RdS p bs none) (lo:Nat) :
 Sm E TRd aj id [.agg [.ptr p 0],.d (i64 most),fv] ⟨bs,lo⟩ = some (.d (.slice true []),⟨bs,lo⟩):=by
 obtain ⟨n,st1,bs1,F1,a1,a2,a3,a4,a5,a6,a7,a8,a9⟩:=EU h404 (hR.lay [.cells [.ptr p 0]]) hm0 (show most < 2 ^ 64 from Int.lt_trans hm (by decide));obtain ⟨rfl,rfl,a8⟩:=a8 rfl;rw [aB ht hv];simp [listQ,af,a1,a8,hnu,show IntKind.wrap .u64 most = most from by rw [wrap_u64]; have:(big:Int) < 2 ^ 62:=(by decide); omega];rw [aH];simp [Dy (E:=E) (v:=.d (.slice true [])) rfl,V.under,hnu]
theorem pu {α:Type} {P:Pr α} {cells:α -> List D} {z by_ k id:Nat} {zero:List V} (ht:TRd id = some (listQ 136 z by_ zero)) (hv:aj id = false) (hz0:0 < z) (hby:by_ <= 4096) (hzero:zero.length = z) (hcl:∀ x,(cells x).length = z) {g:FuncId} {args:List V} {fv:V} (hfv:∀ C h,ed C fv [] h = C g args h) (hnu:nu fv = some fv) (hok:okV fv = true)
 {p:Nat} {bs:List Blk} {most:Int} (hm0:0 <= most) (hm:most < big) (hone:∀ bs',Old p bs bs' -> wE w E g args p P cells k bs') :
 RdsL w E id [.agg [.ptr p 0],.d (i64 most),fv] p (pSl most P) cells (k + 1) bs:=by
 refine RdsL.mk (JZ h404 ht hv hnu hok hm0 hm) fun b hR=>?_;have hp:=hR.lt;obtain ⟨n,st1,bs1,F1,a1,a2,a3,a4,a5,a6,a7,a8,a9⟩:=EU h404 (hR.lay [.cells [.ptr p 0]]) hm0 (show most < 2 ^ 64 from Int.lt_trans hm (by decide));have a9:=a9 (by simp);obtain ⟨N,rfl⟩:=Int.eq_ofNat_of_zero_le a3;obtain ⟨v',xs,st',bs',F2,c1,c2,c3,c4,c5,c6,c7⟩:=Dx (E:=E) (by_:=by_) hz0 hby hzero hcl hfv hnu (bs0:=bs ++ [.cells [.ptr p 0]]) (by simp; omega) (fun bs' ho=>hone bs' ((Old.lay bs _).trans ho)) (N:=N) (by omega) N 0 bs1 (.d (.slice true [])) st1 [] (by omega) a5 (AccV.nil _ _ _ _) a6;have hflat:(xs.map cells).length = N:=by simp [c2]
 have hH:=AccV.hng (es:=xs.map cells) (by simpa using c3) (fun e he=>by obtain ⟨x,_,rfl⟩:=List.mem_map.1 he; exact hcl x) hflat.symm;have hS:Step (pSl most P) (some b) ⟨xs.isEmpty,xs⟩ st':=by
  have:=(StepZ.seq a2 (l:=xs) (s2:=st') (by simpa using c4)).map fun l=>(⟨l.isEmpty,l⟩:Sl α);exact this
 have hF:F2 (F1 bs.length) <= p:=Nat.le_trans (c7 _) (a9 _);refine ⟨v',⟨xs.isEmpty,xs⟩,st',bs',fun lo=>min lo (F2 (F1 bs.length)),fun lo=>?_,⟨?_,c3.nu⟩,?_,hS,c5,(Old.lay bs _).trans c6,fun lo=>Nat.min_le_left _ _,fun lo=>Nat.le_trans (Nat.min_le_right _ _) hF⟩
 · rw [aB ht hv];simp only [Int.natCast_zero] at c1;simp [listQ,af,a1,hnu,show IntKind.wrap .u64 most = most from by rw [wrap_u64]; have:(big:Int) < 2 ^ 62:=(by decide); omega];rw [aH];simp [c1,c3.nu,hnu,show ¬ bs.length <= F2 (F1 bs.length) from by omega]
 · rcases c3 with ⟨_,_,rfl⟩ | ⟨_,B,cs,_,rfl,_⟩ <;> rfl
 · have:Sl.d cells ⟨xs.isEmpty,xs⟩ = .slice (xs.map cells).isEmpty (xs.map cells):=by simp [Sl.d]
   rw [this];exact hH.on (fun _ _=>rfl) fun x hx=>⟨by
    have h1:bs.length + 1 <= x:=hx.1;omega,hx.2⟩
theorem JY {p:Nat} {bs:List Blk} {st:Option (List Int)} (hR:RdS p bs st) :
 ∃ n st' bs',∃ F:Nat -> Nat,(∀ lo,Sm E TRd aj 138 [.agg [.ptr p 0]] ⟨bs,lo⟩ = some (.d (i64 n),⟨bs',F lo⟩)) /\ StepZ (bV 65535) st n st' /\ 0 <= n /\ n <= 65535 /\ RdS p bs' st' /\ Old p bs bs' /\ (∀ lo:Nat,F lo <= lo) /\ (st = none -> n = 0 /\ bs' = bs /\ ∀ lo,F lo = lo) /\ (st ≠ none -> ∀ lo,F lo <= p):=by
 have hp:=hR.lt;cases st with
 | none =>
  have z1:=fun ys lo=>WU (E:=E) h404 (most:=65535) (by decide) (by decide) (hR.lay ys) lo;have hB:∃ bs' c,Bd E TRd aj Ao [.agg [.ptr p 0]] ⟨bs,bs.length⟩ = some (.d (i64 0),⟨bs',c⟩) /\ bs.length <= c:=by
   refine ⟨_,_,by simp (decide:=true) [af,Ao,z1]; first | exact ⟨rfl,rfl⟩ | exact rfl,by omega⟩
  obtain ⟨bs',c,hB,hc⟩:=hB;exact ⟨0,none,bs,fun lo=>lo,fun lo=>dK Pi PQ hB hc rfl lo,⟨rfl,fun _=>rfl⟩,Int.le_refl _,by decide,hR,Old.refl _ _,fun lo=>Nat.le_refl _,fun _=>⟨rfl,rfl,fun _=>rfl⟩,fun h=>absurd rfl h⟩
 | some b =>
  obtain ⟨n,st1,bs1,F1,a1,a2,a3,a4,a5,a6,a7,a8,a9⟩:=EU h404 (hR.lay [.cells [.ptr p 0]]) (most:=65535) (by decide) (by decide);have a9:=a9 (by simp) bs.length;have hw:IntKind.wrap .i64 n = n:=wrap64 (by omega) (by omega);have hB:Bd E TRd aj Ao [.agg [.ptr p 0]] ⟨bs,bs.length⟩ = some (.d (i64 n),⟨bs1,F1 bs.length⟩):=by
   simp (decide:=true) [af,Ao,a1,hw]
  exact ⟨n,st1,bs1,fun lo=>min lo (F1 bs.length),fun lo=>dh Pi PQ hB (by omega) lo,a2,a3,a4,a5,(Old.lay bs _).trans a6,fun lo=>Nat.min_le_left _ _,fun h=>(by cases h),fun _ lo=>Nat.le_trans (Nat.min_le_right _ _) a9⟩
theorem Qr {p:Nat} {bs:List Blk} {st:Option (List Int)} (hR:RdS p bs st) :
 ∃ n st' bs',∃ F:Nat -> Nat,(∀ lo,Sm E TRd aj 41 [.agg [.ptr p 0]] ⟨bs,lo⟩ = some (.d (u32 n),⟨bs',F lo⟩)) /\ StepZ (bV 4294967295) st n st' /\ 0 <= n /\ n <= 4294967295 /\ RdS p bs' st' /\ Old p bs bs' /\ (∀ lo:Nat,F lo <= lo) /\ (st = none -> n = 0 /\ bs' = bs /\ ∀ lo,F lo = lo) /\ (st ≠ none -> ∀ lo,F lo <= p):=by
 have hp:=hR.lt;cases st with
 | none =>
  have z1:=fun ys lo=>WU (E:=E) h404 (most:=4294967295) (by decide) (by decide) (hR.lay ys) lo;have hB:∃ bs' c,Bd E TRd aj Ah [.agg [.ptr p 0]] ⟨bs,bs.length⟩ = some (.d (u32 0),⟨bs',c⟩) /\ bs.length <= c:=by
   refine ⟨_,_,by simp (decide:=true) [af,Ah,z1]; first | exact ⟨rfl,rfl⟩ | exact rfl,by omega⟩
  obtain ⟨bs',c,hB,hc⟩:=hB;exact ⟨0,none,bs,fun lo=>lo,fun lo=>dK O9 PI hB hc rfl lo,⟨rfl,fun _=>rfl⟩,Int.le_refl _,by decide,hR,Old.refl _ _,fun lo=>Nat.le_refl _,fun _=>⟨rfl,rfl,fun _=>rfl⟩,fun h=>absurd rfl h⟩
 | some b =>
  obtain ⟨n,st1,bs1,F1,a1,a2,a3,a4,a5,a6,a7,a8,a9⟩:=EU h404 (hR.lay [.cells [.ptr p 0]]) (most:=4294967295) (by decide) (by decide);have a9:=a9 (by simp) bs.length;have hw:IntKind.wrap .u32 n = n:=by simp [IntKind.wrap,IntKind.bits,IntKind.signed]; omega
  have hB:Bd E TRd aj Ah [.agg [.ptr p 0]] ⟨bs,bs.length⟩ = some (.d (u32 n),⟨bs1,F1 bs.length⟩):=by
   simp (decide:=true) [af,Ah,a1,hw]
  exact ⟨n,st1,bs1,fun lo=>min lo (F1 bs.length),fun lo=>dh O9 PI hB (by omega) lo,a2,a3,a4,a5,(Old.lay bs _).trans a6,fun lo=>Nat.min_le_left _ _,fun h=>(by cases h),fun _ lo=>Nat.le_trans (Nat.min_le_right _ _) a9⟩
theorem cd7 {p:Nat} (bs:List Blk):wE true E 41 [.agg [.ptr p 0]] p (bV 4294967295) di 0 bs:=fun st hR=>by
 obtain ⟨n,st1,bs1,F1,a1,a2,a3,a4,a5,a6,a7,a8,a9⟩:=Qr h404 hR;exact ⟨.d (u32 n),_,n,st1,bs1,F1,a1,rfl,⟨Hng.d (by simp),trivial⟩,a2.1,a5,a6,a7⟩
theorem cd6 {p:Nat} (bs:List Blk):wE true E 39 [.ptr p 0] p pUint aY 0 bs:=fun st hR=>by
 obtain ⟨x,st1,bs1,F1,k1,k2,k3,k4,k5,k6,k7,k8⟩:=rD h404 hR;exact ⟨.d (u64 x),_,x,st1,bs1,F1,k1,rfl,⟨Hng.d (by simp),trivial⟩,k2,k4,k5,k6⟩
theorem Xe {p:Nat} (bs:List Blk):RdsL true E 40 [.agg [.ptr p 0],.d (i64 38),.mfn 41 [.agg [.ptr p 0]]] p (pSl 38 (bV 4294967295)) di 1 bs :=
 pu h404 (ay5:TRd 40 = some (listQ 136 1 4 [(.d (u32 0))])) bg5 (by decide) (by decide) rfl (fun _=>rfl) (g:=41) (args:=[.agg [.ptr p 0]]) (fun _ _=>rfl) rfl rfl (by decide) (by decide) fun bs' _=>cd7 h404 bs'
theorem BA {p:Nat} (bs:List Blk) {most:Int} (h0:0 <= most) (h1:most < big):RdsL true E 50 [.agg [.ptr p 0],.d (i64 most),.mfn 39 [.ptr p 0]] p (pSl most pUint) aY 1 bs :=
 pu h404 (az0:TRd 50 = some (listQ 136 1 8 [(.d (u64 0))])) bh0 (by decide) (by decide) rfl (fun _=>rfl) (g:=39) (args:=[.ptr p 0]) (fun _ _=>rfl) rfl rfl h0 h1 fun bs' _=>cd6 h404 bs'
end
end
end
section
section
variable {E:Calls'} (h404:∀ x h,E 130 [.d (u64 x)] h = some (.d (i64 (dP x)),h))
include h404
set_option maxHeartbeats 1000000 in
theorem by5 {p:Nat} (bs:List Blk):Rds true E 47 [.agg [.ptr p 0]] p xZ Way.c 0 (.agg [.d (u64 0),.d (i64 0)]) bs:=by
 intro st hR;have hp:=hR.lt;have hqp:bs.length ≠ p:=by omega
 obtain ⟨x1,st1,bs1,F1,e1,s1,z1,r1,o1,l1,n1,a1⟩:=rD h404 (hR.lay [.cells [.ptr p 0],.cells [.d (u64 0),.d (i64 0)]]);have hl1:=o1.1;try simp only [List.length_append,List.length_cons,List.length_nil,List.length_set] at hl1
 have mQ1:ah (bs ++ [Blk.cells [.ptr p 0],Blk.cells [.d (u64 0),.d (i64 0)]]) bs.length = some [.ptr p 0]:=by simp
 have mR1:ah (bs ++ [Blk.cells [.ptr p 0],Blk.cells [.d (u64 0),.d (i64 0)]]) (bs.length + 1) = some [.d (u64 0),.d (i64 0)]:=by simp
 have gQ1:ah bs1 bs.length = some [.ptr p 0]:=aa o1 hqp mQ1;have gR1:ah bs1 (bs.length + 1) = some [.d (u64 0),.d (i64 0)]:=aa o1 (by omega) mR1;have nN1:¬ bs1.length = bs.length + 1:=by omega
 have nN2:¬ bs1.length = bs.length:=by omega
 have nN3:¬ bs.length + 1 = bs1.length:=by omega
 have nN4:bs.length < bs1.length:=by omega
 obtain ⟨x2,st2,bs2,F2,e2,sz2,b2,c2,r2,o2,l2,n2,a2⟩:=JY h404 (r1.lay [.cells [.d (u64 x1),.d (i64 0)]]);have s2:=sz2.1;have z2:=sz2.2;have hl2:=o2.1;try simp only [List.length_append,List.length_cons,List.length_nil,List.length_set] at hl2
 have mQ2:ah (bs1 ++ [Blk.cells [.d (u64 x1),.d (i64 0)]]) bs.length = some [.ptr p 0]:=au gQ1;have mR2:ah (bs1 ++ [Blk.cells [.d (u64 x1),.d (i64 0)]]) (bs.length + 1) = some [.d (u64 0),.d (i64 0)]:=au gR1;have mN2:ah (bs1 ++ [Blk.cells [.d (u64 x1),.d (i64 0)]]) bs1.length = some [.d (u64 x1),.d (i64 0)]:=by simp
 have gQ2:ah bs2 bs.length = some [.ptr p 0]:=aa o2 hqp mQ2;have gR2:ah bs2 (bs.length + 1) = some [.d (u64 0),.d (i64 0)]:=aa o2 (by omega) mR2;have gN2:ah bs2 bs1.length = some [.d (u64 x1),.d (i64 0)]:=aa o2 (by omega) mN2;have hB:∃ c',Bd E TRd aj IW [.agg [.ptr p 0]] ⟨bs,bs.length⟩ = some (.agg [.d (u64 x1),.d (i64 x2)],⟨(bs2.set bs1.length (.cells [.d (u64 x1),.d (i64 x2)])).set (bs.length + 1) (.cells [.d (u64 x1),.d (i64 x2)]),c'⟩) /\ (st ≠ none -> c' <= p) /\ (st = none -> bs.length <= c'):=by
  have hm:bs.length + 1 < bs2.length:=by omega
  have hm2:bs1.length < bs2.length:=by omega
  have hN2:bs1.length < bs2.length:=by omega
  refine ⟨_,by simp (decide:=true) [af,IW,aN,aV,aA,storeAt,put,sub,Hp.set,e1,e2,mQ1,mQ2,gQ1,gQ2,gN2,gR2,ai,nN1,nN2,nN3,nN4,hm,hm2,hN2]; exact rfl,fun hst=>?_,fun hst=>?_⟩
  · repeat first | exact a1 hst bs.length | refine Nat.le_trans (Nat.min_le_left _ _) ?_ | refine Nat.le_trans (l2 _) ?_
  · subst hst;have y1:st1 = none:=s1;subst y1;have f1:=(n1 rfl).2;have y2:st2 = none:=s2;subst y2;have f2:=(n2 rfl).2.2;simp only [f1,f2];omega
 obtain ⟨c',hB,hc,hn⟩:=hB;have hS:Step xZ st ⟨x1,x2⟩ st2:=Step.map (fun x:Int × Int=>(⟨x.1,x.2⟩:Way)) (s1.seq s2);have d1:Old p bs bs1:=(Old.lay bs _).trans o1;have d2:Old p bs bs2:=(d1.trans (Old.lay bs1 _)).trans o2;cases st with
 | none =>
  have y1:st1 = none:=s1;subst y1;have v1:=z1 rfl;subst v1;have y2:st2 = none:=s2;subst y2;have v2:=z2 rfl;subst v2;exact ⟨.agg [.d (u64 0),.d (i64 0)],_,⟨0,0⟩,none,bs,fun lo=>lo,fun lo=>dK Pe PM hB (hn rfl) rfl lo,rfl,Hngs.flat (ds:=Way.c ⟨0,0⟩) (by simp [Way.c]),hS,hR,Old.refl _ _,fun lo=>Nat.le_refl _,fun _=>⟨rfl,rfl,fun _=>rfl⟩,fun h=>absurd rfl h⟩
 | some b =>
  have hc:=hc (by simp);exact ⟨.agg [.d (u64 x1),.d (i64 x2)],_,⟨x1,x2⟩,st2,(bs2.set bs1.length (.cells [.d (u64 x1),.d (i64 x2)])).set (bs.length + 1) (.cells [.d (u64 x1),.d (i64 x2)]),fun lo=>min lo c',fun lo=>dh Pe PM hB (by omega) lo,rfl,Hngs.flat (ds:=Way.c ⟨x1,x2⟩) (by simp [Way.c]),hS,(r2.set' (by omega) _).set' (by omega) _,(d2.set' (by omega) _).set' (by omega) _,fun lo=>Nat.min_le_left _ _,fun h=>(by cases h),fun _ lo=>Nat.le_trans (Nat.min_le_right _ _) hc⟩
set_option maxHeartbeats 1000000 in
theorem by4 {p:Nat} (bs:List Blk):Rds true E 45 [.agg [.ptr p 0]] p xY Svc.c 0 (.agg [.d (u64 0),.d (.str ⟨#[]⟩),.d (u32 0),.d (i64 0),.d (u64 0)]) bs:=by
 intro st hR;have hp:=hR.lt;have hqp:bs.length ≠ p:=by omega
 obtain ⟨x1,st1,bs1,F1,e1,s1,z1,r1,o1,l1,n1,a1⟩:=rD h404 (hR.lay [.cells [.ptr p 0],.cells [.d (u64 0),.d (.str ⟨#[]⟩),.d (u32 0),.d (i64 0),.d (u64 0)]]);have hl1:=o1.1;try simp only [List.length_append,List.length_cons,List.length_nil,List.length_set] at hl1
 have mQ1:ah (bs ++ [Blk.cells [.ptr p 0],Blk.cells [.d (u64 0),.d (.str ⟨#[]⟩),.d (u32 0),.d (i64 0),.d (u64 0)]]) bs.length = some [.ptr p 0]:=by simp
 have mR1:ah (bs ++ [Blk.cells [.ptr p 0],Blk.cells [.d (u64 0),.d (.str ⟨#[]⟩),.d (u32 0),.d (i64 0),.d (u64 0)]]) (bs.length + 1) = some [.d (u64 0),.d (.str ⟨#[]⟩),.d (u32 0),.d (i64 0),.d (u64 0)]:=by simp
 have gQ1:ah bs1 bs.length = some [.ptr p 0]:=aa o1 hqp mQ1;have gR1:ah bs1 (bs.length + 1) = some [.d (u64 0),.d (.str ⟨#[]⟩),.d (u32 0),.d (i64 0),.d (u64 0)]:=aa o1 (by omega) mR1;obtain ⟨x2,st2,bs2,F2,e2,s2,z2,r2,o2,l2,n2,a2⟩:=wD h404 r1 (most:=16384) (by decide) (by decide);have hl2:=o2.1;try simp only [List.length_append,List.length_cons,List.length_nil,List.length_set] at hl2
 have mQ2:=gQ1;have mR2:=gR1;have gQ2:ah bs2 bs.length = some [.ptr p 0]:=aa o2 hqp mQ2;have gR2:ah bs2 (bs.length + 1) = some [.d (u64 0),.d (.str ⟨#[]⟩),.d (u32 0),.d (i64 0),.d (u64 0)]:=aa o2 (by omega) mR2;have nN1:¬ bs2.length = bs.length + 1:=by omega
 have nN2:¬ bs2.length = bs.length:=by omega
 have nN3:¬ bs.length + 1 = bs2.length:=by omega
 have nN4:bs.length < bs2.length:=by omega
 obtain ⟨x3,st3,bs3,F3,e3,sz3,b3,c3,r3,o3,l3,n3,a3⟩:=Qr h404 (r2.lay [.cells [.d (u64 x1),.d (.str x2),.d (u32 0),.d (i64 0),.d (u64 0)]]);have s3:=sz3.1;have z3:=sz3.2;have hl3:=o3.1;try simp only [List.length_append,List.length_cons,List.length_nil,List.length_set] at hl3
 have mQ3:ah (bs2 ++ [Blk.cells [.d (u64 x1),.d (.str x2),.d (u32 0),.d (i64 0),.d (u64 0)]]) bs.length = some [.ptr p 0]:=au gQ2;have mR3:ah (bs2 ++ [Blk.cells [.d (u64 x1),.d (.str x2),.d (u32 0),.d (i64 0),.d (u64 0)]]) (bs.length + 1) = some [.d (u64 0),.d (.str ⟨#[]⟩),.d (u32 0),.d (i64 0),.d (u64 0)]:=au gR2;have mN3:ah (bs2 ++ [Blk.cells [.d (u64 x1),.d (.str x2),.d (u32 0),.d (i64 0),.d (u64 0)]]) bs2.length = some [.d (u64 x1),.d (.str x2),.d (u32 0),.d (i64 0),.d (u64 0)]:=by simp
 have gQ3:ah bs3 bs.length = some [.ptr p 0]:=aa o3 hqp mQ3;have gR3:ah bs3 (bs.length + 1) = some [.d (u64 0),.d (.str ⟨#[]⟩),.d (u32 0),.d (i64 0),.d (u64 0)]:=aa o3 (by omega) mR3;have gN3:ah bs3 bs2.length = some [.d (u64 x1),.d (.str x2),.d (u32 0),.d (i64 0),.d (u64 0)]:=aa o3 (by omega) mN3;obtain ⟨x4,st4,bs4,F4,e4,sz4,b4,c4,r4,o4,l4,n4,a4⟩:=JY h404 r3;have s4:=sz4.1;have z4:=sz4.2;have hl4:=o4.1;try simp only [List.length_append,List.length_cons,List.length_nil,List.length_set] at hl4
 have mQ4:=gQ3;have mR4:=gR3;have mN4:=gN3;have gQ4:ah bs4 bs.length = some [.ptr p 0]:=aa o4 hqp mQ4;have gR4:ah bs4 (bs.length + 1) = some [.d (u64 0),.d (.str ⟨#[]⟩),.d (u32 0),.d (i64 0),.d (u64 0)]:=aa o4 (by omega) mR4;have gN4:ah bs4 bs2.length = some [.d (u64 x1),.d (.str x2),.d (u32 0),.d (i64 0),.d (u64 0)]:=aa o4 (by omega) mN4;obtain ⟨x5,st5,bs5,F5,e5,s5,z5,r5,o5,l5,n5,a5⟩:=rD h404 r4;have hl5:=o5.1;try simp only [List.length_append,List.length_cons,List.length_nil,List.length_set] at hl5
 have mQ5:=gQ4;have mR5:=gR4;have mN5:=gN4;have gQ5:ah bs5 bs.length = some [.ptr p 0]:=aa o5 hqp mQ5;have gR5:ah bs5 (bs.length + 1) = some [.d (u64 0),.d (.str ⟨#[]⟩),.d (u32 0),.d (i64 0),.d (u64 0)]:=aa o5 (by omega) mR5;have gN5:ah bs5 bs2.length = some [.d (u64 x1),.d (.str x2),.d (u32 0),.d (i64 0),.d (u64 0)]:=aa o5 (by omega) mN5;obtain ⟨t1,G1,h1,T1,g1,gn1,ga1⟩:=bO e1 (by first | omega | (simp only [List.length_append,List.length_cons,List.length_nil,List.length_set]; omega)) o1 (st:=st) (n1) a1 (K:=[bs.length]) (fun b hb=>by simp only [List.mem_singleton] at hb; subst hb; exact ⟨hqp,_,mQ1,by simp [bS,gF]⟩) (m:=bs2.length) (by first | omega | (simp only [List.length_append,List.length_cons,List.length_nil,List.length_set]; omega));obtain ⟨t2,G2,h2,T2,g2,gn2,ga2⟩:=bO e2 (by first | omega | (simp only [List.length_append,List.length_cons,List.length_nil,List.length_set]; omega)) o2 (st:=st1) (n2) a2 (K:=[bs.length]) (fun b hb=>by simp only [List.mem_singleton] at hb; subst hb; exact ⟨hqp,_,mQ2,by simp [bS,gF]⟩) (m:=bs2.length) (by first | omega | (simp only [List.length_append,List.length_cons,List.length_nil,List.length_set]; omega))
 obtain ⟨t3,G3,h3,T3,g3,gn3,ga3⟩:=bO e3 (by first | omega | (simp only [List.length_append,List.length_cons,List.length_nil,List.length_set]; omega)) o3 (st:=st2) (fun h=>⟨(n3 h).2.1,(n3 h).2.2⟩) a3 (K:=[bs.length]) (fun b hb=>by simp only [List.mem_singleton] at hb; subst hb; exact ⟨hqp,_,mQ3,by simp [bS,gF]⟩) (m:=bs5.length) (by first | omega | (simp only [List.length_append,List.length_cons,List.length_nil,List.length_set]; omega));obtain ⟨t4,G4,h4,T4,g4,gn4,ga4⟩:=bO e4 (by first | omega | (simp only [List.length_append,List.length_cons,List.length_nil,List.length_set]; omega)) o4 (st:=st3) (fun h=>⟨(n4 h).2.1,(n4 h).2.2⟩) a4 (K:=[bs.length]) (fun b hb=>by simp only [List.mem_singleton] at hb; subst hb; exact ⟨hqp,_,mQ4,by simp [bS,gF]⟩) (m:=bs5.length) (by first | omega | (simp only [List.length_append,List.length_cons,List.length_nil,List.length_set]; omega));obtain ⟨t5,G5,h5,T5,g5,gn5,ga5⟩:=bO e5 (by first | omega | (simp only [List.length_append,List.length_cons,List.length_nil,List.length_set]; omega)) o5 (st:=st4) (n5) a5 (K:=[bs.length]) (fun b hb=>by simp only [List.mem_singleton] at hb; subst hb; exact ⟨hqp,_,mQ5,by simp [bS,gF]⟩) (m:=bs5.length) (by first | omega | (simp only [List.length_append,List.length_cons,List.length_nil,List.length_set]; omega))
 have hB:∃ c',Bd E TRd aj IV [.agg [.ptr p 0]] ⟨bs,bs.length⟩ = some (.agg [.d (u64 x1),.d (.str x2),.d (u32 x3),.d (i64 x4),.d (u64 x5)],⟨(bs5.set bs2.length (.cells [.d (u64 x1),.d (.str x2),.d (u32 x3),.d (i64 x4),.d (u64 x5)])).set (bs.length + 1) (.cells [.d (u64 x1),.d (.str x2),.d (u32 x3),.d (i64 x4),.d (u64 x5)]),c'⟩) /\ (st ≠ none -> c' <= p) /\ (st = none -> bs.length <= c'):=by
  have hm:bs.length + 1 < bs5.length:=by omega
  have hm2:bs2.length < bs5.length:=by omega
  have hN3:bs2.length < bs3.length:=by omega
  have hN4:bs2.length < bs4.length:=by omega
  have hN5:bs2.length < bs5.length:=by omega
  refine ⟨_,by simp (decide:=true) [af,IV,aN,aV,aA,storeAt,put,sub,Hp.set,h1,h2,h3,h4,h5,mQ1,mQ2,mQ3,mQ4,mQ5,gQ1,gQ2,gQ3,gQ4,gQ5,gN3,gN4,gN5,gR5,ai,nN1,nN2,nN3,nN4,hm,hm2,hN3,hN4,hN5]; rw [if_pos (dz [bs.length] (bs2.length) [0,0,1,0,0,1,0,3,2] (by rfl) (by simp [ClsOk,Cls,Quiet,Sto,Lay,T1,T2,nN1,nN2,nN3,nN4]))]; simp (decide:=true) [aN,aV,aA,storeAt,put,sub,Hp.set,h1,h2,h3,h4,h5,mQ1,mQ2,mQ3,mQ4,mQ5,gQ1,gQ2,gQ3,gQ4,gQ5,gN3,gN4,gN5,gR5,ai,nN1,nN2,nN3,nN4,hm,hm2,hN3,hN4,hN5]; rw [if_pos (dz [bs.length] (bs5.length) [0,1,0,1,0,0,1,0,2,0,2,0,2] (by rfl) (by simp [ClsOk,Cls,Quiet,Sto,Lay,T3,T4,T5,nN1,nN2,nN3,nN4]))]; simp (decide:=true) [aN,aV,aA,storeAt,put,sub,Hp.set,h1,h2,h3,h4,h5,mQ1,mQ2,mQ3,mQ4,mQ5,gQ1,gQ2,gQ3,gQ4,gQ5,gN3,gN4,gN5,gR5,ai,nN1,nN2,nN3,nN4,hm,hm2,hN3,hN4,hN5]; exact rfl,fun hst=>?_,fun hst=>?_⟩
  · repeat first | exact ga1 hst bs.length | refine Nat.le_trans (Nat.min_le_left _ _) ?_ | refine Nat.le_trans (g2 _) ?_ | refine Nat.le_trans (g3 _) ?_ | refine Nat.le_trans (g4 _) ?_ | refine Nat.le_trans (g5 _) ?_
  · subst hst;have y1:st1 = none:=s1;subst y1;have f1:=gn1 rfl;have y2:st2 = none:=s2;subst y2;have f2:=gn2 rfl;have y3:st3 = none:=s3;subst y3;have f3:=gn3 rfl;have y4:st4 = none:=s4;subst y4;have f4:=gn4 rfl;have y5:st5 = none:=s5;subst y5;have f5:=gn5 rfl;simp only [f1,f2,f3,f4,f5];omega
 obtain ⟨c',hB,hc,hn⟩:=hB;have hS:Step xY st ⟨x1,x2,x3,x4,x5⟩ st5:=Step.map (fun x:Int × ByteArray × Int × Int × Int=>(⟨x.1,x.2.1,x.2.2.1,x.2.2.2.1,x.2.2.2.2⟩:Svc)) (s1.seq (s2.seq (s3.seq (s4.seq s5))));have d1:Old p bs bs1:=(Old.lay bs _).trans o1;have d2:Old p bs bs2:=d1.trans o2;have d3:Old p bs bs3:=(d2.trans (Old.lay bs2 _)).trans o3;have d4:Old p bs bs4:=d3.trans o4;have d5:Old p bs bs5:=d4.trans o5;cases st with
 | none =>
  have y1:st1 = none:=s1;subst y1;have v1:=z1 rfl;subst v1;have y2:st2 = none:=s2;subst y2;have v2:=z2 rfl;subst v2;have y3:st3 = none:=s3;subst y3;have v3:=z3 rfl;subst v3;have y4:st4 = none:=s4;subst y4;have v4:=z4 rfl;subst v4;have y5:st5 = none:=s5;subst y5;have v5:=z5 rfl;subst v5;exact ⟨.agg [.d (u64 0),.d (.str ⟨#[]⟩),.d (u32 0),.d (i64 0),.d (u64 0)],_,⟨0,⟨#[]⟩,0,0,0⟩,none,bs,fun lo=>lo,fun lo=>dK Pd PL hB (hn rfl) rfl lo,rfl,Hngs.flat (ds:=Svc.c ⟨0,⟨#[]⟩,0,0,0⟩) (by simp [Svc.c]),hS,hR,Old.refl _ _,fun lo=>Nat.le_refl _,fun _=>⟨rfl,rfl,fun _=>rfl⟩,fun h=>absurd rfl h⟩
 | some b =>
  have hc:=hc (by simp);exact ⟨.agg [.d (u64 x1),.d (.str x2),.d (u32 x3),.d (i64 x4),.d (u64 x5)],_,⟨x1,x2,x3,x4,x5⟩,st5,(bs5.set bs2.length (.cells [.d (u64 x1),.d (.str x2),.d (u32 x3),.d (i64 x4),.d (u64 x5)])).set (bs.length + 1) (.cells [.d (u64 x1),.d (.str x2),.d (u32 x3),.d (i64 x4),.d (u64 x5)]),fun lo=>min lo c',fun lo=>dh Pd PL hB (by omega) lo,rfl,Hngs.flat (ds:=Svc.c ⟨x1,x2,x3,x4,x5⟩) (by simp [Svc.c]),hS,(r5.set' (by omega) _).set' (by omega) _,(d5.set' (by omega) _).set' (by omega) _,fun lo=>Nat.min_le_left _ _,fun h=>(by cases h),fun _ lo=>Nat.le_trans (Nat.min_le_right _ _) hc⟩
set_option maxHeartbeats 1000000 in
theorem by3 {p:Nat} (bs:List Blk):Rds true E 43 [.agg [.ptr p 0]] p xX Pod.c 0 (.agg [.d (u64 0),.d (.str ⟨#[]⟩),.d (.str ⟨#[]⟩),.d (i64 0),.d (u32 0),.d (i64 0),.d (u64 0)]) bs:=by
 intro st hR;have hp:=hR.lt;have hqp:bs.length ≠ p:=by omega
 obtain ⟨x1,st1,bs1,F1,e1,s1,z1,r1,o1,l1,n1,a1⟩:=rD h404 (hR.lay [.cells [.ptr p 0],.cells [.d (u64 0),.d (.str ⟨#[]⟩),.d (.str ⟨#[]⟩),.d (i64 0),.d (u32 0),.d (i64 0),.d (u64 0)]]);have hl1:=o1.1;try simp only [List.length_append,List.length_cons,List.length_nil,List.length_set] at hl1
 have mQ1:ah (bs ++ [Blk.cells [.ptr p 0],Blk.cells [.d (u64 0),.d (.str ⟨#[]⟩),.d (.str ⟨#[]⟩),.d (i64 0),.d (u32 0),.d (i64 0),.d (u64 0)]]) bs.length = some [.ptr p 0]:=by simp
 have mR1:ah (bs ++ [Blk.cells [.ptr p 0],Blk.cells [.d (u64 0),.d (.str ⟨#[]⟩),.d (.str ⟨#[]⟩),.d (i64 0),.d (u32 0),.d (i64 0),.d (u64 0)]]) (bs.length + 1) = some [.d (u64 0),.d (.str ⟨#[]⟩),.d (.str ⟨#[]⟩),.d (i64 0),.d (u32 0),.d (i64 0),.d (u64 0)]:=by simp
 have gQ1:ah bs1 bs.length = some [.ptr p 0]:=aa o1 hqp mQ1;have gR1:ah bs1 (bs.length + 1) = some [.d (u64 0),.d (.str ⟨#[]⟩),.d (.str ⟨#[]⟩),.d (i64 0),.d (u32 0),.d (i64 0),.d (u64 0)]:=aa o1 (by omega) mR1;have nN1:¬ bs1.length = bs.length + 1:=by omega
 have nN2:¬ bs1.length = bs.length:=by omega
 have nN3:¬ bs.length + 1 = bs1.length:=by omega
 have nN4:bs.length < bs1.length:=by omega
 obtain ⟨x2,st2,bs2,F2,e2,s2,z2,r2,o2,l2,n2,a2⟩:=wD h404 (r1.lay [.cells [.d (u64 x1),.d (.str ⟨#[]⟩),.d (.str ⟨#[]⟩),.d (i64 0),.d (u32 0),.d (i64 0),.d (u64 0)]]) (most:=16384) (by decide) (by decide);have hl2:=o2.1;try simp only [List.length_append,List.length_cons,List.length_nil,List.length_set] at hl2
 have mQ2:ah (bs1 ++ [Blk.cells [.d (u64 x1),.d (.str ⟨#[]⟩),.d (.str ⟨#[]⟩),.d (i64 0),.d (u32 0),.d (i64 0),.d (u64 0)]]) bs.length = some [.ptr p 0]:=au gQ1;have mR2:ah (bs1 ++ [Blk.cells [.d (u64 x1),.d (.str ⟨#[]⟩),.d (.str ⟨#[]⟩),.d (i64 0),.d (u32 0),.d (i64 0),.d (u64 0)]]) (bs.length + 1) = some [.d (u64 0),.d (.str ⟨#[]⟩),.d (.str ⟨#[]⟩),.d (i64 0),.d (u32 0),.d (i64 0),.d (u64 0)]:=au gR1;have mN2:ah (bs1 ++ [Blk.cells [.d (u64 x1),.d (.str ⟨#[]⟩),.d (.str ⟨#[]⟩),.d (i64 0),.d (u32 0),.d (i64 0),.d (u64 0)]]) bs1.length = some [.d (u64 x1),.d (.str ⟨#[]⟩),.d (.str ⟨#[]⟩),.d (i64 0),.d (u32 0),.d (i64 0),.d (u64 0)]:=by simp
 have gQ2:ah bs2 bs.length = some [.ptr p 0]:=aa o2 hqp mQ2;have gR2:ah bs2 (bs.length + 1) = some [.d (u64 0),.d (.str ⟨#[]⟩),.d (.str ⟨#[]⟩),.d (i64 0),.d (u32 0),.d (i64 0),.d (u64 0)]:=aa o2 (by omega) mR2;have gN2:ah bs2 bs1.length = some [.d (u64 x1),.d (.str ⟨#[]⟩),.d (.str ⟨#[]⟩),.d (i64 0),.d (u32 0),.d (i64 0),.d (u64 0)]:=aa o2 (by omega) mN2;obtain ⟨x3,st3,bs3,F3,e3,s3,z3,r3,o3,l3,n3,a3⟩:=wD h404 r2 (most:=16384) (by decide) (by decide);have hl3:=o3.1;try simp only [List.length_append,List.length_cons,List.length_nil,List.length_set] at hl3
 have mQ3:=gQ2;have mR3:=gR2;have mN3:=gN2;have gQ3:ah bs3 bs.length = some [.ptr p 0]:=aa o3 hqp mQ3;have gR3:ah bs3 (bs.length + 1) = some [.d (u64 0),.d (.str ⟨#[]⟩),.d (.str ⟨#[]⟩),.d (i64 0),.d (u32 0),.d (i64 0),.d (u64 0)]:=aa o3 (by omega) mR3;have gN3:ah bs3 bs1.length = some [.d (u64 x1),.d (.str ⟨#[]⟩),.d (.str ⟨#[]⟩),.d (i64 0),.d (u32 0),.d (i64 0),.d (u64 0)]:=aa o3 (by omega) mN3;obtain ⟨x4,st4,bs4,F4,e4,sz4,b4,c4,r4,o4,l4,n4,a4⟩:=JY h404 (r3.set' (b:=bs1.length) (by omega) (.cells [.d (u64 x1),.d (.str x2),.d (.str x3),.d (i64 0),.d (u32 0),.d (i64 0),.d (u64 0)]));have s4:=sz4.1;have z4:=sz4.2;have hl4:=o4.1;try simp only [List.length_append,List.length_cons,List.length_nil,List.length_set] at hl4
 have mQ4:ah (bs3.set bs1.length (.cells [.d (u64 x1),.d (.str x2),.d (.str x3),.d (i64 0),.d (u32 0),.d (i64 0),.d (u64 0)])) bs.length = some [.ptr p 0]:=by rw [ai,if_neg (by omega)]; exact gQ3
 have mR4:ah (bs3.set bs1.length (.cells [.d (u64 x1),.d (.str x2),.d (.str x3),.d (i64 0),.d (u32 0),.d (i64 0),.d (u64 0)])) (bs.length + 1) = some [.d (u64 0),.d (.str ⟨#[]⟩),.d (.str ⟨#[]⟩),.d (i64 0),.d (u32 0),.d (i64 0),.d (u64 0)]:=by rw [ai,if_neg (by omega)]; exact gR3
 have mN4:ah (bs3.set bs1.length (.cells [.d (u64 x1),.d (.str x2),.d (.str x3),.d (i64 0),.d (u32 0),.d (i64 0),.d (u64 0)])) bs1.length = some [.d (u64 x1),.d (.str x2),.d (.str x3),.d (i64 0),.d (u32 0),.d (i64 0),.d (u64 0)]:=by rw [ai,if_pos rfl,if_pos (by omega)]
 have gQ4:ah bs4 bs.length = some [.ptr p 0]:=aa o4 hqp mQ4;have gR4:ah bs4 (bs.length + 1) = some [.d (u64 0),.d (.str ⟨#[]⟩),.d (.str ⟨#[]⟩),.d (i64 0),.d (u32 0),.d (i64 0),.d (u64 0)]:=aa o4 (by omega) mR4;have gN4:ah bs4 bs1.length = some [.d (u64 x1),.d (.str x2),.d (.str x3),.d (i64 0),.d (u32 0),.d (i64 0),.d (u64 0)]:=aa o4 (by omega) mN4;obtain ⟨x5,st5,bs5,F5,e5,sz5,b5,c5,r5,o5,l5,n5,a5⟩:=Qr h404 r4;have s5:=sz5.1;have z5:=sz5.2;have hl5:=o5.1;try simp only [List.length_append,List.length_cons,List.length_nil,List.length_set] at hl5
 have mQ5:=gQ4;have mR5:=gR4;have mN5:=gN4;have gQ5:ah bs5 bs.length = some [.ptr p 0]:=aa o5 hqp mQ5;have gR5:ah bs5 (bs.length + 1) = some [.d (u64 0),.d (.str ⟨#[]⟩),.d (.str ⟨#[]⟩),.d (i64 0),.d (u32 0),.d (i64 0),.d (u64 0)]:=aa o5 (by omega) mR5;have gN5:ah bs5 bs1.length = some [.d (u64 x1),.d (.str x2),.d (.str x3),.d (i64 0),.d (u32 0),.d (i64 0),.d (u64 0)]:=aa o5 (by omega) mN5;obtain ⟨x6,st6,bs6,F6,e6,sz6,b6,c6,r6,o6,l6,n6,a6⟩:=JY h404 r5;have s6:=sz6.1;have z6:=sz6.2;have hl6:=o6.1;try simp only [List.length_append,List.length_cons,List.length_nil,List.length_set] at hl6
 have mQ6:=gQ5;have mR6:=gR5;have mN6:=gN5;have gQ6:ah bs6 bs.length = some [.ptr p 0]:=aa o6 hqp mQ6;have gR6:ah bs6 (bs.length + 1) = some [.d (u64 0),.d (.str ⟨#[]⟩),.d (.str ⟨#[]⟩),.d (i64 0),.d (u32 0),.d (i64 0),.d (u64 0)]:=aa o6 (by omega) mR6;have gN6:ah bs6 bs1.length = some [.d (u64 x1),.d (.str x2),.d (.str x3),.d (i64 0),.d (u32 0),.d (i64 0),.d (u64 0)]:=aa o6 (by omega) mN6;obtain ⟨x7,st7,bs7,F7,e7,s7,z7,r7,o7,l7,n7,a7⟩:=rD h404 r6;have hl7:=o7.1;try simp only [List.length_append,List.length_cons,List.length_nil,List.length_set] at hl7
 have mQ7:=gQ6;have mR7:=gR6;have mN7:=gN6;have gQ7:ah bs7 bs.length = some [.ptr p 0]:=aa o7 hqp mQ7;have gR7:ah bs7 (bs.length + 1) = some [.d (u64 0),.d (.str ⟨#[]⟩),.d (.str ⟨#[]⟩),.d (i64 0),.d (u32 0),.d (i64 0),.d (u64 0)]:=aa o7 (by omega) mR7;have gN7:ah bs7 bs1.length = some [.d (u64 x1),.d (.str x2),.d (.str x3),.d (i64 0),.d (u32 0),.d (i64 0),.d (u64 0)]:=aa o7 (by omega) mN7;obtain ⟨t2,G2,h2,T2,g2,gn2,ga2⟩:=bO e2 (by first | omega | (simp only [List.length_append,List.length_cons,List.length_nil,List.length_set]; omega)) o2 (st:=st1) (n2) a2 (K:=[bs.length]) (fun b hb=>by simp only [List.mem_singleton] at hb; subst hb; exact ⟨hqp,_,mQ2,by simp [bS,gF]⟩) (m:=bs3.length) (by first | omega | (simp only [List.length_append,List.length_cons,List.length_nil,List.length_set]; omega));obtain ⟨t3,G3,h3,T3,g3,gn3,ga3⟩:=bO e3 (by first | omega | (simp only [List.length_append,List.length_cons,List.length_nil,List.length_set]; omega)) o3 (st:=st2) (n3) a3 (K:=[bs.length]) (fun b hb=>by simp only [List.mem_singleton] at hb; subst hb; exact ⟨hqp,_,mQ3,by simp [bS,gF]⟩) (m:=bs3.length) (by first | omega | (simp only [List.length_append,List.length_cons,List.length_nil,List.length_set]; omega))
 obtain ⟨t4,G4,h4,T4,g4,gn4,ga4⟩:=bO e4 (by first | omega | (simp only [List.length_append,List.length_cons,List.length_nil,List.length_set]; omega)) o4 (st:=st3) (fun h=>⟨(n4 h).2.1,(n4 h).2.2⟩) a4 (K:=[bs.length]) (fun b hb=>by simp only [List.mem_singleton] at hb; subst hb; exact ⟨hqp,_,mQ4,by simp [bS,gF]⟩) (m:=bs7.length) (by first | omega | (simp only [List.length_append,List.length_cons,List.length_nil,List.length_set]; omega));obtain ⟨t5,G5,h5,T5,g5,gn5,ga5⟩:=bO e5 (by first | omega | (simp only [List.length_append,List.length_cons,List.length_nil,List.length_set]; omega)) o5 (st:=st4) (fun h=>⟨(n5 h).2.1,(n5 h).2.2⟩) a5 (K:=[bs.length]) (fun b hb=>by simp only [List.mem_singleton] at hb; subst hb; exact ⟨hqp,_,mQ5,by simp [bS,gF]⟩) (m:=bs7.length) (by first | omega | (simp only [List.length_append,List.length_cons,List.length_nil,List.length_set]; omega));obtain ⟨t6,G6,h6,T6,g6,gn6,ga6⟩:=bO e6 (by first | omega | (simp only [List.length_append,List.length_cons,List.length_nil,List.length_set]; omega)) o6 (st:=st5) (fun h=>⟨(n6 h).2.1,(n6 h).2.2⟩) a6 (K:=[bs.length]) (fun b hb=>by simp only [List.mem_singleton] at hb; subst hb; exact ⟨hqp,_,mQ6,by simp [bS,gF]⟩) (m:=bs7.length) (by first | omega | (simp only [List.length_append,List.length_cons,List.length_nil,List.length_set]; omega))
 obtain ⟨t7,G7,h7,T7,g7,gn7,ga7⟩:=bO e7 (by first | omega | (simp only [List.length_append,List.length_cons,List.length_nil,List.length_set]; omega)) o7 (st:=st6) (n7) a7 (K:=[bs.length]) (fun b hb=>by simp only [List.mem_singleton] at hb; subst hb; exact ⟨hqp,_,mQ7,by simp [bS,gF]⟩) (m:=bs7.length) (by first | omega | (simp only [List.length_append,List.length_cons,List.length_nil,List.length_set]; omega));have hB:∃ c',Bd E TRd aj IU [.agg [.ptr p 0]] ⟨bs,bs.length⟩ = some (.agg [.d (u64 x1),.d (.str x2),.d (.str x3),.d (i64 x4),.d (u32 x5),.d (i64 x6),.d (u64 x7)],⟨(bs7.set bs1.length (.cells [.d (u64 x1),.d (.str x2),.d (.str x3),.d (i64 x4),.d (u32 x5),.d (i64 x6),.d (u64 x7)])).set (bs.length + 1) (.cells [.d (u64 x1),.d (.str x2),.d (.str x3),.d (i64 x4),.d (u32 x5),.d (i64 x6),.d (u64 x7)]),c'⟩) /\ (st ≠ none -> c' <= p) /\ (st = none -> bs.length <= c'):=by
  have hm:bs.length + 1 < bs7.length:=by omega
  have hm2:bs1.length < bs7.length:=by omega
  have hN2:bs1.length < bs2.length:=by omega
  have hN3:bs1.length < bs3.length:=by omega
  have hN4:bs1.length < bs4.length:=by omega
  have hN5:bs1.length < bs5.length:=by omega
  have hN6:bs1.length < bs6.length:=by omega
  have hN7:bs1.length < bs7.length:=by omega
  refine ⟨_,by simp (decide:=true) [af,IU,aN,aV,aA,storeAt,put,sub,Hp.set,e1,h2,h3,h4,h5,h6,h7,mQ1,mQ2,mQ3,mQ4,mQ5,mQ6,mQ7,gQ1,gQ2,gQ3,gQ4,gQ5,gQ6,gQ7,gN2,gN3,gN4,gN5,gN6,gN7,gR7,ai,nN1,nN2,nN3,nN4,hm,hm2,hN2,hN3,hN4,hN5,hN6,hN7]; rw [if_pos (dz [bs.length] (bs3.length) [0,0,1,0,0,1,0,0,2,0,0,2] (by rfl) (by simp [ClsOk,Cls,Quiet,Sto,Lay,T2,T3,nN1,nN2,nN3,nN4]))]; simp (decide:=true) [aN,aV,aA,storeAt,put,sub,Hp.set,e1,h2,h3,h4,h5,h6,h7,mQ1,mQ2,mQ3,mQ4,mQ5,mQ6,mQ7,gQ1,gQ2,gQ3,gQ4,gQ5,gQ6,gQ7,gN2,gN3,gN4,gN5,gN6,gN7,gR7,ai,nN1,nN2,nN3,nN4,hm,hm2,hN2,hN3,hN4,hN5,hN6,hN7]; rw [if_pos (dz [bs.length] (bs7.length) [0,1,0,1,0,1,0,0,1,0,2,0,2,0,2,0,2] (by rfl) (by simp [ClsOk,Cls,Quiet,Sto,Lay,T4,T5,T6,T7,nN1,nN2,nN3,nN4]))]; simp (decide:=true) [aN,aV,aA,storeAt,put,sub,Hp.set,e1,h2,h3,h4,h5,h6,h7,mQ1,mQ2,mQ3,mQ4,mQ5,mQ6,mQ7,gQ1,gQ2,gQ3,gQ4,gQ5,gQ6,gQ7,gN2,gN3,gN4,gN5,gN6,gN7,gR7,ai,nN1,nN2,nN3,nN4,hm,hm2,hN2,hN3,hN4,hN5,hN6,hN7]; exact rfl,fun hst=>?_,fun hst=>?_⟩
  · repeat first | exact a1 hst bs.length | refine Nat.le_trans (Nat.min_le_left _ _) ?_ | refine Nat.le_trans (g2 _) ?_ | refine Nat.le_trans (g3 _) ?_ | refine Nat.le_trans (g4 _) ?_ | refine Nat.le_trans (g5 _) ?_ | refine Nat.le_trans (g6 _) ?_ | refine Nat.le_trans (g7 _) ?_
  · subst hst;have y1:st1 = none:=s1;subst y1;have f1:=(n1 rfl).2;have y2:st2 = none:=s2;subst y2;have f2:=gn2 rfl;have y3:st3 = none:=s3;subst y3;have f3:=gn3 rfl;have y4:st4 = none:=s4;subst y4;have f4:=gn4 rfl;have y5:st5 = none:=s5;subst y5;have f5:=gn5 rfl;have y6:st6 = none:=s6;subst y6;have f6:=gn6 rfl;have y7:st7 = none:=s7;subst y7;have f7:=gn7 rfl;simp only [f1,f2,f3,f4,f5,f6,f7];omega
 obtain ⟨c',hB,hc,hn⟩:=hB;have hS:Step xX st ⟨x1,x2,x3,x4,x5,x6,x7⟩ st7:=Step.map (fun x:Int × ByteArray × ByteArray × Int × Int × Int × Int=>(⟨x.1,x.2.1,x.2.2.1,x.2.2.2.1,x.2.2.2.2.1,x.2.2.2.2.2.1,x.2.2.2.2.2.2⟩:Pod)) (s1.seq (s2.seq (s3.seq (s4.seq (s5.seq (s6.seq s7))))));have d1:Old p bs bs1:=(Old.lay bs _).trans o1;have d2:Old p bs bs2:=(d1.trans (Old.lay bs1 _)).trans o2;have d3:Old p bs bs3:=d2.trans o3;have d4:Old p bs bs4:=(d3.set' (by omega) _).trans o4;have d5:Old p bs bs5:=d4.trans o5;have d6:Old p bs bs6:=d5.trans o6;have d7:Old p bs bs7:=d6.trans o7;cases st with
 | none =>
  have y1:st1 = none:=s1;subst y1;have v1:=z1 rfl;subst v1;have y2:st2 = none:=s2;subst y2;have v2:=z2 rfl;subst v2;have y3:st3 = none:=s3;subst y3;have v3:=z3 rfl;subst v3;have y4:st4 = none:=s4;subst y4;have v4:=z4 rfl;subst v4;have y5:st5 = none:=s5;subst y5;have v5:=z5 rfl;subst v5;have y6:st6 = none:=s6;subst y6;have v6:=z6 rfl;subst v6;have y7:st7 = none:=s7;subst y7;have v7:=z7 rfl;subst v7;exact ⟨.agg [.d (u64 0),.d (.str ⟨#[]⟩),.d (.str ⟨#[]⟩),.d (i64 0),.d (u32 0),.d (i64 0),.d (u64 0)],_,⟨0,⟨#[]⟩,⟨#[]⟩,0,0,0,0⟩,none,bs,fun lo=>lo,fun lo=>dK Pb PK hB (hn rfl) rfl lo,rfl,Hngs.flat (ds:=Pod.c ⟨0,⟨#[]⟩,⟨#[]⟩,0,0,0,0⟩) (by simp [Pod.c]),hS,hR,Old.refl _ _,fun lo=>Nat.le_refl _,fun _=>⟨rfl,rfl,fun _=>rfl⟩,fun h=>absurd rfl h⟩
 | some b =>
  have hc:=hc (by simp);exact ⟨.agg [.d (u64 x1),.d (.str x2),.d (.str x3),.d (i64 x4),.d (u32 x5),.d (i64 x6),.d (u64 x7)],_,⟨x1,x2,x3,x4,x5,x6,x7⟩,st7,(bs7.set bs1.length (.cells [.d (u64 x1),.d (.str x2),.d (.str x3),.d (i64 x4),.d (u32 x5),.d (i64 x6),.d (u64 x7)])).set (bs.length + 1) (.cells [.d (u64 x1),.d (.str x2),.d (.str x3),.d (i64 x4),.d (u32 x5),.d (i64 x6),.d (u64 x7)]),fun lo=>min lo c',fun lo=>dh Pb PK hB (by omega) lo,rfl,Hngs.flat (ds:=Pod.c ⟨x1,x2,x3,x4,x5,x6,x7⟩) (by simp [Pod.c]),hS,(r7.set' (by omega) _).set' (by omega) _,(d7.set' (by omega) _).set' (by omega) _,fun lo=>Nat.min_le_left _ _,fun h=>(by cases h),fun _ lo=>Nat.le_trans (Nat.min_le_right _ _) hc⟩
theorem Xf {p:Nat} (bs:List Blk):RdsL true E 42 [.agg [.ptr p 0],.d (i64 16),.mfn 43 [.agg [.ptr p 0]]] p (pSl 16 xX) Pod.c 1 bs :=
 pu h404 (ay6:TRd 42 = some (listQ 136 7 72 [(.d (u64 0)),(.d (.str ⟨#[]⟩)),(.d (.str ⟨#[]⟩)),(.d (i64 0)),(.d (u32 0)),(.d (i64 0)),(.d (u64 0))])) bg6 (by decide) (by decide) rfl (fun _=>rfl) (g:=43) (args:=[.agg [.ptr p 0]]) (fun _ _=>rfl) rfl rfl (by decide) (by decide) fun bs' _=>(by3 h404 bs').weak
theorem Xg {p:Nat} (bs:List Blk):RdsL true E 44 [.agg [.ptr p 0],.d (i64 6),.mfn 45 [.agg [.ptr p 0]]] p (pSl 6 xY) Svc.c 1 bs :=
 pu h404 (ay7:TRd 44 = some (listQ 136 5 48 [(.d (u64 0)),(.d (.str ⟨#[]⟩)),(.d (u32 0)),(.d (i64 0)),(.d (u64 0))])) bg7 (by decide) (by decide) rfl (fun _=>rfl) (g:=45) (args:=[.agg [.ptr p 0]]) (fun _ _=>rfl) rfl rfl (by decide) (by decide) fun bs' _=>(by4 h404 bs').weak
theorem Xh {p:Nat} (bs:List Blk):RdsL true E 46 [.agg [.ptr p 0],.d (i64 4),.mfn 47 [.agg [.ptr p 0]]] p (pSl 4 xZ) Way.c 1 bs :=
 pu h404 (ay8:TRd 46 = some (listQ 136 2 16 [(.d (u64 0)),(.d (i64 0))])) bg8 (by decide) (by decide) rfl (fun _=>rfl) (g:=47) (args:=[.agg [.ptr p 0]]) (fun _ _=>rfl) rfl rfl (by decide) (by decide) fun bs' _=>(by5 h404 bs').weak
end
end
section
section
variable {E:Calls'} (h404:∀ x h,E 130 [.d (u64 x)] h = some (.d (i64 (dP x)),h)) (h378:∀ p:Pol,p.wf big -> ∀ (h:Hp) (v:V),frz h v = some (ag p.c) -> E 125 [v] h = some (bl (aS p),h))
include h404 h378
set_option maxHeartbeats 1000000 in
theorem by6 {p:Nat} (bs:List Blk):wE false E 49 [.agg [.ptr p 0]] p (lC 65536) Pol.c 0 bs:=by
 intro st hR;have hp:=hR.lt;have hqp:bs.length ≠ p:=by omega
 obtain ⟨s,st1,bs1,F1,e1,s1,z1,r1,o1,l1,n1,a1⟩:=wD h404 (hR.lay [.cells [.ptr p 0],.cells [.d (u64 0),.d (.str ⟨#[]⟩),.d (u64 0),.d (i64 0),.d (.slice true [])]]) (most:=65536) (by decide) (by decide);have hl1:=o1.1;simp only [List.length_append,List.length_cons,List.length_nil] at hl1;have mQ:ah (bs ++ [Blk.cells [.ptr p 0],Blk.cells [.d (u64 0),.d (.str ⟨#[]⟩),.d (u64 0),.d (i64 0),.d (.slice true [])]]) bs.length = some [.ptr p 0]:=by simp
 have gQ1:ah bs1 bs.length = some [.ptr p 0]:=aa o1 hqp mQ;have gR1:ah bs1 (bs.length + 1) = some [.d (u64 0),.d (.str ⟨#[]⟩),.d (u64 0),.d (i64 0),.d (.slice true [])]:=aa o1 (by omega) (by simp);have hs:=EE (by decide) hR s1 z1;have hs40:s.size <= 2 ^ 40:=by omega
 have hcell:=zR s;have hnl:=kg s;have hv:∀ ys lo,frz ⟨bs1 ++ .cells ((dJ s).map (iv .u8)) :: ys,lo⟩ (.row bs1.length 0 s.size none 1) = some (.d (Sl.d u8C ⟨false,dJ s⟩)):=fun ys lo=>by
  rw [← hnl]; exact Ej (by simp) lo
 have k236:=fun lo=>ca0 h404 h378 (nl:=false) (lq s) (by rw [hnl]; exact Nat.le_trans (show s.size <= 65536 by omega) (by decide)) (hv [] lo);have n1':¬ bs1.length = bs.length + 1:=by omega
 have n2':¬ bs1.length + 1 = bs.length + 1:=by omega
 have hlt:bs.length + 1 < bs1.length:=by omega
 have hlt2:bs.length + 1 < bs1.length + 1 + 1:=by omega
 cases hd:nX (dJ s) with
 | none =>
  rw [hd] at k236;obtain ⟨bs2,q1,q2,q3⟩:=JR (E:=E) (r1.lay [.cells ((dJ s).map (iv .u8)),.cells [.d (u64 0),.d (.str ⟨#[]⟩),.d (u64 0),.d (i64 0),.d (.slice true [])]]);have hl2:=q3.1;simp only [List.length_append,List.length_cons,List.length_nil] at hl2;have gT2:ah bs2 (bs1.length + 1) = some [.d (u64 0),.d (.str ⟨#[]⟩),.d (u64 0),.d (i64 0),.d (.slice true [])]:=aa q3 (by omega) (by simp);have gR2:ah bs2 (bs.length + 1) = some [.d (u64 0),.d (.str ⟨#[]⟩),.d (u64 0),.d (i64 0),.d (.slice true [])]:=aa q3 (by omega) (au gR1);have hB:∃ c',Bd E TRd aj Ai [.agg [.ptr p 0]] ⟨bs,bs.length⟩ = some (.agg [.d (u64 0),.d (.str ⟨#[]⟩),.d (u64 0),.d (i64 0),.d (.slice true [])],⟨bs2.set (bs.length + 1) (.cells [.d (u64 0),.d (.str ⟨#[]⟩),.d (u64 0),.d (i64 0),.d (.slice true [])]),c'⟩) /\ c' < bs.length:=by
   refine ⟨min (min (min (F1 bs.length) (bs1.length + 1)) p) (bs.length + 1),?_,by omega⟩;simp (decide:=true) [af,Ai,e1,mQ,sQ,Qd hs40,hcell,k236,Pol.c,Sl.d,storeAt,put,sub,Hp.set,gQ1,fun ys=>au (ys:=ys) gQ1,q1,gT2,gR2,ai,show bs.length + 1 < bs2.length from by omega]
  obtain ⟨c',hB,hc⟩:=hB;have hst:Step (lC 65536) st (⟨0,⟨#[]⟩,0,0,⟨true,[]⟩⟩:Pol) none:=by
   cases st with
   | none=>exact rfl
   | some b =>
    rcases s1.of with ⟨l,h1,h2⟩ | ⟨h1,h2⟩
    · exact Step.fails (by simp only [lC,h1,hd])
    · exact Step.fails (by simp only [lC,h1])
  exact ⟨.agg [.d (u64 0),.d (.str ⟨#[]⟩),.d (u64 0),.d (i64 0),.d (.slice true [])],_,⟨0,⟨#[]⟩,0,0,⟨true,[]⟩⟩,none,bs2.set (bs.length + 1) (.cells [.d (u64 0),.d (.str ⟨#[]⟩),.d (u64 0),.d (i64 0),.d (.slice true [])]),fun lo=>min lo c',fun lo=>dh Pf PN hB hc lo,rfl,Hngs.data (ds:=Pol.c ⟨0,⟨#[]⟩,0,0,⟨true,[]⟩⟩),hst,q2.set' (by omega) _,(((Old.lay bs _).trans o1).trans ((Old.lay bs1 _).trans q3)).set' (by omega) _,fun lo=>Nat.min_le_left _ _⟩
 | some pol =>
  rw [hd] at k236;have hne:st1 ≠ none:=fun h=>by rw [z1 h,FN] at hd; cases hd
  have hst0:st ≠ none:=fun h=>by subst h; exact hne s1
  have a1:=a1 hst0 bs.length;generalize hPc:pol.c.map V.d = Pc at *;have hPl:Pc.length = 5:=by rw [← hPc]; rfl
  have hag:(ag pol.c:V) = .agg Pc:=by rw [← hPc]; rfl
  have hput:put [.d (u64 0),.d (.str ⟨#[]⟩),.d (u64 0),.d (i64 0),.d (.slice true [])] 0 Pc = some Pc:=by simp [put,hPl]
  have hsub:sub Pc 0 5 = some Pc:=bB hPl;simp only [hag] at k236;have hB:∃ c',Bd E TRd aj Ai [.agg [.ptr p 0]] ⟨bs,bs.length⟩ = some (.agg Pc,⟨(bs1 ++ [Blk.cells ((dJ s).map (iv .u8)),Blk.cells Pc]).set (bs.length + 1) (.cells Pc),c'⟩) /\ c' < bs.length:=by
   refine ⟨min (min (F1 bs.length) (bs1.length + 1)) (bs.length + 1),?_,by omega⟩;have hg:∀ ys,ah (bs1.set (bs.length + 1) (.cells Pc) ++ ys) (bs.length + 1) = some Pc:=fun ys=>au (by rw [ai,if_pos rfl,if_pos hlt]);simp (decide:=true) [af,Ai,e1,mQ,sQ,Qd hs40,hcell,k236,hput,hsub,hPl,stv,V.cells,storeAt,Hp.set,fun ys=>au (ys:=ys) gR1,hg,ai,hlt,hlt2]
  obtain ⟨c',hB,hc⟩:=hB;have hst:Step (lC 65536) st pol st1:=by
   cases st with
   | none=>exact absurd rfl hst0
   | some b =>
    rcases s1.of with ⟨l,h1,h2⟩ | ⟨h1,h2⟩
    · rw [h2];exact Step.ok (by simp only [lC,h1,hd])
    · exact absurd h2 hne
  exact ⟨.agg Pc,Pc,pol,st1,_,fun lo=>min lo c',fun lo=>dh Pf PN hB hc lo,rfl,by rw [← hPc]; exact Hngs.data,hst,(r1.lay _).set' (by omega) _,(((Old.lay bs _).trans o1).trans (Old.lay bs1 _)).set' (by omega) _,fun lo=>Nat.min_le_left _ _⟩
theorem Xi {p:Nat} (bs:List Blk):RdsL false E 48 [.agg [.ptr p 0],.d (i64 12),.mfn 49 [.agg [.ptr p 0]]] p (pSl 12 (lC 65536)) Pol.c 1 bs :=
 pu h404 (ay9:TRd 48 = some (listQ 136 5 64 [(.d (u64 0)),(.d (.str ⟨#[]⟩)),(.d (u64 0)),(.d (i64 0)),(.d (.slice true []))])) bg9 (by decide) (by decide) rfl (fun _=>rfl) (g:=49) (args:=[.agg [.ptr p 0]]) (fun _ _=>rfl) rfl rfl (by decide) (by decide) fun bs' _=>by6 h404 h378 bs'
omit h404 h378 in
theorem dltOk.good {d:Dlt} (h:dltOk d):d.ok /\ ∀ p ∈ d.policies.l,p.wf big:=by
 obtain ⟨h1,h2,h3,h4,h5,h6,h7,h8,h9,h10⟩:=h;have sh:∀ {α:Type} {ok:α -> Prop} {s:Sl α} {m:Int},SlOk m ok s -> m <= 38 -> short s:=fun hs hm=>⟨by
  have:=hs.2.1;have hb:(38:Nat) <= big:=by decide
  omega,fun hn=>by rw [hs.1] at hn; exact List.isEmpty_iff.1 hn⟩
 have hw:∀ p ∈ d.policies.l,p.wf big:=fun p hp=>polOk.wf (by decide) (h6.2.2 p hp).1;exact ⟨⟨⟨sh h2 (by decide),sh h3 (by decide),sh h4 (by decide),sh h5 (by decide),sh h6 (by decide),fun p hp=>(hw p hp).fits⟩,sh h7 (by decide),sh h8 (by decide),sh h9 (by decide),sh h10 (by decide)⟩,hw⟩
set_option maxHeartbeats 2000000 in
theorem bu9 (h64:∀ d:Dlt,d.ok -> (∀ p ∈ d.policies.l,p.wf big) -> ∀ (h:Hp) (v:V),frz h v = some (ag d.c) -> E 31 [v] h = some (bl (bR d),h)) {nl:Bool} {l:List Int} (hb:byteL l) (hl:l.length <= big) :
 match tT l with
 | some d=>∃ cs h' K,Bd E TRd aj yw [.d (Sl.d u8C ⟨nl,l⟩)] ⟨[],0⟩ = some (.tup [.agg cs,.d (i64 0)],h') /\ Hngs false K h'.bs 1 cs d.c
 | none=>∃ h',Bd E TRd aj yw [.d (Sl.d u8C ⟨nl,l⟩)] ⟨[],0⟩ = some (.tup [.agg [.d (u64 0),.d (.slice true []),.d (.slice true []),.d (.slice true []),.d (.slice true []),.d (.slice true []),.d (.slice true []),.d (.slice true []),.d (.slice true []),.d (.slice true [])],.d (i64 2)],h'):=by
 obtain ⟨p,M,F0,e0,r0,hp0,hM,hold⟩:=Xu (E:=E) (nl:=nl) hb hl [.cells [.d (u64 0),.d (.slice true []),.d (.slice true []),.d (.slice true []),.d (.slice true []),.d (.slice true []),.d (.slice true []),.d (.slice true []),.d (.slice true []),.d (.slice true [])]];simp only [List.length_cons,List.length_nil] at hp0 hM hold;have hpM:=r0.lt;have g0:ah M 0 = some [.d (u64 0),.d (.slice true []),.d (.slice true []),.d (.slice true []),.d (.slice true []),.d (.slice true []),.d (.slice true []),.d (.slice true []),.d (.slice true []),.d (.slice true [])]:=by unfold ah; rw [hold 0 (by omega)]; rfl
 have hqp:M.length ≠ p:=by omega
 obtain ⟨x1,st1,bs1,F1,e1,s1,z1,r1,o1,l1,n1,a1⟩:=rD h404 (r0.lay [.cells [.ptr p 0],.cells [.d (u64 0),.d (.slice true []),.d (.slice true []),.d (.slice true []),.d (.slice true []),.d (.slice true []),.d (.slice true []),.d (.slice true []),.d (.slice true []),.d (.slice true [])]]);have hl1:=o1.1;simp only [List.length_append,List.length_cons,List.length_nil] at hl1;have mQ1:ah (M ++ [Blk.cells [.ptr p 0],Blk.cells [.d (u64 0),.d (.slice true []),.d (.slice true []),.d (.slice true []),.d (.slice true []),.d (.slice true []),.d (.slice true []),.d (.slice true []),.d (.slice true []),.d (.slice true [])]]) M.length = some [.ptr p 0]:=by simp
 have gQ1:ah bs1 M.length = some [.ptr p 0]:=aa o1 hqp mQ1;have gR1:ah bs1 0 = some [.d (u64 0),.d (.slice true []),.d (.slice true []),.d (.slice true []),.d (.slice true []),.d (.slice true []),.d (.slice true []),.d (.slice true []),.d (.slice true []),.d (.slice true [])]:=aa o1 (by omega) (au g0);have gN1:ah bs1 (M.length + 1) = some [.d (u64 0),.d (.slice true []),.d (.slice true []),.d (.slice true []),.d (.slice true []),.d (.slice true []),.d (.slice true []),.d (.slice true []),.d (.slice true []),.d (.slice true [])]:=aa o1 (by omega) (by simp);have mQ2:ah (bs1.set (M.length + 1) (.cells [.d (u64 x1),.d (.slice true []),.d (.slice true []),.d (.slice true []),.d (.slice true []),.d (.slice true []),.d (.slice true []),.d (.slice true []),.d (.slice true []),.d (.slice true [])])) M.length = some [.ptr p 0]:=by rw [ai,if_neg (by omega)]; exact gQ1
 have mR2:ah (bs1.set (M.length + 1) (.cells [.d (u64 x1),.d (.slice true []),.d (.slice true []),.d (.slice true []),.d (.slice true []),.d (.slice true []),.d (.slice true []),.d (.slice true []),.d (.slice true []),.d (.slice true [])])) 0 = some [.d (u64 0),.d (.slice true []),.d (.slice true []),.d (.slice true []),.d (.slice true []),.d (.slice true []),.d (.slice true []),.d (.slice true []),.d (.slice true []),.d (.slice true [])]:=by rw [ai,if_neg (by omega)]; exact gR1
 have mN2:ah (bs1.set (M.length + 1) (.cells [.d (u64 x1),.d (.slice true []),.d (.slice true []),.d (.slice true []),.d (.slice true []),.d (.slice true []),.d (.slice true []),.d (.slice true []),.d (.slice true []),.d (.slice true [])])) (M.length + 1) = some [.d (u64 x1),.d (.slice true []),.d (.slice true []),.d (.slice true []),.d (.slice true []),.d (.slice true []),.d (.slice true []),.d (.slice true []),.d (.slice true []),.d (.slice true [])]:=by rw [ai,if_pos rfl,if_pos (by omega)]
 obtain ⟨v2,x2,st2,bs2,F2,e2,vc2,hg2,s2,r2,o2,l2,a2,n2⟩:=Xe h404 _ _ (r1.set' (b:=M.length + 1) (by omega) (.cells [.d (u64 x1),.d (.slice true []),.d (.slice true []),.d (.slice true []),.d (.slice true []),.d (.slice true []),.d (.slice true []),.d (.slice true []),.d (.slice true []),.d (.slice true [])]));have hl2:=o2.1;try simp only [List.length_append,List.length_cons,List.length_nil,List.length_set] at hl2
 have gQ2:ah bs2 M.length = some [.ptr p 0]:=aa o2 hqp mQ2;have gR2:ah bs2 0 = some [.d (u64 0),.d (.slice true []),.d (.slice true []),.d (.slice true []),.d (.slice true []),.d (.slice true []),.d (.slice true []),.d (.slice true []),.d (.slice true []),.d (.slice true [])]:=aa o2 (by omega) mR2;have gN2:ah bs2 (M.length + 1) = some [.d (u64 x1),.d (.slice true []),.d (.slice true []),.d (.slice true []),.d (.slice true []),.d (.slice true []),.d (.slice true []),.d (.slice true []),.d (.slice true []),.d (.slice true [])]:=aa o2 (by omega) mN2;have mQ3:ah (bs2.set (M.length + 1) (.cells [.d (u64 x1),v2,.d (.slice true []),.d (.slice true []),.d (.slice true []),.d (.slice true []),.d (.slice true []),.d (.slice true []),.d (.slice true []),.d (.slice true [])])) M.length = some [.ptr p 0]:=by rw [ai,if_neg (by omega)]; exact gQ2
 have mR3:ah (bs2.set (M.length + 1) (.cells [.d (u64 x1),v2,.d (.slice true []),.d (.slice true []),.d (.slice true []),.d (.slice true []),.d (.slice true []),.d (.slice true []),.d (.slice true []),.d (.slice true [])])) 0 = some [.d (u64 0),.d (.slice true []),.d (.slice true []),.d (.slice true []),.d (.slice true []),.d (.slice true []),.d (.slice true []),.d (.slice true []),.d (.slice true []),.d (.slice true [])]:=by rw [ai,if_neg (by omega)]; exact gR2
 have mN3:ah (bs2.set (M.length + 1) (.cells [.d (u64 x1),v2,.d (.slice true []),.d (.slice true []),.d (.slice true []),.d (.slice true []),.d (.slice true []),.d (.slice true []),.d (.slice true []),.d (.slice true [])])) (M.length + 1) = some [.d (u64 x1),v2,.d (.slice true []),.d (.slice true []),.d (.slice true []),.d (.slice true []),.d (.slice true []),.d (.slice true []),.d (.slice true []),.d (.slice true [])]:=by rw [ai,if_pos rfl,if_pos (by omega)]
 obtain ⟨v3,x3,st3,bs3,F3,e3,vc3,hg3,s3,r3,o3,l3,a3,n3⟩:=Xf h404 _ _ (r2.set' (b:=M.length + 1) (by omega) (.cells [.d (u64 x1),v2,.d (.slice true []),.d (.slice true []),.d (.slice true []),.d (.slice true []),.d (.slice true []),.d (.slice true []),.d (.slice true []),.d (.slice true [])]));have hl3:=o3.1;try simp only [List.length_append,List.length_cons,List.length_nil,List.length_set] at hl3
 have gQ3:ah bs3 M.length = some [.ptr p 0]:=aa o3 hqp mQ3;have gR3:ah bs3 0 = some [.d (u64 0),.d (.slice true []),.d (.slice true []),.d (.slice true []),.d (.slice true []),.d (.slice true []),.d (.slice true []),.d (.slice true []),.d (.slice true []),.d (.slice true [])]:=aa o3 (by omega) mR3;have gN3:ah bs3 (M.length + 1) = some [.d (u64 x1),v2,.d (.slice true []),.d (.slice true []),.d (.slice true []),.d (.slice true []),.d (.slice true []),.d (.slice true []),.d (.slice true []),.d (.slice true [])]:=aa o3 (by omega) mN3;have mQ4:ah (bs3.set (M.length + 1) (.cells [.d (u64 x1),v2,v3,.d (.slice true []),.d (.slice true []),.d (.slice true []),.d (.slice true []),.d (.slice true []),.d (.slice true []),.d (.slice true [])])) M.length = some [.ptr p 0]:=by rw [ai,if_neg (by omega)]; exact gQ3
 have mR4:ah (bs3.set (M.length + 1) (.cells [.d (u64 x1),v2,v3,.d (.slice true []),.d (.slice true []),.d (.slice true []),.d (.slice true []),.d (.slice true []),.d (.slice true []),.d (.slice true [])])) 0 = some [.d (u64 0),.d (.slice true []),.d (.slice true []),.d (.slice true []),.d (.slice true []),.d (.slice true []),.d (.slice true []),.d (.slice true []),.d (.slice true []),.d (.slice true [])]:=by rw [ai,if_neg (by omega)]; exact gR3
 have mN4:ah (bs3.set (M.length + 1) (.cells [.d (u64 x1),v2,v3,.d (.slice true []),.d (.slice true []),.d (.slice true []),.d (.slice true []),.d (.slice true []),.d (.slice true []),.d (.slice true [])])) (M.length + 1) = some [.d (u64 x1),v2,v3,.d (.slice true []),.d (.slice true []),.d (.slice true []),.d (.slice true []),.d (.slice true []),.d (.slice true []),.d (.slice true [])]:=by rw [ai,if_pos rfl,if_pos (by omega)]
 obtain ⟨v4,x4,st4,bs4,F4,e4,vc4,hg4,s4,r4,o4,l4,a4,n4⟩:=Xg h404 _ _ (r3.set' (b:=M.length + 1) (by omega) (.cells [.d (u64 x1),v2,v3,.d (.slice true []),.d (.slice true []),.d (.slice true []),.d (.slice true []),.d (.slice true []),.d (.slice true []),.d (.slice true [])]));have hl4:=o4.1;try simp only [List.length_append,List.length_cons,List.length_nil,List.length_set] at hl4
 have gQ4:ah bs4 M.length = some [.ptr p 0]:=aa o4 hqp mQ4;have gR4:ah bs4 0 = some [.d (u64 0),.d (.slice true []),.d (.slice true []),.d (.slice true []),.d (.slice true []),.d (.slice true []),.d (.slice true []),.d (.slice true []),.d (.slice true []),.d (.slice true [])]:=aa o4 (by omega) mR4;have gN4:ah bs4 (M.length + 1) = some [.d (u64 x1),v2,v3,.d (.slice true []),.d (.slice true []),.d (.slice true []),.d (.slice true []),.d (.slice true []),.d (.slice true []),.d (.slice true [])]:=aa o4 (by omega) mN4;have mQ5:ah (bs4.set (M.length + 1) (.cells [.d (u64 x1),v2,v3,v4,.d (.slice true []),.d (.slice true []),.d (.slice true []),.d (.slice true []),.d (.slice true []),.d (.slice true [])])) M.length = some [.ptr p 0]:=by rw [ai,if_neg (by omega)]; exact gQ4
 have mR5:ah (bs4.set (M.length + 1) (.cells [.d (u64 x1),v2,v3,v4,.d (.slice true []),.d (.slice true []),.d (.slice true []),.d (.slice true []),.d (.slice true []),.d (.slice true [])])) 0 = some [.d (u64 0),.d (.slice true []),.d (.slice true []),.d (.slice true []),.d (.slice true []),.d (.slice true []),.d (.slice true []),.d (.slice true []),.d (.slice true []),.d (.slice true [])]:=by rw [ai,if_neg (by omega)]; exact gR4
 have mN5:ah (bs4.set (M.length + 1) (.cells [.d (u64 x1),v2,v3,v4,.d (.slice true []),.d (.slice true []),.d (.slice true []),.d (.slice true []),.d (.slice true []),.d (.slice true [])])) (M.length + 1) = some [.d (u64 x1),v2,v3,v4,.d (.slice true []),.d (.slice true []),.d (.slice true []),.d (.slice true []),.d (.slice true []),.d (.slice true [])]:=by rw [ai,if_pos rfl,if_pos (by omega)]
 obtain ⟨v5,x5,st5,bs5,F5,e5,vc5,hg5,s5,r5,o5,l5,a5,n5⟩:=Xh h404 _ _ (r4.set' (b:=M.length + 1) (by omega) (.cells [.d (u64 x1),v2,v3,v4,.d (.slice true []),.d (.slice true []),.d (.slice true []),.d (.slice true []),.d (.slice true []),.d (.slice true [])]));have hl5:=o5.1;try simp only [List.length_append,List.length_cons,List.length_nil,List.length_set] at hl5
 have gQ5:ah bs5 M.length = some [.ptr p 0]:=aa o5 hqp mQ5;have gR5:ah bs5 0 = some [.d (u64 0),.d (.slice true []),.d (.slice true []),.d (.slice true []),.d (.slice true []),.d (.slice true []),.d (.slice true []),.d (.slice true []),.d (.slice true []),.d (.slice true [])]:=aa o5 (by omega) mR5;have gN5:ah bs5 (M.length + 1) = some [.d (u64 x1),v2,v3,v4,.d (.slice true []),.d (.slice true []),.d (.slice true []),.d (.slice true []),.d (.slice true []),.d (.slice true [])]:=aa o5 (by omega) mN5;have mQ6:ah (bs5.set (M.length + 1) (.cells [.d (u64 x1),v2,v3,v4,v5,.d (.slice true []),.d (.slice true []),.d (.slice true []),.d (.slice true []),.d (.slice true [])])) M.length = some [.ptr p 0]:=by rw [ai,if_neg (by omega)]; exact gQ5
 have mR6:ah (bs5.set (M.length + 1) (.cells [.d (u64 x1),v2,v3,v4,v5,.d (.slice true []),.d (.slice true []),.d (.slice true []),.d (.slice true []),.d (.slice true [])])) 0 = some [.d (u64 0),.d (.slice true []),.d (.slice true []),.d (.slice true []),.d (.slice true []),.d (.slice true []),.d (.slice true []),.d (.slice true []),.d (.slice true []),.d (.slice true [])]:=by rw [ai,if_neg (by omega)]; exact gR5
 have mN6:ah (bs5.set (M.length + 1) (.cells [.d (u64 x1),v2,v3,v4,v5,.d (.slice true []),.d (.slice true []),.d (.slice true []),.d (.slice true []),.d (.slice true [])])) (M.length + 1) = some [.d (u64 x1),v2,v3,v4,v5,.d (.slice true []),.d (.slice true []),.d (.slice true []),.d (.slice true []),.d (.slice true [])]:=by rw [ai,if_pos rfl,if_pos (by omega)]
 obtain ⟨v6,x6,st6,bs6,F6,e6,vc6,hg6,s6,r6,o6,l6,a6,n6⟩:=Xi h404 h378 _ _ (r5.set' (b:=M.length + 1) (by omega) (.cells [.d (u64 x1),v2,v3,v4,v5,.d (.slice true []),.d (.slice true []),.d (.slice true []),.d (.slice true []),.d (.slice true [])]));have hl6:=o6.1;try simp only [List.length_append,List.length_cons,List.length_nil,List.length_set] at hl6
 have gQ6:ah bs6 M.length = some [.ptr p 0]:=aa o6 hqp mQ6;have gR6:ah bs6 0 = some [.d (u64 0),.d (.slice true []),.d (.slice true []),.d (.slice true []),.d (.slice true []),.d (.slice true []),.d (.slice true []),.d (.slice true []),.d (.slice true []),.d (.slice true [])]:=aa o6 (by omega) mR6;have gN6:ah bs6 (M.length + 1) = some [.d (u64 x1),v2,v3,v4,v5,.d (.slice true []),.d (.slice true []),.d (.slice true []),.d (.slice true []),.d (.slice true [])]:=aa o6 (by omega) mN6;have mQ7:ah (bs6.set (M.length + 1) (.cells [.d (u64 x1),v2,v3,v4,v5,v6,.d (.slice true []),.d (.slice true []),.d (.slice true []),.d (.slice true [])])) M.length = some [.ptr p 0]:=by rw [ai,if_neg (by omega)]; exact gQ6
 have mR7:ah (bs6.set (M.length + 1) (.cells [.d (u64 x1),v2,v3,v4,v5,v6,.d (.slice true []),.d (.slice true []),.d (.slice true []),.d (.slice true [])])) 0 = some [.d (u64 0),.d (.slice true []),.d (.slice true []),.d (.slice true []),.d (.slice true []),.d (.slice true []),.d (.slice true []),.d (.slice true []),.d (.slice true []),.d (.slice true [])]:=by rw [ai,if_neg (by omega)]; exact gR6
 have mN7:ah (bs6.set (M.length + 1) (.cells [.d (u64 x1),v2,v3,v4,v5,v6,.d (.slice true []),.d (.slice true []),.d (.slice true []),.d (.slice true [])])) (M.length + 1) = some [.d (u64 x1),v2,v3,v4,v5,v6,.d (.slice true []),.d (.slice true []),.d (.slice true []),.d (.slice true [])]:=by rw [ai,if_pos rfl,if_pos (by omega)]
 obtain ⟨v7,x7,st7,bs7,F7,e7,vc7,hg7,s7,r7,o7,l7,a7,n7⟩:=BA h404 _ (most:=16) (by decide) (by decide) _ (r6.set' (b:=M.length + 1) (by omega) (.cells [.d (u64 x1),v2,v3,v4,v5,v6,.d (.slice true []),.d (.slice true []),.d (.slice true []),.d (.slice true [])]));have hl7:=o7.1;try simp only [List.length_append,List.length_cons,List.length_nil,List.length_set] at hl7
 have gQ7:ah bs7 M.length = some [.ptr p 0]:=aa o7 hqp mQ7;have gR7:ah bs7 0 = some [.d (u64 0),.d (.slice true []),.d (.slice true []),.d (.slice true []),.d (.slice true []),.d (.slice true []),.d (.slice true []),.d (.slice true []),.d (.slice true []),.d (.slice true [])]:=aa o7 (by omega) mR7;have gN7:ah bs7 (M.length + 1) = some [.d (u64 x1),v2,v3,v4,v5,v6,.d (.slice true []),.d (.slice true []),.d (.slice true []),.d (.slice true [])]:=aa o7 (by omega) mN7;have mQ8:=gQ7;have mR8:=gR7;have mN8:=gN7;obtain ⟨v8,x8,st8,bs8,F8,e8,vc8,hg8,s8,r8,o8,l8,a8,n8⟩:=BA h404 _ (most:=6) (by decide) (by decide) _ r7;have hl8:=o8.1;try simp only [List.length_append,List.length_cons,List.length_nil,List.length_set] at hl8
 have gQ8:ah bs8 M.length = some [.ptr p 0]:=aa o8 hqp mQ8;have gR8:ah bs8 0 = some [.d (u64 0),.d (.slice true []),.d (.slice true []),.d (.slice true []),.d (.slice true []),.d (.slice true []),.d (.slice true []),.d (.slice true []),.d (.slice true []),.d (.slice true [])]:=aa o8 (by omega) mR8;have gN8:ah bs8 (M.length + 1) = some [.d (u64 x1),v2,v3,v4,v5,v6,.d (.slice true []),.d (.slice true []),.d (.slice true []),.d (.slice true [])]:=aa o8 (by omega) mN8;have mQ9:ah (bs8.set (M.length + 1) (.cells [.d (u64 x1),v2,v3,v4,v5,v6,v7,v8,.d (.slice true []),.d (.slice true [])])) M.length = some [.ptr p 0]:=by rw [ai,if_neg (by omega)]; exact gQ8
 have mR9:ah (bs8.set (M.length + 1) (.cells [.d (u64 x1),v2,v3,v4,v5,v6,v7,v8,.d (.slice true []),.d (.slice true [])])) 0 = some [.d (u64 0),.d (.slice true []),.d (.slice true []),.d (.slice true []),.d (.slice true []),.d (.slice true []),.d (.slice true []),.d (.slice true []),.d (.slice true []),.d (.slice true [])]:=by rw [ai,if_neg (by omega)]; exact gR8
 have mN9:ah (bs8.set (M.length + 1) (.cells [.d (u64 x1),v2,v3,v4,v5,v6,v7,v8,.d (.slice true []),.d (.slice true [])])) (M.length + 1) = some [.d (u64 x1),v2,v3,v4,v5,v6,v7,v8,.d (.slice true []),.d (.slice true [])]:=by rw [ai,if_pos rfl,if_pos (by omega)]
 obtain ⟨v9,x9,st9,bs9,F9,e9,vc9,hg9,s9,r9,o9,l9,a9,n9⟩:=BA h404 _ (most:=4) (by decide) (by decide) _ (r8.set' (b:=M.length + 1) (by omega) (.cells [.d (u64 x1),v2,v3,v4,v5,v6,v7,v8,.d (.slice true []),.d (.slice true [])]));have hl9:=o9.1;try simp only [List.length_append,List.length_cons,List.length_nil,List.length_set] at hl9
 have gQ9:ah bs9 M.length = some [.ptr p 0]:=aa o9 hqp mQ9;have gR9:ah bs9 0 = some [.d (u64 0),.d (.slice true []),.d (.slice true []),.d (.slice true []),.d (.slice true []),.d (.slice true []),.d (.slice true []),.d (.slice true []),.d (.slice true []),.d (.slice true [])]:=aa o9 (by omega) mR9;have gN9:ah bs9 (M.length + 1) = some [.d (u64 x1),v2,v3,v4,v5,v6,v7,v8,.d (.slice true []),.d (.slice true [])]:=aa o9 (by omega) mN9;have mQ10:=gQ9;have mR10:=gR9;have mN10:=gN9;obtain ⟨v10,x10,st10,bs10,F10,e10,vc10,hg10,s10,r10,o10,l10,a10,n10⟩:=BA h404 _ (most:=12) (by decide) (by decide) _ r9;have hl10:=o10.1;try simp only [List.length_append,List.length_cons,List.length_nil,List.length_set] at hl10
 have gQ10:ah bs10 M.length = some [.ptr p 0]:=aa o10 hqp mQ10;have gR10:ah bs10 0 = some [.d (u64 0),.d (.slice true []),.d (.slice true []),.d (.slice true []),.d (.slice true []),.d (.slice true []),.d (.slice true []),.d (.slice true []),.d (.slice true []),.d (.slice true [])]:=aa o10 (by omega) mR10;have gN10:ah bs10 (M.length + 1) = some [.d (u64 x1),v2,v3,v4,v5,v6,v7,v8,.d (.slice true []),.d (.slice true [])]:=aa o10 (by omega) mN10;have mQ11:ah (bs10.set (M.length + 1) (.cells [.d (u64 x1),v2,v3,v4,v5,v6,v7,v8,v9,v10])) M.length = some [.ptr p 0]:=by rw [ai,if_neg (by omega)]; exact gQ10
 have mR11:ah (bs10.set (M.length + 1) (.cells [.d (u64 x1),v2,v3,v4,v5,v6,v7,v8,v9,v10])) 0 = some [.d (u64 0),.d (.slice true []),.d (.slice true []),.d (.slice true []),.d (.slice true []),.d (.slice true []),.d (.slice true []),.d (.slice true []),.d (.slice true []),.d (.slice true [])]:=by rw [ai,if_neg (by omega)]; exact gR10
 have mN11:ah (bs10.set (M.length + 1) (.cells [.d (u64 x1),v2,v3,v4,v5,v6,v7,v8,v9,v10])) (M.length + 1) = some [.d (u64 x1),v2,v3,v4,v5,v6,v7,v8,v9,v10]:=by rw [ai,if_pos rfl,if_pos (by omega)]
 obtain ⟨bs11,F11,e11,o11,l11⟩:=WG (E:=E) (r10.set' (b:=M.length + 1) (by omega) (.cells [.d (u64 x1),v2,v3,v4,v5,v6,v7,v8,v9,v10]));have hl11:=o11.1;try simp only [List.length_append,List.length_cons,List.length_nil,List.length_set] at hl11
 have gQ11:ah bs11 M.length = some [.ptr p 0]:=aa o11 hqp mQ11;have gR11:ah bs11 0 = some [.d (u64 0),.d (.slice true []),.d (.slice true []),.d (.slice true []),.d (.slice true []),.d (.slice true []),.d (.slice true []),.d (.slice true []),.d (.slice true []),.d (.slice true [])]:=aa o11 (by omega) mR11;have gN11:ah bs11 (M.length + 1) = some [.d (u64 x1),v2,v3,v4,v5,v6,v7,v8,v9,v10]:=aa o11 (by omega) mN11;have hS:Step K3 (some l) ⟨x1,x2,x3,x4,x5,x6,x7,x8,x9,x10⟩ st10:=Step.map (fun x:Int × Sl Int × Sl Pod × Sl Svc × Sl Way × Sl Pol × Sl Int × Sl Int × Sl Int × Sl Int=>(⟨x.1,x.2.1,x.2.2.1,x.2.2.2.1,x.2.2.2.2.1,x.2.2.2.2.2.1,x.2.2.2.2.2.2.1,x.2.2.2.2.2.2.2.1,x.2.2.2.2.2.2.2.2.1,x.2.2.2.2.2.2.2.2.2⟩:Dlt)) (s1.seq (s2.seq (s3.seq (s4.seq (s5.seq (s6.seq (s7.seq (s8.seq (s9.seq s10)))))))));have w10:∀ x,x ≠ p -> x ≠ (M.length + 1) -> x < bs10.length -> bs11[x]? = bs10[x]?:=fun x y1 y2 h=>by rw [o11.2 x y1 (by simp; omega),List.getElem?_set_ne (Ne.symm y2)]
 have w9:∀ x,x ≠ p -> x ≠ (M.length + 1) -> x < bs9.length -> bs11[x]? = bs9[x]?:=fun x y1 y2 h=>by rw [w10 x y1 y2 (by omega),o10.2 x y1 (by omega)]
 have w8:∀ x,x ≠ p -> x ≠ (M.length + 1) -> x < bs8.length -> bs11[x]? = bs8[x]?:=fun x y1 y2 h=>by rw [w9 x y1 y2 (by omega),o9.2 x y1 (by simp; omega),List.getElem?_set_ne (Ne.symm y2)]
 have w7:∀ x,x ≠ p -> x ≠ (M.length + 1) -> x < bs7.length -> bs11[x]? = bs7[x]?:=fun x y1 y2 h=>by rw [w8 x y1 y2 (by omega),o8.2 x y1 (by omega)]
 have w6:∀ x,x ≠ p -> x ≠ (M.length + 1) -> x < bs6.length -> bs11[x]? = bs6[x]?:=fun x y1 y2 h=>by rw [w7 x y1 y2 (by omega),o7.2 x y1 (by simp; omega),List.getElem?_set_ne (Ne.symm y2)]
 have w5:∀ x,x ≠ p -> x ≠ (M.length + 1) -> x < bs5.length -> bs11[x]? = bs5[x]?:=fun x y1 y2 h=>by rw [w6 x y1 y2 (by omega),o6.2 x y1 (by simp; omega),List.getElem?_set_ne (Ne.symm y2)]
 have w4:∀ x,x ≠ p -> x ≠ (M.length + 1) -> x < bs4.length -> bs11[x]? = bs4[x]?:=fun x y1 y2 h=>by rw [w5 x y1 y2 (by omega),o5.2 x y1 (by simp; omega),List.getElem?_set_ne (Ne.symm y2)]
 have w3:∀ x,x ≠ p -> x ≠ (M.length + 1) -> x < bs3.length -> bs11[x]? = bs3[x]?:=fun x y1 y2 h=>by rw [w4 x y1 y2 (by omega),o4.2 x y1 (by simp; omega),List.getElem?_set_ne (Ne.symm y2)]
 have w2:∀ x,x ≠ p -> x ≠ (M.length + 1) -> x < bs2.length -> bs11[x]? = bs2[x]?:=fun x y1 y2 h=>by rw [w3 x y1 y2 (by omega),o3.2 x y1 (by simp; omega),List.getElem?_set_ne (Ne.symm y2)]
 have hh2:Hng false (fun x=>bs1.length <= x) bs11 v2 (Sl.d di x2) 1:=(hg2.weak).on (fun x hx=>by
  have h1:=hx.1;try simp only [List.length_set] at h1
  exact w2 x (by omega) (by omega) hx.2) fun x hx=>by
  have h1:=hx.1;try simp only [List.length_set] at h1
  show bs1.length <= x;omega
 have hh3:Hng false (fun x=>bs1.length <= x) bs11 v3 (Sl.d Pod.c x3) 1:=(hg3.weak).on (fun x hx=>by
  have h1:=hx.1;try simp only [List.length_set] at h1
  exact w3 x (by omega) (by omega) hx.2) fun x hx=>by
  have h1:=hx.1;try simp only [List.length_set] at h1
  show bs1.length <= x;omega
 have hh4:Hng false (fun x=>bs1.length <= x) bs11 v4 (Sl.d Svc.c x4) 1:=(hg4.weak).on (fun x hx=>by
  have h1:=hx.1;try simp only [List.length_set] at h1
  exact w4 x (by omega) (by omega) hx.2) fun x hx=>by
  have h1:=hx.1;try simp only [List.length_set] at h1
  show bs1.length <= x;omega
 have hh5:Hng false (fun x=>bs1.length <= x) bs11 v5 (Sl.d Way.c x5) 1:=(hg5.weak).on (fun x hx=>by
  have h1:=hx.1;try simp only [List.length_set] at h1
  exact w5 x (by omega) (by omega) hx.2) fun x hx=>by
  have h1:=hx.1;try simp only [List.length_set] at h1
  show bs1.length <= x;omega
 have hh6:Hng false (fun x=>bs1.length <= x) bs11 v6 (Sl.d Pol.c x6) 1:=(hg6).on (fun x hx=>by
  have h1:=hx.1;try simp only [List.length_set] at h1
  exact w6 x (by omega) (by omega) hx.2) fun x hx=>by
  have h1:=hx.1;try simp only [List.length_set] at h1
  show bs1.length <= x;omega
 have hh7:Hng false (fun x=>bs1.length <= x) bs11 v7 (Sl.d aY x7) 1:=(hg7.weak).on (fun x hx=>by
  have h1:=hx.1;try simp only [List.length_set] at h1
  exact w7 x (by omega) (by omega) hx.2) fun x hx=>by
  have h1:=hx.1;try simp only [List.length_set] at h1
  show bs1.length <= x;omega
 have hh8:Hng false (fun x=>bs1.length <= x) bs11 v8 (Sl.d aY x8) 1:=(hg8.weak).on (fun x hx=>by
  have h1:=hx.1;try simp only [List.length_set] at h1
  exact w8 x (by omega) (by omega) hx.2) fun x hx=>by
  have h1:=hx.1;try simp only [List.length_set] at h1
  show bs1.length <= x;omega
 have hh9:Hng false (fun x=>bs1.length <= x) bs11 v9 (Sl.d aY x9) 1:=(hg9.weak).on (fun x hx=>by
  have h1:=hx.1;try simp only [List.length_set] at h1
  exact w9 x (by omega) (by omega) hx.2) fun x hx=>by
  have h1:=hx.1;try simp only [List.length_set] at h1
  show bs1.length <= x;omega
 have hh10:Hng false (fun x=>bs1.length <= x) bs11 v10 (Sl.d aY x10) 1:=(hg10.weak).on (fun x hx=>by
  have h1:=hx.1;try simp only [List.length_set] at h1
  exact w10 x (by omega) (by omega) hx.2) fun x hx=>by
  have h1:=hx.1;try simp only [List.length_set] at h1
  show bs1.length <= x;omega
 have hcs:Hngs false (fun x=>bs1.length <= x) bs11 1 [.d (u64 x1),v2,v3,v4,v5,v6,v7,v8,v9,v10] (Dlt.c ⟨x1,x2,x3,x4,x5,x6,x7,x8,x9,x10⟩):=⟨Hng.data,hh2,hh3,hh4,hh5,hh6,hh7,hh8,hh9,hh10,trivial⟩;have hfrz:∀ lo,frz ⟨bs11,lo⟩ (.agg [.d (u64 x1),v2,v3,v4,v5,v6,v7,v8,v9,v10]) = some (ag (Dlt.c ⟨x1,x2,x3,x4,x5,x6,x7,x8,x9,x10⟩)):=fun lo=>by
  have:=(Hngs.mapM (lo:=lo) (fun _ _=>rfl) (show 1 <= 8 by decide) hcs).1;simp only [frz,dD,fC,this];rfl
 have hK7:∀ b ∈ [M.length],b ≠ p /\ ∃ cs,ah (bs6.set (M.length + 1) (.cells [.d (u64 x1),v2,v3,v4,v5,v6,.d (.slice true []),.d (.slice true []),.d (.slice true []),.d (.slice true [])])) b = some cs /\ bS cs cs = true:=fun b hb=>by simp only [List.mem_singleton] at hb; subst hb; exact ⟨hqp,_,mQ7,by simp [bS,gF]⟩
 have hK8:∀ b ∈ [M.length],b ≠ p /\ ∃ cs,ah bs7 b = some cs /\ bS cs cs = true:=fun b hb=>by simp only [List.mem_singleton] at hb; subst hb; exact ⟨hqp,_,mQ8,by simp [bS,gF]⟩
 have hK9:∀ b ∈ [M.length],b ≠ p /\ ∃ cs,ah (bs8.set (M.length + 1) (.cells [.d (u64 x1),v2,v3,v4,v5,v6,v7,v8,.d (.slice true []),.d (.slice true [])])) b = some cs /\ bS cs cs = true:=fun b hb=>by simp only [List.mem_singleton] at hb; subst hb; exact ⟨hqp,_,mQ9,by simp [bS,gF]⟩
 have hK10:∀ b ∈ [M.length],b ≠ p /\ ∃ cs,ah bs9 b = some cs /\ bS cs cs = true:=fun b hb=>by simp only [List.mem_singleton] at hb; subst hb; exact ⟨hqp,_,mQ10,by simp [bS,gF]⟩
 obtain ⟨t7,G7,h7,T7,_⟩:=bO e7 (by simp only [List.length_set]; omega) o7 (st:=st6) n7 a7 hK7 (m:=bs8.length) (by simp only [List.length_set]; omega);obtain ⟨t8,G8,h8,T8,_⟩:=bO e8 (by omega) o8 (st:=st7) n8 a8 hK8 (m:=bs8.length) (by omega);obtain ⟨t9,G9,h9,T9,_⟩:=bO e9 (by simp only [List.length_set]; omega) o9 (st:=st8) n9 a9 hK9 (m:=bs10.length) (by simp only [List.length_set]; omega);obtain ⟨t10,G10,h10,T10,_⟩:=bO e10 (by omega) o10 (st:=st9) n10 a10 hK10 (m:=bs10.length) (by omega);have q1:¬ (M.length + 1) = 0:=by omega
 have q2:¬ M.length = 0:=by omega
 have q3:¬ (M.length + 1) = M.length:=by omega
 have q4:¬ M.length = (M.length + 1):=by omega
 have m1:(M.length + 1) < bs1.length:=by omega
 have m2:(M.length + 1) < bs2.length:=by omega
 have m3:(M.length + 1) < bs3.length:=by omega
 have m4:(M.length + 1) < bs4.length:=by omega
 have m5:(M.length + 1) < bs5.length:=by omega
 have m6:(M.length + 1) < bs6.length:=by omega
 have m7:(M.length + 1) < bs7.length:=by omega
 have m8:(M.length + 1) < bs8.length:=by omega
 have m9:(M.length + 1) < bs9.length:=by omega
 have m10:(M.length + 1) < bs10.length:=by omega
 have m11:(M.length + 1) < bs11.length:=by omega
 have m0:0 < bs11.length:=by omega
 by_cases he:st10 = some []
 · rw [if_pos he] at e11;have hpp:K3 l = some (⟨x1,x2,x3,x4,x5,x6,x7,x8,x9,x10⟩,[]):=by
    rcases hS.of with ⟨l',h1,h2⟩ | ⟨h1,h2⟩
    · rw [he] at h2;cases h2;exact h1
    · rw [he] at h2; cases h2
   obtain ⟨hok1,hok2⟩:=(dlt_cod.bwd l _ _ hb hpp).2.good;have k64:∀ lo,Sm E TRd aj 31 [.agg [.d (u64 x1),v2,v3,v4,v5,v6,v7,v8,v9,v10]] ⟨bs11,lo⟩ = some (bl (bR ⟨x1,x2,x3,x4,x5,x6,x7,x8,x9,x10⟩),⟨bs11,lo⟩):=fun lo=>(aJ db0).trans (h64 _ hok1 hok2 ⟨bs11,lo⟩ _ (hfrz lo));have hd:tT l = if bR ⟨x1,x2,x3,x4,x5,x6,x7,x8,x9,x10⟩ = true then some ⟨x1,x2,x3,x4,x5,x6,x7,x8,x9,x10⟩ else none:=by simp only [tT,hpp]
   rw [hd];cases hm:bR ⟨x1,x2,x3,x4,x5,x6,x7,x8,x9,x10⟩ with
   | true =>
    simp only [hm] at k64;rw [if_pos rfl];refine ⟨[.d (u64 x1),v2,v3,v4,v5,v6,v7,v8,v9,v10],⟨bs11.set 0 (.cells [.d (u64 x1),v2,v3,v4,v5,v6,v7,v8,v9,v10]),0⟩,fun x=>bs1.length <= x,?_,hcs.on (fun x hx=>by have h1:bs1.length <= x:=hx; rw [List.getElem?_set_ne (by omega)]) fun _ h=>h⟩
    simp (decide:=true) [af,yw,h7,h8,h9,h10,e0,e1,e2,e3,e4,e5,e6,e11,vc2.1,vc2.2,vc3.1,vc3.2,vc4.1,vc4.2,vc5.1,vc5.2,vc6.1,vc6.2,vc7.1,vc7.2,vc8.1,vc8.2,vc9.1,vc9.2,vc10.1,vc10.2,aA,storeAt,put,sub,Hp.set,mQ1,gQ1,mQ2,gQ2,mQ3,gQ3,mQ4,gQ4,mQ5,gQ5,mQ6,gQ6,mQ7,gQ7,mQ8,gQ8,mQ9,gQ9,mQ10,gQ10,mQ11,gQ11,gN1,mN2,gN2,mN3,gN3,mN4,gN4,mN5,gN5,mN6,gN6,mN7,gN7,mN8,gN8,mN9,gN9,mN10,gN10,mN11,gN11,gR11,ai,q1,q2,q3,q4,m0,m1,m2,m3,m4,m5,m6,m7,m8,m9,m10,m11,aG,aN,aV,k64]; rw [if_pos (dz [M.length] bs8.length [0,0,0,0,1,0,0,0,0,1,0,2,0,2] (by rfl) (by simp [ClsOk,Cls,Quiet,Sto,Lay,T7,T8,q3,q4]))]; simp (decide:=true) [h7,h8,h9,h10,e0,e1,e2,e3,e4,e5,e6,e11,vc2.1,vc2.2,vc3.1,vc3.2,vc4.1,vc4.2,vc5.1,vc5.2,vc6.1,vc6.2,vc7.1,vc7.2,vc8.1,vc8.2,vc9.1,vc9.2,vc10.1,vc10.2,aA,storeAt,put,sub,Hp.set,mQ1,gQ1,mQ2,gQ2,mQ3,gQ3,mQ4,gQ4,mQ5,gQ5,mQ6,gQ6,mQ7,gQ7,mQ8,gQ8,mQ9,gQ9,mQ10,gQ10,mQ11,gQ11,gN1,mN2,gN2,mN3,gN3,mN4,gN4,mN5,gN5,mN6,gN6,mN7,gN7,mN8,gN8,mN9,gN9,mN10,gN10,mN11,gN11,gR11,ai,q1,q2,q3,q4,m0,m1,m2,m3,m4,m5,m6,m7,m8,m9,m10,m11,aG,aN,aV,k64]; rw [if_pos (dz [M.length] bs10.length [0,0,0,0,1,0,0,0,0,1,0,2,0,2] (by rfl) (by simp [ClsOk,Cls,Quiet,Sto,Lay,T9,T10,q3,q4]))]; simp (decide:=true) [h7,h8,h9,h10,e0,e1,e2,e3,e4,e5,e6,e11,vc2.1,vc2.2,vc3.1,vc3.2,vc4.1,vc4.2,vc5.1,vc5.2,vc6.1,vc6.2,vc7.1,vc7.2,vc8.1,vc8.2,vc9.1,vc9.2,vc10.1,vc10.2,aA,storeAt,put,sub,Hp.set,mQ1,gQ1,mQ2,gQ2,mQ3,gQ3,mQ4,gQ4,mQ5,gQ5,mQ6,gQ6,mQ7,gQ7,mQ8,gQ8,mQ9,gQ9,mQ10,gQ10,mQ11,gQ11,gN1,mN2,gN2,mN3,gN3,mN4,gN4,mN5,gN5,mN6,gN6,mN7,gN7,mN8,gN8,mN9,gN9,mN10,gN10,mN11,gN11,gR11,ai,q1,q2,q3,q4,m0,m1,m2,m3,m4,m5,m6,m7,m8,m9,m10,m11,aG,aN,aV,k64]
   | false =>
    simp only [hm] at k64;rw [if_neg (by decide)]
    exact ⟨_,by simp (decide:=true) [af,yw,h7,h8,h9,h10,e0,e1,e2,e3,e4,e5,e6,e11,vc2.1,vc2.2,vc3.1,vc3.2,vc4.1,vc4.2,vc5.1,vc5.2,vc6.1,vc6.2,vc7.1,vc7.2,vc8.1,vc8.2,vc9.1,vc9.2,vc10.1,vc10.2,aA,storeAt,put,sub,Hp.set,mQ1,gQ1,mQ2,gQ2,mQ3,gQ3,mQ4,gQ4,mQ5,gQ5,mQ6,gQ6,mQ7,gQ7,mQ8,gQ8,mQ9,gQ9,mQ10,gQ10,mQ11,gQ11,gN1,mN2,gN2,mN3,gN3,mN4,gN4,mN5,gN5,mN6,gN6,mN7,gN7,mN8,gN8,mN9,gN9,mN10,gN10,mN11,gN11,gR11,ai,q1,q2,q3,q4,m0,m1,m2,m3,m4,m5,m6,m7,m8,m9,m10,m11,aG,aN,aV,k64]; rw [if_pos (dz [M.length] bs8.length [0,0,0,0,1,0,0,0,0,1,0,2,0,2] (by rfl) (by simp [ClsOk,Cls,Quiet,Sto,Lay,T7,T8,q3,q4]))]; simp (decide:=true) [h7,h8,h9,h10,e0,e1,e2,e3,e4,e5,e6,e11,vc2.1,vc2.2,vc3.1,vc3.2,vc4.1,vc4.2,vc5.1,vc5.2,vc6.1,vc6.2,vc7.1,vc7.2,vc8.1,vc8.2,vc9.1,vc9.2,vc10.1,vc10.2,aA,storeAt,put,sub,Hp.set,mQ1,gQ1,mQ2,gQ2,mQ3,gQ3,mQ4,gQ4,mQ5,gQ5,mQ6,gQ6,mQ7,gQ7,mQ8,gQ8,mQ9,gQ9,mQ10,gQ10,mQ11,gQ11,gN1,mN2,gN2,mN3,gN3,mN4,gN4,mN5,gN5,mN6,gN6,mN7,gN7,mN8,gN8,mN9,gN9,mN10,gN10,mN11,gN11,gR11,ai,q1,q2,q3,q4,m0,m1,m2,m3,m4,m5,m6,m7,m8,m9,m10,m11,aG,aN,aV,k64]; rw [if_pos (dz [M.length] bs10.length [0,0,0,0,1,0,0,0,0,1,0,2,0,2] (by rfl) (by simp [ClsOk,Cls,Quiet,Sto,Lay,T9,T10,q3,q4]))]; simp (decide:=true) [h7,h8,h9,h10,e0,e1,e2,e3,e4,e5,e6,e11,vc2.1,vc2.2,vc3.1,vc3.2,vc4.1,vc4.2,vc5.1,vc5.2,vc6.1,vc6.2,vc7.1,vc7.2,vc8.1,vc8.2,vc9.1,vc9.2,vc10.1,vc10.2,aA,storeAt,put,sub,Hp.set,mQ1,gQ1,mQ2,gQ2,mQ3,gQ3,mQ4,gQ4,mQ5,gQ5,mQ6,gQ6,mQ7,gQ7,mQ8,gQ8,mQ9,gQ9,mQ10,gQ10,mQ11,gQ11,gN1,mN2,gN2,mN3,gN3,mN4,gN4,mN5,gN5,mN6,gN6,mN7,gN7,mN8,gN8,mN9,gN9,mN10,gN10,mN11,gN11,gR11,ai,q1,q2,q3,q4,m0,m1,m2,m3,m4,m5,m6,m7,m8,m9,m10,m11,aG,aN,aV,k64]; exact rfl⟩
 · rw [if_neg he] at e11;have hd:tT l = none:=by
    unfold tT;rcases hS.of with ⟨l',h1,h2⟩ | ⟨h1,h2⟩
    · rw [h1];cases l' with
      | nil=>exact absurd h2 he
      | cons _ _=>rfl
    · rw [h1]
   rw [hd]
   exact ⟨_,by simp (decide:=true) [af,yw,h7,h8,h9,h10,e0,e1,e2,e3,e4,e5,e6,e11,vc2.1,vc2.2,vc3.1,vc3.2,vc4.1,vc4.2,vc5.1,vc5.2,vc6.1,vc6.2,vc7.1,vc7.2,vc8.1,vc8.2,vc9.1,vc9.2,vc10.1,vc10.2,aA,storeAt,put,sub,Hp.set,mQ1,gQ1,mQ2,gQ2,mQ3,gQ3,mQ4,gQ4,mQ5,gQ5,mQ6,gQ6,mQ7,gQ7,mQ8,gQ8,mQ9,gQ9,mQ10,gQ10,mQ11,gQ11,gN1,mN2,gN2,mN3,gN3,mN4,gN4,mN5,gN5,mN6,gN6,mN7,gN7,mN8,gN8,mN9,gN9,mN10,gN10,mN11,gN11,gR11,ai,q1,q2,q3,q4,m0,m1,m2,m3,m4,m5,m6,m7,m8,m9,m10,m11,aG,aN,aV]; rw [if_pos (dz [M.length] bs8.length [0,0,0,0,1,0,0,0,0,1,0,2,0,2] (by rfl) (by simp [ClsOk,Cls,Quiet,Sto,Lay,T7,T8,q3,q4]))]; simp (decide:=true) [h7,h8,h9,h10,e0,e1,e2,e3,e4,e5,e6,e11,vc2.1,vc2.2,vc3.1,vc3.2,vc4.1,vc4.2,vc5.1,vc5.2,vc6.1,vc6.2,vc7.1,vc7.2,vc8.1,vc8.2,vc9.1,vc9.2,vc10.1,vc10.2,aA,storeAt,put,sub,Hp.set,mQ1,gQ1,mQ2,gQ2,mQ3,gQ3,mQ4,gQ4,mQ5,gQ5,mQ6,gQ6,mQ7,gQ7,mQ8,gQ8,mQ9,gQ9,mQ10,gQ10,mQ11,gQ11,gN1,mN2,gN2,mN3,gN3,mN4,gN4,mN5,gN5,mN6,gN6,mN7,gN7,mN8,gN8,mN9,gN9,mN10,gN10,mN11,gN11,gR11,ai,q1,q2,q3,q4,m0,m1,m2,m3,m4,m5,m6,m7,m8,m9,m10,m11,aG,aN,aV]; rw [if_pos (dz [M.length] bs10.length [0,0,0,0,1,0,0,0,0,1,0,2,0,2] (by rfl) (by simp [ClsOk,Cls,Quiet,Sto,Lay,T9,T10,q3,q4]))]; simp (decide:=true) [h7,h8,h9,h10,e0,e1,e2,e3,e4,e5,e6,e11,vc2.1,vc2.2,vc3.1,vc3.2,vc4.1,vc4.2,vc5.1,vc5.2,vc6.1,vc6.2,vc7.1,vc7.2,vc8.1,vc8.2,vc9.1,vc9.2,vc10.1,vc10.2,aA,storeAt,put,sub,Hp.set,mQ1,gQ1,mQ2,gQ2,mQ3,gQ3,mQ4,gQ4,mQ5,gQ5,mQ6,gQ6,mQ7,gQ7,mQ8,gQ8,mQ9,gQ9,mQ10,gQ10,mQ11,gQ11,gN1,mN2,gN2,mN3,gN3,mN4,gN4,mN5,gN5,mN6,gN6,mN7,gN7,mN8,gN8,mN9,gN9,mN10,gN10,mN11,gN11,gR11,ai,q1,q2,q3,q4,m0,m1,m2,m3,m4,m5,m6,m7,m8,m9,m10,m11,aG,aN,aV]; exact rfl⟩
theorem bt9 (h64:∀ d:Dlt,d.ok -> (∀ p ∈ d.policies.l,p.wf big) -> ∀ (h:Hp) (v:V),frz h v = some (ag d.c) -> E 31 [v] h = some (bl (bR d),h)) {nl:Bool} {l:List Int} (hb:byteL l) (hl:l.length <= big) (h:Hp) :
 Sm E TRd aj 9 [.d (Sl.d u8C ⟨nl,l⟩)] h = some (match tT l with | some d=>.tup [ag d.c,.d (i64 0)] | none=>.tup [ag (Dlt.c ⟨0,⟨true,[]⟩,⟨true,[]⟩,⟨true,[]⟩,⟨true,[]⟩,⟨true,[]⟩,⟨true,[]⟩,⟨true,[]⟩,⟨true,[]⟩,⟨true,[]⟩⟩),.d (i64 2)],h):=by
 have k:=bu9 h404 h378 h64 (nl:=nl) hb hl;rw [bf av6 be2];cases hd:tT l with
 | some d =>
  rw [hd] at k;obtain ⟨cs,h',K,k1,k2⟩:=k;have k3:=Hngs.mapM (bs':=h'.bs) (lo:=h'.low) (fun _ _=>rfl) (show 1 <= 8 by decide) k2;have hz:frz h' (.tup [.agg cs,.d (i64 0)]) = some (.tup [ag d.c,.d (i64 0)]):=by
   simp only [frz,List.mapM_cons,List.mapM_nil,dD,fC,k3.1,nW]; rfl
  simp [BQ,k1,hz,cO]
 | none =>
  rw [hd] at k;obtain ⟨h',k1⟩:=k;have hz:frz h' (.tup [.agg [.d (u64 0),.d (.slice true []),.d (.slice true []),.d (.slice true []),.d (.slice true []),.d (.slice true []),.d (.slice true []),.d (.slice true []),.d (.slice true []),.d (.slice true [])],.d (i64 2)]) = some (.tup [ag (Dlt.c ⟨0,⟨true,[]⟩,⟨true,[]⟩,⟨true,[]⟩,⟨true,[]⟩,⟨true,[]⟩,⟨true,[]⟩,⟨true,[]⟩,⟨true,[]⟩,⟨true,[]⟩⟩),.d (i64 2)]):=by
   have:dD h' (.agg [.d (u64 0),.d (.slice true []),.d (.slice true []),.d (.slice true []),.d (.slice true []),.d (.slice true []),.d (.slice true []),.d (.slice true []),.d (.slice true []),.d (.slice true [])]) = some (ag (Dlt.c ⟨0,⟨true,[]⟩,⟨true,[]⟩,⟨true,[]⟩,⟨true,[]⟩,⟨true,[]⟩,⟨true,[]⟩,⟨true,[]⟩,⟨true,[]⟩,⟨true,[]⟩⟩)):=by
    have:=fD h' 8 (Dlt.c ⟨0,⟨true,[]⟩,⟨true,[]⟩,⟨true,[]⟩,⟨true,[]⟩,⟨true,[]⟩,⟨true,[]⟩,⟨true,[]⟩,⟨true,[]⟩,⟨true,[]⟩⟩);simp only [dD,fC];rw [show (([.d (u64 0),.d (.slice true []),.d (.slice true []),.d (.slice true []),.d (.slice true []),.d (.slice true []),.d (.slice true []),.d (.slice true []),.d (.slice true []),.d (.slice true [])]:List V)) = (Dlt.c ⟨0,⟨true,[]⟩,⟨true,[]⟩,⟨true,[]⟩,⟨true,[]⟩,⟨true,[]⟩,⟨true,[]⟩,⟨true,[]⟩,⟨true,[]⟩,⟨true,[]⟩⟩).map V.d from rfl,this];rfl
   simp only [frz,List.mapM_cons,List.mapM_nil,this,dD,nW]; rfl
  simp [BQ,k1,hz,cO]
end
end
end Go.Proofs.YtjkfknafpgfchaaGreat
