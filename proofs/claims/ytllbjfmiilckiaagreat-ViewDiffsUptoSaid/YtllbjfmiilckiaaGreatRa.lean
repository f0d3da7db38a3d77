/- Readings of functions of the program, and what they answer. -/
import Derived.Test.YtllbjfmiilckiaaGreatBa
set_option linter.unusedVariables false
set_option maxRecDepth 100000
set_option linter.unusedSimpArgs false
set_option linter.unnecessarySimpa false
namespace Go.Proofs.YtllbjfmiilckiaaGreat
open IntKind (wrap)
section
open List
section
variable {E:Calls'}{T:FuncId->Option QF}{val:FuncId->Bool}
def nJ (z c2 sm:Nat)(zero:List V):QC:=(sr [op 18 (bt .lss 17 16)] (.seq (.cond (.t 18) .skip (.exit 0 [8,9])) (.seq (.block 1 (sr [op 19 (.idxA none z (.t 15) (.t 17)),op 20 (.load false z (.t 19)),op 11 (.new zero),⟨none,none,.store z (.t 11) (.t 20)⟩] (sr [mv 21 1,op 22 (.mkfn c2 [.t 6,.t 11]),op 23 (.call (.c (.fn sm [])) [.t 21,.t 22]),op 24 (.un .not (.t 23))] (.cond (.t 24) (.reg none [mv 25 9,op 26 (l1' 6),op 27 (.load false z (.t 11)),op 28 (kt' 26 [.t 27]),op 29 (.buildS 1 1 [zu] [(0,1,(.t 28))]),op 30 (.app 1 8 (.t 25) (.t 29)),mv 9 30]) .skip)))) (.reg none [op 31 (bc .add 17 1),mv 17 31]))))
def partsQ (z keep c1 c2 sm:Nat)(zero:List V):QF:=⟨34,[.tmp 8,.tmp 9],(sr [op 4 (.box (.t 0)),op 6 (.box (.t 2)),op 7 (.box (.t 3)),op 8 (.mov (.c zs0)),op 9 (.mov (.c zs0))] (sr [mv 12 1,op 13 (.mkfn c1 [.t 4,.t 7]),op 14 (.call (.c (.fn keep [])) [.t 12,.t 13]),mv 8 14] (.seq (sr [op 15 (l1' 4),op 16 (ln' 15),oc' 17 0] (.block 0 (.loop [1,6,8,9,15,16,17] (nJ z c2 sm zero)))) (sr [mv 32 8,mv 33 9,mv 8 32,mv 9 33] (.ret [8,9])))))⟩
def parcQ (c11 sm:Nat):QF:=⟨9,[.tmp 4],(sr [op 3 (.box (.t 0)),op 4 (.mov (.c zb))] (sr [op 5 (l1' 1),op 6 (.mkfn c11 [.t 2,.t 3]),op 7 (.call (.c (.fn sm [])) [.t 5,.t 6]),op 8 (.un .not (.t 7)),mv 4 8] (.ret [4])))⟩
def parsQ (z:Nat):QF:=⟨9,[.tmp 4],(sr [op 3 (.box (.t 0)),op 4 (.mov (.c zb))] (sr [op 5 (l1' 1),op 6 (.load false z (.t 2)),op 7 (.load false z (.t 3)),op 8 (kt' 5 [.t 6,.t 7]),mv 4 8] (.ret [4])))⟩
theorem MC {α:Type}{cells:α->List D}{z c sf:FuncId}{same:α->α->Bool}(ht:T c=some (parsQ z))(hv:val c=false){x y:α}(hx:(cells x).length=z)(hy:(cells y).length=z)(hsf:∀ h,Sm E T val sf [ag (cells x),ag (cells y)] h=some (bl (same x y),h)){p r:Nat}{h:Hp}(hp:ah h.bs p=some [.fn sf []])(hr:ah h.bs r=some ((cells x).map .d)) :
 Sm E T val c [ag (cells y),.ptr p 0,.ptr r 0] h=some (bl (same x y),h):=by
 rw [aW ht hv];have hsx:=rG hx;have hsy:=rG hy;simp [parsQ,ae,aJ hp,aJ hr,hsf,hsx,hsy,V.under]
theorem MB {α:Type}{cells:α->List D}{z c c11 sm any idx sf:FuncId}{same:α->α->Bool}(ht:T c=some (parcQ c11 sm))(hv:val c=false)(ht1:T c11=some (parsQ z))(hv1:val c11=false)(ts:T sm=some (someQ any))(vs:val sm=false)(ta:T any=some (anyQ idx))(va:val any=false)(ti:T idx=some (idxQ z))(vi:val idx=false)
 (hz:∀ x,(cells x).length=z) {a:Sl α} (hs:short a) {x:α} (hsf:∀ y∈a.l,∀ h,Sm E T val sf [ag (cells x),ag (cells y)] h=some (bl (same x y),h))
 {p f:Nat} {h:Hp} (hp:ah h.bs p=some [.fn sf []]) (hf:ah h.bs f=some [.d (a.d cells)]) :
 Sm E T val c [ag (cells x),.ptr f 0,.ptr p 0] h=some (bl (!a.l.any λy=>same x y),h):=by
 have hsx:=rG (hz x);have hcl:∀ y∈a.l,∀ lo,Sm E T val c11 (.agg ((cells y).map .d)::[.ptr p 0,.ptr h.bs.length 0]) ⟨h.bs++[.cells ((cells x).map .d)],lo⟩=some (.d (.bool (same x y)),⟨h.bs++[.cells ((cells x).map .d)],lo⟩):=λy hy lo =>
  MC ht1 hv1 (hz x) (hz y) (hsf y hy) (aJ hp) (by rw [eF]; rfl)
 have hsm:∀ lo,Sm E T val sm [.d (a.d cells),.fn c11 [.ptr p 0,.ptr h.bs.length 0]] ⟨h.bs++[.cells ((cells x).map .d)],lo⟩=some (bl (a.l.any λy=>same x y),⟨h.bs++[.cells ((cells x).map .d)],lo⟩):=λlo =>
  lJ ts vs rfl rfl (mY cells ti vi ta va (h:=⟨h.bs++[.cells ((cells x).map .d)],(h.bs++[Blk.cells ((cells x).map .d)]).length⟩) (RowIs.of hz _) hs.lt λe he lo=>hcl e he lo)
 rw [aW ht hv];simp [parcQ,ae,aJ hp,aJ hf,hsx,hsm,V.under]
theorem Bo {α:Type}{cells:α->List D}{z:Nat}{c2 sm any idx idf:FuncId}{zero:List V}{key:α->Int}(t2:T c2=some (vpeQ z))(v2:val c2=false)(ts:T sm=some (someQ any))(vs:val sm=false)(ta:T any=some (anyQ idx))(va:val any=false)(ti:T idx=some (idxQ z))(vi:val idx=false)
 (hz:∀ x,(cells x).length=z) (hz0:0<z) (hzero:zero.length=z) {a b:Sl α} (ha:short a) (hb:short b) (hab:a.l.length<big) (hid:∀ e,e∈a.l\/e∈b.l->∀ h,Sm E T val idf [ag (cells e)] h=some (.d (u64 (key e)),h))
 {base:List Blk} {q:Nat} (hq:ah base q=some [.fn idf []]) {v8:V} (h8:nu v8=some v8):∀ (m i:Nat) (acc:List Int) (bs:List Blk) (v:V) (lo:Nat),i+m=a.l.length->acc.length<=i->Acc base 1 (acc.map ak) bs v →
 ∃ bs' v' lo',Cd E T val (.loop [1,6,8,9,15,16,17] (nJ z c2 sm zero)) [(1,.d (b.d cells)),(6,.ptr q 0),(8,v8),(9,v),(15,.d (a.d cells)),(16,.d (i64 a.l.length)),(17,.d (i64 i))] ⟨bs,lo⟩=some (.exit 0,[(8,v8),(9,v')],⟨bs',lo'⟩) ∧
  Acc base 1 ((acc++((a.l.drop i).filter λx=>!b.l.any λy=>key x==key y).map key).map ak) bs' v':=by
 have hlt:=ha.lt;intro m;have keyW:=aC (E:=E) (T:=T) (val:=val) [1,6,8,9,15,16,17] (nJ z c2 sm zero);generalize Cd E T val (.loop [1,6,8,9,15,16,17] (nJ z c2 sm zero))=W at keyW ⊢
 induction m with
 | zero =>
  intro i acc bs v lo hi ha' hA;refine ⟨bs,v,lo,?_,by rw [ba (by omega)]; simpa using hA⟩;have hnu:=hA.nu;rw [keyW];simp [nJ,h8,hnu,show ¬ ((i:Int)<a.l.length) from by omega]
 | succ m ih =>
  intro i acc bs v lo hi ha' hA;have hnu:=hA.nu;have h1:i<a.l.length:=by omega
  have hx:=λh=>oJ (cells:=cells) hz h1 (kd:=.i64) (h:=h);have hw:=ay h1 hlt;have hmem:=bj h1;rw [aw h1];generalize a.l[i]=x at *;have hsx:=cO (hz x);have hA1:=hA.lay [.cells ((cells x).map .d)];have hq1:=hA1.get hq;have hcl:∀ y∈b.l,∀ lo,Sm E T val c2 (.agg ((cells y).map .d)::[.ptr q 0,.ptr bs.length 0]) ⟨bs++[.cells ((cells x).map .d)],lo⟩=some (.d (.bool (key x==key y)),⟨bs++[.cells ((cells x).map .d)],lo⟩):=λy hy lo =>
   KX t2 v2 (hz x) (hz y) (λe he=>hid e (by obtain rfl | rfl:=he; exact .inl hmem; exact .inr hy)) hq1 (by rw [eF]; rfl)
  have hsm:∀ lo,Sm E T val sm [.d (b.d cells),.fn c2 [.ptr q 0,.ptr bs.length 0]] ⟨bs++[.cells ((cells x).map .d)],lo⟩=some (bl (b.l.any λy=>key x==key y),⟨bs++[.cells ((cells x).map .d)],lo⟩):=λlo =>
   lJ ts vs rfl rfl (mY cells ti vi ta va (h:=⟨bs++[.cells ((cells x).map .d)],(bs++[Blk.cells ((cells x).map .d)]).length⟩) (RowIs.of hz _) hb.lt λe he lo=>hcl e he lo)
  have hput:∀ y:List V,y.length=z->put zero 0 y=some y:=λy hy=>by
   unfold put;rw [if_pos (by omega),List.take_zero,List.nil_append,ba (by omega),List.append_nil]
  have hpx:=hput ((cells x).map .d) (by simpa using hz x);have hidx:=hid x (.inl hmem);have hxl:¬ (cells x).length=0:=by rw [hz x]; omega
  by_cases hg:(b.l.any λy=>key x==key y)=true
  . obtain ⟨bs',v',lo',q1,q2⟩:=ih (i+1) acc (bs++[.cells ((cells x).map .d)]) v (min lo bs.length) (by omega) (by omega) hA1;refine ⟨bs',v',lo',?_,by simpa [hg] using q2⟩;rw [keyW];simp [nJ,hx,hsx,hw,h8,hnu,hz x,hz0,hpx,hsm,hg,hidx,hq1,aJ hq1,show ((i:Int)<a.l.length) from by omega];simpa using q1
  . have hg':=Bool.eq_false_iff.2 hg;obtain ⟨v1,bs1,lo1,k1,k2⟩:=(hA1.lay [.cells [.d (u64 (key x))]]).app (by decide) (by_:=8) (by decide) (e:=ak (key x)) rfl (by simp; omega) (min lo bs.length) (r:=bs.length+1) (cap:=some 1) (by
     have:ah ((bs++[Blk.cells ((cells x).map .d)])++[.cells [.d (u64 (key x))]]) (bs++[Blk.cells ((cells x).map .d)]).length=some [.d (u64 (key x))]:=by rw [eF]; rfl
     simpa [ak] using this)
    have hnu1:=k2.nu;obtain ⟨bs',v',lo',q1,q2⟩:=ih (i+1) (acc++[key x]) bs1 v1 lo1 (by omega) (by simp; omega) (by simpa using k2);refine ⟨bs',v',lo',?_,by simpa [hg'] using q2⟩;simp only [List.append_assoc,List.cons_append,List.nil_append] at k1;have hp1:put [V.d (D.int .u64 0)] 0 [V.d (u64 (key x))]=some [V.d (u64 (key x))]:=rfl;rw [keyW];simp [nJ,hx,hsx,hw,h8,hnu,hz x,hz0,hpx,hsm,hg',hidx,hq1,aJ hq1,aN,hp1,k1,hnu1,show ((i:Int)<a.l.length) from by omega];simpa using q1
theorem KeptP.dat {α:Type}{cells:α->List D}{z n:Nat}{nl:Bool}{l:List α}{bs bs':List Blk}{v:V}(h:KeptP cells z n nl l bs v)(ho:∀ x,x<bs.length->bs'[x]?=bs[x]?)(lo k:Nat)(hz:∀ x,(cells x).length=z):dataV ⟨bs',lo⟩ (k+1) v=some (.slice nl (l.map cells)):=by
 obtain ⟨rfl,rfl,rfl⟩ | ⟨rfl,B,cap,rest,_,rfl,hg,_⟩:=h
 . rfl
 . refine iC (by simp; intro a _; exact hz a) (by simp) ?_ (rest:=rest);have:=ho B (aB hg);unfold ah at hg ⊢;rw [this]; exact hg
end
end
section
section
variable {E:Calls'}{T:FuncId->Option QF}{val:FuncId->Bool}
def fE {α:Type}(q:Nat->α->Bool):Nat->List α->Bool
 | _,[]=>true
 | i,x::l=>q i x&&fE q (i+1) l
theorem sW {α:Type}(q:α->Bool):∀ (l:List α) (i:Nat),fE (λ_ x=>q x) i l=l.all q
 | [],_=>rfl
 | x::l,i=>by simp [fE,sW q l]
theorem kC {keep:List Nat}{body:QC}{α:Type}(l:List α)(q:Nat->α->Bool)(env:Nat->EA)(h:Hp)(R X:Ex×EA×Hp)
 (hr:∀ i x,l[i]?=some x->i<l.length->∀ W:EA->Hp->d9,bY keep W (Cd E T val body (bE keep (env i)) h)=cond (q i x) (W (env (i+1)) h) (some R))
 (he:∀ W:EA->Hp->d9,bY keep W (Cd E T val body (bE keep (env l.length)) h)=some X) :
 Cd E T val (.loop keep body) (env 0) h=some (cond (fE q 0 l) X R):=by
 have:∀ (m i:Nat),i+m=l.length->Cd E T val (.loop keep body) (env i) h=some (cond (fE q i (l.drop i)) X R):=by
  intro m;have key:=aC (E:=E) (T:=T) (val:=val) keep body;generalize Cd E T val (.loop keep body)=W at key ⊢
  induction m with
  | zero =>
   intro i hi;rw [key,show i=l.length by omega,he W,List.drop_length];rfl
  | succ m ih =>
   intro i hi;have hlt:i<l.length:=by omega
   rw [key,hr i _ (ab hlt) hlt W,ih (i+1) (by omega),aw hlt,fE];cases q i l[i]<;>simp
 simpa using this l.length 0 (by omega)
theorem bK {keep:List Nat}{body:QC}{α:Type}(l:List α)(q:α->Bool)(env:Nat->EA)(h:Hp)(R X:Ex×EA×Hp)
 (hr:∀ i x,l[i]?=some x->i<l.length->∀ W:EA->Hp->d9,bY keep W (Cd E T val body (bE keep (env i)) h)=cond (q x) (W (env (i+1)) h) (some R))
 (he:∀ W:EA->Hp->d9,bY keep W (Cd E T val body (bE keep (env l.length)) h)=some X) :
 Cd E T val (.loop keep body) (env 0) h=some (cond (l.all q) X R):=by
 rw [kC l (λ_=>q) env h R X hr he,sW]
end
def bf1:List (Nat×QF):=[(64,q35),(36,q38),(144,q89),(29,nL),(118,Bt),(119,Ej),(192,El),(193,Bu),(194,GV),(195,OO),(262,GY),(263,xG),(351,OV)]
def TX:FuncId->Option QF:=gI bf1
def bQ (f:FuncId):Bool:=[64,36,144,29,118,119,192,193,194,195,262,263,351].any λn=>Nat.beq n f
variable {E:Calls'}
def mo (b:UInt8):Bool:=!((!((b.toNat:Int)==45))&&(decide ((b.toNat:Int)<48)||decide ((b.toNat:Int)>57))&&(decide ((b.toNat:Int)<97)||decide ((b.toNat:Int)>122)))
theorem YY (s:ByteArray)(hs:s.size<2 ^ 62):Cd E TX bQ (.loop [0,3] pW) [(0,.d (.str s)),(3,.d (i64 ((0:Nat):Int)))] ⟨[],0⟩=some (cond (s.toList.all mo) (.exit 0,[],⟨[],0⟩) (.ret,[(2,bl false)],⟨[],0⟩)):=by
 have hsl:=fV s;refine bK s.toList mo (λi=>[(0,.d (.str s)),(3,.d (i64 i))]) _ _ _ (λi b hb hi W=>?_) (λW=>?_)
 . have hx:=λh=>gV (h:=h) hb;have hw:=ay (show i<s.size by omega) hs;have h0:((i:Int)<s.size):=by omega
   by_cases c1:(b.toNat:Int)=45
   . simp [pW,hx,h0,hw,mo,c1]
   . by_cases c2:(b.toNat:Int)<48<;>by_cases c3:(b.toNat:Int)>57<;>by_cases c4:(b.toNat:Int)<97<;>by_cases c5:(b.toNat:Int)>122<;>first
      | (exfalso; omega)
      | simp [pW,hx,h0,hw,mo,c1,c2,c3,c4,c5]
 . simp [pW,hsl]
theorem vY (n:Nat):∀ (l:List UInt8) (i:Nat),i+l.length=n->jD n i l=(!(l.all mo)||(i==0&&l.head?==some 45)||l.getLast?==some 45)
 | [],i,_=>by simp [jD]
 | b::l,i,h=>by
  have hb:b.toNat<256:=b.toNat_lt;have h45:(b==45)=((b.toNat:Int)==45):=by
   rw [Bool.eq_iff_iff];simp only [beq_iff_eq];constructor
   . rintro rfl; rfl
   . intro h; exact UInt8.toNat_inj.1 (show b.toNat=45 by omega)
  rw [jD,vY n l (i+1) (by simp at h ⊢; omega)];simp only [ck] at h;cases l with
  | nil =>
   have e1:((i:Int)+1==n)=true:=by simp at h ⊢; omega
   simp only [vC,e1,mo,List.all_cons,List.all_nil,List.head?_cons,List.head?_nil,List.getLast?_singleton,List.getLast?_nil,Option.some_beq_some,h45];by_cases c1:(b.toNat:Int)=45
   . simp [c1]
   . by_cases c2:(b.toNat:Int)<48<;>by_cases c3:(b.toNat:Int)>57<;>by_cases c4:(b.toNat:Int)<97<;>by_cases c5:(b.toNat:Int)>122<;>first
      | (exfalso; omega)
      | (simp [c1,c2,c3,c4,c5]; try omega)
  | cons b' l' =>
   have e1:((i:Int)+1==n)=false:=by simp at h ⊢; omega
   have e2:(i+1==0)=false:=by simp
   have e3:((i:Int)==0)=(i==0):=by
    rw [Bool.eq_iff_iff]; simp
   rw [List.getLast?_cons_cons];simp only [vC,e1,e2,e3,mo,List.all_cons,List.head?_cons,Option.some_beq_some,h45];generalize (l'.all mo)=A;generalize ((b'::l').getLast?==some 45)=B;generalize (i==0)=I;by_cases c1:(b.toNat:Int)=45
   . cases I<;>simp [c1]
   . by_cases c2:(b.toNat:Int)<48<;>by_cases c3:(b.toNat:Int)>57<;>by_cases c4:(b.toNat:Int)<97<;>by_cases c5:(b.toNat:Int)>122<;>first
      | (exfalso; omega)
      | (simp [c1,c2,c3,c4,c5]; try omega)
theorem bq0:TX 118=some Bt:=by kernel_rfl
theorem bo9:bQ 118=true:=by kernel_rfl
theorem zg (s:ByteArray):gW s=(decide ((s.size:Int)>=1)&&decide ((s.size:Int)<=20)&&!(s.toList.head?==some 45)&&!(s.toList.getLast?==some 45)&&s.toList.all mo):=by
 rw [gW,vY s.size s.toList 0 (by simp [fV])];generalize s.toList.all mo=A;generalize (s.toList.head?==some 45)=B;generalize (s.toList.getLast?==some 45)=C;generalize decide ((s.size:Int)>=1)=F;generalize decide ((s.size:Int)<=20)=G;cases A<;>cases B<;>cases C<;>cases F<;>cases G<;>rfl
theorem KY (b:UInt8):(some b==some 45)=((b.toNat:Int)==45):=by
 rw [Option.some_beq_some,Bool.eq_iff_iff];simp only [beq_iff_eq];constructor
 . rintro rfl; rfl
 . intro h; exact UInt8.toNat_inj.1 (show b.toNat=45 by omega)
theorem Zp (s:ByteArray)(hs:s.size<=big)(h:Hp):Sm E TX bQ 118 [.d (.str s)] h=some (bl (gW s),h):=by
 rw [aY bq0 bo9,zg];have hs2:s.size<2 ^ 62:=ch hs (by decide);have k1:=YY (E:=E) s hs2;have hsl:=fV s;by_cases c1:(s.size:Int)<1
 . simp [ae,Bt,c1,show ¬ ((s.size:Int)>=1) from by omega]
 by_cases c2:(s.size:Int)>20
 . simp [ae,Bt,c1,c2,show ¬ ((s.size:Int)<=20) from by omega]
 have h0:s.toList≠[]:=by intro h; rw [h] at hsl; simp at hsl; omega
 obtain ⟨b0,hb0⟩:∃ b,s.toList.head?=some b:=by
  cases hc:s.toList with
  | nil=>exact absurd hc h0
  | cons b l=>exact ⟨b,rfl⟩
 obtain ⟨b1,hb1⟩:∃ b,s.toList.getLast?=some b:=⟨_,List.getLast?_eq_some_getLast h0⟩;have hx0:∀ h,rC (.d (.str s)) (.d (i64 0)) h=some (.d (.int .u8 b0.toNat),h):=λh=>gV (k:=0) (by rw [← List.head?_eq_getElem?]; exact hb0);have hx1:∀ h,rC (.d (.str s)) (.d (i64 ((s.size:Int)-1))) h=some (.d (.int .u8 b1.toNat),h):=λh=>by
  have:=gV (k:=s.size-1) (h:=h) (by rw [← hsl,← List.getLast?_eq_getElem?]; exact hb1)
  rwa [show ((s.size-1:Nat):Int)=(s.size:Int)-1 by omega] at this
 have hw:wrap .i64 ((s.size:Int)-1)=(s.size:Int)-1:=by rw [wrap64]<;>omega
 rw [hb0,hb1,KY,KY];by_cases c3:(b0.toNat:Int)=45
 . simp [ae,Bt,c1,c2,c3,hx0,hw]
 by_cases c4:(b1.toNat:Int)=45
 . simp [ae,Bt,c1,c2,c3,c4,hx0,hx1,hw]
 simp at k1;simp [ae,Bt,c1,c2,c3,c4,hx0,hx1,hw];rw [au];simp [k1];cases s.toList.all mo<;>simp [show ((s.size:Int)>=1) from by omega,show ((s.size:Int)<=20) from by omega]
theorem uR:∀ l:List UInt8,jf l=!(l.all λb=>!mV b)
 | []=>rfl
 | b::l=>by
  rw [jf,uR l,List.all_cons];cases mV b<;>simp
theorem Y7 (t:Term)(ht:t.text.size<2 ^ 62):Cd E TX bQ (.loop [1,3] lg) [(1,.ptr 0 0),(3,.d (i64 ((0:Nat):Int)))] ⟨[.cells (t.c.map .d)],0⟩=some (cond (t.text.toList.all λb=>!mV b) (.exit 0,[],⟨[.cells (t.c.map .d)],0⟩) (.ret,[(2,bl false)],⟨[.cells (t.c.map .d)],0⟩)):=by
 have hsl:=fV t.text;refine bK t.text.toList (λb=>!mV b) (λi=>[(1,.ptr 0 0),(3,.d (i64 i))]) _ _ _ (λi b hb hi W=>?_) (λW=>?_)
 . have hx:=λh=>gV (h:=h) hb;have hw:=ay (show i<t.text.size by omega) ht;have h0:((i:Int)<t.text.size):=by omega
   by_cases c1:(b.toNat:Int)<33
   . simp [lg,hx,h0,hw,mV,c1]
   by_cases c2:(b.toNat:Int)>126
   . simp [lg,hx,h0,hw,mV,c1,c2]
   by_cases c3:(b.toNat:Int)=42
   . simp [lg,hx,h0,hw,mV,c1,c2,c3]
   by_cases c4:(b.toNat:Int)=44<;>simp [lg,hx,h0,hw,mV,c1,c2,c3,c4]
 . simp [lg,hsl]
theorem bq7:TX 263=some xG:=by kernel_rfl
theorem bp6:bQ 263=true:=by kernel_rfl
theorem M8 (s:ByteArray):eqS s ⟨#[]⟩=((s.size:Int)==0):=by
 have hsl:=fV s;have h0:(⟨#[]⟩:ByteArray).toList=[]:=by rw [bL]
 rw [eqS,h0,Bool.eq_iff_iff];simp only [beq_iff_eq];constructor
 . intro h; rw [h] at hsl; simp at hsl; omega
 . intro h; exact List.length_eq_zero_iff.1 (by omega)
theorem ZM (t:Term)(ht:t.text.size<=big)(h:Hp):Sm E TX bQ 263 [ag t.c] h=some (bl (fG t),h):=by
 rw [aY bq7 bp6,fG,uR,M8];have k1:=Y7 (E:=E) t (ch ht (by decide));have hsl:=fV t.text;simp at k1;obtain ⟨n,hn⟩:∃ n,(t.text.size:Int)=n:=⟨_,rfl⟩;rw [hn];by_cases c0:t.kind=4
 . by_cases c1:n=0
   . have:t.text.toList=[]:=List.length_eq_zero_iff.1 (by omega);simp [ae,xG,hn,c0,c1,this]
   . simp [ae,xG,hn,c0,c1]
 by_cases c1:t.kind<1
 . simp [ae,xG,hn,c0,c1,show ¬ (1<=t.kind) from by omega]
 by_cases c2:t.kind>3
 . simp [ae,xG,hn,c0,c1,c2,show ¬ (t.kind<=3) from by omega]
 by_cases c3:n=0
 . simp [ae,xG,hn,c0,c1,c2,c3]
 by_cases c4:n>64
 . simp [ae,xG,hn,c0,c1,c2,c3,c4,show ¬ (n<=64) from by omega]
 simp [ae,xG,hn,c0,c1,c2,c3,c4];rw [au];simp [k1];cases (t.text.toList.all λb=>!mV b)<;>simp [show (1<=t.kind) from by omega,show t.kind<=3 from by omega,show (n>=1) from by omega,show (n<=64) from by omega]
theorem Y4 (s:Sl Term)(hs:short s)(ht:∀ t∈s.l,t.text.size<=big):Cd E TX bQ (.loop [0,3] sJ) [(0,.d (s.d Term.c)),(3,.d (i64 ((0:Nat):Int)))] ⟨[],0⟩=some (cond (s.l.all fG) (.exit 0,[(0,.d (s.d Term.c))],⟨[],0⟩) (.ret,[(2,bl false)],⟨[],0⟩)):=by
 refine bK s.l fG (λi=>[(0,.d (s.d Term.c)),(3,.d (i64 i))]) _ _ _ (λi t hb hi W=>?_) (λW=>?_)
 . have hx:=λh=>av (z:=2) h hb (cells:=Term.c) rfl;have hw:=ay hi hs.lt;have h0:((i:Int)<s.l.length):=by omega
   have hc:=λh=>ZM (E:=E) t (ht t (cf hb)) h;cases hm:fG t<;>simp [sJ,hx,h0,hw,hc,hm]
 . simp [sJ]
theorem bq5:TX 195=some OO:=by kernel_rfl
theorem bp4:bQ 195=true:=by kernel_rfl
theorem Df (s:Sl Term)(hs:short s)(ht:∀ t∈s.l,t.text.size<=big)(h:Hp):Sm E TX bQ 195 [.d (s.d Term.c)] h=some (bl (bf s),h):=by
 rw [aY bq5 bp4,bf];have k1:=Y4 (E:=E) s hs ht;simp at k1;simp [ae,OO];rw [au];simp [k1];cases s.l.all fG<;>simp
end
section
variable {E:Calls'}
def vg (a n:Nat):Bool:=a / 2 ^ (31-n) % 2==1
theorem wF (a:Nat)(h:a<4294967296):wrap .u32 (a:Int)=a:=by simp [wrap,IntKind.bits,IntKind.signed]; omega
theorem ax3 (a:Nat)(h:a<4294967296):dP .quo (.d (.int .u32 (a:Int))) (.d (.int .u32 2))=some (.int .u32 ((a / 2:Nat):Int)):=by
 have:(a:Int).tdiv 2=((a / 2:Nat):Int):=by
  rw [Int.tdiv_eq_ediv_of_nonneg (by omega)]; omega
 simp only [dP,fI,if_true];rw [if_neg (by decide),this,wF _ (by omega)]
theorem ax5 (a:Nat):dP .rem (.d (.int .u32 (a:Int))) (.d (.int .u32 2))=some (.int .u32 ((a % 2:Nat):Int)):=by
 have:(a:Int).tmod 2=((a % 2:Nat):Int):=by
  rw [Int.tmod_eq_emod_of_nonneg (by omega)]; omega
 simp only [dP,fI,if_true];rw [if_neg (by decide),this]
theorem Y8:∀ (m a:Nat),m<=31->a<4294967296->Cd E TX bQ (.loop [0,5] mR) [(0,.d (u32 (a:Int))),(5,.d (i64 ((31-m:Nat):Int)))] ⟨[],0⟩=some (.exit 0,[(0,.d (u32 ((a / 2 ^ m:Nat):Int)))],⟨[],0⟩):=by
 intro m;have key:=aC (E:=E) (T:=TX) (val:=bQ) [0,5] mR;generalize Cd E TX bQ (.loop [0,5] mR)=W at key ⊢
 induction m with
 | zero =>
  intro a _ _;rw [key];simp [mR]
 | succ m ih =>
  intro a hm ha;have hlt:((31-(m+1):Nat):Int)<31:=by omega
  have hw:wrap .i64 (((31-(m+1):Nat):Int)+1)=((31-m:Nat):Int):=by rw [wrap64]<;>omega
  have hq:=ax3 a ha;have k:=ih (a / 2) (by omega) (by omega);rw [Nat.div_div_eq_div_mul,show 2 * 2 ^ m=2 ^ (m+1) by rw [Nat.pow_succ]; omega] at k;rw [key,← k];generalize ((31-(m+1):Nat):Int)=j at *;generalize ((a / 2:Nat):Int)=a2 at *;simp [mR,hlt,hq,hw]
theorem bq8:TX 351=some OV:=by kernel_rfl
theorem bp7:bQ 351=true:=by kernel_rfl
theorem ZR (a n:Nat)(ha:a<4294967296)(hn:n<=31)(h:Hp):Sm E TX bQ 351 [.d (u32 (a:Int)),.d (i64 (n:Int))] h=some (bl (vg a n),h):=by
 have k:=Y8 (E:=E) (31-n) a (by omega) ha;rw [show 31-(31-n)=n by omega] at k;have hr:=ax5 (a / 2 ^ (31-n));rw [aY bq8 bp7];have he:((((a / 2 ^ (31-n) % 2:Nat):Int)==1))=vg a n:=by
  unfold vg;rw [Bool.eq_iff_iff];simp only [beq_iff_eq];omega
 generalize ((a / 2 ^ (31-n) % 2:Nat):Int)=y at *;generalize ((a / 2 ^ (31-n):Nat):Int)=z at *;simp [ae,OV];rw [au];simp [k,hr,he]
theorem vZ:∀ n,n<33->∀ i,i<32->(BitVec.ofInt 32 (oU (n:Nat))).getLsbD i=decide (32-n<=i):=by decide +kernel
theorem Dl (a:Nat)(ha:a<4294967296)(n:Nat)(hn:n<=32):(oC .u32 (a:Int) (oU (n:Nat))==0)=(List.range (32-n)).all λj=>!vg a (n+j):=by
 rw [oC,wF _ (BitVec.isLt _),Bool.eq_iff_iff];simp only [beq_iff_eq,cn,List.mem_range,Bool.not_eq_true'];have hb:∀ i,i<32->(BitVec.ofInt 32 (a:Int)).getLsbD i=a.testBit i:=λi hi=>by
  rw [BitVec.ofInt_natCast,BitVec.getLsbD_ofNat]; simp [hi]
 have hbit:∀ j,n+j<=31->vg a (n+j)=a.testBit (31-(n+j)):=λj hj=>by
  rw [vg,Nat.testBit_eq_decide_div_mod_eq,Bool.eq_iff_iff]; simp
 constructor
 . intro h j hj;have h0:(BitVec.ofInt 32 (a:Int) &&& ~~~ BitVec.ofInt 32 (oU (n:Nat)))=0#32:=BitVec.eq_of_toNat_eq (by
    have h':(BitVec.ofInt 32 (a:Int) &&& ~~~ BitVec.ofInt 32 (oU (n:Nat))).toNat=0:=by exact_mod_cast h
    rw [h']; rfl)
   have h1:=congrArg (λx=>BitVec.getLsbD x (31-(n+j))) h0;simp only [BitVec.getLsbD_and,BitVec.getLsbD_not,BitVec.getLsbD_zero,vZ n (by omega) _ (show 31-(n+j)<32 by omega),hb _ (show 31-(n+j)<32 by omega)] at h1;rw [hbit j (by omega)];have e1:decide (31-(n+j)<32)=true:=by simp; omega
   have e2:decide (32-n<=31-(n+j))=false:=by simp; omega
   rw [e1,e2] at h1;simpa using h1
 . intro h;have:(BitVec.ofInt 32 (a:Int) &&& ~~~ BitVec.ofInt 32 (oU (n:Nat)))=0#32:=by
    apply BitVec.eq_of_getLsbD_eq;intro i hi;simp only [BitVec.getLsbD_and,BitVec.getLsbD_not,BitVec.getLsbD_zero,vZ n (by omega) _ hi,hb _ hi];by_cases hin:32-n<=i
    . simp [hin]
    . have h2:=h (31-n-i) (by omega);rw [hbit _ (by omega),show 31-(n+(31-n-i))=i by omega] at h2;simp [h2]
   show ((BitVec.ofInt 32 (a:Int) &&& ~~~ BitVec.ofInt 32 (oU (n:Nat))).toNat:Int)=0;rw [this]; rfl
theorem Y6 (a n:Nat)(ha:a<4294967296)(hn:n<=32):Cd E TX bQ (.loop [1,3] sK) [(1,.ptr 0 0),(3,.d (i64 ((n+0:Nat):Int)))] ⟨[.cells [.d (u32 (a:Int)),.d (i64 (n:Int))]],0⟩=some (cond ((List.range (32-n)).all λj=>!vg a (n+j)) (.exit 0,[],⟨[.cells [.d (u32 (a:Int)),.d (i64 (n:Int))]],0⟩) (.ret,[(2,bl false)],⟨[.cells [.d (u32 (a:Int)),.d (i64 (n:Int))]],0⟩)):=by
 refine bK (List.range (32-n)) (λj=>!vg a (n+j)) (λi=>[(1,.ptr 0 0),(3,.d (i64 ((n+i:Nat):Int)))]) _ _ _ (λi x hx hi W=>?_) (λW=>?_)
 . have hi':i<32-n:=by simpa using hi
   have hx':x=i:=by rw [List.getElem?_range hi'] at hx; exact (cv hx).symm
   subst hx';have hw:wrap .i64 (((n+x:Nat):Int)+1)=((n+(x+1):Nat):Int):=by rw [wrap64]<;>omega
   have h0:((n+x:Nat):Int)<32:=by omega
   have hc:=λh=>ZR (E:=E) a (n+x) ha (by omega) h;generalize ((n+x:Nat):Int)=j at *;cases hm:vg a (n+x)<;>simp [sK,h0,hw,hc,hm]
 . have:¬ ((n+(List.range (32-n)).length:Nat):Int)<32:=by simp; omega
   generalize ((n+(List.range (32-n)).length:Nat):Int)=j at *;simp [sK,this]
theorem bq6:TX 262=some GY:=by kernel_rfl
theorem bp5:bQ 262=true:=by kernel_rfl
theorem I5 {n:Int}(h:Inr .u32 n):0<=n/\n<4294967296:=by
 simp [Inr,Lit.wf,IntKind.min,IntKind.max,IntKind.bits,IntKind.signed] at h;omega
theorem ZL (c:Cidr)(hc:Inr .u32 c.addr)(h:Hp):Sm E TX bQ 262 [ag c.c] h=some (bl (gM c),h):=by
 obtain ⟨a0,a1⟩:=I5 hc;obtain ⟨addr,bits⟩:=c;dsimp only at a0 a1;obtain ⟨a,rfl⟩:=Int.eq_ofNat_of_zero_le a0;rw [aY bq6 bp5,gM];dsimp only;by_cases c1:bits<0
 . simp [ae,GY,c1,Cidr.c,show ¬ (bits>=0) from by omega]
 by_cases c2:bits>32
 . simp [ae,GY,c1,c2,Cidr.c,show ¬ (bits<=32) from by omega]
 obtain ⟨n,rfl⟩:=Int.eq_ofNat_of_zero_le (show 0<=bits by omega);have k:=Y6 (E:=E) a n (by omega) (by omega);rw [Dl a (by omega) n (by omega)];rw [Nat.add_zero] at k;simp [ae,GY,c1,c2,Cidr.c,show ((n:Int)<=32) from by omega];rw [au];generalize ((List.range (32-n)).all λj=>!vg a (n+j))=A at *;simp [k];cases A<;>simp
def moreL:List UInt8:=[33,35,36,37,38,39,42,43,45,46,94,95,96,124,126]
def hdB (b:UInt8):Bool:=(decide ((b.toNat:Int)>=97)&&decide ((b.toNat:Int)<=122))||(decide ((b.toNat:Int)>=48)&&decide ((b.toNat:Int)<=57))
def hdA (b:UInt8):Bool:=hdB b||moreL.any λc=>(b.toNat:Int)==c.toNat
theorem Je {k:Nat}{c:UInt8}(hk:moreL[k]?=some c)(h:Hp):rC (.d (.str ⟨#[33,35,36,37,38,39,42,43,45,46,94,95,96,124,126]⟩)) (.d (.int .i64 k)) h=some (.d (.int .u8 c.toNat),h) :=
 gV (by rw [← hk,bL]; rfl)
theorem Y3 (s:ByteArray)(j:Nat)(b:UInt8)(hb:s.toList[j]?=some b):∀ (m i:Nat) (g:Bool),i+m=15 →
 Cd E TX bQ (.loop [0,3,4,5] mQ) [(0,.d (.str s)),(3,.d (i64 j)),(4,bl g),(5,.d (i64 i))] ⟨[],0⟩=some (.exit 2,[(0,.d (.str s)),(3,.d (i64 j)),(4,bl (g||(moreL.drop i).any λc=>(b.toNat:Int)==c.toNat))],⟨[],0⟩):=by
 intro m;have key:=aC (E:=E) (T:=TX) (val:=bQ) [0,3,4,5] mQ;generalize Cd E TX bQ (.loop [0,3,4,5] mQ)=W at key ⊢;have hx:=λh=>gV (h:=h) hb
 induction m with
 | zero =>
  intro i g hi;have:i=15:=by omega
  subst this;rw [key];simp [mQ,moreL]
 | succ m ih =>
  intro i g hi;have hlt:i<moreL.length:=by simp [moreL]; omega
  have h0:((i:Int)<15):=by omega
  have hw:wrap .i64 ((i:Int)+1)=((i+1:Nat):Int):=by rw [wrap64]<;>omega
  have hc:=Je (ab hlt);rw [key,aw hlt,List.any_cons];generalize moreL[i]=c at *;have k1:=ih (i+1) (g||((b.toNat:Int)==c.toNat)) (by omega);rw [Bool.or_assoc] at k1;rw [← k1];cases g<;>simp [mQ,h0,hw,hx,hc]
theorem Zc (s:ByteArray)(hs:s.size<2 ^ 62):Cd E TX bQ (.loop [0,3] sI) [(0,.d (.str s)),(3,.d (i64 ((0:Nat):Int)))] ⟨[],0⟩=some (cond (s.toList.all hdA) (.exit 0,[],⟨[],0⟩) (.ret,[(2,bl false)],⟨[],0⟩)):=by
 have hsl:=fV s;refine bK s.toList hdA (λi=>[(0,.d (.str s)),(3,.d (i64 i))]) _ _ _ (λi b hb hi W=>?_) (λW=>?_)
 . have hx:=λh=>gV (h:=h) hb;have hw:=ay (show i<s.size by omega) hs;have h0:((i:Int)<s.size):=by omega
   have k:=Y3 (E:=E) s i b hb 15 0 (hdB b) (by omega);simp only [List.drop_zero] at k;have hk:(hdB b||moreL.any λc=>(b.toNat:Int)==c.toNat)=hdA b:=rfl;rw [hk] at k;generalize hdA b=G at *;unfold hdB at k;simp only [Int.natCast_zero] at k;by_cases c1:(b.toNat:Int)>=97<;>by_cases c2:(b.toNat:Int)<=122<;>by_cases c3:(b.toNat:Int)>=48<;>by_cases c4:(b.toNat:Int)<=57<;>first
    | (exfalso; omega)
    | (simp [c1,c2,c3,c4] at k
       simp [sI,hx,h0,hw,c1,c2,c3,c4];rw [au];simp [k];cases G<;>simp [hw])
 . simp [sI,hsl]
theorem I4:∀ n,n<256->(BO (UInt8.ofNat n)==0)=!hdA (UInt8.ofNat n):=by decide +kernel
theorem KR (b:UInt8):(BO b==0)=!hdA b:=by
 have:=I4 b.toNat b.toNat_lt;simpa using this
theorem rD:∀ l:List UInt8,jm l=!(l.all hdA)
 | []=>rfl
 | b::l=>by
  rw [jm,rD l,KR,List.all_cons];cases hdA b<;>simp
theorem bq4:TX 194=some GV:=by kernel_rfl
theorem bp3:bQ 194=true:=by kernel_rfl
theorem ZH (s:ByteArray)(hs:s.size<=big)(h:Hp):Sm E TX bQ 194 [.d (.str s)] h=some (bl (jl s),h):=by
 rw [aY bq4 bp3,jl,rD];have k1:=Zc (E:=E) s (ch hs (by decide));simp at k1;by_cases c1:(s.size:Int)<1
 . simp [ae,GV,c1,show ¬ ((s.size:Int)>=1) from by omega]
 by_cases c2:(s.size:Int)>64
 . simp [ae,GV,c1,c2,show ¬ ((s.size:Int)<=64) from by omega]
 simp [ae,GV,c1,c2];rw [au];simp [k1];cases s.toList.all hdA<;>simp [show ((s.size:Int)>=1) from by omega,show ((s.size:Int)<=64) from by omega]
end
section
variable {E:Calls'}
theorem Y1 (s:Source)(hs:s.wf big):Cd E TX bQ (.loop [1,3] sH) [(1,.ptr 0 0),(3,.d (i64 ((0:Nat):Int)))] ⟨[.cells (s.c.map .d)],0⟩=some (cond (s.nets.l.all gM) (.exit 0,[],⟨[.cells (s.c.map .d)],0⟩) (.ret,[(2,bl false)],⟨[.cells (s.c.map .d)],0⟩)):=by
 refine bK s.nets.l gM (λi=>[(1,.ptr 0 0),(3,.d (i64 i))]) _ _ _ (λi x hx hi W=>?_) (λW=>?_)
 . have hn:=λh=>av (z:=2) h hx (cells:=Cidr.c) rfl;have hw:=ay hi (fit.lt hs.2.2.1);have h0:((i:Int)<s.nets.l.length):=by omega
   have hc:=λh=>ZL (E:=E) x (hs.2.2.2 x (cf hx)).1 h;cases hm:gM x<;>simp [sH,hn,h0,hw,hc,hm]
 . simp [sH]
theorem bq2:TX 192=some El:=by kernel_rfl
theorem bp1:bQ 192=true:=by kernel_rfl
theorem ZF (s:Source)(hs:s.wf big)(h:Hp):Sm E TX bQ 192 [ag s.c] h=some (bl (cK s),h):=by
 rw [aY bq2 bp1,cK,mF];have k1:=Y1 (E:=E) s hs;have a1:=λh=>Df (E:=E) s.names hs.1.1 (λx hx=>(hs.1.2 x hx).2) h;have a2:=λh=>Df (E:=E) s.spaces hs.2.1.1 (λx hx=>(hs.2.1.2 x hx).2) h;simp at k1;generalize bf s.names=A at *;generalize bf s.spaces=B at *;generalize s.nets.l.all gM=C at *;cases A with
 | false=>simp [ae,El,a1]
 | true =>
  cases B with
  | false=>simp [ae,El,a1,a2]
  | true =>
   by_cases c1:(s.nets.l.length:Int)>6
   . simp [ae,El,a1,a2,c1,show ¬ ((s.nets.l.length:Int)<=6) from by omega]
   . simp [ae,El,a1,a2,c1,show ((s.nets.l.length:Int)<=6) from by omega];rw [au];simp [k1];cases C<;>simp
def DX (l:List Int)(i:Nat)(x:Int):Bool:=jT x&&(l.take i).all λy=>!(y==x)
theorem Y2 (t:Target)(ht:t.wf big)(j:Nat)(x:Int)(hx:t.ports.l[j]?=some x)(hj:j<t.ports.l.length):Cd E TX bQ (.loop [1,3,4] pX) [(1,.ptr 0 0),(3,.d (i64 (j:Int))),(4,.d (i64 ((0:Nat):Int)))] ⟨[.cells (t.c.map .d)],0⟩=some (cond ((t.ports.l.take j).all λy=>!(y==x)) (.exit 2,[(1,.ptr 0 0),(3,.d (i64 (j:Int)))],⟨[.cells (t.c.map .d)],0⟩) (.ret,[(2,bl false)],⟨[.cells (t.c.map .d)],0⟩)):=by
 have hlen:(t.ports.l.take j).length=j:=by simp; omega
 refine bK (t.ports.l.take j) (λy=>!(y==x)) (λi=>[(1,.ptr 0 0),(3,.d (i64 (j:Int))),(4,.d (i64 i))]) _ _ _ (λi y hy hi W=>?_) (λW=>?_)
 . have hij:i<j:=by omega
   have hy':t.ports.l[i]?=some y:=by rw [List.getElem?_take] at hy; simpa [hij] using hy
   have hn:=λh=>av (z:=1) h hy' (cells:=gq) rfl;have hm:=λh=>av (z:=1) h hx (cells:=gq) rfl;have hw:=ay hij (Nat.lt_trans hj (fit.lt ht.1.1));have h0:((i:Int)<(j:Int)):=by omega
   by_cases he:y=x
   . subst he;simp [pX,hn,hm,h0,hw,gq]
   . simp [pX,hn,hm,h0,hw,he,gq]
 . simp only [hlen];simp [pX]
theorem Zb (t:Target)(ht:t.wf big):Cd E TX bQ (.loop [1,3] mP) [(1,.ptr 0 0),(3,.d (i64 ((0:Nat):Int)))] ⟨[.cells (t.c.map .d)],0⟩=some (cond (fE (DX t.ports.l) 0 t.ports.l) (.exit 0,[],⟨[.cells (t.c.map .d)],0⟩) (.ret,[(2,bl false)],⟨[.cells (t.c.map .d)],0⟩)):=by
 refine kC t.ports.l (DX t.ports.l) (λi=>[(1,.ptr 0 0),(3,.d (i64 i))]) _ _ _ (λi x hx hi W=>?_) (λW=>?_)
 . have hn:=λh=>av (z:=1) h hx (cells:=gq) rfl;have hw:=ay hi (fit.lt ht.1.1);have h0:((i:Int)<t.ports.l.length):=by omega
   have k:=Y2 (E:=E) t ht i x hx hi;simp only [Int.natCast_zero] at k;unfold DX jT;generalize ((t.ports.l.take i).all λy=>!(y==x))=G at *;by_cases c1:x<1
   . simp [mP,hn,h0,c1,gq,show ¬ (x>=1) from by omega]
   by_cases c2:x>65535
   . simp [mP,hn,h0,c1,c2,gq,show ¬ (x<=65535) from by omega]
   have e1:decide (x>=1)=true:=by simp; omega
   have e2:decide (x<=65535)=true:=by simp; omega
   simp [mP,hn,h0,c1,c2,gq];rw [au];simp [k];rw [show decide (1<=x)=true from e1,show decide (x<=65535)=true from e2];cases G<;>simp [hw]
 . simp [mP]
theorem yE {l:List Int}:∀ (m:List Int) (i:Nat),l.drop i=m->(fE (DX l) i m=true↔m.all jT=true/\∀ k,i<=k->∀ (hk:k<l.length),∀ j,∀ (hj:j<k),l[j]≠l[k])
 | [],i,h=>by
  have:l.length<=i:=by simpa using h
  refine ⟨λ_=>⟨rfl,λk hik hk=>?_⟩,λ_=>rfl⟩;omega
 | x::m,i,h=>by
  have hi:i<l.length:=by
   obtain h1 | h1:=cr i l.length
   . exact h1
   . rw [ba h1] at h; cases h
  have hx:l[i]=x/\l.drop (i+1)=m:=by
   rw [aw hi] at h;exact ⟨(List.cons.inj h).1,(List.cons.inj h).2⟩
  rw [fE,aq,yE m (i+1) hx.2,List.all_cons,DX];simp only [aq,cn,Bool.not_eq_true',beq_eq_false_iff_ne];constructor
  . rintro ⟨⟨p1,p2⟩,p3,p4⟩;refine ⟨⟨p1,p3⟩,λk hik hk j hj=>?_⟩;by_cases hki:k=i
    . subst hki;rw [hx.1];exact p2 l[j] (List.mem_take_iff_getElem.2 ⟨j,by omega,rfl⟩)
    . exact p4 k (by omega) hk j hj
  . rintro ⟨⟨p1,p3⟩,p4⟩;refine ⟨⟨p1,λy hy=>?_⟩,p3,λk hik hk j hj=>p4 k (by omega) hk j hj⟩;obtain ⟨j,hj,rfl⟩:=List.mem_take_iff_getElem.1 hy;rw [← hx.1];exact p4 i (br _) hi j (by omega)
theorem yN:∀ {l:List Int},l.Pairwise (λa b=>a<=b)->l≠[]->(1+chg l=l.length↔l.Nodup)
 | [],_,h=>absurd rfl h
 | [x],_,_=>by simp [chg]
 | x::y::l,hp,_=>by
  have ih:=yN (l:=y::l) (List.Pairwise.of_cons hp) (by simp);have hle:=tK (y::l);simp only [ck] at ih hle ⊢;simp only [chg];by_cases he:x=y
  . subst he;simp only [if_true,Nat.zero_add];constructor
    . intro h; omega
    . intro h; exact absurd (by simp) (List.nodup_cons.1 h).1
  . simp only [if_neg he];have hxy:x<y:=by have:=(List.pairwise_cons.1 hp).1 y (by simp); omega
    constructor
    . intro h;refine List.nodup_cons.2 ⟨λhm=>?_,ih.1 (by omega)⟩;obtain h1 | h1:=List.mem_cons.1 hm
      . exact he h1
      . have:=(List.pairwise_cons.1 (List.Pairwise.of_cons hp)).1 x h1;omega
    . intro h;have:=ih.2 (List.nodup_cons.1 h).2;omega
theorem GK (l:List Int):((oD (dm l):Int)==(l.length:Int))=decide l.Nodup:=by
 have hp:(dm l).Perm l:=List.mergeSort_perm _ _;have hs:(dm l).Pairwise (λa b=>a<=b):=by
  have:=List.pairwise_mergeSort (le:=λx y:Int=>decide (x<=y)) (λa b c h1 h2=>by simp at *; omega) (λa b=>by simp; omega) l;exact this.imp (λh=>by simpa using h)
 rw [Bool.eq_iff_iff];simp only [beq_iff_eq,bw];rw [← hp.length_eq,← hp.nodup_iff];generalize dm l=z at *;unfold oD;by_cases h0:z=[]
 . subst h0; simp
 . rw [if_neg h0,← yN hs h0]; omega
theorem EI (l:List Int):fE (DX l) 0 l=(l.all jT&&((oD (dm l):Int)==(l.length:Int))):=by
 rw [GK,Bool.eq_iff_iff,yE l 0 rfl,aq,bw];refine and_congr_right λ_=>?_;rw [List.nodup_iff_pairwise_ne,List.pairwise_iff_getElem];constructor
 . intro h i j hi hj hij;exact h j (Nat.zero_le _) hj i hij
 . intro h k _ hk j hj;exact h j k (by omega) hk hj
theorem bq3:TX 193=some Bu:=by kernel_rfl
theorem bp2:bQ 193=true:=by kernel_rfl
theorem ZG (t:Target)(ht:t.wf big)(h:Hp):Sm E TX bQ 193 [ag t.c] h=some (bl (bq t),h):=by
 have k1:=Zb (E:=E) t ht;rw [EI] at k1;rw [aY bq3 bp2,bq];have a1:=λh=>Df (E:=E) t.methods ht.2.1.1 (λx hx=>(ht.2.1.2 x hx).2) h;have a2:=λh=>Df (E:=E) t.paths ht.2.2.1.1 (λx hx=>(ht.2.2.1.2 x hx).2) h;have a3:=λh=>Df (E:=E) t.hosts ht.2.2.2.1 (λx hx=>(ht.2.2.2.2 x hx).2) h;generalize ((oD (dm t.ports.l):Int)==(t.ports.l.length:Int))=D at *;simp at k1;generalize bf t.methods=A at *;generalize bf t.paths=B at *;generalize bf t.hosts=C at *;generalize t.ports.l.all jT=F at *;cases A with
 | false=>simp [ae,Bu,a1]
 | true =>
  cases B with
  | false=>simp [ae,Bu,a1,a2]
  | true =>
   cases C with
   | false=>simp [ae,Bu,a1,a2,a3]
   | true =>
    by_cases c1:(t.ports.l.length:Int)>6
    . simp [ae,Bu,a1,a2,a3,c1,show ¬ ((t.ports.l.length:Int)<=6) from by omega]
    . simp [ae,Bu,a1,a2,a3,c1,show ((t.ports.l.length:Int)<=6) from by omega];rw [au];simp [k1];cases F<;>cases D<;>simp
section
variable (r:Rule)(hr:r.wf big)
include hr
theorem Yv:Cd E TX bQ (.loop [1,3] sw) [(1,.ptr 0 0),(3,.d (i64 ((0:Nat):Int)))] ⟨[.cells (r.c.map .d)],0⟩=some (cond (r.frm.l.all cK) (.exit 0,[(1,.ptr 0 0)],⟨[.cells (r.c.map .d)],0⟩) (.ret,[(2,bl false)],⟨[.cells (r.c.map .d)],0⟩)):=by
 refine bK r.frm.l cK (λi=>[(1,.ptr 0 0),(3,.d (i64 i))]) _ _ _ (λi x hx hi W=>?_) (λW=>?_)
 . have hn:=λh=>av (z:=3) h hx (cells:=Source.c) rfl;have hw:=ay hi (fit.lt hr.1.1);have h0:((i:Int)<r.frm.l.length):=by omega
   have hc:=λh=>ZF (E:=E) x (hr.1.2 x (cf hx)) h;cases hm:cK x<;>simp [sw,hn,h0,hw,hc,hm]
 . simp [sw]
theorem Yw:Cd E TX bQ (.loop [1,4] sD) [(1,.ptr 0 0),(4,.d (i64 ((0:Nat):Int)))] ⟨[.cells (r.c.map .d)],0⟩=some (cond (r.to.l.all bq) (.exit 2,[(1,.ptr 0 0)],⟨[.cells (r.c.map .d)],0⟩) (.ret,[(2,bl false)],⟨[.cells (r.c.map .d)],0⟩)):=by
 refine bK r.to.l bq (λi=>[(1,.ptr 0 0),(4,.d (i64 i))]) _ _ _ (λi x hx hi W=>?_) (λW=>?_)
 . have hn:=λh=>av (z:=4) h hx (cells:=Target.c) rfl;have hw:=ay hi (fit.lt hr.2.1.1);have h0:((i:Int)<r.to.l.length):=by omega
   have hc:=λh=>ZG (E:=E) x (hr.2.1.2 x (cf hx)) h;cases hm:bq x<;>simp [sD,hn,h0,hw,hc,hm]
 . simp [sD]
theorem Yx:Cd E TX bQ (.loop [1,5] mO) [(1,.ptr 0 0),(5,.d (i64 ((0:Nat):Int)))] ⟨[.cells (r.c.map .d)],0⟩=some (cond (r.whn.l.all fZ) (.exit 4,[],⟨[.cells (r.c.map .d)],0⟩) (.ret,[(2,bl false)],⟨[.cells (r.c.map .d)],0⟩)):=by
 refine bK r.whn.l fZ (λi=>[(1,.ptr 0 0),(5,.d (i64 i))]) _ _ _ (λi x hx hi W=>?_) (λW=>?_)
 . have hn:=λh=>av (z:=2) h hx (cells:=When.c) rfl;have hw:=ay hi (fit.lt hr.2.2.1);have h0:((i:Int)<r.whn.l.length):=by omega
   have hwf:=hr.2.2.2 x (cf hx);have hc:=λh=>ZH (E:=E) x.head hwf.1 h;have hd:=λh=>Df (E:=E) x.terms hwf.2.1 (λy hy=>(hwf.2.2 y hy).2) h;unfold fZ;generalize jl x.head=A at *;generalize bf x.terms=B at *;cases A with
   | false=>simp [mO,hn,h0,hc]
   | true =>
    by_cases c1:(x.terms.l.length:Int)=0
    . simp [mO,hn,h0,hc,c1]
    . have c2:(x.terms.l.length:Int)>0:=by omega
      have c3:0<x.terms.l.length:=by omega
      have c4:x.terms.l≠[]:=by intro h; rw [h] at c2; simp at c2
      cases B<;>simp [mO,hn,h0,hc,hd,hw,c1,c2,c3,c4]
 . simp [mO]
end
theorem bq1:TX 119=some Ej:=by kernel_rfl
theorem bp0:bQ 119=true:=by kernel_rfl
theorem Zz (r:Rule)(hr:r.wf big)(h:Hp):Sm E TX bQ 119 [ag r.c] h=some (bl (eX r),h):=by
 have k1:=Yv (E:=E) r hr;have k2:=Yw (E:=E) r hr;have k3:=Yx (E:=E) r hr;rw [aY bq1 bp0,eX];simp at k1 k2 k3;generalize r.frm.l.all cK=A at *;generalize r.to.l.all bq=B at *;generalize r.whn.l.all fZ=C at *;by_cases c1:(r.frm.l.length:Int)>3
 . simp [ae,Ej,c1,show ¬ ((r.frm.l.length:Int)<=3) from by omega]
 by_cases c2:(r.to.l.length:Int)>3
 . simp [ae,Ej,c1,c2,show ¬ ((r.to.l.length:Int)<=3) from by omega]
 by_cases c3:(r.whn.l.length:Int)>3
 . simp [ae,Ej,c1,c2,c3,show ¬ ((r.whn.l.length:Int)<=3) from by omega]
 simp [ae,Ej,c1,c2,c3,show ((r.frm.l.length:Int)<=3) from by omega,show ((r.to.l.length:Int)<=3) from by omega,show ((r.whn.l.length:Int)<=3) from by omega];rw [au];simp [k1];cases A<;>simp;rw [au];simp [k2];cases B<;>simp;rw [au];simp [k3];cases C<;>simp
theorem YW (p:Pol)(hp:p.wf big):Cd E TX bQ (.loop [1,3] su) [(1,.ptr 0 0),(3,.d (i64 ((0:Nat):Int)))] ⟨[.cells (p.c.map .d)],0⟩=some (cond (p.rules.l.all eX) (.exit 0,[],⟨[.cells (p.c.map .d)],0⟩) (.ret,[(2,bl false)],⟨[.cells (p.c.map .d)],0⟩)):=by
 refine bK p.rules.l eX (λi=>[(1,.ptr 0 0),(3,.d (i64 i))]) _ _ _ (λi x hx hi W=>?_) (λW=>?_)
 . have hn:=λh=>av (z:=3) h hx (cells:=Rule.c) rfl;have hw:=ay hi (fit.lt hp.2.2.2.2.1);have h0:((i:Int)<p.rules.l.length):=by omega
   have hc:=λh=>Zz (E:=E) x (hp.2.2.2.2.2 x (cf hx)) h;cases hm:eX x<;>simp [su,hn,h0,hw,hc,hm]
 . simp [su]
theorem bp9:TX 29=some nL:=by kernel_rfl
theorem bo8:bQ 29=true:=by kernel_rfl
theorem Zm (p:Pol)(hp:p.wf big)(h:Hp):Sm E TX bQ 29 [ag p.c] h=some (bl (df p),h):=by
 have k1:=YW (E:=E) p hp;have k2:=λh=>Zp (E:=E) p.ns hp.2.1 h;rw [aY bp9 bo8,df];simp at k1;generalize p.rules.l.all eX=A at *;generalize gW p.ns=B at *;by_cases c1:p.id<1
 . simp [ae,nL,c1,show ¬ (p.id>=1) from by omega]
 by_cases c2:p.id>4611686018427387903
 . simp [ae,nL,c1,c2,show ¬ (p.id<=4611686018427387903) from by omega]
 have e1:p.id>=1:=by omega
 have e2:p.id<=4611686018427387903:=by omega
 cases c3:eqS p.ns ⟨#[]⟩ with
 | false =>
  cases B with
  | false=>simp [ae,nL,c1,c2,c3,k2]
  | true =>
   by_cases c4:p.service>4611686018427387903
   . simp [ae,nL,c1,c2,c3,k2,c4,show ¬ (p.service<=4611686018427387903) from by omega]
   by_cases c5:p.deny<0
   . simp [ae,nL,c1,c2,c3,k2,c4,c5,show ¬ (p.deny=0) from by omega,show ¬ (p.deny=1) from by omega]
   by_cases c6:p.deny>1
   . simp [ae,nL,c1,c2,c3,k2,c4,c5,c6,show ¬ (p.deny=0) from by omega,show ¬ (p.deny=1) from by omega]
   have e6:((p.deny==0)||(p.deny==1))=true:=by simp; omega
   have e4:p.service<=4611686018427387903:=by omega
   by_cases c7:(p.rules.l.length:Int)>6
   . simp [ae,nL,c1,c2,c3,k2,c4,c5,c6,c7,show ¬ ((p.rules.l.length:Int)<=6) from by omega]
   have e7:(p.rules.l.length:Int)<=6:=by omega
   rw [e6];simp [ae,nL,c1,c2,c3,k2,c4,c5,c6,c7,e1,e2,e4,e7];rw [au];simp [k1];cases A<;>simp
 | true =>
  by_cases c4:p.service>4611686018427387903
  . simp [ae,nL,c1,c2,c3,k2,c4,show ¬ (p.service<=4611686018427387903) from by omega]
  by_cases c5:p.deny<0
  . simp [ae,nL,c1,c2,c3,k2,c4,c5,show ¬ (p.deny=0) from by omega,show ¬ (p.deny=1) from by omega]
  by_cases c6:p.deny>1
  . simp [ae,nL,c1,c2,c3,k2,c4,c5,c6,show ¬ (p.deny=0) from by omega,show ¬ (p.deny=1) from by omega]
  have e6:((p.deny==0)||(p.deny==1))=true:=by simp; omega
  have e4:p.service<=4611686018427387903:=by omega
  by_cases c7:(p.rules.l.length:Int)>6
  . simp [ae,nL,c1,c2,c3,k2,c4,c5,c6,c7,show ¬ ((p.rules.l.length:Int)<=6) from by omega]
  have e7:(p.rules.l.length:Int)<=6:=by omega
  rw [e6];simp [ae,nL,c1,c2,c3,k2,c4,c5,c6,c7,e1,e2,e4,e7];rw [au];simp [k1];cases A<;>simp
end
section
section
variable {E:Calls'}{T:FuncId->Option QF}{val:FuncId->Bool}
theorem mE {keep:List Nat}{body:QC}{α:Type}(l:List α)(q:Nat->α->Bool)(env:Nat->EA)(I:Hp->Prop)(R X:Ex×EA)
 (hr:∀ i x,l[i]?=some x->i<l.length->∀ h,I h->∃ h',I h'/\∀ W:EA->Hp->d9,bY keep W (Cd E T val body (bE keep (env i)) h)=cond (q i x) (W (env (i+1)) h') (some (R.1,R.2,h')))
 (he:∀ h,I h->∀ W:EA->Hp->d9,bY keep W (Cd E T val body (bE keep (env l.length)) h)=some (X.1,X.2,h)) (h:Hp) (hI:I h) :
 ∃ h',I h'/\Cd E T val (.loop keep body) (env 0) h=some (cond (fE q 0 l) (X.1,X.2,h') (R.1,R.2,h')):=by
 have:∀ (m i:Nat) (h:Hp),i+m=l.length->I h->∃ h',I h'/\Cd E T val (.loop keep body) (env i) h=some (cond (fE q i (l.drop i)) (X.1,X.2,h') (R.1,R.2,h')):=by
  intro m;have key:=aC (E:=E) (T:=T) (val:=val) keep body;generalize Cd E T val (.loop keep body)=W at key ⊢
  induction m with
  | zero =>
   intro i h hi hI;refine ⟨h,hI,?_⟩;rw [key,show i=l.length by omega,he h hI W,List.drop_length];rfl
  | succ m ih =>
   intro i h hi hI;have hlt:i<l.length:=by omega
   obtain ⟨h1,hI1,k1⟩:=hr i _ (ab hlt) hlt h hI;rw [key,k1 W,aw hlt,fE];cases hq:q i l[i] with
   | false=>exact ⟨h1,hI1,rfl⟩
   | true =>
    obtain ⟨h2,hI2,k2⟩:=ih (i+1) h1 (by omega) hI1;exact ⟨h2,hI2,by simpa using k2⟩
 simpa using this l.length 0 h (by omega) hI
end
def cu {α:Type}(f:α->Int)(l:List α)(i:Nat)(x:α):Bool:=match i with
 | 0=>true
 | j+1=>match l[j]? with
  | some y=>decide (f y<f x)
  | none=>true
theorem yB {α:Type}(p q:Nat->α->Bool):∀ (l:List α) (i:Nat),fE (λi x=>p i x&&q i x) i l=(fE p i l&&fE q i l)
 | [],_=>rfl
 | x::l,i=>by
  simp only [fE,yB p q l];cases p i x<;>cases q i x<;>cases fE p (i+1) l<;>rfl
theorem Dh {α:Type}(f:α->Int)(l:List α):fE (cu f l) 0 l=aZ (l.map f):=by
 have:∀ (m:List α) (j:Nat) (x:α),l.drop j=x::m->fE (cu f l) (j+1) m=aZ ((x::m).map f):=by
  intro m
  induction m with
  | nil=>intro j x _; rfl
  | cons y m ih =>
   intro j x h;have hj:j<l.length:=by
    obtain h1 | h1:=cr j l.length
    . exact h1
    . rw [ba h1] at h; cases h
   rw [aw hj] at h;have h1:=(List.cons.inj h).1;have h2:=(List.cons.inj h).2;rw [fE,ih (j+1) y h2];simp only [ct,aZ,cu,ab hj,h1]
 cases l with
 | nil=>rfl
 | cons x m=>simpa [fE,cu] using this m 0 x rfl
theorem yC {α:Type}(p:α->Bool):∀ (l:List α) (i:Nat),fE (λ_ x=>!p x) i l=!l.any p
 | [],_=>rfl
 | x::l,i=>by rw [fE,yC p l,List.any_cons,Bool.not_or]
theorem kE {α:Type}{f:α->Int}{l:List α}{i:Nat}{x:α}(h:¬ (i:Int)>0):cu f l i x=true:=by
 obtain rfl:i=0:=by omega
 rfl
theorem pI {α:Type}{l:List α}{i:Nat}(hl:l.length<2 ^ 62)(hi:i<l.length)(h0:(i:Int)>0):∃ y j,i=j+1/\l[j]?=some y/\wrap .i64 ((i:Int)-1)=(j:Int):=by
 cases i with
 | zero=>simp at h0
 | succ j =>
  refine ⟨l[j],j,rfl,ab (by omega),?_⟩;have e:(((j+1:Nat):Int)-1)=(j:Int):=by omega
  rw [e];rw [wrap64]<;>omega
variable {E:Calls'}
end
section
variable {E:Calls'}
end
section
abbrev Pr (α:Type):=List Int->Option (α×List Int)
def Pr.ret {α:Type}(x:α):Pr α:=λb=>some (x,b)
def Pr.seq {α β:Type}(p:Pr α)(q:Pr β):Pr (α×β):=λb=>match p b with
 | some (x,l)=>match q l with
  | some (y,m)=>some ((x,y),m)
  | none=>none
 | none=>none
def Pr.map {α β:Type}(f:α->β)(p:Pr α):Pr β:=λb=>match p b with
 | some (x,l)=>some (f x,l)
 | none=>none
def Pr.keep {α:Type}(p:Pr α)(ok:α->Bool):Pr α:=λb=>match p b with
 | some (x,l)=>if ok x=true then some (x,l) else none
 | none=>none
end
section
abbrev WY (n:Int):Prop:=0<=n/\n<2 ^ 64
theorem Inr.u64 {n:Int}(h:Inr .u64 n):WY n:=by
 simp [Inr,Lit.wf,IntKind.min,IntKind.max,IntKind.bits,IntKind.signed] at h;exact ⟨h.1,by omega⟩
theorem Inr.u32 {n:Int}(h:Inr .u32 n):0<=n/\n<=4294967295:=by
 simp [Inr,Lit.wf,IntKind.min,IntKind.max,IntKind.bits,IntKind.signed] at h;exact ⟨h.1,by omega⟩
end
section
variable {E:Calls'}
theorem KJ {l:List V}{i:Nat}(h:i<l.length):sub l i 1=some [l[i]]:=by
 rw [fJ,if_pos (by omega),aw h]; rfl
end
section
variable {E:Calls'}
end
section
variable {E:Calls'}
end
section
variable {E:Calls'}
end
section
variable {E:Calls'}
structure K2 (p:Pol) (L:Nat) (r:Rule) (bs:List Blk):Prop where
 p0:ah bs 0=some (p.c.map .d)
 r0:ah bs L=some (r.c.map .d)
theorem K2.lay {p:Pol}{L:Nat}{r:Rule}{bs:List Blk}(h:K2 p L r bs)(ys:List Blk):K2 p L r (bs++ys):=⟨aJ h.p0,aJ h.r0⟩
end
section
variable {E:Calls'}
end
section
variable {E:Calls'}
end
section
variable {E:Calls'}
end
section
def Cfg.nf (c:Cfg):Cfg:=⟨c.epoch,c.next,c.hosts,c.ways,c.pods.nf id,c.services.nf id,c.bound.nf id,c.policies.nf Pol.nf⟩
theorem Cfg.same_iff {a b:Cfg}:a.same b=true↔a.nf=b.nf:=by
 simp only [Cfg.same,aq,beq_iff_eq,dh (g:=id) (λx y=>Pod.eqB_iff (x:=x) (y:=y)),dh (g:=id) (λx y=>Svc.eqB_iff (x:=x) (y:=y)),dh (g:=id) (λx y=>Way.eqB_iff (x:=x) (y:=y)),dh (λx y=>Pol.same_iff (a:=x) (b:=y)),Cfg.nf,Cfg.mk.injEq,Sl.nf_iff,and_assoc]
end
section
def Hng (w:Bool)(K:Nat->Prop)(bs:List Blk)(v:V)(d:D)(k:Nat):Prop:=∀ bs' lo,(∀ x,K x->bs'[x]?=bs[x]?)->∀ j,k<=j->dataV ⟨bs',lo⟩ j v=some d/\(w=true->mW ⟨bs',lo⟩ j v=true)
variable {w:Bool}
theorem Hng.d {K:Nat->Prop}{bs:List Blk}{d:D}{k:Nat}(h:∀ nl c cs,d≠.slice nl (c::cs)):Hng w K bs (.d d) d k:=λbs' lo _ j _=>by
 refine ⟨by cases j<;>rfl,λ_=>?_⟩;cases d with
 | slice nl es =>
  cases es with
  | nil=>cases j<;>rfl
  | cons c cs=>exact absurd rfl (h nl c cs)
 | _=>cases j<;>rfl
theorem Hng.on {K K':Nat->Prop}{bs bs':List Blk}{v:V}{d:D}{k:Nat}(h:Hng w K bs v d k)(hb:∀ x,K x->bs'[x]?=bs[x]?)(hK:∀ x,K x->K' x):Hng w K' bs' v d k :=
 λbs2 lo h2 j hj=>h bs2 lo (λx hx=>(h2 x (hK x hx)).trans (hb x hx)) j hj
def Hngs (w:Bool)(K:Nat->Prop)(bs:List Blk)(k:Nat):List V->List D->Prop
 | [],[]=>True
 | v::vs,d::ds=>Hng w K bs v d k/\Hngs w K bs k vs ds
 | _,_=>False
theorem Hngs.on {K K':Nat->Prop}{bs bs':List Blk}{k:Nat}(hb:∀ x,K x->bs'[x]?=bs[x]?)(hK:∀ x,K x->K' x):∀ {vs:List V} {ds:List D},Hngs w K bs k vs ds->Hngs w K' bs' k vs ds
 | [],[],_=>trivial
 | _::_,_::_,h=>⟨h.1.on hb hK,Hngs.on hb hK h.2⟩
 | [],_::_,h=>h.elim
 | _::_,[],h=>h.elim
theorem Hngs.app {K:Nat->Prop}{bs:List Blk}{k:Nat}:∀ {vs ws:List V} {ds es:List D},Hngs w K bs k vs ds->Hngs w K bs k ws es->Hngs w K bs k (vs++ws) (ds++es)
 | [],_,[],_,_,h=>h
 | _::_,_,_::_,_,h,h'=>⟨h.1,Hngs.app h.2 h'⟩
 | [],_,_::_,_,h,_=>h.elim
 | _::_,_,[],_,h,_=>h.elim
theorem Hngs.len {K:Nat->Prop}{bs:List Blk}{k:Nat}:∀ {vs:List V} {ds:List D},Hngs w K bs k vs ds->vs.length=ds.length
 | [],[],_=>rfl
 | _::_,_::_,h=>by simp [Hngs.len h.2]
 | [],_::_,h=>h.elim
 | _::_,[],h=>h.elim
theorem Hngs.mapM {K:Nat->Prop}{bs:List Blk}{k:Nat}{bs':List Blk}{lo:Nat}(hb:∀ x,K x->bs'[x]?=bs[x]?){j:Nat}(hj:k<=j):∀ {vs:List V} {ds:List D},Hngs w K bs k vs ds->vs.mapM (dataV ⟨bs',lo⟩ j)=some ds/\(w=true->vs.all (mW ⟨bs',lo⟩ j)=true)
 | [],[],_=>⟨rfl,λ_=>rfl⟩
 | v::vs,d::ds,h=>by
  obtain ⟨a1,a2⟩:=h.1 bs' lo hb j hj;obtain ⟨b1,b2⟩:=Hngs.mapM (lo:=lo) hb hj h.2;refine ⟨?_,λhw=>by simp [a2 hw,b2 hw]⟩;rw [List.mapM_cons,a1,b1];rfl
 | [],_::_,h=>h.elim
 | _::_,[],h=>h.elim
theorem kK {z:Nat}:∀ (es:List (List D)),(∀ e∈es,e.length=z)->dataV.chunks z es.flatten es.length=es
 | [],_=>rfl
 | e::es,h=>by
  have he:e.length=z:=h e (by simp);simp only [List.flatten_cons,ck,dataV.chunks];rw [List.take_left' he,List.drop_left' he,kK es λx hx=>h x (by simp [hx])]
theorem Hng.row {K:Nat->Prop}{bs:List Blk}{k b n z:Nat}{cap:Option Nat}{cs:List V}{es:List (List D)}(hKb:K b)(hb:ah bs b=some cs)(hcs:Hngs w K bs k cs es.flatten)(hz:∀ e∈es,e.length=z)(hn:n=es.length) :
 Hng w K bs (.row b 0 n cap z) (.slice false es) (k+1):=by
 intro bs' lo h j hj;cases j with
 | zero=>omega
 | succ j =>
  have hg:Hp.get ⟨bs',lo⟩ b=some cs:=by
   unfold ah at hb;simp only [Hp.get,h b hKb];split at hb
   . rename_i hb2; rw [hb2]; simpa using hb
   . cases hb
  obtain ⟨m1,m2⟩:=Hngs.mapM (lo:=lo) h (show k<=j by omega) hcs;have hlen:cs.length=n * z:=by
   rw [hcs.len,hn,List.length_flatten];have:es.map List.length=List.replicate es.length z:=by
    rw [List.eq_replicate_iff];exact ⟨by simp,λx hx=>by obtain ⟨e,he,rfl⟩:=ce.1 hx; exact hz e he⟩
   rw [this]; simp
  have hs:sub cs 0 (n * z)=some cs:=by
   unfold sub;rw [if_pos (by omega)];simp [← hlen]
  refine ⟨?_,?_⟩
  . simp only [dataV,hg,hs,m1];rw [hn,kK es hz]
  . intro hw;simp only [mW,hg];exact m2 hw
theorem Hng.data {K:Nat->Prop}{bs:List Blk}{d:D}{k:Nat}:Hng false K bs (.d d) d k:=λbs' lo _ j _=>⟨by cases j<;>rfl,λh=>by cases h⟩
theorem Hng.weak {K:Nat->Prop}{bs:List Blk}{v:V}{d:D}{k:Nat}(h:Hng true K bs v d k):Hng false K bs v d k:=λbs' lo hb j hj=>⟨(h bs' lo hb j hj).1,λh=>by cases h⟩
theorem Hngs.data {K:Nat->Prop}{bs:List Blk}{k:Nat}:∀ {ds:List D},Hngs false K bs k (ds.map .d) ds
 | []=>trivial
 | _::_=>⟨Hng.data,Hngs.data⟩
end
section
variable {w:Bool}
variable {w:Bool}
def KB (L:Nat)(bs:List Blk)(B:Nat):Nat->Prop:=λx=>L<=x/\x<bs.length/\x≠B
def KL (L:Nat)(bs:List Blk):Nat->Prop:=λx=>L<=x/\x<bs.length
def AccV (w:Bool)(L z k n:Nat)(ds:List D)(bs:List Blk)(v:V):Prop:=(n=0/\ds=[]/\v=.d (.slice true []))\/(0<n/\∃ B cs,L<=B/\v=.row B 0 n none z/\ah bs B=some cs/\cs.length=n * z/\Hngs w (KB L bs B) bs k cs ds)
theorem AccV.nil (L z k:Nat)(bs:List Blk):AccV w L z k 0 [] bs (.d (.slice true [])):=.inl ⟨rfl,rfl,rfl⟩
theorem AccV.nu {L z k n:Nat}{ds:List D}{bs:List Blk}{v:V}(h:AccV w L z k n ds bs v):nu v=some v:=by
 obtain ⟨_,_,rfl⟩ | ⟨_,B,cs,_,rfl,_⟩:=h<;>rfl
theorem AccV.on {L z k n:Nat}{ds:List D}{bs bs':List Blk}{v:V}(h:AccV w L z k n ds bs v)(hl:bs.length<=bs'.length)(ho:∀ x,L<=x->x<bs.length->bs'[x]?=bs[x]?):AccV w L z k n ds bs' v:=by
 obtain h | ⟨h0,B,cs,h1,h2,h3,h4,h5⟩:=h
 . exact .inl h
 . refine .inr ⟨h0,B,cs,h1,h2,?_,h4,h5.on (λx hx=>ho x hx.1 hx.2.1) λx hx=>⟨hx.1,by have:=hx.2.1; omega,hx.2.2⟩⟩;rw [← h3]; unfold ah; rw [ho B h1 (aB h3)]
theorem AccV.app {L L2 z k n:Nat}{ds es:List D}{bs:List Blk}{v:V}(h:AccV w L z k n ds bs v)(hz0:0<z){by_:Nat}(hby:by_<=4096)(hl:n<big){r:Nat}{cap:Option Nat}{vs:List V}(hvl:vs.length=z)(hr:ah bs r=some vs)
 (hL:L<=L2) (hB:∀ B n' c,v=.row B 0 n' c z->B<L2) (hv:Hngs w (KL L2 bs) bs k vs es) (hLb:L<=bs.length) :
 ∃ v' bs',∃ F:Nat->Nat,(∀ lo,fH ⟨bs,lo⟩ z by_ v (.row r 0 1 cap z)=some (v',⟨bs',F lo⟩))/\AccV w L z k (n+1) (ds++es) bs' v'/\bs.length<=bs'.length/\(∀ x,x<L->bs'[x]?=bs[x]?)/\∀ lo:Nat,F lo<=lo:=by
 have hrc:∀ lo,aP ⟨bs,lo⟩ (.row r 0 1 cap z) z=some (1,vs):=λlo=>by
  have:sub vs 0 z=some vs:=cO hvl;simp only [aP,if_true,get_eq,hr,Nat.one_mul,this,Option.map_some]
 have hroom:∀ n,n<=big->roomy n by_=true:=λn hn=>by simp only [roomy,aq,bw]; exact ⟨hn,hby⟩
 obtain ⟨rfl,rfl,rfl⟩ | ⟨h0,B,cs,h1,rfl,h3,h4,h5⟩:=h
 . refine ⟨.row bs.length 0 1 none z,bs++[.cells vs],id,λlo=>by simp only [fH,hrc,aK,if_neg (show ¬ (1=0) by decide),if_neg (show ¬ z=0 by omega),hroom 1 (by decide),if_true]; rfl,.inr ⟨by omega,bs.length,vs,hLb,rfl,by simp,by simpa using hvl,?_⟩,by simp,λx hx=>by rw [am (by omega)],λlo=>br _⟩;exact hv.on (λx hx=>by rw [am hx.2]) λx hx=>⟨by have:=hx.1; omega,by have:=hx.2; simp; omega,by have:=hx.2; omega⟩
 . have hsub:sub cs 0 (n * z)=some cs:=cO h4;have hpos:0<cs.length:=by rw [h4]; exact Nat.mul_pos h0 hz0
   have hbl:=aB h3;have hBL:=hB B n none rfl;refine ⟨.row bs.length 0 (n+1) none z,bs.set B (.cells [])++[.cells (cs++vs)],λlo=>min lo B,λlo=>by simp only [fH,hrc,aK,ne_eq,not_true_eq_false,false_or,if_neg (show ¬ (1=0) by decide),if_neg (show ¬ z=0 by omega),get_eq,h3,hsub,hroom (n+1) (by omega),Bool.not_true,bo,if_false,hpos,and_self,if_true,Hp.size,Hp.alloc,Hp.set,List.length_set],.inr ⟨by omega,bs.length,cs++vs,hLb,rfl,?_,by rw [ao,h4,hvl,Nat.succ_mul],?_⟩,by simp,λx hx=>?_,λlo=>Nat.min_le_left _ _⟩
   . have:ah (bs.set B (.cells [])++[.cells (cs++vs)]) (bs.set B (.cells [])).length=some (cs++vs):=by rw [eF]; rfl
     rw [List.length_set] at this;exact this
   . have ho:∀ x,x<bs.length->x≠B->(bs.set B (.cells [])++[.cells (cs++vs)])[x]?=bs[x]?:=λx hx hne=>by
      rw [am (by simpa using hx),ac (Ne.symm hne)]
     refine (h5.on (λx hx=>ho x hx.2.1 hx.2.2) λx hx=>⟨hx.1,by have:=hx.2.1; simp; omega,by have:=hx.2.1; omega⟩).app (hv.on (λx hx=>ho x hx.2 (by have:=hx.1; omega)) λx hx=>⟨by have:=hx.1; omega,by have:=hx.2; simp; omega,by have:=hx.2; omega⟩)
   . rw [am (by simp; omega),ac (by omega)]
theorem AccV.hng {L z k n:Nat}{bs:List Blk}{v:V}{es:List (List D)}(h:AccV w L z k n es.flatten bs v)(hz:∀ e∈es,e.length=z)(hn:n=es.length):Hng w (KL L bs) bs v (.slice es.isEmpty es) (k+1):=by
 obtain ⟨h0,h1,rfl⟩ | ⟨h0,B,cs,h1,rfl,h3,h4,h5⟩:=h
 . have:es=[]:=List.eq_nil_of_length_eq_zero (by omega);subst this;exact Hng.d λnl c cs hh=>by simp at hh
 . have he:es.isEmpty=false:=by cases es with
    | nil=>simp at hn; omega
    | cons _ _=>rfl
   rw [he];exact Hng.row ⟨h1,aB h3⟩ h3 (h5.on (λ_ _=>rfl) λx hx=>⟨hx.1,hx.2.1⟩) hz hn
theorem cpy {α:Type}{cells:α->List D}{z by_:Nat}(hz:∀ x,(cells x).length=z)(hz0:0<z)(hby:by_<=4096){s:Sl α}(hs:short s)(bs:List Blk):∃ v ys,(∀ lo,fH ⟨bs++[.cells []],lo⟩ z by_ (.row bs.length 0 0 (some 0) z) (.d (s.d cells))=some (v,⟨bs++([.cells []]++ys),lo⟩))/\v.cells=some [v]/\nu v=some v/\Hng false (KL bs.length (bs++([.cells []]++ys))) (bs++([.cells []]++ys)) v (.slice false (s.l.map cells)) 1:=by
 have hzz:z≠0:=by omega
 have hrc:∀ h,aP h (.d (s.d cells)) z=some (s.l.length,flat (s.l.map cells)):=λh=>by
  have hall:((s.l.map cells).all λe=>e.length==z)=true:=cn.2 λx hx=>by
   obtain ⟨y,_,rfl⟩:=ce.1 hx;simp [hz]
  simp only [aP,Sl.d,hall,if_true,flat,b9]
 by_cases h0:s.l.length=0
 . have hl:s.l=[]:=List.length_eq_zero_iff.1 h0;refine ⟨.row bs.length 0 0 (some 0) z,[],λlo=>?_,rfl,rfl,?_⟩
   . simp only [fH,hrc,aK,if_pos h0];simp [hzz]
   . rw [hl];exact Hng.row (cs:=[]) (es:=[]) (k:=0) ⟨br _,by simp⟩ (by simp) trivial (by simp) rfl
 . have hroom:roomy s.l.length by_=true:=by simp only [roomy,aq,bw]; exact ⟨hs.1,hby⟩
   refine ⟨.row (bs.length+1) 0 s.l.length none z,[.cells (flat (s.l.map cells))],λlo=>?_,rfl,rfl,?_⟩
   . simp only [fH,hrc,aK,if_neg h0];simp [hzz,hroom,h0]
   . refine Hng.row (cs:=flat (s.l.map cells)) (k:=0) ⟨by omega,by simp⟩ ?_ ?_ (λe he=>by obtain ⟨y,_,rfl⟩:=ce.1 he; exact hz y) (by simp)
     . have:=fu (bs:=bs) (ys:=[.cells [],.cells (flat (s.l.map cells))]) (i:=1);rw [show bs++([Blk.cells []]++[Blk.cells (flat (s.l.map cells))])=bs++[.cells [],.cells (flat (s.l.map cells))] from rfl,this];rfl
     . exact Hngs.data
end
