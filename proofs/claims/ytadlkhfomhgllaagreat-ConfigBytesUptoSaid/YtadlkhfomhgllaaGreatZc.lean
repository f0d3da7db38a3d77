/- The law ConfigBytes. -/
import Derived.Test.YtadlkhfomhgllaaGreatNu
import Derived.Test.YtadlkhfomhgllaaGreatYj
import Derived.Test.YtadlkhfomhgllaaGreatKa
set_option maxRecDepth 100000
set_option linter.unusedVariables false
set_option linter.unusedSimpArgs false
namespace Go.Proofs.YtadlkhfomhgllaaGreat
section
variable {E:Calls'}
theorem D95 (hE:dL E)(h110:∀ p:Pol,p.wf big->∀ (h:Hp) (v:V),frz h v=some (ag p.c)->E 110 [v] h=some (bl (bz p),h))(h8:∀ c:Cfg,c.wf 1048576->c.wf big->∀ (h:Hp) (v:V),frz h v=some (ag c.c)->E 8 [v] h=some (bl (bL c),h)){nl:Bool}{l:List Int}(hb:byteL l)(hl:l.length<=big)(h:Hp) :
 Sm E TDr aV 14 [.d (Sl.d u8C ⟨nl,l⟩)] h=some (match lM l with | some c=>.tup [ag c.c,.d (i64 0)] | none=>.tup [ag cfg0.c,.d (i64 2)],h):=by
 have k:=F95 hE h110 h8 (nl:=nl) hb hl;rw [aY ar3 (by kernel_rfl)];cases hd:lM l with
 | some c =>
  rw [hd] at k;obtain ⟨cs,h',K,k1,k2⟩:=k;have k3:=Hngs.mapM (bs':=h'.bs) (lo:=h'.low) (λ_ _=>rfl) (show 1<=8 by decide) k2;have hz:frz h' (.tup [.agg cs,.d (i64 0)])=some (.tup [ag c.c,.d (i64 0)]):=by
   simp only [frz,List.mapM_cons,List.mapM_nil,dh,cK,k3.1,ky]; rfl
  simp [k1,hz,fI]
 | none =>
  rw [hd] at k;obtain ⟨h',k1⟩:=k;have hz:frz h' (.tup [.agg (cfL 0 0 0 0 nV nV nV nV),.d (i64 2)])=some (.tup [ag cfg0.c,.d (i64 2)]):=by
   have:dh h' (.agg (cfL 0 0 0 0 nV nV nV nV))=some (ag cfg0.c):=by
    have:=fM h' 8 cfg0.c;simp only [dh,cK];rw [show (((cfL 0 0 0 0 nV nV nV nV):List V))=cfg0.c.map V.d from rfl,this];rfl
   simp only [frz,List.mapM_cons,List.mapM_nil,dh,ky]; rfl
  simp [k1,hz,fI]
def YJ:List (Nat×QF):=[(3,r11)]
def TQ3:FuncId->Option QF:=lu YJ
def xO (f:FuncId):Bool:=Nat.beq 3 f
structure LawB (E:Calls') (c d:Cfg) (nl:Bool) (l:List Int):Prop where
 e4:∀ x:Cfg,x.ok->∃ b:Bool,∀ h,E 4 [x.v] h=some (bl b,h)
 e5:∀ h,E 5 [] h=some (bl true,h)
 e6:∀ h,E 6 [c.v] h=some (ag c.cp.c,h)
 e7:∀ h,E 7 [c.v] h=some (if bL c=true then .tup [.d (bytesD (bE c)),.d (i64 0)] else .tup [.d (.slice true []),.d (i64 1)],h)
 e8:∀ x:Cfg,x.wf 1048576->x.wf big->∀ h,E 8 [x.v] h=some (bl (bL x),h)
 e9:∀ h,E 9 [c.v] h=some (bl (bL c),h)
 e10:bL c.cp=true->∀ h,E 10 [c.cp.v] h=some (.d (bytesD (bE c.cp)),h)
 e11:∀ x y:Cfg,x.ok->∀ h,E 11 [x.v,y.v] h=some (bl (x.same y),h)
 e12:∀ x y:Cfg,x.ok->∀ a h,frz h a=some (ag x.c)->E 12 [a,y.v] h=some (bl (x.same y),h)
 e13:∀ h,E 13 [.d (Sl.d u8C ⟨nl,l⟩)] h=some (match lM l with | some x=>.tup [ag x.c,.d (i64 0)] | none=>.tup [ag cfg0.c,.d (i64 2)],h)
 e14:∀ h,E 14 [.d (Sl.d u8C ⟨nl,l⟩)] h=some (match lM l with | some x=>.tup [ag x.c,.d (i64 0)] | none=>.tup [ag cfg0.c,.d (i64 2)],h)
 e15:∀ bs,∃ bs' lo' cells,∃ o:Cfg,E 15 [c.v] ⟨bs,0⟩=some (.agg cells,⟨bs',lo'⟩)/\(∀ x,x<bs.length->bs'[x]?=bs[x]?)/\bs.length<=bs'.length/\Spoils bs.length bs'.length bs' cells ∧
  (∀ b2 lo2,(∀ x,bs.length<=x->x<bs'.length->b2[x]?=bs'[x]?)->cK ⟨b2,lo2⟩ cells=some o.c)/\o.ok/\o.nf=c.nf
 e16:∀ L0 M bs cells,Spoils L0 M bs cells->∃ bs',∃ F:Nat->Nat,(∀ lo,E 16 [.agg cells] ⟨bs,lo⟩=some (.tup [],⟨bs',F lo⟩))/\∀ x,x<L0->bs'[x]?=bs[x]?
 e17:∀ a b,Inr .i64 a->Inr .i64 b->∀ h,E 17 [.d (i64 a),.d (i64 b)] h=some (.tup [ag (lT a b).1.c,.d (i64 (lT a b).2)],h)
theorem qt3:TQ3 3=some r11:=by kernel_rfl
theorem qv3:xO 3=true:=by kernel_rfl
theorem Ez:cfg0.ok:=⟨⟨by decide,λ_=>rfl⟩,⟨by decide,λ_=>rfl⟩,⟨by decide,λ_=>rfl⟩,⟨by decide,λ_=>rfl⟩,by simp [cfg0]⟩
theorem Cfg.same_self (c:Cfg):c.same c=true:=Cfg.same_iff.2 rfl
theorem FO {a b:Int}:bL (bQ a b)=kP (bQ a b):=by
 cases hm:kP (bQ a b) with
 | false=>simp [bL,hm]
 | true =>
  simp only [bL,hm,Bool.and_true,ap,br];refine ⟨by simp [jm,bQ],?_⟩;have a1:=aR (bQ a b).epoch;have a2:=aR (bQ a b).next
  have a3:=aR (IntKind.wrap .u64 (bQ a b).hosts);have a4:=aR (IntKind.wrap .u64 (bQ a b).ways);have a5:=aR ((bQ a b).pods.l.length:Int);have a6:=aR ((bQ a b).services.l.length:Int);have a7:=aR ((bQ a b).bound.l.length:Int);have a8:=aR ((bQ a b).policies.l.length:Int);have a9:=aR ((0:Nat):Int);have p1:(bQ a b).pods.l=[]:=rfl;have p2:(bQ a b).services.l=[]:=rfl;have p3:(bQ a b).bound.l=[]:=rfl;have p4:(bQ a b).policies.l=[]:=rfl;simp only [bE,ao,List.flatMap_cons,List.flatMap_nil,ck];rw [p1,p2,p3,p4] at *;simp only [List.flatMap_nil,ck] at *;omega
theorem as4 (c d:Cfg)(hc:c.wf 1048576)(hcb:c.wf big)(hd:d.ok){nl:Bool}{l:List Int}(hb:byteL l)(hl:l.length<=big){a b:Int}(ha:Inr .i64 a)(hbb:Inr .i64 b)(hE:LawB E c d nl l)(h:Hp):Sm E TQ3 xO 3 [c.v,d.v,.d (Sl.d u8C ⟨nl,l⟩),.d (i64 a),.d (i64 b)] h=some (bl true,h):=by
 have X:∀ f,TQ3 f=none->∀ a h,Sm E TQ3 xO f a h=E f a h:=λf hf a h=>fA hf;have hok:c.ok:=hcb.ok (bo _);have hpw:=Cfg.cp_wf hc;have hpb:=Cfg.cp_wf hcb;have hpk:c.cp.ok:=hpb.ok (bo _);obtain ⟨b4,n4⟩:=hE.e4 c hok;obtain ⟨b4',n4'⟩:=hE.e4 d hd;have n4:=λh=>(X 4 (by kernel_rfl) _ _).trans (n4 h);have n4':=λh=>(X 4 (by kernel_rfl) _ _).trans (n4' h);have n5:=λh=>(X 5 (by kernel_rfl) _ _).trans (hE.e5 h);have n6:=λh=>(X 6 (by kernel_rfl) _ _).trans (hE.e6 h);have n7:=λh=>(X 7 (by kernel_rfl) _ _).trans (hE.e7 h);have n8:=λh=>(X 8 (by kernel_rfl) _ _).trans (hE.e8 c.cp hpw hpb h);have hcm:bL c.cp=bL c:=FR c.cp_nf;rw [hcm] at n8;have n9:=λh=>(X 9 (by kernel_rfl) _ _).trans (hE.e9 h);have n10:=λhm h=>(X 10 (by kernel_rfl) _ _).trans (hE.e10 (hcm.trans hm) h);rw [uA c.cp_nf] at n10;have n11:=λh=>(X 11 (by kernel_rfl) _ _).trans (hE.e11 c d hok h);have n11':=λh=>(X 11 (by kernel_rfl) _ _).trans (hE.e11 c c hok h);rw [c.same_self] at n11';have n12:=λh=>(X 12 (by kernel_rfl) _ _).trans (hE.e12 c.cp d hpk c.cp.v h (by simp [Cfg.v]));have hsm:c.cp.same d=c.same d:=by
  rw [Bool.eq_iff_iff,Cfg.same_iff,Cfg.same_iff,c.cp_nf]
 rw [hsm] at n12;have n13:=λh=>(X 13 (by kernel_rfl) _ _).trans (hE.e13 h);have n14:=λh=>(X 14 (by kernel_rfl) _ _).trans (hE.e14 h);have n17:=λh=>(X 17 (by kernel_rfl) _ _).trans (hE.e17 a b ha hbb h);have n8f:=λh=>(X 8 (by kernel_rfl) _ _).trans (hE.e8 (bQ a b) (lW ha hbb) (lW ha hbb) h);rw [FO] at n8f;have n12e:=λh=>(X 12 (by kernel_rfl) _ _).trans (hE.e12 c c.cp hok c.v h (by simp [Cfg.v]));rw [Cfg.same_iff.2 c.cp_nf.symm] at n12e;have hlen:∀ h,pW false (.d (Sl.d u8C ⟨nl,l⟩)) h=some (.d (i64 l.length),h):=λh=>by simp [Sl.d]
 rw [aY qt3 qv3];cases b4 with
 | true=>simp +decide [ae,r11,n4,n5]
 | false =>
 cases b4' with
 | true=>simp +decide [ae,r11,n4,n4',n5]
 | false =>
 by_cases hgt:(l.length:Int)>20000
 . simp +decide [ae,r11,n4,n4',n5,hlen,hgt]
 obtain ⟨x,k,n13,n14,hx⟩:∃ x:Cfg,∃ k:Int,(∀ h,Sm E TQ3 xO 13 [.d (Sl.d u8C ⟨nl,l⟩)] h=some (.tup [ag x.c,.d (i64 k)],h))/\(∀ h,Sm E TQ3 xO 14 [.d (Sl.d u8C ⟨nl,l⟩)] h=some (.tup [ag x.c,.d (i64 k)],h))/\x.ok:=by
  cases hd:lM l with
  | none =>
   simp only [hd] at n13 n14;exact ⟨_,_,n13,n14,Ez⟩
  | some x =>
   simp only [hd] at n13 n14;exact ⟨_,_,n13,n14,(cfgOk.wf (by decide) (IU hb hd).2.1).ok (bo _)⟩
 have n12x:=λh=>(X 12 (by kernel_rfl) _ _).trans (hE.e12 x x hx x.v h (by simp [Cfg.v]));rw [x.same_self] at n12x;obtain ⟨b1,lo1,cells,o,n15,k15,l15,sp,fz,ho,hon⟩:=hE.e15 [.cells (c.c.map .d),.cells (d.c.map .d),.cells (c.cp.c.map .d),.cells (x.c.map .d),.cells (x.c.map .d)];have n15:=(X 15 (by kernel_rfl) _ _).trans n15;have g0:aa b1 0=some (c.c.map .d):=by unfold aa; rw [k15 0 (by simp)]; rfl
 have g2:aa b1 2=some (c.cp.c.map .d):=by unfold aa; rw [k15 2 (by simp)]; rfl
 have g3:aa b1 3=some (x.c.map .d):=by unfold aa; rw [k15 3 (by simp)]; rfl
 have g4:aa b1 4=some (x.c.map .d):=by unfold aa; rw [k15 4 (by simp)]; rfl
 have hcl:cells.length=8:=sp.len;have hF:∀ ys lo,frz ⟨b1++ys,lo⟩ (.agg cells)=some (ag o.c):=λys lo=>by
  rw [wK,fz (b1++ys) lo λx h1 h2=>am h2]
 have n12o:=λys lo=>(X 12 (by kernel_rfl) _ _).trans (hE.e12 o c.cp ho (.agg cells) ⟨b1++ys,lo⟩ (hF ys lo));rw [Cfg.same_iff.2 (hon.trans c.cp_nf.symm)] at n12o;obtain ⟨b2,F,n16,k16⟩:=hE.e16 5 b1.length (b1++[.cells cells]) cells (sp.on (by simp) λx h1 h2=>am h2);have n16:=λlo=>(X 16 (by kernel_rfl) _ _).trans (n16 lo);have m0:aa b2 0=some (c.c.map .d):=eB (k16 0 (by decide)) (ay g0);have m2:aa b2 2=some (c.cp.c.map .d):=eB (k16 2 (by decide)) (ay g2);have hs8:sub cells 0 8=some cells:=bB hcl;have ga:aa (b1++[.cells cells]) b1.length=some cells:=by simp
 have n12o':=λlo=>n12o [.cells cells] lo;obtain ⟨nb,ns,hst⟩:∃ nb:Bool,∃ s:Cfg,lT a b=(s,if nb=true then 0 else 1)/\kP (bQ a b)=nb/\s=(if nb=true then bQ a b else cfg0):=by
  unfold lT;cases kP (bQ a b) with
  | true=>exact ⟨true,_,by simp; rfl,rfl,by simp⟩
  | false=>exact ⟨false,_,by simp; rfl,rfl,by simp⟩
 obtain ⟨h1,h2,h3⟩:=hst;rw [h1] at n17;rw [h2] at n8f;have hB:(bQ a b).c=[(.int .u64 1),(.int .u64 10),i64 a,i64 b,(.slice true []),(.slice true []),(.slice true []),(.slice true [])]:=rfl;have hZ:cfg0.c=[(.int .u64 0),(.int .u64 0),i64 0,i64 0,(.slice true []),(.slice true []),(.slice true []),(.slice true [])]:=rfl;have hBk:(bQ a b).ok:=(lW (B:=big) ha hbb).ok (bo _);have n12b:=λh=>(X 12 (by kernel_rfl) _ _).trans (hE.e12 (bQ a b) (bQ a b) hBk (bQ a b).v h (by simp [Cfg.v]));have n12z:=λh=>(X 12 (by kernel_rfl) _ _).trans (hE.e12 cfg0 cfg0 Ez cfg0.v h (by simp [Cfg.v]));rw [Cfg.same_self] at n12b n12z;simp only [Cfg.v,hB,hZ,ag,cr,List.map_nil] at n8f n12b n12z;simp at n12o' n16 ga;have hS0:∀ h,iW (.d (bytesD (bE c))) h=some (.d (.str (strOf (bE c))),h):=λh=>ma;cases nb<;>simp only [bk,if_true,if_false] at h3 n17<;>subst h3<;>simp only [hB,hZ] at n17;all_goals
  cases hm:bL c with
  | false =>
   rw [hm] at n8 n9;simp only [hm,bk,if_false] at n7;simp +decide [ae,r11,n4,n4',n5,n6,n7,n8,n9,n11,n11',n12,n12x,n12o',n13,n14,n15,n16,n17,n8f,n12b,n12z,n12e,hlen,hgt,hcl,hs8,ay g2,ay g3,ay g4,ay m0,ay m2,az,put,aL,aC,bR]
  | true =>
   rw [hm] at n8 n9;have n10:=n10 hm;simp only [hm,if_true] at n7;simp +decide [ae,r11,n4,n4',n5,n6,n7,n8,n9,n10,hS0,n11,n11',n12,n12x,n12o',n13,n14,n15,n16,n17,n8f,n12b,n12z,n12e,hlen,hgt,hcl,hs8,ay g2,ay g3,ay g4,ay m0,ay m2,az,put,aL,aC,bR]
end
section
variable {E:Calls'}{T:FuncId->Option QF}{val:FuncId->Bool}
end
section
variable {E:Calls'}{T:FuncId->Option QF}{val:FuncId->Bool}
end
section
variable {E:Calls'}{T:FuncId->Option QF}{val:FuncId->Bool}
end
section
def RowG (K:Nat->Prop)(bs:List Blk)(z:Nat)(es:List (List V))(v:V):Prop:=(es=[]/\v=.d (.slice true []))\/∃ b cap rest,K b/\v=.row b 0 es.length cap z/\aa bs b=some (Vr.flat es++rest)
section
variable {K:Nat->Prop}{bs:List Blk}{z:Nat}{es:List (List V)}{v:V}
theorem RowG.on {K':Nat->Prop}{bs':List Blk}(h:RowG K bs z es v)(ho:∀ x,K x->K' x/\bs'[x]?=bs[x]?):RowG K' bs' z es v:=by
 obtain h | ⟨b,cap,rest,h1,h2,h3⟩:=h
 . exact .inl h
 . exact .inr ⟨b,cap,rest,(ho b h1).1,h2,eB (ho b h1).2 h3⟩
theorem RowG.okv (h:RowG K bs z es v):okV v=true/\nu v=some v/\v.cells=some [v]:=by
 obtain ⟨h1,rfl⟩ | ⟨b,cap,rest,h1,rfl,h3⟩:=h<;>exact ⟨rfl,rfl,rfl⟩
theorem RowG.rowIs (h:RowG K bs z es v)(hz:∀ e∈es,e.length=z):Vr.RowIs bs v z es:=by
 refine ⟨hz,?_⟩;obtain ⟨h1,rfl⟩ | ⟨b,cap,rest,h1,rfl,h3⟩:=h
 . exact .inl ⟨true,rfl,h1⟩
 . exact .inr ⟨b,0,cap,_,rfl,h3,by
    have:=Vr.flat_len hz;rw [iy,if_pos (by rw [ao,this]; omega),List.drop_zero,← this,List.take_left]; rfl⟩
end
def Uj (bs bs':List Blk):Nat->Prop:=λx=>bs.length<=x/\x<bs'.length
section
variable {E:Calls'}
def VI (p:Pod):List V:=p.c.map .d
def VJ (p:Svc):List V:=p.c.map .d
def VK (p:Way):List V:=p.c.map .d
def AP (x:Pol×V):List V:=pq x.1 x.2
variable {K:Nat->Prop}{bs:List Blk}{v:V}
end
end
section
def x9:V->Bool
 | .d _=>true
 | _=>false
def CG (x:Pol×V):Pol:={ x.1 with rules:=⟨x9 x.2,x.1.rules.l.map Rule.own⟩ }
def vQ (d:Cfg)(pl:List (Pol×V))(v4 v5 v6 v7:V):Cfg:={ d with pods:=⟨x9 v4,d.pods.l⟩,services:=⟨x9 v5,d.services.l⟩,bound:=⟨x9 v6,d.bound.l⟩,policies:=⟨x9 v7,pl.map CG⟩ }
structure OwnS (L0:Nat) (tag:Nat->Nat) (bs:List Blk) (d:Cfg) (pl:List (Pol×V)) (v4 v5 v6 v7:V):Prop where
 r4:RowG (Tg L0 bs.length tag 4) bs 7 (d.pods.l.map VI) v4
 r5:RowG (Tg L0 bs.length tag 5) bs 5 (d.services.l.map VJ) v5
 r6:RowG (Tg L0 bs.length tag 6) bs 2 (d.bound.l.map VK) v6
 r7:RowG (Tg L0 bs.length tag 7) bs 5 (pl.map AP) v7
 r8:∀ x∈pl,RowG (Tg L0 bs.length tag 8) bs 3 (x.1.rules.l.map λr=>r.own.c.map V.d) x.2
 pol:d.policies.l=pl.map λx=>x.1.own
theorem RowG.step {L:Nat}{tag tag':Nat->Nat}{bs bs':List Blk}{i z:Nat}{es:List (List V)}{v:V}(h:RowG (Tg L bs.length tag i) bs z es v)(hi:i≠0)(hl:bs.length<=bs'.length)(ho:∀ x,L<=x->x<bs.length->tag x≠0->bs'[x]?=bs[x]?)(ht:∀ x,x<bs.length->tag' x=tag x):RowG (Tg L bs'.length tag' i) bs' z es v :=
 h.on λx hx=>⟨⟨hx.1,cf hx.2.1 hl,(ht x hx.2.1).trans hx.2.2⟩,ho x hx.1 hx.2.1 (by rw [hx.2.2]; exact hi)⟩
theorem OwnS.next {L0:Nat}{tag tag':Nat->Nat}{bs bs':List Blk}{d:Cfg}{pl:List (Pol×V)}{v4 v5 v6 v7:V}(S:OwnS L0 tag bs d pl v4 v5 v6 v7)(hl:bs.length<=bs'.length)(ho:∀ x,L0<=x->x<bs.length->tag x≠0->bs'[x]?=bs[x]?)(ht:∀ x,x<bs.length->tag' x=tag x):OwnS L0 tag' bs' d pl v4 v5 v6 v7 :=
 ⟨S.r4.step (by decide) hl ho ht,S.r5.step (by decide) hl ho ht,S.r6.step (by decide) hl ho ht,S.r7.step (by decide) hl ho ht,λx hx=>(S.r8 x hx).step (by decide) hl ho ht,S.pol⟩
theorem Hng.rowR {K:Nat->Prop}{bs:List Blk}{k b n z:Nat}{cap:Option Nat}{cs rest:List V}{es:List (List D)}(hKb:K b)(hb:aa bs b=some (cs++rest))(hcs:Hngs false K bs k cs es.flatten)(hz:∀ e∈es,e.length=z)(hn:n=es.length) :
 Hng false K bs (.row b 0 n cap z) (.slice false es) (k+1):=by
 intro bs' lo h j hj;cases j with
 | zero=>omega
 | succ j =>
  have hg:Hp.get ⟨bs',lo⟩ b=some (cs++rest):=by
   rw [get_eq]; exact eB (h b hKb) hb
  obtain ⟨m1,m2⟩:=Hngs.mapM (lo:=lo) h (show k<=j by omega) hcs;have hlen:cs.length=n * z:=by
   rw [hcs.len,hn,List.length_flatten];have:es.map List.length=List.replicate es.length z:=by
    rw [List.eq_replicate_iff];exact ⟨by simp,λx hx=>by obtain ⟨e,he,rfl⟩:=cd.1 hx; exact hz e he⟩
   rw [this]; simp
  have hs:sub (cs++rest) 0 (n * z)=some cs:=by
   rw [iy,if_pos (by rw [ao,hlen]; omega),List.drop_zero,← hlen,List.take_left]
  refine ⟨?_,λhw=>by cases hw⟩;simp only [dataV,hg,hs,m1];rw [hn,iT es hz]
theorem RowG.nil {K:Nat->Prop}{bs:List Blk}{z:Nat}{es:List (List V)}{v:V}(h:RowG K bs z es v)(hv:x9 v=true):es=[]:=by
 obtain ⟨h1,rfl⟩ | ⟨b,cap,rest,h1,rfl,h3⟩:=h
 . exact h1
 . cases hv
theorem RowG.nilT {K:Nat->Prop}{bs:List Blk}{z:Nat}{α:Type}{f:α->List V}{l:List α}{v:V}(h:RowG K bs z (l.map f) v)(hv:x9 v=true):l=[]:=by simpa using h.nil hv
theorem RowG.hng {K:Nat->Prop}{bs:List Blk}{z:Nat}{es:List (List V)}{v:V}(h:RowG K bs z es v){ds:List (List D)}{k:Nat}(hcs:Hngs false K bs k es.flatten ds.flatten)(hz:∀ e∈ds,e.length=z)(hl:ds.length=es.length):Hng false K bs v (.slice (x9 v) ds) (k+1):=by
 obtain ⟨h1,rfl⟩ | ⟨b,cap,rest,h1,rfl,h3⟩:=h
 . have:ds=[]:=List.length_eq_zero_iff.1 (by rw [hl,h1]; rfl);subst this;exact Hng.data
 . exact Hng.rowR h1 h3 hcs hz hl.symm
theorem QN {α:Type}(f:α->List D)(l:List α):(l.map λx=>(f x).map V.d).flatten=(l.map f).flatten.map V.d:=by
 simp [List.map_flatten,cn]
theorem RowG.hngD {K:Nat->Prop}{bs:List Blk}{z:Nat}{α:Type}{f:α->List D}{l:List α}{v:V}(h:RowG K bs z (l.map λx=>(f x).map V.d) v)(hz:∀ x,(f x).length=z):Hng false K bs v (.slice (x9 v) (l.map f)) 1 :=
 h.hng (k:=0) (by rw [QN]; exact Hngs.data) (λe he=>by obtain ⟨x,_,rfl⟩:=cd.1 he; exact hz x) (by simp)
def TgA (L M:Nat)(tag:Nat->Nat):Nat->Prop:=λx=>L<=x/\x<M/\tag x≠0
theorem RowG.all {L:Nat}{tag:Nat->Nat}{bs:List Blk}{i z:Nat}{es:List (List V)}{v:V}(h:RowG (Tg L bs.length tag i) bs z es v)(hi:i≠0):RowG (TgA L bs.length tag) bs z es v :=
 h.on λx hx=>⟨⟨hx.1,hx.2.1,by rw [hx.2.2]; exact hi⟩,rfl⟩
section
variable {L0:Nat}{tag:Nat->Nat}{bs:List Blk}{d:Cfg}{pl:List (Pol×V)}{v4 v5 v6 v7:V}(S:OwnS L0 tag bs d pl v4 v5 v6 v7)
include S
theorem OwnS.hpol:∀ l:List (Pol×V),(∀ x∈l,x∈pl)->Hngs false (TgA L0 bs.length tag) bs 1 (l.map AP).flatten (l.map λx=>(CG x).c).flatten
 | [],_=>trivial
 | x::l,h=>by
  have ih:=OwnS.hpol l λy hy=>h y (List.mem_cons_of_mem _ hy);have hr:=((S.r8 x (h x (by simp))).all (by decide)).hngD (f:=λr:Rule=>r.own.c) (λ_=>rfl);have he:(CG x).c=[u64 x.1.id,.str x.1.ns,u64 x.1.service,i64 x.1.deny,.slice (x9 x.2) (x.1.rules.l.map λr=>r.own.c)]:=by
   simp [CG,Pol.c,Sl.d,cn]
  rw [cr,cr,List.flatten_cons,List.flatten_cons,he];exact Hngs.app ⟨Hng.data,Hng.data,Hng.data,Hng.data,hr,trivial⟩ ih
theorem OwnS.fz (bs2:List Blk)(lo2:Nat)(h:∀ x,L0<=x->x<bs.length->tag x≠0->bs2[x]?=bs[x]?):cK ⟨bs2,lo2⟩ (cq d v4 v5 v6 v7)=some (vQ d pl v4 v5 v6 v7).c:=by
 have hK:∀ x,TgA L0 bs.length tag x->bs2[x]?=bs[x]?:=λx hx=>h x hx.1 hx.2.1 hx.2.2;have h4:=(((S.r4.all (by decide)).hngD (f:=Pod.c) (λ_=>rfl)) bs2 lo2 hK 8 (by decide)).1;have h5:=(((S.r5.all (by decide)).hngD (f:=Svc.c) (λ_=>rfl)) bs2 lo2 hK 8 (by decide)).1;have h6:=(((S.r6.all (by decide)).hngD (f:=Way.c) (λ_=>rfl)) bs2 lo2 hK 8 (by decide)).1;have h7:=(((S.r7.all (by decide)).hng (k:=1) (S.hpol pl λ_ h=>h) (λe he=>by obtain ⟨x,_,rfl⟩:=cd.1 he; rfl) (by simp)) bs2 lo2 hK 8 (by decide)).1;rw [yD h4 h5 h6 h7];simp [vQ,Cfg.c,Sl.d,cn]
theorem OwnS.frz (bs2:List Blk)(lo2:Nat)(h:∀ x,L0<=x->x<bs.length->tag x≠0->bs2[x]?=bs[x]?):frz ⟨bs2,lo2⟩ (.agg (cq d v4 v5 v6 v7))=some (ag (vQ d pl v4 v5 v6 v7).c):=by
 rw [wK,S.fz bs2 lo2 h]
theorem OwnS.nf:(vQ d pl v4 v5 v6 v7).nf=d.nf:=by
 refine QA rfl rfl rfl rfl rfl rfl rfl ?_;simp [vQ,S.pol,CG,Pol.nf,Pol.own,Sl.nf,cn]
theorem OwnS.ok (hd:d.ok):(vQ d pl v4 v5 v6 v7).ok:=by
 refine ⟨⟨hd.1.1,S.r4.nilT⟩,⟨hd.2.1.1,S.r5.nilT⟩,⟨hd.2.2.1.1,S.r6.nilT⟩,⟨?_,λh=>?_⟩,λp hp=>?_⟩
 . have:=hd.2.2.2.1.1;rw [S.pol] at this;simpa [vQ] using this
 . have:=S.r7.nilT h;simp [vQ,this]
 . obtain ⟨x,hx,rfl⟩:=cd.1 hp;have hm:x.1.own∈d.policies.l:=by rw [S.pol]; exact List.mem_map_of_mem hx
   have hf:=hd.2.2.2.2 _ hm;exact ⟨⟨hf.1.1,λh=>by simp [CG,(S.r8 x hx).nilT h]⟩,hf.2⟩
theorem OwnS.wf {B:Nat}(hd:d.wf B):(vQ d pl v4 v5 v6 v7).wf B:=by
 obtain ⟨h1,h2,h3,h4,h5,h6,h7,h8⟩:=hd;refine ⟨h1,h2,h3,h4,⟨⟨h5.1.1,S.r4.nilT⟩,h5.2⟩,⟨⟨h6.1.1,S.r5.nilT⟩,h6.2⟩,⟨⟨h7.1.1,S.r6.nilT⟩,h7.2⟩,⟨⟨?_,λh=>?_⟩,λp hp=>?_⟩⟩
 . have:=h8.1.1;rw [S.pol] at this;simpa [vQ] using this
 . have:=S.r7.nilT h;simp [vQ,this]
 . obtain ⟨x,hx,rfl⟩:=cd.1 hp;have hm:x.1.own∈d.policies.l:=by rw [S.pol]; exact List.mem_map_of_mem hx
   obtain ⟨f1,f2,f3,f4,f5⟩:=h8.2 _ hm;exact ⟨f1,f2,f3,f4,⟨f5.1.1,λh=>by simp [CG,(S.r8 x hx).nilT h]⟩,f5.2⟩
end
def QV (n:Nat)(tag:Nat->Nat)(i:Nat):Nat->Nat:=λx=>if x<n then tag x else i
theorem RowG.fresh {L0 n b i z:Nat}{tag:Nat->Nat}{bs0 b2:List Blk}{X:List V}{es:List (List V)}{r:V}(h:RowG (Uj bs0 b2) b2 z es r)(hL:L0<=n)(hn:n<=bs0.length)(hb:b<n):RowG (Tg L0 (b2.set b (.cells X)).length (QV n tag i) i) (b2.set b (.cells X)) z es r :=
 h.on λx hx=>⟨⟨by have:=hx.1; omega,by simpa using hx.2,if_neg (by have:=hx.1; omega)⟩,ac (by have:=hx.1; omega)⟩
end
section
theorem FX {α:Type}(f:α->List D)(l:List α):flat (l.map f)=Vr.flat (l.map λx=>(f x).map V.d):=by
 simp [flat,Vr.flat,List.map_flatten,cn]
theorem Row1.g {α:Type}{f:α->List D}{l:List α}{L M L0 i z:Nat}{tag:Nat->Nat}{bs:List Blk}{v:V}(h:Row1 L M bs z (l.map f) v)(hL:L0<=L)(hM:M<=bs.length)(ht:∀ x,L<=x->x<M->tag x=i):RowG (Tg L0 bs.length tag i) bs z (l.map λx=>(f x).map V.d) v:=by
 obtain ⟨h1,h2⟩ | ⟨b,cap,h1,h2,h3,h4,_⟩:=h.2
 . exact .inl ⟨by simpa using h1,h2⟩
 . exact .inr ⟨b,cap,[],⟨by omega,by omega,ht b h1 h2⟩,by simpa using h3,by rw [h4,FX,List.append_nil]⟩
theorem EY {Lq Mq:Nat}{bs:List Blk}:∀ (l:List Pol) (css:List (List V)),css.length=l.length->(∀ (j:Nat) (p:Pol),l[j]?=some p->∃ cs,css[j]?=some cs/\RulV Lq Mq bs p cs) →
 ∃ pl:List (Pol×V),pl.map AP=css/\pl.map Prod.fst=l/\∀ x∈pl,Row1 Lq Mq bs 3 (x.1.rules.l.map λr=>r.own.c) x.2
 | [],[],_,_=>⟨[],rfl,rfl,by simp⟩
 | [],_::_,h,_=>by simp at h
 | _::_,[],h,_=>by simp at h
 | p::l,cs::css,h,hr=>by
  obtain ⟨pl,h1,h2,h3⟩:=EY l css (by simpa using h) λj q hj=>hr (j+1) q (by simpa using hj);obtain ⟨cs',q1,rv,q2,q3,_⟩:=hr 0 p (by simp);have:cs=cs':=by simpa using q1
  subst this;refine ⟨(p,rv)::pl,by simp [AP,q2,h1],by simp [h2],λx hx=>?_⟩;obtain rfl | hx:=List.mem_cons.1 hx
  . exact q3
  . exact h3 x hx
theorem uX {z:Nat}:∀ {es:List (List V)} {rest:List V},(∀ e∈es,e.length=z)->∀ {i j:Nat} {e:List V},es[i]?=some e->j<z->(Vr.flat es++rest)[i * z+j]?=e[j]?
 | [],_,_,_,_,_,h,_=>by simp at h
 | a::es,rest,hz,0,j,e,h,hj=>by
  have:a=e:=by simpa using h
  subst this;have ha:=hz a (by simp);rw [Vr.flat_cons,List.append_assoc,am (by omega)]
  congr 1
  omega
 | a::es,rest,hz,i+1,j,e,h,hj=>by
  have ha:=hz a (by simp);have ih:=uX (es:=es) (rest:=rest) (λx hx=>hz x (by simp [hx])) (i:=i) (j:=j) (e:=e) (by simpa using h) hj;rw [Vr.flat_cons,List.append_assoc,bj (by rw [ha,Nat.add_mul]; omega),← ih]
  congr 1
  rw [ha,Nat.add_mul];omega
theorem RowG.idRow {α:Type}{f:α->List V}{l:List α}{K:Nat->Prop}{bs:List Blk}{z:Nat}{v:V}(h:RowG K bs z (l.map f) v)(hz:∀ x,(f x).length=z)(hz0:0<z)(hk:∀ x,∃ n,(f x)[0]?=some (.d (u64 n)))(hl:l.length<2 ^ 62):IdRow K bs z v:=by
 obtain ⟨h1,rfl⟩ | ⟨b,cap,rest,h1,rfl,h3⟩:=h
 . exact .inl ⟨true,rfl⟩
 . refine .inr ⟨b,l.length,cap,_,h1,by simp,hl,h3,λi hi=>?_⟩;obtain ⟨n,hn⟩:=hk l[i];refine ⟨n,?_⟩;have:=uX (rest:=rest) (es:=l.map f) (z:=z) (by simp; intro a _; exact hz a) (i:=i) (j:=0) (e:=f l[i]) (by simp [hi]) hz0;rw [← hn,← this];simp
theorem OwnS.spoils {L0:Nat}{tag:Nat->Nat}{bs:List Blk}{d:Cfg}{pl:List (Pol×V)}{v4 v5 v6 v7:V}(S:OwnS L0 tag bs d pl v4 v5 v6 v7)(hd:d.ok)(hL:L0<=bs.length):Spoils L0 bs.length bs (cq d v4 v5 v6 v7):=by
 have hpll:pl.length=d.policies.l.length:=by rw [S.pol]; simp
 refine ⟨rfl,hL,bo _,tag,v4,v5,v6,v7,rfl,rfl,rfl,rfl,S.r4.idRow (λ_=>rfl) (by decide) (λx=>⟨x.uid,rfl⟩) hd.1.lt,S.r5.idRow (λ_=>rfl) (by decide) (λx=>⟨x.id,rfl⟩) hd.2.1.lt,S.r6.idRow (λ_=>rfl) (by decide) (λx=>⟨x.id,rfl⟩) hd.2.2.1.lt,?_⟩;obtain ⟨h1,h2⟩ | ⟨b,cap,rest,h1,h2,h3⟩:=S.r7
 . exact .inl ⟨true,h2⟩
 . have hcl:∀ e∈pl.map AP,e.length=5:=λe he=>by obtain ⟨x,_,rfl⟩:=cd.1 he; rfl
   refine .inr ⟨b,pl.length,cap,_,⟨h1.1,h1.2.1,.inl h1.2.2⟩,by simpa using h2,by rw [hpll]; exact hd.2.2.2.1.lt,h3,λi hi=>?_,λi hi=>?_⟩
   . have:=uX (rest:=rest) hcl (i:=i) (j:=0) (e:=AP pl[i]) (by simp [hi]) (by decide);have h2:(AP pl[i])[0]?=some (.d (u64 pl[i].1.id)):=rfl;exact ⟨pl[i].1.id,by rw [← h2,← this]; simp⟩
   . have:=uX (rest:=rest) hcl (i:=i) (j:=4) (e:=AP pl[i]) (by simp [hi]) (by decide);have hm:=bd hi;generalize pl[i]=x at *;refine ⟨x.2,this,?_⟩;have ho:x.1.own∈d.policies.l:=by rw [S.pol]; exact List.mem_map_of_mem hm
     have hf:=(hd.2.2.2.2 _ ho).1.1;simp only [Pol.own,cc] at hf;obtain ⟨q1,q2⟩ | ⟨b',cap',rest',q1,q2,q3⟩:=S.r8 x hm
     . exact .inl ⟨true,q2⟩
     . refine .inr ⟨b',x.1.rules.l.length,cap',_,⟨q1.1,q1.2.1,.inr q1.2.2⟩,?_,by simpa using q2,cg hf (by decide),q3,?_⟩
       . rintro rfl;have e1:=q1.2.2;have e2:=h1.2.2;omega
       . rw [ao,Vr.flat_len (z:=3) (by intro e he; obtain ⟨r,_,rfl⟩:=cd.1 he; rfl)];simp
theorem OwnS.none {L0:Nat}{tag:Nat->Nat}{bs:List Blk}{d:Cfg}{pl:List (Pol×V)}{v4 v5 v6 v7:V}(S:OwnS L0 tag bs d pl v4 v5 v6 v7){n:Nat}(hn:n<=L0)(h4:v4.under n=true)(h5:v5.under n=true)(h6:v6.under n=true)(h7:v7.under n=true)(L1:Nat)(tag1:Nat->Nat)(bs1:List Blk):OwnS L1 tag1 bs1 d pl v4 v5 v6 v7:=by
 have row:∀ {i z:Nat} {es:List (List V)} {v:V},RowG (Tg L0 bs.length tag i) bs z es v->v.under n=true->es=[]/\v=nV:=λh hu=>by
  obtain h | ⟨b,cap,rest,h1,rfl,h3⟩:=h
  . exact h
  . have:=h1.1;simp [V.under] at hu;omega
 have hpl:pl=[]:=by simpa using (row S.r7 h7).1
 exact ⟨.inl (row S.r4 h4),.inl (row S.r5 h5),.inl (row S.r6 h6),.inl (row S.r7 h7),by rw [hpl]; simp,S.pol⟩
theorem cs0 {c:Cfg}{a b d e:V}:sub (cq c a b d e) 0 1=some [.d (u64 c.epoch)]:=(rfl)
end
section
def noE:Calls':=λ_ _ _=>none
noncomputable def Et:Calls':=λf args h=>match Nat.beq f 222 with
 | true=>Sm E1 TP qR f args h
 | false=>none
end
section
noncomputable def ET6:Calls':=Sm Et TT aj
theorem oD (t:Target)(ht:t.wf big)(h:Hp):Et 222 [ag t.c] h=some (bl (aT t),h):=am1 t ht h
theorem ET6_b:BaseE ET6:=VC
theorem Ld (x:Int)(h:Hp):ET6 163 [.d (u64 x)] h=some (.d (i64 (dE x)),h):=Vp (E:=Et) x h
theorem Lc (p:Pol)(hp:p.wf big)(h:Hp)(v:V)(hv:frz h v=some (ag p.c)):ET6 104 [v] h=some (bl (bz p),h):=vP (T:=TT) (val:=aj) YG YW (λh=>Qh (E:=Et) oD p hp h) hv
theorem Uc (c:Cfg)(hc:c.wf 1048576)(hcb:c.wf big)(h:Hp)(v:V)(hv:frz h v=some (ag c.c)):ET6 9 [v] h=some (bl (bL c),h):=vP (T:=TT) (val:=aj) t41 v41 (λh=>S41 (E:=Et) oD c hc hcb h) hv
def YI:List (Nat×QF):=[(15,q90),(59,MF),(60,MI),(61,MJ),(62,MK),(63,yf),(111,BZ)]
def TO6:FuncId->Option QF:=lu YI
def Fq (f:FuncId):Bool:=false
theorem au6 (c:Cfg)(hc:c.ok)(bs:List Blk)(lo:Nat):∃ bs' lo' cells,∃ o:Cfg,Sm ET6 TO6 Fq 15 [c.v] ⟨bs,lo⟩=some (.agg cells,⟨bs',lo'⟩)/\(∀ x,x<bs.length->bs'[x]?=bs[x]?)/\bs.length<=bs'.length/\Spoils bs.length bs'.length bs' cells ∧
 (∀ b2 lo2,(∀ x,bs.length<=x->x<bs'.length->b2[x]?=bs'[x]?)->cK ⟨b2,lo2⟩ cells=some o.c)/\o.ok/\o.nf=c.nf:=by
 have h231:∀ r:Rule,r.fits big->∀ h,Sm ET6 TO6 Fq 112 [ag r.c] h=some (ag r.own.c,h):=λr hr h=>(fA (by kernel_rfl)).trans (ai4 (E:=Et) r hr h);obtain ⟨bs1,lo1,v4,v5,v6,v7,L1,L2,L3,Lq,n90,k1,k2,k3,k4,k5,k6,k7,r4,r5,r6,r7⟩:=P90 (E:=ET6) (T:=TO6) (val:=Fq) (by kernel_rfl) rfl (by kernel_rfl) rfl (by kernel_rfl) rfl (by kernel_rfl) rfl (by kernel_rfl) rfl (by kernel_rfl) rfl (by kernel_rfl) rfl h231 c hc bs lo
 let tag:Nat->Nat:=λx=>if x<L1 then 4 else if x<L2 then 5 else if x<L3 then 6 else if x<Lq then 7 else 8
 have ht:∀ x i,tag x=i↔(if x<L1 then 4 else if x<L2 then 5 else if x<L3 then 6 else if x<Lq then 7 else 8)=i:=λx i=>Iff.rfl;have S1:∃ pl,OwnS bs.length tag bs1 c.own pl v4 v5 v6 v7:=by
  have q4:RowG (Tg bs.length bs1.length tag 4) bs1 7 (c.pods.l.map VI) v4:=r4.g (by omega) (by omega) λx h1 h2=>by rw [ht,if_pos h2]
  have q5:RowG (Tg bs.length bs1.length tag 5) bs1 5 (c.services.l.map VJ) v5:=r5.g (by omega) (by omega) λx h1 h2=>by rw [ht,if_neg (by omega),if_pos h2]
  have q6:RowG (Tg bs.length bs1.length tag 6) bs1 2 (c.bound.l.map VK) v6:=r6.g (by omega) (by omega) λx h1 h2=>by rw [ht,if_neg (by omega),if_neg (by omega),if_pos h2]
  obtain ⟨h1,h2⟩ | ⟨b,cap,css,h1,h2,h3,h4,h5,h6,h7⟩:=r7
  . exact ⟨[],q4,q5,q6,.inl ⟨rfl,h2⟩,by simp,by simp [Cfg.own,h1]⟩
  . obtain ⟨pl,p1,p2,p3⟩:=EY _ _ h5 h7;have hpll:pl.length=c.policies.l.length:=by rw [← p2]; simp
    refine ⟨pl,q4,q5,q6,.inr ⟨b,cap,[],⟨by omega,by omega,?_⟩,by simpa [hpll] using h3,?_⟩,λx hx=>(p3 x hx).g (by omega) (bo _) λy h1 h2=>?_,?_⟩
    . rw [ht,if_neg (by omega),if_neg (by omega),if_neg (by omega),if_pos h2]
    . rw [h4,p1,List.append_nil]; rfl
    . rw [ht,if_neg (by omega),if_neg (by omega),if_neg (by omega),if_neg (by omega)]
    . show c.policies.l.map Pol.own=_;rw [← p2,List.map_map]; rfl
 obtain ⟨pl,S⟩:=S1;have hok:c.own.ok:=by
  refine ⟨hc.1,hc.2.1,hc.2.2.1,⟨by simpa [Cfg.own] using hc.2.2.2.1.1,λh=>?_⟩,?_⟩
  . have:=hc.2.2.2.1.2 h;simp [Cfg.own,this]
  . intro p hp;obtain ⟨q,hq,rfl⟩:=cd.1 hp;exact JJ (hc.2.2.2.2 q hq)
 exact ⟨bs1,lo1,_,_,n90,k1,k2,S.spoils hok k2,λb2 lo2 h=>S.fz b2 lo2 λx h1 h2 _=>h x h1 h2,S.ok hok,S.nf.trans c.own_nf⟩
noncomputable def EQ6:Calls':=λf args h=>match Nat.beq f 5,Nat.beq f 6,Nat.beq f 8||Nat.beq f 10||Nat.beq f 12,Nat.beq f 11,Nat.beq f 7||Nat.beq f 13,Nat.beq f 14,Nat.beq f 15,Nat.beq f 16 with
 | true,_,_,_,_,_,_,_=>known 5 true f args h
 | _,true,_,_,_,_,_,_=>Sm (EX1 ET6) TV Ox f args h
 | _,_,true,_,_,_,_,_=>EX1 ET6 f args h
 | _,_,_,true,_,_,_,_=>Sm noE TA gV f args h
 | _,_,_,_,true,_,_,_=>Sm ET6 TRd aD f args h
 | _,_,_,_,_,true,_,_=>Sm (EX1 ET6) TDr aV f args h
 | _,_,_,_,_,_,true,_=>Sm ET6 TO6 Fq f args h
 | _,_,_,_,_,_,_,true=>Sm noE TS pX f args h
 | _,_,_,_,_,_,_,_=>ET6 f args h
theorem Lb (c d:Cfg)(hc:c.wf 1048576)(hcb:c.wf big){nl:Bool}{l:List Int}(hb:byteL l)(hl:l.length<=big):LawB EQ6 c d nl l where
 e4 x hx:=S31 (E:=Et) x hx
 e5 h:=by show known 5 true 5 [] h=_; simp [known]
 e6 h:=V34 (VM ET6_b) c (hcb.ok (bo _)) h
 e7 h:=ap0 (E:=ET6) (λc hc hcb h=>S41 (E:=Et) oD c hc hcb h) (λc hcb hp hl h=>S94 (E:=Et) oD c hcb hp hl h) c hc hcb h
 e8 x hx hxb h:=S95 (E:=ET6) x hx hxb (OM ET6_b (hxb.ok (bo _))) h
 e9 h:=S41 (E:=Et) oD c hc hcb h
 e10 hm h:=S99 (E:=ET6) c.cp (Cfg.cp_wf hcb) (mG hm).1 (ch (mG hm).2 (by decide)) h
 e11 x y hx h:=ag2 (E:=noE) x y hx h
 e12 x y hx a h ha:=KU x38 w38 (λh=>S38 (E:=ET6) ET6_b.e29 x y hx h) ha qp
 e13 h:=D94 (E:=ET6) Ld Lc Uc hb hl h
 e14 h:=D95 (E:=EX1 ET6) (λx h0 h1 bs=>Vo h0 h1 bs) (λp hp h v hv=>vP (T:=TX) (val:=aP) Y2 YZ (λh=>Vj p hp h) hv) (λc hc hcb h v hv=>vP (T:=TX) (val:=aP) x95 w95 (λh=>S95 (E:=ET6) c hc hcb (OM ET6_b (hcb.ok (bo _))) h) hv) hb hl h
 e15 bs:=au6 c (hcb.ok (bo _)) bs 0
 e16 L0 M bs cells hs:=S39 hs
 e17 a b ha hb h:=S40 (E:=Et) oD a b ha hb h
theorem S3 (c d:Cfg)(hc:c.wf 1048576)(hcb:c.wf big)(hd:d.wf big){nl:Bool}{l:List Int}(hb:byteL l)(hl:l.length<=big){a b:Int}(ha:Inr .i64 a)(hbb:Inr .i64 b)(h:Hp) :
 Sm EQ6 TQ3 xO 3 [c.v,d.v,.d (Sl.d u8C ⟨nl,l⟩),.d (i64 a),.d (i64 b)] h=some (bl true,h) :=
 as4 c d hc hcb (hd.ok (bo _)) hb hl ha hbb (Lb c d hc hcb hb hl) h
end
