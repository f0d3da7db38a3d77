/- What config.May calls: policy.target from an instance of its own. -/
import Derived.Test.YtinmplbccmfheaaGreatKa
import Derived.Test.YtinmplbccmfheaaGreatJy
set_option linter.unusedSimpArgs false
set_option maxRecDepth 100000
set_option linter.unusedVariables false
namespace Go.Proofs.YtinmplbccmfheaaGreat
section
def noE:Calls':=λ_ _ _=>none
noncomputable def Et:Calls':=λf args h=>match Nat.beq f 233 with
 | true=>Sm E1 TP rH f args h
 | false=>none
end
section
open Go.Sort (ltInt)
def bt7:List (Nat×QF):=[(120,Oh),(185,Ou)]
def TL:FuncId->Option QF:=kN bt7
def Uj (f:FuncId):Bool:=[120,185].any λn=>Nat.beq n f
theorem at6 {E:Calls'}(x:Int)(h:Hp):Sm E TL Uj 185 [.d (u32 x)] h=some (bl false,h):=by
 rw [aU (q:=Ou) (by kernel_rfl) (by kernel_rfl)];simp [af,Ou]
theorem ar9 {E:Calls'}(x y:Int)(h:Hp):Sm E TL Uj 120 [.d (u32 x),.d (u32 y)] h=some (bl (ltInt x y),h):=by
 rw [aU (q:=Oh) (by kernel_rfl) (by kernel_rfl)];simp +decide [af,Oh,at6,ai,aa,az,aB,ltInt]
theorem Qs {E:Calls'}(x:Int)(h:Hp):Sm E TT au 80 [.d (u64 x)] h=some (.d (i64 (bY x)),h):=by
 rw [aU bj5 ca5];simp +decide [af,NV,VU]
noncomputable def Es:Calls':=λf args h=>match Nat.beq f 120 with
 | true=>Sm noE TL Uj f args h
 | false=>Sm noE TT au f args h
noncomputable def Eu:Calls':=λf args h=>match Nat.beq f 79 with
 | true=>Sm Es TS aW f args h
 | false=>Sm noE TT au f args h
theorem VT {E:Calls'}(h:Hp):Sm E TS aW 114 [aF,.d (i64 0),.d (i64 0)] h=some (.tup [],h):=by
 rw [aJ ZG ab2];simp +decide [af,Kw];rw [aj];simp;rw [ay];simp +decide [nJ,V.under,V.under.go,bK]
theorem VM {E:Calls'}(n:Int)(h:Hp):Sm E TS aW 79 [aF,.d (i64 0),.d (i64 0),.d (i64 n)] h=some (.tup [],h):=by
 rw [aJ T9 Um];simp +decide [af,Hu];rw [aj];simp;rw [ay];simp +decide [nG,VT,V.under,V.under.go,bK]
theorem VF {E:Calls'}(k240:∀ args h,E 79 args h=Sm Es TS aW 79 args h)(k241:∀ x h,E 80 [.d (u64 x)] h=some (.d (i64 (bY x)),h))(h:Hp):Sm E TU Bj 30 [aF] h=some (.tup [],h):=by
 have n240:∀ args h,Sm E TU Bj 79 args h=Sm Es TS aW 79 args h:=λargs h=>by rw [bB Z8]; exact k240 args h
 have n241:∀ x h,Sm E TU Bj 80 [.d (u64 x)] h=some (.d (i64 (bY x)),h):=λx h=>by rw [bB Z9]; exact k241 x h
 have hw:IntKind.wrap .u64 0=0:=by decide
 rw [aJ Z6 rfl];simp +decide [af,Kt,n240,n241,VM,hw,V.under,V.under.go,bK]
theorem VG {E:Calls'}(h:Hp):Sm E TU Bj 31 [aF] h=some (aF,h):=by
 rw [aJ Z7 rfl];simp +decide [af,cmpQ,V.under]
noncomputable def ET5:Calls':=Sm Et TT au
theorem LU (t:Target)(ht:t.wf big)(h:Hp):Et 233 [ag t.c] h=some (bl (aS t),h):=au0 t ht h
theorem II (x y:Pol)(hx:x.ok)(h:Hp):ET5 55 [ag x.c,ag y.c] h=some (bl (x.same y),h):=S29 x y hx h
theorem Wm:DoesE (EX1 ET5):=⟨λp hp h=>S35 (E:=ET5) p hp h⟩
noncomputable def EV9:Calls':=λf args h=>match Nat.beq f 30||Nat.beq f 31 with
 | true=>Sm Eu TU Bj f args h
 | false=>ET5 f args h
theorem EV9_H:OfR EV9 where
 h45 c hc n a h ha:=by
  have h0:=λh=>S45 (E:=Et) c hc n h;cases hf:nV c n with
  | none =>
   simp only [hf] at h0 ⊢;exact Dr (p:=way0.c) t45 v45 (by simp [way0,Way.c]) h0 ha
  | some p =>
   simp only [hf] at h0 ⊢;exact Dr (p:=p.c) t45 v45 (by simp [Way.c]) h0 ha
 h52 p x a h ha:=Dq t52 v52 (λh=>S52 (E:=Et) p x h) ha Al
 h117 s hs n h:=am6 (E:=Et) hs n h
 h41 c hc hcb h:=S41 (E:=Et) LU c hc hcb h
 h231 r hr h:=ao8 (E:=Et) r hr h
 h136 bs b lo n cap hb d hd hn:=am9 (E:=Es) (E2:=Eu) (λx y h=>ar9 x y h) (λx h=>Qs x h) (λargs h=>rfl) (λx h=>Qs x h) hb d hd hn
 h136n h:=VF (E:=Eu) (λargs h=>rfl) (λx h=>Qs x h) h
 h137 zs b lo cap bs hb hn:=DD (E:=Eu) (T:=TU) (val:=Bj) Z7 rfl hb hn
 h137n h:=VG h
noncomputable def EO9:Calls':=λf args h=>match [17,13,46].any (Nat.beq f) with
 | true=>EX1 ET5 f args h
 | false=>ET5 f args h
theorem IG:O17 EO9 where
 e48 c hc n h:=S48 (E:=Et) c hc n h
 e111 c hc n h:=Gj (E:=Et) c hc n h
 e53 p x h:=S53 (E:=Et) p x h
 e121 s hs n h:=am8 (E:=Et) hs n h
 e95 c h1 h2 h:=S95 (E:=ET5) c h1 h2 ⟨λn h=>Gj (E:=Et) c (h2.ok (br _)) n h,λn h=>Qq (E:=Et) c (h2.ok (br _)) n h⟩ h
 e35 p hp h:=S35 (E:=ET5) p hp h
 e38 a b ha h:=S38 (E:=ET5) II a b ha h
noncomputable def E11:Calls':=λf args h=>match Nat.beq f 5,Nat.beq f 7||Nat.beq f 10,[8,9,11].any (Nat.beq f),Nat.beq f 12,Nat.beq f 6,Nat.beq f 13 with
 | true,_,_,_,_,_=>known 5 true f args h
 | _,true,_,_,_,_=>Sm EV9 TJ aV f args h
 | _,_,true,_,_,_=>Sm EO9 TF eY f args h
 | _,_,_,true,_,_=>Sm noE TSv jm f args h
 | _,_,_,_,true,_=>Sm (EX1 ET5) TV Pk f args h
 | _,_,_,_,_,true=>EX1 ET5 f args h
 | _,_,_,_,_,_=>ET5 f args h
theorem ViewS.next {L0:Nat}{tag:Nat->Nat}{bs bs2:List Blk}{cov:List Int}{pods:List Pod}{svcs:List Svc}{ways:List Way}{pl:List (Pol×V)}{w1 w2 w3 w4 w5:V}(S:ViewS L0 tag bs cov pods svcs ways pl w1 w2 w3 w4 w5)(hl:bs.length<=bs2.length)(ho:∀ x,x<bs.length->bs2[x]?=bs[x]?):ViewS L0 tag bs2 cov pods svcs ways pl w1 w2 w3 w4 w5:=by
 have ho':∀ x,L0<=x->x<bs.length->tag x≠0->bs2[x]?=bs[x]?:=λx _ h _=>ho x h;exact ⟨S.r1.step (by decide) hl ho' λ_ _=>rfl,S.r2.step (by decide) hl ho' λ_ _=>rfl,S.r3.step (by decide) hl ho' λ_ _=>rfl,S.r4.step (by decide) hl ho' λ_ _=>rfl,S.r5.step (by decide) hl ho' λ_ _=>rfl,λx hx=>(S.r6 x hx).step (by decide) hl ho' λ_ _=>rfl⟩
theorem answers {n e:Nat}{ep:Int}{tag:Nat->Nat}{bs':List Blk}{cov:List Int}{pods:List Pod}{svcs:List Svc}{ways:List Way}{pl:List (Pol×V)}{w1 w2 w3 w4 w5:V}(S:ViewS n tag bs' cov pods svcs ways pl w1 w2 w3 w4 w5)(hn:n<=bs'.length)(h1:cov.length<=big)(h2:pods.length<=big)(h3:svcs.length<=big)(h4:ways.length<=big)(h5:pl.length<=big)(h6:∀ x∈pl,x.1.own.ok)
 {b:Vw} (hs:Vsm (VwV ep cov pods svcs ways pl w1 w2 w3 w4 w5) b) (bs2:List Blk) (ho:∀ x,x<bs'.length->bs2[x]?=bs'[x]?) (hl:bs'.length<=bs2.length) :
 (∀ lo,E11 9 [.agg (aC ep w1 w2 w3 w4 w5),b.v] ⟨bs2,lo⟩=some (bl true,⟨bs2,lo⟩))/\∃ bs3,∃ F:Nat->Nat,(∀ lo,E11 12 [.agg (aC ep w1 w2 w3 w4 w5)] ⟨bs2,lo⟩=some (.tup [],⟨bs3,F lo⟩))/\∀ x,x<n->bs3[x]?=bs2[x]?:=by
 have lt:∀ {m:Nat},m<=big->m<2 ^ 62:=λh=>ce h (by decide);refine ⟨λlo=>S66 IG _ b (S.ok ep h1 h2 h3 h4 h5 h6) hs (by rw [rZ,S.fz ep bs2 lo λx _ hx=>ho x hx]),?_⟩;obtain ⟨bs3,F,k1,k2⟩:=S69 (E:=noE) ((S.next hl ho).spoils ep (cf hn hl) (lt h1) (lt h2) (lt h3) (lt h4) (lt h5) λx hx=>lt (by simpa [Pol.own] using (h6 x hx).1.1));exact ⟨bs3,F,k1,k2⟩
theorem FJ {α:Type}{l:List α}(p:α->Bool){n:Nat}(h:l.length<=n):(l.filter p).length<=n:=cf (List.length_filter_le p l) h
theorem UM:H11 E11 where
 h31 c hc:=S31 (E:=Et) c hc
 h63 h:=by show known 5 true 5 [] h=_; simp [known]
 h34 c hc h:=V34 Wm c hc h
 h67 s hs h:=W67 (E:=EV9) EV9_H.h117 hs h
 h68 s hs h:=S68 (E:=EO9) hs h
 h38 a b ha h:=S38 (E:=ET5) II a b ha h
 h64 c hc s hs bs lo:=by
  have hok:=hc.ok;have hm:bX c.cp=bX c:=zk c.cp_nf;have w1:=Cfg.cp_wf hc.1;have w2:=Cfg.cp_wf hc.2;have cok:=w2.ok (br _);cases h1:bX c&&dw s with
  | false =>
   refine ⟨bs,lo,_,1,⟨0,⟨true,[]⟩,⟨true,[]⟩,⟨true,[]⟩,⟨true,[]⟩,⟨true,[]⟩⟩,rfl,aw4 EV9_H hc.1 hc.2 hs h1 _,λ_ _=>rfl,br _,λh=>aw5 IG w1 w2 hs (by rw [hm]; exact h1) h,?_⟩;exact answers (n:=bs.length) (e:=0) (tag:=λ_=>0) (cov:=[]) (pods:=[]) (svcs:=[]) (ways:=[]) (pl:=[]) ⟨.inl ⟨rfl,rfl⟩,.inl ⟨rfl,rfl⟩,.inl ⟨rfl,rfl⟩,.inl ⟨rfl,rfl⟩,.inl ⟨rfl,rfl⟩,λx hx=>by cases hx⟩ (br _) (by decide) (by decide) (by decide) (by decide) (by decide) (λx hx=>by cases hx) ⟨rfl,rfl,rfl⟩
  | true =>
   simp only [aE] at h1;obtain ⟨m1,m2⟩:=h1;have hal:s.addrs.l.length<=32:=by
    have:=m2;simp only [dw,mQ,aE,bw] at this;omega
   have l0:c.pods.l.length<=1048576:=hc.1.2.2.2.2.1.1.1;have l1:c.services.l.length<=1048576:=hc.1.2.2.2.2.2.1.1.1;have l2:c.bound.l.length<=1048576:=hc.1.2.2.2.2.2.2.1.1.1;have l3:c.policies.l.length<=1048576:=hc.1.2.2.2.2.2.2.2.1.1;have hb:big=1073741824:=rfl;obtain ⟨bs',lo',tag,ps,v1,v2,v3,v4,v5,a1,a2,a3,S,pl,hp,rfl⟩:=S64 EV9_H hc.1 hc.2 hs m1 m2 (by omega) bs lo;refine ⟨bs',lo',_,0,H5 c.cp s,rfl,a1,a2,a3,λh=>S65 IG w1 w2 cok cok.2.2.2.2 hs (by rw [hm]; exact m1) m2 (by show _+c.services.l.length+1<big; omega) (by show c.pods.l.length<big; omega) (by show c.bound.l.length<big; omega) (by show (c.policies.l.map Pol.cp).length<big; rw [b9]; omega) h,?_⟩;have hpl:pl.length<=big:=by
    have:=congrArg List.length hp;simp [Cfg.own] at this;omega
   have hcov:(lV c s).length<=big:=by
    rw [BX m2];have:=xx c s.node c.services.l s.addrs.l;omega
   exact answers (e:=0) S a3 hcov (FJ _ (by show c.pods.l.length<=big; omega)) (FJ _ (by show c.services.l.length<=big; omega)) (FJ _ (by show c.bound.l.length<=big; omega)) (FJ _ hpl)
    (λx hx=>(Cfg.own_wf hc.2 |>.ok (br _)).2.2.2.2 _ (by rw [hp]; exact cb.2 ⟨x,(List.mem_filter.1 hx).1,rfl⟩)) (Iy m1 m2 hp v1 v2 v3 v4 v5)
theorem R11 (c:Cfg)(hc:c.wf 1048576)(hcb:c.wf big)(s:Scp)(hs:short s.addrs)(h:Hp):Sm E11 TH qz 3 [c.v,s.v] h=some (bl true,h):=S11 UM ⟨hc,hcb⟩ hs h
end
section
theorem Sl.wf.le {α:Type}{B B':Nat}(hB:B<=B'){f:Nat->α->Prop}(hf:∀ x,f B x->f B' x){s:Sl α}(h:s.wf B f):s.wf B' f:=⟨h.1.le hB,λx hx=>hf x (h.2 x hx)⟩
section
variable {B B':Nat}(hB:B<=B')
include hB
theorem Pod.wf.le {x:Pod}(h:x.wf B):x.wf B':=⟨h.1,cf h.2.1 hB,cf h.2.2.1 hB,h.2.2.2⟩
theorem Svc.wf.le {x:Svc}(h:x.wf B):x.wf B':=⟨h.1,cf h.2.1 hB,h.2.2⟩
omit hB in
theorem Way.wf.le {x:Way}(h:x.wf B):x.wf B':=⟨h.1,h.2⟩
theorem Term.wf.le {x:Term}(h:x.wf B):x.wf B':=⟨h.1,cf h.2 hB⟩
omit hB in
theorem Cidr.wf.le {x:Cidr}(h:x.wf B):x.wf B':=⟨h.1,h.2⟩
theorem Source.wf.le {x:Source}(h:x.wf B):x.wf B':=⟨Sl.wf.le hB (λ_=>Term.wf.le hB) h.1,Sl.wf.le hB (λ_=>Term.wf.le hB) h.2.1,Sl.wf.le hB (λ_=>Cidr.wf.le) h.2.2⟩
theorem Target.wf.le {x:Target}(h:x.wf B):x.wf B':=⟨Sl.wf.le hB (λ_ h=>h) h.1,Sl.wf.le hB (λ_=>Term.wf.le hB) h.2.1,Sl.wf.le hB (λ_=>Term.wf.le hB) h.2.2.1,Sl.wf.le hB (λ_=>Term.wf.le hB) h.2.2.2⟩
theorem When.wf.le {x:When}(h:x.wf B):x.wf B':=⟨cf h.1 hB,Sl.wf.le hB (λ_=>Term.wf.le hB) h.2⟩
theorem Rule.wf.le {x:Rule}(h:x.wf B):x.wf B':=⟨Sl.wf.le hB (λ_=>Source.wf.le hB) h.1,Sl.wf.le hB (λ_=>Target.wf.le hB) h.2.1,Sl.wf.le hB (λ_=>When.wf.le hB) h.2.2⟩
theorem Pol.wf.le {x:Pol}(h:x.wf B):x.wf B':=⟨h.1,cf h.2.1 hB,h.2.2.1,h.2.2.2.1,Sl.wf.le hB (λ_=>Rule.wf.le hB) h.2.2.2.2⟩
theorem Cfg.wf.le {x:Cfg}(h:x.wf B):x.wf B':=⟨h.1,h.2.1,h.2.2.1,h.2.2.2.1,Sl.wf.le hB (λ_=>Pod.wf.le hB) h.2.2.2.2.1,Sl.wf.le hB (λ_=>Svc.wf.le hB) h.2.2.2.2.2.1,Sl.wf.le hB (λ_=>Way.wf.le) h.2.2.2.2.2.2.1,Sl.wf.le hB (λ_=>Pol.wf.le hB) h.2.2.2.2.2.2.2⟩
end
end
