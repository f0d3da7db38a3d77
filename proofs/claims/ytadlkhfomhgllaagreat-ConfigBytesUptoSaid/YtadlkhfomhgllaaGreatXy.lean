/- The document's does: a service, a way, a policy taken out. -/
import Derived.Test.YtadlkhfomhgllaaGreatXn
set_option maxRecDepth 100000
set_option linter.unusedVariables false
set_option linter.unusedSimpArgs false
namespace Go.Proofs.YtadlkhfomhgllaaGreat
open IntKind (wrap)
section
variable {E:Calls'}
theorem yK {T:FuncId->Option QF}{val:FuncId->Bool}{keep:List Nat}{body:QC}(env:Nat->EA)(h:Hp)(k:Nat)(R:Ex×EA×Hp)
 (hr:∀ i,i<k->∀ W:EA->Hp->dx,bH keep W (Cd E T val body (bq keep (env i)) h)=W (env (i+1)) h)
 (hR:∀ W:EA->Hp->dx,bH keep W (Cd E T val body (bq keep (env k)) h)=some R):Cd E T val (.loop keep body) (env 0) h=some R:=by
 have:∀ (m i:Nat),i+m=k->Cd E T val (.loop keep body) (env i) h=some R:=by
  intro m;have key:=aB (E:=E) (T:=T) (val:=val) keep body;generalize Cd E T val (.loop keep body)=W at key ⊢
  induction m with
  | zero=>intro i hi; rw [key,show i=k by omega,hR W]
  | succ m ih=>intro i hi; rw [key,hr i (by omega) W,ih (i+1) (by omega)]
 exact this k 0 (by omega)
end
section
variable {E:Calls'}
end
section
theorem LV {h:Hp}{r:V}{k:IntKind}{n:Int}(hr:frz h r=some (.d (.int k n))):r=.d (.int k n):=by
 cases r with
 | d x=>simpa using hr
 | row b' o n cap z =>
  exfalso;simp only [frz,dh] at hr;cases hd:dataV h 8 (.row b' o n cap z) with
  | none=>rw [hd] at hr; cases hr
  | some d =>
   rw [hd] at hr;obtain ⟨l,rfl⟩:=nD hd;cases hr
 | ptr b' o=>simp [frz,dh,dataV] at hr
 | eptr cs o=>simp [frz,dh,dataV] at hr
 | undef=>simp [frz,dh] at hr
 | fn f cs=>cases cs<;>simp [frz,dh] at hr
 | mfn f cs=>simp [frz,dh,dataV] at hr
 | agg cs =>
  simp only [frz,dh] at hr;split at hr<;>cases hr
 | tup vs =>
  simp only [frz] at hr;split at hr<;>cases hr
theorem Cy {E:Calls'}{T:FuncId->Option QF}{val:FuncId->Bool}{f:FuncId}{q:QF}(ht:T f=some q)(hv:val f=true){l:List D}{x:D}{k:IntKind}{n:Int}(h0:∀ h,Sm E T val f [ag l,.d x] h=some (.d (.int k n),h)){a:V}{h:Hp}(ha:frz h a=some (ag l)):Sm E T val f [a,.d x] h=some (.d (.int k n),h):=by
 have h1:=h0 h;rw [aY ht hv] at h1 ⊢;simp only [List.mapM_cons,List.mapM_nil,qp,Ji,ha,Option.pure_def,Option.bind_eq_bind,Option.bind_some,qQ,Cx] at h1 ⊢;cases hB:Bd E T val q [ag l,.d x] ⟨[],0⟩ with
 | none=>rw [hB] at h1; cases h1
 | some p =>
  obtain ⟨r,h'⟩:=p;rw [hB] at h1;simp only [El] at h1 ⊢;cases hr:frz h' r with
  | none=>rw [hr] at h1; cases h1
  | some r' =>
   rw [hr] at h1;have e1:r'=.d (.int k n):=by
    simp at h1; exact h1
   subst e1;have:=LV hr;subst this;simp [ownR,rV,lS]
structure BaseE (E:Calls'):Prop where
 e29:∀ x y:Pol,x.ok->∀ h,E 38 [ag x.c,ag y.c] h=some (bl (x.same y),h)
 e111:∀ (c:Cfg) (n:Int),c.ok->∀ a h,frz h a=some (ag c.c)->E 139 [a,.d (u64 n)] h=some (.d (i64 (kL c.services.l λp=>p.id==n)),h)
 e112:∀ (c:Cfg) (n:Int),c.ok->∀ a h,frz h a=some (ag c.c)->E 141 [a,.d (u64 n)] h=some (.d (i64 (kL c.bound.l λp=>p.id==n)),h)
theorem VC {E:Calls'}:BaseE (Sm E TT aj):=⟨λx y hx h=>S29 x y hx h,λc n hc a h ha=>Cy YB YR (λh=>ag0 c hc n h) ha,λc n hc a h ha=>Cy YC YS (λh=>ag1 c hc n h) ha⟩
theorem VM {E:Calls'}(hb:BaseE E):DoesE (Sm E TX aP):=⟨λp hp h=>S35 p hp h,
 λc n hc a h ha=>(fA (by kernel_rfl)).trans (hb.e111 c n hc a h ha),λc n hc a h ha=>(fA (by kernel_rfl)).trans (hb.e112 c n hc a h ha)⟩
end
section
theorem gJ {α:Type}{B:Nat}{f:Nat->α->Prop}{s:Sl α}(h:s.wf B f):(lq s).wf B f:=⟨⟨h.1.1,λh=>by cases h⟩,h.2⟩
theorem rT {α β:Type}{B:Nat}{f:Nat->α->Prop}{g:Nat->β->Prop}{s:Sl α}{k:α->β}(h:s.wf B f)(hk:∀ x∈s.l,f B x->g B (k x)):(rR (s.l.map k)).wf B g :=
 ⟨⟨by simpa [rR] using h.1.1,λh=>by simpa [rR] using h⟩,λy hy=>by
  obtain ⟨x,hx,rfl⟩:=cd.1 (show y∈s.l.map k from hy);exact hk x hx (h.2 x hx)⟩
theorem Source.cp_wf {B:Nat}{s:Source}(h:s.wf B):s.cp.wf B:=⟨gJ h.1,gJ h.2.1,gJ h.2.2⟩
theorem Target.cp_wf {B:Nat}{s:Target}(h:s.wf B):s.cp.wf B:=⟨gJ h.1,gJ h.2.1,gJ h.2.2.1,gJ h.2.2.2⟩
theorem When.cp_wf {B:Nat}{s:When}(h:s.wf B):s.cp.wf B:=⟨h.1,gJ h.2⟩
theorem Rule.cp_wf {B:Nat}{s:Rule}(h:s.wf B):s.cp.wf B:=⟨rT h.1 λ_ _ h=>Source.cp_wf h,rT h.2.1 λ_ _ h=>Target.cp_wf h,rT h.2.2 λ_ _ h=>When.cp_wf h⟩
theorem Pol.cp_wf {B:Nat}{s:Pol}(h:s.wf B):s.cp.wf B:=⟨h.1,h.2.1,h.2.2.1,h.2.2.2.1,rT h.2.2.2.2 λ_ _ h=>Rule.cp_wf h⟩
theorem Cfg.cp_wf {B:Nat}{c:Cfg}(h:c.wf B):c.cp.wf B:=⟨h.1,h.2.1,h.2.2.1,h.2.2.2.1,gJ h.2.2.2.2.1,gJ h.2.2.2.2.2.1,gJ h.2.2.2.2.2.2.1,rT h.2.2.2.2.2.2.2 λ_ _ h=>Pol.cp_wf h⟩
end
section
variable {E:Calls'}
noncomputable def EX1 (E:Calls'):Calls':=Sm E TX aP
theorem OM (hb:BaseE E){c:Cfg}(hc:c.ok):FindX E c:=⟨λn h=>hb.e111 c n hc _ h qp,λn h=>hb.e112 c n hc _ h qp⟩
end
section
theorem Source.cp_nf (s:Source):s.cp.nf=s.nf:=rfl
theorem Target.cp_nf (s:Target):s.cp.nf=s.nf:=rfl
theorem When.cp_nf (s:When):s.cp.nf=s.nf:=rfl
theorem Rule.cp_nf (r:Rule):r.cp.nf=r.nf:=by
 simp [Rule.cp,Rule.nf,Sl.nf,rR,cn,Source.cp_nf,Target.cp_nf,When.cp_nf]
theorem Pol.cp_nf (p:Pol):p.cp.nf=p.nf:=by
 simp [Pol.cp,Pol.nf,Sl.nf,rR,cn,Rule.cp_nf]
theorem Dq (p:Pol):p.own.nf=p.nf:=Pol.same_iff.1 (own_same p)
theorem Cfg.cp_nf (c:Cfg):c.cp.nf=c.nf:=by
 simp [Cfg.cp,Cfg.nf,Sl.nf,lq,rR,cn,Pol.cp_nf]
theorem Cfg.own_nf (c:Cfg):c.own.nf=c.nf:=by
 simp [Cfg.own,Cfg.nf,Sl.nf,cn,Dq]
theorem ET (c:Cfg):kP c.nf=kP c:=by
 have h:c.nf={ c with pods:=⟨false,c.pods.l⟩,services:=⟨false,c.services.l⟩,bound:=⟨false,c.bound.l⟩,policies:=⟨false,c.policies.l.map Pol.nf⟩ }:=by simp [Cfg.nf,Sl.nf]
 have hp:bN c.nf=bN c:=by
  rw [h];simp only [bN,List.any_map,List.map_map];have h2:((eH { c with pods:=⟨false,c.pods.l⟩,services:=⟨false,c.services.l⟩,bound:=⟨false,c.bound.l⟩,policies:=⟨false,c.policies.l.map Pol.nf⟩ }) ∘ Pol.nf)=eH c:=by
   funext p;simp only [Function.comp,eH,GH];rfl
  rw [h2];rfl
 have hb:eU c.nf=eU c:=xW rfl rfl (by rw [h]);have h1:kg c.nf=kg c:=rfl;have h2:gY c.nf=gY c:=by rw [h]; rfl
 have h3:bU c.nf=bU c:=by rw [h]; rfl
 have h4:jI c.nf=jI c:=by rw [h]; rfl
 simp only [kP,hp,hb,h1,h2,h3,h4]
theorem Jw {c d:Cfg}(h:c.nf=d.nf):kP c=kP d:=by rw [← ET c,← ET d,h]
theorem Co {c d:Cfg}(h:c.nf=d.nf):jm c=jm d:=by
 have h1:=congrArg (λx:Cfg=>x.pods.l.length) h;have h2:=congrArg (λx:Cfg=>x.services.l.length) h;have h3:=congrArg (λx:Cfg=>x.bound.l.length) h;have h4:=congrArg (λx:Cfg=>x.policies.l.length) h;simp [Cfg.nf,Sl.nf] at h1 h2 h3 h4;simp only [jm,h1,h2,h3,h4]
end
section
theorem QA {c d:Cfg}(h1:c.epoch=d.epoch)(h2:c.next=d.next)(h3:c.hosts=d.hosts)(h4:c.ways=d.ways)(h5:c.pods.l=d.pods.l)(h6:c.services.l=d.services.l)(h7:c.bound.l=d.bound.l)(h8:c.policies.l.map Pol.nf=d.policies.l.map Pol.nf):c.nf=d.nf:=by
 simp [Cfg.nf,Sl.nf,h1,h2,h3,h4,h5,h6,h7,h8]
end
section
variable {E:Calls'}
def bm2:List (Nat×QF):=[(6,q34)]
def TV:FuncId->Option QF:=lu bm2
def Ox (f:FuncId):Bool:=Nat.beq 6 f
theorem V34 (hE:DoesE E)(c:Cfg)(hc:c.ok)(h:Hp):Sm E TV Ox 6 [c.v] h=some (ag c.cp.c,h):=by
 obtain ⟨bs',lo',v4,v5,v6,v7,L0,L1,L2,L3,a,r1,r2,r3,r4,r5,r6,r7,r8,r9,r10,r11,r12,r13,r14,u4⟩:=B34 (T:=TV) (val:=Ox) (by kernel_rfl) hE c hc [];have hcv:[c.v].mapM (frz h)=some [c.v]:=by simp [Cfg.v]
 rw [aY (q:=q34) (by kernel_rfl) (by kernel_rfl),hcv,qQ];have a':Bd E TV Ox q34 [c.v] ⟨[],0⟩=some (.agg (cq c v4 v5 v6 v7),⟨bs',lo'⟩):=a;rw [a',KR,wK,yD (r7.datN r11 lo' 7) (r8.datN r12 lo' 7) (r9.datN r13 lo' 7) (r10.datE (λh0=>r14 (by simpa using h0)) lo' 7),← Cfg.cp_c];simp [Cfg.v]
theorem FR {c d:Cfg}(h:c.nf=d.nf):bL c=bL d:=by
 simp only [bL,Co h,Jw h,uA h]
theorem KU {T:FuncId->Option QF}{val:FuncId->Bool}{f:FuncId}{q:QF}(ht:T f=some q)(hv:val f=true){l m:List D}{b:Bool}(h0:∀ h,Sm E T val f [ag l,ag m] h=some (bl b,h)){a a':V}{h:Hp}(ha:frz h a=some (ag l))(ha':frz h a'=some (ag m)):Sm E T val f [a,a'] h=some (bl b,h):=by
 have h1:=h0 h;rw [aY ht hv] at h1 ⊢;simp only [List.mapM_cons,List.mapM_nil,qp,ha,ha',Option.pure_def,Option.bind_eq_bind,Option.bind_some,qQ,Cx] at h1 ⊢;cases hB:Bd E T val q [ag l,ag m] ⟨[],0⟩ with
 | none=>rw [hB] at h1; cases h1
 | some p =>
  obtain ⟨r,h'⟩:=p;rw [hB] at h1;simp only [El] at h1 ⊢;cases hr:frz h' r with
  | none=>rw [hr] at h1; cases h1
  | some r' =>
   rw [hr] at h1;have e1:r'=bl b:=by
    simp at h1; exact h1
   subst e1;have:=Bj hr;subst this;simp [ownR,rV,lS]
end
section
variable {E:Calls'}
def bm0:List (Nat×QF):=[(16,q39)]
def TS:FuncId->Option QF:=lu bm0
def pX (_:FuncId):Bool:=false
theorem BV {cs:List V}{o:Nat}{y:V}(h:o<cs.length):∃ cs',put cs o [y]=some cs'/\cs'.length=cs.length/\∀ j,cs'[j]?=if j=o then some y else cs[j]?:=by
 refine ⟨cs.set o y,?_,by simp,λj=>?_⟩
 . simp only [put,List.length_singleton];rw [if_pos (by omega)]
   congr 1
   rw [List.set_eq_take_append_cons_drop,if_pos h];simp
 . rw [List.getElem?_set];by_cases hj:j=o
   . subst hj; simp [h]
   . rw [if_neg hj,if_neg (Ne.symm hj)]
theorem xI {cs:List V}{o:Nat}{y:V}(h:cs[o]?=some y):sub cs o 1=some [y]:=by
 obtain ⟨h1,rfl⟩:=bx.1 h;exact Fh h1
theorem mg {T:FuncId->Option QF}{val:FuncId->Bool}{keep:List Nat}{body:QC}(n:Nat)(env:Nat->EA)(P:Nat->List Blk->Prop)(X:Ex×EA)
 (hr:∀ i,i<n->∀ bs lo,P i bs->∃ bs' lo',P (i+1) bs'/\∀ W:EA->Hp->dx,bH keep W (Cd E T val body (bq keep (env i)) ⟨bs,lo⟩)=W (env (i+1)) ⟨bs',lo'⟩)
 (he:∀ bs lo,P n bs->∀ W:EA->Hp->dx,bH keep W (Cd E T val body (bq keep (env n)) ⟨bs,lo⟩)=some (X.1,X.2,⟨bs,lo⟩)) (bs:List Blk) (lo:Nat) (h0:P 0 bs) :
 ∃ bs' lo',Cd E T val (.loop keep body) (env 0) ⟨bs,lo⟩=some (X.1,X.2,⟨bs',lo'⟩)/\P n bs':=by
 have:∀ (m i:Nat) (bs:List Blk) (lo:Nat),i+m=n->P i bs->∃ bs' lo',Cd E T val (.loop keep body) (env i) ⟨bs,lo⟩=some (X.1,X.2,⟨bs',lo'⟩)/\P n bs':=by
  intro m;have key:=aB (E:=E) (T:=T) (val:=val) keep body;generalize Cd E T val (.loop keep body)=W at key ⊢
  induction m with
  | zero =>
   intro i bs lo hi hP;rw [show i=n by omega] at hP ⊢;exact ⟨bs,lo,by rw [key,he bs lo hP W],hP⟩
  | succ m ih =>
   intro i bs lo hi hP;obtain ⟨bs',lo',h1,h2⟩:=hr i (by omega) bs lo hP;obtain ⟨bs2,lo2,h3,h4⟩:=ih (i+1) bs' lo' (by omega) h1;exact ⟨bs2,lo2,by rw [key,h2 W,h3],h4⟩
 exact this n 0 bs lo (by omega) h0
def Idc (z n:Nat)(cs:List V):Prop:=∀ i,i<n->∃ x,cs[i * z]?=some (.d (u64 x))
theorem Idc.put {z n o:Nat}{cs cs':List V}{x:Int}(h:Idc z n cs)(hc:∀ j,cs'[j]?=if j=o then some (.d (u64 x)) else cs[j]?):Idc z n cs':=λi hi=>by
 rw [hc];by_cases ho:i * z=o
 . rw [if_pos ho]; exact ⟨_,rfl⟩
 . rw [if_neg ho]; exact h i hi
def IdRow (K:Nat->Prop)(bs:List Blk)(z:Nat)(v:V):Prop:=(∃ nl,v=.d (.slice nl []))\/∃ b n cap cs,K b/\v=.row b 0 n cap z/\n<2 ^ 62/\aa bs b=some cs/\Idc z n cs
def Keeps (K:Nat->Prop)(bs bs':List Blk):Prop:=(∀ x,¬ K x->bs'[x]?=bs[x]?)/\∀ x cs,aa bs x=some cs->∃ cs',aa bs' x=some cs'/\cs'.length=cs.length
theorem Keeps.refl {K:Nat->Prop}{bs:List Blk}:Keeps K bs bs:=⟨λ_ _=>rfl,λx cs h=>⟨cs,h,rfl⟩⟩
theorem Keeps.trans {K:Nat->Prop}{a b c:List Blk}(h:Keeps K a b)(k:Keeps K b c):Keeps K a c:=⟨λx hx=>(k.1 x hx).trans (h.1 x hx),λx cs hc=>by
 obtain ⟨c1,h1,h2⟩:=h.2 x cs hc;obtain ⟨c2,h3,h4⟩:=k.2 x c1 h1;exact ⟨c2,h3,h4.trans h2⟩⟩
theorem Keeps.set {K:Nat->Prop}{x:Nat}{bs:List Blk}{cs cs0:List V}(h:K x)(h0:aa bs x=some cs0)(hl:cs.length=cs0.length):Keeps K bs (bs.set x (.cells cs)):=⟨λy hy=>ac (by rintro rfl; exact hy h),λy c hc=>by
 by_cases hy:x=y
 . subst hy;rw [h0] at hc;cases hc;exact ⟨cs,aG h0,hl⟩
 . exact ⟨c,by rw [fV hy]; exact hc,rfl⟩⟩
theorem Keeps.get {K:Nat->Prop}{x:Nat}{bs bs':List Blk}{cs:List V}(h:Keeps K bs bs')(hx:¬ K x)(hg:aa bs x=some cs):aa bs' x=some cs:=by
 rw [← hg]; unfold aa; rw [h.1 x hx]
theorem UB {K:Nat->Prop}{p:Nat}{cells:List V}{v:V}(hp:¬ K p)(hs:sub cells 4 1=some [v])(bs:List Blk)(lo:Nat)(hg:aa bs p=some cells)(hv:IdRow K bs 7 v) :
 ∃ bs' lo',Cd E TS pX (.loop [1,2] tO) [(1,.ptr p 0),(2,.d (i64 ((0:Nat):Int)))] ⟨bs,lo⟩=some (.exit 0,[(1,.ptr p 0)],⟨bs',lo'⟩)/\Keeps K bs bs'/\∀ b n cap,v=.row b 0 n cap 7->∀ x,x≠b->bs'[x]?=bs[x]?:=by
 obtain ⟨nl,rfl⟩ | ⟨b,n,cap,cs,hL,rfl,hn,hb,hi⟩:=hv
 . refine ⟨bs,lo,?_,Keeps.refl,λb n cap h=>by simp at h⟩;rw [aB];simp [tO,hg,hs]
 . obtain ⟨bs',lo',h1,h2,h3,h4⟩:=mg (E:=E) (T:=TS) (val:=pX) (keep:=[1,2]) (body:=tO) n (λi=>[(1,.ptr p 0),(2,.d (i64 i))]) (λi bs'=>Keeps K bs bs'/\(∀ x,x≠b->bs'[x]?=bs[x]?)/\∃ cs',aa bs' b=some cs'/\Idc 7 n cs') (.exit 0,[(1,.ptr p 0)])
    (by
      intro i hlt bs1 lo1 ⟨hk,hx,cs1,hc1,hi1⟩;obtain ⟨x,hxx⟩:=hi1 i hlt;have hlen:=(bx.1 hxx).1;obtain ⟨cs2,q1,q2,q3⟩:=BV (y:=.d (u64 (wrap .u64 (x+1)))) hlen;have hgp:=hk.get hp hg;have hsx:=xI hxx;have hw:=ax hlt hn;have h0:((i:Int)<n):=by omega
      have hix:∀ hp,eY none 7 (.row b 0 n cap 7) (.d (.int .i64 i)) hp=some (.ptr b (i * 7),hp):=λhp=>by
       simp only [eY];rw [if_pos ⟨by omega,by omega,trivial⟩];simp
      refine ⟨bs1.set b (.cells cs2),min lo1 b,⟨hk.trans (Keeps.set hL hc1 q2),λy hy=>by rw [ac (Ne.symm hy),hx y hy],cs2,aG hc1,hi1.put q3⟩,λW=>?_⟩;simp [tO,hgp,hs,hix,hc1,hsx,q1,h0,hw,-kU,-jQ])
    (by
      intro bs1 lo1 ⟨hk,hx,cs1,hc1,hi1⟩ W;have hgp:=hk.get hp hg;simp [tO,hgp,hs])
    bs lo ⟨Keeps.refl,λ_ _=>rfl,cs,hb,hi⟩
   exact ⟨bs',lo',h1,h2,λb' n' cap' h=>by simp at h; obtain ⟨rfl,_⟩:=h; exact h3⟩
theorem UC {K:Nat->Prop}{p:Nat}{cells:List V}{v:V}(hp:¬ K p)(hs:sub cells 5 1=some [v])(bs:List Blk)(lo:Nat)(hg:aa bs p=some cells)(hv:IdRow K bs 5 v) :
 ∃ bs' lo',Cd E TS pX (.loop [1,3] tQ) [(1,.ptr p 0),(3,.d (i64 ((0:Nat):Int)))] ⟨bs,lo⟩=some (.exit 2,[(1,.ptr p 0)],⟨bs',lo'⟩)/\Keeps K bs bs'/\∀ b n cap,v=.row b 0 n cap 5->∀ x,x≠b->bs'[x]?=bs[x]?:=by
 obtain ⟨nl,rfl⟩ | ⟨b,n,cap,cs,hL,rfl,hn,hb,hi⟩:=hv
 . refine ⟨bs,lo,?_,Keeps.refl,λb n cap h=>by simp at h⟩;rw [aB];simp [tQ,hg,hs]
 . obtain ⟨bs',lo',h1,h2,h3,h4⟩:=mg (E:=E) (T:=TS) (val:=pX) (keep:=[1,3]) (body:=tQ) n (λi=>[(1,.ptr p 0),(3,.d (i64 i))]) (λi bs'=>Keeps K bs bs'/\(∀ x,x≠b->bs'[x]?=bs[x]?)/\∃ cs',aa bs' b=some cs'/\Idc 5 n cs') (.exit 2,[(1,.ptr p 0)])
    (by
      intro i hlt bs1 lo1 ⟨hk,hx,cs1,hc1,hi1⟩;obtain ⟨x,hxx⟩:=hi1 i hlt;have hlen:=(bx.1 hxx).1;obtain ⟨cs2,q1,q2,q3⟩:=BV (y:=.d (u64 (wrap .u64 (x+1)))) hlen;have hgp:=hk.get hp hg;have hsx:=xI hxx;have hw:=ax hlt hn;have h0:((i:Int)<n):=by omega
      have hix:∀ hp,eY none 5 (.row b 0 n cap 5) (.d (.int .i64 i)) hp=some (.ptr b (i * 5),hp):=λhp=>by
       simp only [eY];rw [if_pos ⟨by omega,by omega,trivial⟩];simp
      refine ⟨bs1.set b (.cells cs2),min lo1 b,⟨hk.trans (Keeps.set hL hc1 q2),λy hy=>by rw [ac (Ne.symm hy),hx y hy],cs2,aG hc1,hi1.put q3⟩,λW=>?_⟩;simp [tQ,hgp,hs,hix,hc1,hsx,q1,h0,hw,-kU,-jQ])
    (by
      intro bs1 lo1 ⟨hk,hx,cs1,hc1,hi1⟩ W;have hgp:=hk.get hp hg;simp [tQ,hgp,hs])
    bs lo ⟨Keeps.refl,λ_ _=>rfl,cs,hb,hi⟩
   exact ⟨bs',lo',h1,h2,λb' n' cap' h=>by simp at h; obtain ⟨rfl,_⟩:=h; exact h3⟩
theorem UD {K:Nat->Prop}{p:Nat}{cells:List V}{v:V}(hp:¬ K p)(hs:sub cells 6 1=some [v])(bs:List Blk)(lo:Nat)(hg:aa bs p=some cells)(hv:IdRow K bs 2 v) :
 ∃ bs' lo',Cd E TS pX (.loop [1,4] tT) [(1,.ptr p 0),(4,.d (i64 ((0:Nat):Int)))] ⟨bs,lo⟩=some (.exit 4,[(1,.ptr p 0)],⟨bs',lo'⟩)/\Keeps K bs bs'/\∀ b n cap,v=.row b 0 n cap 2->∀ x,x≠b->bs'[x]?=bs[x]?:=by
 obtain ⟨nl,rfl⟩ | ⟨b,n,cap,cs,hL,rfl,hn,hb,hi⟩:=hv
 . refine ⟨bs,lo,?_,Keeps.refl,λb n cap h=>by simp at h⟩;rw [aB];simp [tT,hg,hs]
 . obtain ⟨bs',lo',h1,h2,h3,h4⟩:=mg (E:=E) (T:=TS) (val:=pX) (keep:=[1,4]) (body:=tT) n (λi=>[(1,.ptr p 0),(4,.d (i64 i))]) (λi bs'=>Keeps K bs bs'/\(∀ x,x≠b->bs'[x]?=bs[x]?)/\∃ cs',aa bs' b=some cs'/\Idc 2 n cs') (.exit 4,[(1,.ptr p 0)])
    (by
      intro i hlt bs1 lo1 ⟨hk,hx,cs1,hc1,hi1⟩;obtain ⟨x,hxx⟩:=hi1 i hlt;have hlen:=(bx.1 hxx).1;obtain ⟨cs2,q1,q2,q3⟩:=BV (y:=.d (u64 (wrap .u64 (x+1)))) hlen;have hgp:=hk.get hp hg;have hsx:=xI hxx;have hw:=ax hlt hn;have h0:((i:Int)<n):=by omega
      have hix:∀ hp,eY none 2 (.row b 0 n cap 2) (.d (.int .i64 i)) hp=some (.ptr b (i * 2),hp):=λhp=>by
       simp only [eY];rw [if_pos ⟨by omega,by omega,trivial⟩];simp
      refine ⟨bs1.set b (.cells cs2),min lo1 b,⟨hk.trans (Keeps.set hL hc1 q2),λy hy=>by rw [ac (Ne.symm hy),hx y hy],cs2,aG hc1,hi1.put q3⟩,λW=>?_⟩;simp [tT,hgp,hs,hix,hc1,hsx,q1,h0,hw,-kU,-jQ])
    (by
      intro bs1 lo1 ⟨hk,hx,cs1,hc1,hi1⟩ W;have hgp:=hk.get hp hg;simp [tT,hgp,hs])
    bs lo ⟨Keeps.refl,λ_ _=>rfl,cs,hb,hi⟩
   exact ⟨bs',lo',h1,h2,λb' n' cap' h=>by simp at h; obtain ⟨rfl,_⟩:=h; exact h3⟩
def RulOk (K:Nat->Prop)(b:Nat)(bs:List Blk)(r:V):Prop:=(∃ nl,r=.d (.slice nl []))\/∃ b' m cap cs,K b'/\b'≠b/\r=.row b' 0 m cap 3/\m<2 ^ 62/\aa bs b'=some cs/\m * 3<=cs.length
theorem RulOk.keep {K:Nat->Prop}{b:Nat}{bs bs':List Blk}{r:V}(h:RulOk K b bs r)(k:Keeps K bs bs'):RulOk K b bs' r:=by
 obtain h | ⟨b',m,cap,cs,h1,h2,h3,h4,h5,h6⟩:=h
 . exact .inl h
 . obtain ⟨cs',q1,q2⟩:=k.2 b' cs h5;exact .inr ⟨b',m,cap,cs',h1,h2,h3,h4,q1,by omega⟩
def PolRow (K:Nat->Prop)(bs:List Blk)(v:V):Prop:=(∃ nl,v=.d (.slice nl []))\/∃ b n cap cs,K b/\v=.row b 0 n cap 5/\n<2 ^ 62/\aa bs b=some cs/\Idc 5 n cs/\∀ i,i<n->∃ r,cs[i * 5+4]?=some r/\RulOk K b bs r
theorem UE {K:Nat->Prop}{p:Nat}{cells:List V}(hp:¬ K p){b n:Nat}{cap:Option Nat}(hs:sub cells 7 1=some [.row b 0 n cap 5])(bs:List Blk)(lo:Nat)(hg:aa bs p=some cells){cs:List V}(hb:aa bs b=some cs){i:Nat}(hi:i<n){r:V}(hr:cs[i * 5+4]?=some r)(ho:RulOk K b bs r) :
 ∃ bs' lo',Cd E TS pX (.loop [1,5,6] tV) [(1,.ptr p 0),(5,.d (i64 i)),(6,.d (i64 ((0:Nat):Int)))] ⟨bs,lo⟩=some (.exit 8,[(1,.ptr p 0),(5,.d (i64 i))],⟨bs',lo'⟩)/\Keeps K bs bs'/\aa bs' b=some cs:=by
 have hix:∀ hp,eY none 5 (.row b 0 n cap 5) (.d (.int .i64 i)) hp=some (.ptr b (i * 5),hp):=λhp=>by
  simp only [eY];rw [if_pos ⟨by omega,by omega,trivial⟩];simp
 have hsr:=xI hr;obtain ⟨nl,rfl⟩ | ⟨b',m,cap',cs',hK,hne,rfl,hm,hb',hl⟩:=ho
 . refine ⟨bs,lo,?_,Keeps.refl,hb⟩;rw [aB];simp [tV,hg,hs,hix,hb,hsr]
 . obtain ⟨bs',lo',h1,h2,h3,_⟩:=mg (E:=E) (T:=TS) (val:=pX) (keep:=[1,5,6]) (body:=tV) m (λj=>[(1,.ptr p 0),(5,.d (i64 i)),(6,.d (i64 j))]) (λj bs'=>Keeps K bs bs'/\aa bs' b=some cs/\∃ cs1,aa bs' b'=some cs1/\m * 3<=cs1.length) (.exit 8,[(1,.ptr p 0),(5,.d (i64 i))])
    (by
      intro j hlt bs1 lo1 ⟨hk,hx,cs1,hc1,hl1⟩;have hlen:j * 3<cs1.length:=by omega
      obtain ⟨cs2,q1,q2,q3⟩:=BV (y:=nV) hlen;have hgp:=hk.get hp hg;have hw:=ax hlt hm;have h0:((j:Int)<m):=by omega
      have hjx:∀ hp,eY none 3 (.row b' 0 m cap' 3) (.d (.int .i64 j)) hp=some (.ptr b' (j * 3),hp):=λhp=>by
       simp only [eY];rw [if_pos ⟨by omega,by omega,trivial⟩];simp
      refine ⟨bs1.set b' (.cells cs2),min lo1 b',⟨hk.trans (Keeps.set hK hc1 q2),(fV hne).trans hx,cs2,aG hc1,by omega⟩,λW=>?_⟩;simp [tV,hgp,hs,hix,hx,hsr,hjx,hc1,q1,h0,hw,-kU,-jQ])
    (by
      intro bs1 lo1 ⟨hk,hx,cs1,hc1,hl1⟩ W;have hgp:=hk.get hp hg;simp [tV,hgp,hs,hix,hx,hsr])
    bs lo ⟨Keeps.refl,hb,cs',hb',hl⟩
   exact ⟨bs',lo',h1,h2,h3⟩
theorem UF {K:Nat->Prop}{p:Nat}{cells:List V}{v:V}(hp:¬ K p)(hs:sub cells 7 1=some [v])(bs:List Blk)(lo:Nat)(hg:aa bs p=some cells)(hv:PolRow K bs v) :
 ∃ bs' lo',Cd E TS pX (.loop [1,5] tX) [(1,.ptr p 0),(5,.d (i64 ((0:Nat):Int)))] ⟨bs,lo⟩=some (.exit 6,[],⟨bs',lo'⟩)/\Keeps K bs bs':=by
 obtain ⟨nl,rfl⟩ | ⟨b,n,cap,cs,hK,rfl,hn,hb,hi,hr⟩:=hv
 . refine ⟨bs,lo,?_,Keeps.refl⟩;rw [aB];simp [tX,hg,hs]
 . obtain ⟨bs',lo',h1,h2,_⟩:=mg (E:=E) (T:=TS) (val:=pX) (keep:=[1,5]) (body:=tX) n (λi=>[(1,.ptr p 0),(5,.d (i64 i))]) (λi bs'=>Keeps K bs bs'/\∃ cs',aa bs' b=some cs'/\Idc 5 n cs'/\∀ i,i<n->∃ r,cs'[i * 5+4]?=some r/\RulOk K b bs' r) (.exit 6,[])
    (by
      intro i hlt bs1 lo1 ⟨hk,cs1,hc1,hi1,hr1⟩;obtain ⟨r,hrr,hro⟩:=hr1 i hlt;have hgp:=hk.get hp hg;obtain ⟨bs2,lo2,d1,d2,d3⟩:=UE (E:=E) hp (cap:=cap) hs bs1 lo1 hgp hc1 hlt hrr hro;obtain ⟨x,hxx⟩:=hi1 i hlt;have hlen:=(bx.1 hxx).1;obtain ⟨cs2,q1,q2,q3⟩:=BV (y:=.d (u64 (wrap .u64 (x+1)))) hlen;have hgp2:=d2.get hp hgp;have hsx:=xI hxx;have hw:=ax hlt hn;have h0:((i:Int)<n):=by omega
      have hix:∀ hp,eY none 5 (.row b 0 n cap 5) (.d (.int .i64 i)) hp=some (.ptr b (i * 5),hp):=λhp=>by
       simp only [eY];rw [if_pos ⟨by omega,by omega,trivial⟩];simp
      have hk2:=d2.trans (Keeps.set hK d3 q2);refine ⟨bs2.set b (.cells cs2),min lo2 b,⟨hk.trans hk2,cs2,aG d3,hi1.put q3,λj hj=>?_⟩,λW=>?_⟩
      . obtain ⟨r',e1,e2⟩:=hr1 j hj;refine ⟨r',?_,e2.keep hk2⟩;rw [q3,if_neg (by omega)];exact e1
      . simp at d1;simp [tX,hgp,hs,h0];rw [ai];simp [d1,hgp2,hs,hix,d3,hsx,q1,hw,-kU,-jQ])
    (by
      intro bs1 lo1 ⟨hk,cs1,hc1,hi1,hr1⟩ W;have hgp:=hk.get hp hg;simp [tX,hgp,hs])
    bs lo ⟨Keeps.refl,cs,hb,hi,hr⟩
   exact ⟨bs',lo',h1,h2⟩
end
section
variable {E:Calls'}
def Tg (L M:Nat)(tag:Nat->Nat)(i:Nat):Nat->Prop:=λx=>L<=x/\x<M/\tag x=i
def Tg2 (L M:Nat)(tag:Nat->Nat):Nat->Prop:=λx=>L<=x/\x<M/\(tag x=7\/tag x=8)
theorem eB {bs bs':List Blk}{x:Nat}{cs:List V}(h:bs'[x]?=bs[x]?)(hg:aa bs x=some cs):aa bs' x=some cs:=by
 rw [← hg]; unfold aa; rw [h]
theorem IdRow.on {K:Nat->Prop}{bs bs':List Blk}{z:Nat}{v:V}(h:IdRow K bs z v)(k:∀ x,K x->bs'[x]?=bs[x]?):IdRow K bs' z v:=by
 obtain h | ⟨b,n,cap,cs,h1,h2,h3,h4,h5⟩:=h
 . exact .inl h
 . exact .inr ⟨b,n,cap,cs,h1,h2,h3,eB (k b h1) h4,h5⟩
theorem PolRow.on {K:Nat->Prop}{bs bs':List Blk}{v:V}(h:PolRow K bs v)(k:∀ x,K x->bs'[x]?=bs[x]?):PolRow K bs' v:=by
 obtain h | ⟨b,n,cap,cs,h1,h2,h3,h4,h5,h6⟩:=h
 . exact .inl h
 . refine .inr ⟨b,n,cap,cs,h1,h2,h3,eB (k b h1) h4,h5,λi hi=>?_⟩;obtain ⟨r,q1,q2⟩:=h6 i hi;refine ⟨r,q1,?_⟩;obtain q2 | ⟨b',m,cap',cs',e1,e2,e3,e4,e5,e6⟩:=q2
   . exact .inl q2
   . exact .inr ⟨b',m,cap',cs',e1,e2,e3,e4,eB (k b' e1) e5,e6⟩
structure Spoils (L0 M:Nat) (bs:List Blk) (cells:List V):Prop where
 len:cells.length=8
 low:L0<=M
 top:M<=bs.length
 is:∃ (tag:Nat->Nat) (v4 v5 v6 v7:V),sub cells 4 1=some [v4]/\sub cells 5 1=some [v5]/\sub cells 6 1=some [v6]/\sub cells 7 1=some [v7] ∧
  IdRow (Tg L0 M tag 4) bs 7 v4/\IdRow (Tg L0 M tag 5) bs 5 v5/\IdRow (Tg L0 M tag 6) bs 2 v6/\PolRow (Tg2 L0 M tag) bs v7
theorem Spoils.on {L0 M:Nat}{bs bs':List Blk}{cells:List V}(h:Spoils L0 M bs cells)(hl:M<=bs'.length)(k:∀ x,L0<=x->x<M->bs'[x]?=bs[x]?):Spoils L0 M bs' cells:=by
 obtain ⟨tag,v4,v5,v6,v7,s4,s5,s6,s7,r4,r5,r6,r7⟩:=h.is;exact ⟨h.len,h.low,hl,tag,v4,v5,v6,v7,s4,s5,s6,s7,r4.on λx hx=>k x hx.1 hx.2.1,r5.on λx hx=>k x hx.1 hx.2.1,r6.on λx hx=>k x hx.1 hx.2.1,r7.on λx hx=>k x hx.1 hx.2.1⟩
theorem s39:TS 16=some q39:=by kernel_rfl
theorem r39:pX 16=false:=rfl
theorem S39 {L0 M:Nat}{bs:List Blk}{cells:List V}(h:Spoils L0 M bs cells):∃ bs',∃ F:Nat->Nat,(∀ lo,Sm E TS pX 16 [.agg cells] ⟨bs,lo⟩=some (.tup [],⟨bs',F lo⟩))/\∀ x,x<L0->bs'[x]?=bs[x]?:=by
 obtain ⟨tag,v4,v5,v6,v7,s4,s5,s6,s7,r4,r5,r6,r7⟩:=h.is;have hM:=h.top;have hL0:=h.low;have hg:aa (bs++[.cells cells]) bs.length=some cells:=by simp
 have n4:¬ Tg L0 M tag 4 bs.length:=λh=>by have:=h.2.1; omega
 have n5:¬ Tg L0 M tag 5 bs.length:=λh=>by have:=h.2.1; omega
 have n6:¬ Tg L0 M tag 6 bs.length:=λh=>by have:=h.2.1; omega
 have n7:¬ Tg2 L0 M tag bs.length:=λh=>by have:=h.2.1; omega
 have la:∀ x,x<bs.length->(bs++[Blk.cells cells])[x]?=bs[x]?:=λx hx=>am hx;obtain ⟨b1,lo1,a1,k1,_⟩:=UB (E:=E) n4 s4 _ bs.length hg (r4.on λx h1=>la x (by have:=h1.2.1; omega));obtain ⟨b2,lo2,a2,k2,_⟩:=UC (E:=E) n5 s5 b1 lo1 (k1.get n4 hg) (r5.on λx h1=>(k1.1 x (λh2=>by have:=h1.2.2; have:=h2.2.2; omega)).trans (la x (by have:=h1.2.1; omega)));obtain ⟨b3,lo3,a3,k3,_⟩:=UD (E:=E) n6 s6 b2 lo2 (k2.get n5 (k1.get n4 hg)) (r6.on λx h1=>(k2.1 x (λh2=>by have:=h1.2.2; have:=h2.2.2; omega)).trans ((k1.1 x (λh2=>by have:=h1.2.2; have:=h2.2.2; omega)).trans (la x (by have:=h1.2.1; omega))));obtain ⟨b4,lo4,a4,k4⟩:=UF (E:=E) n7 s7 b3 lo3 (k3.get n6 (k2.get n5 (k1.get n4 hg))) (r7.on λx h1=>(k3.1 x (λh2=>by have:=h1.2.2; have:=h2.2.2; omega)).trans ((k2.1 x (λh2=>by have:=h1.2.2; have:=h2.2.2; omega)).trans ((k1.1 x (λh2=>by have:=h1.2.2; have:=h2.2.2; omega)).trans (la x (by have:=h1.2.1; omega)))));have hold:∀ x,x<L0->b4[x]?=bs[x]?:=λx hx=>by
  rw [k4.1 x (λh=>by have:=h.1; omega),k3.1 x (λh=>by have:=h.1; omega),k2.1 x (λh=>by have:=h.1; omega),k1.1 x (λh=>by have:=h.1; omega),am (by omega)]
 have hB:Bd E TS pX q39 [.agg cells] ⟨bs,bs.length⟩=some (.tup [],⟨b4,lo4⟩):=by
  simp at a1 a2 a3 a4;simp [ae,q39];rw [ai];simp [a1];rw [ai];simp [a2];rw [ai];simp [a3];rw [ai];simp [a4,dB]
 by_cases hc:bs.length<=lo4/\(V.tup []).under bs.length=true
 . refine ⟨bs,id,λlo=>?_,λ_ _=>rfl⟩;rw [aM s39 r39];show fC ⟨bs,lo⟩ (Bd E TS pX q39 [.agg cells] ⟨bs,bs.length⟩)=_;rw [hB,eu,if_pos hc];rfl
 . refine ⟨b4,λlo=>min lo lo4,λlo=>?_,hold⟩;rw [aM s39 r39];show fC ⟨bs,lo⟩ (Bd E TS pX q39 [.agg cells] ⟨bs,bs.length⟩)=_;rw [hB,eu,if_neg hc]
end
section
variable {E:Calls'}
end
