/- The law FeedEnds. -/
import Derived.Test.YtmakbdpnlfmclaaGreatXo
set_option maxRecDepth 100000
set_option linter.unusedVariables false
set_option linter.unusedSimpArgs false
namespace Go.Proofs.YtmakbdpnlfmclaaGreat
section
structure EndsH (E:Calls'):Prop where
 h4:∀ h,E 4 [.d (i64 2),.d (.int .u64 1)] h=some (.tup [fdNew.v,.d (i64 0)],h)
 h5:∀ c:Cfg,c.ok->∃ b:Bool,∀ h,E 5 [c.v] h=some (bl b,h)
 h6:∀ c:Cfg,CfgOk c->∀ h,E 6 [c.v] h=some (bl (bG c),h)
 h7:∀ h,E 7 [] h=some (bl true,h)
 h8:∀ s:Sbs,short s.addrs->∀ h,E 8 [ag s.c] h=some (bl (iD s),h)
 h9:∀ f:Fd,FdOk f->∀ c:Cfg,CfgOk c->∀ now (s:Sbs),short s.addrs->∃ f' l,Subs c now f s f' l/\FdOk f'/\∀ h,E 9 [f.v,c.v,.d (u64 now),ag s.c] h=some (.tup [f'.v,.d (fw l)],h)
 h10:∀ e:Edt,e.wf big->∃ b:Bool,∀ h,E 10 [ag e.c] h=some (bl b,h)
 h11:∀ c:Cfg,CfgOk c->∀ e:Edt,e.wf 1048576->e.wf big->∀ h,E 11 [c.v,ag e.c] h=some (.tup [ag (eY c e).1.c,.d (i64 (eY c e).2)],h)
 h12:∀ f:Fd,FdOk f->f.out≠0->∀ c:Cfg,CfgOk c->∀ now,∃ f' l,GoOn c now f.own f' l/\FdOk f'/\∀ h,E 12 [f.v,c.v,.d (u64 now)] h=some (.tup [f'.v,.d (fw l)],h)
 h13:∀ (bs:List Blk) (nb:Nat) (n:Nde),ai bs nb=some (n.c.map .d)->∀ (p:Psh) (x base:Vw),p.inc=n.inc->¬ p.seq<n.seq →
  ((n.whole=false/\p.upon=0/\base=vw0)\/(n.whole=true/\p.seq≠n.seq/\p.upon≠0/\p.upon=n.seq/\base=n.v))->(∀ h,E 33 [base.v,ag p.delta.c] h=some (.tup [x.v,.d (i64 0)],h)) →
  ∃ b1 b2 b3 b4,∃ F:Nat->Nat,∀ lo,E 13 [.ptr nb 0,ag p.c] ⟨bs,lo⟩=some (.row (bs.length+4) 0 1 (some 1) 4,⟨bs.set nb (.cells (Nde.c ⟨n.inc,n.asked,p.seq,x,true⟩ |>.map .d))++[b1,b2,b3,b4,.cells ((Ack.c ⟨p.life,p.inc,p.seq,1⟩).map .d)],F lo⟩)
 h14:∀ f:Fd,FdOk f->∀ c:Cfg,CfgOk c->∀ now (a:Ack),∃ f' l,Ackd c now f a f' l/\FdOk f'/\∀ h,E 14 [f.v,c.v,.d (u64 now),ag a.c] h=some (.tup [f'.v,.d (fw l)],h)
 h15:∀ c:Cfg,CfgOk c->∀ s:Scp,short s.addrs->∃ v e,OfR c s v e/\∀ h,E 15 [c.v,.agg [.d (i64 s.node),.d (s.addrs.d aV)]] h=some (.tup [v.v,.d (i64 e)],h)
 h16:∀ f:Fd,FdOk f->∀ now,∃ f' l,Tckd now f f' l/\FdOk f'/\∀ h,E 16 [f.v,.d (u64 now)] h=some (.tup [f'.v,.d (fw l)],h)
 h17:∀ a b:Vw,a.ok->∀ h,E 17 [a.v,b.v] h=some (bl (a.same b),h)
 h19:∀ f:Fd,FdOk f->∃ g:Fd,(∀ h,E 19 [f.v] h=some (g.v,h))/\∀ h,E 18 [f.v,g.v] h=some (bl true,h)
 h33:∀ a' a b:Vw,a'.ok->(∀ p∈a'.policies.l,p.wf big)->a.ok->b.ok->(∀ p∈b.policies.l,p.wf big)->bf a=true->bf b=true->a'.nf=a.nf →
  ∃ x:Vw,x.ok/\(∀ p∈x.policies.l,p.wf big)/\x.nf=b.nf/\∀ h,E 33 [a'.v,ag (bP a b).c] h=some (.tup [x.v,.d (i64 0)],h)
def Vy:List (Nat×QF):=[(3,r14)]
def lY:FuncId->Option QF:=gM Vy
def fV (f:FuncId):Bool:=Nat.beq 3 f
theorem cj4:lY 3=some r14:=by kernel_rfl
theorem cj5:fV 3=true:=by kernel_rfl
structure M5 (c:Cfg) (f:Fd) (t:Sbs) (n:Nde) (bs:List Blk):Prop where
 c:ai bs 0=some (c.c.map .d)
 f:ai bs 1=some (f.c.map .d)
 t:ai bs 3=some (t.c.map .d)
 n:ai bs 4=some (n.c.map .d)
theorem M5.lay {c:Cfg}{f:Fd}{t:Sbs}{n:Nde}{bs:List Blk}(h:M5 c f t n bs)(ys:List Blk):M5 c f t n (bs++ys):=⟨az h.c,az h.f,az h.t,az h.n⟩
theorem M5.setc {c c':Cfg}{f:Fd}{t:Sbs}{n:Nde}{bs:List Blk}(h:M5 c f t n bs):M5 c' f t n (bs.set 0 (.cells (c'.c.map .d))) :=
 ⟨iH h.c,(fC (by decide)).trans h.f,(fC (by decide)).trans h.t,(fC (by decide)).trans h.n⟩
theorem M5.setf {c:Cfg}{f f':Fd}{t:Sbs}{n:Nde}{bs:List Blk}(h:M5 c f t n bs):M5 c f' t n (bs.set 1 (.cells (f'.c.map .d))) :=
 ⟨(fC (by decide)).trans h.c,iH h.f,(fC (by decide)).trans h.t,(fC (by decide)).trans h.n⟩
theorem M5.setn {c:Cfg}{f:Fd}{t:Sbs}{n n':Nde}{bs:List Blk}(h:M5 c f t n bs):M5 c f t n' (bs.set 4 (.cells (n'.c.map .d))) :=
 ⟨(fC (by decide)).trans h.c,(fC (by decide)).trans h.f,(fC (by decide)).trans h.t,iH h.n⟩
theorem Ey (x:Cfg):List.drop 8 (x.c.map V.d)=[]:=(rfl)
theorem mP (x:Fd):List.drop 22 (x.c.map V.d)=[]:=(rfl)
section
variable {E:Calls'}(H:EndsH E)
include H in
theorem WC {l:Sl Edt}(hl:l.l.length<=50)(hw:∀ e∈l.l,e.wf 1048576/\e.wf big){v:Vw}(t:Sbs)(n:Nde)(w3 w14:V):∀ (m i:Nat) (c:Cfg) (f:Fd) (bs:List Blk) (lo:Nat),i+m=l.l.length->CfgOk c->bG c=true->FdOk f->OutF 1 1 v f->M5 c f t n bs →
 (∃ bs' lo',Cd E lY fV (.loop [1,3,4,9,12,13,14,15] kP) [(1,.d (l.d Edt.c)),(3,w3),(4,.ptr 0 0),(9,.ptr 1 0),(12,.ptr 3 0),(13,.ptr 4 0),(14,w14),(15,.d (i64 i))] ⟨bs,lo⟩=some (.ret,[(8,bl true)],⟨bs',lo'⟩)) ∨
 (∃ c' f' bs' lo',Cd E lY fV (.loop [1,3,4,9,12,13,14,15] kP) [(1,.d (l.d Edt.c)),(3,w3),(4,.ptr 0 0),(9,.ptr 1 0),(12,.ptr 3 0),(13,.ptr 4 0),(14,w14),(15,.d (i64 i))] ⟨bs,lo⟩=some (.exit 0,[(3,w3),(4,.ptr 0 0),(9,.ptr 1 0),(12,.ptr 3 0),(13,.ptr 4 0),(14,w14)],⟨bs',lo'⟩) ∧
  CfgOk c'/\bG c'=true/\FdOk f'/\OutF 1 1 v f'/\M5 c' f' t n bs'):=by
 intro m;have key:=ak (E:=E) (T:=lY) (val:=fV) [1,3,4,9,12,13,14,15] kP;generalize Cd E lY fV (.loop [1,3,4,9,12,13,14,15] kP)=W at key ⊢;have X:∀ f,lY f=none->∀ a h,Sm E lY fV f a h=E f a h:=λf hf a h=>aL hf;have n7:=λh=>(X 7 (by kernel_rfl) _ _).trans (H.h7 h)
 induction m with
 | zero =>
  intro i c f bs lo hi hc hm hf ho hM;refine .inr ⟨c,f,bs,lo,?_,hc,hm,hf,ho,hM⟩;rw [key];simp [kP,show ¬ ((i:Int)<l.l.length) from by omega]
 | succ m ih =>
  intro i c f bs lo hi hc hm hf ho hM;have h1:i<l.l.length:=by omega
  have hx:=λh=>aK (z:=21) h (ab h1) (cells:=Edt.c) rfl;have hwn:=aA h1 (show l.l.length<2 ^ 62 by omega);obtain ⟨he1,he2⟩:=hw _ (bh h1);generalize l.l[i]=e at *;obtain ⟨b,hb⟩:=H.h10 e he2;have n10:=λh=>(X 10 (by kernel_rfl) _ _).trans (hb h);have hne0:=aI hM.n;have hne:bs≠[]:=by rintro rfl; simp at hne0
  have hlt:((i:Int)<l.l.length):=by omega
  have g0:=λys=>az (ys:=ys) hM.c;have g1:=λys=>az (ys:=ys) hM.f;cases b with
  | true =>
   refine .inl ⟨bs,lo,?_⟩;rw [key];simp [kP,hx,n10,n7,hlt]
  | false =>
   have n11:=λh=>(X 11 (by kernel_rfl) _ _).trans (H.h11 c hc e he1 he2 h);by_cases hk:(eY c e).2=0
   . have hd:CfgOk (eY c e).1:=⟨I8 hc.w1 he1 (by decide) hk⟩;have hdm:=(Aj hk).2.1;obtain ⟨f',l',gg,hf',hn⟩:=H.h12 f hf (by rw [ho.out]; decide) (eY c e).1 hd 1;obtain ⟨ho',rfl⟩:=ho.changed gg;have n12:=λh=>(X 12 (by kernel_rfl) _ _).trans (hn h);generalize (eY c e).1=d at *;generalize (eY c e).2=k at *;subst hk;have M':M5 d f' t n (((bs++[Blk.cells (d.c.map .d)]).set 0 (.cells (d.c.map .d))).set 1 (.cells (f'.c.map .d))):=((hM.lay _).setc).setf;have q:=ih (i+1) d f' _ (min (min lo bs.length) 0) (by omega) hd hdm hf' ho' M';have hpl:fw []=.slice true []:=rfl;have e0:∀ ys X,ai ((bs++ys).set 0 (.cells X)) 0=some X:=λys X=>iH (g0 ys);have e1:∀ ys X,ai ((bs++ys).set 0 (.cells X)) 1=some (f.c.map .d):=λys X=>(fC (by decide)).trans (g1 ys);obtain ⟨bs',lo',q⟩ | ⟨c',f'',bs',lo',q,q1⟩:=q
     . refine .inl ⟨bs',lo',?_⟩;rw [key];simp [kP,hx,n10,n11,n12,g0,e0,e1,hM.c,hlt,hwn,hpl,Ey,mP,ay,ae,bv,Tr.spares,List.range,List.range.loop,hne];simpa using q
     . refine .inr ⟨c',f'',bs',lo',?_,q1⟩;rw [key];simp [kP,hx,n10,n11,n12,g0,e0,e1,hM.c,hlt,hwn,hpl,Ey,mP,ay,ae,bv,Tr.spares,List.range,List.range.loop,hne];simpa using q
   . obtain ⟨f',l',gg,hf',hn⟩:=H.h12 f hf (by rw [ho.out]; decide) c hc 1;obtain ⟨ho',rfl⟩:=ho.changed gg;have n12:=λh=>(X 12 (by kernel_rfl) _ _).trans (hn h);generalize (eY c e).1=d at *;generalize (eY c e).2=k at *;have M':M5 c f' t n ((bs++[Blk.cells (d.c.map .d)]).set 1 (.cells (f'.c.map .d))):=(hM.lay _).setf;have q:=ih (i+1) c f' _ (min (min lo bs.length) 1) (by omega) hc hm hf' ho' M';have hpl:fw []=.slice true []:=rfl;obtain ⟨bs',lo',q⟩ | ⟨c',f'',bs',lo',q,q1⟩:=q
     . refine .inl ⟨bs',lo',?_⟩;rw [key];simp [kP,hx,n10,n11,n12,hk,g0,g1,hM.c,hlt,hwn,hpl,mP,ay,ae,bv,Tr.spares,List.range,List.range.loop,hne];simpa using q
     . refine .inr ⟨c',f'',bs',lo',?_,q1⟩;rw [key];simp [kP,hx,n10,n11,n12,hk,g0,g1,hM.c,hlt,hwn,hpl,mP,ay,ae,bv,Tr.spares,List.range,List.range.loop,hne];simpa using q
include H in
theorem P7 {c:Cfg}{f:Fd}{t:Sbs}{n:Nde}{bs:List Blk}(hM:M5 c f t n bs)(w3:V)(i:Nat)(hi:i<2){p:Psh}{x base:Vw}(h1:p.inc=n.inc)(h2:¬ p.seq<n.seq)
 (hc:(n.whole=false/\p.upon=0/\base=vw0)\/(n.whole=true/\p.seq≠n.seq/\p.upon≠0/\p.upon=n.seq/\base=n.v)) (k33:∀ h,E 33 [base.v,ag p.delta.c] h=some (.tup [x.v,.d (i64 0)],h))
 {f':Fd} {l':List Psh} (k14:∀ h,E 14 [f.v,c.v,.d (u64 2),ag (Ack.c ⟨p.life,p.inc,p.seq,1⟩)] h=some (.tup [f'.v,.d (fw l')],h)) (lo:Nat) :
 ∃ bs' lo',M5 c f' t ⟨n.inc,n.asked,p.seq,x,true⟩ bs'/\Cd E lY fV (.loop [3,4,9,13,14,20] jN) [(3,w3),(4,.ptr 0 0),(9,.ptr 1 0),(13,.ptr 4 0),(14,.d (fw [p])),(20,.d (i64 i))] ⟨bs,lo⟩ =
  Cd E lY fV (.loop [3,4,9,13,14,20] jN) [(3,w3),(4,.ptr 0 0),(9,.ptr 1 0),(13,.ptr 4 0),(14,.d (fw l')),(20,.d (i64 (i+1:Nat)))] ⟨bs',lo'⟩:=by
 have key:=ak (E:=E) (T:=lY) (val:=fV) [3,4,9,13,14,20] jN;generalize Cd E lY fV (.loop [3,4,9,13,14,20] jN)=W at key ⊢;have X:∀ f,lY f=none->∀ a h,Sm E lY fV f a h=E f a h:=λf hf a h=>aL hf;obtain ⟨b1,b2,b3,b4,F,k13⟩:=H.h13 bs 4 n hM.n p x base h1 h2 hc k33;have n13:=λlo=>(X 13 (by kernel_rfl) _ _).trans (k13 lo);have n14:=λh=>(X 14 (by kernel_rfl) _ _).trans (k14 h);have hx:∀ h,iB none 14 (.d (Sl.d Psh.c ⟨false,[p]⟩)) (.d (.int .i64 0)) h=some (.eptr p.c 0,h):=λh=>aK (z:=14) h (s:=(⟨false,[p]⟩:Sl Psh)) (k:=0) (e:=p) rfl (cells:=Psh.c) rfl;have hpd:fw [p]=(⟨false,[p]⟩:Sl Psh).d Psh.c:=rfl;have hlt:((i:Int)<2):=by omega
 have hwn:=aA (n:=2) hi (by decide);have hM2:=(hM.setn (n':=⟨n.inc,n.asked,p.seq,x,true⟩)).lay [b1,b2,b3,b4,.cells ((Ack.c ⟨p.life,p.inc,p.seq,1⟩).map .d)];have ga:ai (bs.set 4 (.cells (Nde.c ⟨n.inc,n.asked,p.seq,x,true⟩ |>.map .d))++[b1,b2,b3,b4,.cells ((Ack.c ⟨p.life,p.inc,p.seq,1⟩).map .d)]) (bs.length+4)=some ((Ack.c ⟨p.life,p.inc,p.seq,1⟩).map .d):=by
  unfold ai;rw [bk (by simp)];simp
 have s1:sub (Ack.c ⟨p.life,p.inc,p.seq,1⟩) 3 1=some [i64 1]:=rfl;have s3:sub p.c 0 14=some p.c:=rfl;have s2:sub (Ack.c ⟨p.life,p.inc,p.seq,1⟩) 0 4=some (Ack.c ⟨p.life,p.inc,p.seq,1⟩):=rfl;have hr:∀ r h,iB none 4 (.row r 0 1 (some 1) 4) (.d (.int .i64 0)) h=some (.ptr r 0,h):=λr h=>by simp [iB]
 have g0:=hM2.c;have g1:=hM2.f;refine ⟨_,min (F lo) 1,hM2.setf (f':=f'),?_⟩;rw [key,hpd];simp [jN,hlt,hx,n13,n14,ga,s1,s2,s3,hr,g0,g1,mP,hwn,ay,ae,bv,Tr.spares,List.range,List.range.loop,au]
theorem P8 {bs:List Blk}(w3:V)(i:Nat)(hi:i<=2)(lo:Nat) :
 Cd E lY fV (.loop [3,4,9,13,14,20] jN) [(3,w3),(4,.ptr 0 0),(9,.ptr 1 0),(13,.ptr 4 0),(14,.d (fw [])),(20,.d (i64 i))] ⟨bs,lo⟩=some (.exit 2,[(3,w3),(4,.ptr 0 0),(9,.ptr 1 0),(13,.ptr 4 0),(14,.d (fw []))],⟨bs,lo⟩):=by
 have key:=ak (E:=E) (T:=lY) (val:=fV) [3,4,9,13,14,20] jN;generalize Cd E lY fV (.loop [3,4,9,13,14,20] jN)=W at key ⊢;have hpd:fw []=.slice true []:=rfl;rw [key,hpd];by_cases hlt:((i:Int)<2)
 . simp [jN,hlt,au]
 . simp [jN,hlt,au]
include H in
theorem WE {c:Cfg}{f:Fd}{m:Sl Int}{n:Nde}{v:Vw}{bs:List Blk}(hM:M5 c f ⟨1,2,m⟩ n bs)(w3:V)(hc:CfgOk c)(hcm:bG c=true)(hs:bJ ⟨2,m⟩=true)(hf:FdOk f)(ho:OutF 2 1 v f)(ha:f.addrs=m)
 (hv:v.ok) (hvw:∀ p∈v.policies.l,p.wf big) (hvm:bf v=true) (hn1:n.inc=1) (hn2:n.seq=0) (hn3:n.whole=false) (lo:Nat) :
 ∃ f' n' v1 bs' lo',Cd E lY fV (.loop [3,4,9,13,14,20] jN) [(3,w3),(4,.ptr 0 0),(9,.ptr 1 0),(13,.ptr 4 0),(14,.d (fw [⟨1,1,1,0,bP vw0 v⟩])),(20,.d (i64 (0:Nat)))] ⟨bs,lo⟩=some (.exit 2,[(3,w3),(4,.ptr 0 0),(9,.ptr 1 0),(13,.ptr 4 0),(14,.d (fw []))],⟨bs',lo'⟩) ∧
  M5 c f' ⟨1,2,m⟩ n' bs'/\FdOk f'/\f'.out=0/\OfR c ⟨2,m⟩ v1 0/\n'.v.ok/\n'.v.nf=v1.nf:=by
 obtain ⟨x,x1,x2,x3,x4⟩:=H.h33 vw0 vw0 v o9 (λp hp=>by cases hp) o9 hv hvw FT hvm rfl;obtain ⟨f1,l1,g1,hf1,k1⟩:=H.h14 f hf c hc 2 ⟨1,1,1,1⟩;obtain ⟨v1,hO,q⟩:=ho.acked hf ha g1 hcm hs hvm (by decide);obtain ⟨b1,lo1,M1,e1⟩:=P7 H hM w3 0 (by decide) (p:=⟨1,1,1,0,bP vw0 v⟩) (x:=x) (base:=vw0) (by rw [hn1]) (by rw [hn2]; show ¬ (1:Int)<0; decide) (.inl ⟨hn3,rfl,rfl⟩) x4 k1 lo;obtain ⟨ov1,wv1,mv1⟩:=hO.of hc;obtain ⟨q1,q2,rfl⟩ | ⟨q1,q2,b,ob,wb,hbn,rfl⟩:=q
 . exact ⟨f1,_,v1,b1,lo1,e1.trans (P8 (E:=E) w3 1 (by decide) lo1),M1,hf1,q2,hO,x1,x3.trans q1⟩
 . have mb:bf b=true:=by rw [← jL b,hbn,jL,hvm]
   obtain ⟨y,y1,y2,y3,y4⟩:=H.h33 x b v1 x1 x2 ob ov1 wv1 mb (mv1 rfl) (x3.trans hbn.symm);obtain ⟨f2,l2,g2,hf2,k2⟩:=H.h14 f1 hf1 c hc 2 ⟨1,1,1+1,1⟩;obtain ⟨z1,rfl⟩:=q2.acked2 hf1 q1 g2 hcm hs (mv1 rfl) (by decide) hO;obtain ⟨b2,lo2,M2,e2⟩:=P7 H M1 w3 1 (by decide) (p:=⟨1,1,1+1,1,bP b v1⟩) (x:=y) (base:=x) (by rw [hn1]) (by show ¬ (1+1:Int)<1; decide) (.inr ⟨rfl,by show (1+1:Int)≠1; decide,by show (1:Int)≠0; decide,rfl,rfl⟩) y4 k2 lo1;exact ⟨f2,_,v1,b2,lo2,e1.trans (e2.trans (P8 (E:=E) w3 2 (by decide) lo2)),M2,hf2,z1,hO,y1,y3⟩
include H in
set_option maxHeartbeats 2000000 in
theorem R14 (c:Cfg)(hc:CfgOk c)(l:Sl Edt)(hll:l.l.length<2 ^ 62)(hw:∀ e∈l.l,e.wf 1048576/\e.wf big)(a m:Sl Int)(ha:short a)(hm:short m)(h:Hp) :
 Sm E lY fV 3 [c.v,.d (l.d Edt.c),.d (a.d aV),.d (m.d aV)] h=some (bl true,h):=by
 have X:∀ f,lY f=none->∀ a h,Sm E lY fV f a h=E f a h:=λf hf a h=>aL hf;have n4:=λh=>(X 4 (by kernel_rfl) _ _).trans (H.h4 h);obtain ⟨b5,n5⟩:=H.h5 c hc.ok;have n5:=λh=>(X 5 (by kernel_rfl) _ _).trans (n5 h);have n6:=λh=>(X 6 (by kernel_rfl) _ _).trans (H.h6 c hc h);have n7:=λh=>(X 7 (by kernel_rfl) _ _).trans (H.h7 h);have n8:=λh=>(X 8 (by kernel_rfl) _ _).trans (H.h8 ⟨1,1,a⟩ ha h);have n8':=λh=>(X 8 (by kernel_rfl) _ _).trans (H.h8 ⟨1,2,m⟩ hm h);have y22:=z22 fdNew;have hS1:∀ q:Int,(Sbs.c ⟨1,q,a⟩).map V.d=[.d (.int .u64 1),.d (.int .u64 q),.d (a.d aV)]:=λ_=>rfl;have hS2:∀ q:Int,(Sbs.c ⟨1,q,m⟩).map V.d=[.d (.int .u64 1),.d (.int .u64 q),.d (m.d aV)]:=λ_=>rfl;simp only [ag,hS1,hS2] at n8 n8';rw [aN cj4 cj5];cases b5 with
 | true=>simp +decide [aa,r14,n4,n5,n7,y22,au]
 | false =>
 cases hcm:bG c with
 | false =>
  rw [hcm] at n6;simp +decide [aa,r14,n4,n5,n6,n7,y22,au]
 | true =>
 rw [hcm] at n6;by_cases h1:(l.l.length:Int)>50
 . simp +decide [aa,r14,n4,n5,n6,n7,y22,h1,au]
 by_cases h2:(a.l.length:Int)>100
 . simp +decide [aa,r14,n4,n5,n6,n7,y22,h1,h2,au]
 by_cases h3:(m.l.length:Int)>100
 . simp +decide [aa,r14,n4,n5,n6,n7,y22,h1,h2,h3,au]
 cases hs1:iD ⟨1,1,a⟩ with
 | false =>
  rw [hs1] at n8;simp +decide [aa,r14,n4,n5,n6,n7,n8,h1,h2,h3,aC,put,storeAt,au]
 | true =>
 rw [hs1] at n8;cases hs2:iD ⟨1,2,m⟩ with
 | false =>
  rw [hs2] at n8';simp +decide [aa,r14,n4,n5,n6,n7,n8,n8',h1,h2,h3,aC,put,storeAt,au]
 | true =>
 rw [hs2] at n8';have hfn:FdOk fdNew:=⟨⟨by decide,λ_=>rfl⟩,o9,(λp hp=>by cases hp),o9,(λp hp=>by cases hp)⟩;obtain ⟨f1,l1,g9,hf1,k9⟩:=H.h9 fdNew hfn c hc 0 ⟨1,1,a⟩ ha;obtain ⟨v,hO,ho,rfl⟩:=DW g9 hcm hs1;obtain ⟨ov,wv,mv⟩:=hO.of hc;have n9:=λh=>(X 9 (by kernel_rfl) _ _).trans (k9 h);have e9:∀ q (x:Sl Int),ag (Sbs.c ⟨1,q,x⟩)=.agg [.d (.int .u64 1),.d (.int .u64 q),.d (x.d aV)]:=λ_ _=>rfl;simp only [e9] at n9;have hN:(Nde.c ⟨1,0,0,vw0,false⟩).map V.d=[.d (.int .u64 1),.d (.int .u64 0),.d (.int .u64 0),.d (.int .u64 0),.d (.slice true []),.d (.slice true []),.d (.slice true []),.d (.slice true []),.d (.slice true []),.d (.bool false)]:=rfl;have q:=WC H (l:=l) (by omega) hw (v:=v) ⟨1,2,m⟩ ⟨1,0,0,vw0,false⟩ (.d (m.d aV)) (.d (fw [⟨1,1,1,0,bP vw0 v⟩])) l.l.length 0 c f1 [.cells (c.c.map .d),.cells (f1.c.map .d),.cells ((Sbs.c ⟨1,1,a⟩).map .d),.cells ((Sbs.c ⟨1,2,m⟩).map .d),.cells ((Nde.c ⟨1,0,0,vw0,false⟩).map .d)] 0 (by omega) hc hcm hf1 ho ⟨rfl,rfl,rfl,rfl⟩;have ez:((0:Nat):Int)=0:=rfl;simp only [hS1,hS2,hN,ez] at q;simp +decide [aa,r14,n4,n5,n6,n8,n8',n9,h1,h2,h3,aC,put,storeAt,mP,au];rw [aj];have hpn:fw []=.slice true []:=rfl;obtain ⟨bs',lo',q⟩ | ⟨c',f',bs',lo',q,hc',hcm',hf',ho',hM⟩:=q
 . simp [q]
 obtain ⟨f2,l2,g9',hf2,k9'⟩:=H.h9 f' hf' c' hc' 1 ⟨1,2,m⟩ hm;obtain ⟨ho2,ha2,rfl⟩:=ho'.asks g9' hs2;have n9':=λh=>(X 9 (by kernel_rfl) _ _).trans (k9' h);simp only [e9] at n9';obtain ⟨f3,n3,v1,bs3,lo3,q2,hM3,hf3,ho3,hO3,ov3,hv3⟩:=WE H (hM.setf (f':=f2)) (.d (m.d aV)) hc' hcm' (j5 hs2) hf2 ho2 ha2 ov wv (mv rfl) rfl rfl rfl (min lo' 1);obtain ⟨v2,e2,hO2,k15⟩:=H.h15 c' hc' ⟨2,m⟩ hm;obtain ⟨rfl,_⟩:=hO2.yes hcm' (j5 hs2);have n15:=λh=>(X 15 (by kernel_rfl) _ _).trans (k15 h);obtain ⟨ft,lt,gt,hft,k16⟩:=H.h16 f3 hf3 100;have n16:=λh=>(X 16 (by kernel_rfl) _ _).trans (k16 h);obtain rfl:=Ir gt ho3;have n17:=λh=>(X 17 (by kernel_rfl) _ _).trans (H.h17 n3.v v2 ov3 h);rw [Vw.same_iff.2 (hv3.trans (hO3.one hO2 hcm' (j5 hs2)))] at n17;obtain ⟨g,k19,k18⟩:=H.h19 f3 hf3;have n19:=λh=>(X 19 (by kernel_rfl) _ _).trans (k19 h);have n18:=λh=>(X 18 (by kernel_rfl) _ _).trans (k18 h);have g0:=hM.c;have g1:=hM.f;have g3:=hM.t;rw [hS2] at g3;have j1:=λys=>az (ys:=ys) hM3.f;have j4:=λys=>az (ys:=ys) hM3.n;have ga:∀ X ys,ai (bs3++Blk.cells X::ys) bs3.length=some X:=λX ys=>by unfold ai; rw [bk (bp _)]; simp
 have hlp:∀ (p:Psh) h,sZ false (.d (fw [p])) h=some (.d (.int .i64 1),h):=λp h=>by simp [fw,Sl.d,sZ,V.len]
 rw [hpn] at n9' q2 n16;simp [q,n9',hlp,g0,g1,g3,mP,au];rw [aj];simp only [ez] at q2;simp [q2,n15,n16,n17,n18,n19,n7,hM3.c,j1,j4,ga,SV,aC,put,ay,ae];rw [if_pos (av (by simp [Tr.mute]))];simp
end
end
section
variable {E:Calls'}
theorem Source.cp_nf (s:Source):s.cp.nf=s.nf:=rfl
theorem Target.cp_nf (s:Target):s.cp.nf=s.nf:=rfl
theorem When.cp_nf (s:When):s.cp.nf=s.nf:=rfl
theorem Rule.cp_nf (r:Rule):r.cp.nf=r.nf:=by
 simp [Rule.cp,Rule.nf,Sl.nf,uI,cm,Source.cp_nf,Target.cp_nf,When.cp_nf]
theorem Pol.cp_nf (p:Pol):p.cp.nf=p.nf:=by
 simp [Pol.cp,Pol.nf,Sl.nf,uI,cm,Rule.cp_nf]
theorem Cfg.cp_nf (c:Cfg):c.cp.nf=c.nf:=by
 simp [Cfg.cp,Cfg.nf,Sl.nf,iG,uI,cm,Pol.cp_nf]
def Vw.own17 (v:Vw):Vw:=⟨v.epoch,iG v.covers,iG v.pods,iG v.services,iG v.bound,uI (v.policies.l.map Pol.cp)⟩
def Fd.own18 (f:Fd):Fd:={ f with addrs:=iG f.addrs,sent:=f.sent.own17,base:=f.base.own17 }
def vcf (v:Vw):Cfg:=⟨0,0,0,0,v.pods,v.services,v.bound,v.policies⟩
theorem L9 {v:Vw}(h:v.ok):(vcf v).ok:=h.2
theorem PQ (v:Vw):vcf v.own17=(vcf v).cp:=rfl
structure DocE (E:Calls'):Prop where
 e139:∀ c:Cfg,c.ok->∀ h,E 139 [c.v] h=some (ag c.cp.c,h)
 e138:∀ a b:Cfg,a.ok->∀ h,E 138 [a.v,b.v] h=some (bl (a.same b),h)
def ai8:List (Nat×QF):=[(68,r61),(67,r53),(19,r78),(18,r81)]
def TD8:FuncId->Option QF:=gM ai8
def jK (f:FuncId):Bool:=[68,67,19,18].any λn=>Nat.beq n f
theorem d68:TD8 68=some r61:=by kernel_rfl
theorem d67:TD8 67=some r53:=by kernel_rfl
theorem d19:TD8 19=some r78:=by kernel_rfl
theorem d18:TD8 18=some r81:=by kernel_rfl
theorem bt1:jK 68=true:=by kernel_rfl
theorem bt0:jK 67=true:=by kernel_rfl
theorem bs9:jK 19=true:=by kernel_rfl
theorem bs8:jK 18=true:=by kernel_rfl
theorem S61 (hE:DocE E)(v:Vw)(hv:v.ok)(h:Hp):Sm E TD8 jK 68 [v.v] h=some (v.own17.v,h):=by
 have n1:=λh=>(aL (E:=E) (T:=TD8) (val:=jK) (f:=139) (by kernel_rfl)).trans (hE.e139 (vcf v) (L9 hv) h);have hcv:(vcf v).v=.agg [.d (.int .u64 0),.d (.int .u64 0),.d (i64 0),.d (i64 0),.d (v.pods.d Pod.c),.d (v.services.d Svc.c),.d (v.bound.d Way.c),.d (v.policies.d Pol.c)]:=rfl;rw [hcv] at n1;obtain ⟨x,bs,a,l,k,r,u⟩:=Jr (cells:=aV) (z:=1) (by_:=4) (λ_=>rfl) (by decide) (by decide) hv.1 [.cells (v.c.map .d),.cells [.d (.int .u64 0),.d (.slice true []),.d (.slice true []),.d (.slice true []),.d (.slice true []),.d (.slice true [])],.cells ((vcf v).cp.c.map .d)];have g1:ai bs 1=some [.d (.int .u64 0),.d (.slice true []),.d (.slice true []),.d (.slice true []),.d (.slice true []),.d (.slice true [])]:=by unfold ai; rw [k 1 (by simp)]; rfl
 have g2:ai bs 2=some ((vcf v).cp.c.map .d):=by unfold ai; rw [k 2 (by simp)]; rfl
 have hx:x≠.d (.slice true []):=by rintro rfl; exact absurd (u 0 (by simp)) (by simp [V.under])
 rw [aN d68 bt1];have rc:=r.cl;simp at a;simp [aa,r61,rc,put,n1,a,g1,g2,aC,ay,bv,Tr.spares,List.range,List.range.loop];have gs:∀ X,ai (bs.set 1 (.cells X)) 1=some X:=λX=>iH g1;have dat:=λX=>(r.on (bs':=bs.set 1 (.cells X)) (λy h1 h2=>ac (by simp at h1; omega))).datN hx 0 7;simp [gs,sub,aY,eZ,dat,Vw.own17,vcf,Cfg.cp,Sl.d,iG];rfl
theorem L53 (hE:DocE E)(a b:Vw)(hab:a.covers.l=b.covers.l)(hl:a.covers.l.length<2 ^ 62)(M:List Blk)(h0:ai M 0=some (a.c.map .d))(h1:ai M 1=some (b.c.map .d))(lo:Nat) :
 Cd E TD8 jK (.loop [2,3,5] wQ) [(2,.ptr 0 0),(3,.ptr 1 0),(5,.d (i64 ((0:Nat):Int)))] ⟨M,lo⟩=some (.exit 0,[(2,.ptr 0 0),(3,.ptr 1 0)],⟨M,lo⟩):=by
 have key:=mG (E:=E) (T:=TD8) (val:=jK) (keep:=[2,3,5]) (body:=wQ) a.covers.l (λ_=>true) (λi=>[(2,.ptr 0 0),(3,.ptr 1 0),(5,.d (i64 i))]) ⟨M,lo⟩ (.ret,[(4,bl false)],⟨M,lo⟩) (.exit 0,[(2,.ptr 0 0),(3,.ptr 1 0)],⟨M,lo⟩) (λi x hx hi W=>?_) (λW=>?_)
 . have ht:(a.covers.l.all λ_=>true)=true:=ck.2 λ_ _=>rfl;rw [ht] at key;simpa using key
 . have hsx:=λh=>aK (z:=1) h hx (cells:=aV) rfl;have hsy:=λh=>aK (z:=1) h (s:=b.covers) (hab ▸ hx) (cells:=aV) rfl;have hw:=aA hi hl;have hlt:((i:Int)<a.covers.l.length):=by omega
   simp [wQ,h0,h1,hsx,hsy,hlt,hw,aV]
 . simp [wQ,h0,hab]
theorem S53 (hE:DocE E)(a:Vw)(ha:a.ok)(h:Hp):Sm E TD8 jK 67 [a.v,a.own17.v] h=some (bl true,h):=by
 have n1:=λh=>(aL (E:=E) (T:=TD8) (val:=jK) (f:=138) (by kernel_rfl)).trans (hE.e138 (vcf a) (vcf a.own17) (L9 ha) h);rw [Cfg.same_iff.2 (by rw [PQ]; exact (Cfg.cp_nf _).symm)] at n1;have hcv:∀ v:Vw,(vcf v).v=.agg [.d (.int .u64 0),.d (.int .u64 0),.d (i64 0),.d (i64 0),.d (v.pods.d Pod.c),.d (v.services.d Svc.c),.d (v.bound.d Way.c),.d (v.policies.d Pol.c)]:=λ_=>rfl;simp only [hcv] at n1;have q:=L53 hE a a.own17 rfl (cf ha.1.1 (by decide)) [.cells (a.c.map .d),.cells (a.own17.c.map .d)] rfl rfl 0;have ez:((0:Nat):Int)=0:=rfl;rw [ez] at q;have hl:a.own17.covers.l=a.covers.l:=rfl;have he:a.own17.epoch=a.epoch:=rfl;rw [aN d67 bt0];simp +decide [aa,r53,hl,he,au];rw [aj];simp [q,n1,aC,put]
def fq (f:Fd)(x:V)(s b:Vw):List V:=.d (i64 f.node)::.d (u64 f.life)::.d (u64 f.inc)::.d (u64 f.asked)::x::.d (u64 f.seq)::.d (i64 f.out)::(s.c.map .d++(.d (u64 f.upon)::(b.c.map .d++[.d (u64 f.since),.d (u64 f.epochs)])))
section
variable {f:Fd}{x y:V}{s b t:Vw}
theorem XY:f.c.map .d=fq f (.d (f.addrs.d aV)) f.sent f.base:=(rfl)
theorem X3:sub (fq f x s b) 4 1=some [x]:=(rfl)
theorem XZ:put (fq f x s b) 4 [y]=some (fq f y s b):=(rfl)
theorem X4:sub (fq f x s b) 7 6=some (s.c.map .d):=(rfl)
theorem X0:put (fq f x s b) 7 (t.c.map .d)=some (fq f x t b):=(rfl)
theorem R5:sub (fq f x s b) 14 6=some (b.c.map .d):=(rfl)
theorem R4:put (fq f x s b) 14 (t.c.map .d)=some (fq f x s t):=(rfl)
theorem RZ:sub (fq f x s b) 0 22=some (fq f x s b):=(rfl)
theorem R3:(fq f x s b).length=22:=(rfl)
theorem bt8:put fdZ 0 (fq f x s b)=some (fq f x s b):=(rfl)
end
theorem S78 (hE:DocE E)(f:Fd)(hf:FdOk f)(h:Hp):Sm E TD8 jK 19 [f.v] h=some (f.own18.v,h):=by
 have n1:∀ h,Sm E TD8 jK 68 [ag f.sent.c] h=some (ag f.sent.own17.c,h):=λh=>S61 hE f.sent hf.sent h;have n2:∀ h,Sm E TD8 jK 68 [ag f.base.c] h=some (ag f.base.own17.c,h):=λh=>S61 hE f.base hf.base h;have y22:=λx s b=>bt8 (f:=f) (x:=x) (s:=s) (b:=b);obtain ⟨x,bs,a,l,k,r,u⟩:=Jr (cells:=aV) (z:=1) (by_:=4) (λ_=>rfl) (by decide) (by decide) hf.addrs [.cells (fq f (.d (f.addrs.d aV)) f.sent f.base),.cells fdZ];have g0:ai bs 0=some (fq f (.d (f.addrs.d aV)) f.sent f.base):=by unfold ai; rw [k 0 (by simp)]; rfl
 have g1:ai bs 1=some fdZ:=by unfold ai; rw [k 1 (by simp)]; rfl
 have hx:x≠.d (.slice true []):=by rintro rfl; exact absurd (u 0 (by simp)) (by simp [V.under])
 have rc:=r.cl;have s0:∀ X,ai (bs.set 0 (.cells X)) 0=some X:=λX=>iH g0;have s1:∀ X,ai (bs.set 0 (.cells X)) 1=some fdZ:=λX=>(fC (by decide)).trans g1;have s2:∀ X Y,ai ((bs.set 0 (.cells X)).set 1 (.cells Y)) 1=some Y:=λX Y=>iH (s1 X);rw [aN d19 bs9];simp [fdZ] at a;simp [fdZ] at g1 s1;simp only [fdZ] at y22;simp [aa,r78,XY,n1,n2,a,g0,s0,s1,s2,X3,XZ,X4,X0,R5,R4,RZ,R3,y22,rc,aC];have dat:=λX=>(r.on (bs':=(bs.set 0 (.cells X)).set 1 (.cells X)) (λy h1 h2=>by simp at h1; rw [ac (by omega),ac (by omega)])).datN hx 0 7;have hc:∀ X,eZ ⟨(bs.set 0 (.cells X)).set 1 (.cells X),0⟩ (fq f x f.sent.own17 f.base.own17)=some f.own18.c:=λX=>by
  simp [fq,eZ,Vw.c,dat,Fd.own18,Fd.c,Sl.d,iG]
 rw [hc];simp
theorem L81 (hE:DocE E)(a b:Fd)(hab:a.addrs.l=b.addrs.l)(hl:a.addrs.l.length<2 ^ 62)(M:List Blk)(h0:ai M 0=some (a.c.map .d))(h1:ai M 1=some (b.c.map .d))(lo:Nat) :
 Cd E TD8 jK (.loop [2,3,5] wR) [(2,.ptr 0 0),(3,.ptr 1 0),(5,.d (i64 ((0:Nat):Int)))] ⟨M,lo⟩=some (.exit 0,[(2,.ptr 0 0),(3,.ptr 1 0)],⟨M,lo⟩):=by
 have key:=mG (E:=E) (T:=TD8) (val:=jK) (keep:=[2,3,5]) (body:=wR) a.addrs.l (λ_=>true) (λi=>[(2,.ptr 0 0),(3,.ptr 1 0),(5,.d (i64 i))]) ⟨M,lo⟩ (.ret,[(4,bl false)],⟨M,lo⟩) (.exit 0,[(2,.ptr 0 0),(3,.ptr 1 0)],⟨M,lo⟩) (λi x hx hi W=>?_) (λW=>?_)
 . have ht:(a.addrs.l.all λ_=>true)=true:=ck.2 λ_ _=>rfl;rw [ht] at key;simpa using key
 . have hsx:=λh=>aK (z:=1) h hx (cells:=aV) rfl;have hsy:=λh=>aK (z:=1) h (s:=b.addrs) (hab ▸ hx) (cells:=aV) rfl;have hw:=aA hi hl;have hlt:((i:Int)<a.addrs.l.length):=by omega
   simp [wR,h0,h1,hsx,hsy,hlt,hw,aV]
 . simp [wR,h0,hab]
theorem S81 (hE:DocE E)(f:Fd)(hf:FdOk f)(h:Hp):Sm E TD8 jK 18 [f.v,f.own18.v] h=some (bl true,h):=by
 have n1:=λh=>S53 hE f.sent hf.sent h;have n2:=λh=>S53 hE f.base hf.base h;have q:=L81 hE f f.own18 rfl (cf hf.addrs.1 (by decide)) [.cells (f.c.map .d),.cells (f.own18.c.map .d)] rfl rfl 0;have ez:((0:Nat):Int)=0:=rfl;rw [ez] at q;have e1:f.own18.addrs.l=f.addrs.l:=rfl;have e2:f.own18.node=f.node:=rfl;have e3:f.own18.life=f.life:=rfl;have e4:f.own18.inc=f.inc:=rfl;have e5:f.own18.asked=f.asked:=rfl;have e6:f.own18.seq=f.seq:=rfl;have e7:f.own18.out=f.out:=rfl;have e8:f.own18.upon=f.upon:=rfl;have e9:f.own18.since=f.since:=rfl;have e10:f.own18.epochs=f.epochs:=rfl;have e11:f.own18.sent=f.sent.own17:=rfl;have e12:f.own18.base=f.base.own17:=rfl;rw [aN d18 bs8];simp +decide [aa,r81,e1];rw [aj];simp +decide [q,n1,n2,e2,e3,e4,e5,e6,e7,e8,e9,e10,e11,e12,au]
end
section
section
variable {E:Calls'}(H:FeedH E)
include H in
theorem Rp (x:Fd)(hx:FdOk x)(now:Int)(a0 a1 a2:Blk)(lo:Nat):Sm E TF cB 28 [x.v,.d (u64 now)] ⟨[a0,a1,a2],lo⟩=some (.ptr 4 0,⟨[a0,a1,a2,.cells (x.own.c.map .d),.cells (Fw x.own now)],min lo 3⟩):=by
 have n1:=λh=>dE (E:=E) (T:=TF) (val:=cB) (cells:=aV) EJ EL (by decide) (by decide) (λ_=>rfl) hx.addrs h;have n2:∀ h,Sm E TF cB 34 [x.sent.v] h=some (x.sent.own.v,h):=λh=>by rw [aL CZ]; exact H.h66 x.sent hx.sent h
 have n3:∀ h,Sm E TF cB 34 [x.base.v] h=some (x.base.own.v,h):=λh=>by rw [aL CZ]; exact H.h66 x.base hx.base h
 have e1:({ x with sent:=x.sent.own,base:=x.base.own }:Fd)=x.own:=rfl;have hf:∀ {ev:X->V} {p q:X},ev p=ag x.own.c->ev q=.d (u64 now)->aC ev [.d (i64 0),.d (.int .u64 0),.d (.int .u64 0),.d (.int .u64 0),.d (.slice true []),.d (.int .u64 0),.d (i64 0),.d (.int .u64 0),.d (.slice true []),.d (.slice true []),.d (.slice true []),.d (.slice true []),.d (.slice true []),.d (.int .u64 0),.d (.int .u64 0),.d (.slice true []),.d (.slice true []),.d (.slice true []),.d (.slice true []),.d (.slice true []),.d (.int .u64 0),.d (.int .u64 0),.d (.int .u64 0)] [(0,22,p),(22,1,q)]=some (Fw x.own now):=λhp hq=>vR rfl hp hq;rw [ax JP JS];simp +decide [aa,Hu,n1,n2,n3,e1,hf,ay,ae,V.under]
include H in
theorem Wy (w:Fd)(hw:FdOk w)(c:Cfg)(hc:CfgOk c)(now:Int)(ho:w.out≠0):∃ v e,OfR c ⟨w.node,w.addrs⟩ v e/\∀ a0 a1 a2 a3 lo,Sm E TF cB 30 [.ptr 4 0,c.v] ⟨[a0,a1,a2,a3,.cells (Fw w now)],lo⟩=some (.tup [w.v,.d (.slice true [])],⟨[a0,a1,a2,a3,.cells (Fw w now)],lo⟩):=by
 obtain ⟨v,e,hO,n1⟩:=H51 H c hc ⟨w.node,w.addrs⟩ hw.addrs;have n1':∀ h,Sm E TF cB 15 [c.v,.agg [.d (i64 w.node),.d (w.addrs.d aV)]] h=some (.tup [v.v,.d (i64 e)],h):=n1;have y22:=z22;have y6:=z6v;refine ⟨v,e,hO,λa0 a1 a2 a3 lo=>?_⟩;by_cases h1:e=0
 case neg =>
  rw [ax mE mF];simp +decide [aa,pV,n1',y22,y6,h1,aC,ay,ae,bM,V.under,V.under.go,ed]
 by_cases h2:w.inc=0
 case pos =>
  rw [ax mE mF];simp +decide [aa,pV,n1',y22,y6,h1,h2,aC,ay,ae,bM,V.under,V.under.go,ed]
 rw [ax mE mF];simp +decide [aa,pV,n1',y22,y6,h1,h2,ho,aC,ay,ae,bM,V.under,V.under.go,ed]
theorem bt9:TF 12=some r86:=by kernel_rfl
theorem bu4:cB 12=true:=by kernel_rfl
include H in
theorem F86 (f:Fd)(hf:FdOk f)(c:Cfg)(hc:CfgOk c)(now:Int)(ho:f.out≠0):∃ f' l,GoOn c now f.own f' l/\FdOk f'/\∀ h,Sm E TF cB 12 [f.v,c.v,.d (u64 now)] h=some (.tup [f'.v,.d (fw l)],h):=by
 have n1:=λa0 a1 a2 lo=>Rp H f hf now a0 a1 a2 lo;have hfo:=Fd.own_ok hf;have ho':f.own.out≠0:=ho;obtain ⟨v,e,hO,n2⟩:=Wy H f.own hfo c hc now ho';have y22:=z22;refine ⟨f.own,[],⟨v,e,hO,.inl ⟨by simp [jf,ho],rfl,rfl⟩⟩,hfo,λh=>?_⟩;rw [aN bt9 bu4];simp +decide [aa,r86,n1,n2,y22,ay,ae];rfl
end
section
variable {E:Calls'}
theorem ft4:TF 4=some r79:=by kernel_rfl
theorem fv4:cB 4=true:=by kernel_rfl
theorem F79 (h:Hp):Sm E TF cB 4 [.d (i64 2),.d (.int .u64 1)] h=some (.tup [ag (Fd.c ⟨2,1,0,0,⟨true,[]⟩,0,0,vw0,0,vw0,0,0⟩),.d (i64 0)],h):=by
 have n1:=λh=>QW (E:=E) 1 h;have y22:=z22 ⟨2,1,0,0,⟨true,[]⟩,0,0,vw0,0,vw0,0,0⟩;have e1:(Fd.c ⟨2,1,0,0,⟨true,[]⟩,0,0,vw0,0,vw0,0,0⟩).map V.d=[.d (i64 2),.d (.int .u64 1),.d (.int .u64 0),.d (.int .u64 0),.d (.slice true []),.d (.int .u64 0),.d (i64 0),.d (.int .u64 0),.d (.slice true []),.d (.slice true []),.d (.slice true []),.d (.slice true []),.d (.slice true []),.d (.int .u64 0),.d (.int .u64 0),.d (.slice true []),.d (.slice true []),.d (.slice true []),.d (.slice true []),.d (.slice true []),.d (.int .u64 0),.d (.int .u64 0)]:=rfl;have c1:iU 1=true:=by decide
 rw [c1] at n1;rw [aN ft4 fv4];rw [e1] at y22;simp +decide [aa,r79,n1,aC,put,storeAt,sub,Hp.set,au];rfl
end
end
