/- The law FeedRow: event by event. -/
import Derived.Test.YtjeflmaikicdnaaGreatHc
set_option maxHeartbeats 4000000
set_option maxRecDepth 100000
set_option linter.unusedVariables false
set_option linter.unusedSimpArgs false
namespace Go.Proofs.YtjeflmaikicdnaaGreat
open IntKind (wrap)
section
def sZ (i:Nat)(cs:List Cfg)(al:List (Sl Int))(np:Nat)(ks:List Ack)(n:Nde):Prop:=cs.length<=i+1/\al.length<=i+1/\np<=i/\ks.length<=i/\0<=n.inc/\n.inc<=i+1
section
variable {E:Calls'}(H:RowH E)
def EvO (E:Calls')(L:Int)(l:Sl Evt)(i:Nat)(nb:Nat)(vC vA:V)(now:Int)(vP vK:V)(bs:List Blk)(lo:Nat):Prop :=
 ∃ o' bs' lo' c' f' n' nb' cs' al' ps' ks' vC' vA' vP' vK' now' ls was H',RowM o' bs' c' f' n' nb' cs' al' ps' ks' vC' vA' vP' vK'/\RowI c' cs' al' L f' n' (ps'++ls) H'/\OutI L f' ls/\was<=n'.v.epoch/\sZ (i+1) cs' al' (ps'.length+ls.length) ks' n' ∧
  ∀ W,iw [1,2,3,7,9,10,11,12,13,14,15] W (Cd E dM aW dL (aT [1,2,3,7,9,10,11,12,13,14,15] (iT L l nb vC vA now vP vK i)) ⟨bs,lo⟩) =
   iw [1,2,3,7,9,10,11,12,13,14,15] W (uP E dM aW xw (leave 1 (uP E dM aW xu (leave 3 (Cd E dM aW (.loop [1,2,3,7,9,10,11,12,13,14,15,17,19,25] qW) (kE L l nb' vC' vA' now' vP' vK' i ls was 0) ⟨bs',lo'⟩)))))
variable {L:Int}{l:Sl Evt}{nb:Nat}{vC vA:V}{now:Int}{vP vK:V}{i:Nat}{x:Evt}{o:Nat->Nat}{bs:List Blk}{c:Cfg}{f:Fd}{n:Nde}{cs:List Cfg}{al:List (Sl Int)}{ps:List Psh}{ks:List Ack}{Hh:Int->Vw}
structure EvH (E:Calls') (l:Sl Evt) (i:Nat) (x:Evt):Prop where
 at_:∀ h,iL none 24 (.d (l.d Evt.c)) (.d (.int .i64 i)) h=some (.eptr x.c 0,h)
 lt:((i:Int)<l.l.length)
 n8:∀ h,Sm E dM aW 8 [ag x.edit.c] h=some (bl false,h)
 x4:¬ (x.addrs.l.length:Int)>100
theorem mM (x:Evt):sub x.c 0 24=some x.c:=(rfl)
theorem mO (x:Evt):sub x.c 0 1=some [i64 x.does]:=(rfl)
theorem mP (x:Evt):sub x.c 1 1=some [i64 x.i]:=(rfl)
theorem mQ (x:Evt):sub x.c 2 21=some x.edit.c:=(rfl)
theorem mR (x:Evt):sub x.c 23 1=some [x.addrs.d bn]:=(rfl)
theorem mU (x:Evt):x.c.length=24:=(rfl)
theorem mJ (x:Edt):x.c.length=21:=(rfl)
theorem pg (n:Nde):sub n.c 3 1=some [u64 n.v.epoch]:=(rfl)
theorem EvN (hx:EvH E l i x)(M:RowM o bs c f n nb cs al ps ks vC vA vP vK)(I:RowI c cs al L f n ps Hh)(B:sZ i cs al ps.length ks n)(hi:i<150)(lo:Nat)(h0:x.does≠0)(h1:x.does≠1)(h4:x.does≠4)(h5:x.does≠5)(hp:x.does=2\/x.does=6\/x.does=7->ps=[])(hq:x.does=3\/x.does=8->ks=[]):EvO E L l i nb vC vA now vP vK bs lo:=by
 obtain ⟨ka,hka⟩:=lQ x.i;obtain ⟨o1,M1⟩:=M.lay [.cells (x.c.map .d)];obtain ⟨b1,b2,b3,b4,b5,b6⟩:=B;have nC:=M.C.nu; have nA:=M.A.nu; have nP:=M.P.nu; have nK:=M.K.nu;have oC:=M.C.ok; have oA:=M.A.ok; have oP:=M.P.ok; have oK:=M.K.ok;have lP:=M.P.len; have lK:=M.K.len;have gn:=λys=>ak (ys:=ys) M.n.2;have gc:=λys=>ak (ys:=ys) M.c.2;have gf:=λys=>ak (ys:=ys) M.f.2;refine ⟨o1,_,min lo bs.length,c,f,n,nb,cs,al,ps,ks,vC,vA,vP,vK,now,[],n.v.epoch,Hh,M1,by simpa using I,.nil,Int.le_refl _,⟨by omega,by omega,by simp; omega,by omega,b5,by omega⟩,λW=>?_⟩;by_cases k2:x.does=2
 . have:ps=[]:=hp (.inl k2);subst this;simp +decide [iT,hka,aT,dL,hx.lt,hx.at_,mM,mO,mP,mQ,mR,mU,mJ,hx.n8,hx.x4,gn,gc,gf,dY,pg,nC,nA,nP,nK,oC,oA,oP,oK,lP,lK,k2,az,put,ai];rw [aj];simp +decide [aT,kE];rfl
 by_cases k3:x.does=3
 . have:ks=[]:=hq (.inl k3);subst this;simp +decide [iT,hka,aT,dL,hx.lt,hx.at_,mM,mO,mP,mQ,mR,mU,mJ,hx.n8,hx.x4,gn,gc,gf,dY,pg,nC,nA,nP,nK,oC,oA,oP,oK,lP,lK,k3,az,put,ai];rw [aj];simp +decide [aT,kE];rfl
 by_cases k6:x.does=6
 . have:ps=[]:=hp (.inr (.inl k6));subst this;simp +decide [iT,hka,aT,dL,hx.lt,hx.at_,mM,mO,mP,mQ,mR,mU,mJ,hx.n8,hx.x4,gn,gc,gf,dY,pg,nC,nA,nP,nK,oC,oA,oP,oK,lP,lK,k6,az,put,ai];rw [aj];simp +decide [aT,kE];rfl
 by_cases k7:x.does=7
 . have:ps=[]:=hp (.inr (.inr k7));subst this;simp +decide [iT,hka,aT,dL,hx.lt,hx.at_,mM,mO,mP,mQ,mR,mU,mJ,hx.n8,hx.x4,gn,gc,gf,dY,pg,nC,nA,nP,nK,oC,oA,oP,oK,lP,lK,k7,az,put,ai];rw [aj];simp +decide [aT,kE];rfl
 by_cases k8:x.does=8
 . have:ks=[]:=hq (.inr k8);subst this;simp +decide [iT,hka,aT,dL,hx.lt,hx.at_,mM,mO,mP,mQ,mR,mU,mJ,hx.n8,hx.x4,gn,gc,gf,dY,pg,nC,nA,nP,nK,oC,oA,oP,oK,lP,lK,k8,az,put,ai];rw [aj];simp +decide [aT,kE];rfl
 simp +decide [iT,hka,aT,dL,hx.lt,hx.at_,mM,mO,mP,mQ,mR,mU,mJ,hx.n8,hx.x4,gn,gc,gf,dY,pg,nC,nA,nP,nK,oC,oA,oP,oK,lP,lK,h0,h1,k2,k3,h4,h5,k6,k7,k8,az,put,ai];rw [aj];simp +decide [aT,kE];rfl
theorem Ev5 (hx:EvH E l i x)(M:RowM o bs c f n nb cs al ps ks vC vA vP vK)(I:RowI c cs al L f n ps Hh)(B:sZ i cs al ps.length ks n)(hi:i<150)(lo:Nat)(hk:x.does=5):EvO E L l i nb vC vA now vP vK bs lo:=by
 obtain ⟨ka,hka⟩:=lQ x.i;obtain ⟨o1,M1⟩:=M.lay [.cells (x.c.map .d)];obtain ⟨b1,b2,b3,b4,b5,b6⟩:=B;have nC:=M.C.nu; have nA:=M.A.nu; have nP:=M.P.nu; have nK:=M.K.nu;have oC:=M.C.ok; have oA:=M.A.ok; have oP:=M.P.ok; have oK:=M.K.ok;have lP:=M.P.len; have lK:=M.K.len;have gn:=λys=>ak (ys:=ys) M.n.2;have gc:=λys=>ak (ys:=ys) M.c.2;have gf:=λys=>ak (ys:=ys) M.f.2;have hw:wrap .u64 (n.inc+1)=n.inc+1:=by rw [qf]; omega
 obtain ⟨o2,M2⟩:=M1.newn ⟨n.inc+1,0,0,vw0,false⟩;have hl1:(bs++[Blk.cells (x.c.map V.d)]).length=bs.length+1:=by simp
 rw [hl1] at M2;refine ⟨o2,_,min lo bs.length,c,f,_,_,cs,al,ps,ks,vC,vA,vP,vK,now,[],0,Hh,M2,by simpa using I.anew (k:=n.inc+1) (by omega),.nil,Int.le_refl _,⟨by omega,by omega,by simp; omega,by omega,by show 0<=n.inc+1; omega,by show n.inc+1<=_; omega⟩,λW=>?_⟩;simp +decide [iT,hka,aT,dL,hx.lt,hx.at_,mM,mO,mP,mQ,mR,mU,mJ,hx.n8,hx.x4,gn,gc,gf,dY,pg,nC,nA,nP,nK,oC,oA,oP,oK,lP,lK,hk,hw,az,put,ai];rw [aj];simp +decide [aT,kE];rfl
theorem Ev7 (hx:EvH E l i x)(M:RowM o bs c f n nb cs al ps ks vC vA vP vK)(I:RowI c cs al L f n ps Hh)(B:sZ i cs al ps.length ks n)(hi:i<150)(lo:Nat)(hk:x.does=7)(h0:ps.length≠0):EvO E L l i nb vC vA now vP vK bs lo:=by
 obtain ⟨ka,hka⟩:=lQ x.i;obtain ⟨o1,M1⟩:=M.lay [.cells (x.c.map .d)];obtain ⟨b1,b2,b3,b4,b5,b6⟩:=B;have nC:=M.C.nu; have nA:=M.A.nu; have nP:=M.P.nu; have nK:=M.K.nu;have oC:=M.C.ok; have oA:=M.A.ok; have oP:=M.P.ok; have oK:=M.K.ok;have lP:=M.P.len; have lK:=M.K.len;have gn:=λys=>ak (ys:=ys) M.n.2;have gc:=λys=>ak (ys:=ys) M.c.2;have gf:=λys=>ak (ys:=ys) M.f.2;have hn:0<ps.length:=by omega
 have hrem:=xx ka hn;have hlt:ka % ps.length<ps.length:=Nat.mod_lt _ hn;generalize ka % ps.length=k0 at *;obtain ⟨v',ys,F,q1,q2⟩:=EI (E:=E) (f:=14) Qs rfl (by decide) (by decide) M1.P (i:=k0) (by simpa using hlt) (by have:big=2 ^ 30:=rfl; simp; omega);rw [mq] at q2;have M2:=M1.chgP q2 (Chg.lay o1 5 5 _ ys);have nv:=q2.nu;have hgt:(0:Int)<ps.length:=by omega
 refine ⟨_,_,F (min lo bs.length),c,f,n,nb,cs,al,_,ks,vC,vA,v',vK,now,[],n.v.epoch,Hh,M2,by simpa using I.sub λp hp=>List.mem_of_mem_eraseIdx hp,.nil,Int.le_refl _,⟨by omega,by omega,by have:=List.length_eraseIdx_le ps k0; simp; omega,by omega,b5,by omega⟩,λW=>?_⟩;simp +decide [iT,hka,aT,dL,hx.lt,hx.at_,mM,mO,mP,mQ,mR,mU,mJ,hx.n8,hx.x4,gn,gc,gf,dY,pg,nC,nA,nP,nK,oC,oA,oP,oK,lP,lK,hk,hn,hgt,h0,hrem,q1,nv,az,put,ai];rw [aj];simp +decide [aT,kE];rfl
theorem Ev8 (hx:EvH E l i x)(M:RowM o bs c f n nb cs al ps ks vC vA vP vK)(I:RowI c cs al L f n ps Hh)(B:sZ i cs al ps.length ks n)(hi:i<150)(lo:Nat)(hk:x.does=8)(h0:ks.length≠0):EvO E L l i nb vC vA now vP vK bs lo:=by
 obtain ⟨ka,hka⟩:=lQ x.i;obtain ⟨o1,M1⟩:=M.lay [.cells (x.c.map .d)];obtain ⟨b1,b2,b3,b4,b5,b6⟩:=B;have nC:=M.C.nu; have nA:=M.A.nu; have nP:=M.P.nu; have nK:=M.K.nu;have oC:=M.C.ok; have oA:=M.A.ok; have oP:=M.P.ok; have oK:=M.K.ok;have lP:=M.P.len; have lK:=M.K.len;have gn:=λys=>ak (ys:=ys) M.n.2;have gc:=λys=>ak (ys:=ys) M.c.2;have gf:=λys=>ak (ys:=ys) M.f.2;have hn:0<ks.length:=by omega
 have hrem:=xx ka hn;have hlt:ka % ks.length<ks.length:=Nat.mod_lt _ hn;generalize ka % ks.length=k0 at *;obtain ⟨v',ys,F,q1,q2⟩:=EI (E:=E) (f:=16) Yu rfl (by decide) (by decide) M1.K (i:=k0) (by simpa using hlt) (by have:big=2 ^ 30:=rfl; simp; omega);rw [mq] at q2;have M2:=M1.chgK q2 (Chg.lay o1 6 6 _ ys);have nv:=q2.nu;have hgt:(0:Int)<ks.length:=by omega
 refine ⟨_,_,F (min lo bs.length),c,f,n,nb,cs,al,ps,_,vC,vA,vP,v',now,[],n.v.epoch,Hh,M2,by simpa using I,.nil,Int.le_refl _,⟨by omega,by omega,by simp; omega,by have:=List.length_eraseIdx_le ks k0; omega,b5,by omega⟩,λW=>?_⟩;simp +decide [iT,hka,aT,dL,hx.lt,hx.at_,mM,mO,mP,mQ,mR,mU,mJ,hx.n8,hx.x4,gn,gc,gf,dY,pg,nC,nA,nP,nK,oC,oA,oP,oK,lP,lK,hk,hn,hgt,h0,hrem,q1,nv,az,put,ai];rw [aj];simp +decide [aT,kE];rfl
theorem Ev6 (hx:EvH E l i x)(M:RowM o bs c f n nb cs al ps ks vC vA vP vK)(I:RowI c cs al L f n ps Hh)(B:sZ i cs al ps.length ks n)(hi:i<150)(lo:Nat)(hk:x.does=6)(h0:ps.length≠0):EvO E L l i nb vC vA now vP vK bs lo:=by
 obtain ⟨ka,hka⟩:=lQ x.i;obtain ⟨o1,M1⟩:=M.lay [.cells (x.c.map .d)];obtain ⟨b1,b2,b3,b4,b5,b6⟩:=B;have nC:=M.C.nu; have nA:=M.A.nu; have nP:=M.P.nu; have nK:=M.K.nu;have oC:=M.C.ok; have oA:=M.A.ok; have oP:=M.P.ok; have oK:=M.K.ok;have lP:=M.P.len; have lK:=M.K.len;have gn:=λys=>ak (ys:=ys) M.n.2;have gc:=λys=>ak (ys:=ys) M.c.2;have gf:=λys=>ak (ys:=ys) M.f.2;have hn:0<ps.length:=by omega
 have hrem:=xx ka hn;have hlt:ka % ps.length<ps.length:=Nat.mod_lt _ hn;generalize ka % ps.length=k0 at *;have hg:(ps.map Psh.c)[k0]?=some (Psh.c ps[k0]):=by simp [hlt]
 have hm:=bj hlt;generalize ps[k0]=p at *;obtain ⟨b,i1,i2,i3,i4⟩:=M1.P.at hg;obtain ⟨o2,M2⟩:=M1.lay [.cells (p.c.map .d)];have hz:put Tv 0 (p.c.map .d)=some (p.c.map .d):=rfl;simp only [Tv] at hz;have hrc:∀ lo,aB ⟨bs++[.cells (x.c.map .d)]++[.cells (p.c.map .d)],lo⟩ (.row (bs.length+1) 0 1 (some 1) 14) 14=some (([p].map Psh.c).length,flat ([p].map Psh.c)):=λlo=>by
  have e1:au (bs++[.cells (x.c.map .d)]++[.cells (p.c.map .d)]) (bs.length+1)=some (p.c.map .d):=by
   have hl1:(bs++[Blk.cells (x.c.map V.d)]).length=bs.length+1:=by simp
   rw [← hl1,dh]; rfl
  have e2:sub (p.c.map V.d) 0 (1 * 14)=some (p.c.map .d):=rfl;simp only [aB,if_true,get_eq,e1,e2,Option.map_some,cq,List.map_nil,cj,ck];simp [flat]
 obtain ⟨v',bs',o',F,a1,a2,a3⟩:=M2.P.app (by_:=256) (by decide) (by decide) (show (ps.map Psh.c).length+([p].map Psh.c).length<=big by have:big=2 ^ 30:=rfl; simp; omega) (λe he=>by obtain ⟨y,_,rfl⟩:=cd.1 he; rfl) hrc;rw [← List.map_append] at a2;have M3:=M2.chgP a2 a3;have nv:=a2.nu;simp only [List.append_assoc,List.cons_append,List.nil_append] at a1;refine ⟨o',_,F (min (min lo bs.length) (bs.length+1)),c,f,n,nb,cs,al,_,ks,vC,vA,v',vK,now,[],n.v.epoch,Hh,M3,by simpa using I.more hm,.nil,Int.le_refl _,⟨by omega,by omega,by simp; omega,by omega,b5,by omega⟩,λW=>?_⟩;simp +decide [iT,hka,aT,dL,hx.lt,hx.at_,mM,mO,mP,mQ,mR,mU,mJ,hx.n8,hx.x4,gn,gc,gf,dY,pg,nC,nA,nP,nK,oC,oA,oP,oK,lP,lK,hk,hn,h0,hrem,i1,i2,i3,a1,nv,pE,hz,az,put,ai];rw [aj];simp +decide [aT,kE];rfl
include H in
theorem Ev4 (hx:EvH E l i x)(M:RowM o bs c f n nb cs al ps ks vC vA vP vK)(I:RowI c cs al L f n ps Hh)(B:sZ i cs al ps.length ks n)(hi:i<150)(lo:Nat)(hk:x.does=4):EvO E L l i nb vC vA now vP vK bs lo:=by
 obtain ⟨ka,hka⟩:=lQ x.i;obtain ⟨o1,M1⟩:=M.lay [.cells (x.c.map .d)];obtain ⟨b1,b2,b3,b4,b5,b6⟩:=B;have nC:=M.C.nu; have nA:=M.A.nu; have nP:=M.P.nu; have nK:=M.K.nu;have oC:=M.C.ok; have oA:=M.A.ok; have oP:=M.P.ok; have oK:=M.K.ok;have lP:=M.P.len; have lK:=M.K.len;have gn:=λys=>ak (ys:=ys) M.n.2;have gc:=λys=>ak (ys:=ys) M.c.2;have gf:=λys=>ak (ys:=ys) M.f.2;obtain ⟨k7,hk7⟩:=XK x.i;obtain ⟨f',l',hT,hf',n17⟩:=H.h17 f I.ok (wrap .u64 (now+wrap .u64 k7));have n17:=λh=>(aG (T:=dM) (val:=aW) (by kernel_rfl)).trans (n17 h);obtain ⟨J,ho⟩:=I.tick hT;have M2:=M1.setf f';refine ⟨o1,_,min (min lo bs.length) 1,c,f',n,nb,cs,al,ps,ks,vC,vA,vP,vK,wrap .u64 (now+wrap .u64 k7),l',n.v.epoch,Hh,M2,J,ho,Int.le_refl _,⟨by omega,by omega,by have:=ho.1; omega,by omega,b5,by omega⟩,λW=>?_⟩;simp +decide [iT,hka,aT,dL,hx.lt,hx.at_,mM,mO,mP,mQ,mR,mU,mJ,hx.n8,hx.x4,gn,gc,gf,dY,pg,nC,nA,nP,nK,oC,oA,oP,oK,lP,lK,hk,hk7,n17,ve,Ag,az,put,ai];rw [aj];simp +decide [aT,kE]
include H in
theorem Ev3 (hx:EvH E l i x)(M:RowM o bs c f n nb cs al ps ks vC vA vP vK)(I:RowI c cs al L f n ps Hh)(B:sZ i cs al ps.length ks n)(hi:i<150)(lo:Nat)(hk:x.does=3)(h0:ks.length≠0):EvO E L l i nb vC vA now vP vK bs lo:=by
 obtain ⟨ka,hka⟩:=lQ x.i;obtain ⟨o1,M1⟩:=M.lay [.cells (x.c.map .d)];obtain ⟨b1,b2,b3,b4,b5,b6⟩:=B;have nC:=M.C.nu; have nA:=M.A.nu; have nP:=M.P.nu; have nK:=M.K.nu;have oC:=M.C.ok; have oA:=M.A.ok; have oP:=M.P.ok; have oK:=M.K.ok;have lP:=M.P.len; have lK:=M.K.len;have gn:=λys=>ak (ys:=ys) M.n.2;have gc:=λys=>ak (ys:=ys) M.c.2;have gf:=λys=>ak (ys:=ys) M.f.2;have hn:0<ks.length:=by omega
 have hrem:=xx ka hn;have hlt:ka % ks.length<ks.length:=Nat.mod_lt _ hn;generalize ka % ks.length=k0 at *;have hg:(ks.map Ack.c)[k0]?=some (Ack.c ks[k0]):=by simp [hlt]
 have hm:=bj hlt;generalize ks[k0]=a at *;obtain ⟨b,i1,i2,i3,i4⟩:=M1.K.at hg;obtain ⟨f',l',hT,hf',n15⟩:=H.h15 f I.ok c (I.cok c I.cur).1 now a;have n15:=λh=>(aG (T:=dM) (val:=aW) (by kernel_rfl)).trans (n15 h);obtain ⟨H',J,ho⟩:=I.acked hT hf';have M2:=M1.setf f';obtain ⟨v',ys,F,q1,q2⟩:=EI (E:=E) (f:=16) Yu rfl (by decide) (by decide) M2.K (i:=k0) (by simpa using hlt) (by have:big=2 ^ 30:=rfl; simp; omega);rw [mq] at q2;have M3:=M2.chgK q2 (Chg.lay o1 6 6 _ ys);have nv:=q2.nu;have hl0:=aK M.f.2;have hne:bs≠[]:=by rintro rfl; simp at hl0
 have hb1:¬ b=1:=by
  rintro rfl;have:=M1.f.1;omega
 refine ⟨_,_,F (min (min lo bs.length) 1),c,f',n,nb,cs,al,ps,_,vC,vA,vP,v',now,l',n.v.epoch,H',M3,J,ho,Int.le_refl _,⟨by omega,by omega,by have:=ho.1; omega,by have:=List.length_eraseIdx_le ks k0; omega,b5,by omega⟩,λW=>?_⟩;simp +decide [iT,hka,aT,dL,hx.lt,hx.at_,mM,mO,mP,mQ,mR,mU,mJ,hx.n8,hx.x4,gn,gc,gf,dY,pg,nC,nA,nP,nK,oC,oA,oP,oK,lP,lK,hk,hn,h0,hrem,i1,i2,i3,n15,q1,nv,ve,Ag,xE,hb1,hne,az,put,ai,aA,ae,bA,dE,Tr.spares,List.range,List.range.loop];rw [aj];simp +decide [aT,kE]
include H in
theorem VH {p:Psh}(M:RowM o bs c f n nb cs al ps ks vC vA vP vK)(I:RowI c cs al L f n ps Hh)(hp:p∈ps) :
 ∃ v,∃ as1:List Ack,∃ o' bs' n',∃ F:Nat->Nat,(∀ lo,Sm E dM aW 13 [.ptr nb 0,ag p.c] ⟨bs,lo⟩=some (v,⟨bs',F lo⟩))/\RowM o' bs' c f n' nb cs al ps ks vC vA vP vK/\RowI c cs al L f n' ps Hh/\n.v.epoch<=n'.v.epoch/\n'.inc=n.inc/\as1.length<=1/\okV v=true/\∀ lo,aB ⟨bs',lo⟩ v 4=some ((as1.map Ack.c).length,flat (as1.map Ack.c)):=by
 have X:∀ a h,Sm E dM aW 13 a h=E 13 a h:=λa h=>aG (by kernel_rfl);have row:∀ {M':List Blk} {a:Ack} {k:Nat} (lo:Nat),au M' k=some (a.c.map .d)->aB ⟨M',lo⟩ (.row k 0 1 (some 1) 4) 4=some (([a].map Ack.c).length,flat ([a].map Ack.c)):=λ{M' a k} lo hg=>by
  have e2:sub (a.c.map V.d) 0 (1 * 4)=some (a.c.map .d):=rfl;simp only [aB,if_true,get_eq,hg,e2,Option.map_some,cq,List.map_nil,cj,ck];simp [flat]
 by_cases h1:p.inc=n.inc
 case neg =>
  exact ⟨_,[],o,bs,n,id,λlo=>(X _ _).trans (H.h13a bs nb n M.n.2 p (.inl h1) lo),M,I,Int.le_refl _,rfl,by simp,rfl,λlo=>by simp [aB,flat]⟩
 by_cases h2:p.seq<n.seq
 case pos =>
  exact ⟨_,[],o,bs,n,id,λlo=>(X _ _).trans (H.h13a bs nb n M.n.2 p (.inr h2) lo),M,I,Int.le_refl _,rfl,by simp,rfl,λlo=>by simp [aB,flat]⟩
 by_cases h3:n.whole=true/\p.seq=n.seq
 case pos =>
  obtain ⟨b1,b2,F,k⟩:=H.h13b bs nb n M.n.2 p h1 h3.1 h3.2;obtain ⟨o',M'⟩:=M.lay [b1,b2,.cells ((Ack.c ⟨p.life,p.inc,p.seq,1⟩).map .d)];refine ⟨_,[⟨p.life,p.inc,p.seq,1⟩],o',_,n,F,λlo=>(X _ _).trans (k lo),M',I,Int.le_refl _,rfl,by simp,rfl,λlo=>row lo ?_⟩;unfold au; rw [bm (by omega)]; simp
 by_cases h4:p.upon≠0/\(n.whole=true->p.upon≠n.seq)
 case pos =>
  obtain ⟨b1,b2,b3,F,k⟩:=H.h13c bs nb n M.n.2 p h1 h2 (λhw hs=>h3 ⟨hw,hs⟩) h4.1 h4.2;obtain ⟨o',M'⟩:=M.lay [b1,b2,b3,.cells ((Ack.c ⟨p.life,p.inc,p.seq,0⟩).map .d)];refine ⟨_,[⟨p.life,p.inc,p.seq,0⟩],o',_,n,F,λlo=>(X _ _).trans (k lo),M',I,Int.le_refl _,rfl,by simp,rfl,λlo=>row lo ?_⟩;unfold au; rw [bm (by omega)]; simp
 have good:∃ base:Vw,((p.upon=0/\base=vw0)\/(n.whole=true/\p.upon≠0/\p.upon=n.seq/\base=n.v))/\((n.whole=false/\p.upon=0/\base=vw0)\/(n.whole=true/\p.seq≠n.seq/\p.upon≠0/\p.upon=n.seq/\base=n.v)\/(n.whole=true/\p.seq≠n.seq/\p.upon=0/\base=vw0)):=by
  by_cases h5:p.upon=0
  . refine ⟨vw0,.inl ⟨h5,rfl⟩,?_⟩;cases hw:n.whole with
    | false=>exact .inl ⟨rfl,h5,rfl⟩
    | true=>exact .inr (.inr ⟨rfl,λhs=>h3 ⟨hw,hs⟩,h5,rfl⟩)
  . have h6:n.whole=true/\p.upon=n.seq:=by
     by_cases hw:n.whole=true
     . refine ⟨hw,?_⟩;by_cases hu:p.upon=n.seq
       . exact hu
       . exact absurd ⟨h5,λ_=>hu⟩ h4
     . exact absurd ⟨h5,λh=>absurd h hw⟩ h4
    exact ⟨n.v,.inr ⟨h6.1,h5,h6.2,rfl⟩,.inr (.inl ⟨h6.1,λhs=>h3 ⟨h6.1,hs⟩,h5,h6.2,rfl⟩)⟩
 obtain ⟨base,g1,g2⟩:=good;obtain ⟨b,v,vb,vv,hd,ob,wb,nb',hgo⟩:=I.take hp h1 h2 g1;obtain ⟨y,y1,y2,y3,y4⟩:=H.h32 base b v ob wb vb.1 vv.1 vv.2.1 vb.2.2 vv.2.2 nb';obtain ⟨J,he⟩:=hgo y y1 y2 y3;obtain ⟨c1,c2,c3,c4,F,k⟩:=H.h13d bs nb n M.n.2 p y base h1 h2 g2 (λh=>by rw [hd]; exact y4 h);obtain ⟨o',M'⟩:=(M.setn ⟨n.inc,n.asked,p.seq,y,true⟩).lay [c1,c2,c3,c4,.cells ((Ack.c ⟨p.life,p.inc,p.seq,1⟩).map .d)];refine ⟨_,[⟨p.life,p.inc,p.seq,1⟩],o',_,_,F,λlo=>(X _ _).trans (k lo),M',J,he,rfl,by simp,rfl,λlo=>row lo ?_⟩;unfold au; rw [bm (by simp)]; simp
include H in
theorem Ev2 (hx:EvH E l i x)(M:RowM o bs c f n nb cs al ps ks vC vA vP vK)(I:RowI c cs al L f n ps Hh)(B:sZ i cs al ps.length ks n)(hi:i<150)(lo:Nat)(hk:x.does=2)(h0:ps.length≠0):EvO E L l i nb vC vA now vP vK bs lo:=by
 obtain ⟨ka,hka⟩:=lQ x.i;obtain ⟨o1,M1⟩:=M.lay [.cells (x.c.map .d)];obtain ⟨b1,b2,b3,b4,b5,b6⟩:=B;have nC:=M.C.nu; have nA:=M.A.nu; have nP:=M.P.nu; have nK:=M.K.nu;have oC:=M.C.ok; have oA:=M.A.ok; have oP:=M.P.ok; have oK:=M.K.ok;have lP:=M.P.len; have lK:=M.K.len;have gn:=λys=>ak (ys:=ys) M.n.2;have gc:=λys=>ak (ys:=ys) M.c.2;have gf:=λys=>ak (ys:=ys) M.f.2;have hn:0<ps.length:=by omega
 have hrem:=xx ka hn;have hlt:ka % ps.length<ps.length:=Nat.mod_lt _ hn;generalize ka % ps.length=k0 at *;have hg:(ps.map Psh.c)[k0]?=some (Psh.c ps[k0]):=by simp [hlt]
 have hm:=bj hlt;generalize ps[k0]=p at *;obtain ⟨b,i1,i2,i3,i4⟩:=M1.P.at hg;obtain ⟨v,as1,o2,bs2,n',F,t1,M2,J,t2,t3,t4,t5,t6⟩:=VH H M1 I hm;obtain ⟨vK',bs3,o3,F3,a1,a2,a3⟩:=M2.K.app (by_:=32) (by decide) (by decide) (show (ks.map Ack.c).length+(as1.map Ack.c).length<=big by have:big=2 ^ 30:=rfl; simp; omega) (λe he=>by obtain ⟨y,_,rfl⟩:=cd.1 he; rfl) t6;rw [← List.map_append] at a2;have M3:=M2.chgK a2 a3;have nK':=a2.nu;obtain ⟨v',ys,F4,q1,q2⟩:=EI (E:=E) (f:=14) Qs rfl (by decide) (by decide) M3.P (i:=k0) (by simpa using hlt) (by have:big=2 ^ 30:=rfl; simp; omega);rw [mq] at q2;have M4:=M3.chgP q2 (Chg.lay o3 5 5 _ ys);have nv:=q2.nu;have hagc:V.agg (p.c.map .d)=ag p.c:=rfl;refine ⟨_,_,F4 (F3 (F (min lo bs.length))),c,f,n',nb,cs,al,_,_,vC,vA,v',vK',now,[],n.v.epoch,Hh,M4,by simpa using J.sub λp hp=>List.mem_of_mem_eraseIdx hp,.nil,t2,⟨by omega,by omega,by have:=List.length_eraseIdx_le ps k0; simp; omega,by simp; omega,by rw [t3]; exact b5,by rw [t3]; omega⟩,λW=>?_⟩;simp +decide [iT,hka,aT,dL,hx.lt,hx.at_,mM,mO,mP,mQ,mR,mU,mJ,hx.n8,hx.x4,gn,gc,gf,dY,pg,nC,nA,nP,nK,oC,oA,oP,oK,lP,lK,hk,hn,h0,hrem,i1,i2,i3,t1,t5,a1,nK',q1,nv,pE,az,put,ai];rw [aj];simp +decide [aT,kE];rfl
end
end
section
end
section
variable {E:Calls'}
end
section
theorem Jp {B:Nat}{c:Cfg}{e:Edt}(h:c.wf B)(he:e.wf B)(hB:17<=B)(hok:(bE c e).2=0):(bE c e).1.wf B:=by
 obtain ⟨h1,h2,h3,h4⟩:=vQ hok;rw [h3];have hsm:fu c.own=true:=by
  have hso:fu c.own=fu c:=by unfold fu; simp only [Cfg.own,cb]; rfl
  simp only [bK,aw] at h1;rw [hso]; exact h1.1.1
 have:=ww (Cfg.own_wf h) he hB hsm;exact ⟨vz _,this.2⟩
end
section
section
variable {E:Calls'}(H:RowH E)
variable {L:Int}{l:Sl Evt}{nb:Nat}{vC vA:V}{now:Int}{vP vK:V}{i:Nat}{x:Evt}{o:Nat->Nat}{bs:List Blk}{c:Cfg}{f:Fd}{n:Nde}{cs:List Cfg}{al:List (Sl Int)}{ps:List Psh}{ks:List Ack}{Hh:Int->Vw}
theorem BB (n:Nde):sub n.c 1 1=some [u64 n.asked]:=(rfl)
theorem Vy (s:Sbs):sub s.c 0 3=some s.c:=(rfl)
include H in
theorem Ev1 (hx:EvH E l i x)(M:RowM o bs c f n nb cs al ps ks vC vA vP vK)(I:RowI c cs al L f n ps Hh)(B:sZ i cs al ps.length ks n)(hi:i<150)(lo:Nat)(hk:x.does=1)(hxa:short x.addrs):EvO E L l i nb vC vA now vP vK bs lo:=by
 obtain ⟨ka,hka⟩:=lQ x.i;obtain ⟨o1,M1⟩:=M.lay [.cells (x.c.map .d)];obtain ⟨b1,b2,b3,b4,b5,b6⟩:=B;have nC:=M.C.nu; have nA:=M.A.nu; have nP:=M.P.nu; have nK:=M.K.nu;have oC:=M.C.ok; have oA:=M.A.ok; have oP:=M.P.ok; have oK:=M.K.ok;have lP:=M.P.len; have lK:=M.K.len;have gn:=λys=>ak (ys:=ys) M.n.2;have gc:=λys=>ak (ys:=ys) M.c.2;have gf:=λys=>ak (ys:=ys) M.f.2;have hsc:∀ k:Int,(Sbs.c ⟨n.inc,k,x.addrs⟩).map V.d=[.d (u64 n.inc),.d (u64 k),.d (x.addrs.d bn)]:=λ_=>rfl;generalize hq:wrap .u64 (n.asked+1)=q;have n11:=λh=>(aG (E:=E) (T:=dM) (val:=aW) (f:=11) (by kernel_rfl)).trans (H.h11 ⟨n.inc,q,x.addrs⟩ hxa h);have hags:ag (Sbs.c ⟨n.inc,q,x.addrs⟩)=.agg [.d (u64 n.inc),.d (u64 q),.d (x.addrs.d bn)]:=rfl;rw [hags] at n11;have hl0:=aK M.f.2;have hne:bs≠[]:=by rintro rfl; simp at hl0
 obtain ⟨o2,M2,h9⟩:=M1.lay9 [.cells ((Sbs.c ⟨n.inc,q,x.addrs⟩).map .d)];have hl1:(bs++[Blk.cells (x.c.map V.d)]).length=bs.length+1:=by simp
 have cs0:CAt o2 9 (bs++[.cells (x.c.map .d)]++[.cells ((Sbs.c ⟨n.inc,q,x.addrs⟩).map .d)]) (bs.length+1) ((Sbs.c ⟨n.inc,q,x.addrs⟩).map .d):=⟨h9 _ (by simp),by rw [← hl1,dh]; rfl⟩;have hnb:nb<bs.length+1:=by have:=aK M.n.2; omega
 cases hsm:lX ⟨n.inc,q,x.addrs⟩ with
 | false =>
  rw [hsm] at n11;refine ⟨o2,_,min (min lo bs.length) (bs.length+1),c,f,n,nb,cs,al,ps,ks,vC,vA,vP,vK,now,[],n.v.epoch,Hh,M2,by simpa using I,.nil,Int.le_refl _,⟨by omega,by omega,by simp; omega,by omega,b5,by omega⟩,λW=>?_⟩;simp +decide [iT,hka,aT,dL,hx.lt,hx.at_,mM,mO,mP,mQ,mR,mU,mJ,hx.n8,hx.x4,gn,gc,gf,dY,pg,nC,nA,nP,nK,oC,oA,oP,oK,lP,lK,hk,hq,n11,BB,hne,hnb,hsc,az,put,ai,aA,ae,bA,dE,Tr.spares,List.range,List.range.loop];rw [aj];simp +decide [aT,kE];rfl
 | true =>
  rw [hsm] at n11;have hN:=Chg.set (o:=o2) (k:=2) M2.n.1 (.cells (Nde.c { n with asked:=q } |>.map .d)) (bs:=bs++[.cells (x.c.map .d)]++[.cells ((Sbs.c ⟨n.inc,q,x.addrs⟩).map .d)]);have M3:=M2.setn { n with asked:=q };have cs1:=cs0.chg hN (by decide);generalize hK:(bs++[Blk.cells (x.c.map .d)]++[Blk.cells ((Sbs.c ⟨n.inc,q,x.addrs⟩).map .d)]).set nb (.cells (Nde.c { n with asked:=q } |>.map .d))=K at *;have hKl:K.length=bs.length+2:=by rw [← hK]; simp
  have g4:=Chg.lay o2 9 99 K [.cells ((adC x.addrs).map .d)];have M4:=M3.chg9 g4;have cs2:=cs1.chg g4 (by decide);have hrc:∀ lo,aB ⟨K++[.cells ((adC x.addrs).map .d)],lo⟩ (.row (bs.length+2) 0 1 (some 1) 1) 1=some (([x.addrs].map adC).length,flat ([x.addrs].map adC)):=λlo=>by
   have e1:au (K++[.cells ((adC x.addrs).map .d)]) (bs.length+2)=some ((adC x.addrs).map .d):=by
    rw [← hKl,dh]; rfl
   have e2:sub ((adC x.addrs).map V.d) 0 (1 * 1)=some ((adC x.addrs).map .d):=rfl;simp only [aB,if_true,get_eq,e1,e2,Option.map_some,cq,List.map_nil,cj,ck];simp [flat]
  obtain ⟨v',bs',o5,F,a1,a2,a3⟩:=M4.A.app (by_:=24) (by decide) (by decide) (show (al.map adC).length+([x.addrs].map adC).length<=big by have:big=2 ^ 30:=rfl; simp; omega) (λe he=>by obtain ⟨y,_,rfl⟩:=cd.1 he; rfl) hrc;rw [← List.map_append] at a2;have M5:=M4.chgA a2 a3;have gs:=(cs2.chg a3 (by decide)).2;have gc':=M5.c.2;have gf':=M5.f.2;have nA':=a2.nu;have hac:(adC x.addrs).map V.d=[.d (x.addrs.d bn)]:=rfl;obtain ⟨f',l',hS,hf',n12⟩:=H.h12 f I.ok c (I.cok c I.cur).1 now ⟨n.inc,q,x.addrs⟩ hxa;have n12:∀ h,Sm E dM aW 12 [ag f.c,ag c.c,.d (u64 now),.agg [.d (u64 n.inc),.d (u64 q),.d (x.addrs.d bn)]] h=some (.tup [ag f'.c,.d (fG l')],h):=λh=>(aG (by kernel_rfl)).trans (n12 h);obtain ⟨H',J,ho⟩:=(I.ask hxa q).subs rfl (by simp) hS hf';have M6:=M5.setf f';subst hK;rw [hac] at a1;simp only [List.append_assoc,List.cons_append,List.nil_append,hsc] at a1;have nl:n.c.length=10:=rfl;have htk:List.take 1 (n.c.map V.d)++V.d (.int .u64 q)::List.drop 2 (n.c.map V.d)=(Nde.c { n with asked:=q }).map .d:=rfl;have hbz:bs.length≠nb:=by have:=aK M.n.2; omega
  have gx':∀ (X:Blk) (ys:List Blk),au ((bs++.cells (x.c.map .d)::ys).set nb X) bs.length=some (x.c.map .d):=λX ys=>by
   unfold au; rw [ac (Ne.symm hbz),bm (br _)]; simp
  refine ⟨o5,_,min (F (min lo (min bs.length nb))) 1,c,f',{ n with asked:=q },nb,cs,al++[x.addrs],ps,ks,vC,v',vP,vK,now,l',n.v.epoch,H',M6,J,ho,Int.le_refl _,⟨by omega,by simp; omega,by have:=ho.1; omega,by omega,b5,by show n.inc<=_; omega⟩,λW=>?_⟩;simp +decide [iT,hka,aT,dL,hx.lt,hx.at_,mM,mO,mP,mQ,mR,mU,mJ,hx.n8,hx.x4,gn,gc,gf,dY,pg,nC,nA,nP,nK,oC,oA,oP,oK,lP,lK,hk,hq,n11,n12,a1,nA',gs,gc',gf',Vy,ve,Ag,xE,BB,nl,htk,gx',hne,hnb,hsc,hac,az,put,ai,aA,ae,bA,dE,Tr.spares,List.range,List.range.loop];rw [aj];simp +decide [aT,kE]
include H in
theorem Ev0 (hx:EvH E l i x)(M:RowM o bs c f n nb cs al ps ks vC vA vP vK)(I:RowI c cs al L f n ps Hh)(B:sZ i cs al ps.length ks n)(hi:i<150)(lo:Nat)(hk:x.does=0)(he1:x.edit.wf 1048576)(he2:x.edit.wf big):EvO E L l i nb vC vA now vP vK bs lo:=by
 obtain ⟨ka,hka⟩:=lQ x.i;obtain ⟨o1,M1⟩:=M.lay [.cells (x.c.map .d)];obtain ⟨b1,b2,b3,b4,b5,b6⟩:=B;have nC:=M.C.nu; have nA:=M.A.nu; have nP:=M.P.nu; have nK:=M.K.nu;have oC:=M.C.ok; have oA:=M.A.ok; have oP:=M.P.ok; have oK:=M.K.ok;have lP:=M.P.len; have lK:=M.K.len;have gn:=λys=>ak (ys:=ys) M.n.2;have gc:=λys=>ak (ys:=ys) M.c.2;have gf:=λys=>ak (ys:=ys) M.f.2;have hcok:=(I.cok c I.cur).1;have n9:=λh=>(aG (E:=E) (T:=dM) (val:=aW) (f:=9) (by kernel_rfl)).trans (H.h9 c hcok x.edit he1 he2 h);by_cases hz:(bE c x.edit).2=0
 case neg =>
  generalize (bE c x.edit).1=d at *;generalize (bE c x.edit).2=z at *;obtain ⟨o2,M2⟩:=M1.lay [.cells (d.c.map .d)];refine ⟨o2,_,min lo bs.length,c,f,n,nb,cs,al,ps,ks,vC,vA,vP,vK,now,[],n.v.epoch,Hh,M2,by simpa using I,.nil,Int.le_refl _,⟨by omega,by omega,by simp; omega,by omega,b5,by omega⟩,λW=>?_⟩;simp +decide [iT,hka,aT,dL,hx.lt,hx.at_,mM,mO,mP,mQ,mR,mU,mJ,hx.n8,hx.x4,gn,gc,gf,dY,pg,nC,nA,nP,nK,oC,oA,oP,oK,lP,lK,hk,hz,n9,zB,xE,az,put,ai];rw [aj];simp +decide [aT,kE];rfl
 have hd:CfgOk (bE c x.edit).1:=⟨Jp hcok.w1 he1 (by decide) hz⟩;obtain ⟨_,hdm,_,hep⟩:=vQ hz;have hst:=(stays (gone:=[]) (λg hg=>by cases hg) hz).2.2.2.2.2.2.2;have hepn:c.epoch<=(bE c x.edit).1.epoch:=by
  have:=hcok.w1.1;simp [Inr,Lit.wf,IntKind.min,IntKind.max,IntKind.bits,IntKind.signed] at this;rw [hst,qf]; omega
 clear hst;generalize (bE c x.edit).1=d at *;generalize (bE c x.edit).2=z at *;subst hz;obtain ⟨o2,M2⟩:=M1.lay [.cells (d.c.map .d)];have M3:=M2.setc d;generalize hK:(bs++[Blk.cells (x.c.map .d)]++[Blk.cells (d.c.map .d)]).set 0 (.cells (d.c.map .d))=K at *;have hKl:K.length=bs.length+2:=by rw [← hK]; simp
 have gk:=M3.c.2;have M4:=M3.chg9 (Chg.lay o2 9 99 K [.cells (d.c.map .d)]);have hrc:∀ lo,aB ⟨K++[.cells (d.c.map .d)],lo⟩ (.row (bs.length+2) 0 1 (some 1) 8) 8=some (([d].map Cfg.c).length,flat ([d].map Cfg.c)):=λlo=>by
  have e1:au (K++[.cells (d.c.map .d)]) (bs.length+2)=some (d.c.map .d):=by
   rw [← hKl,dh]; rfl
  have e2:sub (d.c.map V.d) 0 (1 * 8)=some (d.c.map .d):=rfl;simp only [aB,if_true,get_eq,e1,e2,Option.map_some,cq,List.map_nil,cj,ck];simp [flat]
 obtain ⟨v',bs',o5,F,a1,a2,a3⟩:=M4.C.app (by_:=128) (by decide) (by decide) (show (cs.map Cfg.c).length+([d].map Cfg.c).length<=big by have:big=2 ^ 30:=rfl; simp; omega) (λe he=>by obtain ⟨y,_,rfl⟩:=cd.1 he; rfl) hrc;rw [← List.map_append] at a2;have M5:=M4.chgC a2 a3;have gc':=M5.c.2;have gf':=M5.f.2;have nC':=a2.nu;obtain ⟨f',l',hG,hf',n10⟩:=H.h10 f I.ok d hd now;have n10:=λh=>(aG (T:=dM) (val:=aW) (by kernel_rfl)).trans (n10 h);obtain ⟨H',J,ho⟩:=(I.cfg hd hdm hepn).own.goOn hG hf';have M6:=M5.setf f';have hl0:=aK M.f.2;have hne:bs≠[]:=by rintro rfl; simp at hl0
 have hz8:put [V.d (.int .u64 0),.d (.int .u64 0),.d (i64 0),.d (i64 0),.d (.slice true []),.d (.slice true []),.d (.slice true []),.d (.slice true [])] 0 (d.c.map .d)=some (d.c.map .d):=rfl;subst hK;simp only [List.append_assoc,List.cons_append,List.nil_append] at a1 gk;refine ⟨o5,_,min (F (min (min lo bs.length) 0)) 1,d,f',n,nb,cs++[d],al,ps,ks,v',vA,vP,vK,now,l',n.v.epoch,H',M6,J,ho,Int.le_refl _,⟨by simp; omega,by omega,by have:=ho.1; omega,by omega,b5,by omega⟩,λW=>?_⟩;simp +decide [iT,hka,aT,dL,hx.lt,hx.at_,mM,mO,mP,mQ,mR,mU,mJ,hx.n8,hx.x4,gn,gc,gf,dY,pg,nC,nA,nP,nK,oC,oA,oP,oK,lP,lK,hk,n9,n10,a1,nC',gk,gc',gf',hz8,hne,zB,xE,ve,Ag,az,put,ai];rw [aj];simp +decide [aT,kE]
end
end
section
section
variable {E:Calls'}(H:RowH E)
variable {L:Int}{l:Sl Evt}
def EvW (x:Evt):Prop:=x.edit.wf 1048576/\x.edit.wf big/\short x.addrs
include H in
theorem Ev {i:Nat}{x:Evt}{o:Nat->Nat}{bs:List Blk}{c:Cfg}{f:Fd}{n:Nde}{nb:Nat}{cs:List Cfg}{al:List (Sl Int)}{ps:List Psh}{ks:List Ack}{vC vA vP vK:V}{now:Int}{Hh:Int->Vw}(hx:EvH E l i x)(hw:EvW x)(M:RowM o bs c f n nb cs al ps ks vC vA vP vK)(I:RowI c cs al L f n ps Hh)(B:sZ i cs al ps.length ks n)(hi:i<150)(lo:Nat):EvO E L l i nb vC vA now vP vK bs lo:=by
 by_cases k0:x.does=0
 . exact Ev0 H hx M I B hi lo k0 hw.1 hw.2.1
 by_cases k1:x.does=1
 . exact Ev1 H hx M I B hi lo k1 hw.2.2
 by_cases k4:x.does=4
 . exact Ev4 H hx M I B hi lo k4
 by_cases k5:x.does=5
 . exact Ev5 hx M I B hi lo k5
 by_cases p0:ps.length=0
 . have hp:ps=[]:=List.eq_nil_of_length_eq_zero p0;by_cases k3:x.does=3/\ks.length≠0
   . exact Ev3 H hx M I B hi lo k3.1 k3.2
   by_cases k8:x.does=8/\ks.length≠0
   . exact Ev8 hx M I B hi lo k8.1 k8.2
   refine EvN hx M I B hi lo k0 k1 k4 k5 (λ_=>hp) λh=>List.eq_nil_of_length_eq_zero ?_;obtain h | h:=h
   . exact Decidable.byContradiction λhh=>k3 ⟨h,hh⟩
   . exact Decidable.byContradiction λhh=>k8 ⟨h,hh⟩
 by_cases k2:x.does=2
 . exact Ev2 H hx M I B hi lo k2 p0
 by_cases k6:x.does=6
 . exact Ev6 hx M I B hi lo k6 p0
 by_cases k7:x.does=7
 . exact Ev7 hx M I B hi lo k7 p0
 by_cases k3:x.does=3/\ks.length≠0
 . exact Ev3 H hx M I B hi lo k3.1 k3.2
 by_cases k8:x.does=8/\ks.length≠0
 . exact Ev8 hx M I B hi lo k8.1 k8.2
 refine EvN hx M I B hi lo k0 k1 k4 k5 (λh=>by obtain h | h | h:=h<;>contradiction) λh=>List.eq_nil_of_length_eq_zero ?_;obtain h | h:=h
 . exact Decidable.byContradiction λhh=>k3 ⟨h,hh⟩
 . exact Decidable.byContradiction λhh=>k8 ⟨h,hh⟩
include H in
theorem WK (hl:l.l.length<=150)(hw:∀ x∈l.l,EvW x):∀ (m i:Nat) (o:Nat->Nat) (bs:List Blk) (c:Cfg) (f:Fd) (n:Nde) (nb:Nat) (cs:List Cfg) (al:List (Sl Int)) (ps:List Psh) (ks:List Ack) (vC vA vP vK:V) (now:Int) (Hh:Int->Vw) (lo:Nat),i+m=l.l.length →
 RowM o bs c f n nb cs al ps ks vC vA vP vK->RowI c cs al L f n ps Hh->sZ i cs al ps.length ks n →
 (∃ h',Cd E dM aW (.loop [1,2,3,7,9,10,11,12,13,14,15] dL) (iT L l nb vC vA now vP vK i) ⟨bs,lo⟩=some (.ret,[(6,bl true)],h'))\/(∃ h',Cd E dM aW (.loop [1,2,3,7,9,10,11,12,13,14,15] dL) (iT L l nb vC vA now vP vK i) ⟨bs,lo⟩=some (.exit 0,[],h')):=by
 intro m;have key:=ax (E:=E) (T:=dM) (val:=aW) [1,2,3,7,9,10,11,12,13,14,15] dL;generalize Cd E dM aW (.loop [1,2,3,7,9,10,11,12,13,14,15] dL)=W at key ⊢;have n7:=λh=>(aG (E:=E) (T:=dM) (val:=aW) (f:=7) (by kernel_rfl)).trans (H.h7 h)
 induction m with
 | zero =>
  intro i o bs c f n nb cs al ps ks vC vA vP vK now Hh lo hi M I B;refine .inr ⟨⟨bs,lo⟩,?_⟩;rw [key];simp [iT,aT,dL,show ¬ ((i:Int)<l.l.length) from by omega]
 | succ m ih =>
  intro i o bs c f n nb cs al ps ks vC vA vP vK now Hh lo hi M I B;have hlt:i<l.l.length:=by omega
  have hlt':((i:Int)<l.l.length):=by omega
  have hx:=λh=>bv (z:=24) h (ab hlt) (cells:=Evt.c) rfl;have hwx:=hw _ (bj hlt);generalize l.l[i]=x at *;obtain ⟨b,hb⟩:=H.h8 x.edit hwx.2.1;have n8:=λh=>(aG (E:=E) (T:=dM) (val:=aW) (f:=8) (by kernel_rfl)).trans (hb h);cases b with
  | true =>
   refine .inl ⟨⟨bs++[.cells (x.c.map .d)],min lo bs.length⟩,?_⟩;rw [key];simp +decide [iT,aT,dL,hlt',hx,mM,mO,mP,mQ,mR,mU,mJ,n8,n7,az,put,ai]
  | false =>
  by_cases h4:(x.addrs.l.length:Int)>100
  . refine .inl ⟨⟨bs++[.cells (x.c.map .d)],min lo bs.length⟩,?_⟩;rw [key];simp +decide [iT,aT,dL,hlt',hx,mM,mO,mP,mQ,mR,mU,mJ,n8,n7,h4,az,put,ai]
  obtain ⟨o',bs',lo',c',f',n',nb',cs',al',ps',ks',vC',vA',vP',vK',now',ls,was,H',M',I',ho,hws,B',q⟩:=Ev H (now:=now) ⟨hx,hlt',n8,h4⟩ hwx M I B (by omega) lo;obtain ⟨b1,b2,b3,b4,b5,b6⟩:=B';obtain ⟨o2,bs2,lo2,vP2,M2,q2⟩:=WL H (l:=l) (now:=now') (i:=i) M' I' ho hws (by omega) (by omega) (by omega) (by omega) lo';have r:=ih (i+1) o2 bs2 c' f' n' nb' cs' al' (ps'++ls) ks' vC' vA' vP2 vK' now' H' lo2 (by omega) M2 I' ⟨b1,b2,by simpa using b3,b4,b5,b6⟩;have e:W (iT L l nb vC vA now vP vK i) ⟨bs,lo⟩=W (iT L l nb' vC' vA' now' vP2 vK' (i+1)) ⟨bs2,lo2⟩:=by
   rw [key,q W,q2 W]
  rw [e];exact r
include H in
theorem R13 (c:Cfg)(hc:CfgOk c)(L:Int)(l:Sl Evt)(hl:l.l.length<2 ^ 62)(hw:∀ x∈l.l,EvW x)(h:Hp):Sm E dM aW 3 [c.v,.d (u64 L),.d (l.d Evt.c)] h=some (bl true,h):=by
 have n4:=λh=>(aG (E:=E) (T:=dM) (val:=aW) (f:=4) (by kernel_rfl)).trans (H.h4 L h);have n7:=λh=>(aG (E:=E) (T:=dM) (val:=aW) (f:=7) (by kernel_rfl)).trans (H.h7 h);obtain ⟨b5,n5⟩:=H.h5 c hc.ok;have n5:=λh=>(aG (E:=E) (T:=dM) (val:=aW) (f:=5) (by kernel_rfl)).trans (n5 h);have n6:=λh=>(aG (E:=E) (T:=dM) (val:=aW) (f:=6) (by kernel_rfl)).trans (H.h6 c hc h);have y22:=z22 (mW L);have y22':=z22 fd0;have hlen:∀ h,mo false (.d (l.d Evt.c)) h=some (.d (i64 l.l.length),h):=λh=>by simp [Sl.d,mo,V.len]
 rw [aN lt3 lw3];cases hL:gu L with
 | false =>
  simp only [hL,cond_false] at n4;simp +decide [aa,r13,n4,n7,y22',ai]
 | true =>
 simp only [hL,cond_true] at n4;by_cases h1:(l.l.length:Int)>150
 . simp +decide [aa,r13,n4,n7,y22,h1,ai]
 cases b5 with
 | true=>simp +decide [aa,r13,n4,n5,n7,y22,h1,ai]
 | false =>
 cases hcm:bK c with
 | false =>
  rw [hcm] at n6;simp +decide [aa,r13,n4,n5,n6,n7,y22,h1,ai]
 | true =>
 rw [hcm] at n6;have hz:∀ p∈vw0.policies.l,p.wf big:=λp hp=>by cases hp
 have M:RowM (λb=>b) [.cells (c.c.map .d),.cells ((mW L).c.map .d),.cells ((Nde.c ⟨1,0,0,vw0,false⟩).map .d),.cells (c.c.map .d),.cells ((adC ⟨true,[]⟩).map .d)] c (mW L) ⟨1,0,0,vw0,false⟩ 2 [c] [⟨true,[]⟩] [] [] (.row 3 0 1 (some 1) 8) (.row 4 0 1 (some 1) 1) (.d (.slice true [])) (.d (.slice true [])):=by
  refine ⟨⟨rfl,rfl⟩,⟨rfl,rfl⟩,⟨rfl,rfl⟩,⟨by simp,.inr ⟨3,some 1,⟨rfl,?_⟩,rfl,.inr rfl⟩⟩,⟨by simp; rfl,.inr ⟨4,some 1,⟨rfl,?_⟩,rfl,.inr rfl⟩⟩,RAt.nil _ _ _ _,RAt.nil _ _ _ _⟩
  . simp [au,flat]
  . simp [au,flat]
 have I:RowI c [c] [⟨true,[]⟩] L (mW L) ⟨1,0,0,vw0,false⟩ [] λ_=>vw0 :=
  {node:=rfl,life:=rfl
   ok:=⟨⟨by show (0:Nat)<=big; decide,λ_=>rfl⟩,jL,hz,jL,hz⟩
   cur:=by simp
   cok:=λd hd=>by simp at hd; subst hd; exact ⟨hc,hcm⟩
   addrs:=by simp [mW]
   aok:=λa ha=>by simp at ha; subst ha; exact ⟨by show (0:Nat)<=big; decide,λ_=>rfl⟩
   inc:=by show (0:Int)<=1; decide
   seq:=⟨Int.le_refl _,by show (0:Int)<=_; decide⟩
   zero:=rfl
   hist:=λk h1 h2=>absurd (show k<=0 from h2) (by omega)
   top:=λk h1 h2=>absurd (show k<=0 from h2) (by omega)
   mono:=λj k h1 h2 h3=>absurd (show k<=0 from h3) (by omega)
   out:=.inl (by show (0:Int)≠1; decide)
   upon:=⟨Int.le_refl _,Int.le_refl _,rfl⟩
   psh:=λp hp=>by cases hp
   whole:=λh=>by cases h
   part:=λ_=>⟨rfl,rfl⟩
   vok:=⟨jL,hz⟩ }
 have q:=WK H (l:=l) (by omega) hw l.l.length 0 _ _ _ _ _ _ _ _ _ _ _ _ _ _ 0 _ 0 (by omega) M I ⟨by simp,by simp,by simp,by simp,by show (0:Int)<=1; decide,by show (1:Int)<=0+1; decide⟩;have hN:(Nde.c ⟨1,0,0,vw0,false⟩).map V.d=[.d (.int .u64 1),.d (.int .u64 0),.d (.int .u64 0),.d (.int .u64 0),.d (.slice true []),.d (.slice true []),.d (.slice true []),.d (.slice true []),.d (.slice true []),.d (.bool false)]:=rfl;have hA:(adC ⟨true,[]⟩).map V.d=[.d (.slice true [])]:=rfl;have ez:((0:Nat):Int)=0:=rfl;simp only [hN,hA,iT,ez] at q;have hz8:put [V.d (.int .u64 0),.d (.int .u64 0),.d (i64 0),.d (i64 0),.d (.slice true []),.d (.slice true []),.d (.slice true []),.d (.slice true [])] 0 (c.c.map .d)=some (c.c.map .d):=rfl;simp +decide [aa,r13,n4,n5,n6,n7,y22,h1,hz8,zB,xE,az,put,ai];rw [aj];simp +decide [aT];obtain ⟨h',q⟩ | ⟨h',q⟩:=q
 . simp [q]
 . simp [q,n7]
end
end
section
section
variable {E:Calls'}(H:FeedH E)
include H in
theorem Rt (x:Fd)(hx:FdOk x)(now:Int)(a0 a1 a2:Blk)(lo:Nat):Sm E TF bV 28 [x.v,.d (u64 now)] ⟨[a0,a1,a2],lo⟩=some (.ptr 4 0,⟨[a0,a1,a2,.cells (x.own.c.map .d),.cells (Fw x.own now)],min lo 3⟩):=by
 have n1:=λh=>ek (E:=E) (T:=TF) (val:=bV) (cells:=bn) Fq Fu (by decide) (by decide) (λ_=>rfl) hx.addrs h;have n2:∀ h,Sm E TF bV 33 [x.sent.v] h=some (x.sent.own.v,h):=λh=>by rw [aG Dt]; exact H.h66 x.sent hx.sent h
 have n3:∀ h,Sm E TF bV 33 [x.base.v] h=some (x.base.own.v,h):=λh=>by rw [aG Dt]; exact H.h66 x.base hx.base h
 have e1:({ x with sent:=x.sent.own,base:=x.base.own }:Fd)=x.own:=rfl;have hf:∀ {ev:X->V} {p q:X},ev p=ag x.own.c->ev q=.d (u64 now)->az ev [.d (i64 0),.d (.int .u64 0),.d (.int .u64 0),.d (.int .u64 0),.d (.slice true []),.d (.int .u64 0),.d (i64 0),.d (.int .u64 0),.d (.slice true []),.d (.slice true []),.d (.slice true []),.d (.slice true []),.d (.slice true []),.d (.int .u64 0),.d (.int .u64 0),.d (.slice true []),.d (.slice true []),.d (.slice true []),.d (.slice true []),.d (.slice true []),.d (.int .u64 0),.d (.int .u64 0),.d (.int .u64 0)] [(0,22,p),(22,1,q)]=some (Fw x.own now):=λhp hq=>wG rfl hp hq;rw [av J8 Ka];simp +decide [aa,Ij,n1,n2,n3,e1,hf,aA,ae,V.under]
include H in
theorem Q3 (w:Fd)(hw:FdOk w)(now:Int)(m1:aY w.base=true)(m2:aY w.sent=true)(a0 a1 a2 a3 a5 a6 a7:Blk)(lo:Nat):Sm E TF bV 34 [.ptr 4 0] ⟨[a0,a1,a2,a3,.cells (Fw w now),a5,a6,a7],lo⟩ =
 some (.row 9 0 1 (some 1) 14,⟨[a0,a1,a2,a3,.cells (Fw w now),a5,a6,a7,.cells ((bC w.base w.sent).c.map .d),.cells ((dH w (bC w.base w.sent)).c.map .d)],min lo 8⟩):=by
 have n1:∀ h,Sm E TF bV 86 [w.base.v,w.sent.v] h=some (.tup [ag (bC w.base w.sent).c,.d (i64 0)],h):=λh=>by rw [aG Nz]; exact H.h58 _ _ hw.base hw.basew hw.sent hw.sentw m1 m2 h
 have z10:=Qa;have hs:∀ x:Dlt,sub (x.c.map V.d) 0 10=some (x.c.map V.d):=λ_=>rfl;have hf:∀ {ev:X->V} {a b c d x:X},ev a=.d (u64 w.life)->ev b=.d (u64 w.inc)->ev c=.d (u64 w.seq)->ev d=.d (u64 w.upon)->ev x=ag (bC w.base w.sent).c->az ev [.d (.int .u64 0),.d (.int .u64 0),.d (.int .u64 0),.d (.int .u64 0),.d (.int .u64 0),.d (.slice true []),.d (.slice true []),.d (.slice true []),.d (.slice true []),.d (.slice true []),.d (.slice true []),.d (.slice true []),.d (.slice true []),.d (.slice true [])] [(0,1,a),(1,1,b),(2,1,c),(3,1,d),(4,10,x)]=some ((dH w (bC w.base w.sent)).c.map .d):=λh1 h2 h3 h4 h5=>wH (p:=dH w (bC w.base w.sent)) rfl h1 h2 h3 h4 h5;have hl:((dH w (bC w.base w.sent)).c.map V.d).length=14:=rfl;have hg:∀ {ev:X->V} {a:X},ev a=ag (dH w (bC w.base w.sent)).c->az ev [.d (.int .u64 0),.d (.int .u64 0),.d (.int .u64 0),.d (.int .u64 0),.d (.int .u64 0),.d (.slice true []),.d (.slice true []),.d (.slice true []),.d (.slice true []),.d (.slice true []),.d (.slice true []),.d (.slice true []),.d (.slice true []),.d (.slice true [])] [(0,14,a)]=some ((dH w (bC w.base w.sent)).c.map .d):=λh1=>by simp only [az,h1,oJ,hl,if_true]; rfl
 rw [av Fs Fv];generalize bC w.base w.sent=d at *;simp +decide [aa,D5,n1,z10,hs,hf,hg,aA,ae,V.under]
include H in
theorem QY (w:Fd)(hw:FdOk w)(c:Cfg)(hc:CfgOk c)(now:Int):∃ w' l,GoOn c now w w' l/\FdOk w' ∧
 ((l=[]/\w'=w/\∀ a0 a1 a2 a3 lo,Sm E TF bV 29 [.ptr 4 0,c.v] ⟨[a0,a1,a2,a3,.cells (Fw w now)],lo⟩=some (.tup [w.v,.d (.slice true [])],⟨[a0,a1,a2,a3,.cells (Fw w now)],lo⟩)) ∨
 (∃ p,l=[p]/\∀ a0 a1 a2 a3 lo,∃ b6 b7 b8 b9,Sm E TF bV 29 [.ptr 4 0,c.v] ⟨[a0,a1,a2,a3,.cells (Fw w now)],lo⟩=some (.tup [w'.v,.row 9 0 1 (some 1) 14],⟨[a0,a1,a2,a3,.cells (Fw w' now),b6,b7,b8,b9,.cells (p.c.map .d)],min lo 4⟩))):=by
 obtain ⟨v,e,hO,n1⟩:=H51 H c hc ⟨w.node,w.addrs⟩ hw.addrs;obtain ⟨hv,hvw,hvm⟩:=hO.of hc;have n1':∀ h,Sm E TF bV 35 [c.v,.agg [.d (i64 w.node),.d (w.addrs.d bn)]] h=some (.tup [v.v,.d (i64 e)],h):=n1;have n2:∀ h,Sm E TF bV 36 [w.base.v,v.v] h=some (bl (w.base.same v),h):=λh=>by rw [aG X3]; exact H.h60 _ _ hw.base h
 have n3:∀ h,Sm E TF bV 74 [w.base.v] h=some (bl (aY w.base),h):=λh=>by rw [aG X4]; exact H.h62 _ hw.base hw.basew h
 have y22:=z22;have y6:=z6v;by_cases h1:e=0
 case neg =>
  refine ⟨w,[],⟨v,e,hO,.inl ⟨by simp [fV,h1],rfl,rfl⟩⟩,hw,.inl ⟨rfl,rfl,λa0 a1 a2 a3 lo=>?_⟩⟩;rw [av iD iE];simp +decide [aa,kL,n1',y22,y6,h1,az,aA,ae,bA,V.under,V.under.go,bP]
 by_cases h2:w.inc=0
 case pos =>
  refine ⟨w,[],⟨v,e,hO,.inl ⟨by simp [fV,h1,h2],rfl,rfl⟩⟩,hw,.inl ⟨rfl,rfl,λa0 a1 a2 a3 lo=>?_⟩⟩;rw [av iD iE];simp +decide [aa,kL,n1',y22,y6,h1,h2,az,aA,ae,bA,V.under,V.under.go,bP]
 by_cases h3:w.out=0
 case neg =>
  refine ⟨w,[],⟨v,e,hO,.inl ⟨by simp [fV,h1,h2,h3],rfl,rfl⟩⟩,hw,.inl ⟨rfl,rfl,λa0 a1 a2 a3 lo=>?_⟩⟩;rw [av iD iE];simp +decide [aa,kL,n1',y22,y6,h1,h2,h3,az,aA,ae,bA,V.under,V.under.go,bP]
 have go:∀ hst:fV w v e=false,(∀ a0 a1 a2 a3 lo,∃ b6 b7 b8 b9,Sm E TF bV 29 [.ptr 4 0,c.v] ⟨[a0,a1,a2,a3,.cells (Fw w now)],lo⟩=some (.tup [(bN w v now).v,.row 9 0 1 (some 1) 14],⟨[a0,a1,a2,a3,.cells (Fw (bN w v now) now),b6,b7,b8,b9,.cells ((dH (bN w v now) (bC w.base v)).c.map .d)],min lo 4⟩)) →
  ∃ w' l,GoOn c now w w' l/\FdOk w' ∧
  ((l=[]/\w'=w/\∀ a0 a1 a2 a3 lo,Sm E TF bV 29 [.ptr 4 0,c.v] ⟨[a0,a1,a2,a3,.cells (Fw w now)],lo⟩=some (.tup [w.v,.d (.slice true [])],⟨[a0,a1,a2,a3,.cells (Fw w now)],lo⟩)) ∨
  (∃ p,l=[p]/\∀ a0 a1 a2 a3 lo,∃ b6 b7 b8 b9,Sm E TF bV 29 [.ptr 4 0,c.v] ⟨[a0,a1,a2,a3,.cells (Fw w now)],lo⟩=some (.tup [w'.v,.row 9 0 1 (some 1) 14],⟨[a0,a1,a2,a3,.cells (Fw w' now),b6,b7,b8,b9,.cells (p.c.map .d)],min lo 4⟩))):=λhst k =>
  ⟨bN w v now,[dH (bN w v now) (bC w.base v)],⟨v,e,hO,.inr ⟨hst,rfl,rfl⟩⟩,⟨hw.addrs,hv,hvw,hw.base,hw.basew⟩,.inr ⟨_,rfl,k⟩⟩
 have hnx:({ w with seq:=wrap .u64 (w.seq+1),sent:=v,out:=1,since:=now }:Fd)=bN w v now:=rfl;have push:∀ (m1:aY w.base=true) (a0 a1 a2 a3 a5 a6 a7:Blk) (lo:Nat),Sm E TF bV 34 [.ptr 4 0] ⟨[a0,a1,a2,a3,.cells (Fw (bN w v now) now),a5,a6,a7],lo⟩=_:=λm1 a0 a1 a2 a3 a5 a6 a7 lo =>
  Q3 H (bN w v now) ⟨hw.addrs,hv,hvw,hw.base,hw.basew⟩ now m1 (hvm h1) a0 a1 a2 a3 a5 a6 a7 lo
 have hpb:(bN w v now).base=w.base:=rfl;have hps:(bN w v now).sent=v:=rfl;simp only [hpb,hps] at push;by_cases h4:w.upon=0
 . cases h5:aY w.base with
   | false =>
    rw [h5] at n3;refine ⟨w,[],⟨v,e,hO,.inl ⟨by simp [fV,h1,h2,h3,h4,h5],rfl,rfl⟩⟩,hw,.inl ⟨rfl,rfl,λa0 a1 a2 a3 lo=>?_⟩⟩;rw [av iD iE];simp +decide [aa,kL,n1',n3,y22,y6,h1,h2,h3,h4,az,aA,ae,bA,V.under,V.under.go,bP]
   | true =>
    rw [h5] at n3;by_cases h6:w.seq>=4611686018427387903
    case pos =>
     refine ⟨w,[],⟨v,e,hO,.inl ⟨by simp [fV,h1,h2,h3,h4,h5,h6],rfl,rfl⟩⟩,hw,.inl ⟨rfl,rfl,λa0 a1 a2 a3 lo=>?_⟩⟩;rw [av iD iE];simp +decide [aa,kL,n1',n3,y22,y6,h1,h2,h3,h4,h6,az,aA,ae,bA,V.under,V.under.go,bP]
    have hnx0:({ w with seq:=wrap .u64 (w.seq+1),sent:=v,out:=1,since:=now,upon:=0 }:Fd)=bN w v now:=by unfold bN; rw [← h4]
    refine go (by simp [fV,h1,h2,h3,h4,h5,h6]) λa0 a1 a2 a3 lo=>⟨.cells (c.c.map .d),.cells ((bN w v now).c.map .d),.cells (v.c.map .d),.cells ((bC w.base v).c.map .d),?_⟩;rw [av iD iE];simp +decide [aa,kL,n1',n3,y22,y6,h1,h2,h3,h4,h6,hnx0,push h5,az,aA,ae,bA,V.under,V.under.go,bP];try rfl
 . cases h7:w.base.same v with
   | true =>
    rw [h7] at n2;refine ⟨w,[],⟨v,e,hO,.inl ⟨by simp [fV,h1,h2,h3,h4,h7],rfl,rfl⟩⟩,hw,.inl ⟨rfl,rfl,λa0 a1 a2 a3 lo=>?_⟩⟩;rw [av iD iE];simp +decide [aa,kL,n1',n2,y22,y6,h1,h2,h3,h4,az,aA,ae,bA,V.under,V.under.go,bP]
   | false =>
    rw [h7] at n2;cases h5:aY w.base with
    | false =>
     rw [h5] at n3;refine ⟨w,[],⟨v,e,hO,.inl ⟨by simp [fV,h1,h2,h3,h4,h5,h7],rfl,rfl⟩⟩,hw,.inl ⟨rfl,rfl,λa0 a1 a2 a3 lo=>?_⟩⟩;rw [av iD iE];simp +decide [aa,kL,n1',n2,n3,y22,y6,h1,h2,h3,h4,az,aA,ae,bA,V.under,V.under.go,bP]
    | true =>
     rw [h5] at n3;by_cases h6:w.seq>=4611686018427387903
     case pos =>
      refine ⟨w,[],⟨v,e,hO,.inl ⟨by simp [fV,h1,h2,h3,h4,h5,h6,h7],rfl,rfl⟩⟩,hw,.inl ⟨rfl,rfl,λa0 a1 a2 a3 lo=>?_⟩⟩;rw [av iD iE];simp +decide [aa,kL,n1',n2,n3,y22,y6,h1,h2,h3,h4,h6,az,aA,ae,V.under,V.under.go,bP]
     refine go (by simp [fV,h1,h2,h3,h4,h5,h6,h7]) λa0 a1 a2 a3 lo=>⟨.cells (c.c.map .d),.cells ((bN w v now).c.map .d),.cells (v.c.map .d),.cells ((bC w.base v).c.map .d),?_⟩;rw [av iD iE];simp +decide [aa,kL,n1',n2,n3,y22,y6,h1,h2,h3,h4,h6,hnx,push h5,az,aA,ae,V.under,V.under.go,bP];try rfl
theorem ftC:TF 10=some r86:=by kernel_rfl
theorem fvC:bV 10=true:=by kernel_rfl
theorem d9 (a0 a1 a2 a3 a4 a5 a6 a7 a8:Blk)(p:Psh)(lo:Nat):dataV ⟨[a0,a1,a2,a3,a4,a5,a6,a7,a8,.cells (p.c.map .d)],lo⟩ 8 (.row 9 0 1 (some 1) 14)=some (fG [p]) :=
 bB (h:=⟨[a0,a1,a2,a3,a4,a5,a6,a7,a8,.cells (p.c.map .d)],lo⟩) (k:=7) (b:=9) (n:=1) (cap:=some 1) (z:=14) (es:=[p.c]) (rest:=[]) (by simp [flat]) rfl rfl
include H in
theorem bb6 (f:Fd)(hf:FdOk f)(c:Cfg)(hc:CfgOk c)(now:Int):∃ f' l,GoOn c now f.own f' l/\FdOk f'/\∀ h,Sm E TF bV 10 [f.v,c.v,.d (u64 now)] h=some (.tup [f'.v,.d (fG l)],h):=by
 have n1:=λa0 a1 a2 lo=>Rt H f hf now a0 a1 a2 lo;have y22:=z22;have nil0:V.d (fG [])=.d (.slice true []):=rfl;obtain ⟨f',l,hg,hf',hr⟩:=QY H f.own (Fd.own_ok hf) c hc now;refine ⟨f',l,hg,hf',λh=>?_⟩;obtain ⟨rfl,rfl,hr⟩ | ⟨p,rfl,hr⟩:=hr
 . rw [aN ftC fvC];simp +decide [aa,r86,n1,y22,hr,aA,ae,bA,V.under,ai];rfl
 . obtain ⟨b5,b6,b7,b8,hr⟩:=hr (.cells (f.c.map .d)) (.cells (c.c.map .d)) (.cells fdZ) (.cells (f.own.c.map .d)) 5;simp only [fdZ] at hr;rw [aN ftC fvC];simp +decide [aa,r86,n1,y22,hr,aA,ae,bA,V.under,ai];rw [if_pos (by generalize uM _ _=kp; simp +decide [dE,Tr.spares,List.range,List.range.loop])];simp [V.under,d9]
end
section
variable {E:Calls'}
theorem ftN:TF 4=some r79:=by kernel_rfl
theorem fvN:bV 4=true:=by kernel_rfl
theorem bb5 (L:Int)(h:Hp):Sm E TF bV 4 [.d (i64 2),.d (u64 L)] h=some (cond (gu L) (.tup [(mW L).v,.d (i64 0)]) (.tup [fd0.v,.d (i64 1)]),h):=by
 have n1:=λh=>QX (E:=E) L h;have y22:=z22 (mW L);have y0:=z22 fd0;have e1:(mW L).c.map V.d=[.d (i64 2),.d (u64 L),.d (.int .u64 0),.d (.int .u64 0),.d (.slice true []),.d (.int .u64 0),.d (i64 0),.d (.int .u64 0),.d (.slice true []),.d (.slice true []),.d (.slice true []),.d (.slice true []),.d (.slice true []),.d (.int .u64 0),.d (.int .u64 0),.d (.slice true []),.d (.slice true []),.d (.slice true []),.d (.slice true []),.d (.slice true []),.d (.int .u64 0),.d (.int .u64 0)]:=rfl;have e0:fd0.c.map V.d=[.d (i64 0),.d (.int .u64 0),.d (.int .u64 0),.d (.int .u64 0),.d (.slice true []),.d (.int .u64 0),.d (i64 0),.d (.int .u64 0),.d (.slice true []),.d (.slice true []),.d (.slice true []),.d (.slice true []),.d (.slice true []),.d (.int .u64 0),.d (.int .u64 0),.d (.slice true []),.d (.slice true []),.d (.slice true []),.d (.slice true []),.d (.slice true []),.d (.int .u64 0),.d (.int .u64 0)]:=rfl;rw [aN ftN fvN];rw [e1] at y22;rw [e0] at y0;cases hL:gu L with
 | false =>
  rw [hL] at n1;simp +decide [aa,r79,n1,y0,az,put,storeAt,sub,Hp.set,ai];rfl
 | true =>
  rw [hL] at n1;simp +decide [aa,r79,n1,y22,az,put,storeAt,sub,Hp.set,ai];rfl
end
end
