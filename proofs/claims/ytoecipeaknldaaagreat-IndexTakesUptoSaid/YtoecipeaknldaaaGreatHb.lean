/- What a push makes of an index, by the program and by the document: the same. -/
import Derived.Test.YtoecipeaknldaaaGreatEp
set_option maxRecDepth 100000
set_option linter.unusedVariables false
set_option linter.unusedSimpArgs false
namespace Go.Proofs.YtoecipeaknldaaaGreat
section
theorem Vsm.of {a b:Vw}(h0:a.epoch=b.epoch)(h1:a.covers.l=b.covers.l)(h2:a.pods.l=b.pods.l)(h3:a.services.l=b.services.l)(h4:a.bound.l=b.bound.l)(h5:a.policies.l.map Pol.nf=b.policies.l.map Pol.nf):Vsm a b :=
 ⟨h0,h1,by simp only [Vw.cfg,Cfg.nf,Sl.nf,h2,h3,h4,h5]⟩
theorem fH (l:List Pol):(l.map Pol.own).map Pol.nf=l.map Pol.nf:=by
 rw [List.map_map]; exact List.map_congr_left λp _=>Pol.own_nf p
theorem fP (l:List Pol):(l.map Pol.cp).map Pol.nf=l.map Pol.nf:=by
 rw [List.map_map]; exact List.map_congr_left λp _=>Pol.cp_nf p
theorem CF {l l' fresh:List Pol}{gone:List Int}(h:l.map Pol.nf=l'.map Pol.nf):(bL Pol.id l fresh gone).map Pol.nf=(bL Pol.id l' fresh gone).map Pol.nf:=by
 rw [zX (f:=Pol.nf) (λ_=>rfl),zX (f:=Pol.nf) (λ_=>rfl),h]
def AO (y:Idx)(a w1 w2 w3 w4 w5:V):Idx:={ y with addrs:=⟨gu a,y.addrs.l⟩,view:=VwD y.view.epoch y.view.covers.l y.view.pods.l y.view.services.l y.view.bound.l y.view.policies.l w1 w2 w3 w4 w5 }
theorem IdxM.fz {L0:Nat}{tag:Nat->Nat}{bs:List Blk}{y:Idx}{a w1 w2 w3 w4 w5:V}(S:IdxM L0 tag bs y a w1 w2 w3 w4 w5)(m:List Blk)(lo:Nat)(h:∀ z,L0<=z->z<bs.length->m[z]?=bs[z]?) :
 frz ⟨m,lo⟩ (.agg (aD y a w1 w2 w3 w4 w5))=some (AO y a w1 w2 w3 w4 w5).v:=by
 have hK:∀ z,TgA L0 bs.length tag z->m[z]?=bs[z]?:=λz hz=>h z hz.1 hz.2.1;have h0:=(((S.r0.all (by decide)).hngD (f:=bz) (λ_=>rfl)) m lo hK 8 (by decide)).1;have h1:=S.vw.fz y.view.epoch m lo h;rw [jW];simp only [ah,bP,List.mapM_cons,List.mapM_nil] at h1;simp only [aD,bP,List.mapM_cons,List.mapM_nil,h0]
 revert h1
 cases dataV ⟨m,lo⟩ 8 w1<;>cases dataV ⟨m,lo⟩ 8 w2<;>cases dataV ⟨m,lo⟩ 8 w3<;>cases dataV ⟨m,lo⟩ 8 w4<;>cases dataV ⟨m,lo⟩ 8 w5<;>simp [dataV];intro e1;rw [Idx.v,Idx.c,show (AO y a w1 w2 w3 w4 w5).view.c=(VwD y.view.epoch y.view.covers.l y.view.pods.l y.view.services.l y.view.bound.l y.view.policies.l w1 w2 w3 w4 w5).c from rfl,← e1];rfl
theorem zm {v v':Vw}{d:Dlt}(hm:bg v=bg v')(h2:v.pods.l=v'.pods.l)(h3:v.services.l=v'.services.l)(h4:v.bound.l=v'.bound.l)(h5:v.policies.l.map Pol.nf=v'.policies.l.map Pol.nf):jf v d=jA v' d:=by
 have hp:bg (cz v d)=bg (lm v' d):=by
  rw [← eZ,← eZ (lm v' d)]
  congr 1
  simp only [cz,lm,Vw.nf,Sl.nf,bY,h2,h3,h4,fH,fP,CF h5]
 unfold jf jA;rw [hm,hp]
theorem Jl (v:Vw):bg v.own=bg v:=by
 rw [← eZ,← eZ v]
 congr 1
 simp only [Vw.own,Vw.nf,Sl.nf,fH]
theorem D6 (v:Vw):bg v.own17=bg v:=by
 rw [← eZ,← eZ v]
 congr 1
 simp only [Vw.own17,Vw.nf,Sl.nf,bY,fT,fP]
theorem take_same (x:Idx)(p:Psh)(a w1 w2 w3 w4 w5:V):Ism (AO (bG x p).1 a w1 w2 w3 w4 w5) (aS x.own19 p).1/\(bG x p).2=(aS x.own19 p).2:=by
 have hb:jf (lH x.own19 p) p.delta=jA (takeB x p) p.delta:=by
  unfold lH takeB;split
  . exact zm rfl rfl rfl rfl rfl
  . exact zm ((D6 _).trans (Jl _).symm) rfl rfl rfl (by show ((bY (x.view.policies.l.map Pol.cp)).l).map Pol.nf=(x.view.policies.l.map Pol.own).map Pol.nf; rw [fH]; exact fP _)
 have hbase:Ism (AO x a w1 w2 w3 w4 w5) x.own19.own19:=⟨rfl,rfl,rfl,rfl,rfl,rfl,rfl,rfl,Vsm.of rfl rfl rfl rfl rfl (by
  show (x.view.policies.l.map Pol.own).map Pol.nf=(((x.view.policies.l.map Pol.cp)).map Pol.cp).map Pol.nf;rw [fH,fP,fP])⟩
 have hd:aS x.own19 p=(if p.inc≠x.inc\/p.life=0\/p.life<x.life\/p.seq=0\/(p.life=x.life/\p.seq<x.seq) then (x.own19.own19,[])
  else if p.life=x.life/\p.seq=x.seq then (x.own19.own19,[⟨p.life,p.inc,p.seq,1⟩])
  else if (p.upon=0\/(p.life=x.life/\p.upon=x.seq))/\x.high<=p.delta.epoch/\jf (lH x.own19 p) p.delta=true then ({ x.own19.own19 with life:=p.life,seq:=p.seq,view:=cz (lH x.own19 p) p.delta,high:=p.delta.epoch },[⟨p.life,p.inc,p.seq,1⟩])
  else (x.own19.own19,[⟨p.life,p.inc,p.seq,0⟩])):=rfl
 rw [hd,hb];unfold bG;by_cases c1:p.inc≠x.inc\/p.life=0\/p.life<x.life\/p.seq=0\/(p.life=x.life/\p.seq<x.seq)
 . simp only [if_pos c1];exact ⟨hbase,trivial⟩
 simp only [if_neg c1];by_cases c2:p.life=x.life/\p.seq=x.seq
 . simp only [if_pos c2];exact ⟨hbase,trivial⟩
 simp only [if_neg c2];by_cases c3:(p.upon=0\/(p.life=x.life/\p.upon=x.seq))/\x.high<=p.delta.epoch/\jA (takeB x p) p.delta=true
 . simp only [if_pos c3];refine ⟨⟨rfl,rfl,rfl,rfl,rfl,rfl,rfl,rfl,?_⟩,trivial⟩;show Vsm (VwD p.delta.epoch p.delta.covers.l _ _ _ _ _ _ _ _ _) (cz (lH x.own19 p) p.delta);unfold lH takeB;split
   . exact Vsm.of rfl rfl rfl rfl rfl (by
      show ((qy vw0 p.delta).policies.l.map Pol.own).map Pol.nf=((bL Pol.id vw0.policies.l p.delta.policies.l p.delta.gonePolicies.l).map Pol.cp).map Pol.nf;rw [fH,fP]; rfl)
   . exact Vsm.of rfl rfl rfl rfl rfl (by
      show ((bL Pol.id (x.view.policies.l.map Pol.own) p.delta.policies.l p.delta.gonePolicies.l).map Pol.own).map Pol.nf=((bL Pol.id (x.view.policies.l.map Pol.cp) p.delta.policies.l p.delta.gonePolicies.l).map Pol.cp).map Pol.nf;rw [fH,fP];exact CF (by rw [fH,fP]))
 . simp only [if_neg c3];exact ⟨hbase,trivial⟩
end
section
variable {E:Calls'}
theorem Ir {T:FuncId->Option QF}{val:FuncId->Bool}{f:FuncId}{q:QF}(ht:T f=some q)(hv:val f=true){l p:List D}{x:D}(hp:∀ d∈p,∀ nl es,d≠.slice nl es)(h0:∀ h,Sm E T val f [ag l,.d x] h=some (ag p,h)){a:V}{h:Hp}(ha:frz h a=some (ag l)):Sm E T val f [a,.d x] h=some (ag p,h):=by
 have h1:=h0 h;rw [aQ ht hv] at h1 ⊢;simp only [List.mapM_cons,List.mapM_nil,oq,xx,ha,Option.pure_def,Option.bind_eq_bind,Option.bind_some,nD,vU] at h1 ⊢;cases hB:Bd E T val q [ag l,.d x] ⟨[],0⟩ with
 | none=>rw [hB] at h1; cases h1
 | some o =>
  obtain ⟨r,h'⟩:=o;rw [hB] at h1;simp only [yH] at h1 ⊢;cases hr:frz h' r with
  | none=>rw [hr] at h1; cases h1
  | some r' =>
   rw [hr] at h1;have e1:r'=ag p:=by
    simp at h1; exact h1
   subst e1;have hrr:r=ag p:=by
    cases r with
    | tup vs =>
     simp only [frz] at hr;split at hr<;>cases hr
    | _=>exact ww (h:=h') hp hr
   subst hrr;have ho:ownR h' (ag p)=true:=by
    show (p.map V.d).all (mq h' 8)=true;rw [cj];intro v hv;obtain ⟨d,hd,rfl⟩:=b9.1 hv;cases d with
    | slice nl es=>exact absurd rfl (hp _ hd nl es)
    | _=>rfl
   simp [ho]
def Vy:List (Nat×QF):=[(5,q17),(4,q20),(12,q25),(13,q26),(15,q28)]
def TDr:FuncId->Option QF:=iN Vy
def lD (f:FuncId):Bool:=[5,4,12,13,15].any λn=>Nat.beq n f
theorem Q7:TDr 5=some q17:=by kernel_rfl
theorem Q8:TDr 4=some q20:=by kernel_rfl
theorem Q9:TDr 12=some q25:=by kernel_rfl
theorem Zf:TDr 13=some q26:=by kernel_rfl
theorem Zg:TDr 15=some q28:=by kernel_rfl
structure LookE (E:Calls'):Prop where
 e46:∀ c:Cfg,c.ok->∀ n h,E 33 [c.v,.d (u64 n)] h=some (.d (i64 (gY c.pods.l λp=>p.uid==n)),h)
 e70:∀ v:Vw,v.ok->∃ b:Bool,∀ h,E 18 [v.v] h=some (bl b,h)
 e72:∀ v:Vw,v.ok->∀ (x:Pod) h,E 34 [v.v,x.v] h=some (.d (Sl.d Pol.c ⟨(mo v x).isEmpty,mo v x⟩),h)
 e73:∀ v:Vw,v.ok->∀ n h,E 29 [v.v,.d (u32 n)] h=some ((mD v n).v,h)
 e74:∀ v:Vw,v.ok->∀ n h,E 30 [v.v,.d (u32 n)] h=some ((mD v n).v,h)
 e79:∀ d:Dlt,∀ h,E 19 [d.v] h=some (d.vw.v,h)
def mi (x:Idx)(n:Int):Fnd:=if x.seq=0 then fnd0 else mD x.view n
theorem S25 (H:LookE E)(x:Idx)(hv:x.view.ok)(n:Int)(h:Hp):Sm E TDr lD 12 [x.v,.d (u32 n)] h=some ((mi x n).v,h):=by
 have n1:=λh=>(aU (E:=E) (T:=TDr) (val:=lD) (f:=29) (by kernel_rfl)).trans (H.e73 x.view hv n h);have e2:(x.view.v:V)=ag x.view.c:=rfl;rw [e2] at n1;rw [aQ Q9 rfl];by_cases c:x.seq=0
 . simp [aa,q25,jY,c,mi,aB,fnd0];try rfl
 . simp [aa,q25,jY,kS,c,mi,n1];try rfl
theorem S26 (H:LookE E)(x:Idx)(hv:x.view.ok)(n:Int)(h:Hp):Sm E TDr lD 13 [x.v,.d (u32 n)] h=some ((mi x n).v,h):=by
 have n1:=λh=>(aU (E:=E) (T:=TDr) (val:=lD) (f:=30) (by kernel_rfl)).trans (H.e74 x.view hv n h);have e2:(x.view.v:V)=ag x.view.c:=rfl;rw [e2] at n1;rw [aQ Zf rfl];by_cases c:x.seq=0
 . simp [aa,q26,jY,c,mi,aB,fnd0];try rfl
 . simp [aa,q26,jY,kS,c,mi,n1];try rfl
theorem S20 (H:LookE E)(x:Idx)(hv:x.view.ok):∃ b:Bool,∀ h,Sm E TDr lD 4 [x.v] h=some (bl b,h):=by
 obtain ⟨b,hb⟩:=H.e70 x.view hv;have n1:=λh=>(aU (E:=E) (T:=TDr) (val:=lD) (f:=18) (by kernel_rfl)).trans (hb h);have e2:(x.view.v:V)=ag x.view.c:=rfl;have ix_3:sub (x.c.map V.d) 3 1=some [.d (x.addrs.d bz)]:=rfl;rw [e2] at n1;by_cases c:1000<(x.addrs.l.length:Int)
 . refine ⟨true,λh=>?_⟩;rw [aQ Q8 rfl];simp [aa,q20,ix_3,c]
 . refine ⟨b,λh=>?_⟩;rw [aQ Q8 rfl];simp [aa,q20,ix_3,kS,c,n1]
theorem S17 (H:LookE E)(d:Dlt)(hd:d.ok):∃ b:Bool,∀ h,Sm E TDr lD 5 [d.v] h=some (bl b,h):=by
 have n79:=λh=>(aU (E:=E) (T:=TDr) (val:=lD) (f:=19) (by kernel_rfl)).trans (H.e79 d h);obtain ⟨b,hb⟩:=H.e70 d.vw hd.1;have n70:=λh=>(aU (E:=E) (T:=TDr) (val:=lD) (f:=18) (by kernel_rfl)).trans (hb h);cases b with
 | true =>
  refine ⟨true,λh=>?_⟩;rw [aQ Q7 rfl];simp [aa,q17,n79,n70]
 | false =>
  refine ⟨decide (IntKind.wrap .i64 (IntKind.wrap .i64 (IntKind.wrap .i64 ((d.gonePods.l.length:Int)+d.goneServices.l.length)+d.goneBound.l.length)+d.gonePolicies.l.length)>1000),λh=>?_⟩;rw [aQ Q7 rfl];simp +decide [aa,q17,n79,n70]
def fA (x:Idx)(n:Int):Option Pod:=if x.seq=0 then none else x.view.pods.l.find? λp=>p.uid==n
theorem S28 (H:LookE E)(x:Idx)(hv:x.view.ok)(n:Int)(h:Hp):Sm E TDr lD 15 [x.v,.d (u64 n)] h=some (.tup (match fA x n with | some p=>[p.v,.d (Sl.d Pol.c ⟨(mo x.view p).isEmpty,mo x.view p⟩),bl true] | none=>[pod0.v,.d (.slice true []),bl false]),h):=by
 have n46:=λh=>(aU (E:=E) (T:=TDr) (val:=lD) (f:=33) (by kernel_rfl)).trans (H.e46 ⟨0,0,0,0,x.view.pods,⟨true,[]⟩,⟨true,[]⟩,⟨true,[]⟩⟩ ⟨hv.2.1,⟨Nat.zero_le _,λ_=>rfl⟩,⟨Nat.zero_le _,λ_=>rfl⟩,⟨Nat.zero_le _,λ_=>rfl⟩,λp hp=>by cases hp⟩ n h);have n72:∀ y:Pod,∀ h,Sm E TDr lD 34 [ag x.view.c,ag y.c] h=_:=λy h=>(aU (by kernel_rfl)).trans (H.e72 x.view hv y h);have ec:(Cfg.v ⟨0,0,0,0,x.view.pods,⟨true,[]⟩,⟨true,[]⟩,⟨true,[]⟩⟩:V)=.agg [.d (.int .u64 0),.d (.int .u64 0),.d (i64 0),.d (i64 0),.d (x.view.pods.d Pod.c),.d (.slice true []),.d (.slice true []),.d (.slice true [])]:=rfl;rw [ec] at n46;have v2:sub (x.c.map V.d) 9 1=some [.d (x.view.pods.d Pod.c)]:=rfl;have ex:(x.view.v:V)=ag x.view.c:=rfl;rw [aQ Zg rfl];cases hfi:x.view.pods.l.findIdx? λp=>p.uid==n with
 | none =>
  have hf:x.view.pods.l.find? (λp=>p.uid==n)=none:=by
   rw [List.find?_eq_none];rw [List.findIdx?_eq_none_iff] at hfi;intro y hy;simpa using hfi y hy
  have hm:fA x n=none:=by unfold fA; split<;>simp [hf]
  have hi:gY x.view.pods.l (λp=>p.uid==n)=-1:=by unfold gY; rw [hfi]
  simp only [hi] at n46;simp [aa,q28,v2,n46,hm,aB,put];rfl
 | some k =>
  obtain ⟨hk,hq,hlt⟩:=List.findIdx?_eq_some_iff_getElem.1 hfi;have hx:=ab hk;have hf:x.view.pods.l.find? (λp=>p.uid==n)=some x.view.pods.l[k]:=by
   rw [List.find?_eq_some_iff_getElem];exact ⟨hq,k,hk,rfl,λj hj=>by simpa using hlt j hj⟩
  have hi:gY x.view.pods.l (λp=>p.uid==n)=k:=by unfold gY; rw [hfi]
  simp only [hi] at n46;by_cases c:x.seq=0
  . have hm:fA x n=none:=by unfold fA; rw [if_pos c]
    simp [aa,q28,v2,n46,hm,aB,put,jY,c];rfl
  . have hm:fA x n=some x.view.pods.l[k]:=by unfold fA; rw [if_neg c,hf]
    rw [hm];generalize x.view.pods.l[k]=y at *;have hsx:=λh=>av (z:=7) h hx (cells:=Pod.c) rfl;have hz:put [V.d (.int .u64 0),.d (.str ⟨#[]⟩),.d (.str ⟨#[]⟩),.d (.int .i64 0),.d (.int .u32 0),.d (.int .i64 0),.d (.int .u64 0)] 0 (y.c.map V.d)=some (y.c.map V.d):=rfl;have n72y:=n72 y;simp [aa,q28,v2,n46,aB,put,jY,kS,c,hsx,n72y,az,ae,aL,bu,Tr.mute,aA];rw [if_pos (by decide)];simp [put]
end
section
def Vz:List (Nat×QF):=[(14,q27),(32,q71),(72,Nz),(53,oI),(73,NA),(112,G7),(124,NT),(125,Tu),(168,JV)]
def TDy:FuncId->Option QF:=iN Vz
def kD (_:FuncId):Bool:=false
theorem I6:TDy 14=some q27:=by kernel_rfl
theorem Zh:TDy 32=some q71:=by kernel_rfl
theorem KS:TDy 72=some (keepQ 112 125 124):=by kernel_rfl
theorem Ra:TDy 53=some oI:=by kernel_rfl
theorem Rb:TDy 73=some NA:=by kernel_rfl
theorem FP:TDy 112=some (cloneQ 5 64 Em):=by kernel_rfl
theorem Rc:TDy 124=some (delQ 5 168 Lc):=by kernel_rfl
theorem Re:TDy 125=some (notQ 5):=by kernel_rfl
theorem Rf:TDy 168=some (idxQ 5):=by kernel_rfl
structure MineE (E:Calls'):Prop where
 e42:∀ c:Cfg,c.ok->∀ n a h,frz h a=some c.v->E 31 [a,.d (u64 n)] h=some (.tup (match c.pods.l.find? (λp=>p.uid==n) with | some p=>[p.v,bl true] | none=>[pod0.v,bl false]),h)
 e52:∀ (p:Pol) (x:Pod) h,E 74 [ag p.c,ag x.c] h=some (bl (cB p x.ns x.service),h)
 e113:∀ p:Pol,p.ok->∀ h,E 113 [ag p.c] h=some (ag p.own.c,h)
section
variable {E:Calls'}(H:MineE E)
include H
theorem Qj (p:Pol){x:Pod}{k:Nat}{h:Hp}(hk:ai h.bs k=some (x.c.map .d)):Sm E TDy kD 73 [ag p.c,.ptr k 0] h=some (bl (cB p x.ns x.service),h):=by
 have n1:=λh=>(aU (E:=E) (T:=TDy) (val:=kD) (f:=74) (by kernel_rfl)).trans (H.e52 p x h);rw [aT Rb rfl];simp [aa,NA,aj hk,n1,V.under]
theorem YU {l:List Pol}(hl:l.length<=big)(hok:∀ p∈l,p.ok)(x:Pod){bs:List Blk}{e:Int}{w1 w2 w3 w4 w5:V}{K:Nat->Prop}(hr:RowG K bs 5 (l.map λp=>p.c.map V.d) w5) :
 ∃ r bs',∃ F:Nat->Nat,(∀ lo,Sm E TDy kD 32 [.agg (ah e w1 w2 w3 w4 w5),ag x.c] ⟨bs,lo⟩=some (r,⟨bs',F lo⟩))/\bs.length<=bs'.length/\(∀ z,z<bs.length->bs'[z]?=bs[z]?)/\RowG (fD bs bs') bs' 5 ((l.filter λp=>cB p x.ns x.service).map oc) r/\∀ lo,bs.length<=lo->bs.length<=F lo:=by
 have ha:=(hr.arg2).lay [.cells (ah e w1 w2 w3 w4 w5),.cells (x.c.map .d)];have hs:short (⟨gu w5,l⟩:Sl Pol):=⟨hl,λh=>hr.short h⟩;have gx:∀ m:List Blk,(∀ z,z<bs.length+2->m[z]?=(bs++[Blk.cells (ah e w1 w2 w3 w4 w5),.cells (x.c.map .d)])[z]?)->ai m (bs.length+1)=some (x.c.map .d):=λm h=>aM (h _ (by omega)) (by rw [bX]; rfl);have hg0:ai (bs++[Blk.cells (ah e w1 w2 w3 w4 w5),.cells (x.c.map .d)]) bs.length=some (ah e w1 w2 w3 w4 w5):=by rw [cO]; rfl
 obtain ⟨r1,m1,lo1,k1,⟨k2,kl⟩,k3,k4⟩:=Ch (E:=E) (T:=TDy) (val:=kD) (cells:=Pol.c) (z:=5) (b:=64) FP rfl Rc rfl Rf rfl Re rfl KS rfl (λ_=>rfl) (by decide) rfl (by decide) hs (f:=73) (caps:=[.ptr (bs.length+1) 0]) (q:=λp=>cB p x.ns x.service) (h:=⟨bs++[.cells (ah e w1 w2 w3 w4 w5),.cells (x.c.map .d)],bs.length⟩) λp hp m lo hle ho=>Qj H p (gx m λz hz=>ho z (by simpa using hz));have k0:=wB (E:=E) (T:=TDy) (val:=kD) (cells:=Pol.c) (z:=5) (b:=64) FP rfl KS rfl (by decide) (by decide) (λ_=>rfl) hs (f:=73) (caps:=[.ptr (bs.length+1) 0]) (h:=⟨bs++[.cells (ah e w1 w2 w3 w4 w5),.cells (x.c.map .d)],bs.length⟩) ha;rw [k1] at k0;simp only [am,cg,ch] at k2 k3 k4;have hfl:=List.length_filter_le (λp:Pol=>cB p x.ns x.service) l;have kg:RowG (λ_=>True) m1 5 ((l.filter λp=>cB p x.ns x.service).map λp=>p.c.map V.d) r1:=by
  obtain ⟨_,h1,h2⟩ | ⟨_,B,cap,rest,h1,h2,h3,_⟩:=k4
  . exact .inl ⟨by rw [h1]; rfl,h2⟩
  . exact .inr ⟨B,cap,rest,trivial,by simpa using h2,by rw [← wo]; exact h3⟩
 obtain ⟨v',mm,c1,c2,c3,c4⟩:=yK (E:=E) (T:=TDy) (val:=kD) (cells:=Pol.c) (z:=5) (b:=64) (zero:=Em) FP rfl (by decide) (by decide) (λ_=>rfl) (l:=l.filter λp=>cB p x.ns x.service) (by omega) kg;obtain ⟨r2,m2,F2,d1,d2,d3,d4,d5⟩:=Fg (E:=E) (T:=TDy) (val:=kD) Ra rfl (l:=l.filter λp=>cB p x.ns x.service) (λp hp h=>by rw [aU (by kernel_rfl)]; exact H.e113 p (hok p (List.mem_filter.1 hp).1) h) (by omega) (bs:=m1) (a:=r1) ⟨v',mm,c1,c2,c3,c4⟩ kg.okv.2.1 kg.okv.1;obtain ⟨aok,anu⟩:=hr.ok2;have y1:=kg.okv;have y2:=d4.okv;have hB:Bd E TDy kD q71 [.agg (ah e w1 w2 w3 w4 w5),ag x.c] ⟨bs,bs.length⟩=some (r2,⟨m2,F2 lo1⟩):=by
  have s5:sub (ah e w1 w2 w3 w4 w5) 5 1=some [w5]:=rfl;simp [aa,q71,hg0,s5,aok,anu,k0,y1,y2,d1,bH]
 have hG:RowG (fD bs m2) m2 5 ((l.filter λp=>cB p x.ns x.service).map oc) r2:=d4.on λz hz=>⟨⟨by have:=hz.1; omega,hz.2⟩,rfl⟩;have hold:∀ z,z<bs.length->m2[z]?=bs[z]?:=λz hz=>by rw [d3 z (by omega),k3 z (by omega),al hz]
 obtain ⟨r,bs',F,e1,e2,e3,e4,e5⟩:=hG.ret2 (lo2:=F2 lo1) (d5 _ _ (by omega) (kl _ (by simp) (bp _))) (by omega) hold;refine ⟨r,bs',F,λlo=>?_,e2,e3,e4,λlo h=>e5 _ lo (bp _) h⟩;rw [aT Zh rfl];show dY ⟨bs,lo⟩ (Bd E TDy kD q71 [.agg (ah e w1 w2 w3 w4 w5),ag x.c] ⟨bs,bs.length⟩)=_;rw [hB];exact e1 lo
omit H in
theorem KW {x:Idx}{a w1 w2 w3 w4 w5:V}:sub (aD x a w1 w2 w3 w4 w5) 6 1=some [.d (u64 x.seq)]:=rfl
omit H in
theorem Gf {x:Idx}{a w1 w2 w3 w4 w5:V}:sub (aD x a w1 w2 w3 w4 w5) 9 1=some [w2]:=rfl
omit H in
theorem IdxM.podCfg {L0:Nat}{tag:Nat->Nat}{bs:List Blk}{x:Idx}{a w1 w2 w3 w4 w5:V}(S:IdxM L0 tag bs x a w1 w2 w3 w4 w5)(m:List Blk)(lo:Nat)(h:∀ z,L0<=z->z<bs.length->m[z]?=bs[z]?) :
 frz ⟨m,lo⟩ (.agg [.d (.int .u64 0),.d (.int .u64 0),.d (.int .i64 0),.d (.int .i64 0),w2,.d (.slice true []),.d (.slice true []),.d (.slice true [])])=some (Cfg.v ⟨0,0,0,0,⟨gu w2,x.view.pods.l⟩,⟨true,[]⟩,⟨true,[]⟩,⟨true,[]⟩⟩):=by
 have hK:∀ z,TgA L0 bs.length tag z->m[z]?=bs[z]?:=λz hz=>h z hz.1 hz.2.1;have h2:=(((S.vw.r2.all (by decide)).hngD (f:=Pod.c) (λ_=>rfl)) m lo hK 8 (by decide)).1;rw [jW];simp only [bP,List.mapM_cons,List.mapM_nil,h2];rfl
theorem Yl {x:Idx}(hp:x.view.pods.l.length<=big)(hl:x.view.policies.l.length<=big)(hok:∀ p∈x.view.policies.l,p.own.ok)(n:Int){L0:Nat}{tag:Nat->Nat}{bs:List Blk}{a w1 w2 w3 w4 w5:V}(S:IdxM L0 tag bs x a w1 w2 w3 w4 w5) :
 ∃ r bs',∃ F:Nat->Nat,(∀ lo,Sm E TDy kD 14 [.agg (aD x a w1 w2 w3 w4 w5),.d (u64 n)] ⟨bs,lo⟩=some (.tup (match fA x n with | some p=>[ag p.c,r,bl true] | none=>[ag pod0.c,.d (.slice true []),bl false]),⟨bs',F lo⟩))/\bs.length<=bs'.length/\(∀ z,z<bs.length->bs'[z]?=bs[z]?) ∧
  ∀ p,fA x n=some p->RowG (fD bs bs') bs' 5 ((x.view.policies.l.filter λq=>cB q p.ns p.service).map λq=>q.own.own.c.map V.d) r:=by
 have n42:=λ(ys:List Blk) lo=>(aU (E:=E) (T:=TDy) (val:=kD) (f:=31) (by kernel_rfl)).trans (H.e42 ⟨0,0,0,0,⟨gu w2,x.view.pods.l⟩,⟨true,[]⟩,⟨true,[]⟩,⟨true,[]⟩⟩ ⟨⟨hp,λh=>S.vw.r2.short h⟩,⟨Nat.zero_le _,λ_=>rfl⟩,⟨Nat.zero_le _,λ_=>rfl⟩,⟨Nat.zero_le _,λ_=>rfl⟩,λp hp=>by cases hp⟩ n _ ⟨bs++ys,lo⟩ (S.podCfg (bs++ys) lo λz _ hz=>al hz));simp only at n42;have y2:=S.vw.r2.okv;have hz7:∀ y:Pod,put [V.d (.int .u64 0),.d (.str ⟨#[]⟩),.d (.str ⟨#[]⟩),.d (.int .i64 0),.d (.int .u32 0),.d (.int .i64 0),.d (.int .u64 0)] 0 (y.c.map V.d)=some (y.c.map V.d):=λ_=>rfl;cases hf:x.view.pods.l.find? λp=>p.uid==n with
 | none =>
  have hm:fA x n=none:=by unfold fA; split<;>simp [hf]
  rw [hf] at n42;refine ⟨.d (.slice true []),bs,id,λlo=>?_,bp _,λ_ _=>rfl,λp hp=>by rw [hm] at hp; cases hp⟩;rw [aT I6 rfl,hm];have e0:(pod0.v:V)=ag pod0.c:=rfl;rw [e0] at n42;simp [aa,q27,n42,Gf,y2,aB,put,cO,hz7,V.under,V.under.go];rfl
 | some y =>
  rw [hf] at n42;have ey:(y.v:V)=ag y.c:=rfl;simp only [ey] at n42;by_cases c:x.seq=0
  . have hm:fA x n=none:=by unfold fA; rw [if_pos c]
    refine ⟨.d (.slice true []),bs,id,λlo=>?_,bp _,λ_ _=>rfl,λp hp=>by rw [hm] at hp; cases hp⟩;rw [aT I6 rfl,hm];simp [aa,q27,n42,KW,Gf,y2,aB,put,cO,hz7,c,V.under,V.under.go];rfl
  . have hm:fA x n=some y:=by unfold fA; rw [if_neg c,hf]
    have h5:RowG (Tg L0 bs.length tag 7) (bs++[.cells (aD x a w1 w2 w3 w4 w5),.cells [.d (.int .u64 0),.d (.str ⟨#[]⟩),.d (.str ⟨#[]⟩),.d (.int .i64 0),.d (.int .u32 0),.d (.int .i64 0),.d (.int .u64 0)],.cells (y.c.map .d)]) 5 ((x.view.policies.l.map Pol.own).map λp=>p.c.map V.d) w5:=by
     rw [List.map_map];exact S.vw.r5.on λz hz=>⟨hz,al hz.2.1⟩
    obtain ⟨r1,m1,F1,a1,l1,o1,g1,f1⟩:=YU H (l:=x.view.policies.l.map Pol.own) (by rw [bx]; exact hl) (λp hp=>by obtain ⟨q,hq,rfl⟩:=b9.1 hp; exact hok q hq) y (e:=x.view.epoch) (w1:=w1) (w2:=w2) (w3:=w3) (w4:=w4) h5;have oo:=fM (a1 _) (f1 _ (bp _)) l1 o1;simp only [am,cg,ch] at l1 o1 g1;have gr:=g1.okv;have q0:ai m1 bs.length=some (aD x a w1 w2 w3 w4 w5):=aM (o1 _ (by omega)) (by rw [cO]; rfl);have q1:ai m1 (bs.length+1)=some [.d (.int .u64 0),.d (.str ⟨#[]⟩),.d (.str ⟨#[]⟩),.d (.int .i64 0),.d (.int .u32 0),.d (.int .i64 0),.d (.int .u64 0)]:=aM (o1 _ (by omega)) (by rw [bX]; rfl);have q2:ai m1 (bs.length+2)=some (y.c.map .d):=aM (o1 _ (by omega)) (by
     have:=iy (bs:=bs) (ys:=[.cells (aD x a w1 w2 w3 w4 w5),.cells [.d (.int .u64 0),.d (.str ⟨#[]⟩),.d (.str ⟨#[]⟩),.d (.int .i64 0),.d (.int .u32 0),.d (.int .i64 0),.d (.int .u64 0)],.cells (y.c.map .d)]) (i:=2);rw [this]; rfl)
    have q1s:∀ C,ai (m1.set (bs.length+1) (.cells C)) (bs.length+1)=some C:=λC=>aN q1;have hB:∃ lo2,Bd E TDy kD q27 [.agg (aD x a w1 w2 w3 w4 w5),.d (u64 n)] ⟨bs,bs.length⟩=some (.tup [ag y.c,r1,bl true],⟨m1.set (bs.length+1) (.cells (y.c.map .d)),lo2⟩):=by
     apply Exists.intro;simp at oo;simp [aa,q27,n42,KW,KX,Gf,y2,aB,put,cO,bX,hz7,c,oo,q1,gr,az,aL];rw [if_pos]
     . simp [q1s,put,gr,bH];rfl
     . simp [aG,List.range,List.range.loop,Tr.spares]
    obtain ⟨lo2,hB⟩:=hB;have hold:∀ z,z<bs.length->(m1.set (bs.length+1) (.cells (y.c.map .d)))[z]?=bs[z]?:=λz hz=>by
     rw [ac (by omega),o1 z (by omega),al hz]
    have hcl:((x.view.policies.l.map Pol.own).filter λp=>cB p y.ns y.service).map oc=(x.view.policies.l.filter λq=>cB q y.ns y.service).map λq=>q.own.own.c.map V.d:=by
     rw [List.filter_map,List.map_map];rfl
    rw [hcl] at g1;have hG:RowG (fD bs (m1.set (bs.length+1) (.cells (y.c.map .d)))) (m1.set (bs.length+1) (.cells (y.c.map .d))) 5 ((x.view.policies.l.filter λq=>cB q y.ns y.service).map λq=>q.own.own.c.map V.d) r1:=g1.on λz hz=>by
     have h1:bs.length+(0+1+1+1)<=z:=by have:=hz.1; simpa using this
     exact ⟨⟨by omega,by rw [List.length_set]; exact hz.2⟩,ac (by omega)⟩
    by_cases hc:bs.length<=lo2/\(V.tup [ag y.c,r1,bl true]).under bs.length=true
    . have hu:=hc.2;simp [V.under,V.under.go] at hu;refine ⟨r1,bs,id,λlo=>?_,bp _,λ_ _=>rfl,λp hp=>?_⟩
      . rw [aT I6 rfl,hm];show dY ⟨bs,lo⟩ (Bd E TDy kD q27 [.agg (aD x a w1 w2 w3 w4 w5),.d (u64 n)] ⟨bs,bs.length⟩)=_;rw [hB,eu];exact if_pos hc
      . rw [hm] at hp;cases hp;obtain h | ⟨b,cap,rest,h1,rfl,h3⟩:=hG
        . exact .inl h
        . have:=h1.1;simp [V.under] at hu;omega
    . refine ⟨r1,m1.set (bs.length+1) (.cells (y.c.map .d)),λlo=>min lo lo2,λlo=>?_,by rw [List.length_set]; omega,hold,λp hp=>?_⟩
      . rw [aT I6 rfl,hm];show dY ⟨bs,lo⟩ (Bd E TDy kD q27 [.agg (aD x a w1 w2 w3 w4 w5),.d (u64 n)] ⟨bs,bs.length⟩)=_;rw [hB,eu];exact if_neg hc
      . rw [hm] at hp;cases hp;exact hG
end
end
section
theorem Vsm.lists {a b:Vw}(h:Vsm a b):a.covers.l=b.covers.l/\a.pods.l=b.pods.l/\a.services.l=b.services.l/\a.bound.l=b.bound.l/\a.policies.l.map Pol.nf=b.policies.l.map Pol.nf:=by
 obtain ⟨_,h1,h2⟩:=h;simp only [Vw.cfg,Cfg.nf,Sl.nf,Cfg.mk.injEq,Sl.mk.injEq,List.map_id,true_and] at h2;exact ⟨h1,h2.1,h2.2.1,h2.2.2.1,h2.2.2.2⟩
theorem Vsm.vat {a b:Vw}(h:Vsm a b)(n:Int):mD a n=mD b n:=by
 obtain ⟨h1,h2,h3,h4,_⟩:=h.lists;have hb:∀ s,gM a s=gM b s:=λs=>by unfold gM; rw [h4]
 have hv:∀ p,og a p=og b p:=λp=>by unfold og; rw [h3]; simp only [hb]
 unfold mD;rw [h1,h2,h3];simp only [hb,hv]
theorem Ism.look {a b:Idx}(h:Ism a b)(n:Int):mi a n=mi b n:=by
 obtain ⟨_,_,_,_,_,_,h7,_,h9⟩:=h;unfold mi;rw [h7,h9.vat]
theorem Ism.mine {a b:Idx}(h:Ism a b)(n:Int):fA a n=fA b n:=by
 obtain ⟨_,_,_,_,_,_,h7,_,h9⟩:=h;unfold fA;rw [h7,h9.lists.2.1]
theorem Cw (x:Idx):Ism x x.own19:=⟨rfl,rfl,rfl,rfl,rfl,rfl,rfl,rfl,Vsm.of rfl rfl rfl rfl rfl (fP _).symm⟩
theorem Dy (f:Pol->Bool)(hf:∀ p,f p.nf=f p):∀ {l l':List Pol},l.map Pol.nf=l'.map Pol.nf->(l.filter f).map Pol.nf=(l'.filter f).map Pol.nf:=λ{l l'} h=>by
 have:∀ l:List Pol,(l.filter f).map Pol.nf=(l.map Pol.nf).filter f:=λl=>by
  rw [List.filter_map]
  congr 1
  exact List.filter_congr λp _=>(hf p).symm
 rw [this,this,h]
theorem Ko {l l':List Pol}(h:l.map Pol.nf=l'.map Pol.nf){i:Nat}{p q:Pol}(hp:l[i]?=some p)(hq:l'[i]?=some q):p.same q=true:=by
 have h1:(l.map Pol.nf)[i]?=some p.nf:=by rw [List.getElem?_map,hp]; rfl
 have h2:(l'.map Pol.nf)[i]?=some q.nf:=by rw [List.getElem?_map,hq]; rfl
 rw [h,h2] at h1;exact Pol.same_iff.2 (co h1).symm
structure Fits (y:Idx):Prop where
 a:y.addrs.l.length<=big
 c:y.view.covers.l.length<=big
 p:y.view.pods.l.length<=big
 s:y.view.services.l.length<=big
 b:y.view.bound.l.length<=big
 l:y.view.policies.l.length<=big
 w:∀ q∈y.view.policies.l,q.wf big
theorem Whole.fits {x:Idx}(h:Whole x):Fits x:=⟨h.addrs.1,h.view.1.1,h.view.2.1.1,h.view.2.2.1.1,h.view.2.2.2.1.1,h.view.2.2.2.2.1.1,h.wf⟩
theorem zY {v:Vw}{d:Dlt}(h:bg v=true)(h2:dL d=true)(hd:d.ok)(hw:∀ q∈v.policies.l,q.wf big)(hwd:∀ q∈d.policies.l,q.wf big) :
 d.covers.l.length<=big/\(bL Pod.uid v.pods.l d.pods.l d.gonePods.l).length<=big/\(bL Svc.id v.services.l d.services.l d.goneServices.l).length<=big/\(bL Way.id v.bound.l d.bound.l d.goneBound.l).length<=big/\(bL Pol.id v.policies.l d.policies.l d.gonePolicies.l).length<=big/\∀ q∈bL Pol.id v.policies.l d.policies.l d.gonePolicies.l,q.wf big:=by
 have md:bg d.vw=true:=by
  simp only [dL,ao] at h2;exact h2.2
 obtain ⟨r1,r2,r3,r4⟩:=nI h;obtain ⟨s1,s2,s3,s4⟩:=nI md;have a1:=aY r1; have a2:=aY r2; have a3:=aY r3; have a4:=aY r4;have b1:=aY s1; have b2:=aY s2; have b3:=aY s3; have b4:=aY s4;simp only [Dlt.vw] at b1 b2 b3 b4;have hbig:(64:Nat)<=big:=by decide
 have q1:=eY (key:=Pod.uid) (l:=v.pods.l) (fresh:=d.pods.l) (gone:=d.gonePods.l);have q2:=eY (key:=Svc.id) (l:=v.services.l) (fresh:=d.services.l) (gone:=d.goneServices.l);have q3:=eY (key:=Way.id) (l:=v.bound.l) (fresh:=d.bound.l) (gone:=d.goneBound.l);have q4:=eY (key:=Pol.id) (l:=v.policies.l) (fresh:=d.policies.l) (gone:=d.gonePolicies.l);refine ⟨hd.1.1.1,by omega,by omega,by omega,by omega,λq hq=>?_⟩;obtain h | h:=uV hq
 . exact hw q h
 . exact hwd q h
theorem ES {x:Idx}(hx:Whole x){p:Psh}(hd:p.delta.ok)(hwd:∀ q∈p.delta.policies.l,q.wf big):Fits (bG x p).1:=by
 unfold bG;split
 . exact hx.fits
 split
 . exact hx.fits
 split
 . rename_i h;have h3:=h.2.2;unfold jA at h3;simp only [ao] at h3;have hb:∀ q∈(takeB x p).policies.l,q.wf big:=by
    unfold takeB;split
    . intro q hq; cases hq
    . exact (Vw.own_ok hx.view hx.wf).2
   obtain ⟨k1,k2,k3,k4,k5,k6⟩:=zY h3.1.1 h3.1.2 hd hb hwd;exact ⟨hx.addrs.1,k1,k2,k3,k4,k5,k6⟩
 . exact hx.fits
theorem jy {x:Idx}(hx:Whole x):Whole x.own19:=by
 have hw:∀ p∈x.own19.view.policies.l,p.wf big:=λp hp=>by
  obtain ⟨q,hq,rfl⟩:=b9.1 (show p∈x.view.policies.l.map Pol.cp from hp);exact Pol.cp_wf (hx.wf q hq)
 have hv:=hx.view;refine ⟨⟨hx.addrs.1,λh=>by cases h⟩,⟨⟨hv.1.1,λh=>by cases h⟩,⟨hv.2.1.1,λh=>by cases h⟩,⟨hv.2.2.1.1,λh=>by cases h⟩,⟨hv.2.2.2.1.1,λh=>by cases h⟩,⟨?_,λh=>?_⟩,λp hp=>(hw p hp).fits⟩,hw⟩
 . show (x.view.policies.l.map Pol.cp).length<=big;rw [bx]; exact hv.2.2.2.2.1.1
 . show x.view.policies.l.map Pol.cp=[];have h2:(x.view.policies.l.map Pol.cp).isEmpty=true:=h;simpa using h2
theorem xn {v:Vw}{d:Dlt}(h:bg v=true)(h2:dL d=true)(hd:d.ok)(hw:∀ q∈v.policies.l,q.wf big)(hwd:∀ q∈d.policies.l,q.wf big):(cz v d).ok/\∀ q∈(cz v d).policies.l,q.wf big:=by
 obtain ⟨k1,k2,k3,k4,k5,k6⟩:=zY h h2 hd hw hwd;have hwp:∀ q∈(cz v d).policies.l,q.wf big:=λp hp=>by
  obtain ⟨q,hq,rfl⟩:=b9.1 (show p∈(bL Pol.id v.policies.l d.policies.l d.gonePolicies.l).map Pol.cp from hp);exact Pol.cp_wf (k6 q hq)
 have sh:∀ {α:Type} {l:List α},l.length<=big->short (bY l):=λh=>⟨h,λh2=>by simpa [bY] using h2⟩;exact ⟨⟨⟨k1,λh=>by cases h⟩,sh k2,sh k3,sh k4,sh (by rw [bx]; exact k5),λp hp=>(hwp p hp).fits⟩,hwp⟩
theorem vM {x:Idx}(hx:Whole x){p:Psh}(hd:p.delta.ok)(hwd:∀ q∈p.delta.policies.l,q.wf big):Whole (aS x p).1:=by
 unfold aS;split
 . exact jy hx
 split
 . exact jy hx
 split
 . rename_i h;have h3:=h.2.2;unfold jf at h3;simp only [ao] at h3;have hb:∀ q∈(lH x p).policies.l,q.wf big:=by
    unfold lH;split
    . intro q hq; cases hq
    . exact hx.wf
   obtain ⟨k1,k2⟩:=xn h3.1.1 h3.1.2 hd hb hwd;exact ⟨(jy hx).addrs,k1,k2⟩
 . exact jy hx
theorem IdxM.view_ok {L0:Nat}{tag:Nat->Nat}{bs:List Blk}{y:Idx}{a w1 w2 w3 w4 w5:V}(S:IdxM L0 tag bs y a w1 w2 w3 w4 w5)(hy:Fits y):(AO y a w1 w2 w3 w4 w5).view.ok/\short (AO y a w1 w2 w3 w4 w5).addrs :=
 ⟨S.vw.ok _ hy.c hy.p hy.s hy.b hy.l λp hp=>(Pol.own_wf (hy.w p hp)).fits,⟨hy.a,λh=>S.r0.short h⟩⟩
end
set_option maxHeartbeats 2000000
section
theorem dh {α:Type}(m l:List α)(c d:α):(m++c::l).set m.length d=m++d::l:=by
 rw [List.set_append_right _ _ (bp _),Nat.sub_self]; rfl
theorem di {α:Type}(m l:List α)(c c' d:α):(m++c::c'::l).set (m.length+1) d=m++c::d::l:=by
 rw [List.set_append_right _ _ (by omega),Nat.add_sub_cancel_left]; rfl
theorem eP {α:Type}(m l:List α)(d:α){i:Nat}(h:i<m.length):(m++l).set i d=m.set i d++l:=List.set_append_left _ _ h
section
variable {E:Calls'}(H:PutD E)
include H
theorem Xy (x:Idx)(hx:Whole x)(p:Psh)(hd:p.delta.ok)(hwd:∀ q∈p.delta.policies.l,q.wf big)(bs:List Blk) :
 ∃ bs' t a w1 w2 w3 w4 w5 r,∃ F:Nat->Nat,(∀ lo,Sm E TSd bA 8 [x.v,ag p.c] ⟨bs,lo⟩=some (.tup [.agg (aD (bG x p).1 a w1 w2 w3 w4 w5),r],⟨bs',F lo⟩))/\bs.length<=bs'.length/\(∀ z,z<bs.length->bs'[z]?=bs[z]?)/\IdxM bs.length t bs' (bG x p).1 a w1 w2 w3 w4 w5/\RowG (fD bs bs') bs' 4 ((bG x p).2.map λk=>k.c.map V.d) r:=by
 obtain ⟨m,Q,tg,a,w1,w2,w3,w4,w5,F,n76,ho,hQ,hml,gQ,S,htq,hF⟩:=XG H x hx.addrs hx.view 0 (bs++[.cells (x.c.map .d),.cells (p.c.map .d),.cells [.d (i64 0),.d (.int .u64 0),.d (.int .u64 0),.d (.slice true []),.d (.int .u64 0),.d (.int .u64 0),.d (.int .u64 0),.d (.int .u64 0),.d (.slice true []),.d (.slice true []),.d (.slice true []),.d (.slice true []),.d (.slice true []),.d (.int .u64 0)]]);simp only [am,cg,ch] at ho hQ S;have gx:ai m bs.length=some (x.c.map .d):=aM (ho _ (by omega)) (by simp);have gp:ai m (bs.length+1)=some (p.c.map .d):=aM (ho _ (by omega)) (by simp);have gz:ai m (bs.length+2)=some [.d (i64 0),.d (.int .u64 0),.d (.int .u64 0),.d (.slice true []),.d (.int .u64 0),.d (.int .u64 0),.d (.int .u64 0),.d (.int .u64 0),.d (.slice true []),.d (.slice true []),.d (.slice true []),.d (.slice true []),.d (.slice true []),.d (.int .u64 0)]:=aM (ho _ (by omega)) (by simp);have hold:∀ z,z<bs.length->m[z]?=bs[z]?:=λz hz=>by rw [ho z (by omega),al hz]
 have gx':=λys=>aj (ys:=ys) gx;have gp':=λys=>aj (ys:=ys) gp;have gz':=λys=>aj (ys:=ys) gz;have gQ':=λys=>aj (ys:=ys) gQ;have l0:bs.length+2<m.length:=by omega
 have lQ:Q<m.length:=by omega
 have gzs:∀ C,ai (m.set (bs.length+2) (.cells C)) (bs.length+2)=some C:=λC=>aN gz;have gzs':∀ C ys,ai (m.set (bs.length+2) (.cells C)++ys) (bs.length+2)=some C:=λC ys=>aj (gzs C);have hm2:∀ C z,z≠bs.length+2->(m.set (bs.length+2) (.cells C))[z]?=m[z]?:=λC z hz=>ac (Ne.symm hz);by_cases c1:p.inc=x.inc
 case neg =>
  have hts:bG x p=(x,[]):=by unfold bG; rw [if_pos (.inl c1)]
  rw [hts];have hB:∃ lo2,Bd E TSd bA q18 [x.v,ag p.c] ⟨bs,bs.length⟩=some (.tup [.agg (aD x a w1 w2 w3 w4 w5),.d (.slice true [])],⟨m.set (bs.length+2) (.cells (aD x a w1 w2 w3 w4 w5)),lo2⟩):=by
   apply Exists.intro;simp +decide [aa,q18,n76,gx,gp,gz,gzs,gQ,eF,gV,kU,kV,kW,kX,gU,bU,bI,fU,gx',gp',gz',gQ',dh,di,eP,l0,lQ,aB,az,ae,aL,c1];rfl
  obtain ⟨lo2,hB⟩:=hB;exact jB hB (by simp; omega) (λz hz=>by rw [hm2 _ z (by omega)]; exact hold z hz) (S.move (by omega) (by simp) λy h1 h2 h3=>⟨hm2 _ y (by omega),rfl⟩) (.inl ⟨rfl,rfl⟩)
 by_cases c2:p.life=0
 case pos =>
  have hts:bG x p=(x,[]):=by unfold bG; rw [if_pos (.inr (.inl c2))]
  rw [hts];have hB:∃ lo2,Bd E TSd bA q18 [x.v,ag p.c] ⟨bs,bs.length⟩=some (.tup [.agg (aD x a w1 w2 w3 w4 w5),.d (.slice true [])],⟨m.set (bs.length+2) (.cells (aD x a w1 w2 w3 w4 w5)),lo2⟩):=by
   apply Exists.intro;simp +decide [aa,q18,n76,gx,gp,gz,gzs,gQ,eF,gV,kU,kV,kW,kX,gU,bU,bI,fU,gx',gp',gz',gQ',dh,di,eP,l0,lQ,aB,az,ae,aL,c1,c2];rfl
  obtain ⟨lo2,hB⟩:=hB;exact jB hB (by simp; omega) (λz hz=>by rw [hm2 _ z (by omega)]; exact hold z hz) (S.move (by omega) (by simp) λy h1 h2 h3=>⟨hm2 _ y (by omega),rfl⟩) (.inl ⟨rfl,rfl⟩)
 by_cases c3:p.life<x.life
 case pos =>
  have hts:bG x p=(x,[]):=by unfold bG; rw [if_pos (.inr (.inr (.inl c3)))]
  rw [hts];have hB:∃ lo2,Bd E TSd bA q18 [x.v,ag p.c] ⟨bs,bs.length⟩=some (.tup [.agg (aD x a w1 w2 w3 w4 w5),.d (.slice true [])],⟨m.set (bs.length+2) (.cells (aD x a w1 w2 w3 w4 w5)),lo2⟩):=by
   apply Exists.intro;simp +decide [aa,q18,n76,gx,gp,gz,gzs,gQ,eF,gV,kU,kV,kW,kX,gU,bU,bI,fU,gx',gp',gz',gQ',dh,di,eP,l0,lQ,aB,az,ae,aL,c1,c2,c3];rfl
  obtain ⟨lo2,hB⟩:=hB;exact jB hB (by simp; omega) (λz hz=>by rw [hm2 _ z (by omega)]; exact hold z hz) (S.move (by omega) (by simp) λy h1 h2 h3=>⟨hm2 _ y (by omega),rfl⟩) (.inl ⟨rfl,rfl⟩)
 by_cases c4:p.seq=0
 case pos =>
  have hts:bG x p=(x,[]):=by unfold bG; rw [if_pos (.inr (.inr (.inr (.inl c4))))]
  rw [hts];have hB:∃ lo2,Bd E TSd bA q18 [x.v,ag p.c] ⟨bs,bs.length⟩=some (.tup [.agg (aD x a w1 w2 w3 w4 w5),.d (.slice true [])],⟨m.set (bs.length+2) (.cells (aD x a w1 w2 w3 w4 w5)),lo2⟩):=by
   apply Exists.intro;simp +decide [aa,q18,n76,gx,gp,gz,gzs,gQ,eF,gV,kU,kV,kW,kX,gU,bU,bI,fU,gx',gp',gz',gQ',dh,di,eP,l0,lQ,aB,az,ae,aL,c1,c2,c3,c4];rfl
  obtain ⟨lo2,hB⟩:=hB;exact jB hB (by simp; omega) (λz hz=>by rw [hm2 _ z (by omega)]; exact hold z hz) (S.move (by omega) (by simp) λy h1 h2 h3=>⟨hm2 _ y (by omega),rfl⟩) (.inl ⟨rfl,rfl⟩)
 by_cases s:p.life=x.life
 case pos =>
  have s2:¬ x.life=0:=by omega
  have s3:¬ x.life<x.life:=by omega
  by_cases c5:p.seq<x.seq
  case pos =>
   have hts:bG x p=(x,[]):=by unfold bG; rw [if_pos (.inr (.inr (.inr (.inr ⟨s,c5⟩))))]
   rw [hts];have hB:∃ lo2,Bd E TSd bA q18 [x.v,ag p.c] ⟨bs,bs.length⟩=some (.tup [.agg (aD x a w1 w2 w3 w4 w5),.d (.slice true [])],⟨m.set (bs.length+2) (.cells (aD x a w1 w2 w3 w4 w5)),lo2⟩):=by
    apply Exists.intro;simp +decide [aa,q18,n76,gx,gp,gz,gzs,gQ,eF,gV,kU,kV,kW,kX,gU,bU,bI,fU,gx',gp',gz',gQ',dh,di,eP,l0,lQ,aB,az,ae,aL,c1,s,s2,s3,c4,c5];rfl
   obtain ⟨lo2,hB⟩:=hB;exact jB hB (by simp; omega) (λz hz=>by rw [hm2 _ z (by omega)]; exact hold z hz) (S.move (by omega) (by simp) λy h1 h2 h3=>⟨hm2 _ y (by omega),rfl⟩) (.inl ⟨rfl,rfl⟩)
  by_cases c6:p.seq=x.seq
  case pos =>
   have c4':¬ x.seq=0:=by omega
   have c5':¬ x.seq<x.seq:=by omega
   have hts:bG x p=(x,[⟨p.life,p.inc,p.seq,1⟩]):=by unfold bG; rw [if_neg (by omega),if_pos ⟨s,c6⟩]
   rw [hts];have hB:∃ lo2,Bd E TSd bA q18 [x.v,ag p.c] ⟨bs,bs.length⟩=some (.tup [.agg (aD x a w1 w2 w3 w4 w5),.row (m.length+1) 0 1 (some 1) 4],⟨(m.set (bs.length+2) (.cells (aD x a w1 w2 w3 w4 w5)))++[.cells [V.d (u64 p.life),.d (u64 p.inc),.d (u64 p.seq),.d (i64 1)],.cells [V.d (u64 p.life),.d (u64 p.inc),.d (u64 p.seq),.d (i64 1)]],lo2⟩):=by
    apply Exists.intro;simp +decide [aa,q18,n76,gx,gp,gz,gzs,gQ,eF,gV,kU,kV,kW,kX,gU,bU,bI,fU,gx',gp',gz',gQ',dh,di,eP,l0,lQ,aB,az,ae,aL,c1,s,s2,s3,c6,c4',c5'];rw [if_pos]
    . simp +decide [gzs',bI,c1,s,c6];rfl
    . simp [aG,List.range,List.range.loop,Tr.spares];try omega
   obtain ⟨lo2,hB⟩:=hB;have hm3:∀ C D D' z,z<m.length->z≠bs.length+2->((m.set (bs.length+2) (.cells C))++[Blk.cells D,Blk.cells D'])[z]?=m[z]?:=λC D D' z h1 h2=>by rw [al (by simpa using h1),hm2 _ z h2]
   refine jB hB (by simp; omega) (λz hz=>by rw [hm3 _ _ _ z (by omega) (by omega)]; exact hold z hz) (S.move (by omega) (by simp) λy h1 h2 h3=>⟨hm3 _ _ _ y h2 (by omega),rfl⟩) (.inr ⟨m.length+1,some 1,[],⟨by omega,by simp⟩,rfl,?_⟩);have:=bX (bs:=m.set (bs.length+2) (.cells (aD x a w1 w2 w3 w4 w5))) (ys:=[.cells [V.d (u64 p.life),.d (u64 p.inc),.d (u64 p.seq),.d (i64 1)],.cells [V.d (u64 p.life),.d (u64 p.inc),.d (u64 p.seq),.d (i64 1)]]);rw [List.length_set] at this;rw [this];rfl
  by_cases c7:p.upon=0
  case pos =>
   obtain ⟨n2,v1,v2,v3,v4,v5,k,e,F2,n80,f2,l2,h80⟩:=Ck H Cc (λp hp=>by cases hp) hd hwd (base0 (m++[Blk.cells [V.d (u64 p.life),.d (u64 p.inc),.d (u64 p.seq),.d (i64 0)],.cells (ah 0 aK aK aK aK aK)]));have htb:takeB x p=vw0:=by unfold takeB; rw [if_pos c7]
   simp only [am,cg,ch] at f2 l2 h80;have f2':∀ z,z<m.length->n2[z]?=m[z]?:=λz hz=>by rw [f2 z (by omega),al hz]
   have gp2:=λys=>aj (ys:=ys) (aM (f2' _ (by omega)) gp);have gz2:ai n2 (bs.length+2)=some _:=aM (f2' _ l0) gz;have gQ2:ai n2 Q=some _:=aM (f2' _ lQ) gQ;have gA2:ai n2 m.length=some [V.d (u64 p.life),.d (u64 p.inc),.d (u64 p.seq),.d (i64 0)]:=aM (f2 _ (by omega)) (by rw [cO]; rfl);have gz2':=λys=>aj (ys:=ys) gz2;have gQ2':=λys=>aj (ys:=ys) gQ2;have gA2':=λys=>aj (ys:=ys) gA2;have l02:bs.length+2<n2.length:=by omega
   have lQ2:Q<n2.length:=by omega
   have lA2:m.length<n2.length:=by omega
   have hpv:(p.delta.v:V)=ag p.delta.c:=rfl;rw [hpv] at n80;simp [ah,aK,c1,s] at n80 gA2';by_cases c8:x.high<=p.delta.epoch
   case neg =>
    have c8':p.delta.epoch<x.high:=by omega
    have hts:bG x p=(x,[⟨p.life,p.inc,p.seq,0⟩]):=by unfold bG; rw [if_neg (by omega),if_neg (by omega),if_neg (λh=>c8 h.2.1)]
    rw [hts];have gzq:∀ C ys,ai (n2.set (bs.length+2) (.cells C)++ys) (bs.length+2)=some C:=λC ys=>aj (aN gz2);have hB:∃ lo2,Bd E TSd bA q18 [x.v,ag p.c] ⟨bs,bs.length⟩=some (.tup [.agg (aD x a w1 w2 w3 w4 w5),.row (n2.length+1) 0 1 (some 1) 4],⟨(n2.set (bs.length+2) (.cells (aD x a w1 w2 w3 w4 w5)))++[.cells (ah e v1 v2 v3 v4 v5),.cells [V.d (u64 p.life),.d (u64 p.inc),.d (u64 p.seq),.d (i64 0)]],lo2⟩):=by
     apply Exists.intro;simp +decide [aa,q18,n76,gx,gp,gz,gzs,gQ,eF,gV,kU,kV,kW,kX,gU,bU,bI,fU,gx',gp',gz',gQ',dh,di,eP,l0,lQ,aB,az,ae,aL,gp2,gz2',gQ2',gA2',l02,lQ2,lA2,n80,ah,c1,s,s2,s3,c4,c5,c6,c7,c8,c8'];rw [if_pos]
     . simp +decide [gzq,bI,ah,c1,s];rfl
     . simp [aG,List.range,List.range.loop,Tr.spares];try omega
    obtain ⟨lo2,hB⟩:=hB;have hm3:∀ C D D' z,z<m.length->z≠bs.length+2->((n2.set (bs.length+2) (.cells C))++[Blk.cells D,Blk.cells D'])[z]?=m[z]?:=λC D D' z h1 h2=>by rw [al (by simp; omega),ac (Ne.symm h2),f2' z h1]
    refine jB hB (by simp; omega) (λz hz=>by rw [hm3 _ _ _ z (by omega) (by omega)]; exact hold z hz) (S.move (by omega) (by simp; omega) λy h1 h2 h3=>⟨hm3 _ _ _ y h2 (by omega),rfl⟩) (.inr ⟨n2.length+1,some 1,[],⟨by omega,by simp⟩,rfl,?_⟩);have:=bX (bs:=n2.set (bs.length+2) (.cells (aD x a w1 w2 w3 w4 w5))) (ys:=[.cells (ah e v1 v2 v3 v4 v5),.cells [V.d (u64 p.life),.d (u64 p.inc),.d (u64 p.seq),.d (i64 0)]]);rw [List.length_set] at this;rw [this];rfl
   obtain ⟨pk,rfl,rfl,tv,Sv⟩ | ⟨pk,rfl,_⟩:=h80
   case inr =>
    have hts:bG x p=(x,[⟨p.life,p.inc,p.seq,0⟩]):=by unfold bG; rw [if_neg (by omega),if_neg (by omega),if_neg (λh=>by rw [htb,pk] at h; exact absurd h.2.2 (by decide))]
    rw [hts];have gzq:∀ C ys,ai (n2.set (bs.length+2) (.cells C)++ys) (bs.length+2)=some C:=λC ys=>aj (aN gz2);have hB:∃ lo2,Bd E TSd bA q18 [x.v,ag p.c] ⟨bs,bs.length⟩=some (.tup [.agg (aD x a w1 w2 w3 w4 w5),.row (n2.length+1) 0 1 (some 1) 4],⟨(n2.set (bs.length+2) (.cells (aD x a w1 w2 w3 w4 w5)))++[.cells (ah e v1 v2 v3 v4 v5),.cells [V.d (u64 p.life),.d (u64 p.inc),.d (u64 p.seq),.d (i64 0)]],lo2⟩):=by
     apply Exists.intro;simp +decide [aa,q18,n76,gx,gp,gz,gzs,gQ,eF,gV,kU,kV,kW,kX,gU,bU,bI,fU,gx',gp',gz',gQ',dh,di,eP,l0,lQ,aB,az,ae,aL,gp2,gz2',gQ2',gA2',l02,lQ2,lA2,n80,ah,c1,s,s2,s3,c4,c5,c6,c7,c8];rw [if_pos]
     . simp +decide [gzq,bI,ah,c1,s];rfl
     . simp [aG,List.range,List.range.loop,Tr.spares];try omega
    obtain ⟨lo2,hB⟩:=hB;have hm3:∀ C D D' z,z<m.length->z≠bs.length+2->((n2.set (bs.length+2) (.cells C))++[Blk.cells D,Blk.cells D'])[z]?=m[z]?:=λC D D' z h1 h2=>by rw [al (by simp; omega),ac (Ne.symm h2),f2' z h1]
    refine jB hB (by simp; omega) (λz hz=>by rw [hm3 _ _ _ z (by omega) (by omega)]; exact hold z hz) (S.move (by omega) (by simp; omega) λy h1 h2 h3=>⟨hm3 _ _ _ y h2 (by omega),rfl⟩) (.inr ⟨n2.length+1,some 1,[],⟨by omega,by simp⟩,rfl,?_⟩);have:=bX (bs:=n2.set (bs.length+2) (.cells (aD x a w1 w2 w3 w4 w5))) (ys:=[.cells (ah e v1 v2 v3 v4 v5),.cells [V.d (u64 p.life),.d (u64 p.inc),.d (u64 p.seq),.d (i64 0)]]);rw [List.length_set] at this;rw [this];rfl
   have hts:bG x p=(⟨x.node,x.inc,x.asked,x.addrs,x.since,p.life,p.seq,qy (takeB x p) p.delta,p.delta.epoch⟩,[⟨p.life,p.inc,p.seq,1⟩]):=by unfold bG; rw [if_neg (by omega),if_neg (by omega),if_pos ⟨.inl c7,c8,by rw [htb]; exact pk⟩]
   rw [hts,htb];have q1:∀ c ys,ai (n2.set Q (.cells c)++ys) Q=some c:=λc ys=>aj (aN gQ2);have q2:∀ c ys,ai (n2.set Q (.cells c)++ys) m.length=_:=λc ys=>aj ((bi (by omega)).trans gA2);have q3:∀ c d ys,ai ((n2.set Q (.cells c)).set m.length (.cells d)++ys) Q=some c:=λc d ys=>aj ((bi (by omega)).trans (aN gQ2));have q4:∀ c d ys,ai ((n2.set Q (.cells c)).set m.length (.cells d)++ys) m.length=some d:=λc d ys=>aj (aN ((bi (by omega)).trans gA2));have q7:∀ c d ys,ai ((n2.set Q (.cells c)).set m.length (.cells d)++ys) (bs.length+2)=_:=λc d ys=>aj ((bi (by omega)).trans ((bi (by omega)).trans gz2));have q8:∀ c d e ys,ai (((n2.set Q (.cells c)).set m.length (.cells d)).set (bs.length+2) (.cells e)++ys) (bs.length+2)=some e:=λc d e ys=>aj (aN ((bi (by omega)).trans ((bi (by omega)).trans gz2)));simp only [c1,s] at q2
   have hB:∃ lo2 CQ,Bd E TSd bA q18 [x.v,ag p.c] ⟨bs,bs.length⟩=some (.tup [.agg (aD ⟨x.node,x.inc,x.asked,x.addrs,x.since,p.life,p.seq,qy vw0 p.delta,p.delta.epoch⟩ a v1 v2 v3 v4 v5),.row (n2.length+1) 0 1 (some 1) 4],⟨((n2.set Q (.cells CQ)).set m.length (.cells [V.d (u64 p.life),.d (u64 p.inc),.d (u64 p.seq),.d (i64 1)])).set (bs.length+2) (.cells (aD ⟨x.node,x.inc,x.asked,x.addrs,x.since,p.life,p.seq,qy vw0 p.delta,p.delta.epoch⟩ a v1 v2 v3 v4 v5))++[.cells (ah p.delta.epoch v1 v2 v3 v4 v5),.cells [V.d (u64 p.life),.d (u64 p.inc),.d (u64 p.seq),.d (i64 1)]],lo2⟩):=by
    apply Exists.intro;apply Exists.intro;simp +decide [aa,q18,n76,gx,gp,gz,gzs,gQ,eF,gV,kU,kV,kW,kX,gU,bU,bI,fU,gx',gp',gz',gQ',dh,di,eP,l0,lQ,aB,az,ae,aL,gp2,gz2',gQ2',gA2',l02,lQ2,lA2,n80,ah,q1,q2,q3,q4,q7,q8,aD,Wm,c1,s,s2,s3,c4,c5,c6,c7,c8];rw [if_pos]
    . simp +decide [aa,q18,n76,gx,gp,gz,gzs,gQ,eF,gV,kU,kV,kW,kX,gU,bU,bI,fU,gx',gp',gz',gQ',dh,di,eP,l0,lQ,aB,az,ae,aL,gp2,gz2',gQ2',gA2',l02,lQ2,lA2,n80,ah,q1,q2,q3,q4,q7,q8,aD,Wm,c1,s,s2,s3,c4,c5,c6,c7,c8];rw [if_pos]
      . simp +decide [q8,aD,qy,c1,s];exact ⟨rfl,rfl⟩
      . simp [aG,List.range,List.range.loop,Tr.spares];try omega
    . simp [aG,List.range,List.range.loop,Tr.spares];try omega
   obtain ⟨lo2,CQ,hB⟩:=hB;have hlen:∀ (C1 C2 C3 D D':List V),((((n2.set Q (.cells C1)).set m.length (.cells C2)).set (bs.length+2) (.cells C3)++[.cells D,.cells D']:List Blk)).length=n2.length+2:=λ_ _ _ _ _=>by simp
   have hm3:∀ (C1 C2 C3 D D':List V) z,z<n2.length->z≠Q->z≠m.length->z≠bs.length+2->(((n2.set Q (.cells C1)).set m.length (.cells C2)).set (bs.length+2) (.cells C3)++[Blk.cells D,Blk.cells D'])[z]?=n2[z]?:=λC1 C2 C3 D D' z h1 h2 h3 h4=>by
    rw [al (by simpa using h1),ac (Ne.symm h4),ac (Ne.symm h3),ac (Ne.symm h2)]
   have hR:∀ (C1 C2 C3 D D':List V),ai (((n2.set Q (.cells C1)).set m.length (.cells C2)).set (bs.length+2) (.cells C3)++[.cells D,.cells D']) (n2.length+1)=some D':=λC1 C2 C3 D D'=>by
    have:=bX (bs:=((n2.set Q (.cells C1)).set m.length (.cells C2)).set (bs.length+2) (.cells C3)) (ys:=[.cells D,.cells D']);simp only [List.length_set] at this;rw [this];rfl
   refine jB (t:=λz=>if z<m.length then tg z else tv z) hB (by rw [hlen]; omega) (λz hz=>by rw [hm3 _ _ _ _ _ z (by omega) (by omega) (by omega) (by omega),f2' z (by omega)]; exact hold z hz) ⟨S.r0.on λz hz=>?_,Sv.move (by omega) (by rw [hlen]; omega) λz h1 h2 h3=>⟨hm3 _ _ _ _ _ z h2 (by omega) (by omega) (by omega),if_neg (by omega)⟩⟩ (.inr ⟨n2.length+1,some 1,[],⟨by omega,by rw [hlen]; omega⟩,rfl,by rw [hR]; rfl⟩);obtain ⟨z1,z2,z3⟩:=hz;have zq:z≠Q:=λh=>by have:=htq z (by omega); omega
   exact ⟨⟨by omega,by rw [hlen]; omega,(if_pos (by omega)).trans z3⟩,by rw [hm3 _ _ _ _ _ z (by omega) zq (by omega) (by omega),f2' z (by omega)]⟩
  have S0:=S.vw.next (bs2:=(m++[Blk.cells [V.d (u64 p.life),.d (u64 p.inc),.d (u64 p.seq),.d (i64 0)],.cells (ah x.view.epoch w1 w2 w3 w4 w5)])) (by simp) λy _ h _=>al h;have hvo:(VwD x.view.epoch x.view.covers.l x.view.pods.l x.view.services.l x.view.bound.l x.view.policies.l w1 w2 w3 w4 w5).ok:=S0.ok _ hx.view.1.1 hx.view.2.1.1 hx.view.2.2.1.1 hx.view.2.2.2.1.1 hx.view.2.2.2.2.1.1 λp hp=>(Pol.own_wf (hx.wf p hp)).fits;obtain ⟨n2,v1,v2,v3,v4,v5,k,e,F2,n80,f2,l2,h80⟩:=Ck H hvo (λp hp=>by obtain ⟨q,hq,rfl⟩:=b9.1 (show p∈x.view.policies.l.map Pol.own from hp); exact Pol.own_wf (hx.wf q hq)) hd hwd (S0.base x.view.epoch);have htb:takeB x p=x.view.own:=by unfold takeB; rw [if_neg c7]
  have hpk:jA (VwD x.view.epoch x.view.covers.l x.view.pods.l x.view.services.l x.view.bound.l x.view.policies.l w1 w2 w3 w4 w5) p.delta=jA x.view.own p.delta:=by
   have h1:bg (VwD x.view.epoch x.view.covers.l x.view.pods.l x.view.services.l x.view.bound.l x.view.policies.l w1 w2 w3 w4 w5)=bg x.view.own:=by rw [← eZ,← eZ x.view.own]; rfl
   unfold jA;rw [h1];rfl
  rw [hpk] at h80;simp only [am,cg,ch] at f2 l2 h80;have f2':∀ z,z<m.length->n2[z]?=m[z]?:=λz hz=>by rw [f2 z (by omega),al hz]
  have gp2:=λys=>aj (ys:=ys) (aM (f2' _ (by omega)) gp);have gz2:ai n2 (bs.length+2)=some _:=aM (f2' _ l0) gz;have gQ2:ai n2 Q=some _:=aM (f2' _ lQ) gQ;have gA2:ai n2 m.length=some [V.d (u64 p.life),.d (u64 p.inc),.d (u64 p.seq),.d (i64 0)]:=aM (f2 _ (by omega)) (by rw [cO]; rfl);have gz2':=λys=>aj (ys:=ys) gz2;have gQ2':=λys=>aj (ys:=ys) gQ2;have gA2':=λys=>aj (ys:=ys) gA2;have l02:bs.length+2<n2.length:=by omega
  have lQ2:Q<n2.length:=by omega
  have lA2:m.length<n2.length:=by omega
  have hpv:(p.delta.v:V)=ag p.delta.c:=rfl;rw [hpv] at n80;simp [ah,aK,c1,s] at n80 gA2';by_cases c10:p.upon=x.seq
  case neg =>
   have hts:bG x p=(x,[⟨p.life,p.inc,p.seq,0⟩]):=by unfold bG; rw [if_neg (by omega),if_neg (by omega),if_neg (λh=>by obtain h | h:=h.1; exact c7 h; exact c10 h.2)]
   rw [hts];have gzq:∀ C ys,ai (n2.set (bs.length+2) (.cells C)++ys) (bs.length+2)=some C:=λC ys=>aj (aN gz2);have hB:∃ lo2,Bd E TSd bA q18 [x.v,ag p.c] ⟨bs,bs.length⟩=some (.tup [.agg (aD x a w1 w2 w3 w4 w5),.row (n2.length+1) 0 1 (some 1) 4],⟨(n2.set (bs.length+2) (.cells (aD x a w1 w2 w3 w4 w5)))++[.cells (ah e v1 v2 v3 v4 v5),.cells [V.d (u64 p.life),.d (u64 p.inc),.d (u64 p.seq),.d (i64 0)]],lo2⟩):=by
    apply Exists.intro;simp +decide [aa,q18,n76,gx,gp,gz,gzs,gQ,eF,gV,kU,kV,kW,kX,gU,bU,bI,fU,gx',gp',gz',gQ',dh,di,eP,l0,lQ,aB,az,ae,aL,gp2,gz2',gQ2',gA2',l02,lQ2,lA2,n80,ah,c1,s,s2,s3,c4,c5,c6,c7,c10];rw [if_pos]
    . simp +decide [gzq,bI,ah,c1,s];rfl
    . simp [aG,List.range,List.range.loop,Tr.spares];try omega
   obtain ⟨lo2,hB⟩:=hB;have hm3:∀ C D D' z,z<m.length->z≠bs.length+2->((n2.set (bs.length+2) (.cells C))++[Blk.cells D,Blk.cells D'])[z]?=m[z]?:=λC D D' z h1 h2=>by rw [al (by simp; omega),ac (Ne.symm h2),f2' z h1]
   refine jB hB (by simp; omega) (λz hz=>by rw [hm3 _ _ _ z (by omega) (by omega)]; exact hold z hz) (S.move (by omega) (by simp; omega) λy h1 h2 h3=>⟨hm3 _ _ _ y h2 (by omega),rfl⟩) (.inr ⟨n2.length+1,some 1,[],⟨by omega,by simp⟩,rfl,?_⟩);have:=bX (bs:=n2.set (bs.length+2) (.cells (aD x a w1 w2 w3 w4 w5))) (ys:=[.cells (ah e v1 v2 v3 v4 v5),.cells [V.d (u64 p.life),.d (u64 p.inc),.d (u64 p.seq),.d (i64 0)]]);rw [List.length_set] at this;rw [this];rfl
  have c7':¬ x.seq=0:=by omega
  by_cases c8:x.high<=p.delta.epoch
  case neg =>
   have c8':p.delta.epoch<x.high:=by omega
   have hts:bG x p=(x,[⟨p.life,p.inc,p.seq,0⟩]):=by unfold bG; rw [if_neg (by omega),if_neg (by omega),if_neg (λh=>c8 h.2.1)]
   rw [hts];have gzq:∀ C ys,ai (n2.set (bs.length+2) (.cells C)++ys) (bs.length+2)=some C:=λC ys=>aj (aN gz2);have hB:∃ lo2,Bd E TSd bA q18 [x.v,ag p.c] ⟨bs,bs.length⟩=some (.tup [.agg (aD x a w1 w2 w3 w4 w5),.row (n2.length+1) 0 1 (some 1) 4],⟨(n2.set (bs.length+2) (.cells (aD x a w1 w2 w3 w4 w5)))++[.cells (ah e v1 v2 v3 v4 v5),.cells [V.d (u64 p.life),.d (u64 p.inc),.d (u64 p.seq),.d (i64 0)]],lo2⟩):=by
    apply Exists.intro;simp +decide [aa,q18,n76,gx,gp,gz,gzs,gQ,eF,gV,kU,kV,kW,kX,gU,bU,bI,fU,gx',gp',gz',gQ',dh,di,eP,l0,lQ,aB,az,ae,aL,gp2,gz2',gQ2',gA2',l02,lQ2,lA2,n80,ah,c1,s,s2,s3,c4,c5,c6,c10,c7',c8,c8'];rw [if_pos]
    . simp +decide [gzq,bI,ah,c1,s];rfl
    . simp [aG,List.range,List.range.loop,Tr.spares];try omega
   obtain ⟨lo2,hB⟩:=hB;have hm3:∀ C D D' z,z<m.length->z≠bs.length+2->((n2.set (bs.length+2) (.cells C))++[Blk.cells D,Blk.cells D'])[z]?=m[z]?:=λC D D' z h1 h2=>by rw [al (by simp; omega),ac (Ne.symm h2),f2' z h1]
   refine jB hB (by simp; omega) (λz hz=>by rw [hm3 _ _ _ z (by omega) (by omega)]; exact hold z hz) (S.move (by omega) (by simp; omega) λy h1 h2 h3=>⟨hm3 _ _ _ y h2 (by omega),rfl⟩) (.inr ⟨n2.length+1,some 1,[],⟨by omega,by simp⟩,rfl,?_⟩);have:=bX (bs:=n2.set (bs.length+2) (.cells (aD x a w1 w2 w3 w4 w5))) (ys:=[.cells (ah e v1 v2 v3 v4 v5),.cells [V.d (u64 p.life),.d (u64 p.inc),.d (u64 p.seq),.d (i64 0)]]);rw [List.length_set] at this;rw [this];rfl
  obtain ⟨pk,rfl,rfl,tv,Sv⟩ | ⟨pk,rfl,_⟩:=h80
  case inr =>
   have hts:bG x p=(x,[⟨p.life,p.inc,p.seq,0⟩]):=by unfold bG; rw [if_neg (by omega),if_neg (by omega),if_neg (λh=>by rw [htb,pk] at h; exact absurd h.2.2 (by decide))]
   rw [hts];have gzq:∀ C ys,ai (n2.set (bs.length+2) (.cells C)++ys) (bs.length+2)=some C:=λC ys=>aj (aN gz2);have hB:∃ lo2,Bd E TSd bA q18 [x.v,ag p.c] ⟨bs,bs.length⟩=some (.tup [.agg (aD x a w1 w2 w3 w4 w5),.row (n2.length+1) 0 1 (some 1) 4],⟨(n2.set (bs.length+2) (.cells (aD x a w1 w2 w3 w4 w5)))++[.cells (ah e v1 v2 v3 v4 v5),.cells [V.d (u64 p.life),.d (u64 p.inc),.d (u64 p.seq),.d (i64 0)]],lo2⟩):=by
    apply Exists.intro;simp +decide [aa,q18,n76,gx,gp,gz,gzs,gQ,eF,gV,kU,kV,kW,kX,gU,bU,bI,fU,gx',gp',gz',gQ',dh,di,eP,l0,lQ,aB,az,ae,aL,gp2,gz2',gQ2',gA2',l02,lQ2,lA2,n80,ah,c1,s,s2,s3,c4,c5,c6,c10,c7',c8];rw [if_pos]
    . simp +decide [gzq,bI,ah,c1,s];rfl
    . simp [aG,List.range,List.range.loop,Tr.spares];try omega
   obtain ⟨lo2,hB⟩:=hB;have hm3:∀ C D D' z,z<m.length->z≠bs.length+2->((n2.set (bs.length+2) (.cells C))++[Blk.cells D,Blk.cells D'])[z]?=m[z]?:=λC D D' z h1 h2=>by rw [al (by simp; omega),ac (Ne.symm h2),f2' z h1]
   refine jB hB (by simp; omega) (λz hz=>by rw [hm3 _ _ _ z (by omega) (by omega)]; exact hold z hz) (S.move (by omega) (by simp; omega) λy h1 h2 h3=>⟨hm3 _ _ _ y h2 (by omega),rfl⟩) (.inr ⟨n2.length+1,some 1,[],⟨by omega,by simp⟩,rfl,?_⟩);have:=bX (bs:=n2.set (bs.length+2) (.cells (aD x a w1 w2 w3 w4 w5))) (ys:=[.cells (ah e v1 v2 v3 v4 v5),.cells [V.d (u64 p.life),.d (u64 p.inc),.d (u64 p.seq),.d (i64 0)]]);rw [List.length_set] at this;rw [this];rfl
  have hts:bG x p=(⟨x.node,x.inc,x.asked,x.addrs,x.since,p.life,p.seq,qy (takeB x p) p.delta,p.delta.epoch⟩,[⟨p.life,p.inc,p.seq,1⟩]):=by unfold bG; rw [if_neg (by omega),if_neg (by omega),if_pos ⟨.inr ⟨s,c10⟩,c8,by rw [htb]; exact pk⟩]
  rw [hts,htb];have q1:∀ c ys,ai (n2.set Q (.cells c)++ys) Q=some c:=λc ys=>aj (aN gQ2);have q2:∀ c ys,ai (n2.set Q (.cells c)++ys) m.length=_:=λc ys=>aj ((bi (by omega)).trans gA2);have q3:∀ c d ys,ai ((n2.set Q (.cells c)).set m.length (.cells d)++ys) Q=some c:=λc d ys=>aj ((bi (by omega)).trans (aN gQ2));have q4:∀ c d ys,ai ((n2.set Q (.cells c)).set m.length (.cells d)++ys) m.length=some d:=λc d ys=>aj (aN ((bi (by omega)).trans gA2));have q7:∀ c d ys,ai ((n2.set Q (.cells c)).set m.length (.cells d)++ys) (bs.length+2)=_:=λc d ys=>aj ((bi (by omega)).trans ((bi (by omega)).trans gz2));have q8:∀ c d e ys,ai (((n2.set Q (.cells c)).set m.length (.cells d)).set (bs.length+2) (.cells e)++ys) (bs.length+2)=some e:=λc d e ys=>aj (aN ((bi (by omega)).trans ((bi (by omega)).trans gz2)));simp only [c1,s] at q2
  have hB:∃ lo2 CQ,Bd E TSd bA q18 [x.v,ag p.c] ⟨bs,bs.length⟩=some (.tup [.agg (aD ⟨x.node,x.inc,x.asked,x.addrs,x.since,p.life,p.seq,qy x.view.own p.delta,p.delta.epoch⟩ a v1 v2 v3 v4 v5),.row (n2.length+1) 0 1 (some 1) 4],⟨((n2.set Q (.cells CQ)).set m.length (.cells [V.d (u64 p.life),.d (u64 p.inc),.d (u64 p.seq),.d (i64 1)])).set (bs.length+2) (.cells (aD ⟨x.node,x.inc,x.asked,x.addrs,x.since,p.life,p.seq,qy x.view.own p.delta,p.delta.epoch⟩ a v1 v2 v3 v4 v5))++[.cells (ah p.delta.epoch v1 v2 v3 v4 v5),.cells [V.d (u64 p.life),.d (u64 p.inc),.d (u64 p.seq),.d (i64 1)]],lo2⟩):=by
   apply Exists.intro;apply Exists.intro;simp +decide [aa,q18,n76,gx,gp,gz,gzs,gQ,eF,gV,kU,kV,kW,kX,gU,bU,bI,fU,gx',gp',gz',gQ',dh,di,eP,l0,lQ,aB,az,ae,aL,gp2,gz2',gQ2',gA2',l02,lQ2,lA2,n80,ah,q1,q2,q3,q4,q7,q8,aD,Wm,c1,s,s2,s3,c4,c5,c6,c10,c7',c8];rw [if_pos]
   . simp +decide [aa,q18,n76,gx,gp,gz,gzs,gQ,eF,gV,kU,kV,kW,kX,gU,bU,bI,fU,gx',gp',gz',gQ',dh,di,eP,l0,lQ,aB,az,ae,aL,gp2,gz2',gQ2',gA2',l02,lQ2,lA2,n80,ah,q1,q2,q3,q4,q7,q8,aD,Wm,c1,s,s2,s3,c4,c5,c6,c10,c7',c8];rw [if_pos]
     . simp +decide [q8,aD,qy,c1,s];exact ⟨rfl,rfl⟩
     . simp [aG,List.range,List.range.loop,Tr.spares];try omega
   . simp [aG,List.range,List.range.loop,Tr.spares];try omega
  obtain ⟨lo2,CQ,hB⟩:=hB;have hlen:∀ (C1 C2 C3 D D':List V),((((n2.set Q (.cells C1)).set m.length (.cells C2)).set (bs.length+2) (.cells C3)++[.cells D,.cells D']:List Blk)).length=n2.length+2:=λ_ _ _ _ _=>by simp
  have hm3:∀ (C1 C2 C3 D D':List V) z,z<n2.length->z≠Q->z≠m.length->z≠bs.length+2->(((n2.set Q (.cells C1)).set m.length (.cells C2)).set (bs.length+2) (.cells C3)++[Blk.cells D,Blk.cells D'])[z]?=n2[z]?:=λC1 C2 C3 D D' z h1 h2 h3 h4=>by
   rw [al (by simpa using h1),ac (Ne.symm h4),ac (Ne.symm h3),ac (Ne.symm h2)]
  have hR:∀ (C1 C2 C3 D D':List V),ai (((n2.set Q (.cells C1)).set m.length (.cells C2)).set (bs.length+2) (.cells C3)++[.cells D,.cells D']) (n2.length+1)=some D':=λC1 C2 C3 D D'=>by
   have:=bX (bs:=((n2.set Q (.cells C1)).set m.length (.cells C2)).set (bs.length+2) (.cells C3)) (ys:=[.cells D,.cells D']);simp only [List.length_set] at this;rw [this];rfl
  refine jB (t:=λz=>if z<m.length then tg z else tv z) hB (by rw [hlen]; omega) (λz hz=>by rw [hm3 _ _ _ _ _ z (by omega) (by omega) (by omega) (by omega),f2' z (by omega)]; exact hold z hz) ⟨S.r0.on λz hz=>?_,Sv.move (by omega) (by rw [hlen]; omega) λz h1 h2 h3=>⟨hm3 _ _ _ _ _ z h2 (by omega) (by omega) (by omega),if_neg (by omega)⟩⟩ (.inr ⟨n2.length+1,some 1,[],⟨by omega,by rw [hlen]; omega⟩,rfl,by rw [hR]; rfl⟩);obtain ⟨z1,z2,z3⟩:=hz;have zq:z≠Q:=λh=>by have:=htq z (by omega); omega
  exact ⟨⟨by omega,by rw [hlen]; omega,(if_pos (by omega)).trans z3⟩,by rw [hm3 _ _ _ _ _ z (by omega) zq (by omega) (by omega),f2' z (by omega)]⟩
 by_cases c7:p.upon=0
 case pos =>
  obtain ⟨n2,v1,v2,v3,v4,v5,k,e,F2,n80,f2,l2,h80⟩:=Ck H Cc (λp hp=>by cases hp) hd hwd (base0 (m++[Blk.cells [V.d (u64 p.life),.d (u64 p.inc),.d (u64 p.seq),.d (i64 0)],.cells (ah 0 aK aK aK aK aK)]));have htb:takeB x p=vw0:=by unfold takeB; rw [if_pos c7]
  simp only [am,cg,ch] at f2 l2 h80;have f2':∀ z,z<m.length->n2[z]?=m[z]?:=λz hz=>by rw [f2 z (by omega),al hz]
  have gp2:=λys=>aj (ys:=ys) (aM (f2' _ (by omega)) gp);have gz2:ai n2 (bs.length+2)=some _:=aM (f2' _ l0) gz;have gQ2:ai n2 Q=some _:=aM (f2' _ lQ) gQ;have gA2:ai n2 m.length=some [V.d (u64 p.life),.d (u64 p.inc),.d (u64 p.seq),.d (i64 0)]:=aM (f2 _ (by omega)) (by rw [cO]; rfl);have gz2':=λys=>aj (ys:=ys) gz2;have gQ2':=λys=>aj (ys:=ys) gQ2;have gA2':=λys=>aj (ys:=ys) gA2;have l02:bs.length+2<n2.length:=by omega
  have lQ2:Q<n2.length:=by omega
  have lA2:m.length<n2.length:=by omega
  have hpv:(p.delta.v:V)=ag p.delta.c:=rfl;rw [hpv] at n80;simp [ah,aK,c1] at n80 gA2';by_cases c8:x.high<=p.delta.epoch
  case neg =>
   have c8':p.delta.epoch<x.high:=by omega
   have hts:bG x p=(x,[⟨p.life,p.inc,p.seq,0⟩]):=by unfold bG; rw [if_neg (by omega),if_neg (by omega),if_neg (λh=>c8 h.2.1)]
   rw [hts];have gzq:∀ C ys,ai (n2.set (bs.length+2) (.cells C)++ys) (bs.length+2)=some C:=λC ys=>aj (aN gz2);have hB:∃ lo2,Bd E TSd bA q18 [x.v,ag p.c] ⟨bs,bs.length⟩=some (.tup [.agg (aD x a w1 w2 w3 w4 w5),.row (n2.length+1) 0 1 (some 1) 4],⟨(n2.set (bs.length+2) (.cells (aD x a w1 w2 w3 w4 w5)))++[.cells (ah e v1 v2 v3 v4 v5),.cells [V.d (u64 p.life),.d (u64 p.inc),.d (u64 p.seq),.d (i64 0)]],lo2⟩):=by
    apply Exists.intro;simp +decide [aa,q18,n76,gx,gp,gz,gzs,gQ,eF,gV,kU,kV,kW,kX,gU,bU,bI,fU,gx',gp',gz',gQ',dh,di,eP,l0,lQ,aB,az,ae,aL,gp2,gz2',gQ2',gA2',l02,lQ2,lA2,n80,ah,c1,c2,c3,c4,s,c7,c8,c8'];rw [if_pos]
    . simp +decide [gzq,bI,ah,c1];rfl
    . simp [aG,List.range,List.range.loop,Tr.spares];try omega
   obtain ⟨lo2,hB⟩:=hB;have hm3:∀ C D D' z,z<m.length->z≠bs.length+2->((n2.set (bs.length+2) (.cells C))++[Blk.cells D,Blk.cells D'])[z]?=m[z]?:=λC D D' z h1 h2=>by rw [al (by simp; omega),ac (Ne.symm h2),f2' z h1]
   refine jB hB (by simp; omega) (λz hz=>by rw [hm3 _ _ _ z (by omega) (by omega)]; exact hold z hz) (S.move (by omega) (by simp; omega) λy h1 h2 h3=>⟨hm3 _ _ _ y h2 (by omega),rfl⟩) (.inr ⟨n2.length+1,some 1,[],⟨by omega,by simp⟩,rfl,?_⟩);have:=bX (bs:=n2.set (bs.length+2) (.cells (aD x a w1 w2 w3 w4 w5))) (ys:=[.cells (ah e v1 v2 v3 v4 v5),.cells [V.d (u64 p.life),.d (u64 p.inc),.d (u64 p.seq),.d (i64 0)]]);rw [List.length_set] at this;rw [this];rfl
  obtain ⟨pk,rfl,rfl,tv,Sv⟩ | ⟨pk,rfl,_⟩:=h80
  case inr =>
   have hts:bG x p=(x,[⟨p.life,p.inc,p.seq,0⟩]):=by unfold bG; rw [if_neg (by omega),if_neg (by omega),if_neg (λh=>by rw [htb,pk] at h; exact absurd h.2.2 (by decide))]
   rw [hts];have gzq:∀ C ys,ai (n2.set (bs.length+2) (.cells C)++ys) (bs.length+2)=some C:=λC ys=>aj (aN gz2);have hB:∃ lo2,Bd E TSd bA q18 [x.v,ag p.c] ⟨bs,bs.length⟩=some (.tup [.agg (aD x a w1 w2 w3 w4 w5),.row (n2.length+1) 0 1 (some 1) 4],⟨(n2.set (bs.length+2) (.cells (aD x a w1 w2 w3 w4 w5)))++[.cells (ah e v1 v2 v3 v4 v5),.cells [V.d (u64 p.life),.d (u64 p.inc),.d (u64 p.seq),.d (i64 0)]],lo2⟩):=by
    apply Exists.intro;simp +decide [aa,q18,n76,gx,gp,gz,gzs,gQ,eF,gV,kU,kV,kW,kX,gU,bU,bI,fU,gx',gp',gz',gQ',dh,di,eP,l0,lQ,aB,az,ae,aL,gp2,gz2',gQ2',gA2',l02,lQ2,lA2,n80,ah,c1,c2,c3,c4,s,c7,c8];rw [if_pos]
    . simp +decide [gzq,bI,ah,c1];rfl
    . simp [aG,List.range,List.range.loop,Tr.spares];try omega
   obtain ⟨lo2,hB⟩:=hB;have hm3:∀ C D D' z,z<m.length->z≠bs.length+2->((n2.set (bs.length+2) (.cells C))++[Blk.cells D,Blk.cells D'])[z]?=m[z]?:=λC D D' z h1 h2=>by rw [al (by simp; omega),ac (Ne.symm h2),f2' z h1]
   refine jB hB (by simp; omega) (λz hz=>by rw [hm3 _ _ _ z (by omega) (by omega)]; exact hold z hz) (S.move (by omega) (by simp; omega) λy h1 h2 h3=>⟨hm3 _ _ _ y h2 (by omega),rfl⟩) (.inr ⟨n2.length+1,some 1,[],⟨by omega,by simp⟩,rfl,?_⟩);have:=bX (bs:=n2.set (bs.length+2) (.cells (aD x a w1 w2 w3 w4 w5))) (ys:=[.cells (ah e v1 v2 v3 v4 v5),.cells [V.d (u64 p.life),.d (u64 p.inc),.d (u64 p.seq),.d (i64 0)]]);rw [List.length_set] at this;rw [this];rfl
  have hts:bG x p=(⟨x.node,x.inc,x.asked,x.addrs,x.since,p.life,p.seq,qy (takeB x p) p.delta,p.delta.epoch⟩,[⟨p.life,p.inc,p.seq,1⟩]):=by unfold bG; rw [if_neg (by omega),if_neg (by omega),if_pos ⟨.inl c7,c8,by rw [htb]; exact pk⟩]
  rw [hts,htb];have q1:∀ c ys,ai (n2.set Q (.cells c)++ys) Q=some c:=λc ys=>aj (aN gQ2);have q2:∀ c ys,ai (n2.set Q (.cells c)++ys) m.length=_:=λc ys=>aj ((bi (by omega)).trans gA2);have q3:∀ c d ys,ai ((n2.set Q (.cells c)).set m.length (.cells d)++ys) Q=some c:=λc d ys=>aj ((bi (by omega)).trans (aN gQ2));have q4:∀ c d ys,ai ((n2.set Q (.cells c)).set m.length (.cells d)++ys) m.length=some d:=λc d ys=>aj (aN ((bi (by omega)).trans gA2));have q7:∀ c d ys,ai ((n2.set Q (.cells c)).set m.length (.cells d)++ys) (bs.length+2)=_:=λc d ys=>aj ((bi (by omega)).trans ((bi (by omega)).trans gz2));have q8:∀ c d e ys,ai (((n2.set Q (.cells c)).set m.length (.cells d)).set (bs.length+2) (.cells e)++ys) (bs.length+2)=some e:=λc d e ys=>aj (aN ((bi (by omega)).trans ((bi (by omega)).trans gz2)));simp only [c1] at q2
  have hB:∃ lo2 CQ,Bd E TSd bA q18 [x.v,ag p.c] ⟨bs,bs.length⟩=some (.tup [.agg (aD ⟨x.node,x.inc,x.asked,x.addrs,x.since,p.life,p.seq,qy vw0 p.delta,p.delta.epoch⟩ a v1 v2 v3 v4 v5),.row (n2.length+1) 0 1 (some 1) 4],⟨((n2.set Q (.cells CQ)).set m.length (.cells [V.d (u64 p.life),.d (u64 p.inc),.d (u64 p.seq),.d (i64 1)])).set (bs.length+2) (.cells (aD ⟨x.node,x.inc,x.asked,x.addrs,x.since,p.life,p.seq,qy vw0 p.delta,p.delta.epoch⟩ a v1 v2 v3 v4 v5))++[.cells (ah p.delta.epoch v1 v2 v3 v4 v5),.cells [V.d (u64 p.life),.d (u64 p.inc),.d (u64 p.seq),.d (i64 1)]],lo2⟩):=by
   apply Exists.intro;apply Exists.intro;simp +decide [aa,q18,n76,gx,gp,gz,gzs,gQ,eF,gV,kU,kV,kW,kX,gU,bU,bI,fU,gx',gp',gz',gQ',dh,di,eP,l0,lQ,aB,az,ae,aL,gp2,gz2',gQ2',gA2',l02,lQ2,lA2,n80,ah,q1,q2,q3,q4,q7,q8,aD,Wm,c1,c2,c3,c4,s,c7,c8];rw [if_pos]
   . simp +decide [aa,q18,n76,gx,gp,gz,gzs,gQ,eF,gV,kU,kV,kW,kX,gU,bU,bI,fU,gx',gp',gz',gQ',dh,di,eP,l0,lQ,aB,az,ae,aL,gp2,gz2',gQ2',gA2',l02,lQ2,lA2,n80,ah,q1,q2,q3,q4,q7,q8,aD,Wm,c1,c2,c3,c4,s,c7,c8];rw [if_pos]
     . simp +decide [q8,aD,qy,c1];exact ⟨rfl,rfl⟩
     . simp [aG,List.range,List.range.loop,Tr.spares];try omega
   . simp [aG,List.range,List.range.loop,Tr.spares];try omega
  obtain ⟨lo2,CQ,hB⟩:=hB;have hlen:∀ (C1 C2 C3 D D':List V),((((n2.set Q (.cells C1)).set m.length (.cells C2)).set (bs.length+2) (.cells C3)++[.cells D,.cells D']:List Blk)).length=n2.length+2:=λ_ _ _ _ _=>by simp
  have hm3:∀ (C1 C2 C3 D D':List V) z,z<n2.length->z≠Q->z≠m.length->z≠bs.length+2->(((n2.set Q (.cells C1)).set m.length (.cells C2)).set (bs.length+2) (.cells C3)++[Blk.cells D,Blk.cells D'])[z]?=n2[z]?:=λC1 C2 C3 D D' z h1 h2 h3 h4=>by
   rw [al (by simpa using h1),ac (Ne.symm h4),ac (Ne.symm h3),ac (Ne.symm h2)]
  have hR:∀ (C1 C2 C3 D D':List V),ai (((n2.set Q (.cells C1)).set m.length (.cells C2)).set (bs.length+2) (.cells C3)++[.cells D,.cells D']) (n2.length+1)=some D':=λC1 C2 C3 D D'=>by
   have:=bX (bs:=((n2.set Q (.cells C1)).set m.length (.cells C2)).set (bs.length+2) (.cells C3)) (ys:=[.cells D,.cells D']);simp only [List.length_set] at this;rw [this];rfl
  refine jB (t:=λz=>if z<m.length then tg z else tv z) hB (by rw [hlen]; omega) (λz hz=>by rw [hm3 _ _ _ _ _ z (by omega) (by omega) (by omega) (by omega),f2' z (by omega)]; exact hold z hz) ⟨S.r0.on λz hz=>?_,Sv.move (by omega) (by rw [hlen]; omega) λz h1 h2 h3=>⟨hm3 _ _ _ _ _ z h2 (by omega) (by omega) (by omega),if_neg (by omega)⟩⟩ (.inr ⟨n2.length+1,some 1,[],⟨by omega,by rw [hlen]; omega⟩,rfl,by rw [hR]; rfl⟩);obtain ⟨z1,z2,z3⟩:=hz;have zq:z≠Q:=λh=>by have:=htq z (by omega); omega
  exact ⟨⟨by omega,by rw [hlen]; omega,(if_pos (by omega)).trans z3⟩,by rw [hm3 _ _ _ _ _ z (by omega) zq (by omega) (by omega),f2' z (by omega)]⟩
 have S0:=S.vw.next (bs2:=(m++[Blk.cells [V.d (u64 p.life),.d (u64 p.inc),.d (u64 p.seq),.d (i64 0)],.cells (ah x.view.epoch w1 w2 w3 w4 w5)])) (by simp) λy _ h _=>al h;have hvo:(VwD x.view.epoch x.view.covers.l x.view.pods.l x.view.services.l x.view.bound.l x.view.policies.l w1 w2 w3 w4 w5).ok:=S0.ok _ hx.view.1.1 hx.view.2.1.1 hx.view.2.2.1.1 hx.view.2.2.2.1.1 hx.view.2.2.2.2.1.1 λp hp=>(Pol.own_wf (hx.wf p hp)).fits;obtain ⟨n2,v1,v2,v3,v4,v5,k,e,F2,n80,f2,l2,h80⟩:=Ck H hvo (λp hp=>by obtain ⟨q,hq,rfl⟩:=b9.1 (show p∈x.view.policies.l.map Pol.own from hp); exact Pol.own_wf (hx.wf q hq)) hd hwd (S0.base x.view.epoch);have htb:takeB x p=x.view.own:=by unfold takeB; rw [if_neg c7]
 have hpk:jA (VwD x.view.epoch x.view.covers.l x.view.pods.l x.view.services.l x.view.bound.l x.view.policies.l w1 w2 w3 w4 w5) p.delta=jA x.view.own p.delta:=by
  have h1:bg (VwD x.view.epoch x.view.covers.l x.view.pods.l x.view.services.l x.view.bound.l x.view.policies.l w1 w2 w3 w4 w5)=bg x.view.own:=by rw [← eZ,← eZ x.view.own]; rfl
  unfold jA;rw [h1];rfl
 rw [hpk] at h80;simp only [am,cg,ch] at f2 l2 h80;have f2':∀ z,z<m.length->n2[z]?=m[z]?:=λz hz=>by rw [f2 z (by omega),al hz]
 have gp2:=λys=>aj (ys:=ys) (aM (f2' _ (by omega)) gp);have gz2:ai n2 (bs.length+2)=some _:=aM (f2' _ l0) gz;have gQ2:ai n2 Q=some _:=aM (f2' _ lQ) gQ;have gA2:ai n2 m.length=some [V.d (u64 p.life),.d (u64 p.inc),.d (u64 p.seq),.d (i64 0)]:=aM (f2 _ (by omega)) (by rw [cO]; rfl);have gz2':=λys=>aj (ys:=ys) gz2;have gQ2':=λys=>aj (ys:=ys) gQ2;have gA2':=λys=>aj (ys:=ys) gA2;have l02:bs.length+2<n2.length:=by omega
 have lQ2:Q<n2.length:=by omega
 have lA2:m.length<n2.length:=by omega
 have hpv:(p.delta.v:V)=ag p.delta.c:=rfl;rw [hpv] at n80;simp [ah,aK,c1] at n80 gA2';have hts:bG x p=(x,[⟨p.life,p.inc,p.seq,0⟩]):=by unfold bG; rw [if_neg (by omega),if_neg (by omega),if_neg (λh=>by obtain h | h:=h.1; exact c7 h; exact s h.1)]
 rw [hts];have gzq:∀ C ys,ai (n2.set (bs.length+2) (.cells C)++ys) (bs.length+2)=some C:=λC ys=>aj (aN gz2);have hB:∃ lo2,Bd E TSd bA q18 [x.v,ag p.c] ⟨bs,bs.length⟩=some (.tup [.agg (aD x a w1 w2 w3 w4 w5),.row (n2.length+1) 0 1 (some 1) 4],⟨(n2.set (bs.length+2) (.cells (aD x a w1 w2 w3 w4 w5)))++[.cells (ah e v1 v2 v3 v4 v5),.cells [V.d (u64 p.life),.d (u64 p.inc),.d (u64 p.seq),.d (i64 0)]],lo2⟩):=by
  apply Exists.intro;simp +decide [aa,q18,n76,gx,gp,gz,gzs,gQ,eF,gV,kU,kV,kW,kX,gU,bU,bI,fU,gx',gp',gz',gQ',dh,di,eP,l0,lQ,aB,az,ae,aL,gp2,gz2',gQ2',gA2',l02,lQ2,lA2,n80,ah,c1,c2,c3,c4,s,c7];rw [if_pos]
  . simp +decide [gzq,bI,ah,c1];rfl
  . simp [aG,List.range,List.range.loop,Tr.spares];try omega
 obtain ⟨lo2,hB⟩:=hB;have hm3:∀ C D D' z,z<m.length->z≠bs.length+2->((n2.set (bs.length+2) (.cells C))++[Blk.cells D,Blk.cells D'])[z]?=m[z]?:=λC D D' z h1 h2=>by rw [al (by simp; omega),ac (Ne.symm h2),f2' z h1]
 refine jB hB (by simp; omega) (λz hz=>by rw [hm3 _ _ _ z (by omega) (by omega)]; exact hold z hz) (S.move (by omega) (by simp; omega) λy h1 h2 h3=>⟨hm3 _ _ _ y h2 (by omega),rfl⟩) (.inr ⟨n2.length+1,some 1,[],⟨by omega,by simp⟩,rfl,?_⟩);have:=bX (bs:=n2.set (bs.length+2) (.cells (aD x a w1 w2 w3 w4 w5))) (ys:=[.cells (ah e v1 v2 v3 v4 v5),.cells [V.d (u64 p.life),.d (u64 p.inc),.d (u64 p.seq),.d (i64 0)]]);rw [List.length_set] at this;rw [this];rfl
end
end
