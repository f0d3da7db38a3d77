/- The document's answer for layer 17, by value: services, waypoints, policies. -/
import Derived.Test.YtinmplbccmfheaaGreatJk
set_option maxRecDepth 100000
set_option linter.unusedVariables false
set_option linter.unusedSimpArgs false
namespace Go.Proofs.YtinmplbccmfheaaGreat
section
variable {E:Calls'}
theorem Vf {Q q:Nat}{ep:Int}{w1 w2 w3 w4 w5:V}{L M:Nat}{bs:List Blk}{pods:List Pod}{x:Svc}(hD:ah bs Q=some (aC ep w1 w2 w3 w4 w5))(hq:ah bs q=some (x.c.map .d))(hr:Row1 L M bs 7 (pods.map Pod.c) w2)(hl:pods.length<2 ^ 62)(t11:V)(y:Bool)(lo:Nat) :
 Cd E TF eY (.loop [2,3,4,6,11,12,13,14] uD) [(2,.ptr 0 0),(3,.ptr 1 0),(4,.ptr 2 0),(6,.ptr Q 0),(11,t11),(12,.ptr q 0),(13,bl y),(14,.d (i64 ((0:Nat):Int)))] ⟨bs,lo⟩=some (.exit 6,[(2,.ptr 0 0),(3,.ptr 1 0),(4,.ptr 2 0),(6,.ptr Q 0),(11,t11),(12,.ptr q 0),(13,bl (y||pods.any λp=>p.service==x.id))],⟨bs,lo⟩):=by
 have hrl:=hr.len;simp only [b9] at hrl;have hrn:=hr.nu;refine xN (E:=E) (T:=TF) (val:=eY) (keep:=[2,3,4,6,11,12,13,14]) (body:=uD) pods (λp=>p.service==x.id) y (λi b=>[(2,.ptr 0 0),(3,.ptr 1 0),(4,.ptr 2 0),(6,.ptr Q 0),(11,t11),(12,.ptr q 0),(13,bl b),(14,.d (i64 i))]) (λb=>(.exit 6,[(2,.ptr 0 0),(3,.ptr 1 0),(4,.ptr 2 0),(6,.ptr Q 0),(11,t11),(12,.ptr q 0),(13,bl b)])) bs (λi p hp hi lo b W=>?_) (λlo b W=>?_) lo
 . obtain ⟨B,_,_,r1,r2,r3,r4⟩:=hr.at (i:=i) (e:=p.c) (by rw [List.getElem?_map,hp]; rfl);have r5:=r3 6 1 (by decide);have r6:sub (p.c.map V.d) 6 1=some [.d (u64 p.service)]:=rfl;have hw:=ax hi hl;have h0:((i:Int)<pods.length):=by omega
   cases b with
   | true=>simp [uD,hD,hq,vg,hrl,hrn,h0,hw]
   | false=>simp [uD,hD,hq,vg,hrl,hrn,h0,hw,r1,r2,r5,r6]
 . simp [uD,hD,vg,hrl,hrn]
theorem Vh {Q q:Nat}{ep:Int}{w1 w2 w3 w4 w5:V}{L M:Nat}{bs:List Blk}{svcs:List Svc}{x:Way}(hD:ah bs Q=some (aC ep w1 w2 w3 w4 w5))(hq:ah bs q=some (x.c.map .d))(hr:Row1 L M bs 5 (svcs.map Svc.c) w3)(hl:svcs.length<2 ^ 62)(t15:V)(y:Bool)(lo:Nat) :
 Cd E TF eY (.loop [2,3,4,6,15,16,17,18] uF) [(2,.ptr 0 0),(3,.ptr 1 0),(4,.ptr 2 0),(6,.ptr Q 0),(15,t15),(16,.ptr q 0),(17,bl y),(18,.d (i64 ((0:Nat):Int)))] ⟨bs,lo⟩=some (.exit 10,[(2,.ptr 0 0),(3,.ptr 1 0),(4,.ptr 2 0),(6,.ptr Q 0),(15,t15),(16,.ptr q 0),(17,bl (y||svcs.any λp=>p.way==x.id))],⟨bs,lo⟩):=by
 have hrl:=hr.len;simp only [b9] at hrl;have hrn:=hr.nu;refine xN (E:=E) (T:=TF) (val:=eY) (keep:=[2,3,4,6,15,16,17,18]) (body:=uF) svcs (λp=>p.way==x.id) y (λi b=>[(2,.ptr 0 0),(3,.ptr 1 0),(4,.ptr 2 0),(6,.ptr Q 0),(15,t15),(16,.ptr q 0),(17,bl b),(18,.d (i64 i))]) (λb=>(.exit 10,[(2,.ptr 0 0),(3,.ptr 1 0),(4,.ptr 2 0),(6,.ptr Q 0),(15,t15),(16,.ptr q 0),(17,bl b)])) bs (λi p hp hi lo b W=>?_) (λlo b W=>?_) lo
 . obtain ⟨B,_,_,r1,r2,r3,r4⟩:=hr.at (i:=i) (e:=p.c) (by rw [List.getElem?_map,hp]; rfl);have r5:=r3 4 1 (by decide);have r6:sub (p.c.map V.d) 4 1=some [.d (u64 p.way)]:=rfl;have hw:=ax hi hl;have h0:((i:Int)<svcs.length):=by omega
   cases b with
   | true=>simp [uF,hD,hq,Bh,hrl,hrn,h0,hw]
   | false=>simp [uF,hD,hq,Bh,hrl,hrn,h0,hw,r1,r2,r5,r6]
 . simp [uF,hD,Bh,hrl,hrn]
section
variable (H:O17 E){c:Cfg}(hc:c.ok){s:Scp}(hs:short s.addrs){Q:Nat}(h3:3<=Q)
include H hc hs h3
def EP (c:Cfg)(s:Scp)(pods:List Pod)(x:Svc):Bool:=dz s.addrs.l x.addr||fT c s.node x||pods.any λp=>p.service==x.id
theorem Vg {e:Int}{w1 w2:V}{bs0:List Blk}{pods:List Pod}{L M:Nat}(b0:ah bs0 0=some (c.c.map .d))(b1:ah bs0 1=some (s.c.map .d))(hD:ah bs0 Q=some (aC e w1 w2 aF aF aF))(hr:Row1 L M bs0 7 (pods.map Pod.c) w2)(hL:Q<L)(hM0:M<=bs0.length)(hpl:pods.length<2 ^ 62)(hl:c.services.l.length<big)(lo:Nat) :
 ∃ bs' lo' v',Cd E TF eY (.loop [2,3,4,6,11] uE) [(2,.ptr 0 0),(3,.ptr 1 0),(4,.ptr 2 0),(6,.ptr Q 0),(11,.d (i64 ((0:Nat):Int)))] ⟨bs0,lo⟩=some (.exit 4,[(2,.ptr 0 0),(3,.ptr 1 0),(4,.ptr 2 0),(6,.ptr Q 0)],⟨bs',lo'⟩)/\MkF Q bs0 (λv=>aC e w1 w2 v aF aF) 5 ((c.services.l.filter (EP c s pods)).map Svc.c) bs' v':=by
 have hlt:=hc.2.1.lt;have key:=sI (E:=E) (T:=TF) (val:=eY) (keep:=[2,3,4,6,11]) (body:=uE) (cells:=Svc.c) c.services.l (EP c s pods) id (Q:=Q) (z:=5) (bs0:=bs0) (F:=λv=>aC e w1 w2 v aF aF) (λi=>[(2,.ptr 0 0),(3,.ptr 1 0),(4,.ptr 2 0),(6,.ptr Q 0),(11,.d (i64 i))]) (.exit 4,[(2,.ptr 0 0),(3,.ptr 1 0),(4,.ptr 2 0),(6,.ptr Q 0)]) (λi x hx hi bs lo v es hM hes=>?_) (λbs lo v es hM W=>?_) lo hD
 . simpa using key
 . have hsx:=λh=>aA (z:=5) h hx (cells:=Svc.c) rfl;have hw:=ax hi hlt;have h0:((i:Int)<c.services.l.length):=by omega
   have hM1:=hM.lay [.cells (x.c.map .d)];have hM2:=hM.lay [.cells (x.c.map .d),.cells (x.c.map .d)];have g0':=hM.get (x:=0) (by omega) b0;have g0:=λys=>av (ys:=ys) (hM.get (x:=0) (by omega) b0);have g1:=λys=>av (ys:=ys) (hM.get (x:=1) (by omega) b1);have gD:=λys=>av (ys:=ys) hM.atD;have hDb:¬ bs.length=Q:=by have:=hM.lt; have:=hM.len; omega
   have hz:put [V.d (.int .u64 0),.d (.str ⟨#[]⟩),.d (.int .u32 0),.d (.int .i64 0),.d (.int .u64 0)] 0 (x.c.map V.d)=some (x.c.map V.d):=rfl;have n2:=λh=>Qr H c hc x s.node h;have n3:=λa h=>H.c121 s.addrs hs a h;have hnu:=hM.nu;have hle:=hM.len;have hr1:Row1 L M (bs++[.cells (x.c.map .d)]) 7 (pods.map Pod.c) w2:=hr.on λy h1 h2=>by
    rw [aq (by omega)];exact hM.old y (by omega) (by omega)
   have qL:=λy lo=>Vf (E:=E) (Q:=Q) (q:=bs.length) (ep:=e) (w1:=w1) (w2:=w2) (w3:=v) (w4:=aF) (w5:=aF) (x:=x) hM1.atD (by rw [dU]; rfl) hr1 hpl (.d (i64 i)) y lo;have ez:((0:Nat):Int)=0:=rfl;rw [ez] at qL;obtain ⟨v',bs',G,a1,a2,a3,a4,a5⟩:=hM2.app (by decide) (by_:=48) (by decide) (by omega) (e:=x.c) rfl (r:=bs.length+1) (cap:=some 1) (by rw [oO]; rfl);have hh:EP c s pods x=(dz s.addrs.l x.addr||fT c s.node x||pods.any λp=>p.service==x.id):=rfl;cases hq:EP c s pods x with
   | true =>
    rw [hh] at hq;refine ⟨_,min (G (min lo bs.length)) Q,v',by simpa using a5,λW=>?_⟩;cases ho:dz s.addrs.l x.addr<;>cases hb:fT c s.node x<;>rw [ho,hb] at hq<;>simp only [Bool.or_false,Bool.false_or,Bool.true_or] at hq;all_goals (simp [uE,g0',g0,g1,gD,hsx,h0,hw,hz,n2,n3,ho,hb,ai,aa,az,ae,Tr.mute,aB]; rw [aj]; simp [qL,hq,gD,hnu,a1,a2,a3,a4,RI,Bh,aL,hw])
   | false =>
    rw [hh] at hq;simp only [Bool.or_eq_false_iff] at hq;obtain ⟨⟨ho,hb⟩,hq⟩:=hq;refine ⟨_,min lo bs.length,v,by simpa using hM1,λW=>?_⟩;simp [uE,g0',g0,g1,gD,hsx,h0,hw,hz,n2,n3,ho,hb,ai,aa,az,ae,Tr.mute,aB];rw [aj];simp [qL,hq,hw]
 . have g0:=hM.get (x:=0) (by omega) b0;simp [uE,g0]
omit H hs in
theorem Vi {e:Int}{w1 w2 w3:V}{bs0:List Blk}{svcs:List Svc}{L M:Nat}(b0:ah bs0 0=some (c.c.map .d))(b1:ah bs0 1=some (s.c.map .d))(hD:ah bs0 Q=some (aC e w1 w2 w3 aF aF))(hr:Row1 L M bs0 5 (svcs.map Svc.c) w3)(hL:Q<L)(hM0:M<=bs0.length)(hpl:svcs.length<2 ^ 62)(hl:c.bound.l.length<big)(lo:Nat) :
 ∃ bs' lo' v',Cd E TF eY (.loop [2,3,4,6,15] q9) [(2,.ptr 0 0),(3,.ptr 1 0),(4,.ptr 2 0),(6,.ptr Q 0),(15,.d (i64 ((0:Nat):Int)))] ⟨bs0,lo⟩=some (.exit 8,[(2,.ptr 0 0),(3,.ptr 1 0),(4,.ptr 2 0),(6,.ptr Q 0)],⟨bs',lo'⟩)/\MkF Q bs0 (λv=>aC e w1 w2 w3 v aF) 2 ((c.bound.l.filter λw=>w.node==s.node||svcs.any λx=>x.way==w.id).map Way.c) bs' v':=by
 have hlt:=hc.2.2.1.lt;have key:=sI (E:=E) (T:=TF) (val:=eY) (keep:=[2,3,4,6,15]) (body:=q9) (cells:=Way.c) c.bound.l (λw=>w.node==s.node||svcs.any λx=>x.way==w.id) id (Q:=Q) (z:=2) (bs0:=bs0) (F:=λv=>aC e w1 w2 w3 v aF) (λi=>[(2,.ptr 0 0),(3,.ptr 1 0),(4,.ptr 2 0),(6,.ptr Q 0),(15,.d (i64 i))]) (.exit 8,[(2,.ptr 0 0),(3,.ptr 1 0),(4,.ptr 2 0),(6,.ptr Q 0)]) (λi x hx hi bs lo v es hM hes=>?_) (λbs lo v es hM W=>?_) lo hD
 . simpa using key
 . have hsx:=λh=>aA (z:=2) h hx (cells:=Way.c) rfl;have hw:=ax hi hlt;have h0:((i:Int)<c.bound.l.length):=by omega
   have hM1:=hM.lay [.cells (x.c.map .d)];have hM2:=hM.lay [.cells (x.c.map .d),.cells (x.c.map .d)];have g0':=hM.get (x:=0) (by omega) b0;have g0:=λys=>av (ys:=ys) (hM.get (x:=0) (by omega) b0);have g1:=λys=>av (ys:=ys) (hM.get (x:=1) (by omega) b1);have gD:=λys=>av (ys:=ys) hM.atD;have hDb:¬ bs.length=Q:=by have:=hM.lt; have:=hM.len; omega
   have hz:put [V.d (.int .u64 0),.d (.int .i64 0)] 0 (x.c.map V.d)=some (x.c.map V.d):=rfl;have hnu:=hM.nu;have hle:=hM.len;have hr1:Row1 L M (bs++[.cells (x.c.map .d)]) 5 (svcs.map Svc.c) w3:=hr.on λy h1 h2=>by
    rw [aq (by omega)];exact hM.old y (by omega) (by omega)
   have qL:=λy lo=>Vh (E:=E) (Q:=Q) (q:=bs.length) (ep:=e) (w1:=w1) (w2:=w2) (w3:=w3) (w4:=v) (w5:=aF) (x:=x) hM1.atD (by rw [dU]; rfl) hr1 hpl (.d (i64 i)) y lo;have ez:((0:Nat):Int)=0:=rfl;rw [ez] at qL;obtain ⟨v',bs',G,a1,a2,a3,a4,a5⟩:=hM2.app (by decide) (by_:=16) (by decide) (by omega) (e:=x.c) rfl (r:=bs.length+1) (cap:=some 1) (by rw [oO]; rfl);have hdn:∀ b,(x.node==s.node)=b->decide (x.node=s.node)=b:=λb hb=>by rw [← hb]; exact (Bool.eq_iff_iff.2 (by simp)).symm
   cases ho:(x.node==s.node) with
   | true =>
    have ho2:x.node=s.node:=by simpa using ho
    refine ⟨_,min (G (min lo bs.length)) Q,v',by simpa [ho] using a5,λW=>?_⟩;simp [q9,g0',g0,g1,gD,hsx,h0,hw,hz,ho2];rw [aj];simp [qL,gD,hnu,a1,a2,a3,a4,Km,Li,aL,hw]
   | false =>
    have ho2:¬ x.node=s.node:=by simpa using ho
    cases hq:svcs.any λy=>y.way==x.id with
    | true =>
     refine ⟨_,min (G (min lo bs.length)) Q,v',by simpa [hq] using a5,λW=>?_⟩;simp [q9,g0',g0,g1,gD,hsx,h0,hw,hz,ho2];rw [aj];simp [qL,hq,gD,hnu,a1,a2,a3,a4,Km,Li,aL,hw]
    | false =>
     refine ⟨_,min lo bs.length,v,by simpa [hq,ho] using hM1,λW=>?_⟩;simp [q9,g0',g0,g1,gD,hsx,h0,hw,hz,ho2];rw [aj];simp [qL,hq,hw]
 . have g0:=hM.get (x:=0) (by omega) b0;simp [q9,g0]
omit hs h3 in
theorem Vj {bs:List Blk}(b0:ah bs 0=some (c.c.map .d))(b1:ah bs 1=some (s.c.map .d)){k:Nat}{p:Pol}(hp:c.policies.l[k]?=some p)(lo:Nat) :
 Cd E TF eY (.loop [2,3,4,6,19,20,21] uG) [(2,.ptr 0 0),(3,.ptr 1 0),(4,.ptr 2 0),(6,.ptr Q 0),(19,.d (i64 k)),(20,bl false),(21,.d (i64 ((0:Nat):Int)))] ⟨bs,lo⟩=some (.exit 14,[(2,.ptr 0 0),(3,.ptr 1 0),(4,.ptr 2 0),(6,.ptr Q 0),(19,.d (i64 k)),(20,bl (fu c s.node p))],⟨bs,lo⟩):=by
 have hlt:=hc.1.lt;have:=xN (E:=E) (T:=TF) (val:=eY) (keep:=[2,3,4,6,19,20,21]) (body:=uG) c.pods.l (λx=>og c s.node x&&jv p x.ns x.service) false (λi b=>[(2,.ptr 0 0),(3,.ptr 1 0),(4,.ptr 2 0),(6,.ptr Q 0),(19,.d (i64 k)),(20,bl b),(21,.d (i64 i))]) (λb=>(.exit 14,[(2,.ptr 0 0),(3,.ptr 1 0),(4,.ptr 2 0),(6,.ptr Q 0),(19,.d (i64 k)),(20,bl b)])) bs (λi x hx hi lo b W=>?_) (λlo b W=>?_) lo
 . simpa [fu] using this
 . have hsx:=λh=>aA (z:=7) h hx (cells:=Pod.c) rfl;have hsp:=λh=>aA (z:=5) h hp (cells:=Pol.c) rfl;have hw:=ax hi hlt;have h0:((i:Int)<c.pods.l.length):=by omega
   have n2:=λh=>VH H c hc x s.node h;have n3:=λh=>H.c53 p x h;cases b with
   | true=>simp [uG,b0,b1,h0,hw,ai,aa,az,ae,Tr.mute,aB]
   | false =>
    cases ho:og c s.node x<;>simp [uG,b0,b1,hsx,hsp,h0,hw,n2,n3,ho,ai,aa,az,ae,Tr.mute,aB]
 . simp [uG,b0]
omit hs in
theorem Vk (hpf:∀ p∈c.policies.l,p.fits big){e:Int}{w1 w2 w3 w4:V}{bs0:List Blk}(b0:ah bs0 0=some (c.c.map .d))(b1:ah bs0 1=some (s.c.map .d))(hD:ah bs0 Q=some (aC e w1 w2 w3 w4 aF))(hl:c.policies.l.length<big)(lo:Nat) :
 ∃ bs' lo' v',Cd E TF eY (.loop [2,3,4,6,19] uH) [(2,.ptr 0 0),(3,.ptr 1 0),(4,.ptr 2 0),(6,.ptr Q 0),(19,.d (i64 ((0:Nat):Int)))] ⟨bs0,lo⟩=some (.exit 12,[(4,.ptr 2 0),(6,.ptr Q 0)],⟨bs',lo'⟩)/\MkF Q bs0 (λv=>aC e w1 w2 w3 w4 v) 5 (((c.policies.l.filter (fu c s.node)).map Pol.cp).map Pol.c) bs' v':=by
 have hlt:=hc.2.2.2.1.lt;have key:=sI (E:=E) (T:=TF) (val:=eY) (keep:=[2,3,4,6,19]) (body:=uH) (cells:=Pol.c) c.policies.l (fu c s.node) Pol.cp (Q:=Q) (z:=5) (bs0:=bs0) (F:=λv=>aC e w1 w2 w3 w4 v) (λi=>[(2,.ptr 0 0),(3,.ptr 1 0),(4,.ptr 2 0),(6,.ptr Q 0),(19,.d (i64 i))]) (.exit 12,[(4,.ptr 2 0),(6,.ptr Q 0)]) (λi x hx hi bs lo v es hM hes=>?_) (λbs lo v es hM W=>?_) lo hD
 . exact key
 . have hsx:=λh=>aA (z:=5) h hx (cells:=Pol.c) rfl;have hmem:=cc hx;have hw:=ax hi hlt;have h0:((i:Int)<c.policies.l.length):=by omega
   have hM1:=hM.lay [.cells (x.cp.c.map .d)];have g0:=λys=>av (ys:=ys) (hM.get (x:=0) (by omega) b0);have g0':=hM.get (x:=0) (by omega) b0;have g1:=hM.get (x:=1) (by omega) b1;have gD:=hM.atD;have gD':=λys=>av (ys:=ys) hM.atD;have n2:=λh=>H.c35 x (hpf x hmem) h;have hnu:=hM.nu;have qL:=Vj (Q:=Q) H hc g0' g1 hx lo;have ez:((0:Nat):Int)=0:=rfl;rw [ez] at qL;obtain ⟨v',bs',G,a1,a2,a3,a4,a5⟩:=hM1.app (by decide) (by_:=64) (by decide) (by omega) (e:=x.cp.c) rfl (r:=bs.length) (cap:=some 1) (by simp);cases hq:fu c s.node x with
   | true =>
    rw [hq] at qL;refine ⟨_,min (G lo) Q,v',by simpa using a5,λW=>?_⟩;simp [uH,g0',h0];rw [aj];simp [qL,g0',gD,gD',aK gD,hsx,n2,hnu,a1,a2,a3,a4,RJ,Ud,aL,hw,ai,aa,az,ae,Tr.mute,bz,Tr.spares,List.range,List.range.loop,aB]
   | false =>
    rw [hq] at qL;refine ⟨_,lo,v,by simpa using hM,λW=>?_⟩;simp [uH,g0',h0];rw [aj];simp [qL,hw]
 . have g0:=hM.get (x:=0) (by omega) b0;simp [uH,g0]
end
end
section
variable {E:Calls'}
theorem MkF.datL {Q z:Nat}{bs0 bs bs':List Blk}{F:V->List V}{es:List (List D)}{v:V}(h:MkF Q bs0 F z es bs v)(ho:∀ x,Q<x->x<bs.length->bs'[x]?=bs[x]?)(lo:Nat):dataV ⟨bs',lo⟩ 8 v=some (.slice es.isEmpty es):=by
 obtain ⟨L,M,h1,h2,h3⟩:=h.row;have:=h.lt;exact (h3.on λx hx hy=>ho x (by omega) (by omega)).datE h.nil lo 7
def KN (c:Cfg)(s:Scp):List Pod:=c.pods.l.filter (yQ c s)
def HZ (c:Cfg)(s:Scp):List Svc:=c.services.l.filter (EP c s (KN c s))
def KO (c:Cfg)(s:Scp):List Way:=c.bound.l.filter λw=>w.node==s.node||(HZ c s).any λx=>x.way==w.id
def H5 (c:Cfg)(s:Scp):Vw:=⟨c.epoch,⟨false,jY c s.node s.addrs.l c.services.l⟩,mr (KN c s),mr (HZ c s),mr (KO c s),mr ((c.policies.l.filter (fu c s.node)).map Pol.cp)⟩
section
variable (H:O17 E){c:Cfg}(hw1:c.wf 1048576)(hw2:c.wf big)(hc:c.ok)(hpf:∀ p∈c.policies.l,p.fits big){s:Scp}(hs:short s.addrs)
include H hw1 hw2 hs
theorem aw5 (hno:(bX c&&dw s)=false)(h:Hp):Sm E TF eY 8 [c.v,s.v] h=some (.tup [ag [.int .u64 0,.slice true [],.slice true [],.slice true [],.slice true [],.slice true []],.d (i64 1)],h):=by
 have n1:=λh=>H.c95 c hw1 hw2 h;have n2:=λh=>S68 (E:=E) hs h;rw [aU ZY WE];cases h1:bX c with
 | false =>
  simp [af,q65,n1,h1,ai,aa,az,ae,Tr.mute,aB]
 | true =>
  have h2:dw s=false:=by simpa [h1] using hno
  simp [af,q65,n1,n2,h1,h2,ai,aa,az,ae,Tr.mute,aB]
include hc hpf
theorem S65 (h1:bX c=true)(h2:dw s=true)(hl:s.addrs.l.length+c.services.l.length+1<big)(hl1:c.pods.l.length<big)(hl3:c.bound.l.length<big)(hl4:c.policies.l.length<big)(h:Hp):Sm E TF eY 8 [c.v,s.v] h=some (.tup [(H5 c s).v,.d (i64 0)],h):=by
 have n1:=λh=>H.c95 c hw1 hw2 h;have n2:=λh=>S68 (E:=E) hs h;obtain ⟨x,bs,a,l,k,r,u⟩:=Jl (cells:=aY) (z:=1) (by_:=4) (λ_=>rfl) (by decide) (by decide) hs [.cells (c.c.map .d),.cells (s.c.map .d),.cells [.d (.int .u64 0),.d (.slice true []),.d (.slice true []),.d (.slice true []),.d (.slice true []),.d (.slice true [])]];have hx:x≠.d (.slice true []):=by rintro rfl; exact absurd (u 0 (by simp)) (by simp [V.under])
 have g0:ah bs 0=some (c.c.map .d):=by unfold ah; rw [k 0 (by simp)]; rfl
 have g1:ah bs 1=some (s.c.map .d):=by unfold ah; rw [k 1 (by simp)]; rfl
 have g2:ah bs 2=some [.d (.int .u64 0),.d (.slice true []),.d (.slice true []),.d (.slice true []),.d (.slice true []),.d (.slice true [])]:=by unfold ah; rw [k 2 (by simp)]; rfl
 have h3:3<=bs.length:=by simpa using l
 have h4:3<bs.length:=by
  obtain ⟨_,rfl⟩ | ⟨b,cap,r1,r2,_⟩:=r.2
  . exact absurd rfl hx
  . simp at r1; omega
 have hne:¬ bs=[]:=by rintro rfl; simp at h4
 have hcw:Cw (λy=>3<=y/\y<bs.length) (bs++[.cells (aC c.epoch x aF aF aF aF)]) x s.addrs.l:=Cw.row (L:=3) (M:=bs.length) (r.on λy hy1 hy2=>by rw [aq hy2]) hx;obtain ⟨m1,lo1,w1,a1,o1,l1,d1,cw1⟩:=Vd H hc h3 (bs0:=bs++[.cells (aC c.epoch x aF aF aF aF)]) (av g0) (av g1) hcw (by rw [dU]; rfl) hl 0;have f0:ah m1 0=some (c.c.map .d):=bI (av g0) (o1 0 (by omega));have f1:ah m1 1=some (s.c.map .d):=bI (av g1) (o1 1 (by omega));have f2:ah m1 2=_:=bI (av g2) (o1 2 (by omega));have ml1:bs.length<m1.length:=by rw [l1]; simp
 obtain ⟨m2,lo2,w2,a2,K2⟩:=Ve H hc hs h3 f0 f1 d1 hl1 lo1;obtain ⟨L2,M2,q1,q2,q3⟩:=K2.row;obtain ⟨m3,lo3,w3,a3,K3⟩:=Vg H hc hs h3 (K2.get (by omega) f0) (K2.get (by omega) f1) K2.atD q3 (by have:=K2.lt; omega) q2 (by have:=List.length_filter_le (yQ c s) c.pods.l; have:=hc.1.lt; omega) (by omega) lo2;obtain ⟨L3,M3,q4,q5,q6⟩:=K3.row;obtain ⟨m4,lo4,w4,a4,K4⟩:=Vi hc h3 (s:=s) (E:=E) (K3.get (by omega) (K2.get (by omega) f0)) (K3.get (by omega) (K2.get (by omega) f1)) K3.atD q6 (by have:=K3.lt; omega) q5 (by have:=List.length_filter_le (EP c s (c.pods.l.filter (yQ c s))) c.services.l; have:=hc.2.1.lt; omega) hl3 lo3;obtain ⟨m5,lo5,w5,a5,K5⟩:=Vk H hc h3 hpf (K4.get (by omega) (K3.get (by omega) (K2.get (by omega) f0))) (K4.get (by omega) (K3.get (by omega) (K2.get (by omega) f1))) K4.atD hl4 lo4;have f5:=K5.get (by omega) (K4.get (by omega) (K3.get (by omega) (K2.get (by omega) f2)));have d5:=K5.atD;have e2:=K2.len;have e3:=K3.len;have e4:=K4.len;have e5:=K5.len;have b4:∀ y,y<m4.length->y≠bs.length->m5[y]?=m4[y]?:=K5.old;have b3:∀ y,y<m3.length->y≠bs.length->m5[y]?=m3[y]?:=λy hy hn=>(b4 y (by omega) hn).trans (K4.old y hy hn);have b2:∀ y,y<m2.length->y≠bs.length->m5[y]?=m2[y]?:=λy hy hn=>(b3 y (by omega) hn).trans (K3.old y hy hn);have b1:∀ y,y<m1.length->y≠bs.length->m5[y]?=m1[y]?:=λy hy hn=>(b2 y (by omega) hn).trans (K2.old y hy hn)
 have t1:∀ X lo,dataV ⟨m5.set 2 (.cells X),lo⟩ 8 w1=_:=λX lo=>(cw1.2.2.2 _ lo λy hy=>by rw [am (by omega),b1 y (by omega) (by omega),o1 y (by omega)]).2;have t2:∀ X lo,dataV ⟨m5.set 2 (.cells X),lo⟩ 8 w2=_:=λX lo=>K2.datL (λy h1 h2=>by rw [am (by omega),b2 y h2 (by omega)]) lo;have t3:∀ X lo,dataV ⟨m5.set 2 (.cells X),lo⟩ 8 w3=_:=λX lo=>K3.datL (λy h1 h2=>by rw [am (by omega),b3 y h2 (by omega)]) lo;have t4:∀ X lo,dataV ⟨m5.set 2 (.cells X),lo⟩ 8 w4=_:=λX lo=>K4.datL (λy h1 h2=>by rw [am (by omega),b4 y h2 (by omega)]) lo;have t5:∀ X lo,dataV ⟨m5.set 2 (.cells X),lo⟩ 8 w5=_:=λX lo=>K5.datL (λy h1 h2=>by rw [am (by omega)]) lo;have ez:((0:Nat):Int)=0:=rfl;rw [ez] at a1 a2 a3 a4 a5;have rc:=r.cl;have rn:=r.nu;have hpz:put [V.d (.int .u64 0),.d (.slice true []),.d (.slice true []),.d (.slice true []),.d (.slice true []),.d (.slice true [])] 0 [.d (u64 c.epoch),x]=some (aC c.epoch x aF aF aF aF):=rfl;rw [aU ZY WE];simp at a;simp [aC] at a1;simp [af,q65,n1,n2,h1,h2,a,g0,g1,rc,rn,aL,hne,h4,show 1<bs.length from by omega,ai,aa,az,ae,bz,Tr.mute,Tr.spares,List.range,List.range.loop,aB];rw [aj];simp [a1];rw [aj];simp [a2];rw [aj];simp [a3];rw [aj];simp [a4];rw [aj];have sA:sub (aC c.epoch w1 w2 w3 w4 w5) 0 6=some (aC c.epoch w1 w2 w3 w4 w5):=rfl
 have pA:put [V.d (.int .u64 0),.d (.slice true []),.d (.slice true []),.d (.slice true []),.d (.slice true []),.d (.slice true [])] 0 (aC c.epoch w1 w2 w3 w4 w5)=some (aC c.epoch w1 w2 w3 w4 w5):=rfl;have s2:∀ X,ah (m5.set 2 (.cells X)) 2=some X:=λX=>bW f5;have hcv:∀ X lo,fA ⟨m5.set 2 (.cells X),lo⟩ (aC c.epoch w1 w2 w3 w4 w5)=some (H5 c s).c:=λX lo=>by
  simp only [aC,fA,List.mapM_cons,List.mapM_nil,t1,t2,t3,t4,t5];simp [H5,KN,HZ,KO,Vw.c,Sl.d,mr]
 have hlen:(aC c.epoch w1 w2 w3 w4 w5).length=6:=rfl;simp [a5,f5,d5,sA,pA,s2,hlen];simp [hcv]
 done
end
end
section
theorem uk {c d:Cfg}(h1:c.services.l=d.services.l)(h2:c.bound.l=d.bound.l)(n:Int)(x:Svc):fT c n x=fT d n x:=by unfold fT nV; rw [h1,h2]
theorem zH {c d:Cfg}(h1:c.services.l=d.services.l)(h2:c.bound.l=d.bound.l)(n:Int)(x:Pod):og c n x=og d n x:=by
 unfold og nX;rw [h1,show fT c n=fT d n from funext (uk h1 h2 n)]
theorem zo (c:Cfg)(n:Int):∀ (l:List Svc) (acc:List Int),acc.Pairwise (·<·)->(jY c n acc l).Pairwise (·<·)
 | [],_,h=>h
 | x::l,acc,h=>by
  have ih:=zo c n l (if fT c n x then iB acc x.addr else acc) (by split; exact Fb h; exact h);simpa [jY] using ih
theorem BV (c:Cfg)(n:Int){a:Int}:∀ (l:List Svc) (acc:List Int),a∈jY c n acc l↔a∈acc\/∃ x∈l,fT c n x=true/\x.addr=a
 | [],_=>by simp [jY]
 | x::l,acc=>by
  have ih:=BV c n (a:=a) l (if fT c n x then iB acc x.addr else acc);have:jY c n acc (x::l)=jY c n (if fT c n x then iB acc x.addr else acc) l:=rfl;rw [this,ih];cases hb:fT c n x with
  | true =>
   simp only [if_true,withT_mem,List.mem_cons];constructor
   . rintro ((h | h) | ⟨y,h1,h2⟩)
     . exact .inl h
     . exact .inr ⟨x,.inl rfl,hb,h.symm⟩
     . exact .inr ⟨y,.inr h1,h2⟩
   . rintro (h | ⟨y,rfl | h1,h2,h3⟩)
     . exact .inl (.inl h)
     . exact .inl (.inr h3.symm)
     . exact .inr ⟨y,h1,h2,h3⟩
  | false =>
   simp only [bo,if_false,List.mem_cons];constructor
   . rintro (h | ⟨y,h1,h2⟩)
     . exact .inl h
     . exact .inr ⟨y,.inr h1,h2⟩
   . rintro (h | ⟨y,rfl | h1,h2,h3⟩)
     . exact .inl h
     . rw [hb] at h2; cases h2
     . exact .inr ⟨y,h1,h2,h3⟩
theorem BX {c:Cfg}{s:Scp}(hs:dw s=true):lV c s=jY c s.node s.addrs.l c.services.l:=by
 simp only [dw,mQ,aE] at hs;refine CY (key:=id) (zn (Ld _)) (zo c s.node _ _ (pu hs.2.2.1.1)) λx=>?_;rw [BV];exact Gx (nl:=false) x
theorem Gz {α:Type}{key:α->Int}{n:Int}{so:α->Bool}{l:List α}(h:l.Pairwise λa b=>key a<key b):(l.any λx=>key x==n&&so x)=match l.find? (λx=>key x==n) with | some x=>so x | none=>false:=by
 induction l with
 | nil=>rfl
 | cons y l ih =>
  obtain ⟨h1,h2⟩:=List.pairwise_cons.1 h;rw [List.any_cons,List.find?_cons];cases hk:(key y==n) with
  | true =>
   have:(l.any λx=>key x==n&&so x)=false:=by
    rw [List.any_eq_false];intro x hx;have:=h1 x hx;simp at hk;simp;intro h; omega
   simp [this]
  | false=>simpa using ih h2
theorem Lj {c:Cfg}(h:bX c=true):c.services.l.Pairwise λa b=>a.id<b.id:=by
 simp only [bX,oU,bU,aE] at h;obtain ⟨⟨_,⟨⟨⟨_,_,hr⟩,_⟩,_⟩,_⟩,_⟩:=h;exact H7 hr
theorem MZ {c:Cfg}{s:Scp}(h:bX c=true)(p:Pod):yQ c s p=qC c s p:=by
 unfold yQ qC;have:nX c p (λx=>dz s.addrs.l x.addr)=match c.services.l.find? (λx=>x.id==p.service) with | some x=>dz s.addrs.l x.addr | none=>false:=by
  unfold nX;rw [Gz (key:=Svc.id) (n:=p.service) (so:=λx=>dz s.addrs.l x.addr) (Lj h)];cases c.services.l.find? (λx=>x.id==p.service)<;>rfl
 rw [this];cases c.services.l.find? (λx=>x.id==p.service)<;>rfl
theorem FX {c:Cfg}{s:Scp}(h:bX c=true):KN c s=ja c s:=List.filter_congr λp _=>MZ h p
theorem FY {c:Cfg}{s:Scp}(h:bX c=true):HZ c s=jb c s:=by
 unfold HZ;rw [FX h];exact List.filter_congr λx _=>by unfold EP Dj; rw [Bool.or_assoc]
theorem OU {c:Cfg}{s:Scp}(h:bX c=true):KO c s=lY c s:=by
 unfold KO;rw [FY h];rfl
section
variable {c d:Cfg}(h0:c.pods.l=d.pods.l)(h1:c.services.l=d.services.l)(h2:c.bound.l=d.bound.l)(s:Scp)
include h1 h2
theorem El (p:Pod):qC c s p=qC d s p:=by
 unfold qC nX;rw [zH h1 h2,h1]
theorem Gw (n:Int)(acc:List Int)(l:List Svc):jY c n acc l=jY d n acc l:=by
 unfold jY;rw [show fT c n=fT d n from funext (uk h1 h2 n)]
include h0
theorem vO:ja c s=ja d s:=by
 unfold ja;rw [h0];exact List.filter_congr λp _=>El h1 h2 s p
theorem vP:jb c s=jb d s:=by
 unfold jb;rw [h1];refine List.filter_congr λx _=>?_;unfold Dj;rw [uk h1 h2,vO h0 h1 h2]
theorem Ct:lY c s=lY d s:=by
 unfold lY;rw [h2];refine List.filter_congr λx _=>?_;unfold LA;rw [vP h0 h1 h2]
theorem xX (n:Int)(p:Pol):fu c n p=fu d n p:=by
 unfold fu;rw [h0,show og c n=og d n from funext (zH h1 h2 n)]
end
theorem CQ {c:Cfg}{n:Int}{p q:Pol}(h1:p.ns=q.ns)(h2:p.service=q.service):fu c n p=fu c n q:=by
 unfold fu jv;rw [h1,h2]
theorem LV (x:Pol×V):(ky x).nf=x.1.own.nf:=by
 simp [ky,Pol.own,Pol.nf,Sl.nf]
def Vsm (a b:Vw):Prop:=a.epoch=b.epoch/\a.covers.l=b.covers.l/\a.cfg.nf=b.cfg.nf
theorem Iy {c:Cfg}{s:Scp}(h1:bX c=true)(h2:dw s=true){pl:List (Pol×V)}(hp:c.own.policies.l=pl.map λx=>x.1.own)(w1 w2 w3 w4 w5:V) :
 Vsm (VwV c.epoch (lV c s) (ja c.own s) (jb c.own s) (lY c.own s) (pl.filter λx=>fu c.own s.node x.1) w1 w2 w3 w4 w5) (H5 c.cp s):=by
 have hm:bX c.cp=true:=by rw [zk c.cp_nf]; exact h1
 refine ⟨rfl,?_,?_⟩
 . show lV c s=jY c.cp s.node s.addrs.l c.cp.services.l;rw [BX h2];exact Gw (c:=c) (d:=c.cp) rfl rfl _ _ _
 . have e1:ja c.own s=KN c.cp s:=by rw [FX hm]; exact vO (c:=c.own) (d:=c.cp) rfl rfl rfl s
   have e2:jb c.own s=HZ c.cp s:=by rw [FY hm]; exact vP (c:=c.own) (d:=c.cp) rfl rfl rfl s
   have e3:lY c.own s=KO c.cp s:=by rw [OU hm]; exact Ct (c:=c.own) (d:=c.cp) rfl rfl rfl s
   have e4:((pl.filter λx=>fu c.own s.node x.1).map ky).map Pol.nf=((c.cp.policies.l.filter (fu c.cp s.node)).map Pol.cp).map Pol.nf:=by
    have a1:(pl.filter λx=>fu c.own s.node x.1).map (λx=>x.1.own)=(c.own.policies.l).filter (fu c.own s.node):=by
     rw [hp,List.filter_map]
     congr 1
    have a2:c.cp.policies.l.filter (fu c.cp s.node)=(c.policies.l.filter (fu c s.node)).map Pol.cp:=by
     show (c.policies.l.map Pol.cp).filter _=_;rw [List.filter_map];exact congrArg _ (List.filter_congr λp _=>(xX (c:=c.cp) (d:=c) rfl rfl rfl s.node _).trans (CQ rfl rfl))
    have a3:c.own.policies.l.filter (fu c.own s.node)=(c.policies.l.filter (fu c s.node)).map Pol.own:=by
     show (c.policies.l.map Pol.own).filter _=_;rw [List.filter_map];exact congrArg _ (List.filter_congr λp _=>(xX (c:=c.own) (d:=c) rfl rfl rfl s.node _).trans (CQ rfl rfl))
    have a4:((pl.filter λx=>fu c.own s.node x.1).map ky).map Pol.nf=((pl.filter λx=>fu c.own s.node x.1).map (λx=>x.1.own)).map Pol.nf:=by
     rw [List.map_map,List.map_map];exact List.map_congr_left λx _=>LV x
    rw [a4,a1,a3,a2,List.map_map,List.map_map,List.map_map];exact List.map_congr_left λp _=>by simp [Em,Pol.cp_nf]
   simp [Vw.cfg,VwV,H5,Cfg.nf,Sl.nf,mr,e1,e2,e3] at e4 ⊢;exact e4
end
section
variable {E:Calls'}
theorem L66 (a b:Vw)(hab:a.covers.l=b.covers.l)(hl:a.covers.l.length<2 ^ 62)(M:List Blk)(h0:ah M 0=some (a.c.map .d))(h1:ah M 1=some (b.c.map .d))(lo:Nat) :
 Cd E TF eY (.loop [2,3,5] yh) [(2,.ptr 0 0),(3,.ptr 1 0),(5,.d (i64 ((0:Nat):Int)))] ⟨M,lo⟩=some (.exit 0,[(2,.ptr 0 0),(3,.ptr 1 0)],⟨M,lo⟩):=by
 have key:=cZ (E:=E) (T:=TF) (val:=eY) (keep:=[2,3,5]) (body:=yh) a.covers.l (λ_=>true) (λi=>[(2,.ptr 0 0),(3,.ptr 1 0),(5,.d (i64 i))]) ⟨M,lo⟩ (.ret,[(4,bl false)],⟨M,lo⟩) (.exit 0,[(2,.ptr 0 0),(3,.ptr 1 0)],⟨M,lo⟩) (λi x hx hi W=>?_) (λW=>?_)
 . have ht:(a.covers.l.all λ_=>true)=true:=cj.2 λ_ _=>rfl;rw [ht] at key;simpa using key
 . have hsx:=λh=>aA (z:=1) h hx (cells:=aY) rfl;have hsy:=λh=>aA (z:=1) h (s:=b.covers) (hab ▸ hx) (cells:=aY) rfl;have hw:=ax hi hl;have hlt:((i:Int)<a.covers.l.length):=by omega
   simp [yh,h0,h1,hsx,hsy,hlt,hw,aY]
 . simp [yh,h0,h1,hab]
theorem aw6 (H:O17 E)(a b:Vw)(ha:a.ok)(hs:Vsm a b)(h:Hp):Sm E TF eY 9 [a.v,b.v] h=some (bl true,h):=by
 obtain ⟨he,hl,hn⟩:=hs;have n1:=λh=>H.c38 a.cfg b.cfg ha.2 h;rw [Cfg.same_iff.2 hn] at n1;have hcv:∀ v:Vw,v.cfg.v=.agg [.d (.int .u64 0),.d (.int .u64 0),.d (i64 0),.d (i64 0),.d (v.pods.d Pod.c),.d (v.services.d Svc.c),.d (v.bound.d Way.c),.d (v.policies.d Pol.c)]:=λ_=>rfl;simp only [hcv] at n1;have q:=L66 (E:=E) a b hl (ce ha.1.1 (by decide)) [.cells (a.c.map .d),.cells (b.c.map .d)] rfl rfl 0;have ez:((0:Nat):Int)=0:=rfl;rw [ez] at q;rw [aU ZZ WF];simp +decide [af,q66,hl,he,aB];rw [aj];simp [q,n1,aL,put,aB]
theorem S66 (H:O17 E)(a b:Vw)(ha:a.ok)(hs:Vsm a b){w:V}{h:Hp}(hw:frz h w=some a.v):Sm E TF eY 9 [w,b.v] h=some (bl true,h) :=
 Dq ZZ WF (λh=>aw6 H a b ha hs h) hw (Am h b.c)
theorem RowG.short {α:Type}{f:α->List V}{K:Nat->Prop}{bs:List Blk}{z:Nat}{l:List α}{v:V}(h:RowG K bs z (l.map f) v):nZ v=true->l=[]:=λhn=>by
 obtain ⟨h1,_⟩ | ⟨b,cap,rest,_,rfl,_⟩:=h
 . simpa using h1
 . cases hn
theorem ViewS.ok {L0:Nat}{tag:Nat->Nat}{bs:List Blk}{cov:List Int}{pods:List Pod}{svcs:List Svc}{ways:List Way}{pl:List (Pol×V)}{w1 w2 w3 w4 w5:V}(S:ViewS L0 tag bs cov pods svcs ways pl w1 w2 w3 w4 w5)(e:Int)(h1:cov.length<=big)(h2:pods.length<=big)(h3:svcs.length<=big)(h4:ways.length<=big)(h5:pl.length<=big)(h6:∀ x∈pl,x.1.own.ok):(VwV e cov pods svcs ways pl w1 w2 w3 w4 w5).ok:=by
 refine ⟨⟨h1,λh=>S.r1.short h⟩,⟨h2,λh=>S.r2.short h⟩,⟨h3,λh=>S.r3.short h⟩,⟨h4,λh=>S.r4.short h⟩,⟨by simpa [VwV,Vw.cfg] using h5,λh=>by have:=S.r5.short h; simp [VwV,Vw.cfg,this]⟩,λp hp=>?_⟩;obtain ⟨x,hx,rfl⟩:=cb.1 (show p∈pl.map ky from hp);have:=h6 x hx;refine ⟨⟨by simpa [ky,Pol.own] using this.1.1,λh=>?_⟩,λr hr=>this.2 r hr⟩;have:=(S.r6 x hx).short h;simp [ky,this]
end
section
variable {E:Calls'}
def WfC (c:Cfg):Prop:=c.wf 1048576/\c.wf big
theorem WfC.ok {c:Cfg}(h:WfC c):c.ok:=h.2.ok (br _)
structure H11 (E:Calls'):Prop where
 h31:∀ c:Cfg,c.ok->∃ b,∀ h,E 4 [c.v] h=some (bl b,h)
 h63:∀ h,E 5 [] h=some (bl true,h)
 h34:∀ c:Cfg,c.ok->∀ h,E 6 [c.v] h=some (ag c.cp.c,h)
 h67:∀ s:Scp,short s.addrs->∀ h,E 10 [s.v] h=some (bl (dw s),h)
 h68:∀ s:Scp,short s.addrs->∀ h,E 11 [s.v] h=some (bl (dw s),h)
 h38:∀ a b:Cfg,a.ok->∀ h,E 13 [a.v,b.v] h=some (bl (a.same b),h)
 h64:∀ c:Cfg,WfC c->∀ s:Scp,short s.addrs->∀ bs lo,∃ bs' lo' cs k,∃ b:Vw,cs.length=6/\E 7 [c.v,s.v] ⟨bs,lo⟩=some (.tup [.agg cs,.d (i64 k)],⟨bs',lo'⟩)/\(∀ x,x<bs.length->bs'[x]?=bs[x]?)/\bs.length<=bs'.length ∧
  (∀ h,E 8 [c.cp.v,s.v] h=some (.tup [b.v,.d (i64 k)],h)) ∧
  ∀ bs2,(∀ x,x<bs'.length->bs2[x]?=bs'[x]?)->bs'.length<=bs2.length->(∀ lo,E 9 [.agg cs,b.v] ⟨bs2,lo⟩=some (bl true,⟨bs2,lo⟩)) ∧
   ∃ bs3,∃ F:Nat->Nat,(∀ lo,E 12 [.agg cs] ⟨bs2,lo⟩=some (.tup [],⟨bs3,F lo⟩))/\∀ x,x<bs.length->bs3[x]?=bs2[x]?
def bt5:List (Nat×QF):=[(3,q11)]
def TH:FuncId->Option QF:=kN bt5
def qz (f:FuncId):Bool:=Nat.beq 3 f
theorem bu5:TH 3=some q11:=by kernel_rfl
theorem az5:qz 3=true:=by kernel_rfl
theorem L11 {s:Scp}(hs:short s.addrs){L M:Nat}{m:List Blk}{x t5:V}(b1:ah m 1=some (s.c.map .d))(hr:Row1 L M m 1 (s.addrs.l.map aY) x)(lo:Nat) :
 Cd E TH qz (.loop [2,3,5,6,11] xZ) [(2,.ptr 0 0),(3,.ptr 1 0),(5,t5),(6,x),(11,.d (i64 ((0:Nat):Int)))] ⟨m,lo⟩=some (.exit 0,[(2,.ptr 0 0),(5,t5)],⟨m,lo⟩):=by
 have hlt:=hs.lt;have hrl:=hr.len;simp only [b9] at hrl;have hrn:=hr.nu;have key:=cZ (E:=E) (T:=TH) (val:=qz) (keep:=[2,3,5,6,11]) (body:=xZ) s.addrs.l (λ_=>true) (λi=>[(2,.ptr 0 0),(3,.ptr 1 0),(5,t5),(6,x),(11,.d (i64 i))]) ⟨m,lo⟩ (.ret,[(4,bl false)],⟨m,lo⟩) (.exit 0,[(2,.ptr 0 0),(5,t5)],⟨m,lo⟩) (λi a hx hi W=>?_) (λW=>?_)
 . have ht:(s.addrs.l.all λ_=>true)=true:=cj.2 λ_ _=>rfl;rw [ht] at key;simpa using key
 . obtain ⟨B,_,_,r1,r2,r3,r4⟩:=hr.at (i:=i) (e:=aY a) (by rw [List.getElem?_map,hx]; rfl);have r5:sub (flat (s.addrs.l.map aY)) i 1=some [.d (u32 a)]:=by
    have:=r4 1 (by decide);rw [Nat.mul_one] at this;exact this
   have hsy:=λh=>aA (z:=1) h hx (cells:=aY) rfl;have hw:=ax hi hlt;have h0:((i:Int)<s.addrs.l.length):=by omega
   simp [xZ,b1,hrl,hrn,h0,hw,hsy,r1,r2,r5,aY]
 . simp [xZ,b1,hrl,hrn]
theorem S11 (H:H11 E){c:Cfg}(hc:WfC c){s:Scp}(hs:short s.addrs)(h:Hp):Sm E TH qz 3 [c.v,s.v] h=some (bl true,h):=by
 obtain ⟨hb,n31⟩:=H.h31 c hc.ok;have c31:=λh=>(bB (E:=E) (T:=TH) (val:=qz) (f:=4) (by kernel_rfl)).trans (n31 h);have c63:=λh=>(bB (E:=E) (T:=TH) (val:=qz) (f:=5) (by kernel_rfl)).trans (H.h63 h);have c34:=λh=>(bB (E:=E) (T:=TH) (val:=qz) (f:=6) (by kernel_rfl)).trans (H.h34 c hc.ok h);have c67:=λh=>(bB (E:=E) (T:=TH) (val:=qz) (f:=10) (by kernel_rfl)).trans (H.h67 s hs h);have c68:=λh=>(bB (E:=E) (T:=TH) (val:=qz) (f:=11) (by kernel_rfl)).trans (H.h68 s hs h);have c38:=λh=>(bB (E:=E) (T:=TH) (val:=qz) (f:=13) (by kernel_rfl)).trans (H.h38 c c.cp hc.ok h);rw [Cfg.same_iff.2 (Cfg.cp_nf c).symm] at c38;rw [aU bu5 az5];cases hb with
 | true=>simp [af,q11,c31,c63,aB]
 | false =>
  by_cases hl:(s.addrs.l.length:Int)>1000
  . simp [af,q11,c31,c63,hl,aB]
  . obtain ⟨x,bs,a,l,k,r,u⟩:=Jl (cells:=aY) (z:=1) (by_:=4) (λ_=>rfl) (by decide) (by decide) hs [.cells (c.c.map .d),.cells (s.c.map .d)];have hx:x≠.d (.slice true []):=by rintro rfl; exact absurd (u 0 (by simp)) (by simp [V.under])
    have g0:ah bs 0=some (c.c.map .d):=by unfold ah; rw [k 0 (by simp)]; rfl
    have g1:ah bs 1=some (s.c.map .d):=by unfold ah; rw [k 1 (by simp)]; rfl
    have h4:2<bs.length:=by
     obtain ⟨_,rfl⟩ | ⟨b,cap,r1,r2,_⟩:=r.2
     . exact absurd rfl hx
     . simp at r1; omega
    have hne:¬ bs=[]:=by rintro rfl; simp at h4
    obtain ⟨bs',lo',cs,kk,b,hcs,a64,fr,le,a65,rest⟩:=H.h64 c hc s hs (bs++[.cells (c.cp.c.map .d)]) 0;have c64:=(bB (E:=E) (T:=TH) (val:=qz) (f:=7) (by kernel_rfl)).trans a64;have c65:=λh=>(bB (E:=E) (T:=TH) (val:=qz) (f:=8) (by kernel_rfl)).trans (a65 h);obtain ⟨a66,bs3,F,a69,fr3⟩:=rest (bs'++[.cells cs,.cells (b.c.map .d)]) (λx hx=>aq hx) (by simp);have c66:=λlo=>(bB (E:=E) (T:=TH) (val:=qz) (f:=9) (by kernel_rfl)).trans (a66 lo);have c69:=λlo=>(bB (E:=E) (T:=TH) (val:=qz) (f:=12) (by kernel_rfl)).trans (a69 lo);simp only [aw,cg,ch,Nat.zero_add] at fr le fr3;have f0:ah bs' 0=some (c.c.map .d):=bI (av g0) (fr 0 (by omega));have f1:ah bs' 1=some (s.c.map .d):=bI (av g1) (fr 1 (by omega));have f5:ah bs' bs.length=some (c.cp.c.map .d):=bI (by rw [dU]; rfl) (fr bs.length (by omega));have e0:ah bs3 0=some (c.c.map .d):=bI (av f0) (fr3 0 (by omega));have e1:ah bs3 1=some (s.c.map .d):=bI (av f1) (fr3 1 (by omega));have e5:ah bs3 bs.length=some (c.cp.c.map .d):=bI (av f5) (fr3 bs.length (by omega));have r3:Row1 2 bs.length bs3 1 (s.addrs.l.map aY) x:=r.on λy hy1 hy2=>by
     rw [fr3 y (by omega),aq (by omega),fr y (by omega),aq hy2]
    have q:=λlo=>L11 (E:=E) (t5:=.ptr bs.length 0) hs e1 r3 lo;have ez:((0:Nat):Int)=0:=rfl;rw [ez] at q;have rc:=r.cl;have rn:=r.nu;have sA:sub cs 0 6=some cs:=bN hcs;have aD:=λys=>av (ys:=ys) g0;have aD1:=λys=>av (ys:=ys) g1;have aD5:∀ ys,ah (bs++.cells (c.cp.c.map .d)::ys) bs.length=some (c.cp.c.map .d):=λys=>by rw [dU]; rfl
    have bD:=λys=>av (ys:=ys) f0;have bD1:=λys=>av (ys:=ys) f1;have bD5:=λys=>av (ys:=ys) f5;have bDc:∀ ys,ah (bs'++.cells cs::ys) bs'.length=some cs:=λys=>by rw [dU]; rfl
    have bDb:∀ ys,ah (bs'++.cells cs::.cells (b.c.map .d)::ys) (bs'.length+1)=some (b.c.map .d):=λys=>by rw [oO]; rfl
    simp at a;simp [af,q11,c31,c63,c34,hl,a,g0,g1,rc,rn,aL,hne,h4,show 1<bs.length from by omega,show 2<=bs.length from by omega,ai,aa,az,ae,bz,Tr.mute,Tr.spares,List.range,List.range.loop,aB];simp [aD,aD1,aD5,c64,hcs,f0,f1,f5,c65,c66,c67,c68,c69,sA,bD,bD1,bD5,bDc,bDb,ai,aa,az,ae,Tr.mute,aB];rw [aj];simp [q,e0,e1,e5,c38,c63,aB]
    done
end
