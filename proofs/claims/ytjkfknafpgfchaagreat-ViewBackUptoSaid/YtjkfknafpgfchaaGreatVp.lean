/- What ViewBack's plain words stand on. -/
import Derived.Test.YtjkfknafpgfchaaGreatUa
import Derived.Test.YtjkfknafpgfchaaGreatIa
import Derived.Test.YtjkfknafpgfchaaGreatJa
namespace Go.Proofs.YtjkfknafpgfchaaGreat
section
def iw (d:Dlt):List Int:=aM d.epoch ++ (seqB aM d.covers.l ++ (seqB nA d.pods.l ++ (seqB nM d.services.l ++ (seqB qN d.bound.l ++ (seqB fH d.policies.l ++ (seqB aM d.gonePods.l ++ (seqB aM d.goneServices.l ++ (seqB aM d.goneBound.l ++ seqB aM d.gonePolicies.l))))))))
def wz (p:Pod):Prop:=fq p.uid /\ lL 16384 p.ns /\ lL 16384 p.sa /\ (0 <= p.host /\ p.host <= 65535) /\ (0 <= p.addr /\ p.addr <= 4294967295) /\ (0 <= p.port /\ p.port <= 65535) /\ fq p.service
def xX:Pr Pod:=(pUint.seq ((iC 16384).seq ((iC 16384).seq ((bV 65535).seq ((bV 4294967295).seq ((bV 65535).seq pUint)))))).map fun x=>⟨x.1,x.2.1,x.2.2.1,x.2.2.2.1,x.2.2.2.2.1,x.2.2.2.2.2.1,x.2.2.2.2.2.2⟩
theorem vpod_cod:Cod xX nA wz :=
 (uint_cod.seq ((fe 16384).seq ((fe 16384).seq ((dL (most:=65535) (by decide)).seq ((dL (most:=4294967295) (by decide)).seq ((dL (most:=65535) (by decide)).seq uint_cod)))))).iso
   (fun x=>(⟨x.1,x.2.1,x.2.2.1,x.2.2.2.1,x.2.2.2.2.1,x.2.2.2.2.2.1,x.2.2.2.2.2.2⟩:Pod)) (fun t=>(t.uid,t.ns,t.sa,t.host,t.addr,t.port,t.service)) (fun t ht=>⟨ht,rfl⟩) (fun x hx=>hx) (fun x hx=>by
   obtain ⟨_,_,_,h1,h2,h3,_⟩:=hx;have e1:IntKind.wrap .u64 x.2.2.2.1 = x.2.2.2.1:=by rw [wrap_u64]; omega
   have e2:IntKind.wrap .u64 x.2.2.2.2.1 = x.2.2.2.2.1:=by rw [wrap_u64]; omega
   have e3:IntKind.wrap .u64 x.2.2.2.2.2.1 = x.2.2.2.2.2.1:=by rw [wrap_u64]; omega
   simp [nA,e1,e2,e3])
def wB (p:Svc):Prop:=fq p.id /\ lL 16384 p.ns /\ (0 <= p.addr /\ p.addr <= 4294967295) /\ (0 <= p.port /\ p.port <= 65535) /\ fq p.way
def xY:Pr Svc:=(pUint.seq ((iC 16384).seq ((bV 4294967295).seq ((bV 65535).seq pUint)))).map fun x=>⟨x.1,x.2.1,x.2.2.1,x.2.2.2.1,x.2.2.2.2⟩
theorem vsvc_cod:Cod xY nM wB :=
 (uint_cod.seq ((fe 16384).seq ((dL (most:=4294967295) (by decide)).seq ((dL (most:=65535) (by decide)).seq uint_cod)))).iso
   (fun x=>(⟨x.1,x.2.1,x.2.2.1,x.2.2.2.1,x.2.2.2.2⟩:Svc)) (fun t=>(t.id,t.ns,t.addr,t.port,t.way)) (fun t ht=>⟨ht,rfl⟩) (fun x hx=>hx) (fun x hx=>by
   obtain ⟨_,_,h1,h2,_⟩:=hx;have e1:IntKind.wrap .u64 x.2.2.1 = x.2.2.1:=by rw [wrap_u64]; omega
   have e2:IntKind.wrap .u64 x.2.2.2.1 = x.2.2.2.1:=by rw [wrap_u64]; omega
   simp [nM,e1,e2])
def Bo (p:Way):Prop:=fq p.id /\ (0 <= p.node /\ p.node <= 65535)
def xZ:Pr Way:=(pUint.seq (bV 65535)).map fun x=>⟨x.1,x.2⟩
theorem vway_cod:Cod xZ qN Bo :=
 (uint_cod.seq (dL (most:=65535) (by decide))).iso (fun x=>(⟨x.1,x.2⟩:Way)) (fun t=>(t.id,t.node)) (fun t ht=>⟨ht,rfl⟩) (fun x hx=>hx) (fun x hx=>by
   have h:=hx.2;have e1:IntKind.wrap .u64 x.2 = x.2:=by rw [wrap_u64]; omega
   simp [qN,e1])
def dltOk (d:Dlt):Prop:=fq d.epoch /\ SlOk 38 (fun n=>0 <= n /\ n <= 4294967295) d.covers /\ SlOk 16 wz d.pods /\ SlOk 6 wB d.services /\ SlOk 4 Bo d.bound /\ SlOk 12 (Ac 65536) d.policies /\ SlOk 16 fq d.gonePods /\ SlOk 6 fq d.goneServices /\ SlOk 4 fq d.goneBound /\ SlOk 12 fq d.gonePolicies
def K3:Pr Dlt:=(pUint.seq ((pSl 38 (bV 4294967295)).seq ((pSl 16 xX).seq ((pSl 6 xY).seq ((pSl 4 xZ).seq ((pSl 12 (lC 65536)).seq ((pSl 16 pUint).seq ((pSl 6 pUint).seq ((pSl 4 pUint).seq (pSl 12 pUint)))))))))).map fun x=>⟨x.1,x.2.1,x.2.2.1,x.2.2.2.1,x.2.2.2.2.1,x.2.2.2.2.2.1,x.2.2.2.2.2.2.1,x.2.2.2.2.2.2.2.1,x.2.2.2.2.2.2.2.2.1,x.2.2.2.2.2.2.2.2.2⟩
theorem dlt_cod:Cod K3 iw dltOk :=
 (uint_cod.seq (((dL (most:=4294967295) (by decide)).sl (most:=38) (by decide)).seq ((vpod_cod.sl (most:=16) (by decide)).seq ((vsvc_cod.sl (most:=6) (by decide)).seq ((vway_cod.sl (most:=4) (by decide)).seq ((polT_cod.sl (most:=12) (by decide)).seq ((uint_cod.sl (most:=16) (by decide)).seq ((uint_cod.sl (most:=6) (by decide)).seq ((uint_cod.sl (most:=4) (by decide)).seq (uint_cod.sl (most:=12) (by decide))))))))))).iso
   (fun x=>(⟨x.1,x.2.1,x.2.2.1,x.2.2.2.1,x.2.2.2.2.1,x.2.2.2.2.2.1,x.2.2.2.2.2.2.1,x.2.2.2.2.2.2.2.1,x.2.2.2.2.2.2.2.2.1,x.2.2.2.2.2.2.2.2.2⟩:Dlt)) (fun t=>(t.epoch,t.covers,t.pods,t.services,t.bound,t.policies,t.gonePods,t.goneServices,t.goneBound,t.gonePolicies)) (fun t ht=>⟨ht,rfl⟩) (fun x hx=>hx) (fun x hx=>rfl)
def Dlt.can (d:Dlt):Dlt:=⟨d.epoch,d.covers.can id,d.pods.can id,d.services.can id,d.bound.can id,d.policies.can Pol.can,d.gonePods.can id,d.goneServices.can id,d.goneBound.can id,d.gonePolicies.can id⟩
theorem rV (d:Dlt):iw d.can = iw d:=by
 have h:(d.policies.l.map Pol.can).flatMap fH = d.policies.l.flatMap fH:=by
  rw [List.flatMap_map]; exact og fun p _=>Ab p.can_nf
 simp only [iw,Dlt.can,Sl.can,seqB,List.map_id,List.length_map,h]
def tT (b:List Int):Option Dlt:=match K3 b with
 | some (d,[])=>if bR d = true then some d else none
 | _=>none
theorem De {B:Nat} {d:Dlt} (h:bR d = true) (h0:Inr .u64 d.epoch) (h1:∀ n ∈ d.covers.l,Inr .u32 n) (h2:∀ p ∈ d.pods.l,p.wf B) (h3:∀ p ∈ d.services.l,p.wf B) (h4:∀ p ∈ d.bound.l,p.wf B) (h5:∀ p ∈ d.policies.l,p.wf B)
 (g1:∀ n ∈ d.gonePods.l,Inr .u64 n) (g2:∀ n ∈ d.goneServices.l,Inr .u64 n) (g3:∀ n ∈ d.goneBound.l,Inr .u64 n) (g4:∀ n ∈ d.gonePolicies.l,Inr .u64 n):dltOk d.can:=by
 simp only [bR,fK,Bool.and_eq_true,decide_eq_true_eq] at h;obtain ⟨⟨⟨⟨_,a1⟩,_⟩,⟨⟨_,a2⟩,_⟩,⟨⟨_,a3⟩,_⟩,⟨_,a4⟩,_⟩,hv⟩:=h;simp only [aW,jv,zT,jh,eO,Bool.and_eq_true,Bool.not_eq_true',Bool.or_eq_false_iff,decide_eq_true_eq,List.any_eq_false] at hv;obtain ⟨_,⟨⟨_,c1⟩,_⟩,⟨⟨o1,o2,o3⟩,⟨_,b1⟩,⟨_,b2⟩,⟨_,b3⟩,⟨_,b4⟩⟩,hp⟩:=hv;refine ⟨h0.u64,Sl.can_ok c1 fun n hn=>(h1 n hn).u32,Sl.can_ok b1 fun p hp'=>?_,Sl.can_ok b2 fun p hp'=>?_,Sl.can_ok b3 fun p hp'=>?_,Sl.can_ok b4 fun p hp'=>?_,Sl.can_ok a1 fun n hn=>(g1 n hn).u64,Sl.can_ok a2 fun n hn=>(g2 n hn).u64,Sl.can_ok a3 fun n hn=>(g3 n hn).u64,Sl.can_ok a4 fun n hn=>(g4 n hn).u64⟩
 · have k:=h2 p hp';have b:=o1 p hp';simp only [jy,Bool.or_eq_true,decide_eq_true_eq,not_or] at b;show wz p;exact ⟨k.1.u64,⟨by omega,by omega⟩,⟨by omega,by omega⟩,⟨by omega,by omega⟩,k.2.2.2.2.1.u32,⟨by omega,by omega⟩,k.2.2.2.2.2.2.u64⟩
 · have k:=h3 p hp';have b:=o2 p hp';simp only [jA,Bool.or_eq_true,decide_eq_true_eq,not_or] at b;show wB p;exact ⟨k.1.u64,⟨by omega,by omega⟩,k.2.2.1.u32,⟨by omega,by omega⟩,k.2.2.2.2.u64⟩
 · have k:=h4 p hp';have b:=o3 p hp';simp only [jC,Bool.or_eq_true,decide_eq_true_eq,not_or] at b;show Bo p;exact ⟨k.1.u64,by omega,by omega⟩
 · have k:=h5 p hp';have b:aS p = true:=by
    have:=hp p hp';simpa using this
   refine ⟨D5 b k,by rw [qF p.can_nf]; exact b,?_⟩;rw [DZ p.can_nf];have:=lW b;omega
theorem ul (d:Dlt):bR d.can = bR d:=by
 have e1:d.can.pods.l = d.pods.l:=List.map_id _;have e2:d.can.services.l = d.services.l:=List.map_id _;have e3:d.can.bound.l = d.bound.l:=List.map_id _;have e4:d.can.policies.l = d.policies.l.map Pol.can:=rfl;have e5:d.can.covers.l = d.covers.l:=List.map_id _;have i1:d.can.gonePods.l = d.gonePods.l:=List.map_id _;have i2:d.can.goneServices.l = d.goneServices.l:=List.map_id _;have i3:d.can.goneBound.l = d.goneBound.l:=List.map_id _;have i4:d.can.gonePolicies.l = d.gonePolicies.l:=List.map_id _;have hpm:(fun p=>!aS (Pol.can p)) = fun p=>!aS p:=by funext p; rw [qF p.can_nf]
 simp only [bR,aW,jv,zT,Dlt.vw,e1,e2,e3,e4,e5,i1,i2,i3,i4,fK,eO,List.any_map,List.map_map,List.length_map,Function.comp_def,hpm];rfl
theorem FK {d:Dlt} (h:bR d = true) (ho:dltOk d.can):tT (iw d) = some d.can:=by
 have k:=dlt_cod.fwd d.can [] ho;rw [List.append_nil,rV] at k;rw [tT,k];simp only [ul,h,if_true]
end
section
theorem Dc {d:Dlt} (ho:dltOk d.can):byteL (iw d):=by rw [← rV]; exact dlt_cod.rng _ ho
theorem Jz {p:Pod} (h:wz p):(nA p).length <= 33000:=by
 have a1:=aZ p.uid;have a2:=gT p.ns;have a3:=gT p.sa;have a4:=aZ (IntKind.wrap .u64 p.host);have a5:=aZ (IntKind.wrap .u64 p.addr);have a6:=aZ (IntKind.wrap .u64 p.port);have a7:=aZ p.service;have b1:=h.2.1.1;have b2:=h.2.2.1.1;simp only [nA,List.length_append,List.flatMap_cons,List.flatMap_nil,List.length_nil];omega
theorem JB {p:Svc} (h:wB p):(nM p).length <= 17000:=by
 have a1:=aZ p.id;have a2:=gT p.ns;have a5:=aZ (IntKind.wrap .u64 p.addr);have a6:=aZ (IntKind.wrap .u64 p.port);have a7:=aZ p.way;have b1:=h.2.1.1;simp only [nM,List.length_append,List.flatMap_cons,List.flatMap_nil,List.length_nil];omega
theorem FP {d:Dlt} (h:dltOk d):(iw d).length <= 2000000:=by
 obtain ⟨h1,h2,h3,h4,h5,h6,h7,h8,h9,h10⟩:=h;have c1:=dG (n:=38) (K:=10) (f:=aM) (l:=d.covers.l) (by have:=h2.2.1; omega) fun x _=>aZ x;have c2:=dG (n:=16) (K:=33000) (f:=nA) (l:=d.pods.l) (by have:=h3.2.1; omega) fun x hx=>Jz (h3.2.2 x hx);have c3:=dG (n:=6) (K:=17000) (f:=nM) (l:=d.services.l) (by have:=h4.2.1; omega) fun x hx=>JB (h4.2.2 x hx);have c4:=dG (n:=4) (K:=20) (f:=qN) (l:=d.bound.l) (by have:=h5.2.1; omega) fun x _=>Oa;have c5:=dG (n:=12) (K:=53310) (f:=fH) (l:=d.policies.l) (by have:=h6.2.1; omega) fun x hx=>H6 (h6.2.2 x hx).2.1;have c6:=dG (n:=16) (K:=10) (f:=aM) (l:=d.gonePods.l) (by have:=h7.2.1; omega) fun x _=>aZ x;have c7:=dG (n:=6) (K:=10) (f:=aM) (l:=d.goneServices.l) (by have:=h8.2.1; omega) fun x _=>aZ x;have c8:=dG (n:=4) (K:=10) (f:=aM) (l:=d.goneBound.l) (by have:=h9.2.1; omega) fun x _=>aZ x;have c9:=dG (n:=12) (K:=10) (f:=aM) (l:=d.gonePolicies.l) (by have:=h10.2.1; omega) fun x _=>aZ x;have c0:=aZ d.epoch;simp only [iw,List.length_append];omega
theorem Kg {d:Dlt} (h:dltOk d.can):(iw d).length <= 2000000:=by rw [← rV]; exact FP h
theorem Lb (a:Vw) (d:Dlt) {n1 n2 n3 n4 m1 m2 m3 m4:Bool} :
 Vw.nf ⟨d.can.epoch,d.can.covers,⟨m1,df Pod.uid a.pods.l d.can.pods.l d.can.gonePods.l⟩,⟨m2,df Svc.id a.services.l d.can.services.l d.can.goneServices.l⟩,⟨m3,df Way.id a.bound.l d.can.bound.l d.can.goneBound.l⟩,⟨m4,(df Pol.id a.policies.l d.can.policies.l d.can.gonePolicies.l).map Pol.own⟩⟩ =
  Vw.nf ⟨d.epoch,d.covers,⟨n1,df Pod.uid a.pods.l d.pods.l d.gonePods.l⟩,⟨n2,df Svc.id a.services.l d.services.l d.goneServices.l⟩,⟨n3,df Way.id a.bound.l d.bound.l d.goneBound.l⟩,⟨n4,(df Pol.id a.policies.l d.policies.l d.gonePolicies.l).map Pol.own⟩⟩:=by
 have hk:∀ x:Pol,Pol.id x.nf = x.id:=fun _=>rfl;have o1:∀ l:List Pol,(l.map Pol.own).map Pol.nf = l.map Pol.nf:=fun l=>by
  rw [List.map_map]; exact List.map_congr_left fun x _=>Pol.own_nf x
 have o2:∀ l:List Pol,(l.map Pol.can).map Pol.nf = l.map Pol.nf:=fun l=>by
  rw [List.map_map]; exact List.map_congr_left fun x _=>Pol.can_nf x
 have e5:((df Pol.id a.policies.l (d.policies.l.map Pol.can) d.gonePolicies.l).map Pol.own).map Pol.nf = ((df Pol.id a.policies.l d.policies.l d.gonePolicies.l).map Pol.own).map Pol.nf:=by
  rw [o1,o1,sZ hk,sZ hk,o2]
 simp only [Vw.nf,Dlt.can,Sl.can,Vw.mk.injEq,Sl.nf_iff,List.map_id,true_and];exact e5
theorem ji {α:Type} {same:α -> α -> Bool} (hr:∀ x,same x x = true) (l:List α):aX same l l = []:=by
 rw [aX,List.filter_eq_nil_iff];intro x hx;have:(l.any fun y=>same x y) = true:=List.any_eq_true.2 ⟨x,hx,hr x⟩;simp [this]
theorem jW {α:Type} (key:α -> Int) (l:List α):bq key l l = []:=by
 rw [bq,List.map_eq_nil_iff,List.filter_eq_nil_iff];intro x hx;have:(l.any fun y=>key x == key y) = true:=List.any_eq_true.2 ⟨x,hx,by simp⟩;simp [this]
def Vw.inb (v:Vw):Prop:=Inr .u64 v.epoch /\ (∀ n ∈ v.covers.l,Inr .u32 n) /\ (∀ p ∈ v.pods.l,p.wf big) /\ (∀ p ∈ v.services.l,p.wf big) /\ (∀ p ∈ v.bound.l,p.wf big) /\ ∀ p ∈ v.policies.l,p.wf big
theorem Ke {a b:Vw} (ha:a.inb) (hb:b.inb) (ma:aW a = true) (mb:aW b = true) {n1 n2 n3 n4 m1 m2 m3 m4:Bool}:dltOk (uq a b n1 n2 n3 n4 m1 m2 m3 m4 (dB a b)).can:=by
 refine De (B:=big) (nY ma mb) hb.1 hb.2.1 (fun p hp=>hb.2.2.1 p (List.mem_filter.1 hp).1) (fun p hp=>hb.2.2.2.1 p (List.mem_filter.1 hp).1) (fun p hp=>hb.2.2.2.2.1 p (List.mem_filter.1 hp).1) (fun p hp=>?_) (fun n hn=>?_) (fun n hn=>?_) (fun n hn=>?_) fun n hn=>?_
 · obtain ⟨q,hq,rfl⟩:=List.mem_map.1 hp;exact Pol.own_wf (hb.2.2.2.2.2 q (List.mem_filter.1 hq).1)
 · obtain ⟨q,hq,rfl⟩:=List.mem_map.1 hn;exact (ha.2.2.1 q (List.mem_filter.1 hq).1).1
 · obtain ⟨q,hq,rfl⟩:=List.mem_map.1 hn;exact (ha.2.2.2.1 q (List.mem_filter.1 hq).1).1
 · obtain ⟨q,hq,rfl⟩:=List.mem_map.1 hn;exact (ha.2.2.2.2.1 q (List.mem_filter.1 hq).1).1
 · obtain ⟨q,hq,rfl⟩:=List.mem_map.1 hn;exact (ha.2.2.2.2.2 q (List.mem_filter.1 hq).1).1
end
end Go.Proofs.YtjkfknafpgfchaaGreat
