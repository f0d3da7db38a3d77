/- config.does, by reference: no such kind. -/
import Derived.Test.YtmcchclfpneglaaGreatYj
import Derived.Test.YtmcchclfpneglaaGreatKa
set_option maxRecDepth 100000
set_option linter.unusedVariables false
set_option linter.unusedSimpArgs false
namespace Go.Proofs.YtmcchclfpneglaaGreat
section
variable {E:Calls'}{T:FuncId->Option QF}{val:FuncId->Bool}
theorem Su (t91:T 22=some q91)(v91:val 22=false)(e:Edt)(hk:∀ k:Int,1<=k->k<=9->e.kind≠k){b:Nat}{base:List Blk}(lo:Nat):Sm E T val 22 [.ptr b 0,ag e.c] ⟨base,lo⟩=some (.d (i64 1),⟨base,lo⟩):=by
 have k1:=hk 1 (by decide) (by decide); have k2:=hk 2 (by decide) (by decide); have k3:=hk 3 (by decide) (by decide);have k4:=hk 4 (by decide) (by decide); have k5:=hk 5 (by decide) (by decide); have k6:=hk 6 (by decide) (by decide);have k7:=hk 7 (by decide) (by decide); have k8:=hk 8 (by decide) (by decide); have k9:=hk 9 (by decide) (by decide);have hge:af (base++[Blk.cells (e.c.map .d)]) base.length=some (e.c.map .d):=by simp
 have hB:(Bd E T val q91 [.ptr b 0,ag e.c] ⟨base,base.length⟩).map (fun o=>(o.1,decide (o.2.low=base.length)))=some (.d (i64 1),true):=by
  simp +decide [q91,ae,hge,k1,k2,k3,k4,k5,k6,k7,k8,k9,ai,aa,av,bG]
 rw [aN t91 v91];show dU ⟨base,lo⟩ (Bd E T val q91 [.ptr b 0,ag e.c] ⟨base,base.length⟩)=_;cases hbd:Bd E T val q91 [.ptr b 0,ag e.c] ⟨base,base.length⟩ with
 | none=>rw [hbd] at hB; cases hB
 | some o =>
  obtain ⟨v,bs3,lo3⟩:=o;rw [hbd] at hB;simp at hB;obtain ⟨rfl,rfl⟩:=hB;rw [bY,if_pos ⟨bp _,rfl⟩]
end
section
variable {E:Calls'}{T:FuncId->Option QF}{val:FuncId->Bool}
theorem Sq (t91:T 22=some q91)(v91:val 22=false)(c:Cfg)(e:Edt)(hk:e.kind=8){v4 v5 v6 v7 r rv:V}{b:Nat}{base b1 b2:List Blk}{lo1 lo2:Nat}(lo:Nat)(hb:af base b=some (cq c v4 v5 v6 v7))(hv:okV v7=true/\nu v7=some v7)(hr:okV r=true/\nu r=some r/\r.cells=some [r])
 (hp:Sm E T val 47 [ag e.pol.c] ⟨base++[.cells (e.c.map .d)],base.length+1⟩=some (.agg (pq e.pol rv),⟨b1,lo1⟩)) (hl1:base.length+1<=lo1) (hlen1:base.length+1<=b1.length) (hold1:∀ x,x<base.length+1->b1[x]?=(base++[Blk.cells (e.c.map .d)])[x]?)
 (hw:Sm E T val 64 [v7,.agg (pq e.pol rv),.fn 65 []] ⟨b1,b1.length⟩=some (r,⟨b2,lo2⟩)) (hlen:b1.length<=b2.length) (hold:∀ x,x<b1.length->b2[x]?=b1[x]?) :
 ∃ lo3,Sm E T val 22 [.ptr b 0,ag e.c] ⟨base,lo⟩=some (.d (i64 0),⟨b2.set b (.cells (cq c v4 v5 v6 r)),lo3⟩)/\lo3<=b:=by
 have hbl:=aI hb;have hge:af (base++[Blk.cells (e.c.map .d)]) base.length=some (e.c.map .d):=by simp
 have hgb:af (base++[Blk.cells (e.c.map .d)]) b=some (cq c v4 v5 v6 v7):=ax hb;have g1:af b1 b=some (cq c v4 v5 v6 v7):=aX (hold1 b (by omega)) hgb;have g2:af b2 b=some (cq c v4 v5 v6 v7):=aX (hold b (by omega)) g1;have hbb1:b1.length=base.length+1->b1=base++[Blk.cells (e.c.map .d)]:=fun hh=>by
  refine List.ext_getElem? fun i=>?_;rcases ck i (base.length+1) with hi | hi
  · exact hold1 i hi
  · rw [bb (by omega),bb (by simpa using hi)]
 have hbb:b2.length=b1.length->b2=b1:=fun hh=>by
  refine List.ext_getElem? fun i=>?_;rcases ck i b1.length with hi | hi
  · exact hold i hi
  · rw [bb (by omega),bb (by omega)]
 have hB:(Bd E T val q91 [.ptr b 0,ag e.c] ⟨base,base.length⟩).map (fun o=>(o.1,o.2.bs,decide (o.2.low<=b)))=some (.d (i64 0),b2.set b (.cells (cq c v4 v5 v6 r)),true):=by
  by_cases c0:b1.length=base.length+1
  · have hq:=hbb1 c0;subst hq;simp only [ap,cf,cg,Nat.zero_add] at hw;by_cases c1:base.length+1<=lo2
    · by_cases c2:b2.length=base.length+1
      · have hq:=hbb (by simpa using c2);subst hq;simp +decide [q91,ae,hge,hgb,hk,hp,hl1,hw,c1,hv,hr,cqs,cqp,ai,aa,av,bG,aT,List.range,List.range.loop,Tr.spares];omega
      · simp +decide [q91,ae,hge,hgb,g2,hk,hp,hl1,hw,c1,c2,hv,hr,cqs,cqp,ai,aa,av,bG,aT,List.range,List.range.loop,Tr.spares];omega
    · simp +decide [q91,ae,hge,hgb,g2,hk,hp,hl1,hw,c1,hv,hr,cqs,cqp,ai,aa,av,bG,aT,List.range,List.range.loop,Tr.spares];omega
  · by_cases c1:b1.length<=lo2
    · by_cases c2:b2.length=b1.length
      · have hq:=hbb c2;subst hq;simp +decide [q91,ae,hge,hgb,g1,hk,hp,hl1,c0,(show b<base.length+1 by omega),(show ¬ b2.length<=b by omega),(show ¬ b2.length<=base.length by omega),(show ¬ base.length+1<=b by omega),hw,c1,hv,hr,cqs,cqp,ai,aa,av,bG,aT,List.range,List.range.loop,Tr.spares];omega
      · simp +decide [q91,ae,hge,hgb,g1,g2,hk,hp,hl1,c0,(show b<base.length+1 by omega),(show ¬ b1.length<=b by omega),(show ¬ b1.length<=base.length by omega),(show ¬ base.length+1<=b by omega),hw,c1,c2,hv,hr,cqs,cqp,ai,aa,av,bG,aT,List.range,List.range.loop,Tr.spares];omega
    · simp +decide [q91,ae,hge,hgb,g1,g2,hk,hp,hl1,c0,(show b<base.length+1 by omega),(show ¬ b1.length<=b by omega),(show ¬ b1.length<=base.length by omega),(show ¬ base.length+1<=b by omega),hw,c1,hv,hr,cqs,cqp,ai,aa,av,bG,aT,List.range,List.range.loop,Tr.spares];omega
 exact uA t91 v91 hB hbl lo
end
section
variable {E:Calls'}{T:FuncId->Option QF}{val:FuncId->Bool}
theorem NH (t91:T 22=some q91)(v91:val 22=false)(c:Cfg)(e:Edt)(hk:e.kind=3)(p:Pod){v4 v5 v6 v7:V}{b:Nat}{base:List Blk}(lo:Nat)(hb:af base b=some (cq c v4 v5 v6 v7))
 (h42:∀ x lo,Sm E T val 51 [.agg (cq c v4 v5 v6 v7),.d (u64 e.id)] ⟨base++[.cells (e.c.map .d),x],lo⟩=some (.tup [ag p.c,bl false],⟨base++[.cells (e.c.map .d),x],lo⟩)) :
 Sm E T val 22 [.ptr b 0,ag e.c] ⟨base,lo⟩=some (.d (i64 4),⟨base,lo⟩):=by
 have hbl:=aI hb;have hge:∀ ys,af (base++Blk.cells (e.c.map .d)::ys) base.length=some (e.c.map .d):=fun ys=>by rw [di]; rfl
 have hgb:∀ ys,af (base++ys) b=some (cq c v4 v5 v6 v7):=fun ys=>ax hb;have hg1:∀ X:List V,af (base++[Blk.cells (e.c.map .d),Blk.cells X]) (base.length+1)=some X:=fun X=>by rw [gD]; rfl
 have hs1:∀ X Y,(base++[Blk.cells (e.c.map .d),X]).set (base.length+1) Y=base++[Blk.cells (e.c.map .d),Y]:=fun X Y=>by rw [List.set_append_right _ _ (by omega)]; simp
 have hp0:∀ z:List V,z.length=7->put z 0 (p.c.map V.d)=some (p.c.map V.d):=fun z hz=>by simp [put,hz]
 have hB:(Bd E T val q91 [.ptr b 0,ag e.c] ⟨base,base.length⟩).map (fun o=>(o.1,decide (base.length<=o.2.low)))=some (.d (i64 4),true):=by
  simp +decide [q91,ae,hge,hgb,hg1,hs1,hp0,hk,h42,cqs,ai,aa,av,bG,aT,List.range,List.range.loop,Tr.spares]
 rw [aN t91 v91];show dU ⟨base,lo⟩ (Bd E T val q91 [.ptr b 0,ag e.c] ⟨base,base.length⟩)=_;cases hbd:Bd E T val q91 [.ptr b 0,ag e.c] ⟨base,base.length⟩ with
 | none=>rw [hbd] at hB; cases hB
 | some o =>
  obtain ⟨v,bs3,lo3⟩:=o;rw [hbd] at hB;simp at hB;obtain ⟨rfl,hlo⟩:=hB;rw [bY,if_pos ⟨hlo,rfl⟩]
theorem Sg (t91:T 22=some q91)(v91:val 22=false)(c:Cfg)(e:Edt)(hk:e.kind=3)(p:Pod){v4 v5 v6 v7 r:V}{w:Bool}{b lo2 lo3:Nat}{base b2 bs':List Blk}(lo:Nat)(hb:af base b=some (cq c v4 v5 v6 v7))(hv:okV v4=true/\nu v4=some v4)(hr:okV r=true/\nu r=some r/\r.cells=some [r])
 (h42:∀ x lo,Sm E T val 51 [.agg (cq c v4 v5 v6 v7),.d (u64 e.id)] ⟨base++[.cells (e.c.map .d),x],lo⟩=some (.tup [ag p.c,bl true],⟨base++[.cells (e.c.map .d),x],lo⟩))
 (hw:Sm E T val 49 [v4,.d (u64 e.id),.fn 50 []] ⟨base++[.cells (e.c.map .d),.cells (p.c.map .d)],base.length+2⟩=some (.tup [r,bl w],⟨b2,lo2⟩)) (hlen:base.length+2<=b2.length) (hold:∀ x,x<base.length+2->b2[x]?=(base++[Blk.cells (e.c.map .d),.cells (p.c.map .d)])[x]?)
 (h189:∀ lo,Sm E T val 48 [.ptr b 0,ag ({ p with host:=e.pod.host,addr:=e.pod.addr }:Pod).c] ⟨(b2.set b (.cells (cq c r v5 v6 v7))).set (base.length+1) (.cells (({ p with host:=e.pod.host,addr:=e.pod.addr }:Pod).c.map .d)),lo⟩=some (.tup [],⟨bs',min lo lo3⟩)) (hlo3:lo3<=b) :
 ∃ lo',Sm E T val 22 [.ptr b 0,ag e.c] ⟨base,lo⟩=some (.d (i64 0),⟨bs',lo'⟩)/\lo'<=b:=by
 have hbl:=aI hb;have hge:∀ ys,af (base++Blk.cells (e.c.map .d)::ys) base.length=some (e.c.map .d):=fun ys=>by rw [di]; rfl
 have hgb:∀ ys,af (base++ys) b=some (cq c v4 v5 v6 v7):=fun ys=>ax hb;have hg1:∀ X:List V,af (base++[Blk.cells (e.c.map .d),Blk.cells X]) (base.length+1)=some X:=fun X=>by rw [gD]; rfl
 have hs1:∀ X Y,(base++[Blk.cells (e.c.map .d),X]).set (base.length+1) Y=base++[Blk.cells (e.c.map .d),Y]:=fun X Y=>by rw [List.set_append_right _ _ (by omega)]; simp
 have hp0:∀ z:List V,z.length=7->put z 0 (p.c.map V.d)=some (p.c.map V.d):=fun z hz=>by simp [put,hz]
 have g2:af b2 b=some (cq c v4 v5 v6 v7):=aX (hold b (by omega)) (hgb _);have g2e:af b2 base.length=some (e.c.map .d):=aX (hold _ (by omega)) (hge _);have g2p:af b2 (base.length+1)=some (p.c.map .d):=aX (hold _ (by omega)) (hg1 _);have m2e:∀ X,af (b2.set b (.cells X)) base.length=some (e.c.map .d):=fun X=>(aS (by omega)).trans g2e;have m2p:∀ X,af (b2.set b (.cells X)) (base.length+1)=some (p.c.map .d):=fun X=>(aS (by omega)).trans g2p;have m3e:∀ X Y,af ((b2.set b (.cells X)).set (base.length+1) (.cells Y)) base.length=some (e.c.map .d):=fun X Y=>(aS (by omega)).trans (m2e X);have m3p:∀ X Y,af ((b2.set b (.cells X)).set (base.length+1) (.cells Y)) (base.length+1)=some Y:=fun X Y=>aK (m2p X);have hbb:b2.length=base.length+2->b2=base++[Blk.cells (e.c.map .d),.cells (p.c.map .d)]:=fun hh=>by
  refine List.ext_getElem? fun i=>?_;rcases ck i (base.length+2) with hi | hi
  · exact hold i hi
  · rw [bb (by omega),bb (by simpa using hi)]
 have hB:(Bd E T val q91 [.ptr b 0,ag e.c] ⟨base,base.length⟩).map (fun o=>(o.1,o.2.bs,decide (o.2.low<=b)))=some (.d (i64 0),bs',true):=by
  by_cases c1:base.length+2<=lo2
  · by_cases c2:b2.length=base.length+2
    · have h3:=hbb c2;subst h3;simp +decide [q91,ae,hge,hgb,hg1,hs1,hp0,hk,h42,hw,c1,g2,g2e,g2p,m2e,m2p,m3e,m3p,hv,hr,cqs,cqp,Pod.p3,Pod.p4,h189,ai,aa,av,bG,aT,List.range,List.range.loop,Tr.spares];omega
    · simp +decide [q91,ae,hge,hgb,hg1,hs1,hp0,hk,h42,hw,c1,c2,g2,g2e,g2p,m2e,m2p,m3e,m3p,hv,hr,cqs,cqp,Pod.p3,Pod.p4,h189,ai,aa,av,bG,aT,List.range,List.range.loop,Tr.spares];omega
  · simp +decide [q91,ae,hge,hgb,hg1,hs1,hp0,hk,h42,hw,c1,g2,g2e,g2p,m2e,m2p,m3e,m3p,hv,hr,cqs,cqp,Pod.p3,Pod.p4,h189,ai,aa,av,bG,aT,List.range,List.range.loop,Tr.spares];omega
 exact uA t91 v91 hB hbl lo
end
section
def RowG (K:Nat->Prop)(bs:List Blk)(z:Nat)(es:List (List V))(v:V):Prop:=(es=[]/\v=.d (.slice true []))\/∃ b cap rest,K b/\v=.row b 0 es.length cap z/\af bs b=some (Vr.flat es++rest)
section
variable {K:Nat->Prop}{bs:List Blk}{z:Nat}{es:List (List V)}{v:V}
theorem RowG.on {K':Nat->Prop}{bs':List Blk}(h:RowG K bs z es v)(ho:∀ x,K x->K' x/\bs'[x]?=bs[x]?):RowG K' bs' z es v:=by
 rcases h with h | ⟨b,cap,rest,h1,h2,h3⟩
 · exact .inl h
 · exact .inr ⟨b,cap,rest,(ho b h1).1,h2,aX (ho b h1).2 h3⟩
theorem RowG.arg (h:RowG K bs z es v):∃ nl,(nl=true->es=[])/\Vr.ArgIs bs v z nl es:=by
 rcases h with ⟨h1,rfl⟩ | ⟨b,cap,rest,h1,h2,h3⟩
 · exact ⟨true,fun _=>h1,⟨fun _=>rfl,(fun h=>nomatch h)⟩⟩
 · exact ⟨false,(fun h=>nomatch h),⟨(fun h=>nomatch h),fun _=>⟨b,cap,rest,h2,h3⟩⟩⟩
theorem RowG.okv (h:RowG K bs z es v):okV v=true/\nu v=some v/\v.cells=some [v]:=by
 rcases h with ⟨h1,rfl⟩ | ⟨b,cap,rest,h1,rfl,h3⟩<;>exact ⟨rfl,rfl,rfl⟩
theorem RowG.ok2 (h:RowG K bs z es v):okV v=true/\nu v=some v:=⟨h.okv.1,h.okv.2.1⟩
theorem RowG.rowIs (h:RowG K bs z es v)(hz:∀ e∈es,e.length=z):Vr.RowIs bs v z es:=by
 refine ⟨hz,?_⟩;rcases h with ⟨h1,rfl⟩ | ⟨b,cap,rest,h1,rfl,h3⟩
 · exact .inl ⟨true,rfl,h1⟩
 · exact .inr ⟨b,0,cap,_,rfl,h3,by
    have:=Vr.flat_len hz;rw [eY,if_pos (by rw [ap,this]; omega),List.drop_zero,← this,List.take_left]; rfl⟩
end
def uj (bs bs':List Blk):Nat->Prop:=fun x=>bs.length<=x/\x<bs'.length
section
variable {E:Calls'}{T:FuncId->Option QF}{val:FuncId->Bool}
theorem RowG.wo {α:Type}{cells:α->List V}{z b cl clos del idx idf wo:Nat}{zero:List V}{key:α->Int}(tcl:T cl=some (cloneQ z b zero))(vcl:val cl=false)(tdel:T del=some (delQ z idx zero))(vdel:val del=false)(tidx:T idx=some (idxQ z))(vidx:val idx=false)
 (tc:T clos=some (woCQ z)) (vc:val clos=false) (two:T wo=some (woQ cl clos del)) (vwo:val wo=false) (hz:∀ x,(cells x).length=z) (hz0:0<z) (hzero:zero.length=z) (hb:b<=4096) {l:List α} (hl:l.length<=big) (hid:∀ e∈l,∀ h,Sm E T val idf [.agg (cells e)] h=some (.d (u64 (key e)),h)) (n:Int) {K:Nat->Prop} {bs:List Blk} {v:V} (hr:RowG K bs z (l.map cells) v) (lo:Nat) :
 ∃ r bs' lo',Sm E T val wo [v,.d (u64 n),.fn idf []] ⟨bs,lo⟩=some (.tup [r,bl (decide ((l.filter fun e=>!(key e==n)).length<l.length))],⟨bs',lo'⟩)/\bs.length<=bs'.length/\(∀ x,x<bs.length->bs'[x]?=bs[x]?)/\RowG (uj bs bs') bs' z ((l.filter fun e=>!(key e==n)).map cells) r:=by
 obtain ⟨nl,h1,h2⟩:=hr.arg;obtain ⟨r,bs',lo',k1,k2,k3,k4⟩:=Vr.S_wo_ref (E:=E) (T:=T) (val:=val) tcl vcl tdel vdel tidx vidx tc vc two vwo hz hz0 hzero hb (nl:=nl) (l:=l) ⟨hl,fun h=>by simpa using h1 h⟩ hid n ⟨bs,lo⟩ h2;refine ⟨r,bs',lo',k1,k2,k3,?_⟩;rcases k4 with ⟨_,q2,q3⟩ | ⟨B,q1,q2,q3,q4⟩ | ⟨B,rest,q,q2,q3,q4,_⟩
 · exact .inl ⟨by rw [q2]; rfl,q3⟩
 · exact .inr ⟨B,some 0,[],⟨q2,aI q4⟩,by rw [q1]; exact q3,by rw [q1]; exact q4⟩
 · exact .inr ⟨B,none,rest,⟨q2,aI q4⟩,by rw [bx]; exact q3,q4⟩
theorem RowG.wi {α:Type}{cells:α->List V}{z b cl clos del idx idf wo wi g srt p:Nat}{zero:List V}{key:α->Int}(tcl:T cl=some (cloneQ z b zero))(vcl:val cl=false)(tdel:T del=some (delQ z idx zero))(vdel:val del=false)(tidx:T idx=some (idxQ z))(vidx:val idx=false)
 (tc:T clos=some (woCQ z)) (vc:val clos=false) (two:T wo=some (woQ cl clos del)) (vwo:val wo=false) (twi:T wi=some (wiQ z b wo g srt zero)) (vwi:val wi=false) (tsrt:T srt=none) (hE:∀ args h,E srt args h=fB ⟨z,p,g,idf⟩ args h)
 (hz:∀ x,(cells x).length=z) (hz0:0<z) (hzero:zero.length=z) (hb:b<=4096) (hkey:∀ x,(cells x)[p]?=some (.d (.int .u64 (key x)))) {l:List α} (hl:l.length<big) (hnd:(l.map key).Nodup) {x:α}
 (hid:∀ e,e∈l\/e=x->∀ h,Sm E T val idf [.agg (cells e)] h=some (.d (u64 (key e)),h)) {K:Nat->Prop} {bs:List Blk} {v:V} (hr:RowG K bs z (l.map cells) v) (lo:Nat) :
 ∃ B cap bs' lo' rest,Sm E T val wi [v,.agg (cells x),.fn idf []] ⟨bs,lo⟩=some (.row B 0 (dE key x l).length cap z,⟨bs',lo'⟩)/\bs.length<=B/\af bs' B=some (Vr.flat ((dE key x l).map cells)++rest)/\∀ y,y<bs.length->bs'[y]?=bs[y]?:=by
 obtain ⟨nl,h1,h2⟩:=hr.arg;exact Vr.S_wiR (E:=E) (T:=T) (val:=val) tcl vcl tdel vdel tidx vidx tc vc two vwo twi vwi tsrt hE hz hz0 hzero hb hkey (nl:=nl) ⟨Nat.le_of_lt hl,fun h=>by simpa using h1 h⟩ hl hnd hid bs lo h2
end
def am1:List (Nat×QF):=[(9,q36),(21,q90),(22,q91),(48,wK),(97,Pz),(52,Pb),(59,Pg),(64,Ut),(49,O9),(58,Pf),(63,Ph),(66,Uu),(98,PD),(106,Uw),(111,PE),(115,Ux),(42,Gj),(44,Gl),(45,Gm),(46,Gn),(41,O5),(105,Px),(110,Py),(114,Uv),(34,Ja),(36,Jb),(39,Jd),(152,Jf),(50,BI),(53,BJ),(60,BK),(65,Dl),(54,Z6),(56,Lf),(61,Lh),(103,Z8),(104,LD),(109,LC),(55,Pd),(57,Pe),(62,Li),(47,xJ),(95,BL)]
def TG:FuncId->Option QF:=kz am1
def cO (_:FuncId):Bool:=false
structure AppG (E:Calls'):Prop where
 e271:∀ args h,E 147 args h=fB yz args h
 e276:∀ args h,E 100 args h=fB yB args h
 e280:∀ args h,E 107 args h=fB yC args h
 e284:∀ args h,E 112 args h=fB yA args h
 e231:∀ r:Rule,r.fits big->∀ h,E 96 [ag r.c] h=some (ag r.own.c,h)
 e42:∀ (c:Cfg) (n:Int),c.ok->∀ a h,frz h a=some (ag c.c)->E 51 [a,.d (u64 n)] h=some (.tup (match c.pods.l.find? (fun p=>p.uid==n) with | some p=>[p.v,bl true] | none=>[pod0.v,bl false]),h)
section
variable {E:Calls'}
theorem Rm (p:Pod)(h:Hp):Sm E TG cO 50 [.agg (p.c.map .d)] h=some (.d (u64 p.uid),h):=by
 show Sm E TG cO 50 [ag p.c] h=_;rw [aN (q:=BI) (by kernel_rfl) rfl]; simp [ae,BI,V.under]
theorem Rn (p:Svc)(h:Hp):Sm E TG cO 53 [.agg (p.c.map .d)] h=some (.d (u64 p.id),h):=by
 show Sm E TG cO 53 [ag p.c] h=_;rw [aN (q:=BJ) (by kernel_rfl) rfl]; simp [ae,BJ,V.under]
theorem Ro (p:Way)(h:Hp):Sm E TG cO 60 [.agg (p.c.map .d)] h=some (.d (u64 p.id),h):=by
 show Sm E TG cO 60 [ag p.c] h=_;rw [aN (q:=BK) (by kernel_rfl) rfl]; simp [ae,BK,V.under]
theorem Rp (p:Pol)(v:V)(h:Hp):Sm E TG cO 65 [.agg (pq p v)] h=some (.d (u64 p.id),h):=by
 rw [aN (q:=Dl) (by kernel_rfl) rfl]; simp [ae,Dl,V.under,pq]
theorem Xd (p:Pod)(e:Edt)(x:Nat)(h:Hp)(hp:af h.bs x=some (e.c.map .d)):Sm E TG cO 55 [.agg (p.c.map .d),.ptr x 0] h=some (bl (p.service==e.id),h):=by
 show Sm E TG cO 55 [ag p.c,.ptr x 0] h=_;rw [aN (q:=Pd) (by kernel_rfl) rfl];simp [ae,Pd,ax hp,V.under]
theorem Xf (p:Pol)(v:V)(e:Edt)(x:Nat)(h:Hp)(hp:af h.bs x=some (e.c.map .d)):Sm E TG cO 57 [.agg (pq p v),.ptr x 0] h=some (bl (p.service==e.id),h):=by
 rw [aN (q:=Pe) (by kernel_rfl) rfl];simp [ae,Pe,ax hp,V.under,pq]
theorem Xj (p:Svc)(e:Edt)(x:Nat)(h:Hp)(hp:af h.bs x=some (e.c.map .d)):Sm E TG cO 62 [.agg (p.c.map .d),.ptr x 0] h=some (bl (p.way==e.id),h):=by
 show Sm E TG cO 62 [ag p.c,.ptr x 0] h=_;rw [aN (q:=Li) (by kernel_rfl) rfl];simp [ae,Li,ax hp,V.under]
def uI (p:Pod):List V:=p.c.map .d
def sM (p:Svc):List V:=p.c.map .d
def xz (p:Way):List V:=p.c.map .d
def mY (x:Pol×V):List V:=pq x.1 x.2
variable {K:Nat->Prop}{bs:List Blk}{v:V}
theorem W9 (l:List Pod)(hl:l.length<2 ^ 62)(e:Edt)(x lo:Nat)(hp:af bs x=some (e.c.map .d))(hr:RowG K bs 7 (l.map uI) v):Sm E TG cO 54 [v,.fn 55 [.ptr x 0]] ⟨bs,lo⟩=some (bl (l.any fun p=>p.service==e.id),⟨bs,lo⟩) :=
 pK (con:=103) (by kernel_rfl) rfl hr.okv.2.1 hr.okv.1 (Vr.S_any uI (z:=7) (idx:=34) (id:=103) (by kernel_rfl) rfl (by kernel_rfl) rfl (hr.rowIs (by simp [uI])) hl fun p _ lo=>Xd p e x _ hp)
theorem Xe (l:List (Pol×V))(hl:l.length<2 ^ 62)(e:Edt)(x lo:Nat)(hp:af bs x=some (e.c.map .d))(hr:RowG K bs 5 (l.map mY) v):Sm E TG cO 56 [v,.fn 57 [.ptr x 0]] ⟨bs,lo⟩=some (bl (l.any fun p=>p.1.service==e.id),⟨bs,lo⟩) :=
 pK (con:=104) (by kernel_rfl) rfl hr.okv.2.1 hr.okv.1 (Vr.S_any mY (z:=5) (idx:=152) (id:=104) (by kernel_rfl) rfl (by kernel_rfl) rfl (hr.rowIs fun e he=>by obtain ⟨y,_,rfl⟩:=b9.1 he; rfl) hl fun p _ lo=>Xf p.1 p.2 e x _ hp)
theorem Xi (l:List Svc)(hl:l.length<2 ^ 62)(e:Edt)(x lo:Nat)(hp:af bs x=some (e.c.map .d))(hr:RowG K bs 5 (l.map sM) v):Sm E TG cO 61 [v,.fn 62 [.ptr x 0]] ⟨bs,lo⟩=some (bl (l.any fun p=>p.way==e.id),⟨bs,lo⟩) :=
 pK (con:=109) (by kernel_rfl) rfl hr.okv.2.1 hr.okv.1 (Vr.S_any sM (z:=5) (idx:=36) (id:=109) (by kernel_rfl) rfl (by kernel_rfl) rfl (hr.rowIs (by simp [sM])) hl fun p _ lo=>Xj p e x _ hp)
theorem Rl (l:List Pod)(hl:l.length<=big)(n:Int)(hr:RowG K bs 7 (l.map uI) v)(lo:Nat) :
 ∃ r bs' lo',Sm E TG cO 49 [v,.d (u64 n),.fn 50 []] ⟨bs,lo⟩=some (.tup [r,bl (decide ((l.filter fun e=>!(Pod.uid e==n)).length<l.length))],⟨bs',lo'⟩)/\bs.length<=bs'.length/\(∀ x,x<bs.length->bs'[x]?=bs[x]?)/\RowG (uj bs bs') bs' 7 ((l.filter fun e=>!(Pod.uid e==n)).map uI) r :=
 RowG.wo (cells:=uI) (key:=Pod.uid) (z:=7) (b:=72) (cl:=42) (clos:=98) (del:=41) (idx:=34) (idf:=50) (wo:=49) (zero:=EI) (by kernel_rfl) rfl (by kernel_rfl) rfl (by kernel_rfl) rfl (by kernel_rfl) rfl (by kernel_rfl) rfl (fun _=>rfl) (by decide) rfl (by decide) hl (fun e _ h=>Rm e h) n hr lo
theorem Rs (hE:AppG E)(l:List Pod)(hl:l.length<big)(hnd:(l.map Pod.uid).Nodup)(x:Pod)(hr:RowG K bs 7 (l.map uI) v)(lo:Nat) :
 ∃ B cap bs' lo' rest,Sm E TG cO 97 [v,.agg (uI x),.fn 50 []] ⟨bs,lo⟩=some (.row B 0 (dE Pod.uid x l).length cap 7,⟨bs',lo'⟩)/\bs.length<=B/\af bs' B=some (Vr.flat ((dE Pod.uid x l).map uI)++rest)/\∀ y,y<bs.length->bs'[y]?=bs[y]? :=
 RowG.wi (cells:=uI) (key:=Pod.uid) (z:=7) (b:=72) (cl:=42) (clos:=98) (del:=41) (idx:=34) (idf:=50) (wo:=49) (zero:=EI) (wi:=97) (g:=148) (srt:=147) (p:=0) (by kernel_rfl) rfl (by kernel_rfl) rfl (by kernel_rfl) rfl (by kernel_rfl) rfl (by kernel_rfl) rfl (by kernel_rfl) rfl (by kernel_rfl) hE.e271 (fun _=>rfl) (by decide) rfl (by decide) (fun _=>rfl) hl hnd (fun e _ h=>Rm e h) hr lo
theorem Xg (l:List Svc)(hl:l.length<=big)(n:Int)(hr:RowG K bs 5 (l.map sM) v)(lo:Nat) :
 ∃ r bs' lo',Sm E TG cO 58 [v,.d (u64 n),.fn 53 []] ⟨bs,lo⟩=some (.tup [r,bl (decide ((l.filter fun e=>!(Svc.id e==n)).length<l.length))],⟨bs',lo'⟩)/\bs.length<=bs'.length/\(∀ x,x<bs.length->bs'[x]?=bs[x]?)/\RowG (uj bs bs') bs' 5 ((l.filter fun e=>!(Svc.id e==n)).map sM) r :=
 RowG.wo (cells:=sM) (key:=Svc.id) (z:=5) (b:=48) (cl:=44) (clos:=106) (del:=105) (idx:=36) (idf:=53) (wo:=58) (zero:=ML) (by kernel_rfl) rfl (by kernel_rfl) rfl (by kernel_rfl) rfl (by kernel_rfl) rfl (by kernel_rfl) rfl (fun _=>rfl) (by decide) rfl (by decide) hl (fun e _ h=>Rn e h) n hr lo
theorem WZ (hE:AppG E)(l:List Svc)(hl:l.length<big)(hnd:(l.map Svc.id).Nodup)(x:Svc)(hr:RowG K bs 5 (l.map sM) v)(lo:Nat) :
 ∃ B cap bs' lo' rest,Sm E TG cO 52 [v,.agg (sM x),.fn 53 []] ⟨bs,lo⟩=some (.row B 0 (dE Svc.id x l).length cap 5,⟨bs',lo'⟩)/\bs.length<=B/\af bs' B=some (Vr.flat ((dE Svc.id x l).map sM)++rest)/\∀ y,y<bs.length->bs'[y]?=bs[y]? :=
 RowG.wi (cells:=sM) (key:=Svc.id) (z:=5) (b:=48) (cl:=44) (clos:=106) (del:=105) (idx:=36) (idf:=53) (wo:=58) (zero:=ML) (wi:=52) (g:=101) (srt:=100) (p:=0) (by kernel_rfl) rfl (by kernel_rfl) rfl (by kernel_rfl) rfl (by kernel_rfl) rfl (by kernel_rfl) rfl (by kernel_rfl) rfl (by kernel_rfl) hE.e276 (fun _=>rfl) (by decide) rfl (by decide) (fun _=>rfl) hl hnd (fun e _ h=>Rn e h) hr lo
theorem Xk (l:List Way)(hl:l.length<=big)(n:Int)(hr:RowG K bs 2 (l.map xz) v)(lo:Nat) :
 ∃ r bs' lo',Sm E TG cO 63 [v,.d (u64 n),.fn 60 []] ⟨bs,lo⟩=some (.tup [r,bl (decide ((l.filter fun e=>!(Way.id e==n)).length<l.length))],⟨bs',lo'⟩)/\bs.length<=bs'.length/\(∀ x,x<bs.length->bs'[x]?=bs[x]?)/\RowG (uj bs bs') bs' 2 ((l.filter fun e=>!(Way.id e==n)).map xz) r :=
 RowG.wo (cells:=xz) (key:=Way.id) (z:=2) (b:=16) (cl:=45) (clos:=111) (del:=110) (idx:=39) (idf:=60) (wo:=63) (zero:=M0) (by kernel_rfl) rfl (by kernel_rfl) rfl (by kernel_rfl) rfl (by kernel_rfl) rfl (by kernel_rfl) rfl (fun _=>rfl) (by decide) rfl (by decide) hl (fun e _ h=>Ro e h) n hr lo
theorem Xh (hE:AppG E)(l:List Way)(hl:l.length<big)(hnd:(l.map Way.id).Nodup)(x:Way)(hr:RowG K bs 2 (l.map xz) v)(lo:Nat) :
 ∃ B cap bs' lo' rest,Sm E TG cO 59 [v,.agg (xz x),.fn 60 []] ⟨bs,lo⟩=some (.row B 0 (dE Way.id x l).length cap 2,⟨bs',lo'⟩)/\bs.length<=B/\af bs' B=some (Vr.flat ((dE Way.id x l).map xz)++rest)/\∀ y,y<bs.length->bs'[y]?=bs[y]? :=
 RowG.wi (cells:=xz) (key:=Way.id) (z:=2) (b:=16) (cl:=45) (clos:=111) (del:=110) (idx:=39) (idf:=60) (wo:=63) (zero:=M0) (wi:=59) (g:=108) (srt:=107) (p:=0) (by kernel_rfl) rfl (by kernel_rfl) rfl (by kernel_rfl) rfl (by kernel_rfl) rfl (by kernel_rfl) rfl (by kernel_rfl) rfl (by kernel_rfl) hE.e280 (fun _=>rfl) (by decide) rfl (by decide) (fun _=>rfl) hl hnd (fun e _ h=>Ro e h) hr lo
theorem Xm (l:List (Pol×V))(hl:l.length<=big)(n:Int)(hr:RowG K bs 5 (l.map mY) v)(lo:Nat) :
 ∃ r bs' lo',Sm E TG cO 66 [v,.d (u64 n),.fn 65 []] ⟨bs,lo⟩=some (.tup [r,bl (decide ((l.filter fun e=>!((fun x:Pol×V=>x.1.id) e==n)).length<l.length))],⟨bs',lo'⟩)/\bs.length<=bs'.length/\(∀ x,x<bs.length->bs'[x]?=bs[x]?)/\RowG (uj bs bs') bs' 5 ((l.filter fun e=>!((fun x:Pol×V=>x.1.id) e==n)).map mY) r :=
 RowG.wo (cells:=mY) (key:=(fun x:Pol×V=>x.1.id)) (z:=5) (b:=64) (cl:=46) (clos:=115) (del:=114) (idx:=152) (idf:=65) (wo:=66) (zero:=K6) (by kernel_rfl) rfl (by kernel_rfl) rfl (by kernel_rfl) rfl (by kernel_rfl) rfl (by kernel_rfl) rfl (fun _=>rfl) (by decide) rfl (by decide) hl (fun e _ h=>Rp e.1 e.2 h) n hr lo
theorem Xl (hE:AppG E)(l:List (Pol×V))(hl:l.length<big)(hnd:(l.map (fun x:Pol×V=>x.1.id)).Nodup)(x:(Pol×V))(hr:RowG K bs 5 (l.map mY) v)(lo:Nat) :
 ∃ B cap bs' lo' rest,Sm E TG cO 64 [v,.agg (mY x),.fn 65 []] ⟨bs,lo⟩=some (.row B 0 (dE (fun x:Pol×V=>x.1.id) x l).length cap 5,⟨bs',lo'⟩)/\bs.length<=B/\af bs' B=some (Vr.flat ((dE (fun x:Pol×V=>x.1.id) x l).map mY)++rest)/\∀ y,y<bs.length->bs'[y]?=bs[y]? :=
 RowG.wi (cells:=mY) (key:=(fun x:Pol×V=>x.1.id)) (z:=5) (b:=64) (cl:=46) (clos:=115) (del:=114) (idx:=152) (idf:=65) (wo:=66) (zero:=K6) (wi:=64) (g:=113) (srt:=112) (p:=0) (by kernel_rfl) rfl (by kernel_rfl) rfl (by kernel_rfl) rfl (by kernel_rfl) rfl (by kernel_rfl) rfl (by kernel_rfl) rfl (by kernel_rfl) hE.e284 (fun _=>rfl) (by decide) rfl (by decide) (fun _=>rfl) hl hnd (fun e _ h=>Rp e.1 e.2 h) hr lo
end
end
section
def xG:V->Bool
 | .d _=>true
 | _=>false
def Cw (x:Pol×V):Pol:={ x.1 with rules:=⟨xG x.2,x.1.rules.l.map Rule.own⟩ }
def qD (d:Cfg)(pl:List (Pol×V))(v4 v5 v6 v7:V):Cfg:={ d with pods:=⟨xG v4,d.pods.l⟩,services:=⟨xG v5,d.services.l⟩,bound:=⟨xG v6,d.bound.l⟩,policies:=⟨xG v7,pl.map Cw⟩ }
structure OwnS (L0:Nat) (tag:Nat->Nat) (bs:List Blk) (d:Cfg) (pl:List (Pol×V)) (v4 v5 v6 v7:V):Prop where
 r4:RowG (Tg L0 bs.length tag 4) bs 7 (d.pods.l.map uI) v4
 r5:RowG (Tg L0 bs.length tag 5) bs 5 (d.services.l.map sM) v5
 r6:RowG (Tg L0 bs.length tag 6) bs 2 (d.bound.l.map xz) v6
 r7:RowG (Tg L0 bs.length tag 7) bs 5 (pl.map mY) v7
 r8:∀ x∈pl,RowG (Tg L0 bs.length tag 8) bs 3 (x.1.rules.l.map fun r=>r.own.c.map V.d) x.2
 pol:d.policies.l=pl.map fun x=>x.1.own
theorem RowG.step {L:Nat}{tag tag':Nat->Nat}{bs bs':List Blk}{i z:Nat}{es:List (List V)}{v:V}(h:RowG (Tg L bs.length tag i) bs z es v)(hi:i≠0)(hl:bs.length<=bs'.length)(ho:∀ x,L<=x->x<bs.length->tag x≠0->bs'[x]?=bs[x]?)(ht:∀ x,x<bs.length->tag' x=tag x):RowG (Tg L bs'.length tag' i) bs' z es v :=
 h.on fun x hx=>⟨⟨hx.1,cb hx.2.1 hl,(ht x hx.2.1).trans hx.2.2⟩,ho x hx.1 hx.2.1 (by rw [hx.2.2]; exact hi)⟩
theorem OwnS.next {L0:Nat}{tag tag':Nat->Nat}{bs bs':List Blk}{d:Cfg}{pl:List (Pol×V)}{v4 v5 v6 v7:V}(S:OwnS L0 tag bs d pl v4 v5 v6 v7)(hl:bs.length<=bs'.length)(ho:∀ x,L0<=x->x<bs.length->tag x≠0->bs'[x]?=bs[x]?)(ht:∀ x,x<bs.length->tag' x=tag x):OwnS L0 tag' bs' d pl v4 v5 v6 v7 :=
 ⟨S.r4.step (by decide) hl ho ht,S.r5.step (by decide) hl ho ht,S.r6.step (by decide) hl ho ht,S.r7.step (by decide) hl ho ht,fun x hx=>(S.r8 x hx).step (by decide) hl ho ht,S.pol⟩
theorem Hng.rowR {K:Nat->Prop}{bs:List Blk}{k b n z:Nat}{cap:Option Nat}{cs rest:List V}{es:List (List D)}(hKb:K b)(hb:af bs b=some (cs++rest))(hcs:Hngs false K bs k cs es.flatten)(hz:∀ e∈es,e.length=z)(hn:n=es.length) :
 Hng false K bs (.row b 0 n cap z) (.slice false es) (k+1):=by
 intro bs' lo h j hj;cases j with
 | zero=>omega
 | succ j =>
  have hg:Hp.get ⟨bs',lo⟩ b=some (cs++rest):=by
   rw [get_eq]; exact aX (h b hKb) hb
  obtain ⟨m1,m2⟩:=Hngs.mapM (lo:=lo) h (show k<=j by omega) hcs;have hlen:cs.length=n * z:=by
   rw [hcs.len,hn,List.length_flatten];have:es.map List.length=List.replicate es.length z:=by
    rw [List.eq_replicate_iff];exact ⟨by simp,fun x hx=>by obtain ⟨e,he,rfl⟩:=b9.1 hx; exact hz e he⟩
   rw [this]; simp
  have hs:sub (cs++rest) 0 (n * z)=some cs:=by
   rw [eY,if_pos (by rw [ap,hlen]; omega),List.drop_zero,← hlen,List.take_left]
  refine ⟨?_,fun hw=>by cases hw⟩;simp only [dataV,hg,hs,m1];rw [hn,lT es hz]
theorem RowG.nil {K:Nat->Prop}{bs:List Blk}{z:Nat}{es:List (List V)}{v:V}(h:RowG K bs z es v)(hv:xG v=true):es=[]:=by
 rcases h with ⟨h1,rfl⟩ | ⟨b,cap,rest,h1,rfl,h3⟩
 · exact h1
 · cases hv
theorem RowG.nilT {K:Nat->Prop}{bs:List Blk}{z:Nat}{α:Type}{f:α->List V}{l:List α}{v:V}(h:RowG K bs z (l.map f) v)(hv:xG v=true):l=[]:=by simpa using h.nil hv
theorem RowG.hng {K:Nat->Prop}{bs:List Blk}{z:Nat}{es:List (List V)}{v:V}(h:RowG K bs z es v){ds:List (List D)}{k:Nat}(hcs:Hngs false K bs k es.flatten ds.flatten)(hz:∀ e∈ds,e.length=z)(hl:ds.length=es.length):Hng false K bs v (.slice (xG v) ds) (k+1):=by
 rcases h with ⟨h1,rfl⟩ | ⟨b,cap,rest,h1,rfl,h3⟩
 · have:ds=[]:=List.length_eq_zero_iff.1 (by rw [hl,h1]; rfl);subst this;exact Hng.data
 · exact Hng.rowR h1 h3 hcs hz hl.symm
theorem Oo {α:Type}(f:α->List D)(l:List α):(l.map fun x=>(f x).map V.d).flatten=(l.map f).flatten.map V.d:=by
 simp [List.map_flatten,cj]
theorem RowG.hngD {K:Nat->Prop}{bs:List Blk}{z:Nat}{α:Type}{f:α->List D}{l:List α}{v:V}(h:RowG K bs z (l.map fun x=>(f x).map V.d) v)(hz:∀ x,(f x).length=z):Hng false K bs v (.slice (xG v) (l.map f)) 1 :=
 h.hng (k:=0) (by rw [Oo]; exact Hngs.data) (fun e he=>by obtain ⟨x,_,rfl⟩:=b9.1 he; exact hz x) (by simp)
def TgA (L M:Nat)(tag:Nat->Nat):Nat->Prop:=fun x=>L<=x/\x<M/\tag x≠0
theorem RowG.all {L:Nat}{tag:Nat->Nat}{bs:List Blk}{i z:Nat}{es:List (List V)}{v:V}(h:RowG (Tg L bs.length tag i) bs z es v)(hi:i≠0):RowG (TgA L bs.length tag) bs z es v :=
 h.on fun x hx=>⟨⟨hx.1,hx.2.1,by rw [hx.2.2]; exact hi⟩,rfl⟩
section
variable {L0:Nat}{tag:Nat->Nat}{bs:List Blk}{d:Cfg}{pl:List (Pol×V)}{v4 v5 v6 v7:V}(S:OwnS L0 tag bs d pl v4 v5 v6 v7)
include S
theorem OwnS.hpol:∀ l:List (Pol×V),(∀ x∈l,x∈pl)->Hngs false (TgA L0 bs.length tag) bs 1 (l.map mY).flatten (l.map fun x=>(Cw x).c).flatten
 | [],_=>trivial
 | x::l,h=>by
  have ih:=OwnS.hpol l fun y hy=>h y (List.mem_cons_of_mem _ hy);have hr:=((S.r8 x (h x (by simp))).all (by decide)).hngD (f:=fun r:Rule=>r.own.c) (fun _=>rfl);have he:(Cw x).c=[u64 x.1.id,.str x.1.ns,u64 x.1.service,i64 x.1.deny,.slice (xG x.2) (x.1.rules.l.map fun r=>r.own.c)]:=by
   simp [Cw,Pol.c,Sl.d,cj]
  rw [cm,cm,List.flatten_cons,List.flatten_cons,he];exact Hngs.app ⟨Hng.data,Hng.data,Hng.data,Hng.data,hr,trivial⟩ ih
theorem OwnS.fz (bs2:List Blk)(lo2:Nat)(h:∀ x,L0<=x->x<bs.length->tag x≠0->bs2[x]?=bs[x]?):bW ⟨bs2,lo2⟩ (cq d v4 v5 v6 v7)=some (qD d pl v4 v5 v6 v7).c:=by
 have hK:∀ x,TgA L0 bs.length tag x->bs2[x]?=bs[x]?:=fun x hx=>h x hx.1 hx.2.1 hx.2.2;have h4:=(((S.r4.all (by decide)).hngD (f:=Pod.c) (fun _=>rfl)) bs2 lo2 hK 8 (by decide)).1;have h5:=(((S.r5.all (by decide)).hngD (f:=Svc.c) (fun _=>rfl)) bs2 lo2 hK 8 (by decide)).1;have h6:=(((S.r6.all (by decide)).hngD (f:=Way.c) (fun _=>rfl)) bs2 lo2 hK 8 (by decide)).1;have h7:=(((S.r7.all (by decide)).hng (k:=1) (S.hpol pl fun _ h=>h) (fun e he=>by obtain ⟨x,_,rfl⟩:=b9.1 he; rfl) (by simp)) bs2 lo2 hK 8 (by decide)).1;rw [dW h4 h5 h6 h7];simp [qD,Cfg.c,Sl.d,cj]
theorem OwnS.frz (bs2:List Blk)(lo2:Nat)(h:∀ x,L0<=x->x<bs.length->tag x≠0->bs2[x]?=bs[x]?):frz ⟨bs2,lo2⟩ (.agg (cq d v4 v5 v6 v7))=some (ag (qD d pl v4 v5 v6 v7).c):=by
 rw [nA,S.fz bs2 lo2 h]
theorem OwnS.nf:(qD d pl v4 v5 v6 v7).nf=d.nf:=by
 refine fE rfl rfl rfl rfl rfl rfl rfl ?_;simp [qD,S.pol,Cw,Pol.nf,Pol.own,Sl.nf,cj]
theorem OwnS.ok (hd:d.ok):(qD d pl v4 v5 v6 v7).ok:=by
 refine ⟨⟨hd.1.1,S.r4.nilT⟩,⟨hd.2.1.1,S.r5.nilT⟩,⟨hd.2.2.1.1,S.r6.nilT⟩,⟨?_,fun h=>?_⟩,fun p hp=>?_⟩
 · have:=hd.2.2.2.1.1;rw [S.pol] at this;simpa [qD] using this
 · have:=S.r7.nilT h;simp [qD,this]
 · obtain ⟨x,hx,rfl⟩:=b9.1 hp;have hm:x.1.own∈d.policies.l:=by rw [S.pol]; exact List.mem_map_of_mem hx
   have hf:=hd.2.2.2.2 _ hm;exact ⟨⟨hf.1.1,fun h=>by simp [Cw,(S.r8 x hx).nilT h]⟩,hf.2⟩
theorem OwnS.wf {B:Nat}(hd:d.wf B):(qD d pl v4 v5 v6 v7).wf B:=by
 obtain ⟨h1,h2,h3,h4,h5,h6,h7,h8⟩:=hd;refine ⟨h1,h2,h3,h4,⟨⟨h5.1.1,S.r4.nilT⟩,h5.2⟩,⟨⟨h6.1.1,S.r5.nilT⟩,h6.2⟩,⟨⟨h7.1.1,S.r6.nilT⟩,h7.2⟩,⟨⟨?_,fun h=>?_⟩,fun p hp=>?_⟩⟩
 · have:=h8.1.1;rw [S.pol] at this;simpa [qD] using this
 · have:=S.r7.nilT h;simp [qD,this]
 · obtain ⟨x,hx,rfl⟩:=b9.1 hp;have hm:x.1.own∈d.policies.l:=by rw [S.pol]; exact List.mem_map_of_mem hx
   obtain ⟨f1,f2,f3,f4,f5⟩:=h8.2 _ hm;exact ⟨f1,f2,f3,f4,⟨f5.1.1,fun h=>by simp [Cw,(S.r8 x hx).nilT h]⟩,f5.2⟩
end
def jc (n:Nat)(tag:Nat->Nat)(i:Nat):Nat->Nat:=fun x=>if x<n then tag x else i
theorem RowG.fresh {L0 n b i z:Nat}{tag:Nat->Nat}{bs0 b2:List Blk}{X:List V}{es:List (List V)}{r:V}(h:RowG (uj bs0 b2) b2 z es r)(hL:L0<=n)(hn:n<=bs0.length)(hb:b<n):RowG (Tg L0 (b2.set b (.cells X)).length (jc n tag i) i) (b2.set b (.cells X)) z es r :=
 h.on fun x hx=>⟨⟨by have:=hx.1; omega,by simpa using hx.2,if_neg (by have:=hx.1; omega)⟩,am (by have:=hx.1; omega)⟩
theorem II {α β:Type}{key:α->Int}{key':β->Int}{f:α->β}(hk:∀ x,key' (f x)=key x)(x:α)(l:List α):(dE key x l).map f=dE key' (f x) (l.map f):=by
 unfold dE;rw [List.map_mergeSort (s:=fun a b=>decide (key' a<=key' b)) (by intro a _ b _; simp [hk]),List.map_append,List.filter_map];simp [cj,hk]
theorem XZ {E:Calls'}(hE:AppG E){L0 b:Nat}{tag:Nat->Nat}{base:List Blk}{d:Cfg}{pl:List (Pol×V)}{v4 v5 v6 v7:V}(S:OwnS L0 tag base d pl v4 v5 v6 v7)(hb:af base b=some (cq d v4 v5 v6 v7))(htb:tag b=0)(hL:L0<=base.length)(hd:d.ok)(ho:Open d)(e:Edt)(he:e.pol.fits big)(lo:Nat) :
 ∃ bs' lo' tag' pl' w4 w5 w6 w7,Sm E TG cO 22 [.ptr b 0,ag e.c] ⟨base,lo⟩=some (.d (i64 (bK d e).2),⟨bs',lo'⟩)/\base.length<=bs'.length/\(∀ x,x<base.length->x≠b->bs'[x]?=base[x]?)/\af bs' b=some (cq (bK d e).1 w4 w5 w6 w7)/\OwnS L0 tag' bs' (bK d e).1 pl' w4 w5 w6 w7/\∀ x,x<base.length->tag' x=tag x:=by
 have hbl:=aI hb;have t91:TG 22=some q91:=by kernel_rfl
 have JM:TG 48=some wK:=by kernel_rfl
 have hlay:∀ (ys:List Blk) {i z:Nat} {es:List (List V)} {v:V},RowG (Tg L0 base.length tag i) base z es v->RowG (Tg L0 base.length tag i) (base++ys) z es v:=fun ys i z es v h=>h.on fun x hx=>⟨hx,ao hx.2.1⟩;have hold1:∀ {b2 ys:List Blk} {n:Nat},base.length<=n->(∀ x,x<n->b2[x]?=(base++ys)[x]?)->∀ x,x<base.length->b2[x]?=base[x]?:=fun hn h x hx=>(h x (by omega)).trans (ao hx);have hset:∀ {b2:List Blk} {X:List V},(∀ x,x<base.length->b2[x]?=base[x]?)->∀ x,x<base.length->x≠b->(b2.set b (.cells X))[x]?=base[x]?:=fun h x hx hne=>(am (Ne.symm hne)).trans (h x hx);have htag:∀ i x,x<base.length->jc base.length tag i x=tag x:=fun i x hx=>if_pos hx;have nxt:∀ (i:Nat) (b2:List Blk) (X:List V),base.length<=b2.length->(∀ x,x<base.length->b2[x]?=base[x]?)->OwnS L0 (jc base.length tag i) (b2.set b (.cells X)) d pl v4 v5 v6 v7:=fun i b2 X h1 h2 =>
  S.next (by simpa using h1) (fun x _ hx ht=>(am (by rintro rfl; exact ht htb)).trans (h2 x hx)) (htag i)
 have hpll:pl.length=d.policies.l.length:=by rw [S.pol]; simp
 have hpln:pl.map (fun x:Pol×V=>x.1.id)=d.policies.l.map Pol.id:=by rw [S.pol,List.map_map]; rfl
 have e1len:(base++[Blk.cells (e.c.map V.d)]).length=base.length+1:=by simp
 by_cases k1:e.kind=1
 · have hD:bK d e=(Ae d e.pod,0):=by simp [bK,k1]
   rw [hD];have hb1:af (base++[Blk.cells (e.c.map .d)]) b=some (cq d v4 v5 v6 v7):=ax hb;have hw:Ha E TG cO d.pods.l { e.pod with uid:=d.next } v4 ((base++[Blk.cells (e.c.map .d)]).set b (.cells (cq { d with next:=IntKind.wrap .u64 (d.next+1) } v4 v5 v6 v7))++[.cells (({ e.pod with uid:=d.next }:Pod).c.map .d)]) :=
    Rs hE d.pods.l ho.1 ho.2.1 { e.pod with uid:=d.next } (S.r4.on (K':=fun _=>True) fun x hx=>⟨trivial,by
     rw [ao (by simp; have:=hx.2.1; omega),am (by rintro rfl; have:=hx.2.2; omega),ao hx.2.1]⟩) _
   obtain ⟨B,cap,bs',lo3,rest,a,aB,aG,ab,al,alo,aO⟩:=Sb (E:=E) (T:=TG) (val:=cO) JM rfl d d.pods.l e.pod hb1 S.r4.ok2 hw;obtain ⟨lo2,a2,_⟩:=Sc (E:=E) (T:=TG) (val:=cO) t91 rfl e k1 lo hbl (show min base.length lo3<=b by omega) (a base.length);rw [e1len] at aB al aO;have ho':∀ x,x<base.length->x≠b->bs'[x]?=base[x]?:=fun x hx hne=>(aO x (by omega) hne).trans (ao hx);have T:OwnS L0 (jc base.length tag 4) bs' d pl v4 v5 v6 v7:=S.next (by omega) (fun x _ hx ht=>ho' x hx (by rintro rfl; exact ht htb)) (htag 4);exact ⟨bs',lo2,jc base.length tag 4,pl,_,v5,v6,v7,a2,by omega,ho',ab,⟨.inr ⟨B,cap,rest,⟨by omega,aI aG,if_neg (by omega)⟩,by simp [Ae],aG⟩,T.r5,T.r6,T.r7,T.r8,T.pol⟩,htag 4⟩
 by_cases k2:e.kind=2
 · have hD:bK d e=({ d with pods:=outT Pod.uid e.id d.pods },if jG Pod.uid e.id d.pods then 0 else 4):=by simp [bK,k2]
   rw [hD];obtain ⟨r,b2,lo2,q1,q2,q3,q4⟩:=Rl (E:=E) d.pods.l hd.1.1 e.id (hlay [Blk.cells (e.c.map .d)] S.r4) (base.length+1);rw [e1len] at q2 q3;obtain ⟨lo3,a,_⟩:=Sd (E:=E) (T:=TG) (val:=cO) t91 rfl d e k2 lo hb S.r4.ok2 q4.okv q1 q2 q3;have hq:=hold1 (by omega) q3;have T:=nxt 4 b2 (cq d r v5 v6 v7) (by omega) hq;exact ⟨_,lo3,jc base.length tag 4,pl,r,v5,v6,v7,a,by simp; omega,hset hq,aK (aX (hq b hbl) hb),⟨q4.fresh hL (by omega) hbl,T.r5,T.r6,T.r7,T.r8,T.pol⟩,htag 4⟩
 by_cases k3:e.kind=3
 · have h42:∀ x lo,Sm E TG cO 51 [.agg (cq d v4 v5 v6 v7),.d (u64 e.id)] ⟨base++[.cells (e.c.map .d),x],lo⟩=some (.tup (match d.pods.l.find? (fun p=>p.uid==e.id) with | some p=>[p.v,bl true] | none=>[pod0.v,bl false]),⟨base++[.cells (e.c.map .d),x],lo⟩):=fun x lo =>
    (bC (by kernel_rfl)).trans (hE.e42 (qD d pl v4 v5 v6 v7) e.id (S.ok hd) _ _ (S.frz _ _ fun y _ hy _=>ao hy))
   cases hf:d.pods.l.find? (fun p=>p.uid==e.id) with
   | none =>
    have hD:bK d e=(d,4):=by simp [bK,k3,hf]
    rw [hD];simp only [hf] at h42;have a:=NH (E:=E) (T:=TG) (val:=cO) t91 rfl d e k3 pod0 lo hb h42;exact ⟨base,lo,tag,pl,v4,v5,v6,v7,a,bp _,fun _ _ _=>rfl,hb,S,fun _ _=>rfl⟩
   | some p =>
    have hD:bK d e=(Ae { d with pods:=outT Pod.uid e.id d.pods } { p with host:=e.pod.host,addr:=e.pod.addr },0):=by simp [bK,k3,hf]
    rw [hD];simp only [hf] at h42;have e2len:(base++[Blk.cells (e.c.map V.d),Blk.cells (p.c.map V.d)]).length=base.length+2:=by simp
    obtain ⟨r,b2,lo2,q1,q2,q3,q4⟩:=Rl (E:=E) d.pods.l hd.1.1 e.id (hlay [Blk.cells (e.c.map .d),.cells (p.c.map .d)] S.r4) (base.length+2);rw [e2len] at q2 q3;have hq:=hold1 (by omega) q3;have hb2:=aX (hq b hbl) hb;have hlf:(d.pods.l.filter fun x=>!(Pod.uid x==e.id)).length<=d.pods.l.length:=List.length_filter_le _ _;have hnf:((d.pods.l.filter fun x=>!(Pod.uid x==e.id)).map Pod.uid).Nodup:=List.Pairwise.sublist (List.Sublist.map _ List.filter_sublist) ho.2.1;have hbM:af ((b2.set b (.cells (cq d r v5 v6 v7))).set (base.length+1) (.cells (({ p with host:=e.pod.host,addr:=e.pod.addr }:Pod).c.map .d))) b=some (cq d r v5 v6 v7):=(aS (by omega)).trans (aK hb2);have hMl:((b2.set b (.cells (cq d r v5 v6 v7))).set (base.length+1) (.cells (({ p with host:=e.pod.host,addr:=e.pod.addr }:Pod).c.map .d))).length=b2.length:=by simp
    have hMo:∀ x,x≠b->x≠base.length+1->((b2.set b (.cells (cq d r v5 v6 v7))).set (base.length+1) (.cells (({ p with host:=e.pod.host,addr:=e.pod.addr }:Pod).c.map .d)))[x]?=b2[x]?:=fun x h1 h2=>by
     rw [am (Ne.symm h2),am (Ne.symm h1)]
    generalize hM:(b2.set b (.cells (cq d r v5 v6 v7))).set (base.length+1) (.cells (({ p with host:=e.pod.host,addr:=e.pod.addr }:Pod).c.map .d))=M at hbM hMl hMo;have hw:Ha E TG cO (d.pods.l.filter fun x=>!(Pod.uid x==e.id)) { ({ p with host:=e.pod.host,addr:=e.pod.addr }:Pod) with uid:=d.next } r (M.set b (.cells (cq { d with next:=IntKind.wrap .u64 (d.next+1) } r v5 v6 v7))++[.cells (({ ({ p with host:=e.pod.host,addr:=e.pod.addr }:Pod) with uid:=d.next }:Pod).c.map .d)]) :=
     Rs hE _ (cd hlf ho.1) hnf _ (q4.on (K':=fun _=>True) fun x hx=>⟨trivial,by
      have h1:=hx.1;have h2:=hx.2;rw [e2len] at h1;rw [ao (by simp; omega),am (by omega),hMo x (by omega) (by omega)]⟩) _
    obtain ⟨B,cap,bs',lo3,rest,a,aB,aG,ab,al,alo,aO⟩:=Sb (E:=E) (T:=TG) (val:=cO) JM rfl d _ { p with host:=e.pod.host,addr:=e.pod.addr } hbM q4.ok2 hw;rw [← hM] at a;obtain ⟨lo4,a2,_⟩:=Sg (E:=E) (T:=TG) (val:=cO) t91 rfl d e k3 p lo hb S.r4.ok2 q4.okv h42 q1 q2 q3 a alo;have ho':∀ x,x<base.length->x≠b->bs'[x]?=base[x]?:=fun x hx hne=>((aO x (by omega) hne).trans (hMo x hne (by omega))).trans (hq x hx);have T:OwnS L0 (jc base.length tag 4) bs' d pl v4 v5 v6 v7:=S.next (by omega) (fun x _ hx ht=>ho' x hx (by rintro rfl; exact ht htb)) (htag 4);exact ⟨bs',lo4,jc base.length tag 4,pl,_,v5,v6,v7,a2,by omega,ho',ab,⟨.inr ⟨B,cap,rest,⟨by omega,aI aG,if_neg (by omega)⟩,by simp [Ae,outT],aG⟩,T.r5,T.r6,T.r7,T.r8,T.pol⟩,htag 4⟩
 by_cases k4:e.kind=4
 · have hD:bK d e=({ d with services:=⟨false,dE Svc.id e.svc d.services.l⟩ },0):=by simp [bK,k4]
   rw [hD];obtain ⟨B,cap,b2,lo2,rest,q1,q2,q3,q4⟩:=WZ hE d.services.l ho.2.2.1 ho.2.2.2.1 e.svc (hlay [Blk.cells (e.c.map .d)] S.r5) (base.length+1);rw [e1len] at q2 q4;have hBl:=aI q3;obtain ⟨lo3,a,_⟩:=Si (E:=E) (T:=TG) (val:=cO) t91 rfl d e k4 lo hb S.r5.ok2 ⟨rfl,rfl,rfl⟩ q1 (by omega) q4;have hq:=hold1 (by omega) q4;have T:=nxt 5 b2 (cq d v4 (.row B 0 (dE Svc.id e.svc d.services.l).length cap 5) v6 v7) (by omega) hq;have R:RowG (uj (base++[Blk.cells (e.c.map .d)]) b2) b2 5 ((dE Svc.id e.svc d.services.l).map sM) (.row B 0 (dE Svc.id e.svc d.services.l).length cap 5):=.inr ⟨B,cap,rest,⟨by omega,hBl⟩,by simp,q3⟩;exact ⟨_,lo3,jc base.length tag 5,pl,v4,_,v6,v7,a,by simp; omega,hset hq,aK (aX (hq b hbl) hb),⟨T.r4,R.fresh hL (by omega) hbl,T.r6,T.r7,T.r8,T.pol⟩,htag 5⟩
 by_cases k5:e.kind=5
 · have hD:bK d e=({ d with services:=outT Svc.id e.id d.services },if jG Svc.id e.id d.services then (if (d.pods.l.any fun p=>p.service==e.id)||(d.policies.l.any fun p=>p.service==e.id) then 5 else 0) else 4):=by simp [bK,k5]
   rw [hD];obtain ⟨r,b2,lo2,q1,q2,q3,q4⟩:=Xg (E:=E) d.services.l hd.2.1.1 e.id (hlay [Blk.cells (e.c.map .d)] S.r5) (base.length+1);rw [e1len] at q2 q3;have hge:af (base++[Blk.cells (e.c.map .d)]) base.length=some (e.c.map .d):=by simp
   have u0:=fun lo=>W9 (E:=E) d.pods.l hd.1.lt e base.length lo hge (hlay _ S.r4);have u1:=fun lo=>Xe (E:=E) pl (by rw [hpll]; exact hd.2.2.2.1.lt) e base.length lo hge (hlay _ S.r7);have hany:(pl.any fun p=>p.1.service==e.id)=d.policies.l.any fun p=>p.service==e.id:=by rw [S.pol,List.any_map]; rfl
   rw [hany] at u1;obtain ⟨lo3,a,_⟩:=Sj (E:=E) (T:=TG) (val:=cO) t91 rfl d e k5 lo hb S.r5.ok2 q4.okv u0 S.r4.ok2 u1 S.r7.ok2 q1 q2 q3;have hq:=hold1 (by omega) q3;have T:=nxt 5 b2 (cq d v4 r v6 v7) (by omega) hq;exact ⟨_,lo3,jc base.length tag 5,pl,v4,r,v6,v7,a,by simp; omega,hset hq,aK (aX (hq b hbl) hb),⟨T.r4,q4.fresh hL (by omega) hbl,T.r6,T.r7,T.r8,T.pol⟩,htag 5⟩
 by_cases k6:e.kind=6
 · have hD:bK d e=({ d with bound:=⟨false,dE Way.id e.way d.bound.l⟩ },0):=by simp [bK,k6]
   rw [hD];obtain ⟨B,cap,b2,lo2,rest,q1,q2,q3,q4⟩:=Xh hE d.bound.l ho.2.2.2.2.1 ho.2.2.2.2.2.1 e.way (hlay [Blk.cells (e.c.map .d)] S.r6) (base.length+1);rw [e1len] at q2 q4;have hBl:=aI q3;obtain ⟨lo3,a,_⟩:=Sk (E:=E) (T:=TG) (val:=cO) t91 rfl d e k6 lo hb S.r6.ok2 ⟨rfl,rfl,rfl⟩ q1 (by omega) q4;have hq:=hold1 (by omega) q4;have T:=nxt 6 b2 (cq d v4 v5 (.row B 0 (dE Way.id e.way d.bound.l).length cap 2) v7) (by omega) hq;have R:RowG (uj (base++[Blk.cells (e.c.map .d)]) b2) b2 2 ((dE Way.id e.way d.bound.l).map xz) (.row B 0 (dE Way.id e.way d.bound.l).length cap 2):=.inr ⟨B,cap,rest,⟨by omega,hBl⟩,by simp,q3⟩;exact ⟨_,lo3,jc base.length tag 6,pl,v4,v5,_,v7,a,by simp; omega,hset hq,aK (aX (hq b hbl) hb),⟨T.r4,T.r5,R.fresh hL (by omega) hbl,T.r7,T.r8,T.pol⟩,htag 6⟩
 by_cases k7:e.kind=7
 · have hD:bK d e=({ d with bound:=outT Way.id e.id d.bound },if jG Way.id e.id d.bound then (if (d.services.l.any fun p=>p.way==e.id) then 5 else 0) else 4):=by simp [bK,k7]
   rw [hD];obtain ⟨r,b2,lo2,q1,q2,q3,q4⟩:=Xk (E:=E) d.bound.l hd.2.2.1.1 e.id (hlay [Blk.cells (e.c.map .d)] S.r6) (base.length+1);rw [e1len] at q2 q3;have hge:af (base++[Blk.cells (e.c.map .d)]) base.length=some (e.c.map .d):=by simp
   have u0:=fun lo=>Xi (E:=E) d.services.l hd.2.1.lt e base.length lo hge (hlay _ S.r5);obtain ⟨lo3,a,_⟩:=Sn (E:=E) (T:=TG) (val:=cO) t91 rfl d e k7 lo hb S.r6.ok2 q4.okv u0 S.r5.ok2 q1 q2 q3;have hq:=hold1 (by omega) q3;have T:=nxt 6 b2 (cq d v4 v5 r v7) (by omega) hq;exact ⟨_,lo3,jc base.length tag 6,pl,v4,v5,r,v7,a,by simp; omega,hset hq,aK (aX (hq b hbl) hb),⟨T.r4,T.r5,q4.fresh hL (by omega) hbl,T.r7,T.r8,T.pol⟩,htag 6⟩
 by_cases k8:e.kind=8
 · have hD:bK d e=({ d with policies:=⟨false,dE Pol.id e.pol.own d.policies.l⟩ },0):=by simp [bK,k8]
   rw [hD];have h231:∀ r:Rule,r.fits big->∀ h,Sm E TG cO 96 [ag r.c] h=some (ag r.own.c,h):=fun r hr h=>(bC (by kernel_rfl)).trans (hE.e231 r hr h);obtain ⟨b1,lo1,rv,p1,A,al⟩:=Sa (E:=E) (T:=TG) (val:=cO) (by kernel_rfl) rfl (by kernel_rfl) rfl h231 e.pol he (base++[Blk.cells (e.c.map .d)]) (base.length+1);have Al:=A.len;have Ao:=A.old;have hl1:=al (base.length+1) (bp _) (by simp);rw [e1len] at Al Ao;have hq1:=hold1 (by omega) Ao;obtain ⟨B,cap,b2,lo2,rest,q1,q2,q3,q4⟩:=Xl hE pl (by rw [hpll]; exact ho.2.2.2.2.2.2.1) (by rw [hpln]; exact ho.2.2.2.2.2.2.2) (e.pol,rv) (S.r7.on (K':=fun _=>True) (bs':=b1) fun x hx=>⟨trivial,hq1 x hx.2.1⟩) b1.length;have hBl:=aI q3;obtain ⟨lo3,a,_⟩:=Sq (E:=E) (T:=TG) (val:=cO) t91 rfl d e k8 lo hb S.r7.ok2 ⟨rfl,rfl,rfl⟩ p1 hl1 Al Ao q1 (by omega) q4;have hq:∀ x,x<base.length->b2[x]?=base[x]?:=fun x hx=>(q4 x (by omega)).trans (hq1 x hx);generalize hX:cq d v4 v5 v6 (.row B 0 (dE (fun x:Pol×V=>x.1.id) (e.pol,rv) pl).length cap 5)=X at a;have ht:∀ x,x<base.length->(fun x=>if x<base.length then tag x else if x<b1.length then 8 else 7) x=tag x:=fun x hx=>if_pos hx;have T:OwnS L0 (fun x=>if x<base.length then tag x else if x<b1.length then 8 else 7) (b2.set b (.cells X)) d pl v4 v5 v6 v7:=S.next (by simp; omega) (fun x _ hx ht=>(am (by rintro rfl; exact ht htb)).trans (hq x hx)) ht
   have R8:RowG (Tg L0 (b2.set b (.cells X)).length (fun x=>if x<base.length then tag x else if x<b1.length then 8 else 7) 8) (b2.set b (.cells X)) 3 (e.pol.rules.l.map fun r=>r.own.c.map V.d) rv:=by
    rcases A.is with ⟨h1,h2⟩ | ⟨h1,c,h2,h3,h4⟩
    · exact .inl ⟨by simpa using h1,h2⟩
    · rw [e1len] at h2;have hc:=aI h4;refine .inr ⟨c,none,[],⟨by omega,by simp; omega,?_⟩,by simpa using h3,?_⟩
      · show (if c<base.length then tag c else if c<b1.length then 8 else 7)=8;rw [if_neg (by omega),if_pos hc]
      · rw [aS (by omega)];have:=aX (q4 c hc) h4;rw [this,List.append_nil];simp [flat,Vr.flat,List.map_flatten,cj]
   refine ⟨b2.set b (.cells X),lo3,_,dE (fun x:Pol×V=>x.1.id) (e.pol,rv) pl,v4,v5,v6,.row B 0 (dE (fun x:Pol×V=>x.1.id) (e.pol,rv) pl).length cap 5,a,by simp; omega,hset hq,?_,⟨T.r4,T.r5,T.r6,.inr ⟨B,cap,rest,⟨by omega,by simpa using hBl,?_⟩,by simp,?_⟩,fun x hx=>?_,?_⟩,ht⟩
   · rw [aK (aX (hq b hbl) hb),← hX]; rfl
   · show (if B<base.length then tag B else if B<b1.length then 8 else 7)=7;rw [if_neg (by omega),if_neg (by omega)]
   · rw [aS (by omega)]; exact q3
   · rcases BH hx with rfl | hx
     · exact R8
     · exact T.r8 x hx.1
   · show dE Pol.id e.pol.own d.policies.l=_;rw [II (key:=fun x:Pol×V=>x.1.id) (key':=Pol.id) (f:=fun x:Pol×V=>x.1.own) (fun _=>rfl),S.pol]
 by_cases k9:e.kind=9
 · have hD:bK d e=({ d with policies:=outT Pol.id e.id d.policies },if jG Pol.id e.id d.policies then 0 else 4):=by simp [bK,k9]
   rw [hD];obtain ⟨r,b2,lo2,q1,q2,q3,q4⟩:=Xm (E:=E) pl (by rw [hpll]; exact hd.2.2.2.1.1) e.id (hlay [Blk.cells (e.c.map .d)] S.r7) (base.length+1);rw [e1len] at q2 q3;have hfl:d.policies.l.filter (fun x=>!(Pol.id x==e.id))=(pl.filter fun x=>!(x.1.id==e.id)).map fun x=>x.1.own:=by
    rw [S.pol,List.filter_map]; rfl
   have hls:decide ((pl.filter fun x:Pol×V=>!(x.1.id==e.id)).length<pl.length)=jG Pol.id e.id d.policies:=by
    unfold jG;rw [hfl,hpll,bx]
   rw [hls] at q1;obtain ⟨lo3,a,_⟩:=Sr (E:=E) (T:=TG) (val:=cO) t91 rfl d e k9 lo hb S.r7.ok2 q4.okv q1 q2 q3;have hq:=hold1 (by omega) q3;have T:=nxt 7 b2 (cq d v4 v5 v6 r) (by omega) hq;exact ⟨_,lo3,jc base.length tag 7,_,v4,v5,v6,r,a,by simp; omega,hset hq,aK (aX (hq b hbl) hb),⟨T.r4,T.r5,T.r6,q4.fresh hL (by omega) hbl,fun x hx=>T.r8 x (List.mem_filter.1 hx).1,hfl⟩,htag 7⟩
 have hD:bK d e=(d,1):=by simp [bK,k1,k2,k3,k4,k5,k6,k7,k8,k9]
 rw [hD];have a:=Su (E:=E) (T:=TG) (val:=cO) t91 rfl e (b:=b) (base:=base) (fun k h1 h2 hk=>by omega) lo;exact ⟨base,lo,tag,pl,v4,v5,v6,v7,a,bp _,fun _ _ _=>rfl,hb,S,fun _ _=>rfl⟩
end
section
theorem Fz {α:Type}(f:α->List D)(l:List α):flat (l.map f)=Vr.flat (l.map fun x=>(f x).map V.d):=by
 simp [flat,Vr.flat,List.map_flatten,cj]
theorem Row1.g {α:Type}{f:α->List D}{l:List α}{L M L0 i z:Nat}{tag:Nat->Nat}{bs:List Blk}{v:V}(h:Row1 L M bs z (l.map f) v)(hL:L0<=L)(hM:M<=bs.length)(ht:∀ x,L<=x->x<M->tag x=i):RowG (Tg L0 bs.length tag i) bs z (l.map fun x=>(f x).map V.d) v:=by
 rcases h.2 with ⟨h1,h2⟩ | ⟨b,cap,h1,h2,h3,h4,_⟩
 · exact .inl ⟨by simpa using h1,h2⟩
 · exact .inr ⟨b,cap,[],⟨by omega,by omega,ht b h1 h2⟩,by simpa using h3,by rw [h4,Fz,List.append_nil]⟩
theorem EJ {Lq Mq:Nat}{bs:List Blk}:∀ (l:List Pol) (css:List (List V)),css.length=l.length->(∀ (j:Nat) (p:Pol),l[j]?=some p->∃ cs,css[j]?=some cs/\RulV Lq Mq bs p cs) →
 ∃ pl:List (Pol×V),pl.map mY=css/\pl.map Prod.fst=l/\∀ x∈pl,Row1 Lq Mq bs 3 (x.1.rules.l.map fun r=>r.own.c) x.2
 | [],[],_,_=>⟨[],rfl,rfl,by simp⟩
 | [],_::_,h,_=>by simp at h
 | _::_,[],h,_=>by simp at h
 | p::l,cs::css,h,hr=>by
  obtain ⟨pl,h1,h2,h3⟩:=EJ l css (by simpa using h) fun j q hj=>hr (j+1) q (by simpa using hj);obtain ⟨cs',q1,rv,q2,q3,_⟩:=hr 0 p (by simp);have:cs=cs':=by simpa using q1
  subst this;refine ⟨(p,rv)::pl,by simp [mY,q2,h1],by simp [h2],fun x hx=>?_⟩;rcases List.mem_cons.1 hx with rfl | hx
  · exact q3
  · exact h3 x hx
theorem uO {z:Nat}:∀ {es:List (List V)} {rest:List V},(∀ e∈es,e.length=z)->∀ {i j:Nat} {e:List V},es[i]?=some e->j<z->(Vr.flat es++rest)[i * z+j]?=e[j]?
 | [],_,_,_,_,_,h,_=>by simp at h
 | a::es,rest,hz,0,j,e,h,hj=>by
  have:a=e:=by simpa using h
  subst this;have ha:=hz a (by simp);rw [Vr.flat_cons,List.append_assoc,ao (by omega)]
  congr 1
  omega
 | a::es,rest,hz,i+1,j,e,h,hj=>by
  have ha:=hz a (by simp);have ih:=uO (es:=es) (rest:=rest) (fun x hx=>hz x (by simp [hx])) (i:=i) (j:=j) (e:=e) (by simpa using h) hj;rw [Vr.flat_cons,List.append_assoc,bk (by rw [ha,Nat.add_mul]; omega),← ih]
  congr 1
  rw [ha,Nat.add_mul];omega
theorem RowG.idRow {α:Type}{f:α->List V}{l:List α}{K:Nat->Prop}{bs:List Blk}{z:Nat}{v:V}(h:RowG K bs z (l.map f) v)(hz:∀ x,(f x).length=z)(hz0:0<z)(hk:∀ x,∃ n,(f x)[0]?=some (.d (u64 n)))(hl:l.length<2 ^ 62):IdRow K bs z v:=by
 rcases h with ⟨h1,rfl⟩ | ⟨b,cap,rest,h1,rfl,h3⟩
 · exact .inl ⟨true,rfl⟩
 · refine .inr ⟨b,l.length,cap,_,h1,by simp,hl,h3,fun i hi=>?_⟩;obtain ⟨n,hn⟩:=hk l[i];refine ⟨n,?_⟩;have:=uO (rest:=rest) (es:=l.map f) (z:=z) (by simp; intro a _; exact hz a) (i:=i) (j:=0) (e:=f l[i]) (by simp [hi]) hz0;rw [← hn,← this];simp
theorem uH {L M:Nat}{bs:List Blk}(hl:L<=M)(h:M<=bs.length):Spoils L M bs z8:=⟨rfl,hl,h,fun _=>0,_,_,_,_,rfl,rfl,rfl,rfl,.inl ⟨true,rfl⟩,.inl ⟨true,rfl⟩,.inl ⟨true,rfl⟩,.inl ⟨true,rfl⟩⟩
theorem OwnS.spoils {L0:Nat}{tag:Nat->Nat}{bs:List Blk}{d:Cfg}{pl:List (Pol×V)}{v4 v5 v6 v7:V}(S:OwnS L0 tag bs d pl v4 v5 v6 v7)(hd:d.ok)(hL:L0<=bs.length):Spoils L0 bs.length bs (cq d v4 v5 v6 v7):=by
 have hpll:pl.length=d.policies.l.length:=by rw [S.pol]; simp
 refine ⟨rfl,hL,bp _,tag,v4,v5,v6,v7,rfl,rfl,rfl,rfl,S.r4.idRow (fun _=>rfl) (by decide) (fun x=>⟨x.uid,rfl⟩) hd.1.lt,S.r5.idRow (fun _=>rfl) (by decide) (fun x=>⟨x.id,rfl⟩) hd.2.1.lt,S.r6.idRow (fun _=>rfl) (by decide) (fun x=>⟨x.id,rfl⟩) hd.2.2.1.lt,?_⟩;rcases S.r7 with ⟨h1,h2⟩ | ⟨b,cap,rest,h1,h2,h3⟩
 · exact .inl ⟨true,h2⟩
 · have hcl:∀ e∈pl.map mY,e.length=5:=fun e he=>by obtain ⟨x,_,rfl⟩:=b9.1 he; rfl
   refine .inr ⟨b,pl.length,cap,_,⟨h1.1,h1.2.1,.inl h1.2.2⟩,by simpa using h2,by rw [hpll]; exact hd.2.2.2.1.lt,h3,fun i hi=>?_,fun i hi=>?_⟩
   · have:=uO (rest:=rest) hcl (i:=i) (j:=0) (e:=mY pl[i]) (by simp [hi]) (by decide);have h2:(mY pl[i])[0]?=some (.d (u64 pl[i].1.id)):=rfl;exact ⟨pl[i].1.id,by rw [← h2,← this]; simp⟩
   · have:=uO (rest:=rest) hcl (i:=i) (j:=4) (e:=mY pl[i]) (by simp [hi]) (by decide);have hm:=bh hi;generalize pl[i]=x at *;refine ⟨x.2,this,?_⟩;have ho:x.1.own∈d.policies.l:=by rw [S.pol]; exact List.mem_map_of_mem hm
     have hf:=(hd.2.2.2.2 _ ho).1.1;simp only [Pol.own,bx] at hf;rcases S.r8 x hm with ⟨q1,q2⟩ | ⟨b',cap',rest',q1,q2,q3⟩
     · exact .inl ⟨true,q2⟩
     · refine .inr ⟨b',x.1.rules.l.length,cap',_,⟨q1.1,q1.2.1,.inr q1.2.2⟩,?_,by simpa using q2,cd hf (by decide),q3,?_⟩
       · rintro rfl;have e1:=q1.2.2;have e2:=h1.2.2;omega
       · rw [ap,Vr.flat_len (z:=3) (by intro e he; obtain ⟨r,_,rfl⟩:=b9.1 he; rfl)];simp
theorem OwnS.none {L0:Nat}{tag:Nat->Nat}{bs:List Blk}{d:Cfg}{pl:List (Pol×V)}{v4 v5 v6 v7:V}(S:OwnS L0 tag bs d pl v4 v5 v6 v7){n:Nat}(hn:n<=L0)(h4:v4.under n=true)(h5:v5.under n=true)(h6:v6.under n=true)(h7:v7.under n=true)(L1:Nat)(tag1:Nat->Nat)(bs1:List Blk):OwnS L1 tag1 bs1 d pl v4 v5 v6 v7:=by
 have row:∀ {i z:Nat} {es:List (List V)} {v:V},RowG (Tg L0 bs.length tag i) bs z es v->v.under n=true->es=[]/\v=.d (.slice true []):=fun h hu=>by
  rcases h with h | ⟨b,cap,rest,h1,rfl,h3⟩
  · exact h
  · have:=h1.1;simp [V.under] at hu;omega
 have hpl:pl=[]:=by simpa using (row S.r7 h7).1
 exact ⟨.inl (row S.r4 h4),.inl (row S.r5 h5),.inl (row S.r6 h6),.inl (row S.r7 h7),by rw [hpl]; simp,S.pol⟩
theorem cs0 {c:Cfg}{a b d e:V}:sub (cq c a b d e) 0 1=some [.d (u64 c.epoch)]:=(rfl)
structure AppG2 (E:Calls'):Prop extends AppG E where
 e41:∀ c:Cfg,c.wf 1048576->c.wf big->∀ h,E 20 [c.v] h=some (bl (df c),h)
 e92:∀ (c:Cfg) a h,frz h a=some (ag c.c)->E 23 [a] h=some (bl (bT c),h)
 e93:∀ c:Cfg,c.wf 1048576->c.wf big->∀ a h,frz h a=some (ag c.c)->E 24 [a] h=some (bl (gP c),h)
 e94:∀ c:Cfg,c.wf big->(∀ p∈c.policies.l,ed p=true)->(bz c).length<=big->∀ a h,frz h a=some (ag c.c)->E 25 [a] h=some (.d (bytesD (bz c)),h)
section
variable {E:Calls'}
def GY (E:Calls')(c:Cfg)(e:Edt)(bs:List Blk)(lo:Nat)(r:Cfg)(k:Int):Prop :=
 ∃ bs' lo' cells,∃ d:Cfg,Sm E TG cO 9 [c.v,ag e.c] ⟨bs,lo⟩=some (.tup [.agg cells,.d (i64 k)],⟨bs',lo'⟩)/\(∀ x,x<bs.length->bs'[x]?=bs[x]?)/\bs.length<=bs'.length/\Spoils bs.length bs'.length bs' cells ∧
  (∀ b2 lo2,(∀ x,bs.length<=x->x<bs'.length->b2[x]?=bs'[x]?)->bW ⟨b2,lo2⟩ cells=some d.c)/\d.ok/\d.nf=r.nf
theorem Vs:TG 9=some q36:=by kernel_rfl
theorem pR {c:Cfg}{e:Edt}{bs B:List Blk}{k:Int}(hB:(Bd E TG cO q36 [c.v,ag e.c] ⟨bs,bs.length⟩).map (fun o=>(o.1,o.2.bs))=some (.tup [.agg z8,.d (i64 k)],B))(hl:bs.length<=B.length)(ho:∀ x,x<bs.length->B[x]?=bs[x]?)(lo:Nat):GY E c e bs lo cfg0 k:=by
 have hok:cfg0.ok:=⟨⟨by decide,fun _=>rfl⟩,⟨by decide,fun _=>rfl⟩,⟨by decide,fun _=>rfl⟩,⟨by decide,fun _=>rfl⟩,by simp [cfg0]⟩;cases hbd:Bd E TG cO q36 [c.v,ag e.c] ⟨bs,bs.length⟩ with
 | none=>rw [hbd] at hB; cases hB
 | some o =>
  obtain ⟨v,bs3,lo3⟩:=o;rw [hbd] at hB;simp only [Option.map_some,bd,co] at hB;obtain ⟨rfl,rfl⟩:=hB;have hS:∀ lo,Sm E TG cO 9 [c.v,ag e.c] ⟨bs,lo⟩=dU ⟨bs,lo⟩ (some (.tup [.agg z8,.d (i64 k)],⟨bs3,lo3⟩)):=fun lo=>by
   rw [aN Vs rfl];show dU ⟨bs,lo⟩ (Bd E TG cO q36 [c.v,ag e.c] ⟨bs,bs.length⟩)=_;rw [hbd]
  by_cases hc:bs.length<=lo3/\(V.tup [.agg z8,.d (i64 k)]).under bs.length=true
  · exact ⟨bs,lo,z8,cfg0,by rw [hS,bY,if_pos hc],fun _ _=>rfl,bp _,uH (bp _) (bp _),fun _ _ _=>rfl,hok,rfl⟩
  · exact ⟨bs3,min lo lo3,z8,cfg0,by rw [hS,bY,if_neg hc],ho,hl,uH hl (bp _),fun _ _ _=>rfl,hok,rfl⟩
theorem Oe {c:Cfg}{e:Edt}{bs B:List Blk}{tag:Nat->Nat}{d r:Cfg}{pl:List (Pol×V)}{v4 v5 v6 v7:V}(hB:(Bd E TG cO q36 [c.v,ag e.c] ⟨bs,bs.length⟩).map (fun o=>(o.1,o.2.bs))=some (.tup [.agg (cq d v4 v5 v6 v7),.d (i64 0)],B))(hl:bs.length<=B.length)(ho:∀ x,x<bs.length->B[x]?=bs[x]?)(S:OwnS bs.length tag B d pl v4 v5 v6 v7)(hd:d.ok)(hn:d.nf=r.nf)(lo:Nat):GY E c e bs lo r 0:=by
 cases hbd:Bd E TG cO q36 [c.v,ag e.c] ⟨bs,bs.length⟩ with
 | none=>rw [hbd] at hB; cases hB
 | some o =>
  obtain ⟨v,bs3,lo3⟩:=o;rw [hbd] at hB;simp only [Option.map_some,bd,co] at hB;obtain ⟨rfl,rfl⟩:=hB;have hS:∀ lo,Sm E TG cO 9 [c.v,ag e.c] ⟨bs,lo⟩=dU ⟨bs,lo⟩ (some (.tup [.agg (cq d v4 v5 v6 v7),.d (i64 0)],⟨bs3,lo3⟩)):=fun lo=>by
   rw [aN Vs rfl];show dU ⟨bs,lo⟩ (Bd E TG cO q36 [c.v,ag e.c] ⟨bs,bs.length⟩)=_;rw [hbd]
  by_cases hc:bs.length<=lo3/\(V.tup [.agg (cq d v4 v5 v6 v7),.d (i64 0)]).under bs.length=true
  · have hu:=hc.2;simp [V.under,V.under.go,cq] at hu;have T:=S.none (bp _) hu.1 hu.2.1 hu.2.2.1 hu.2.2.2 bs.length tag bs;exact ⟨bs,lo,_,_,by rw [hS,bY,if_pos hc],fun _ _=>rfl,bp _,T.spoils hd (bp _),fun b2 lo2 _=>T.fz b2 lo2 (fun x h1 h2 _=>by omega),T.ok hd,T.nf.trans hn⟩
  · exact ⟨bs3,min lo lo3,_,_,by rw [hS,bY,if_neg hc],ho,hl,S.spoils hd hl,fun b2 lo2 h=>S.fz b2 lo2 (fun x h1 h2 _=>h x h1 h2),S.ok hd,S.nf.trans hn⟩
theorem P36 (hE:AppG2 E)(c:Cfg)(hc:c.wf 1048576)(hcb:c.wf big)(e:Edt)(he:e.wf 1048576)(heb:e.wf big)(bs:List Blk)(lo:Nat):GY E c e bs lo (iZ c e).1 (iZ c e).2:=by
 have n41:=fun h=>(bC (E:=E) (T:=TG) (val:=cO) (f:=20) (by kernel_rfl)).trans (hE.e41 c hc hcb h);have z8e:z8=[.d (.int .u64 0),.d (.int .u64 0),.d (i64 0),.d (i64 0),.d (.slice true []),.d (.slice true []),.d (.slice true []),.d (.slice true [])]:=rfl;cases hm:df c with
 | false =>
  simp only [hm] at n41;have:iZ c e=(cfg0,1):=by simp [iZ,hm]
  rw [this];refine pR (B:=bs++[.cells (c.c.map .d),.cells (e.c.map .d),.cells z8]) ?_ (by simp) (fun x hx=>ao hx) lo;simp +decide [ae,q36,n41,ai,aa,av,z8e]
 | true =>
  simp only [hm] at n41;have hsm:bT c.own=true:=by
   simp only [df,aq] at hm;have hso:bT c.own=bT c:=by unfold bT; simp only [Cfg.own,bx]; rfl
   rw [hso]; exact hm.1.1
  have hok:=hc.ok (by decide);have w1:=AQ (Cfg.own_wf hc) he (by decide) hsm;have w2:=AQ (Cfg.own_wf hcb) heb (by decide) hsm;have hA:iZ c e=(if (bK c.own e).2≠0 then (cfg0,(bK c.own e).2)
   else if mM c (bK c.own e).1=true then (cfg0,3)
   else if gP (dK (bK c.own e).1)=false then (cfg0,1)
   else if (bz (dK (bK c.own e).1)).length>8192 then (cfg0,6)
   else (dK (bK c.own e).1,0)):=by simp [iZ,hm]
  rw [hA];clear hA;have h231:∀ r:Rule,r.fits big->∀ h,Sm E TG cO 96 [ag r.c] h=some (ag r.own.c,h):=fun r hr h=>(bC (by kernel_rfl)).trans (hE.e231 r hr h);obtain ⟨bs1,lo1,v4,v5,v6,v7,L1,L2,L3,Lq,n90,k1,k2,k3,k4,k5,k6,k7,r4,r5,r6,r7⟩:=P90 (E:=E) (T:=TG) (val:=cO) (by kernel_rfl) rfl (by kernel_rfl) rfl (by kernel_rfl) rfl (by kernel_rfl) rfl (by kernel_rfl) rfl (by kernel_rfl) rfl (by kernel_rfl) rfl h231 c hok (bs++[.cells (c.c.map .d),.cells (e.c.map .d),.cells z8]) bs.length;have hlen0:(bs++[Blk.cells (c.c.map V.d),.cells (e.c.map .d),.cells z8]).length=bs.length+3:=by simp
  rw [hlen0] at k1 k2 k3 r4;have g1:af bs1 bs.length=some (c.c.map .d):=aX (k1 _ (by omega)) (by simp);have g2:af bs1 (bs.length+1)=some (e.c.map .d):=aX (k1 _ (by omega)) (by simp);have g3:af bs1 (bs.length+2)=some z8:=aX (k1 _ (by omega)) (by simp)
  let tag:Nat->Nat:=fun x=>if x<bs.length+3 then 0 else if x<L1 then 4 else if x<L2 then 5 else if x<L3 then 6 else if x<Lq then 7 else if x<bs1.length then 8 else 0
  have ht:∀ x i,tag x=i↔(if x<bs.length+3 then 0 else if x<L1 then 4 else if x<L2 then 5 else if x<L3 then 6 else if x<Lq then 7 else if x<bs1.length then 8 else 0)=i:=fun x i=>Iff.rfl;have S1:∃ pl,OwnS bs.length tag bs1 c.own pl v4 v5 v6 v7:=by
   have q4:RowG (Tg bs.length bs1.length tag 4) bs1 7 (c.pods.l.map uI) v4:=r4.g (by omega) (by omega) fun x h1 h2=>by rw [ht,if_neg (by omega),if_pos h2]
   have q5:RowG (Tg bs.length bs1.length tag 5) bs1 5 (c.services.l.map sM) v5:=r5.g (by omega) (by omega) fun x h1 h2=>by rw [ht,if_neg (by omega),if_neg (by omega),if_pos h2]
   have q6:RowG (Tg bs.length bs1.length tag 6) bs1 2 (c.bound.l.map xz) v6:=r6.g (by omega) (by omega) fun x h1 h2=>by rw [ht,if_neg (by omega),if_neg (by omega),if_neg (by omega),if_pos h2]
   rcases r7 with ⟨h1,h2⟩ | ⟨b,cap,css,h1,h2,h3,h4,h5,h6,h7⟩
   · exact ⟨[],q4,q5,q6,.inl ⟨rfl,h2⟩,by simp,by simp [Cfg.own,h1]⟩
   · obtain ⟨pl,p1,p2,p3⟩:=EJ _ _ h5 h7;have hpll:pl.length=c.policies.l.length:=by rw [← p2]; simp
     refine ⟨pl,q4,q5,q6,.inr ⟨b,cap,[],⟨by omega,by omega,?_⟩,by simpa [hpll] using h3,?_⟩,fun x hx=>(p3 x hx).g (by omega) (bp _) fun y h1 h2=>?_,?_⟩
     · rw [ht,if_neg (by omega),if_neg (by omega),if_neg (by omega),if_neg (by omega),if_pos h2]
     · rw [h4,p1,List.append_nil]; rfl
     · rw [ht,if_neg (by omega),if_neg (by omega),if_neg (by omega),if_neg (by omega),if_neg (by omega),if_pos h2]
     · show c.policies.l.map Pol.own=_;rw [← p2,List.map_map]; rfl
  obtain ⟨pl1,S1⟩:=S1;have S2:OwnS bs.length tag (bs1++[.cells (cq c v4 v5 v6 v7)]) c.own pl1 v4 v5 v6 v7:=S1.next (by simp) (fun x _ hx _=>ao hx) fun _ _=>rfl;have htM:tag bs1.length=0:=by
   rw [ht,if_neg (by omega),if_neg (by omega),if_neg (by omega),if_neg (by omega),if_neg (by omega),if_neg (by omega)]
  obtain ⟨bs2,lo2,tag2,pl2,w4,w5,w6,w7,n91,m1,m2,m3,S3,m4⟩:=XZ hE.toAppG S2 (b:=bs1.length) (by rw [di]; rfl) htM (by simp; omega) (Cfg.own_wf hcb |>.ok (bp _)) (GX hm) e (heb.2.2.2.2.2.fits) (min lo1 bs1.length);have hl1:(bs1++[Blk.cells (cq c v4 v5 v6 v7)]).length=bs1.length+1:=by simp
  rw [hl1] at m1 m2 m4;have hold:∀ x,x<bs1.length->bs2[x]?=bs1[x]?:=fun x hx=>(m2 x (by omega) (by omega)).trans (ao hx);have j1:af bs2 bs.length=some (c.c.map .d):=aX (hold _ (by omega)) g1;have j3:af bs2 (bs.length+2)=some z8:=aX (hold _ (by omega)) g3;have t2:∀ x,x<bs.length+3->tag2 x=0:=fun x hx=>by rw [m4 x (by omega),ht,if_pos hx]
  have tM:tag2 bs1.length=0:=(m4 _ (by omega)).trans htM;generalize hd:(bK c.own e).1=d at *;generalize hf:(bK c.own e).2=f at *;have okd:d.ok:=w2.ok (bp _);have wn1:(dK d).wf 1048576:=⟨lX _,w1.2⟩;have wn2:(dK d).wf big:=⟨lX _,w2.2⟩;have S4:OwnS bs.length tag2 bs2 (dK d) pl2 w4 w5 w6 w7:=⟨S3.r4,S3.r5,S3.r6,S3.r7,S3.r8,S3.pol⟩;have n92:=fun lo=>(bC (E:=E) (T:=TG) (val:=cO) (f:=23) (by kernel_rfl)).trans (hE.e92 _ _ _ (S3.frz bs2 lo fun _ _ _ _=>rfl));rw [kU S3.nf] at n92;have hM2:∀ lo,frz ⟨bs2.set bs1.length (.cells (cq (dK d) w4 w5 w6 w7)),lo⟩ (.agg (cq (dK d) w4 w5 w6 w7))=some (ag (qD (dK d) pl2 w4 w5 w6 w7).c):=fun lo=>S4.frz _ lo fun x _ _ hx=>am (by rintro rfl; exact hx tM);have n93:=fun lo=>(bC (E:=E) (T:=TG) (val:=cO) (f:=24) (by kernel_rfl)).trans (hE.e93 _ (S4.wf wn1) (S4.wf wn2) _ _ (hM2 lo));rw [nH S4.nf] at n93;have hnx:put (cq d w4 w5 w6 w7) 0 [.d (u64 (IntKind.wrap .u64 (d.epoch+1)))]=some (cq (dK d) w4 w5 w6 w7):=(rfl);have y1:∀ X,af (bs2.set bs1.length (.cells X)) bs1.length=some X:=fun X=>aK m3;have y2:∀ X,af (bs2.set bs1.length (.cells X)) (bs.length+2)=some z8:=fun X=>(aS (by omega)).trans j3;have y3:∀ X Y,af ((bs2.set bs1.length (.cells X)).set (bs.length+2) (.cells Y)) (bs.length+2)=some Y:=fun X Y=>aK (y2 X);have hp0:put z8 0 z8=some z8:=rfl
  have hpz:∀ x:Cfg,put z8 0 (cq x w4 w5 w6 w7)=some (cq x w4 w5 w6 w7):=fun x=>rfl;have z8l:z8.length=8:=rfl;have z8s:sub z8 0 8=some z8:=rfl;have hfl:∀ X Y,bs.length<=((bs2.set bs1.length (.cells X)).set (bs.length+2) (.cells Y)).length:=fun X Y=>by simp; omega
  have hfo:∀ X Y x,x<bs.length->((bs2.set bs1.length (.cells X)).set (bs.length+2) (.cells Y))[x]?=bs[x]?:=fun X Y x hx=>by
   rw [am (by omega),am (by omega),hold x (by omega),k1 x (by omega),ao hx]
  have e1:af (bs1++[.cells (cq c v4 v5 v6 v7)]) (bs.length+1)=some (e.c.map .d):=ax g2;have U:=And.intro S1.r4.ok2 (And.intro S1.r5.ok2 (And.intro S1.r6.ok2 (And.intro S1.r7.ok2 (And.intro S3.r4.ok2 (And.intro S3.r5.ok2 (And.intro S3.r6.ok2 S3.r7.ok2))))));simp only [z8e] at n90 g3 j3 y2;have G:=And.intro hnx (And.intro g1 (And.intro g2 (And.intro g3 (And.intro e1 (And.intro j1 (And.intro j3 (And.intro m3 (And.intro y1 (And.intro y2 y3)))))))));by_cases k1:f=0
  case neg =>
   rw [if_pos k1];refine pR (B:=(bs2.set bs1.length (.cells (cq (dK d) w4 w5 w6 w7))).set (bs.length+2) (.cells z8)) ?_ (hfl _ _) (hfo _ _) lo;by_cases a1:c.epoch>=4611686018427387903
   · simp +decide [ae,q36,n41,n90,n91,n92,k1,a1,G,z8e,cs0,cqs,cqz,U,ai,aa,av,az]
   · by_cases a2:d.next>4611686018427387904
     · simp +decide [ae,q36,n41,n90,n91,n92,k1,a1,a2,G,z8e,cs0,cqs,cqz,U,ai,aa,av,az]
     · simp +decide [ae,q36,n41,n90,n91,n92,k1,a1,a2,G,z8e,cs0,cqs,cqz,U,ai,aa,av,az]
  subst k1;rw [if_neg (by decide)];by_cases a1:c.epoch>=4611686018427387903
  · have hfu:mM c d=true:=by simp [mM,a1]
    rw [if_pos hfu];refine pR (B:=(bs2.set bs1.length (.cells (cq (dK d) w4 w5 w6 w7))).set (bs.length+2) (.cells z8)) ?_ (hfl _ _) (hfo _ _) lo;simp +decide [ae,q36,n41,n90,n91,n92,a1,G,z8e,cs0,cqs,cqz,U,ai,aa,av,az]
  by_cases a2:d.next>4611686018427387904
  · have hfu:mM c d=true:=by simp [mM,a1,a2]
    rw [if_pos hfu];refine pR (B:=(bs2.set bs1.length (.cells (cq (dK d) w4 w5 w6 w7))).set (bs.length+2) (.cells z8)) ?_ (hfl _ _) (hfo _ _) lo;simp +decide [ae,q36,n41,n90,n91,n92,a1,a2,G,z8e,cs0,cqs,cqz,U,ai,aa,av,az]
  cases a3:bT d with
  | false =>
   simp only [a3] at n92;have hfu:mM c d=true:=by simp [mM,a1,a2,a3]
   rw [if_pos hfu];refine pR (B:=(bs2.set bs1.length (.cells (cq (dK d) w4 w5 w6 w7))).set (bs.length+2) (.cells z8)) ?_ (hfl _ _) (hfo _ _) lo;simp +decide [ae,q36,n41,n90,n91,n92,a1,a2,G,z8e,cs0,cqs,cqz,U,ai,aa,av,az]
  | true =>
   simp only [a3] at n92;have hfu:mM c d=false:=by simp [mM,a1,a2,a3]
   rw [hfu,if_neg (by decide)];cases a4:gP (dK d) with
   | false =>
    simp only [a4] at n93;rw [if_pos rfl];refine pR (B:=(bs2.set bs1.length (.cells (cq (dK d) w4 w5 w6 w7))).set (bs.length+2) (.cells z8)) ?_ (hfl _ _) (hfo _ _) lo;simp +decide [ae,q36,n41,n90,n91,n92,a1,a2,n93,G,z8e,cs0,cqs,cqz,U,ai,aa,av,az]
   | true =>
    simp only [a4] at n93;rw [if_neg (by decide)];have a3':bT (dK d)=true:=a3;have hle:=nW a3' a4;have hp:bB (dK d)=true:=by
     simp only [gP,aq] at a4;exact a4.2
    have hbV:bz (qD (dK d) pl2 w4 w5 w6 w7)=bz (dK d):=kP S4.nf;have n94:=fun lo=>(bC (E:=E) (T:=TG) (val:=cO) (f:=25) (by kernel_rfl)).trans (hE.e94 _ (S4.wf wn2) (fK (by
     have:=(nH S4.nf).trans a4;simp only [gP,aq] at this;exact this.2)) (by rw [hbV]; exact ce hle (by decide)) _ _ (hM2 lo))
    rw [hbV] at n94;have hl:∀ h,nG false (.d (bytesD (bz (dK d)))) h=some (.d (i64 (bz (dK d)).length),h):=fun h=>by
     simp [bytesD]
    generalize hL:bytesD (bz (dK d))=L at *;generalize (bz (dK d)).length=k at *;by_cases a5:k>8192
    · have a5':((k:Int)>8192):=by omega
      rw [if_pos a5];refine pR (B:=(bs2.set bs1.length (.cells (cq (dK d) w4 w5 w6 w7))).set (bs.length+2) (.cells z8)) ?_ (hfl _ _) (hfo _ _) lo;simp +decide [ae,q36,n41,n90,n91,n92,a1,a2,n93,n94,hl,a5,a5',G,z8e,cs0,cqs,cqz,U,ai,aa,av,az]
    · have a5':¬ ((k:Int)>8192):=by omega
      rw [if_neg a5];refine Oe (B:=(bs2.set bs1.length (.cells (cq (dK d) w4 w5 w6 w7))).set (bs.length+2) (.cells (cq (dK d) w4 w5 w6 w7))) (tag:=tag2) (pl:=pl2) (d:=dK d) ?_ (hfl _ _) (hfo _ _) (S4.next (by simp) (fun x _ hx ht=>?_) fun _ _=>rfl) (wn2.ok (bp _)) rfl lo
      · simp +decide [ae,q36,n41,n90,n91,n92,a1,a2,n93,n94,hl,a5,a5',G,z8e,cs0,cqs,cqz,U,ai,aa,av,az]
      · rw [am (by rintro rfl; exact ht (t2 _ (by omega))),am (by rintro rfl; exact ht tM)]
end
end
section
def noE:Calls':=fun _ _ _=>none
noncomputable def Et:Calls':=fun f args h=>match Nat.beq f 201 with
 | true=>Sm E1 TP qA f args h
 | false=>none
end
section
noncomputable def ET5:Calls':=Sm Et TT aj
theorem yL (t:Target)(ht:t.wf big)(h:Hp):Et 201 [ag t.c] h=some (bl (aR t),h):=Y0 t ht h
theorem ET5_b:BaseE ET5:=S9
noncomputable def EG5:Calls':=fun f args h=>match Nat.beq f 147,Nat.beq f 100,Nat.beq f 107,Nat.beq f 112 with
 | true,_,_,_=>fB yz args h
 | _,true,_,_=>fB yB args h
 | _,_,true,_=>fB yC args h
 | _,_,_,true=>fB yA args h
 | _,_,_,_=>ET5 f args h
theorem J9:AppG2 EG5 where
 e271 args h:=rfl
 e276 args h:=rfl
 e280 args h:=rfl
 e284 args h:=rfl
 e231 r hr h:=Yt (E:=Et) r hr h
 e42 c n hc a h ha:=by
  have h0:=fun h=>S42 (E:=Et) c hc n h;cases hf:c.pods.l.find? (fun p=>p.uid==n) with
  | none =>
   simp only [hf] at h0 ⊢;exact Cq (p:=pod0.c) t42 v42 (by simp [pod0,Pod.c]) h0 ha
  | some p =>
   simp only [hf] at h0 ⊢;exact Cq (p:=p.c) t42 v42 (by simp [Pod.c]) h0 ha
 e41 c hc hcb h:=S41 (E:=Et) yL c hc hcb h
 e92 c a h ha:=zZ t92 v92 (fun h=>S92 (E:=Et) c h) ha
 e93 c hc hcb a h ha:=zZ t93 v93 (fun h=>S93 (E:=Et) yL c hc hcb h) ha
 e94 c hcb hp hl a h ha:=SL (E:=Et) yL c hcb hp hl h ha
noncomputable def EQ5:Calls':=fun f args h=>match Nat.beq f 6,Nat.beq f 7,Nat.beq f 8||Nat.beq f 11,Nat.beq f 9,Nat.beq f 10,Nat.beq f 12 with
 | true,_,_,_,_,_=>known 6 true f args h
 | _,true,_,_,_,_=>Sm (EX1 ET5) TV MX f args h
 | _,_,true,_,_,_=>EX1 ET5 f args h
 | _,_,_,true,_,_=>Sm EG5 TG cO f args h
 | _,_,_,_,true,_=>Sm (EX2 ET5) TZ zY f args h
 | _,_,_,_,_,true=>Sm noE TS oZ f args h
 | _,_,_,_,_,_=>ET5 f args h
theorem Ka (c:Cfg)(hc:c.wf 1048576)(hcb:c.wf big)(e:Edt)(he:e.wf 1048576)(heb:e.wf big):LawE EQ5 c e where
 e31:=S31 (E:=Et) c (hcb.ok (bp _))
 e32:=S32 (E:=Et) e heb
 e33 h:=by show known 6 true 6 [] h=_; simp [known]
 e34 h:=V34 (Na ET5_b) c (hcb.ok (bp _)) h
 e35 h:=S35 (E:=ET5) e.pol heb.2.2.2.2.2.fits h
 e36 bs:=P36 J9 c hc hcb e he heb bs 0
 e37 h:=Fh ET5_b c.cp (Cfg.cp_wf hc) (Cfg.cp_wf hcb) e he heb h
 e38 d w hd a h ha:=JU x38 w38 (fun h=>S38 (E:=ET5) ET5_b.e29 d w hd h) ha lg
 e39 L0 M bs cells hs:=S39 hs
 e29 x y hx h:=ET5_b.e29 x y hx h
theorem S5 (c:Cfg)(hc:c.wf 1048576)(hcb:c.wf big)(e:Edt)(he:e.wf 1048576)(heb:e.wf big)(h:Hp):Sm EQ5 TQ valQ 3 [c.v,ag e.c] h=some (bl true,h) :=
 ZC c e (hcb.ok (bp _)) heb.2.2.2.2.2.fits (Ka c hc hcb e he heb) h
end
