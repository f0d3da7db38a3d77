/- ViewChain, plain: by what makes b of a, a becomes b. -/
import Derived.Test.YtjeflmaikicdnaaGreatIb
import Derived.KernelRfl
set_option linter.unnecessarySimpa false
set_option maxRecDepth 100000
set_option linter.unusedVariables false
set_option linter.unusedSimpArgs false
namespace Go.Proofs.YtjeflmaikicdnaaGreat
section
section
variable {α:Type}{key:α->Int}{f:α->α}
theorem K4 (hf:∀ x,key (f x)=key x)(l fresh:List α)(gone:List Int):(gK key l fresh gone).map f=gK key (l.map f) (fresh.map f) gone:=by
 have h1:∀ x,jc key (fresh.map f) gone (f x)=jc key fresh gone x:=λx=>by
  simp only [jc,hf,List.any_map]
  congr 2
  congr 1
  funext y;simp [hf]
 unfold gK;rw [List.map_mergeSort (s:=λa b=>decide (key a<=key b)) (λa _ b _=>by simp [hf]),List.map_append,List.filter_map]
 congr 3
 congr 1
 funext x;exact (h1 x).symm
theorem Dq {same:α->α->Bool}(hs:∀ x y,same (f x) (f y)=same x y)(a b:List α):(bG same a b).map f=bG same (a.map f) (b.map f):=by
 unfold bG;rw [List.filter_map]
 congr 2
 funext x;simp [List.any_map,Function.comp_def,hs]
theorem GL (hf:∀ x,key (f x)=key x)(a b:List α):bO key (a.map f) (b.map f)=bO key a b:=by
 unfold bO;rw [List.filter_map,List.map_map];have h1:(λx=>!(b.map f).any λy=>key x==key y) ∘ f=λx=>!b.any λy=>key x==key y:=by
  funext x;simp [List.any_map,Function.comp_def,hf]
 rw [h1];exact List.map_congr_left λx _=>hf x
end
theorem Source.nf_nf (s:Source):s.nf.nf=s.nf:=by simp [Source.nf,Sl.nf]
theorem Target.nf_nf (s:Target):s.nf.nf=s.nf:=by simp [Target.nf,Sl.nf]
theorem When.nf_nf (s:When):s.nf.nf=s.nf:=by simp [When.nf,Sl.nf]
theorem Rule.nf_nf (s:Rule):s.nf.nf=s.nf:=by
 simp only [Rule.nf,Sl.nf,List.map_map,Function.comp_def,Source.nf_nf,Target.nf_nf,When.nf_nf]
theorem Pol.nf_nf (s:Pol):s.nf.nf=s.nf:=by
 simp only [Pol.nf,Sl.nf,List.map_map,Function.comp_def,Rule.nf_nf]
theorem Pol.same_nf (a b:Pol):Pol.same a.nf b.nf=a.same b:=by
 rw [Bool.eq_iff_iff,Pol.same_iff,Pol.same_iff,Pol.nf_nf,Pol.nf_nf]
theorem gV {α:Type}{key:α->Int}{l:List α}{n:Int}(h:gN key l n=true):(l.map key).Pairwise (·<·)/\(l.length:Int)<=n:=by
 simp only [gN,aw,bw] at h;exact ⟨jI h.1,h.2⟩
theorem mI {α:Type}{key:α->Int}{same:α->α->Bool}{a b fr:List α}{n:Int}(ha:gN key a n=true)(hfr:∀ x∈fr,∃ y∈b,key x=key y):jK key (bO key a b) n fr=true:=by
 obtain ⟨h1,h2⟩:=gV ha;have hsub:(bO key a b).Sublist (a.map key):=List.Sublist.map _ List.filter_sublist;have hlen:=hsub.length_le;simp only [cb] at hlen;simp only [jK,aw,bw,Bool.not_eq_true',List.any_eq_false];refine ⟨⟨kH (List.Pairwise.sublist hsub h1),by omega⟩,λx hx=>?_⟩;rw [hasT_iff];intro hg;obtain ⟨y,hy,hk⟩:=hfr x hx;simp only [bO,cd,List.mem_filter,Bool.not_eq_true',List.any_eq_false,beq_iff_eq] at hg;obtain ⟨z,⟨_,h3⟩,h4⟩:=hg;exact h3 y hy (by omega)
theorem lJ {α:Type}{key:α->Int}{p:α->Bool}{l:List α}{n:Int}(h:gN key l n=true):gN key (l.filter p) n=true:=by
 obtain ⟨h1,h2⟩:=gV h;have:=List.length_filter_le p l;simp only [gN,aw,bw];exact ⟨kH (List.Pairwise.sublist (List.Sublist.map _ List.filter_sublist) h1),by omega⟩
theorem jR {α:Type}{p q:α->Bool}{l:List α}(h:l.any p=false):(l.filter q).any p=false:=by
 rw [List.any_eq_false] at h ⊢;exact λx hx=>h x (List.mem_filter.1 hx).1
theorem lM {v:Vw}(h:aY v=true):v.epoch<=4611686018427387903/\gI v.covers.l 38=true/\v.pods.l.any j6=false/\v.services.l.any kg=false/\v.bound.l.any jC=false ∧
 gN Pod.uid v.pods.l 16=true/\gN Svc.id v.services.l 6=true/\gN Way.id v.bound.l 4=true/\gN Pol.id v.policies.l 12=true/\(v.policies.l.any λp=>!bY p)=false:=by
 simp only [aY,nY,Ha,aw,Bool.not_eq_true',Bool.or_eq_false_iff,bw] at h;obtain ⟨m1,m2,⟨⟨m3,m4,m5⟩,m6,m7,m8,m9⟩,m10⟩:=h;exact ⟨m1,m2,m3,m4,m5,m6,m7,m8,m9,m10⟩
theorem Mt {v:Vw}(m1:v.epoch<=4611686018427387903)(m2:gI v.covers.l 38=true)(m3:v.pods.l.any j6=false)(m4:v.services.l.any kg=false)(m5:v.bound.l.any jC=false)
 (m6:gN Pod.uid v.pods.l 16=true) (m7:gN Svc.id v.services.l 6=true) (m8:gN Way.id v.bound.l 4=true) (m9:gN Pol.id v.policies.l 12=true) (m10:(v.policies.l.any λp=>!bY p)=false):aY v=true:=by
 simp [aY,nY,Ha,m1,m2,m3,m4,m5,m6,m7,m8,m9,m10]
def gm (a b:Vw):List Pol:=(bG Pol.same a.policies.l b.policies.l).map Pol.own
theorem JM {a b:Vw}(ha:aY a=true)(hb:aY b=true){n1 n2 n3 n4 m1 m2 m3 m4:Bool}:tL (A7 a b n1 n2 n3 n4 m1 m2 m3 m4 (gm a b))=true:=by
 obtain ⟨a1,a2,a3,a4,a5,a6,a7,a8,a9,a10⟩:=lM ha;obtain ⟨b1,b2,b3,b4,b5,b6,b7,b8,b9,b10⟩:=lM hb;have hid:(gm a b).map Pol.id=(bG Pol.same a.policies.l b.policies.l).map Pol.id:=by rw [gm,List.map_map]; rfl
 have hlen:(gm a b).length=(bG Pol.same a.policies.l b.policies.l).length:=by simp [gm]
 simp only [tL,aw,A7];refine ⟨⟨mI (same:=Pod.eqB) a6 λx hx=>⟨x,(List.mem_filter.1 hx).1,rfl⟩,mI (same:=Svc.eqB) a7 λx hx=>⟨x,(List.mem_filter.1 hx).1,rfl⟩,mI (same:=Way.eqB) a8 λx hx=>⟨x,(List.mem_filter.1 hx).1,rfl⟩,mI (same:=Pol.same) a9 λx hx=>?_⟩,?_⟩
 . obtain ⟨y,hy,rfl⟩:=cd.1 hx;exact ⟨y,(List.mem_filter.1 hy).1,rfl⟩
 . refine Mt b1 b2 (jR b3) (jR b4) (jR b5) (lJ b6) (lJ b7) (lJ b8) ?_ ?_
   . have:=lJ (p:=λx=>!a.policies.l.any λy=>Pol.same x y) b9;simp only [gN,Dlt.vw,hid,hlen] at this ⊢;exact this
   . simp only [Dlt.vw,gm,List.any_map];have:=jR (q:=λx=>!a.policies.l.any λy=>Pol.same x y) b10;rw [List.any_eq_false] at this ⊢;intro x hx;simp only [Function.comp,xm];exact this x hx
theorem Hz {a a' b:Vw}(ha:aY a=true)(hb:aY b=true)(hn:a'.nf=a.nf){n1 n2 n3 n4:Bool}{d:Dlt}{k1 k2 k3 k4 m1 m2 m3 m4:Bool}(hd:d=A7 a b k1 k2 k3 k4 m1 m2 m3 m4 (gm a b)) :
 Vw.nf ⟨d.epoch,d.covers,⟨n1,gK Pod.uid a'.pods.l d.pods.l d.gonePods.l⟩,⟨n2,gK Svc.id a'.services.l d.services.l d.goneServices.l⟩,⟨n3,gK Way.id a'.bound.l d.bound.l d.goneBound.l⟩,⟨n4,(gK Pol.id a'.policies.l d.policies.l d.gonePolicies.l).map Pol.own⟩⟩=b.nf:=by
 subst hd;obtain ⟨a1,a2,a3,a4,a5,a6,a7,a8,a9,a10⟩:=lM ha;obtain ⟨b1,b2,b3,b4,b5,b6,b7,b8,b9,b10⟩:=lM hb;simp only [Vw.nf,Vw.mk.injEq,Sl.nf_iff,List.map_id] at hn;obtain ⟨_,_,h1,h2,h3,h4⟩:=hn;have e1:=kZ (key:=Pod.uid) (same:=Pod.eqB) (a:=a.pods.l) (b:=b.pods.l) (λx _ y _ h=>Pod.eqB_iff.1 h) (gV a6).1 (gV b6).1;have e2:=kZ (key:=Svc.id) (same:=Svc.eqB) (a:=a.services.l) (b:=b.services.l) (λx _ y _ h=>Svc.eqB_iff.1 h) (gV a7).1 (gV b7).1;have e3:=kZ (key:=Way.id) (same:=Way.eqB) (a:=a.bound.l) (b:=b.bound.l) (λx _ y _ h=>Way.eqB_iff.1 h) (gV a8).1 (gV b8).1;have e4:=kZ (key:=Pol.id) (same:=Pol.same) (a:=a.policies.l.map Pol.nf) (b:=b.policies.l.map Pol.nf) (λx hx y hy h=>by
  obtain ⟨p,_,rfl⟩:=cd.1 hx;obtain ⟨q,_,rfl⟩:=cd.1 hy;have:=Pol.same_iff.1 h
  rwa [Pol.nf_nf,Pol.nf_nf] at this) (by rw [yG]; exact (gV a9).1) (by rw [yG]; exact (gV b9).1)
 have hk:∀ x:Pol,Pol.id x.nf=x.id:=λ_=>rfl;have e5:((gK Pol.id a'.policies.l (gm a b) (bO Pol.id a.policies.l b.policies.l)).map Pol.own).map Pol.nf=b.policies.l.map Pol.nf:=by
  have o1:∀ l:List Pol,(l.map Pol.own).map Pol.nf=l.map Pol.nf:=λl=>by
   rw [List.map_map]; exact List.map_congr_left λx _=>Pol.own_nf x
  rw [o1,K4 hk,h4,gm,o1,Dq Pol.same_nf,← GL hk a.policies.l b.policies.l];exact e4
 simp only [Vw.nf,A7,Vw.mk.injEq,Sl.nf_iff,List.map_id,h1,h2,h3,e1,e2,e3,e5,true_and]
end
section
open List
section
variable {E:Calls'}{T:FuncId->Option QF}{val:FuncId->Bool}
theorem Rn {α:Type}{cells:α->List D}{z c sf:FuncId}{same:α->α->Bool}(ht:T c=some (parsQ z))(hv:val c=false){x y:α}(hx:(cells x).length=z)(hy:(cells y).length=z)(hsf:∀ h,Sm E T val sf [ag (cells x),ag (cells y)] h=some (bl (same x y),h)){p r:Nat}{h:Hp}(hp:au h.bs p=some [.fn sf []])(hr:au h.bs r=some ((cells x).map .d)) :
 Sm E T val c [ag (cells y),.ptr p 0,.ptr r 0] h=some (bl (same x y),h):=by
 rw [av ht hv];have hsx:=sM hx;have hsy:=sM hy;simp [parsQ,aa,ak hp,ak hr,hsf,hsx,hsy,V.under]
theorem Rm {α:Type}{cells:α->List D}{z c c11 sm any idx sf:FuncId}{same:α->α->Bool}(ht:T c=some (parcQ c11 sm))(hv:val c=false)(ht1:T c11=some (parsQ z))(hv1:val c11=false)(ts:T sm=some (someQ any))(vs:val sm=false)(ta:T any=some (anyQ idx))(va:val any=false)(ti:T idx=some (idxQ z))(vi:val idx=false)
 (hz:∀ x,(cells x).length=z) {a:Sl α} (hs:short a) {x:α} (hsf:∀ y∈a.l,∀ h,Sm E T val sf [ag (cells x),ag (cells y)] h=some (bl (same x y),h))
 {p f:Nat} {h:Hp} (hp:au h.bs p=some [.fn sf []]) (hf:au h.bs f=some [.d (a.d cells)]) :
 Sm E T val c [ag (cells x),.ptr f 0,.ptr p 0] h=some (bl (!a.l.any λy=>same x y),h):=by
 have hcl:∀ y∈a.l,∀ lo,Sm E T val c11 (.agg ((cells y).map .d)::[.ptr p 0,.ptr h.bs.length 0]) ⟨h.bs++[.cells ((cells x).map .d)],lo⟩=some (.d (.bool (same x y)),⟨h.bs++[.cells ((cells x).map .d)],lo⟩):=λy hy lo =>
  Rn ht1 hv1 (hz x) (hz y) (hsf y hy) (ak hp) (by rw [dh]; rfl)
 have hsm:∀ lo,Sm E T val sm [.d (a.d cells),.fn c11 [.ptr p 0,.ptr h.bs.length 0]] ⟨h.bs++[.cells ((cells x).map .d)],lo⟩=some (bl (a.l.any λy=>same x y),⟨h.bs++[.cells ((cells x).map .d)],lo⟩):=λlo =>
  fK ts vs rfl rfl (gP cells ti vi ta va (h:=⟨h.bs++[.cells ((cells x).map .d)],(h.bs++[Blk.cells ((cells x).map .d)]).length⟩) (RowIs.of hz _) hs.lt λe he lo=>hcl e he lo)
 rw [av ht hv];simp [parcQ,aa,ak hf,hsm,V.under]
theorem DK {α:Type}{cells:α->List D}{z:Nat}{c2 sm any idx idf:FuncId}{zero:List V}{key:α->Int}(t2:T c2=some (vpeQ z))(v2:val c2=false)(ts:T sm=some (someQ any))(vs:val sm=false)(ta:T any=some (anyQ idx))(va:val any=false)(ti:T idx=some (idxQ z))(vi:val idx=false)
 (hz:∀ x,(cells x).length=z) (hz0:0<z) (hzero:zero.length=z) {a b:Sl α} (ha:short a) (hb:short b) (hab:a.l.length<big) (hid:∀ e,e∈a.l\/e∈b.l->∀ h,Sm E T val idf [ag (cells e)] h=some (.d (u64 (key e)),h))
 {base:List Blk} {q:Nat} (hq:au base q=some [.fn idf []]) {v8:V} (h8:nu v8=some v8):∀ (m i:Nat) (acc:List Int) (bs:List Blk) (v:V) (lo:Nat),i+m=a.l.length->acc.length<=i->Acc base 1 (acc.map eT) bs v →
 ∃ bs' v' lo',Cd E T val (.loop [1,6,8,9,15,16,17] (qH z c2 sm zero)) [(1,.d (b.d cells)),(6,.ptr q 0),(8,v8),(9,v),(15,.d (a.d cells)),(16,.d (i64 a.l.length)),(17,.d (i64 i))] ⟨bs,lo⟩=some (.exit 0,[(8,v8),(9,v')],⟨bs',lo'⟩) ∧
  Acc base 1 ((acc++((a.l.drop i).filter λx=>!b.l.any λy=>key x==key y).map key).map eT) bs' v':=by
 have hlt:=ha.lt;intro m;have keyW:=ax (E:=E) (T:=T) (val:=val) [1,6,8,9,15,16,17] (qH z c2 sm zero);generalize Cd E T val (.loop [1,6,8,9,15,16,17] (qH z c2 sm zero))=W at keyW ⊢
 induction m with
 | zero =>
  intro i acc bs v lo hi ha' hA;refine ⟨bs,v,lo,?_,by rw [bb (by omega)]; simpa using hA⟩;have hnu:=hA.nu;rw [keyW];simp [qH,show ¬ ((i:Int)<a.l.length) from by omega]
 | succ m ih =>
  intro i acc bs v lo hi ha' hA;have hnu:=hA.nu;have h1:i<a.l.length:=by omega
  have hx:=λh=>mZ (cells:=cells) hz h1 (kd:=.i64) (h:=h);have hw:=aI h1 hlt;have hmem:=bj h1;rw [ba h1];generalize a.l[i]=x at *;have hsx:=bQ (hz x);have hA1:=hA.lay [.cells ((cells x).map .d)];have hq1:=hA1.get hq;have hcl:∀ y∈b.l,∀ lo,Sm E T val c2 (.agg ((cells y).map .d)::[.ptr q 0,.ptr bs.length 0]) ⟨bs++[.cells ((cells x).map .d)],lo⟩=some (.d (.bool (key x==key y)),⟨bs++[.cells ((cells x).map .d)],lo⟩):=λy hy lo =>
   Ql t2 v2 (hz x) (hz y) (λe he=>hid e (by obtain rfl | rfl:=he; exact .inl hmem; exact .inr hy)) hq1 (by rw [dh]; rfl)
  have hsm:∀ lo,Sm E T val sm [.d (b.d cells),.fn c2 [.ptr q 0,.ptr bs.length 0]] ⟨bs++[.cells ((cells x).map .d)],lo⟩=some (bl (b.l.any λy=>key x==key y),⟨bs++[.cells ((cells x).map .d)],lo⟩):=λlo =>
   fK ts vs rfl rfl (gP cells ti vi ta va (h:=⟨bs++[.cells ((cells x).map .d)],(bs++[Blk.cells ((cells x).map .d)]).length⟩) (RowIs.of hz _) hb.lt λe he lo=>hcl e he lo)
  have hput:∀ y:List V,y.length=z->put zero 0 y=some y:=λy hy=>by
   unfold put;rw [if_pos (by omega),List.take_zero,List.nil_append,bb (by omega),List.append_nil]
  have hpx:=hput ((cells x).map .d) (by simpa using hz x);have hidx:=hid x (.inl hmem);by_cases hg:(b.l.any λy=>key x==key y)=true
  . obtain ⟨bs',v',lo',q1,q2⟩:=ih (i+1) acc (bs++[.cells ((cells x).map .d)]) v (min lo bs.length) (by omega) (by omega) hA1;refine ⟨bs',v',lo',?_,by simpa [hg] using q2⟩;rw [keyW];simp [qH,hx,hsx,hw,hz x,hz0,hpx,hsm,hg,show ((i:Int)<a.l.length) from by omega];simpa using q1
  . have hg':=Bool.eq_false_iff.2 hg;obtain ⟨v1,bs1,lo1,k1,k2⟩:=(hA1.lay [.cells [.d (u64 (key x))]]).app (by decide) (by_:=8) (by decide) (e:=eT (key x)) rfl (by simp; omega) (min lo bs.length) (r:=bs.length+1) (cap:=some 1) (by
     have:au ((bs++[Blk.cells ((cells x).map .d)])++[.cells [.d (u64 (key x))]]) (bs++[Blk.cells ((cells x).map .d)]).length=some [.d (u64 (key x))]:=by rw [dh]; rfl
     simpa [eT] using this)
    have hnu1:=k2.nu;obtain ⟨bs',v',lo',q1,q2⟩:=ih (i+1) (acc++[key x]) bs1 v1 lo1 (by omega) (by simp; omega) (by simpa using k2);refine ⟨bs',v',lo',?_,by simpa [hg'] using q2⟩;simp only [List.append_assoc,List.cons_append,List.nil_append] at k1;have hp1:put [V.d (D.int .u64 0)] 0 [V.d (u64 (key x))]=some [V.d (u64 (key x))]:=rfl;rw [keyW];simp [qH,hx,hsx,hw,hnu,hz x,hz0,hpx,hsm,hg',hidx,hq1,az,hp1,k1,hnu1,show ((i:Int)<a.l.length) from by omega];simpa using q1
theorem KeptP.dat {α:Type}{cells:α->List D}{z n:Nat}{nl:Bool}{l:List α}{bs bs':List Blk}{v:V}(h:KeptP cells z n nl l bs v)(ho:∀ x,x<bs.length->bs'[x]?=bs[x]?)(lo k:Nat)(hz:∀ x,(cells x).length=z):dataV ⟨bs',lo⟩ (k+1) v=some (.slice nl (l.map cells)):=by
 obtain ⟨rfl,rfl,rfl⟩ | ⟨rfl,B,cap,rest,_,rfl,hg,_⟩:=h
 . rfl
 . refine bB (by simp; intro a _; exact hz a) (by simp) ?_ (rest:=rest);have:=ho B (aK hg);unfold au at hg ⊢;rw [this]; exact hg
theorem uW {α:Type}{cells:α->List D}{z b:Nat}{id c1 c11 c2 sm any idx keep cl clos del idf sf:FuncId}{zero:List V}{key:α->Int}{same:α->α->Bool}(tcl:T cl=some (cloneQ z b zero))(vcl:val cl=false)(tdel:T del=some (delQ z idx zero))(vdel:val del=false)(ti:T idx=some (idxQ z))(vi:val idx=false)
 (tn:T clos=some (notQ z)) (vn:val clos=false) (tk:T keep=some (keepQ cl clos del)) (vk:val keep=false) (t1:T c1=some (parcQ c11 sm)) (v1:val c1=false) (t11:T c11=some (parsQ z)) (v11:val c11=false) (t2:T c2=some (vpeQ z)) (v2:val c2=false) (ts:T sm=some (someQ any)) (vs:val sm=false) (ta:T any=some (anyQ idx)) (va:val any=false)
 (tid:T id=some (partsQ z keep c1 c2 sm zero)) (vid:val id=true)
 (hz:∀ x,(cells x).length=z) (hz0:0<z) (hzero:zero.length=z) (hb4:b<=4096) {l m:Sl α} (hl:short l) (hm:short m) (hlb:l.l.length<big)
 (hid:∀ e,e∈l.l\/e∈m.l->∀ h,Sm E T val idf [ag (cells e)] h=some (.d (u64 (key e)),h)) (hsf:∀ x∈m.l,∀ y∈l.l,∀ h,Sm E T val sf [ag (cells x),ag (cells y)] h=some (bl (same x y),h)) (h:Hp) :
 Sm E T val id [.d (l.d cells),.d (m.d cells),.fn idf [],.fn sf []] h=some (.tup [.d (.slice m.nl ((bG same l.l m.l).map cells)),.d (.slice (bO key l.l m.l).isEmpty ((bO key l.l m.l).map eT))],h):=by
 have hfr:∀ f h,frz h (.fn f [])=some (.fn f []):=λ_ _=>rfl;have hpf:∀ f,dK (.fn f [])=true:=λ_=>rfl;obtain ⟨r,bs1,lo1,k1,k2,k3,k4⟩:=EJ (E:=E) (T:=T) (val:=val) tcl vcl tdel vdel ti vi tn vn tk vk hz hz0 hzero hb4 hm (f:=c1) (caps:=[.ptr 0 0,.ptr 2 0]) (q:=λx=>!l.l.any λy=>same x y) (h:=⟨[.cells [.d (l.d cells)],.cells [.fn idf []],.cells [.fn sf []]],0⟩) λe he bs lo hle ho=>by
  simp only [cj,ck] at hle ho;refine Rm t1 v1 t11 v11 ts vs ta va ti vi hz hl (λy hy=>hsf e he y hy) ?_ ?_
  . simp only [au]; rw [ho 2 (by decide)]; rfl
  . simp only [au]; rw [ho 0 (by decide)]; rfl
 simp only [cj,ck] at k2 k3 k4;have hb0:au bs1 0=some [.d (l.d cells)]:=by simp only [au]; rw [k3 0 (by decide)]; rfl
 have hb1:au bs1 1=some [.fn idf []]:=by simp only [au]; rw [k3 1 (by decide)]; rfl
 have hnur:=k4.nu;obtain ⟨bs',v',lo',q1,q2⟩:=DK (E:=E) (zero:=zero) t2 v2 ts vs ta va ti vi hz hz0 hzero hl hm hlb hid hb1 hnur.1 l.l.length 0 [] bs1 _ lo1 (by omega) (br _) (Acc.nil bs1 1);have hdr:dataV ⟨bs',lo'⟩ 8 r=some (.slice m.nl ((bG same l.l m.l).map cells)):=k4.dat q2.old lo' 7 hz;have hdv:=q2.frz lo';have hog:([]:List Int)++((l.l.drop 0).filter λx=>!m.l.any λy=>key x==key y).map key=bO key l.l m.l:=rfl;rw [hog] at hdv;have hnv:=q2.nu;have hfr8:iV ⟨bs',lo'⟩ r=some (.d (.slice m.nl ((bG same l.l m.l).map cells))):=by
  obtain ⟨_,_,rfl⟩ | ⟨_,B,cap,rest,_,rfl,_⟩:=k4<;>simp only [iV,hdr]
 rw [aN tid vid];simp only [Int.natCast_zero] at q1;simp [partsQ,aa,hfr,k1,hb0,hnur.1];rw [aj];simp only [jh,kv];simp [hnur.1,q1,hnv,hfr8,hdv.2,hpf]
end
end
section
def r58:QF:=(⟨_,by cbv⟩:F0 0x54240005212ca904ca11321211904c5311137d2c04111214c531521311904c931311904c531718160811018d259d2c039d2c0134a4d2c04111211c53111210c5319d20c21311904c831311904c43171816081100ed2a3d2c036d2c0134a2d2c04111211c43111210c430fd20c21311904c731311904c331718160811004d2a1d2c034d2c0134a0d2c04111211c33111210c3305d20c21311904c631311904c2317181608110ac29fd2c032d2c01349ed2c04111211c23111210c23bc20c2114ca903333333331a1c6211141023333333331a2c11103d2c04111211c13111211c0316234015702340152322100108881054243c005212ca9003333333331a2c132113150471105c37112ed2c042786117101105c1112ed2c04146172821100013333333331a1c120c120c142150a412227d).1
def cp1:QF:=partsQ 7 98 246 248 103 [zu,(.d (.str ⟨#[]⟩)),(.d (.str ⟨#[]⟩)),zi,zw,zi,zu]
def Pg:QF:=(⟨_,by cbv⟩:F0 0x41410421295851197306137113711421400120c120c132140128).1
def cp3:QF:=partsQ 5 101 249 251 93 [zu,(.d (.str ⟨#[]⟩)),zw,zi,zu]
def Ph:QF:=(⟨_,by cbv⟩:F0 0x414104212958195306135113511421400120c120c132140128).1
def cp4:QF:=partsQ 2 105 252 254 179 [zu,zi]
def Pi:QF:=(⟨_,by cbv⟩:F0 0x414104212592306132113211421400120c120c132140128).1
def cp5:QF:=partsQ 5 108 255 257 183 [zu,(.d (.str ⟨#[]⟩)),zu,zi,zs0]
def cp8:QF:=parcQ 247 103
def cp9:QF:=parsQ 7
def cq0:QF:=vpeQ 7
def cq1:QF:=parcQ 250 93
def cq2:QF:=parsQ 5
def cq3:QF:=vpeQ 5
def cq4:QF:=parcQ 253 179
def cq5:QF:=parsQ 2
def cq6:QF:=vpeQ 2
def eb7:QF:=parcQ 256 183
def eb8:QF:=parsQ 5
def eb9:QF:=vpeQ 5
end
section
def df0:List (Nat×QF):=[(86,r58),(186,(partsQ 7 98 246 248 103 og)),(188,(partsQ 5 101 249 251 93 sN)),(190,(partsQ 2 105 252 254 179 sS)),(192,(partsQ 5 108 255 257 183 r9)),(187,Pg),(189,Ph),(191,Pi),(31,(cloneQ 1 4 [(.d (.int .u32 0))])),(246,(parcQ 247 103)),(249,(parcQ 250 93)),(252,(parcQ 253 179)),(255,(parcQ 256 183)),(247,(parsQ 7)),(250,(parsQ 5)),(253,(parsQ 2)),(256,(parsQ 5)),(248,(vpeQ 7)),(251,(vpeQ 5)),(254,(vpeQ 2)),(257,(vpeQ 5)),(93,(someQ 156)),(103,(someQ 150)),(179,(someQ 207)),(183,(someQ 151)),(156,(anyQ 205)),(150,(anyQ 145)),(207,(anyQ 194)),(151,(anyQ 227)),(145,(idxQ 7)),(205,(idxQ 5)),(194,(idxQ 2)),(227,(idxQ 5)),(98,(keepQ 50 198 143)),(101,(keepQ 51 199 152)),(105,(keepQ 52 200 157)),(108,(keepQ 53 201 161)),(143,(delQ 7 145 og)),(152,(delQ 5 205 sN)),(157,(delQ 2 194 sS)),(161,(delQ 5 227 r9)),(50,(cloneQ 7 72 og)),(51,(cloneQ 5 48 sN)),(52,(cloneQ 2 16 sS)),(53,(cloneQ 5 64 r9)),(198,(notQ 7)),(199,(notQ 5)),(200,(notQ 2)),(201,(notQ 5))]
def TD:FuncId->Option QF:=iW df0
def bT (f:FuncId):Bool:=[86,186,188,190,192,187,189,191,31].any λn=>Nat.beq n f
theorem ad9:TD 86=some r58:=by kernel_rfl
theorem ai9:bT 86=true:=by kernel_rfl
theorem ZX:TD 186=some (partsQ 7 98 246 248 103 og):=by kernel_rfl
theorem ae8:bT 186=true:=by kernel_rfl
theorem Z4:TD 188=some (partsQ 5 101 249 251 93 sN):=by kernel_rfl
theorem af0:bT 188=true:=by kernel_rfl
theorem Z7:TD 190=some (partsQ 2 105 252 254 179 sS):=by kernel_rfl
theorem af2:bT 190=true:=by kernel_rfl
theorem aa0:TD 192=some (partsQ 5 108 255 257 183 r9):=by kernel_rfl
theorem af4:bT 192=true:=by kernel_rfl
theorem ZZ:TD 187=some Pg:=by kernel_rfl
theorem ae9:bT 187=true:=by kernel_rfl
theorem Z6:TD 189=some Ph:=by kernel_rfl
theorem af1:bT 189=true:=by kernel_rfl
theorem Z9:TD 191=some Pi:=by kernel_rfl
theorem af3:bT 191=true:=by kernel_rfl
theorem ZQ:TD 31=some (cloneQ 1 4 [(.d (.int .u32 0))]):=by kernel_rfl
theorem ae2:bT 31=true:=by kernel_rfl
theorem ac1:TD 246=some (parcQ 247 103):=by kernel_rfl
theorem ah2:bT 246=false:=by kernel_rfl
theorem ac4:TD 249=some (parcQ 250 93):=by kernel_rfl
theorem ah5:bT 249=false:=by kernel_rfl
theorem ac7:TD 252=some (parcQ 253 179):=by kernel_rfl
theorem ah8:bT 252=false:=by kernel_rfl
theorem ad2:TD 255=some (parcQ 256 183):=by kernel_rfl
theorem ai2:bT 255=false:=by kernel_rfl
theorem ac2:TD 247=some (parsQ 7):=by kernel_rfl
theorem ah3:bT 247=false:=by kernel_rfl
theorem ac5:TD 250=some (parsQ 5):=by kernel_rfl
theorem ah6:bT 250=false:=by kernel_rfl
theorem ac9:TD 253=some (parsQ 2):=by kernel_rfl
theorem ai0:bT 253=false:=by kernel_rfl
theorem ad4:TD 256=some (parsQ 5):=by kernel_rfl
theorem ai4:bT 256=false:=by kernel_rfl
theorem ac3:TD 248=some (vpeQ 7):=by kernel_rfl
theorem ah4:bT 248=false:=by kernel_rfl
theorem ac6:TD 251=some (vpeQ 5):=by kernel_rfl
theorem ah7:bT 251=false:=by kernel_rfl
theorem ad1:TD 254=some (vpeQ 2):=by kernel_rfl
theorem ai1:bT 254=false:=by kernel_rfl
theorem ad5:TD 257=some (vpeQ 5):=by kernel_rfl
theorem ai5:bT 257=false:=by kernel_rfl
theorem ZP:TD 93=some (someQ 156):=by kernel_rfl
theorem ae1:bT 93=false:=by kernel_rfl
theorem ZU:TD 103=some (someQ 150):=by kernel_rfl
theorem ae5:bT 103=false:=by kernel_rfl
theorem ac8:TD 179=some (someQ 207):=by kernel_rfl
theorem ah9:bT 179=false:=by kernel_rfl
theorem ad3:TD 183=some (someQ 151):=by kernel_rfl
theorem ai3:bT 183=false:=by kernel_rfl
theorem ab2:TD 156=some (anyQ 205):=by kernel_rfl
theorem ag3:bT 156=false:=by kernel_rfl
theorem ab6:TD 150=some (anyQ 145):=by kernel_rfl
theorem ag7:bT 150=false:=by kernel_rfl
theorem ad8:TD 207=some (anyQ 194):=by kernel_rfl
theorem ai8:bT 207=false:=by kernel_rfl
theorem ad6:TD 151=some (anyQ 227):=by kernel_rfl
theorem ai6:bT 151=false:=by kernel_rfl
theorem aa8:TD 145=some (idxQ 7):=by kernel_rfl
theorem af9:bT 145=false:=by kernel_rfl
theorem aa9:TD 205=some (idxQ 5):=by kernel_rfl
theorem ag0:bT 205=false:=by kernel_rfl
theorem ab0:TD 194=some (idxQ 2):=by kernel_rfl
theorem ag1:bT 194=false:=by kernel_rfl
theorem ad7:TD 227=some (idxQ 5):=by kernel_rfl
theorem ai7:bT 227=false:=by kernel_rfl
theorem ZR:TD 98=some (keepQ 50 198 143):=by kernel_rfl
theorem ae3:bT 98=false:=by kernel_rfl
theorem ZT:TD 101=some (keepQ 51 199 152):=by kernel_rfl
theorem ae4:bT 101=false:=by kernel_rfl
theorem ZV:TD 105=some (keepQ 52 200 157):=by kernel_rfl
theorem ae6:bT 105=false:=by kernel_rfl
theorem ZW:TD 108=some (keepQ 53 201 161):=by kernel_rfl
theorem ae7:bT 108=false:=by kernel_rfl
theorem ab1:TD 143=some (delQ 7 145 og):=by kernel_rfl
theorem ag2:bT 143=false:=by kernel_rfl
theorem ab4:TD 152=some (delQ 5 205 sN):=by kernel_rfl
theorem ag5:bT 152=false:=by kernel_rfl
theorem ab7:TD 157=some (delQ 2 194 sS):=by kernel_rfl
theorem ag8:bT 157=false:=by kernel_rfl
theorem ab9:TD 161=some (delQ 5 227 r9):=by kernel_rfl
theorem ah0:bT 161=false:=by kernel_rfl
theorem aa4:TD 50=some (cloneQ 7 72 og):=by kernel_rfl
theorem af5:bT 50=false:=by kernel_rfl
theorem aa5:TD 51=some (cloneQ 5 48 sN):=by kernel_rfl
theorem af6:bT 51=false:=by kernel_rfl
theorem aa6:TD 52=some (cloneQ 2 16 sS):=by kernel_rfl
theorem af7:bT 52=false:=by kernel_rfl
theorem aa7:TD 53=some (cloneQ 5 64 r9):=by kernel_rfl
theorem af8:bT 53=false:=by kernel_rfl
theorem ab3:TD 198=some (notQ 7):=by kernel_rfl
theorem ag4:bT 198=false:=by kernel_rfl
theorem ab5:TD 199=some (notQ 5):=by kernel_rfl
theorem ag6:bT 199=false:=by kernel_rfl
theorem ab8:TD 200=some (notQ 2):=by kernel_rfl
theorem ag9:bT 200=false:=by kernel_rfl
theorem ac0:TD 201=some (notQ 5):=by kernel_rfl
theorem ah1:bT 201=false:=by kernel_rfl
theorem Px:TD 74=none:=by kernel_rfl
theorem aa3:TD 83=none:=by kernel_rfl
theorem aa2:TD 117=none:=by kernel_rfl
theorem ZY:TD 78=none:=by kernel_rfl
theorem Z5:TD 80=none:=by kernel_rfl
theorem Z8:TD 82=none:=by kernel_rfl
theorem aa1:TD 85=none:=by kernel_rfl
structure DiffH (E:Calls'):Prop where
 h62:∀ v:Vw,v.ok->(∀ p∈v.policies.l,p.wf big)->∀ h,E 74 [v.v] h=some (bl (aY v),h)
 h189:∀ s:Sl Pol,short s->(∀ p∈s.l,p.ok)->∀ h,E 83 [.d (s.d Pol.c)] h=some (.d (Sl.d Pol.c ⟨s.nl,s.l.map Pol.own⟩),h)
 h188:∀ p q:Pol,p.ok->q.ok->∀ h,E 117 [ag p.c,ag q.c] h=some (bl (p.same q),h)
 h178:∀ (p:Pod) h,E 78 [ag p.c] h=some (.d (u64 p.uid),h)
 h181:∀ (p:Svc) h,E 80 [ag p.c] h=some (.d (u64 p.id),h)
 h184:∀ (p:Way) h,E 82 [ag p.c] h=some (.d (u64 p.id),h)
 h187:∀ (p:Pol) h,E 85 [ag p.c] h=some (.d (u64 p.id),h)
section
variable {E:Calls'}
theorem ba4 (x y:Pod)(h:Hp):Sm E TD bT 187 [ag x.c,ag y.c] h=some (bl (Pod.eqB x y),h):=by
 rw [aN ZZ ae9];simp [aa,Pg]
theorem ba6 (x y:Svc)(h:Hp):Sm E TD bT 189 [ag x.c,ag y.c] h=some (bl (Svc.eqB x y),h):=by
 rw [aN Z6 af1];simp [aa,Ph]
theorem ba8 (x y:Way)(h:Hp):Sm E TD bT 191 [ag x.c,ag y.c] h=some (bl (Way.eqB x y),h):=by
 rw [aN Z9 af3];simp [aa,Pi]
variable (H:DiffH E)
include H
theorem ba3 {l m:Sl Pod}(hl:short l)(hm:short m)(hlb:l.l.length<big)(h:Hp) :
 Sm E TD bT 186 [.d (l.d Pod.c),.d (m.d Pod.c),.fn 78 [],.fn 187 []] h=some (.tup [.d (.slice m.nl ((bG Pod.eqB l.l m.l).map Pod.c)),.d (.slice (bO Pod.uid l.l m.l).isEmpty ((bO Pod.uid l.l m.l).map eT))],h) :=
 uW (E:=E) (T:=TD) (val:=bT) (z:=7) (b:=72) aa4 af5 ab1 ag2 aa8 af9 ab3 ag4 ZR ae3 ac1 ah2 ac2 ah3 ac3 ah4 ZU ae5 ab6 ag7 ZX ae8 (λ_=>rfl) (by decide) rfl (by decide) hl hm hlb (λe _ h=>by rw [aG ZY]; exact H.h178 e h) (λx _ y _ h=>ba4 x y h) h
theorem ba5 {l m:Sl Svc}(hl:short l)(hm:short m)(hlb:l.l.length<big)(h:Hp) :
 Sm E TD bT 188 [.d (l.d Svc.c),.d (m.d Svc.c),.fn 80 [],.fn 189 []] h=some (.tup [.d (.slice m.nl ((bG Svc.eqB l.l m.l).map Svc.c)),.d (.slice (bO Svc.id l.l m.l).isEmpty ((bO Svc.id l.l m.l).map eT))],h) :=
 uW (E:=E) (T:=TD) (val:=bT) (z:=5) (b:=48) aa5 af6 ab4 ag5 aa9 ag0 ab5 ag6 ZT ae4 ac4 ah5 ac5 ah6 ac6 ah7 ZP ae1 ab2 ag3 Z4 af0 (λ_=>rfl) (by decide) rfl (by decide) hl hm hlb (λe _ h=>by rw [aG Z5]; exact H.h181 e h) (λx _ y _ h=>ba6 x y h) h
theorem ba7 {l m:Sl Way}(hl:short l)(hm:short m)(hlb:l.l.length<big)(h:Hp) :
 Sm E TD bT 190 [.d (l.d Way.c),.d (m.d Way.c),.fn 82 [],.fn 191 []] h=some (.tup [.d (.slice m.nl ((bG Way.eqB l.l m.l).map Way.c)),.d (.slice (bO Way.id l.l m.l).isEmpty ((bO Way.id l.l m.l).map eT))],h) :=
 uW (E:=E) (T:=TD) (val:=bT) (z:=2) (b:=16) aa6 af7 ab7 ag8 ab0 ag1 ab8 ag9 ZV ae6 ac7 ah8 ac9 ai0 ad1 ai1 ac8 ah9 ad8 ai8 Z7 af2 (λ_=>rfl) (by decide) rfl (by decide) hl hm hlb (λe _ h=>by rw [aG Z8]; exact H.h184 e h) (λx _ y _ h=>ba8 x y h) h
theorem ba9 {l m:Sl Pol}(hl:short l)(hm:short m)(hlb:l.l.length<big)(hlo:∀ p∈l.l,p.ok)(hmo:∀ p∈m.l,p.ok)(h:Hp) :
 Sm E TD bT 192 [.d (l.d Pol.c),.d (m.d Pol.c),.fn 85 [],.fn 117 []] h=some (.tup [.d (.slice m.nl ((bG Pol.same l.l m.l).map Pol.c)),.d (.slice (bO Pol.id l.l m.l).isEmpty ((bO Pol.id l.l m.l).map eT))],h) :=
 uW (E:=E) (T:=TD) (val:=bT) (z:=5) (b:=64) aa7 af8 ab9 ah0 ad7 ai7 ac0 ah1 ZW ae7 ad2 ai2 ad4 ai4 ad5 ai5 ad3 ai3 ad6 ai6 aa0 af4 (λ_=>rfl) (by decide) rfl (by decide) hl hm hlb (λe _ h=>by rw [aG aa1]; exact H.h187 e h) (λx hx y hy h=>by rw [aG aa2]; exact H.h188 x y (hmo x hx) (hlo y hy) h) h
def dlt0:Dlt:=⟨0,⟨true,[]⟩,⟨true,[]⟩,⟨true,[]⟩,⟨true,[]⟩,⟨true,[]⟩,⟨true,[]⟩,⟨true,[]⟩,⟨true,[]⟩,⟨true,[]⟩⟩
def bC (a b:Vw):Dlt:=A7 a b b.pods.nl b.services.nl b.bound.nl b.policies.nl (bO Pod.uid a.pods.l b.pods.l).isEmpty (bO Svc.id a.services.l b.services.l).isEmpty (bO Way.id a.bound.l b.bound.l).isEmpty (bO Pol.id a.policies.l b.policies.l).isEmpty (gm a b)
theorem bb4 (a b:Vw)(ha:a.ok)(hwa:∀ p∈a.policies.l,p.wf big)(hb:b.ok)(hwb:∀ p∈b.policies.l,p.wf big)(hno:(aY a&&aY b)=false)(h:Hp):Sm E TD bT 86 [a.v,b.v] h=some (.tup [ag dlt0.c,.d (i64 1)],h):=by
 have k1:=λh=>(aG (T:=TD) (val:=bT) Px:_=E 74 [a.v] h).trans (H.h62 a ha hwa h);have k2:=λh=>(aG (T:=TD) (val:=bT) Px:_=E 74 [b.v] h).trans (H.h62 b hb hwb h);rw [aN ad9 ai9];cases m1:aY a with
 | false=>simp +decide [aa,r58,k1,m1,az]; rfl
 | true =>
  have m2:aY b=false:=by simpa [m1] using hno
  simp +decide [aa,r58,k1,k2,m1,m2,az]; rfl
theorem D58 (a b:Vw)(ha:a.ok)(hwa:∀ p∈a.policies.l,p.wf big)(hb:b.ok)(hwb:∀ p∈b.policies.l,p.wf big)(m1:aY a=true)(m2:aY b=true)(h:Hp):Sm E TD bT 86 [a.v,b.v] h=some (.tup [ag (bC a b).c,.d (i64 0)],h):=by
 have k1:=λh=>(aG (T:=TD) (val:=bT) Px:_=E 74 [a.v] h).trans (H.h62 a ha hwa h);have k2:=λh=>(aG (T:=TD) (val:=bT) Px:_=E 74 [b.v] h).trans (H.h62 b hb hwb h);rw [m1] at k1;rw [m2] at k2;obtain ⟨r1,r2,r3,r4⟩:=zK m1;have hbig:(32:Nat)<big:=by decide
 have a1:=ed r1; have a2:=ed r2; have a3:=ed r3; have a4:=ed r4;have p1:=λh=>ba3 H (l:=a.pods) (m:=b.pods) ha.2.1 hb.2.1 (by omega) h;have p2:=λh=>ba5 H (l:=a.services) (m:=b.services) ha.2.2.1 hb.2.2.1 (by omega) h;have p3:=λh=>ba7 H (l:=a.bound) (m:=b.bound) ha.2.2.2.1 hb.2.2.2.1 (by omega) h;have hok:∀ {x:Pol},x.wf big->x.ok:=λh=>h.fits;have p4:=λh=>ba9 H (l:=a.policies) (m:=b.policies) ha.2.2.2.2.1 hb.2.2.2.2.1 (by omega) (λp hp=>hok (hwa p hp)) (λp hp=>hok (hwb p hp)) h;have k154:=λh=>ek (E:=E) (T:=TD) (val:=bT) (cells:=bn) ZQ ae2 (by decide) (by decide) (λ_=>rfl) hb.1 h;have hfs:∀ p∈bG Pol.same a.policies.l b.policies.l,p∈b.policies.l:=λp hp=>(List.mem_filter.1 hp).1;have hfl:(bG Pol.same a.policies.l b.policies.l).length<=b.policies.l.length:=List.length_filter_le _ _;have k189:∀ h,Sm E TD bT 83 [.d (.slice b.policies.nl ((bG Pol.same a.policies.l b.policies.l).map Pol.c))] h=some (.d (.slice b.policies.nl ((gm a b).map Pol.c)),h):=λh=>by
  rw [aG aa3];exact H.h189 ⟨b.policies.nl,bG Pol.same a.policies.l b.policies.l⟩ ⟨ch hfl hb.2.2.2.2.1.1,λhn=>by
   show bG Pol.same a.policies.l b.policies.l=[];have hh:b.policies.l=[]:=hb.2.2.2.2.1.2 hn;rw [bG,hh]; rfl⟩ (λp hp=>hok (hwb p (hfs p hp))) h
 have hD:ag (bC a b).c=ag [u64 b.epoch,b.covers.d bn,.slice b.pods.nl ((bG Pod.eqB a.pods.l b.pods.l).map Pod.c),.slice b.services.nl ((bG Svc.eqB a.services.l b.services.l).map Svc.c),.slice b.bound.nl ((bG Way.eqB a.bound.l b.bound.l).map Way.c),.slice b.policies.nl ((gm a b).map Pol.c),
  .slice (bO Pod.uid a.pods.l b.pods.l).isEmpty ((bO Pod.uid a.pods.l b.pods.l).map eT),.slice (bO Svc.id a.services.l b.services.l).isEmpty ((bO Svc.id a.services.l b.services.l).map eT),.slice (bO Way.id a.bound.l b.bound.l).isEmpty ((bO Way.id a.bound.l b.bound.l).map eT),.slice (bO Pol.id a.policies.l b.policies.l).isEmpty ((bO Pol.id a.policies.l b.policies.l).map eT)]:=rfl
 rw [hD];clear hD hfs hfl;generalize gm a b=F4 at *;generalize bG Pod.eqB a.pods.l b.pods.l=F1 at *;generalize bG Svc.eqB a.services.l b.services.l=F2 at *;generalize bG Way.eqB a.bound.l b.bound.l=F3 at *;generalize bG Pol.same a.policies.l b.policies.l=F5 at *;generalize bO Pod.uid a.pods.l b.pods.l=G1 at *;generalize bO Svc.id a.services.l b.services.l=G2 at *;generalize bO Way.id a.bound.l b.bound.l=G3 at *;generalize bO Pol.id a.policies.l b.policies.l=G4 at *;rw [aN ad9 ai9];simp +decide [aa,r58,az,k1,k2,p1,p2,p3,p4,k154,k189,aA,ae];all_goals first | rfl | done
end
end
section
theorem JL {a b:Vw}(ha:a.ok)(hb:b.ok)(hwb:∀ p∈b.policies.l,p.wf big):(bC a b).ok/\∀ p∈(bC a b).policies.l,p.wf big:=by
 have fl:∀ {α:Type} (f:α->Bool) {s:Sl α},short s->short ⟨s.nl,s.l.filter f⟩:=λf s hs=>⟨ch (List.length_filter_le _ _) hs.1,λhn=>by
  have:s.l=[]:=hs.2 hn;show s.l.filter f=[];rw [this]; rfl⟩
 have gl:∀ {α:Type} (key:α->Int) (x y:List α),x.length<=big->short (⟨(bO key x y).isEmpty,bO key x y⟩:Sl Int):=λkey x y hx=>⟨by
  show (bO key x y).length<=big;rw [bO,cb];exact ch (List.length_filter_le _ _) hx,λhn=>List.isEmpty_iff.1 hn⟩
 have hw:∀ p∈gm a b,p.wf big:=λp hp=>by
  obtain ⟨q,hq,rfl⟩:=cd.1 hp;exact Pol.own_wf (hwb q (List.mem_filter.1 hq).1)
 refine ⟨⟨⟨hb.1,fl _ hb.2.1,fl _ hb.2.2.1,fl _ hb.2.2.2.1,?_,λp hp=>(hw p hp).fits⟩,gl _ _ _ ha.2.1.1,gl _ _ _ ha.2.2.1.1,gl _ _ _ ha.2.2.2.1.1,gl _ _ _ ha.2.2.2.2.1.1⟩,hw⟩;refine ⟨?_,λhn=>?_⟩
 . show (gm a b).length<=big;rw [gm,cb];exact ch (List.length_filter_le _ _) hb.2.2.2.2.1.1
 . have:b.policies.l=[]:=hb.2.2.2.2.1.2 hn;show gm a b=[];rw [gm,bG,this]; rfl
end
section
theorem SX {c:Cfg}(hc:c.ok)(hoo:c.own.ok){s:Scp}{nl:Bool}(hn:nl=true->eU c s=[])(hsz:s.addrs.l.length+c.services.l.length<=big):(ofT c s ⟨nl,eU c s⟩).ok:=by
 have f1:=List.length_filter_le (xe c s) c.pods.l;have f2:=List.length_filter_le (CG c s) c.services.l;have f3:=List.length_filter_le (Gp c s) c.bound.l;have f4:=List.length_filter_le (xg c s.node) (c.policies.l.map Pol.own);rw [cb] at f4;refine ⟨⟨?_,hn⟩,⟨?_,λh=>?_⟩,⟨?_,λh=>?_⟩,⟨?_,λh=>?_⟩,⟨?_,λh=>?_⟩,λp hp=>hoo.2.2.2.2 p (List.mem_filter.1 hp).1⟩
 . have h1:=vY (bI (s.addrs.l++(c.services.l.filter (kT c s.node)).map Svc.addr));have h2:(bI (s.addrs.l++(c.services.l.filter (kT c s.node)).map Svc.addr)).length=s.addrs.l.length+(c.services.l.filter (kT c s.node)).length:=by
    rw [bI,List.length_mergeSort,aq,cb]
   have h3:=List.length_filter_le (kT c s.node) c.services.l;have:(eU c s).length=(cmpL (bI (s.addrs.l++(c.services.l.filter (kT c s.node)).map Svc.addr))).length:=rfl;show (eU c s).length<=big;omega
 . exact ch f1 hc.1.1
 . show c.pods.l.filter _=[];rw [hc.1.2 h]; rfl
 . exact ch f2 hc.2.1.1
 . show c.services.l.filter _=[];rw [hc.2.1.2 h]; rfl
 . exact ch f3 hc.2.2.1.1
 . show c.bound.l.filter _=[];rw [hc.2.2.1.2 h]; rfl
 . exact ch f4 hc.2.2.2.1.1
 . show (c.policies.l.map Pol.own).filter _=[];rw [hc.2.2.2.1.2 h]; rfl
end
section
def Idx.own (x:Idx):Idx:={ x with view:=x.view.own }
def Wk (x:Idx)(n:Int):List V:=x.c.map .d++[.d (u64 n)]
section
variable {x:Idx}{n:Int}
@[simp] theorem Wk.len:(Wk x n).length=15:=(rfl)
@[simp] theorem Wk.s0_14:sub (Wk x n) 0 14=some (x.c.map .d):=(rfl)
@[simp] theorem Wk.s1_1:sub (Wk x n) 1 1=some [.d (u64 x.inc)]:=(rfl)
@[simp] theorem Wk.s2_1:sub (Wk x n) 2 1=some [.d (u64 x.asked)]:=(rfl)
@[simp] theorem Wk.s3_1:sub (Wk x n) 3 1=some [.d (x.addrs.d bn)]:=(rfl)
@[simp] theorem Wk.s5_1:sub (Wk x n) 5 1=some [.d (u64 x.life)]:=(rfl)
@[simp] theorem Wk.s6_1:sub (Wk x n) 6 1=some [.d (u64 x.seq)]:=(rfl)
@[simp] theorem Wk.s7_6:sub (Wk x n) 7 6=some (x.view.c.map .d):=(rfl)
@[simp] theorem Wk.s13_1:sub (Wk x n) 13 1=some [.d (u64 x.high)]:=(rfl)
@[simp] theorem Wk.s14_1:sub (Wk x n) 14 1=some [.d (u64 n)]:=(rfl)
@[simp] theorem Wk.p2 {m:Int}:put (Wk x n) 2 [.d (u64 m)]=some (Wk { x with asked:=m } n):=(rfl)
@[simp] theorem Wk.p4 {m:Int}:put (Wk x n) 4 [.d (u64 m)]=some (Wk { x with since:=m } n):=(rfl)
@[simp] theorem Wk.p5 {m:Int}:put (Wk x n) 5 [.d (u64 m)]=some (Wk { x with life:=m } n):=(rfl)
@[simp] theorem Wk.p6 {m:Int}:put (Wk x n) 6 [.d (u64 m)]=some (Wk { x with seq:=m } n):=(rfl)
@[simp] theorem Wk.p7 {v:Vw}:put (Wk x n) 7 (v.c.map .d)=some (Wk { x with view:=v } n):=(rfl)
@[simp] theorem Wk.p13 {m:Int}:put (Wk x n) 13 [.d (u64 m)]=some (Wk { x with high:=m } n):=(rfl)
@[simp] theorem Idx.p3:put (x.c.map V.d) 3 [.d (x.addrs.d bn)]=some (x.c.map .d):=(rfl)
@[simp] theorem Idx.p7 {v:Vw}:put (x.c.map V.d) 7 (v.c.map .d)=some ((Idx.c { x with view:=v }).map .d):=(rfl)
end
section
variable {E:Calls'}
theorem jL:vw0.ok:=⟨⟨Nat.zero_le _,λ_=>rfl⟩,⟨Nat.zero_le _,λ_=>rfl⟩,⟨Nat.zero_le _,λ_=>rfl⟩,⟨Nat.zero_le _,λ_=>rfl⟩,⟨Nat.zero_le _,λ_=>rfl⟩,λp hp=>by cases hp⟩
def Idx.same (a b:Idx):Bool:=(a.node==b.node&&(a.inc==b.inc&&(a.asked==b.asked&&(a.since==b.since&&(a.life==b.life&&(a.seq==b.seq&&a.high==b.high))))))&&(all2 (λx y:Int=>x==y) a.addrs.l b.addrs.l&&a.view.same b.view)
end
end
section
section
variable {x:Idx}
@[simp] theorem Idx.own_node:x.own.node=x.node:=(rfl)
@[simp] theorem Idx.own_inc:x.own.inc=x.inc:=(rfl)
@[simp] theorem Idx.own_life:x.own.life=x.life:=(rfl)
@[simp] theorem Idx.own_seq:x.own.seq=x.seq:=(rfl)
@[simp] theorem Idx.own_high:x.own.high=x.high:=(rfl)
@[simp] theorem Idx.own_view:x.own.view=x.view.own:=(rfl)
end
theorem Vw.own_ok {v:Vw}(hv:v.ok)(hw:∀ p∈v.policies.l,p.wf big):v.own.ok/\∀ p∈v.own.policies.l,p.wf big:=by
 have hw':∀ p∈v.own.policies.l,p.wf big:=λp hp=>by
  obtain ⟨q,hq,rfl⟩:=cd.1 hp;exact Pol.own_wf (hw q hq)
 refine ⟨⟨hv.1,hv.2.1,hv.2.2.1,hv.2.2.2.1,⟨?_,λh=>?_⟩,λp hp=>(hw' p hp).fits⟩,hw'⟩
 . show (v.policies.l.map Pol.own).length<=big;rw [cb]; exact hv.2.2.2.2.1.1
 . show v.policies.l.map Pol.own=[];have e:v.policies.l=[]:=hv.2.2.2.2.1.2 h;rw [e]; rfl
end
section
theorem Sl.wf.le {α:Type}{B B':Nat}(hB:B<=B'){f:Nat->α->Prop}(hf:∀ x,f B x->f B' x){s:Sl α}(h:s.wf B f):s.wf B' f:=⟨h.1.le hB,λx hx=>hf x (h.2 x hx)⟩
section
variable {B B':Nat}(hB:B<=B')
include hB
theorem Pod.wf.le {x:Pod}(h:x.wf B):x.wf B':=⟨h.1,ch h.2.1 hB,ch h.2.2.1 hB,h.2.2.2⟩
theorem Svc.wf.le {x:Svc}(h:x.wf B):x.wf B':=⟨h.1,ch h.2.1 hB,h.2.2⟩
omit hB in
theorem Way.wf.le {x:Way}(h:x.wf B):x.wf B':=⟨h.1,h.2⟩
theorem Term.wf.le {x:Term}(h:x.wf B):x.wf B':=⟨h.1,ch h.2 hB⟩
omit hB in
theorem Cidr.wf.le {x:Cidr}(h:x.wf B):x.wf B':=⟨h.1,h.2⟩
theorem Source.wf.le {x:Source}(h:x.wf B):x.wf B':=⟨Sl.wf.le hB (λ_=>Term.wf.le hB) h.1,Sl.wf.le hB (λ_=>Term.wf.le hB) h.2.1,Sl.wf.le hB (λ_=>Cidr.wf.le) h.2.2⟩
theorem Target.wf.le {x:Target}(h:x.wf B):x.wf B':=⟨Sl.wf.le hB (λ_ h=>h) h.1,Sl.wf.le hB (λ_=>Term.wf.le hB) h.2.1,Sl.wf.le hB (λ_=>Term.wf.le hB) h.2.2.1,Sl.wf.le hB (λ_=>Term.wf.le hB) h.2.2.2⟩
theorem When.wf.le {x:When}(h:x.wf B):x.wf B':=⟨ch h.1 hB,Sl.wf.le hB (λ_=>Term.wf.le hB) h.2⟩
theorem Rule.wf.le {x:Rule}(h:x.wf B):x.wf B':=⟨Sl.wf.le hB (λ_=>Source.wf.le hB) h.1,Sl.wf.le hB (λ_=>Target.wf.le hB) h.2.1,Sl.wf.le hB (λ_=>When.wf.le hB) h.2.2⟩
theorem Pol.wf.le {x:Pol}(h:x.wf B):x.wf B':=⟨h.1,ch h.2.1 hB,h.2.2.1,h.2.2.2.1,Sl.wf.le hB (λ_=>Rule.wf.le hB) h.2.2.2.2⟩
theorem Cfg.wf.le {x:Cfg}(h:x.wf B):x.wf B':=⟨h.1,h.2.1,h.2.2.1,h.2.2.2.1,Sl.wf.le hB (λ_=>Pod.wf.le hB) h.2.2.2.2.1,Sl.wf.le hB (λ_=>Svc.wf.le hB) h.2.2.2.2.2.1,Sl.wf.le hB (λ_=>Way.wf.le) h.2.2.2.2.2.2.1,Sl.wf.le hB (λ_=>Pol.wf.le hB) h.2.2.2.2.2.2.2⟩
end
end
section
def df1:List (Nat×QF):=[(12,r73),(11,r74),(15,r76),(17,r77),(4,r79),(10,r86),(28,Ij),(29,kL),(19,Ik),(34,D5),(31,Lc)]
def TF:FuncId->Option QF:=iW df1
def bV (f:FuncId):Bool:=[12,11,15,17,4,10,31,19].any λn=>Nat.beq n f
theorem Du:TF 12=some r73:=by kernel_rfl
theorem Dv:bV 12=true:=by kernel_rfl
theorem bu6:TF 11=some r74:=by kernel_rfl
theorem bu7:bV 11=true:=by kernel_rfl
theorem zD:TF 15=some r76:=by kernel_rfl
theorem zF:bV 15=true:=by kernel_rfl
theorem J9:TF 17=some r77:=by kernel_rfl
theorem Kb:bV 17=true:=by kernel_rfl
theorem J8:TF 28=some Ij:=by kernel_rfl
theorem Ka:bV 28=false:=by kernel_rfl
theorem iD:TF 29=some kL:=by kernel_rfl
theorem iE:bV 29=false:=by kernel_rfl
theorem XZ:TF 19=some Ik:=by kernel_rfl
theorem X5:bV 19=true:=by kernel_rfl
theorem Fs:TF 34=some D5:=by kernel_rfl
theorem Fv:bV 34=false:=by kernel_rfl
theorem Fq:TF 31=some (cloneQ 1 4 [(.d (.int .u32 0))]):=by kernel_rfl
theorem Fu:bV 31=true:=by kernel_rfl
theorem X0:TF 35=none:=by kernel_rfl
theorem bu5:TF 30=none:=by kernel_rfl
theorem Nz:TF 86=none:=by kernel_rfl
theorem X3:TF 36=none:=by kernel_rfl
theorem X4:TF 74=none:=by kernel_rfl
theorem Dt:TF 33=none:=by kernel_rfl
def OfR (c:Cfg)(s:Scp)(v:Vw)(e:Int):Prop:=(e=0/\bK c=true/\bW s=true/\∃ nl,(nl=true->eU c s=[])/\v=ofT c s ⟨nl,eU c s⟩)\/(e=1/\v=vw0/\(bK c&&bW s)=false)
structure FeedH (E:Calls'):Prop where
 h51n:∀ c:Cfg,c.wf 1048576->c.wf big->∀ s:Scp,short s.addrs->(bK c&&bW s)=false->∀ h,E 35 [c.v,s.v] h=some (.tup [vw0.v,.d (i64 1)],h)
 h51:∀ c:Cfg,c.wf 1048576->c.wf big->c.ok->c.own.ok->∀ s:Scp,short s.addrs->bK c=true->bW s=true->s.addrs.l.length+c.services.l.length<=big->∃ nl,(nl=true->eU c s=[])/\∀ h,E 35 [c.v,s.v] h=some (.tup [(ofT c s ⟨nl,eU c s⟩).v,.d (i64 0)],h)
 h54:∀ s:Scp,short s.addrs->∀ h,E 30 [s.v] h=some (bl (bW s),h)
 h58n:∀ a b:Vw,a.ok->(∀ p∈a.policies.l,p.wf big)->b.ok->(∀ p∈b.policies.l,p.wf big)->(aY a&&aY b)=false->∀ h,E 86 [a.v,b.v] h=some (.tup [ag dlt0.c,.d (i64 1)],h)
 h58:∀ a b:Vw,a.ok->(∀ p∈a.policies.l,p.wf big)->b.ok->(∀ p∈b.policies.l,p.wf big)->aY a=true->aY b=true->∀ h,E 86 [a.v,b.v] h=some (.tup [ag (bC a b).c,.d (i64 0)],h)
 h60:∀ a b:Vw,a.ok->∀ h,E 36 [a.v,b.v] h=some (bl (a.same b),h)
 h62:∀ v:Vw,v.ok->(∀ p∈v.policies.l,p.wf big)->∀ h,E 74 [v.v] h=some (bl (aY v),h)
 h66:∀ v:Vw,v.ok->∀ h,E 33 [v.v] h=some (v.own.v,h)
 h133:∀ s t:Sl Int,s.l.length<2 ^ 62->∀ h,E 112 [.d (s.d bn),.d (t.d bn)] h=some (bl (all2 (λx y:Int=>x==y) s.l t.l),h)
structure CfgOk (c:Cfg):Prop where
 w1:c.wf 1048576
theorem CfgOk.w2 {c:Cfg}(h:CfgOk c):c.wf big:=Cfg.wf.le (by decide) h.w1
theorem CfgOk.ok {c:Cfg}(h:CfgOk c):c.ok:=h.w2.ok (br _)
theorem CfgOk.own {c:Cfg}(h:CfgOk c):c.own.ok:=(Cfg.own_wf h.w2).ok (br _)
theorem yK {s:Scp}(h:bW s=true):s.addrs.l.length<=32:=by
 simp only [bW,gI,aw,bw] at h;omega
theorem CJ {c:Cfg}(h:bK c=true):c.services.l.length<=6:=by
 simp only [bK,fu,aw,bw] at h;omega
theorem OfR.of {c:Cfg}{s:Scp}{v:Vw}{e:Int}(h:OfR c s v e)(hc:CfgOk c):v.ok/\(∀ p∈v.policies.l,p.wf big)/\(e=0->aY v=true):=by
 obtain ⟨rfl,h1,h2,nl,hn,rfl⟩ | ⟨rfl,rfl,_⟩:=h
 . have a:=yK h2;have b:=CJ h1;have hb:38<=big:=by decide
   refine ⟨SX hc.ok hc.own hn (by omega),λp hp=>?_,λ_=>SN h1 h2⟩;have hw:=(Cfg.own_wf hc.w2).2.2.2.2.2.2.2.2;exact hw p (List.mem_filter.1 hp).1
 . exact ⟨jL,(λp hp=>by cases hp),λh=>by cases h⟩
def fV (w:Fd)(v:Vw)(e:Int):Bool:=!(e==0)||(w.inc==0||(!(w.out==0)||((!(w.upon==0)&&w.base.same v)||(!aY w.base||decide (w.seq>=4611686018427387903)))))
def bN (w:Fd)(v:Vw)(now:Int):Fd:={ w with seq:=IntKind.wrap .u64 (w.seq+1),sent:=v,out:=1,since:=now }
def dH (w:Fd)(d:Dlt):Psh:=⟨w.life,w.inc,w.seq,w.upon,d⟩
def fG (l:List Psh):D:=Sl.d Psh.c ⟨l.isEmpty,l⟩
def GoOn (c:Cfg)(now:Int)(w w':Fd)(l:List Psh):Prop:=∃ v e,OfR c ⟨w.node,w.addrs⟩ v e/\((fV w v e=true/\w'=w/\l=[])\/(fV w v e=false/\w'=bN w v now/\l=[dH w' (bC w.base v)]))
def fdZ:List V:=[.d (i64 0),.d (.int .u64 0),.d (.int .u64 0),.d (.int .u64 0),.d (.slice true []),.d (.int .u64 0),.d (i64 0),.d (.int .u64 0),.d (.slice true []),.d (.slice true []),.d (.slice true []),.d (.slice true []),.d (.slice true []),.d (.int .u64 0),.d (.int .u64 0),.d (.slice true []),.d (.slice true []),.d (.slice true []),.d (.slice true []),.d (.slice true []),.d (.int .u64 0),.d (.int .u64 0)]
theorem z22 (x:Fd):put [V.d (i64 0),.d (.int .u64 0),.d (.int .u64 0),.d (.int .u64 0),.d (.slice true []),.d (.int .u64 0),.d (i64 0),.d (.int .u64 0),.d (.slice true []),.d (.slice true []),.d (.slice true []),.d (.slice true []),.d (.slice true []),.d (.int .u64 0),.d (.int .u64 0),.d (.slice true []),.d (.slice true []),.d (.slice true []),.d (.slice true []),.d (.slice true []),.d (.int .u64 0),.d (.int .u64 0)] 0 (x.c.map V.d)=some (x.c.map .d):=rfl
theorem z6v (x:Vw):put [V.d (.int .u64 0),.d (.slice true []),.d (.slice true []),.d (.slice true []),.d (.slice true []),.d (.slice true [])] 0 (x.c.map V.d)=some (x.c.map V.d):=rfl
theorem Qa (x:Dlt):put [V.d (.int .u64 0),.d (.slice true []),.d (.slice true []),.d (.slice true []),.d (.slice true []),.d (.slice true []),.d (.slice true []),.d (.slice true []),.d (.slice true []),.d (.slice true [])] 0 (x.c.map V.d)=some (x.c.map V.d):=rfl
theorem bP (n:Nat)(l:List D):V.under n (ag l)=true:=by
 simp only [ag,V.under]
 induction l with
 | nil=>rfl
 | cons x l ih=>simpa [V.under.go,V.under] using ih
theorem wG {ev:X->V}{z:List V}{a b:X}{x:Fd}{n:Int}(hz:z.length=23)(ha:ev a=ag x.c)(hb:ev b=.d (u64 n)):az ev z [(0,22,a),(22,1,b)]=some (Fw x n):=by
 have h1:(x.c.map V.d).length=22:=rfl;have p1:put z 0 (x.c.map V.d)=some (x.c.map V.d++z.drop 22):=by
  unfold put;rw [if_pos (by rw [h1,hz]; omega),h1];simp
 have p2:put (x.c.map V.d++z.drop 22) 22 [V.d (u64 n)]=some (Fw x n):=by
  have e2:(x.c.map V.d++z.drop 22).drop (22+[V.d (u64 n)].length)=[]:=bb (by rw [aq,h1,List.length_drop,hz]; simp);unfold put;rw [if_pos (by rw [aq,h1,List.length_drop,hz]; simp),List.take_left' h1,e2,List.append_nil];rfl
 simp only [az,ha,hb,oJ,EY,h1,if_true,p1,p2,cj,ck]
theorem wH {ev:X->V}{z:List V}{a b c d x:X}{p:Psh}(hz:z.length=14)(ha:ev a=.d (u64 p.life))(hb:ev b=.d (u64 p.inc))(hc:ev c=.d (u64 p.seq))(hd:ev d=.d (u64 p.upon))(hx:ev x=ag p.delta.c) :
 az ev z [(0,1,a),(1,1,b),(2,1,c),(3,1,d),(4,10,x)]=some (p.c.map .d):=by
 have hl:(p.delta.c.map V.d).length=10:=rfl;obtain ⟨z0,z1,z2,z3,z4,z5,z6,z7,z8,z9,z10,z11,z12,z13,rfl⟩:∃ z0 z1 z2 z3 z4 z5 z6 z7 z8 z9 z10 z11 z12 z13,z=[z0,z1,z2,z3,z4,z5,z6,z7,z8,z9,z10,z11,z12,z13]:=by
  match z,hz with
  | [z0,z1,z2,z3,z4,z5,z6,z7,z8,z9,z10,z11,z12,z13],_=>exact ⟨_,_,_,_,_,_,_,_,_,_,_,_,_,_,rfl⟩
 simp only [az,ha,hb,hc,hd,hx,oJ,EY,hl,if_true,cj,ck];rfl
theorem Fd.own_ok {x:Fd}(h:FdOk x):FdOk x.own:=⟨h.addrs,(Vw.own_ok h.sent h.sentw).1,(Vw.own_ok h.sent h.sentw).2,(Vw.own_ok h.base h.basew).1,(Vw.own_ok h.base h.basew).2⟩
section
variable {E:Calls'}(H:FeedH E)
include H in
theorem Rs (x:Fd)(hx:FdOk x)(now:Int)(a0 a1:Blk)(lo:Nat):Sm E TF bV 28 [x.v,.d (u64 now)] ⟨[a0,a1],lo⟩=some (.ptr 3 0,⟨[a0,a1,.cells (x.own.c.map .d),.cells (Fw x.own now)],min lo 2⟩):=by
 have n1:=λh=>ek (E:=E) (T:=TF) (val:=bV) (cells:=bn) Fq Fu (by decide) (by decide) (λ_=>rfl) hx.addrs h;have n2:∀ h,Sm E TF bV 33 [x.sent.v] h=some (x.sent.own.v,h):=λh=>by rw [aG Dt]; exact H.h66 x.sent hx.sent h
 have n3:∀ h,Sm E TF bV 33 [x.base.v] h=some (x.base.own.v,h):=λh=>by rw [aG Dt]; exact H.h66 x.base hx.base h
 have e1:({ x with sent:=x.sent.own,base:=x.base.own }:Fd)=x.own:=rfl;have hf:∀ {ev:X->V} {p q:X},ev p=ag x.own.c->ev q=.d (u64 now)->az ev [.d (i64 0),.d (.int .u64 0),.d (.int .u64 0),.d (.int .u64 0),.d (.slice true []),.d (.int .u64 0),.d (i64 0),.d (.int .u64 0),.d (.slice true []),.d (.slice true []),.d (.slice true []),.d (.slice true []),.d (.slice true []),.d (.int .u64 0),.d (.int .u64 0),.d (.slice true []),.d (.slice true []),.d (.slice true []),.d (.slice true []),.d (.slice true []),.d (.int .u64 0),.d (.int .u64 0),.d (.int .u64 0)] [(0,22,p),(22,1,q)]=some (Fw x.own now):=λhp hq=>wG rfl hp hq;rw [av J8 Ka];simp +decide [aa,Ij,n1,n2,n3,e1,hf,aA,ae,V.under]
include H in
theorem Jj (x:Fd)(hx:FdOk x)(now:Int)(a0 a1 a2 a3:Blk)(lo:Nat):Sm E TF bV 28 [x.v,.d (u64 now)] ⟨[a0,a1,a2,a3],lo⟩=some (.ptr 5 0,⟨[a0,a1,a2,a3,.cells (x.own.c.map .d),.cells (Fw x.own now)],min lo 4⟩):=by
 have n1:=λh=>ek (E:=E) (T:=TF) (val:=bV) (cells:=bn) Fq Fu (by decide) (by decide) (λ_=>rfl) hx.addrs h;have n2:∀ h,Sm E TF bV 33 [x.sent.v] h=some (x.sent.own.v,h):=λh=>by rw [aG Dt]; exact H.h66 x.sent hx.sent h
 have n3:∀ h,Sm E TF bV 33 [x.base.v] h=some (x.base.own.v,h):=λh=>by rw [aG Dt]; exact H.h66 x.base hx.base h
 have e1:({ x with sent:=x.sent.own,base:=x.base.own }:Fd)=x.own:=rfl;have hf:∀ {ev:X->V} {p q:X},ev p=ag x.own.c->ev q=.d (u64 now)->az ev [.d (i64 0),.d (.int .u64 0),.d (.int .u64 0),.d (.int .u64 0),.d (.slice true []),.d (.int .u64 0),.d (i64 0),.d (.int .u64 0),.d (.slice true []),.d (.slice true []),.d (.slice true []),.d (.slice true []),.d (.slice true []),.d (.int .u64 0),.d (.int .u64 0),.d (.slice true []),.d (.slice true []),.d (.slice true []),.d (.slice true []),.d (.slice true []),.d (.int .u64 0),.d (.int .u64 0),.d (.int .u64 0)] [(0,22,p),(22,1,q)]=some (Fw x.own now):=λhp hq=>wG rfl hp hq;rw [av J8 Ka];simp +decide [aa,Ij,n1,n2,n3,e1,hf,aA,ae,V.under]
include H in
theorem Q0 (w:Fd)(hw:FdOk w)(now:Int)(m1:aY w.base=true)(m2:aY w.sent=true)(a0 a1 a2:Blk)(lo:Nat):Sm E TF bV 34 [.ptr 3 0] ⟨[a0,a1,a2,.cells (Fw w now)],lo⟩ =
 some (.row 5 0 1 (some 1) 14,⟨[a0,a1,a2,.cells (Fw w now),.cells ((bC w.base w.sent).c.map .d),.cells ((dH w (bC w.base w.sent)).c.map .d)],min lo 4⟩):=by
 have n1:∀ h,Sm E TF bV 86 [w.base.v,w.sent.v] h=some (.tup [ag (bC w.base w.sent).c,.d (i64 0)],h):=λh=>by rw [aG Nz]; exact H.h58 _ _ hw.base hw.basew hw.sent hw.sentw m1 m2 h
 have z10:=Qa;have hs:∀ x:Dlt,sub (x.c.map V.d) 0 10=some (x.c.map V.d):=λ_=>rfl;have hf:∀ {ev:X->V} {a b c d x:X},ev a=.d (u64 w.life)->ev b=.d (u64 w.inc)->ev c=.d (u64 w.seq)->ev d=.d (u64 w.upon)->ev x=ag (bC w.base w.sent).c->az ev [.d (.int .u64 0),.d (.int .u64 0),.d (.int .u64 0),.d (.int .u64 0),.d (.int .u64 0),.d (.slice true []),.d (.slice true []),.d (.slice true []),.d (.slice true []),.d (.slice true []),.d (.slice true []),.d (.slice true []),.d (.slice true []),.d (.slice true [])] [(0,1,a),(1,1,b),(2,1,c),(3,1,d),(4,10,x)]=some ((dH w (bC w.base w.sent)).c.map .d):=λh1 h2 h3 h4 h5=>wH (p:=dH w (bC w.base w.sent)) rfl h1 h2 h3 h4 h5;have hl:((dH w (bC w.base w.sent)).c.map V.d).length=14:=rfl;have hg:∀ {ev:X->V} {a:X},ev a=ag (dH w (bC w.base w.sent)).c->az ev [.d (.int .u64 0),.d (.int .u64 0),.d (.int .u64 0),.d (.int .u64 0),.d (.int .u64 0),.d (.slice true []),.d (.slice true []),.d (.slice true []),.d (.slice true []),.d (.slice true []),.d (.slice true []),.d (.slice true []),.d (.slice true []),.d (.slice true [])] [(0,14,a)]=some ((dH w (bC w.base w.sent)).c.map .d):=λh1=>by simp only [az,h1,oJ,hl,if_true]; rfl
 rw [av Fs Fv];generalize bC w.base w.sent=d at *;simp +decide [aa,D5,n1,z10,hs,hf,hg,aA,ae,V.under]
include H in
theorem Q5 (w:Fd)(hw:FdOk w)(now:Int)(m1:aY w.base=true)(m2:aY w.sent=true)(a0 a1 a2 a3 a4 a6 a7 a8:Blk)(lo:Nat):Sm E TF bV 34 [.ptr 5 0] ⟨[a0,a1,a2,a3,a4,.cells (Fw w now),a6,a7,a8],lo⟩ =
 some (.row 10 0 1 (some 1) 14,⟨[a0,a1,a2,a3,a4,.cells (Fw w now),a6,a7,a8,.cells ((bC w.base w.sent).c.map .d),.cells ((dH w (bC w.base w.sent)).c.map .d)],min lo 9⟩):=by
 have n1:∀ h,Sm E TF bV 86 [w.base.v,w.sent.v] h=some (.tup [ag (bC w.base w.sent).c,.d (i64 0)],h):=λh=>by rw [aG Nz]; exact H.h58 _ _ hw.base hw.basew hw.sent hw.sentw m1 m2 h
 have z10:=Qa;have hs:∀ x:Dlt,sub (x.c.map V.d) 0 10=some (x.c.map V.d):=λ_=>rfl;have hf:∀ {ev:X->V} {a b c d x:X},ev a=.d (u64 w.life)->ev b=.d (u64 w.inc)->ev c=.d (u64 w.seq)->ev d=.d (u64 w.upon)->ev x=ag (bC w.base w.sent).c->az ev [.d (.int .u64 0),.d (.int .u64 0),.d (.int .u64 0),.d (.int .u64 0),.d (.int .u64 0),.d (.slice true []),.d (.slice true []),.d (.slice true []),.d (.slice true []),.d (.slice true []),.d (.slice true []),.d (.slice true []),.d (.slice true []),.d (.slice true [])] [(0,1,a),(1,1,b),(2,1,c),(3,1,d),(4,10,x)]=some ((dH w (bC w.base w.sent)).c.map .d):=λh1 h2 h3 h4 h5=>wH (p:=dH w (bC w.base w.sent)) rfl h1 h2 h3 h4 h5;have hl:((dH w (bC w.base w.sent)).c.map V.d).length=14:=rfl;have hg:∀ {ev:X->V} {a:X},ev a=ag (dH w (bC w.base w.sent)).c->az ev [.d (.int .u64 0),.d (.int .u64 0),.d (.int .u64 0),.d (.int .u64 0),.d (.int .u64 0),.d (.slice true []),.d (.slice true []),.d (.slice true []),.d (.slice true []),.d (.slice true []),.d (.slice true []),.d (.slice true []),.d (.slice true []),.d (.slice true [])] [(0,14,a)]=some ((dH w (bC w.base w.sent)).c.map .d):=λh1=>by simp only [az,h1,oJ,hl,if_true]; rfl
 rw [av Fs Fv];generalize bC w.base w.sent=d at *;simp +decide [aa,D5,n1,z10,hs,hf,hg,aA,ae,V.under]
include H in
theorem W9 (w:Fd)(hw:FdOk w)(now:Int)(m:(aY w.base&&aY w.sent)=false)(a0 a1 a2:Blk)(lo:Nat):Sm E TF bV 34 [.ptr 3 0] ⟨[a0,a1,a2,.cells (Fw w now)],lo⟩=some (.d (.slice true []),⟨[a0,a1,a2,.cells (Fw w now)],lo⟩):=by
 have n1:∀ h,Sm E TF bV 86 [w.base.v,w.sent.v] h=some (.tup [ag dlt0.c,.d (i64 1)],h):=λh=>by rw [aG Nz]; exact H.h58n _ _ hw.base hw.basew hw.sent hw.sentw m h
 have z10:=Qa;rw [av Fs Fv];simp +decide [aa,D5,n1,z10,aA,ae,V.under]
include H in
theorem H51 (c:Cfg)(hc:CfgOk c)(s:Scp)(hs:short s.addrs):∃ v e,OfR c s v e/\∀ h,Sm E TF bV 35 [c.v,s.v] h=some (.tup [v.v,.d (i64 e)],h):=by
 cases hm:bK c&&bW s with
 | false=>exact ⟨vw0,1,.inr ⟨rfl,rfl,hm⟩,λh=>by rw [aG X0]; exact H.h51n c hc.w1 hc.w2 s hs hm h⟩
 | true =>
  simp only [aw] at hm;have a:=yK hm.2;have b:=CJ hm.1;have hb:38<=big:=by decide
  obtain ⟨nl,k1,k2⟩:=H.h51 c hc.w1 hc.w2 hc.ok hc.own s hs hm.1 hm.2 (by omega);exact ⟨_,0,.inl ⟨rfl,hm.1,hm.2,nl,k1,rfl⟩,λh=>by rw [aG X0]; exact k2 h⟩
include H in
theorem MI (w:Fd)(hw:FdOk w)(c:Cfg)(hc:CfgOk c)(now:Int):∃ w' l,GoOn c now w w' l/\FdOk w' ∧
 ((l=[]/\w'=w/\∀ a0 a1 a2 a3 a4 lo,Sm E TF bV 29 [.ptr 5 0,c.v] ⟨[a0,a1,a2,a3,a4,.cells (Fw w now)],lo⟩=some (.tup [w.v,.d (.slice true [])],⟨[a0,a1,a2,a3,a4,.cells (Fw w now)],lo⟩)) ∨
 (∃ p,l=[p]/\∀ a0 a1 a2 a3 a4 lo,∃ b6 b7 b8 b9,Sm E TF bV 29 [.ptr 5 0,c.v] ⟨[a0,a1,a2,a3,a4,.cells (Fw w now)],lo⟩=some (.tup [w'.v,.row 10 0 1 (some 1) 14],⟨[a0,a1,a2,a3,a4,.cells (Fw w' now),b6,b7,b8,b9,.cells (p.c.map .d)],min lo 5⟩))):=by
 obtain ⟨v,e,hO,n1⟩:=H51 H c hc ⟨w.node,w.addrs⟩ hw.addrs;obtain ⟨hv,hvw,hvm⟩:=hO.of hc;have n1':∀ h,Sm E TF bV 35 [c.v,.agg [.d (i64 w.node),.d (w.addrs.d bn)]] h=some (.tup [v.v,.d (i64 e)],h):=n1;have n2:∀ h,Sm E TF bV 36 [w.base.v,v.v] h=some (bl (w.base.same v),h):=λh=>by rw [aG X3]; exact H.h60 _ _ hw.base h
 have n3:∀ h,Sm E TF bV 74 [w.base.v] h=some (bl (aY w.base),h):=λh=>by rw [aG X4]; exact H.h62 _ hw.base hw.basew h
 have y22:=z22;have y6:=z6v;by_cases h1:e=0
 case neg =>
  refine ⟨w,[],⟨v,e,hO,.inl ⟨by simp [fV,h1],rfl,rfl⟩⟩,hw,.inl ⟨rfl,rfl,λa0 a1 a2 a3 a4 lo=>?_⟩⟩;rw [av iD iE];simp +decide [aa,kL,n1',y22,y6,h1,az,aA,ae,bA,V.under,V.under.go,bP]
 by_cases h2:w.inc=0
 case pos =>
  refine ⟨w,[],⟨v,e,hO,.inl ⟨by simp [fV,h1,h2],rfl,rfl⟩⟩,hw,.inl ⟨rfl,rfl,λa0 a1 a2 a3 a4 lo=>?_⟩⟩;rw [av iD iE];simp +decide [aa,kL,n1',y22,y6,h1,h2,az,aA,ae,bA,V.under,V.under.go,bP]
 by_cases h3:w.out=0
 case neg =>
  refine ⟨w,[],⟨v,e,hO,.inl ⟨by simp [fV,h1,h2,h3],rfl,rfl⟩⟩,hw,.inl ⟨rfl,rfl,λa0 a1 a2 a3 a4 lo=>?_⟩⟩;rw [av iD iE];simp +decide [aa,kL,n1',y22,y6,h1,h2,h3,az,aA,ae,bA,V.under,V.under.go,bP]
 have go:∀ hst:fV w v e=false,(∀ a0 a1 a2 a3 a4 lo,∃ b6 b7 b8 b9,Sm E TF bV 29 [.ptr 5 0,c.v] ⟨[a0,a1,a2,a3,a4,.cells (Fw w now)],lo⟩=some (.tup [(bN w v now).v,.row 10 0 1 (some 1) 14],⟨[a0,a1,a2,a3,a4,.cells (Fw (bN w v now) now),b6,b7,b8,b9,.cells ((dH (bN w v now) (bC w.base v)).c.map .d)],min lo 5⟩)) →
  ∃ w' l,GoOn c now w w' l/\FdOk w' ∧
  ((l=[]/\w'=w/\∀ a0 a1 a2 a3 a4 lo,Sm E TF bV 29 [.ptr 5 0,c.v] ⟨[a0,a1,a2,a3,a4,.cells (Fw w now)],lo⟩=some (.tup [w.v,.d (.slice true [])],⟨[a0,a1,a2,a3,a4,.cells (Fw w now)],lo⟩)) ∨
  (∃ p,l=[p]/\∀ a0 a1 a2 a3 a4 lo,∃ b6 b7 b8 b9,Sm E TF bV 29 [.ptr 5 0,c.v] ⟨[a0,a1,a2,a3,a4,.cells (Fw w now)],lo⟩=some (.tup [w'.v,.row 10 0 1 (some 1) 14],⟨[a0,a1,a2,a3,a4,.cells (Fw w' now),b6,b7,b8,b9,.cells (p.c.map .d)],min lo 5⟩))):=λhst k =>
  ⟨bN w v now,[dH (bN w v now) (bC w.base v)],⟨v,e,hO,.inr ⟨hst,rfl,rfl⟩⟩,⟨hw.addrs,hv,hvw,hw.base,hw.basew⟩,.inr ⟨_,rfl,k⟩⟩
 have hnx:({ w with seq:=IntKind.wrap .u64 (w.seq+1),sent:=v,out:=1,since:=now }:Fd)=bN w v now:=rfl;have push:∀ (m1:aY w.base=true) (a0 a1 a2 a3 a4 a6 a7 a8:Blk) (lo:Nat),Sm E TF bV 34 [.ptr 5 0] ⟨[a0,a1,a2,a3,a4,.cells (Fw (bN w v now) now),a6,a7,a8],lo⟩=_:=λm1 a0 a1 a2 a3 a4 a6 a7 a8 lo =>
  Q5 H (bN w v now) ⟨hw.addrs,hv,hvw,hw.base,hw.basew⟩ now m1 (hvm h1) a0 a1 a2 a3 a4 a6 a7 a8 lo
 have hpb:(bN w v now).base=w.base:=rfl;have hps:(bN w v now).sent=v:=rfl;simp only [hpb,hps] at push;by_cases h4:w.upon=0
 . cases h5:aY w.base with
   | false =>
    rw [h5] at n3;refine ⟨w,[],⟨v,e,hO,.inl ⟨by simp [fV,h1,h2,h3,h4,h5],rfl,rfl⟩⟩,hw,.inl ⟨rfl,rfl,λa0 a1 a2 a3 a4 lo=>?_⟩⟩;rw [av iD iE];simp +decide [aa,kL,n1',n3,y22,y6,h1,h2,h3,h4,az,aA,ae,bA,V.under,V.under.go,bP]
   | true =>
    rw [h5] at n3;by_cases h6:w.seq>=4611686018427387903
    case pos =>
     refine ⟨w,[],⟨v,e,hO,.inl ⟨by simp [fV,h1,h2,h3,h4,h5,h6],rfl,rfl⟩⟩,hw,.inl ⟨rfl,rfl,λa0 a1 a2 a3 a4 lo=>?_⟩⟩;rw [av iD iE];simp +decide [aa,kL,n1',n3,y22,y6,h1,h2,h3,h4,h6,az,aA,ae,bA,V.under,V.under.go,bP]
    have hnx0:({ w with seq:=IntKind.wrap .u64 (w.seq+1),sent:=v,out:=1,since:=now,upon:=0 }:Fd)=bN w v now:=by unfold bN; rw [← h4]
    refine go (by simp [fV,h1,h2,h3,h4,h5,h6]) λa0 a1 a2 a3 a4 lo=>⟨.cells (c.c.map .d),.cells ((bN w v now).c.map .d),.cells (v.c.map .d),.cells ((bC w.base v).c.map .d),?_⟩;rw [av iD iE];simp +decide [aa,kL,n1',n3,y22,y6,h1,h2,h3,h4,h6,hnx0,push h5,az,aA,ae,bA,V.under,V.under.go,bP];try rfl
 . cases h7:w.base.same v with
   | true =>
    rw [h7] at n2;refine ⟨w,[],⟨v,e,hO,.inl ⟨by simp [fV,h1,h2,h3,h4,h7],rfl,rfl⟩⟩,hw,.inl ⟨rfl,rfl,λa0 a1 a2 a3 a4 lo=>?_⟩⟩;rw [av iD iE];simp +decide [aa,kL,n1',n2,y22,y6,h1,h2,h3,h4,az,aA,ae,bA,V.under,V.under.go,bP]
   | false =>
    rw [h7] at n2;cases h5:aY w.base with
    | false =>
     rw [h5] at n3;refine ⟨w,[],⟨v,e,hO,.inl ⟨by simp [fV,h1,h2,h3,h4,h5,h7],rfl,rfl⟩⟩,hw,.inl ⟨rfl,rfl,λa0 a1 a2 a3 a4 lo=>?_⟩⟩;rw [av iD iE];simp +decide [aa,kL,n1',n2,n3,y22,y6,h1,h2,h3,h4,az,aA,ae,bA,V.under,V.under.go,bP]
    | true =>
     rw [h5] at n3;by_cases h6:w.seq>=4611686018427387903
     case pos =>
      refine ⟨w,[],⟨v,e,hO,.inl ⟨by simp [fV,h1,h2,h3,h4,h5,h6,h7],rfl,rfl⟩⟩,hw,.inl ⟨rfl,rfl,λa0 a1 a2 a3 a4 lo=>?_⟩⟩;rw [av iD iE];simp +decide [aa,kL,n1',n2,n3,y22,y6,h1,h2,h3,h4,h6,az,aA,ae,V.under,V.under.go,bP]
     refine go (by simp [fV,h1,h2,h3,h4,h5,h6,h7]) λa0 a1 a2 a3 a4 lo=>⟨.cells (c.c.map .d),.cells ((bN w v now).c.map .d),.cells (v.c.map .d),.cells ((bC w.base v).c.map .d),?_⟩;rw [av iD iE];simp +decide [aa,kL,n1',n2,n3,y22,y6,h1,h2,h3,h4,h6,hnx,push h5,az,aA,ae,V.under,V.under.go,bP];try rfl
end
end
