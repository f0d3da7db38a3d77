/- view.Of: what a node has to know; plain facts. -/
import Derived.Test.YtegfnefobbgkjaaGreatVa
import Derived.Test.YtegfnefobbgkjaaGreatWo
import Derived.Test.YtegfnefobbgkjaaGreatSx
import Derived.Test.YtegfnefobbgkjaaGreatQt
import Derived.Test.YtegfnefobbgkjaaGreatMa
set_option maxRecDepth 100000
set_option linter.unusedVariables false
set_option linter.unusedSimpArgs false
namespace Go.Proofs.YtegfnefobbgkjaaGreat
structure Scp where
 node:Int
 addrs:Sl Int
def bndT (c:Cfg) (node:Int) (x:Svc):Bool:=match wayT c x.id with
 | some w=>w.node == node
 | none=>false
def ofSvc (c:Cfg) (p:Pod) (so:Svc -> Bool):Bool:=c.services.l.any fun x=>x.id == p.service && so x
def ownT (c:Cfg) (node:Int) (p:Pod):Bool:=p.host == node || ofSvc c p (bndT c node)
def podIn (c:Cfg) (s:Scp) (p:Pod):Bool:=ownT c s.node p || (hasT s.addrs.l p.addr || ofSvc c p fun x=>hasT s.addrs.l x.addr)
def ofPods (c:Cfg) (s:Scp):List Pod:=c.pods.l.filter (podIn c s)
def svcIn (c:Cfg) (s:Scp) (x:Svc):Bool:=hasT s.addrs.l x.addr || (bndT c s.node x || (ofPods c s).any fun p=>p.service == x.id)
def ofSvcs (c:Cfg) (s:Scp):List Svc:=c.services.l.filter (svcIn c s)
def wayIn (c:Cfg) (s:Scp) (w:Way):Bool:=w.node == s.node || (ofSvcs c s).any fun x=>x.way == w.id
def ofWays (c:Cfg) (s:Scp):List Way:=c.bound.l.filter (wayIn c s)
def polIn (c:Cfg) (node:Int) (p:Pol):Bool:=c.pods.l.any fun x=>ownT c node x && holdsT p x.ns x.service
def ofPols (c:Cfg) (node:Int):List Pol:=(c.policies.l.map Pol.own).filter (polIn c node)
def ofT (c:Cfg) (s:Scp) (cov:Sl Int):Vw:=⟨c.epoch,cov,⟨c.pods.nl,ofPods c s⟩,⟨c.services.nl,ofSvcs c s⟩,⟨c.bound.nl,ofWays c s⟩,⟨c.policies.nl,ofPols c s.node⟩⟩
def Cov (c:Cfg) (s:Scp) (cov:Sl Int):Prop:=∀ a,a ∈ cov.l ↔ a ∈ s.addrs.l \/ ∃ x ∈ c.services.l,bndT c s.node x = true /\ x.addr = a
theorem hasT_iff {l:List Int} {n:Int}:hasT l n = true ↔ n ∈ l:=by
 simp [hasT,List.find?_isSome]
end Go.Proofs.YtegfnefobbgkjaaGreat
namespace Go.Proofs.YtegfnefobbgkjaaGreat
def cmpL:List Int -> List Int
 | []=>[]
 | [x]=>[x]
 | x :: y :: l=>if x = y then cmpL (y :: l) else x :: cmpL (y :: l)
theorem cmpL_mem {x:Int}:∀ {l:List Int},x ∈ cmpL l ↔ x ∈ l
 | []=>by simp [cmpL]
 | [y]=>by simp [cmpL]
 | y :: z :: l=>by
  have ih:=cmpL_mem (x:=x) (l:=z :: l)
  rw [cmpL]
  split
  · rename_i h; subst h
    rw [ih]; simp
  · rw [List.mem_cons,ih,List.mem_cons (b:=y)]
theorem cmpL_rise:∀ {l:List Int},l.Pairwise (· <= ·) -> (cmpL l).Pairwise (· < ·)
 | [],_=>.nil
 | [y],_=>by simp [cmpL]
 | y :: z :: l,h=>by
  obtain ⟨h1,h2⟩:=List.pairwise_cons.1 h
  have ih:=cmpL_rise h2
  rw [cmpL]
  split
  · exact ih
  · rename_i hne
    refine List.pairwise_cons.2 ⟨fun w hw=>?_,ih⟩
    have h3:=h1 z (by simp)
    rcases List.mem_cons.1 (cmpL_mem.1 hw) with rfl | h4
    · omega
    · have:=(List.pairwise_cons.1 h2).1 w h4; omega
theorem cmpL_len:∀ l:List Int,(cmpL l).length <= l.length
 | []=>by simp [cmpL]
 | [y]=>by simp [cmpL]
 | y :: z :: l=>by
  have ih:=cmpL_len (z :: l)
  rw [cmpL]
  split <;> simp only [List.length_cons] at ih ⊢ <;> omega
theorem sortZ_mem {x:Int} {l:List Int}:x ∈ sortZ l ↔ x ∈ l:=(List.mergeSort_perm _ _).mem_iff
theorem sortZ_le (l:List Int):(sortZ l).Pairwise (· <= ·):=by
 have:=List.pairwise_mergeSort (le:=fun a b:Int=>decide (a <= b)) (by intro a b c h1 h2; simp at *; omega) (by intro a b; simp; omega) l
 exact this.imp (by intro a b h; simpa using h)
def coverT (c:Cfg) (s:Scp):List Int:=cmpL (sortZ (s.addrs.l ++ (c.services.l.filter (bndT c s.node)).map Svc.addr))
theorem cover_cov {c:Cfg} {s:Scp} {nl:Bool}:Cov c s ⟨nl,coverT c s⟩:=by
 intro a
 show a ∈ coverT c s ↔ _
 rw [coverT,cmpL_mem,sortZ_mem,List.mem_append,List.mem_map]
 constructor
 · rintro (h | ⟨x,h1,h2⟩)
   · exact .inl h
   · exact .inr ⟨x,(List.mem_filter.1 h1).1,(List.mem_filter.1 h1).2,h2⟩
 · rintro (h | ⟨x,h1,h2,h3⟩)
   · exact .inl h
   · exact .inr ⟨x,List.mem_filter.2 ⟨h1,h2⟩,h3⟩
def coversT (l:List Int) (most:Int):Bool:=(risesL l && decide ((l.length:Int) <= most)) && !hasT l 0
def scopeMay (s:Scp):Bool:=decide (s.node >= 2) && (decide (s.node <= 9) && coversT s.addrs.l 32)
theorem pair_rises:∀ {l:List Int},l.Pairwise (· < ·) -> risesL l = true
 | [],_=>rfl
 | [x],_=>rfl
 | x :: y :: l,h=>by
  obtain ⟨h1,h2⟩:=List.pairwise_cons.1 h
  simp only [risesL,Bool.and_eq_true,decide_eq_true_eq]
  exact ⟨h1 y (by simp),pair_rises h2⟩
theorem rises_filter {α:Type} {key:α -> Int} {p:α -> Bool} {l:List α} (h:risesL (l.map key) = true):risesL ((l.filter p).map key) = true :=
 pair_rises (List.Pairwise.sublist (List.Sublist.map _ List.filter_sublist) (risesL_pair h))
def vpodBad (p:Pod):Bool:=decide ((p.ns.size:Int) > 64) || (decide ((p.sa.size:Int) > 64) || (decide (p.host < 0) || (decide (p.host > 9) || (decide (p.port < 0) || decide (p.port > 65535)))))
def vsvcBad (p:Svc):Bool:=decide ((p.ns.size:Int) > 64) || (decide (p.port < 0) || decide (p.port > 65535))
def vwayBad (p:Way):Bool:=decide (p.node < 0) || decide (p.node > 9)
def risK {α:Type} (key:α -> Int) (l:List α) (most:Int):Bool:=risesL (l.map key) && decide ((l.length:Int) <= most)
def oddT (v:Vw):Bool:=v.pods.l.any vpodBad || (v.services.l.any vsvcBad || v.bound.l.any vwayBad)
def thingsT (v:Vw):Bool:=!oddT v && (risK Pod.uid v.pods.l 16 && (risK Svc.id v.services.l 6 && (risK Way.id v.bound.l 4 && risK Pol.id v.policies.l 12)))
def vwMay (v:Vw):Bool:=decide (v.epoch <= 4611686018427387903) && (coversT v.covers.l 38 && (thingsT v && !v.policies.l.any fun p=>!polMay p))
theorem may_of {c:Cfg} {s:Scp} {nl:Bool} (h:cfgMay c = true) (hs:scopeMay s = true):vwMay (ofT c s ⟨nl,coverT c s⟩) = true:=by
 have hc:=h
 simp only [cfgMay,Bool.and_eq_true] at h
 obtain ⟨⟨hsm,hm⟩,_⟩:=h
 obtain ⟨l1,l2,l3,l4⟩:=smallT_le hsm
 simp only [mayT,Bool.and_eq_true] at hm
 obtain ⟨⟨⟨⟨⟨hn,hp⟩,hv⟩,ha⟩,hb⟩,hpo⟩:=hm
 simp only [numsT,Bool.and_eq_true,decide_eq_true_eq] at hn
 have hp1:=hp; have hv1:=hv
 simp only [podsMay,Bool.and_eq_true,Bool.not_eq_true',List.any_eq_false] at hp
 simp only [servicesMay,Bool.and_eq_true,Bool.not_eq_true',List.any_eq_false] at hv
 simp only [boundMay,Bool.and_eq_true,Bool.not_eq_true'] at hb
 simp only [scopeMay,coversT,Bool.and_eq_true,decide_eq_true_eq,Bool.not_eq_true'] at hs
 have hmh:IntKind.wrap .i64 (c.hosts + 1) = c.hosts + 1:=wrap64 (by omega) (by omega)
 have hmw:IntKind.wrap .i64 (c.hosts + 1 + c.ways) = c.hosts + 1 + c.ways:=wrap64 (by omega) (by omega)
 have hmw2:IntKind.wrap .i64 (c.hosts + 2) = c.hosts + 2:=wrap64 (by omega) (by omega)
 have hways:∀ {l pre:List Way},waysBad c pre l = false -> ∀ w ∈ l,vwayBad w = false:=by
  intro l
  induction l with
  | nil=>intro pre _ w hw; simp at hw
  | cons x l ih =>
   intro pre hb w hw
   simp only [waysBad,Bool.or_eq_false_iff] at hb
   rcases List.mem_cons.1 hw with rfl | hw
   · have:=hb.1
     simp only [wayBad,Bool.or_eq_false_iff,decide_eq_false_iff_not,hmh,hmw,hmw2] at this
     simp only [vwayBad,Bool.or_eq_false_iff,decide_eq_false_iff_not]
     omega
   · exact ih hb.2 w hw
 have hcl:(coverT c s).length <= 38:=by
  have h1:=cmpL_len (sortZ (s.addrs.l ++ (c.services.l.filter (bndT c s.node)).map Svc.addr))
  have h2:(sortZ (s.addrs.l ++ (c.services.l.filter (bndT c s.node)).map Svc.addr)).length = s.addrs.l.length + (c.services.l.filter (bndT c s.node)).length:=by
   rw [sortZ,List.length_mergeSort,List.length_append,List.length_map]
  have h3:=List.length_filter_le (bndT c s.node) c.services.l
  have:(coverT c s).length = (cmpL (sortZ (s.addrs.l ++ (c.services.l.filter (bndT c s.node)).map Svc.addr))).length:=rfl
  omega
 have hc0:hasT (coverT c s) 0 = false:=by
  cases hh:hasT (coverT c s) 0 with
  | false=>rfl
  | true =>
   rcases (cover_cov (nl:=nl) 0).1 (hasT_iff.1 hh) with h0 | ⟨x,h1,_,h2⟩
   · rw [hasT_iff.2 h0] at hs; simp at hs
   · simp only [addrsMay,Bool.not_eq_true'] at ha
     have:=(List.nodup_cons.1 (dup_nodup ha).1).1
     exact absurd (List.mem_append.2 (.inr (List.mem_map.2 ⟨x,h1,h2⟩))) this
 have e1:=cmpL_rise (sortZ_le (s.addrs.l ++ (c.services.l.filter (bndT c s.node)).map Svc.addr))
 have q1:(ofPods c s).any vpodBad = false:=by
  rw [List.any_eq_false]
  intro p hp'
  have hpm:=(List.mem_filter.1 hp').1
  have k1:=hp.1 p hpm
  have k2:=podsMay_ns hp1 p hpm
  simp only [podBad,podBad2,Bool.or_eq_true,not_or,decide_eq_true_eq,Bool.not_eq_true',Bool.not_eq_false,portMay,Bool.and_eq_true,hmh] at k1
  simp only [vpodBad,Bool.or_eq_true,not_or,decide_eq_true_eq]
  omega
 have q2:(ofSvcs c s).any vsvcBad = false:=by
  rw [List.any_eq_false]
  intro p hp'
  have hpm:=(List.mem_filter.1 hp').1
  have k1:=hv.1 p hpm
  have k2:=servicesMay_ns hv1 p hpm
  simp only [svcBad,Bool.or_eq_true,not_or,Bool.not_eq_true',Bool.not_eq_false,portMay,Bool.and_eq_true,decide_eq_true_eq] at k1
  simp only [vsvcBad,Bool.or_eq_true,not_or,decide_eq_true_eq]
  omega
 have q3:(ofWays c s).any vwayBad = false:=by
  rw [List.any_eq_false]
  intro p hp'
  simp [hways hb.1 p (List.mem_filter.1 hp').1]
 have q4:((ofPols c s.node).any fun p=>!polMay p) = false:=by
  rw [List.any_eq_false]
  intro p hp'
  obtain ⟨q,hq,rfl⟩:=List.mem_map.1 (List.mem_filter.1 hp').1
  simp [polMay_own,policiesMay_pol hpo q hq]
 simp only [policiesMay,Bool.and_eq_true] at hpo
 have r4:risesL ((c.policies.l.map Pol.own).map Pol.id) = true:=by
  rw [List.map_map]; exact hpo.2
 have g1:=List.length_filter_le (podIn c s) c.pods.l
 have g2:=List.length_filter_le (svcIn c s) c.services.l
 have g3:=List.length_filter_le (wayIn c s) c.bound.l
 have g4:=List.length_filter_le (polIn c s.node) (c.policies.l.map Pol.own)
 rw [List.length_map] at g4
 have f1:risesL ((ofPods c s).map Pod.uid) = true:=rises_filter hp.2
 have f2:risesL ((ofSvcs c s).map Svc.id) = true:=rises_filter hv.2
 have f3:risesL ((ofWays c s).map Way.id) = true:=rises_filter hb.2
 have f4:risesL ((ofPols c s.node).map Pol.id) = true:=rises_filter r4
 have e2:risesL (coverT c s) = true:=pair_rises e1
 simp only [vwMay,ofT,thingsT,oddT,risK,coversT,e2,hc0,q1,q2,q3,q4,f1,f2,f3,f4,Bool.not_false,Bool.or_self,Bool.true_and,Bool.and_true,Bool.and_eq_true,decide_eq_true_eq]
 simp only [ofPods,ofSvcs,ofWays,ofPols] at *
 refine ⟨decide_eq_true ?_,decide_eq_true ?_,decide_eq_true ?_,decide_eq_true ?_,decide_eq_true ?_,decide_eq_true ?_⟩ <;> omega
end Go.Proofs.YtegfnefobbgkjaaGreat
namespace Go.Proofs.YtegfnefobbgkjaaGreat
section
variable {E:Calls'} {T:FuncId -> Option QF} {val:FuncId -> Bool}
theorem S_notC {id:FuncId} {z:Nat} (ht:T id = some (notQ z)) (hv:val id = false) {c:List D} (hc:c.length = z) {f:FuncId} {caps:List V} {x:Nat} {p:Bool} {h:Hp} (hp:getB h.bs x = some [.fn f caps])
 (hf:∀ ys lo,Sm E T val f (ag c :: caps) ⟨h.bs ++ ys,lo⟩ = some (bl p,⟨h.bs ++ ys,lo⟩)):Sm E T val id [ag c,.ptr x 0] h = some (bl (!p),h):=by
 rw [Sm_ref ht hv]
 have hs:=sub_c hc
 simp [notQ,Bd_mk,getB_of hp,hf,hs,V.under]
def KeptR {α:Type} (cells:α -> List D) (z n:Nat) (nl:Bool) (l:List α) (bs:List Blk) (v:V):Prop :=
 (nl = true /\ l = [] /\ v = .d (.slice true [])) \/ (nl = false /\ ∃ B cap rest,n <= B /\ v = .row B 0 l.length cap z /\ getB bs B = some (flat (l.map cells) ++ rest))
theorem KeptR.rowIs {α:Type} {cells:α -> List D} {z n:Nat} {nl:Bool} {l:List α} {bs:List Blk} {v:V} (hz:∀ x,(cells x).length = z) (h:KeptR cells z n nl l bs v):RowIs bs v z (l.map cells):=by
 refine ⟨by simp; intro a _; exact hz a,?_⟩
 rcases h with ⟨_,rfl,rfl⟩ | ⟨_,B,cap,rest,_,rfl,h⟩
 · exact .inl ⟨true,rfl⟩
 · refine .inr ⟨B,0,cap,_,by simp,h,?_⟩
   rw [sub_eq,if_pos (by rw [List.length_append,flatT_len hz]; simp),List.drop_zero,List.length_map,← flatT_len hz,List.take_left]; rfl
theorem KeptR.dat {α:Type} {cells:α -> List D} {z n:Nat} {nl:Bool} {l:List α} {bs:List Blk} {v:V} (hz:∀ x,(cells x).length = z) (h:KeptR cells z n nl l bs v) (lo k:Nat):dataV ⟨bs,lo⟩ (k + 1) v = some (.slice nl (l.map cells)):=by
 rcases h with ⟨rfl,rfl,rfl⟩ | ⟨rfl,B,cap,rest,_,rfl,h⟩
 · rfl
 · exact dataV_row (by simp; intro a _; exact hz a) (by simp) h
theorem KeptR.like {α:Type} {cells:α -> List D} {z n:Nat} {nl:Bool} {l:List α} {bs bs':List Blk} {v:V} (h:KeptR cells z n nl l bs v) (ho:∀ x cs,n <= x -> getB bs x = some cs -> getB bs' x = some cs):KeptR cells z n nl l bs' v:=by
 rcases h with ⟨h1,h2,h3⟩ | ⟨h1,B,cap,rest,h2,h3,h4⟩
 · exact .inl ⟨h1,h2,h3⟩
 · exact .inr ⟨h1,B,cap,rest,h2,h3,ho B _ h2 h4⟩
theorem KeptR.nu {α:Type} {cells:α -> List D} {z n:Nat} {nl:Bool} {l:List α} {bs:List Blk} {v:V} (h:KeptR cells z n nl l bs v):Go.Proofs.YtegfnefobbgkjaaGreat.nu v = some v /\ okV v = true:=by
 rcases h with ⟨_,_,rfl⟩ | ⟨_,B,cap,rest,_,rfl,_⟩ <;> exact ⟨rfl,rfl⟩
theorem S_keep {α:Type} {cells:α -> List D} {z b cl clos del idx id:Nat} {zero:List V} (tcl:T cl = some (cloneQ z b zero)) (vcl:val cl = false) (tdel:T del = some (delQ z idx zero)) (vdel:val del = false) (tidx:T idx = some (idxQ z)) (vidx:val idx = false)
 (tc:T clos = some (notQ z)) (vc:val clos = false) (tid:T id = some (keepQ cl clos del)) (vid:val id = false) (hz:∀ x,(cells x).length = z) (hz0:0 < z) (hzero:zero.length = z) (hb:b <= 4096) {s:Sl α} (hs:short s) {f:FuncId} {caps:List V} {q:α -> Bool} {h:Hp}
 (hq:∀ e ∈ s.l,∀ bs lo,h.bs.length <= bs.length -> (∀ x,x < h.bs.length -> bs[x]? = h.bs[x]?) -> Sm E T val f (ag (cells e) :: caps) ⟨bs,lo⟩ = some (bl (q e),⟨bs,lo⟩)) :
 ∃ r bs' lo',Sm E T val id [.d (s.d cells),.fn f caps] h = some (r,⟨bs',lo'⟩) /\ h.bs.length <= bs'.length /\ (∀ x,x < h.bs.length -> bs'[x]? = h.bs[x]?) /\ KeptR cells z h.bs.length s.nl (s.l.filter q) bs' r:=by
 obtain ⟨bs,lo0⟩:=h
 simp only at hq ⊢
 obtain ⟨nl,l⟩:=s
 simp only at hq ⊢
 have hcl:=S_cloneR (E:=E) (T:=T) (val:=val) tcl vcl hz0 hb (nl:=nl) (es:=l.map cells) (by simp; intro a _; exact hz a) (by simpa using hs.1) ⟨bs ++ [.cells [.fn f caps]],bs.length⟩
 have hlen:l.length < 2 ^ 62:=hs.lt
 have hout:∀ {r:V} {bs':List Blk} {lo':Nat},r.under bs.length = false -> byRef ⟨bs,lo0⟩ (some (r,⟨bs',lo'⟩)) = some (r,⟨bs',min lo0 lo'⟩):=fun hu=>by
  rw [byRef_s,if_neg (fun hh=>by rw [hu] at hh; cases hh.2)]
 have hun:∀ {B o n z:Nat} {cap:Option Nat},bs.length <= B -> V.under bs.length (.row B o n cap z) = false:=fun h=>by simp [V.under]; omega
 rw [Sm_ref tid vid]
 cases nl with
 | true =>
  have hl:=hs.2 rfl
  simp at hl
  subst hl
  have h1:=S_del_none (E:=E) (T:=T) (val:=val) cells (es:=[]) (z:=z) (idx:=idx) (zero:=zero) tidx vidx tdel vdel (v:=.d (.slice true [])) (f:=clos) (caps:=[.ptr bs.length 0]) (q:=fun _=>false) (h:=⟨bs ++ [.cells [.fn f caps]],bs.length⟩) ⟨by simp,.inl ⟨true,rfl⟩⟩ (by simp) (by simp) (by simp)
  simp [cloneR] at hcl
  refine ⟨.d (.slice true []),bs,lo0,?_,Nat.le_refl _,fun _ _=>rfl,.inl ⟨rfl,by simp,rfl⟩⟩
  simp [Bd_mk,keepQ,Sl.d,hcl,h1,V.under,tupOf]
 | false =>
  cases hll:l with
  | nil =>
   subst hll
   have h1:=fun lo=>S_del_none (E:=E) (T:=T) (val:=val) cells (es:=[]) (z:=z) (idx:=idx) (zero:=zero) tidx vidx tdel vdel (v:=.row (bs.length + 1) 0 0 (some 0) z) (f:=clos) (caps:=[.ptr bs.length 0]) (q:=fun _=>false) (h:=⟨bs ++ [.cells [.fn f caps],.cells []],lo⟩) ⟨by simp,.inr ⟨bs.length + 1,0,some 0,[],rfl,by unfold getB; rw [List.getElem?_append_right (by omega)]; simp,by simp [sub_eq]⟩⟩ (by simp) (by simp) (by simp)
   simp [cloneR] at hcl
   refine ⟨.row (bs.length + 1) 0 0 (some 0) z,bs ++ [.cells [.fn f caps],.cells []],min lo0 bs.length,?_,by simp,fun x hx=>by rw [List.getElem?_append_left hx],.inr ⟨rfl,bs.length + 1,some 0,[],by omega,rfl,by unfold getB; rw [List.getElem?_append_right (by omega)]; simp⟩⟩
   refine Eq.trans ?_ (hout (lo':=bs.length) (hun (by omega)))
   congr 1
   simp [Bd_mk,keepQ,Sl.d,hcl,h1,tupOf]
  | cons p l' =>
   have hne:l ≠ []:=by rw [hll]; simp
   rw [← hll]
   have hc2:cloneR z false (l.map cells) (bs ++ [.cells [.fn f caps]]) bs.length = (.row (bs.length + 2) 0 l.length none z,⟨bs ++ [.cells [.fn f caps],.cells [],.cells (flat (l.map cells))],bs.length⟩):=by
    rw [hll]; simp [cloneR]
   rw [hc2] at hcl
   simp at hcl
   have hbF:getB (bs ++ [.cells [.fn f caps],.cells [],.cells (flat (l.map cells))]) (bs.length + 2) = some (flat (l.map cells)):=by unfold getB; rw [List.getElem?_append_right (by omega)]; simp
   have hold:∀ x,x < bs.length -> (bs ++ [Blk.cells [.fn f caps],.cells [],.cells (flat (l.map cells))])[x]? = bs[x]?:=fun x hx=>by rw [List.getElem?_append_left hx]
   have hcall:∀ e ∈ l,∀ bs2 lo2,bs.length + 3 <= bs2.length -> (∀ x,x ≠ bs.length + 2 -> x < bs.length + 3 -> bs2[x]? = (bs ++ [.cells [.fn f caps],.cells [],.cells (flat (l.map cells))])[x]?) -> Sm E T val clos (.agg ((cells e).map .d) :: [.ptr bs.length 0]) ⟨bs2,lo2⟩ = some (.d (.bool (!q e)),⟨bs2,lo2⟩):=by
    intro e he bs2 lo2 hle ho
    refine S_notC tc vc (hz e) (f:=f) (caps:=caps) (p:=q e) ?_ fun ys lo=>?_
    · have:=ho bs.length (by omega) (by omega)
      simp only [getB]
      rw [this,List.getElem?_append_right (by omega)]; simp
    · refine hq e he _ lo (by simp; omega) fun x hx=>?_
      simp only
      rw [List.getElem?_append_left (by omega),ho x (by omega) (by omega)]
      exact hold x hx
   have hnn:(l.filter fun e=>!(!q e)) = l.filter q:=by simp
   by_cases hqq:∃ e ∈ l,(!q e) = true
   · obtain ⟨bs',lo',rest,k1,k2,k3,k4,k5,k6⟩:=S_del_some (E:=E) (T:=T) (val:=val) hz hz0 hzero tidx vidx tdel vdel (es:=l) (b:=bs.length + 2) (cap:=none) (f:=clos) (caps:=[.ptr bs.length 0]) (q:=fun e=>!q e) (h:=⟨bs ++ [.cells [.fn f caps],.cells [],.cells (flat (l.map cells))],bs.length⟩) hbF hlen (fun e he bs2 lo2 a b=>hcall e he bs2 lo2 (by simpa using a) (fun x h1 h2=>b x h1 (by simp; omega))) hqq
     rw [hnn] at k1 k4
     refine ⟨.row (bs.length + 2) 0 (l.filter q).length none z,bs',min lo0 lo',?_,by simp at k2; omega,fun x hx=>by rw [k3 x (by omega) (by simp; omega)]; exact hold x hx,.inr ⟨rfl,bs.length + 2,none,rest,by omega,rfl,k4⟩⟩
     refine Eq.trans ?_ (hout (lo':=lo') (hun (by omega)))
     congr 1
     simp [Bd_mk,keepQ,Sl.d,hcl,k1,tupOf]
   · have hall:∀ e ∈ l,(!q e) = false:=by
      intro e he
      cases hh:(!q e) with
      | false=>rfl
      | true=>exact absurd ⟨e,he,hh⟩ hqq
     have hK:l.filter q = l:=List.filter_eq_self.2 fun e he=>by have:=hall e he; simpa using this
     have h1:=S_del_none (E:=E) (T:=T) (val:=val) cells (es:=l) (z:=z) (idx:=idx) (zero:=zero) tidx vidx tdel vdel (v:=.row (bs.length + 2) 0 l.length none z) (f:=clos) (caps:=[.ptr bs.length 0]) (q:=fun e=>!q e) (h:=⟨bs ++ [.cells [.fn f caps],.cells [],.cells (flat (l.map cells))],bs.length⟩)
      ⟨by simp; intro a _; exact hz a,.inr ⟨bs.length + 2,0,none,_,by simp,hbF,by
       rw [sub_eq,if_pos (by rw [flatT_len hz]; simp),List.drop_zero,List.length_map,← flatT_len hz,List.take_length]; rfl⟩⟩ hlen (fun e he lo2=>hcall e he _ lo2 (by simp) fun _ _ _=>rfl) hall
     rw [hK]
     refine ⟨.row (bs.length + 2) 0 l.length none z,bs ++ [.cells [.fn f caps],.cells [],.cells (flat (l.map cells))],min lo0 bs.length,?_,by simp,hold,.inr ⟨rfl,bs.length + 2,none,[],by omega,rfl,by rw [hbF]; simp⟩⟩
     refine Eq.trans ?_ (hout (lo':=bs.length) (hun (by omega)))
     congr 1
     simp [Bd_mk,keepQ,Sl.d,hcl,h1,tupOf]
end
end Go.Proofs.YtegfnefobbgkjaaGreat
