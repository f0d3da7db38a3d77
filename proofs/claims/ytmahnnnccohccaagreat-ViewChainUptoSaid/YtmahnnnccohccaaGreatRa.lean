/- What makes one row of another one, plain: what is put in, what goes; then the readings that do it. -/
import Derived.Test.YtmahnnnccohccaaGreatQt
import Derived.Test.YtmahnnnccohccaaGreatR58
import Derived.Test.YtmahnnnccohccaaGreatIa
set_option linter.unusedVariables false
set_option maxRecDepth 100000
set_option linter.unusedSimpArgs false
set_option linter.unnecessarySimpa false
namespace Go.Proofs.YtmahnnnccohccaaGreat
theorem incr_ext:∀ {a b:List Int},a.Pairwise (· < ·) -> b.Pairwise (· < ·) -> (∀ x,x ∈ a ↔ x ∈ b) -> a = b
 | [],[],_,_,_=>rfl
 | [],y :: b,_,_,h=>by have:=(h y).2 (by simp); cases this
 | x :: a,[],_,_,h=>by have:=(h x).1 (by simp); cases this
 | x :: a,y :: b,ha,hb,h=>by
  obtain ⟨ha1,ha2⟩:=List.pairwise_cons.1 ha
  obtain ⟨hb1,hb2⟩:=List.pairwise_cons.1 hb
  have hxy:x = y:=by
   have h1:=(h x).1 (by simp)
   have h2:=(h y).2 (by simp)
   rcases List.mem_cons.1 h1 with h1 | h1
   · exact h1
   · rcases List.mem_cons.1 h2 with h2 | h2
     · exact h2.symm
     · have:=ha1 y h2
       have:=hb1 x h1
       omega
  subst hxy
  rw [incr_ext ha2 hb2 fun z=>?_]
  have:=h z
  simp only [List.mem_cons] at this
  constructor
  · intro hz
    rcases this.1 (.inr hz) with h' | h'
    · subst h'; have:=ha1 z hz; omega
    · exact h'
  · intro hz
    rcases this.2 (.inr hz) with h' | h'
    · subst h'; have:=hb1 z hz; omega
    · exact h'
section
variable {α:Type} {key:α -> Int}
theorem key_inj {l:List α} (h:(l.map key).Pairwise (· < ·)) {x y:α} (hx:x ∈ l) (hy:y ∈ l) (e:key x = key y):x = y:=by
 obtain ⟨i,hi,rfl⟩:=List.mem_iff_getElem.1 hx
 obtain ⟨j,hj,rfl⟩:=List.mem_iff_getElem.1 hy
 have h':=List.pairwise_iff_getElem.1 h
 rcases Nat.lt_trichotomy i j with hij | hij | hij
 · have:=h' i j (by simpa using hi) (by simpa using hj) hij
   simp only [List.getElem_map] at this; omega
 · subst hij; rfl
 · have:=h' j i (by simpa using hj) (by simpa using hi) hij
   simp only [List.getElem_map] at this; omega
def freshV (same:α -> α -> Bool) (a b:List α):List α:=b.filter fun x=>!a.any fun y=>same x y
def goneV (key:α -> Int) (a b:List α):List Int:=(a.filter fun x=>!b.any fun y=>key x == key y).map key
theorem mem_putV {l fresh:List α} {gone:List Int} {e:α}:e ∈ putV key l fresh gone ↔ (e ∈ l /\ key e ∉ gone /\ ∀ f ∈ fresh,key e ≠ key f) \/ e ∈ fresh:=by
 unfold putV
 rw [(List.mergeSort_perm _ _).mem_iff,List.mem_append,List.mem_filter]
 have:putIn key fresh gone e = true ↔ key e ∉ gone /\ ∀ f ∈ fresh,key e ≠ key f:=by
  simp only [putIn,Bool.and_eq_true,Bool.not_eq_true',List.any_eq_false]
  rw [← Bool.not_eq_true,hasT_iff]
  simp
 rw [this]
theorem putV_incr {l fresh:List α} {gone:List Int} (h1:(l.map key).Nodup) (h2:(fresh.map key).Nodup):((putV key l fresh gone).map key).Pairwise (· < ·):=by
 have hn:=putV_nodup (gone:=gone) h1 h2
 have hp:(putV key l fresh gone).Perm ((l.filter (putIn key fresh gone)) ++ fresh):=List.mergeSort_perm _ _
 have hn2:((putV key l fresh gone).map key).Nodup:=(hp.map key).nodup_iff.2 hn
 have hs:=List.pairwise_mergeSort (le:=fun (a b:α)=>decide (key a <= key b)) (by intro a b c h1 h2; simp at *; omega) (by intro a b; simp; omega) ((l.filter (putIn key fresh gone)) ++ fresh)
 have hs2:((putV key l fresh gone).map key).Pairwise (· <= ·):=by
  rw [List.pairwise_map]
  exact hs.imp fun h=>by simpa using h
 refine (hs2.and hn2).imp fun ⟨h,h'⟩=>?_
 have:_ ≠ _:=h'
 omega
theorem put_diff {same:α -> α -> Bool} {a a' b:List α} (hs:∀ x ∈ b,∀ y ∈ a,same x y = true -> key x = key y) (ha:(a.map key).Pairwise (· < ·)) (hb:(b.map key).Pairwise (· < ·)) (hk:a'.map key = a.map key) :
 (putV key a' (freshV same a b) (goneV key a b)).map key = b.map key /\ ∀ x ∈ putV key a' (freshV same a b) (goneV key a b),∀ y ∈ b,key x = key y -> x = y \/ (x ∈ a' /\ ∃ z ∈ a,key z = key x /\ same y z = true):=by
 have ha':(a'.map key).Pairwise (· < ·):=by rw [hk]; exact ha
 have nd:∀ {l:List α},(l.map key).Pairwise (· < ·) -> (l.map key).Nodup:=fun h=>h.imp fun h=>by omega
 have hf:((freshV same a b).map key).Pairwise (· < ·):=List.Pairwise.sublist (List.Sublist.map _ List.filter_sublist) hb
 have hgone:∀ k,k ∈ goneV key a b ↔ ∃ x ∈ a,key x = k /\ ∀ y ∈ b,key x ≠ key y:=by
  intro k
  simp only [goneV,List.mem_map,List.mem_filter,Bool.not_eq_true',List.any_eq_false,beq_iff_eq]
  constructor
  · rintro ⟨x,⟨h1,h2⟩,h3⟩
    exact ⟨x,h1,h3,fun y hy=>by simpa using h2 y hy⟩
  · rintro ⟨x,h1,h3,h2⟩
    exact ⟨x,⟨h1,fun y hy=>by simpa using h2 y hy⟩,h3⟩
 have hfresh:∀ x,x ∈ freshV same a b ↔ x ∈ b /\ ∀ y ∈ a,¬ same x y = true:=by
  intro x
  simp only [freshV,List.mem_filter,Bool.not_eq_true',List.any_eq_false]
 have ka:∀ x ∈ a',∃ z ∈ a,key z = key x:=fun x hx=>by
  have:key x ∈ a'.map key:=List.mem_map_of_mem hx
  rw [hk] at this
  obtain ⟨z,h1,h2⟩:=List.mem_map.1 this
  exact ⟨z,h1,h2⟩
 have ka':∀ z ∈ a,∃ x ∈ a',key x = key z:=fun x hx=>by
  have:key x ∈ a.map key:=List.mem_map_of_mem hx
  rw [← hk] at this
  obtain ⟨z,h1,h2⟩:=List.mem_map.1 this
  exact ⟨z,h1,h2⟩
 constructor
 · refine incr_ext (putV_incr (nd ha') (nd hf)) hb fun k=>?_
   simp only [List.mem_map]
   constructor
   · rintro ⟨e,he,rfl⟩
     rcases mem_putV.1 he with ⟨h1,h2,h3⟩ | h1
     · obtain ⟨z,hz,hzk⟩:=ka e h1
       by_cases hex:∃ y ∈ b,key y = key e
       · exact hex
       · exact absurd ((hgone _).2 ⟨z,hz,hzk,fun y hy h=>hex ⟨y,hy,h.symm.trans hzk⟩⟩) h2
     · exact ⟨e,((hfresh e).1 h1).1,rfl⟩
   · rintro ⟨q,hq,rfl⟩
     by_cases hqf:q ∈ freshV same a b
     · exact ⟨q,mem_putV.2 (.inr hqf),rfl⟩
     · have:∃ y ∈ a,same q y = true:=by
        by_cases hh:∃ y ∈ a,same q y = true
        · exact hh
        · exact absurd ((hfresh q).2 ⟨hq,fun y hy h=>hh ⟨y,hy,h⟩⟩) hqf
       obtain ⟨y,hy,hsy⟩:=this
       have hky:=hs q hq y hy hsy
       obtain ⟨e,he,hek⟩:=ka' y hy
       refine ⟨e,mem_putV.2 (.inl ⟨he,fun hg=>?_,fun f hf' hh=>?_⟩),by omega⟩
       · obtain ⟨x,h1,h2,h3⟩:=(hgone _).1 hg
         exact h3 q hq (by omega)
       · have h1:=(hfresh f).1 hf'
         have:f = q:=key_inj hb h1.1 hq (by omega)
         subst this
         exact h1.2 y hy hsy
 · intro x hx y hy hxy
   rcases mem_putV.1 hx with ⟨h1,h2,h3⟩ | h1
   · right
     refine ⟨h1,?_⟩
     have hyf:y ∉ freshV same a b:=fun h=>h3 y h hxy
     have:∃ z ∈ a,same y z = true:=by
      by_cases hh:∃ z ∈ a,same y z = true
      · exact hh
      · exact absurd ((hfresh y).2 ⟨hy,fun z hz h=>hh ⟨z,hz,h⟩⟩) hyf
     obtain ⟨z,hz,hsz⟩:=this
     have:=hs y hy z hz hsz
     exact ⟨z,hz,by omega,hsz⟩
   · left
     exact key_inj hb ((hfresh x).1 h1).1 hy hxy
theorem put_diff_eq {same:α -> α -> Bool} {a b:List α} (hs:∀ x ∈ b,∀ y ∈ a,same x y = true -> x = y) (ha:(a.map key).Pairwise (· < ·)) (hb:(b.map key).Pairwise (· < ·)):putV key a (freshV same a b) (goneV key a b) = b:=by
 obtain ⟨h1,h2⟩:=put_diff (key:=key) (same:=same) (fun x hx y hy h=>by rw [hs x hx y hy h]) ha hb rfl
 generalize putV key a (freshV same a b) (goneV key a b) = L at *
 have hl:L.length = b.length:=by have:=congrArg List.length h1; simpa using this
 refine List.ext_getElem hl fun i hi hj=>?_
 have hk:key L[i] = key b[i]:=by
  have:(L.map key)[i]'(by simpa using hi) = (b.map key)[i]'(by simpa using hj):=by simp only [h1]
  simpa using this
 rcases h2 _ (List.getElem_mem hi) _ (List.getElem_mem hj) hk with h | ⟨h,z,hz,hzk,hsz⟩
 · exact h
 · have:=hs _ (List.getElem_mem hj) _ hz hsz
   rw [this]
   exact key_inj ha h hz (by omega)
end
end Go.Proofs.YtmahnnnccohccaaGreat
namespace Go.Proofs.YtmahnnnccohccaaGreat
theorem all2_iff {α β:Type} {f:α -> α -> Bool} {g:α -> β} (h:∀ x y,f x y = true ↔ g x = g y):∀ {l m:List α},all2 f l m = true ↔ l.map g = m.map g
 | [],[]=>by simp [all2]
 | [],y :: m=>by simp [all2]
 | x :: l,[]=>by simp [all2]
 | x :: l,y :: m=>by
  have ih:=all2_iff (f:=f) (g:=g) h (l:=l) (m:=m)
  simp only [all2,Bool.and_eq_true,List.map_cons,List.cons.injEq]
  rw [h x y,ih]
def Sl.nf {α:Type} (f:α -> α) (s:Sl α):Sl α:=⟨false,s.l.map f⟩
theorem Sl.nf_iff {α:Type} {f:α -> α} {s t:Sl α}:s.nf f = t.nf f ↔ s.l.map f = t.l.map f:=by
 simp [Sl.nf]
def Source.nf (s:Source):Source:=⟨s.names.nf id,s.spaces.nf id,s.nets.nf id⟩
def Target.nf (s:Target):Target:=⟨s.ports.nf id,s.methods.nf id,s.paths.nf id,s.hosts.nf id⟩
def When.nf (s:When):When:=⟨s.head,s.terms.nf id⟩
def Rule.nf (s:Rule):Rule:=⟨s.frm.nf Source.nf,s.to.nf Target.nf,s.whn.nf When.nf⟩
def Pol.nf (s:Pol):Pol:={ s with rules:=s.rules.nf Rule.nf }
theorem terms_iff {l m:List Term}:all2 Term.eqB l m = true ↔ l.map id = m.map id:=all2_iff (f:=Term.eqB) (g:=id) fun _ _=>Term.eqB_iff
theorem cidrs_iff {l m:List Cidr}:all2 Cidr.eqB l m = true ↔ l.map id = m.map id:=all2_iff (f:=Cidr.eqB) (g:=id) fun _ _=>Cidr.eqB_iff
theorem ints_iff {l m:List Int}:all2 (fun x y:Int=>x == y) l m = true ↔ l.map id = m.map id:=all2_iff (f:=fun x y:Int=>x == y) (g:=id) fun _ _=>by simp
theorem Source.same_iff {a b:Source}:a.same b = true ↔ a.nf = b.nf:=by
 simp only [Source.same,Bool.and_eq_true,terms_iff,cidrs_iff,Source.nf,Source.mk.injEq,Sl.nf_iff]
theorem Target.same_iff {a b:Target}:a.same b = true ↔ a.nf = b.nf:=by
 simp only [Target.same,Bool.and_eq_true,terms_iff,ints_iff,Target.nf,Target.mk.injEq,Sl.nf_iff]
 constructor
 · rintro ⟨h1,h2,h3,h4⟩; exact ⟨h4,h1,h2,h3⟩
 · rintro ⟨h4,h1,h2,h3⟩; exact ⟨h1,h2,h3,h4⟩
theorem When.same_iff {a b:When}:a.same b = true ↔ a.nf = b.nf:=by
 simp only [When.same,Bool.and_eq_true,terms_iff,eqS_iff,When.nf,When.mk.injEq,Sl.nf_iff]
theorem Rule.same_iff {a b:Rule}:a.same b = true ↔ a.nf = b.nf:=by
 simp only [Rule.same,Bool.and_eq_true,all2_iff (fun x y=>Source.same_iff (a:=x) (b:=y)),all2_iff (fun x y=>Target.same_iff (a:=x) (b:=y)),all2_iff (fun x y=>When.same_iff (a:=x) (b:=y)),Rule.nf,Rule.mk.injEq,Sl.nf_iff]
theorem Pol.same_iff {a b:Pol}:a.same b = true ↔ a.nf = b.nf:=by
 simp only [Pol.same,Bool.and_eq_true,beq_iff_eq,eqS_iff,all2_iff (fun x y=>Rule.same_iff (a:=x) (b:=y)),Pol.nf,Pol.mk.injEq,Sl.nf_iff]
theorem Pol.own_nf (p:Pol):p.own.nf = p.nf:=Pol.same_iff.1 (own_same p)
theorem all_nf {α:Type} {p:α -> Bool} {f:α -> α} (h:∀ x,p (f x) = p x) (s:Sl α):(s.nf f).l.all p = s.l.all p:=by
 simp only [Sl.nf,List.all_map]
 congr 1
 funext x
 exact h x
theorem termsMay_nf (s:Sl Term):termsMay (s.nf id) = termsMay s:=by simp [termsMay,Sl.nf]
theorem sourceMay_nf (s:Source):sourceMay s.nf = sourceMay s:=by
 simp only [sourceMay,Source.nf,termsMay_nf]
 simp [netsMay,Sl.nf]
theorem targetMay_nf (s:Target):targetMay s.nf = targetMay s:=by
 simp only [targetMay,Target.nf,termsMay_nf]
 simp [Sl.nf]
theorem whenMay_nf (s:When):whenMay s.nf = whenMay s:=by
 simp only [whenMay,When.nf,termsMay_nf]
 simp [Sl.nf]
theorem ruleMay_nf (s:Rule):ruleMay s.nf = ruleMay s:=by
 simp only [ruleMay,Rule.nf,all_nf sourceMay_nf,all_nf targetMay_nf,all_nf whenMay_nf]
 simp [Sl.nf]
theorem polMay_nf (p:Pol):polMay p.nf = polMay p:=by
 simp only [polMay,Pol.nf,all_nf ruleMay_nf]
 simp only [Sl.nf,List.length_map]
 rfl
def Vw.nf (v:Vw):Vw:=⟨v.epoch,v.covers.nf id,v.pods.nf id,v.services.nf id,v.bound.nf id,v.policies.nf Pol.nf⟩
theorem Vw.same_iff {a b:Vw}:a.same b = true ↔ a.nf = b.nf:=by
 simp only [Vw.same,Bool.and_eq_true,beq_iff_eq,ints_iff,all2_iff (g:=id) (fun x y=>Pod.eqB_iff (x:=x) (y:=y)),all2_iff (g:=id) (fun x y=>Svc.eqB_iff (x:=x) (y:=y)),all2_iff (g:=id) (fun x y=>Way.eqB_iff (x:=x) (y:=y)),all2_iff (fun x y=>Pol.same_iff (a:=x) (b:=y)),Vw.nf,Vw.mk.injEq,Sl.nf_iff]
theorem vwMay_nf (v:Vw):vwMay v.nf = vwMay v:=by
 have h1:(v.policies.l.map Pol.nf).any (fun p=>!polMay p) = v.policies.l.any fun p=>!polMay p:=by
  rw [List.any_map]; congr 1; funext p; simp [polMay_nf]
 have h2:(v.policies.l.map Pol.nf).map Pol.id = v.policies.l.map Pol.id:=by rw [List.map_map]; rfl
 simp only [vwMay,Vw.nf,Sl.nf,thingsT,oddT,risK,h1,h2,List.map_id,List.length_map]
theorem polIds_nf (l:List Pol):(l.map Pol.nf).map Pol.id = l.map Pol.id:=by rw [List.map_map]; rfl
def diffV (a b:Vw) (n1 n2 n3 n4 m1 m2 m3 m4:Bool) (P:List Pol):Dlt :=
 ⟨b.epoch,b.covers,⟨n1,freshV Pod.eqB a.pods.l b.pods.l⟩,⟨n2,freshV Svc.eqB a.services.l b.services.l⟩,⟨n3,freshV Way.eqB a.bound.l b.bound.l⟩,⟨n4,P⟩,⟨m1,goneV Pod.uid a.pods.l b.pods.l⟩,⟨m2,goneV Svc.id a.services.l b.services.l⟩,⟨m3,goneV Way.id a.bound.l b.bound.l⟩,⟨m4,goneV Pol.id a.policies.l b.policies.l⟩⟩
end Go.Proofs.YtmahnnnccohccaaGreat
namespace Go.Proofs.YtmahnnnccohccaaGreat
section
variable {α:Type} {key:α -> Int} {f:α -> α}
theorem putV_map (hf:∀ x,key (f x) = key x) (l fresh:List α) (gone:List Int):(putV key l fresh gone).map f = putV key (l.map f) (fresh.map f) gone:=by
 have h1:∀ x,putIn key (fresh.map f) gone (f x) = putIn key fresh gone x:=fun x=>by
  simp only [putIn,hf,List.any_map]
  congr 2
  congr 1
  funext y
  simp [hf]
 unfold putV
 rw [List.map_mergeSort (s:=fun a b=>decide (key a <= key b)) (fun a _ b _=>by simp [hf]),List.map_append,List.filter_map]
 congr 3
 congr 1
 funext x
 exact (h1 x).symm
theorem freshV_map {same:α -> α -> Bool} (hs:∀ x y,same (f x) (f y) = same x y) (a b:List α):(freshV same a b).map f = freshV same (a.map f) (b.map f):=by
 unfold freshV
 rw [List.filter_map]
 congr 2
 funext x
 simp [List.any_map,Function.comp_def,hs]
theorem goneV_map (hf:∀ x,key (f x) = key x) (a b:List α):goneV key (a.map f) (b.map f) = goneV key a b:=by
 unfold goneV
 rw [List.filter_map,List.map_map]
 have h1:(fun x=>!(b.map f).any fun y=>key x == key y) ∘ f = fun x=>!b.any fun y=>key x == key y:=by
  funext x
  simp [List.any_map,Function.comp_def,hf]
 rw [h1]
 exact List.map_congr_left fun x _=>hf x
end
theorem Source.nf_nf (s:Source):s.nf.nf = s.nf:=by simp [Source.nf,Sl.nf]
theorem Target.nf_nf (s:Target):s.nf.nf = s.nf:=by simp [Target.nf,Sl.nf]
theorem When.nf_nf (s:When):s.nf.nf = s.nf:=by simp [When.nf,Sl.nf]
theorem Rule.nf_nf (s:Rule):s.nf.nf = s.nf:=by
 simp only [Rule.nf,Sl.nf,List.map_map,Function.comp_def,Source.nf_nf,Target.nf_nf,When.nf_nf]
theorem Pol.nf_nf (s:Pol):s.nf.nf = s.nf:=by
 simp only [Pol.nf,Sl.nf,List.map_map,Function.comp_def,Rule.nf_nf]
theorem Pol.same_nf (a b:Pol):Pol.same a.nf b.nf = a.same b:=by
 rw [Bool.eq_iff_iff,Pol.same_iff,Pol.same_iff,Pol.nf_nf,Pol.nf_nf]
theorem pairs_of {α:Type} {key:α -> Int} {l:List α} {n:Int} (h:risK key l n = true):(l.map key).Pairwise (· < ·) /\ (l.length:Int) <= n:=by
 simp only [risK,Bool.and_eq_true,decide_eq_true_eq] at h
 exact ⟨risesL_pair h.1,h.2⟩
theorem apart_diff {α:Type} {key:α -> Int} {same:α -> α -> Bool} {a b fr:List α} {n:Int} (ha:risK key a n = true) (hfr:∀ x ∈ fr,∃ y ∈ b,key x = key y):apartN key (goneV key a b) n fr = true:=by
 obtain ⟨h1,h2⟩:=pairs_of ha
 have hsub:(goneV key a b).Sublist (a.map key):=List.Sublist.map _ List.filter_sublist
 have hlen:=hsub.length_le
 simp only [List.length_map] at hlen
 simp only [apartN,Bool.and_eq_true,decide_eq_true_eq,Bool.not_eq_true',List.any_eq_false]
 refine ⟨⟨pair_rises (List.Pairwise.sublist hsub h1),by omega⟩,fun x hx=>?_⟩
 rw [hasT_iff]
 intro hg
 obtain ⟨y,hy,hk⟩:=hfr x hx
 simp only [goneV,List.mem_map,List.mem_filter,Bool.not_eq_true',List.any_eq_false,beq_iff_eq] at hg
 obtain ⟨z,⟨_,h3⟩,h4⟩:=hg
 exact h3 y hy (by omega)
theorem risK_filter {α:Type} {key:α -> Int} {p:α -> Bool} {l:List α} {n:Int} (h:risK key l n = true):risK key (l.filter p) n = true:=by
 obtain ⟨h1,h2⟩:=pairs_of h
 have:=List.length_filter_le p l
 simp only [risK,Bool.and_eq_true,decide_eq_true_eq]
 exact ⟨pair_rises (List.Pairwise.sublist (List.Sublist.map _ List.filter_sublist) h1),by omega⟩
theorem any_filter_f {α:Type} {p q:α -> Bool} {l:List α} (h:l.any p = false):(l.filter q).any p = false:=by
 rw [List.any_eq_false] at h ⊢
 exact fun x hx=>h x (List.mem_filter.1 hx).1
theorem vwMay_parts {v:Vw} (h:vwMay v = true):v.epoch <= 4611686018427387903 /\ coversT v.covers.l 38 = true /\ v.pods.l.any vpodBad = false /\ v.services.l.any vsvcBad = false /\ v.bound.l.any vwayBad = false ∧
 risK Pod.uid v.pods.l 16 = true /\ risK Svc.id v.services.l 6 = true /\ risK Way.id v.bound.l 4 = true /\ risK Pol.id v.policies.l 12 = true /\ (v.policies.l.any fun p=>!polMay p) = false:=by
 simp only [vwMay,thingsT,oddT,Bool.and_eq_true,Bool.not_eq_true',Bool.or_eq_false_iff,decide_eq_true_eq] at h
 obtain ⟨m1,m2,⟨⟨m3,m4,m5⟩,m6,m7,m8,m9⟩,m10⟩:=h
 exact ⟨m1,m2,m3,m4,m5,m6,m7,m8,m9,m10⟩
theorem vwMay_mk {v:Vw} (m1:v.epoch <= 4611686018427387903) (m2:coversT v.covers.l 38 = true) (m3:v.pods.l.any vpodBad = false) (m4:v.services.l.any vsvcBad = false) (m5:v.bound.l.any vwayBad = false)
 (m6:risK Pod.uid v.pods.l 16 = true) (m7:risK Svc.id v.services.l 6 = true) (m8:risK Way.id v.bound.l 4 = true) (m9:risK Pol.id v.policies.l 12 = true) (m10:(v.policies.l.any fun p=>!polMay p) = false):vwMay v = true:=by
 simp [vwMay,thingsT,oddT,m1,m2,m3,m4,m5,m6,m7,m8,m9,m10]
def freshP (a b:Vw):List Pol:=(freshV Pol.same a.policies.l b.policies.l).map Pol.own
theorem diff_may {a b:Vw} (ha:vwMay a = true) (hb:vwMay b = true) {n1 n2 n3 n4 m1 m2 m3 m4:Bool}:dltMay (diffV a b n1 n2 n3 n4 m1 m2 m3 m4 (freshP a b)) = true:=by
 obtain ⟨a1,a2,a3,a4,a5,a6,a7,a8,a9,a10⟩:=vwMay_parts ha
 obtain ⟨b1,b2,b3,b4,b5,b6,b7,b8,b9,b10⟩:=vwMay_parts hb
 have hid:(freshP a b).map Pol.id = (freshV Pol.same a.policies.l b.policies.l).map Pol.id:=by rw [freshP,List.map_map]; rfl
 have hlen:(freshP a b).length = (freshV Pol.same a.policies.l b.policies.l).length:=by simp [freshP]
 simp only [dltMay,Bool.and_eq_true,diffV]
 refine ⟨⟨apart_diff (same:=Pod.eqB) a6 fun x hx=>⟨x,(List.mem_filter.1 hx).1,rfl⟩,apart_diff (same:=Svc.eqB) a7 fun x hx=>⟨x,(List.mem_filter.1 hx).1,rfl⟩,apart_diff (same:=Way.eqB) a8 fun x hx=>⟨x,(List.mem_filter.1 hx).1,rfl⟩,apart_diff (same:=Pol.same) a9 fun x hx=>?_⟩,?_⟩
 · obtain ⟨y,hy,rfl⟩:=List.mem_map.1 hx
   exact ⟨y,(List.mem_filter.1 hy).1,rfl⟩
 · refine vwMay_mk b1 b2 (any_filter_f b3) (any_filter_f b4) (any_filter_f b5) (risK_filter b6) (risK_filter b7) (risK_filter b8) ?_ ?_
   · have:=risK_filter (p:=fun x=>!a.policies.l.any fun y=>Pol.same x y) b9
     simp only [risK,Dlt.vw,hid,hlen] at this ⊢
     exact this
   · simp only [Dlt.vw,freshP,List.any_map]
     have:=any_filter_f (q:=fun x=>!a.policies.l.any fun y=>Pol.same x y) b10
     rw [List.any_eq_false] at this ⊢
     intro x hx
     simp only [Function.comp,polMay_own]
     exact this x hx
theorem put_makes {a a' b:Vw} (ha:vwMay a = true) (hb:vwMay b = true) (hn:a'.nf = a.nf) {n1 n2 n3 n4:Bool} {d:Dlt} {k1 k2 k3 k4 m1 m2 m3 m4:Bool} (hd:d = diffV a b k1 k2 k3 k4 m1 m2 m3 m4 (freshP a b)) :
 Vw.nf ⟨d.epoch,d.covers,⟨n1,putV Pod.uid a'.pods.l d.pods.l d.gonePods.l⟩,⟨n2,putV Svc.id a'.services.l d.services.l d.goneServices.l⟩,⟨n3,putV Way.id a'.bound.l d.bound.l d.goneBound.l⟩,⟨n4,(putV Pol.id a'.policies.l d.policies.l d.gonePolicies.l).map Pol.own⟩⟩ = b.nf:=by
 subst hd
 obtain ⟨a1,a2,a3,a4,a5,a6,a7,a8,a9,a10⟩:=vwMay_parts ha
 obtain ⟨b1,b2,b3,b4,b5,b6,b7,b8,b9,b10⟩:=vwMay_parts hb
 simp only [Vw.nf,Vw.mk.injEq,Sl.nf_iff,List.map_id] at hn
 obtain ⟨_,_,h1,h2,h3,h4⟩:=hn
 have e1:=put_diff_eq (key:=Pod.uid) (same:=Pod.eqB) (a:=a.pods.l) (b:=b.pods.l) (fun x _ y _ h=>Pod.eqB_iff.1 h) (pairs_of a6).1 (pairs_of b6).1
 have e2:=put_diff_eq (key:=Svc.id) (same:=Svc.eqB) (a:=a.services.l) (b:=b.services.l) (fun x _ y _ h=>Svc.eqB_iff.1 h) (pairs_of a7).1 (pairs_of b7).1
 have e3:=put_diff_eq (key:=Way.id) (same:=Way.eqB) (a:=a.bound.l) (b:=b.bound.l) (fun x _ y _ h=>Way.eqB_iff.1 h) (pairs_of a8).1 (pairs_of b8).1
 have e4:=put_diff_eq (key:=Pol.id) (same:=Pol.same) (a:=a.policies.l.map Pol.nf) (b:=b.policies.l.map Pol.nf) (fun x hx y hy h=>by
  obtain ⟨p,_,rfl⟩:=List.mem_map.1 hx
  obtain ⟨q,_,rfl⟩:=List.mem_map.1 hy
  have:=Pol.same_iff.1 h
  rwa [Pol.nf_nf,Pol.nf_nf] at this) (by rw [polIds_nf]; exact (pairs_of a9).1) (by rw [polIds_nf]; exact (pairs_of b9).1)
 have hk:∀ x:Pol,Pol.id x.nf = x.id:=fun _=>rfl
 have e5:((putV Pol.id a'.policies.l (freshP a b) (goneV Pol.id a.policies.l b.policies.l)).map Pol.own).map Pol.nf = b.policies.l.map Pol.nf:=by
  have o1:∀ l:List Pol,(l.map Pol.own).map Pol.nf = l.map Pol.nf:=fun l=>by
   rw [List.map_map]; exact List.map_congr_left fun x _=>Pol.own_nf x
  rw [o1,putV_map hk,h4,freshP,o1,freshV_map Pol.same_nf,← goneV_map hk a.policies.l b.policies.l]
  exact e4
 simp only [Vw.nf,diffV,Vw.mk.injEq,Sl.nf_iff,List.map_id,h1,h2,h3,e1,e2,e3,e5,true_and]
end Go.Proofs.YtmahnnnccohccaaGreat
namespace Go.Proofs.YtmahnnnccohccaaGreat
open List
section
variable {E:Calls'} {T:FuncId -> Option QF} {val:FuncId -> Bool}
theorem S_pars {α:Type} {cells:α -> List D} {z c sf:FuncId} {same:α -> α -> Bool} (ht:T c = some (parsQ z)) (hv:val c = false) {x y:α} (hx:(cells x).length = z) (hy:(cells y).length = z) (hsf:∀ h,Sm E T val sf [ag (cells x),ag (cells y)] h = some (bl (same x y),h)) {p r:Nat} {h:Hp} (hp:getB h.bs p = some [.fn sf []]) (hr:getB h.bs r = some ((cells x).map .d)) :
 Sm E T val c [ag (cells y),.ptr p 0,.ptr r 0] h = some (bl (same x y),h):=by
 rw [Sm_ref ht hv]
 have hsx:=sub_c hx
 have hsy:=sub_c hy
 simp [parsQ,Bd_mk,getB_of hp,getB_of hr,hsf,hsx,hsy,V.under]
theorem S_parc {α:Type} {cells:α -> List D} {z c c11 sm any idx sf:FuncId} {same:α -> α -> Bool} (ht:T c = some (parcQ c11 sm)) (hv:val c = false) (ht1:T c11 = some (parsQ z)) (hv1:val c11 = false) (ts:T sm = some (someQ any)) (vs:val sm = false) (ta:T any = some (anyQ idx)) (va:val any = false) (ti:T idx = some (idxQ z)) (vi:val idx = false)
 (hz:∀ x,(cells x).length = z) {a:Sl α} (hs:short a) {x:α} (hsf:∀ y ∈ a.l,∀ h,Sm E T val sf [ag (cells x),ag (cells y)] h = some (bl (same x y),h))
 {p f:Nat} {h:Hp} (hp:getB h.bs p = some [.fn sf []]) (hf:getB h.bs f = some [.d (a.d cells)]) :
 Sm E T val c [ag (cells x),.ptr f 0,.ptr p 0] h = some (bl (!a.l.any fun y=>same x y),h):=by
 have hsx:=sub_c (hz x)
 have hcl:∀ y ∈ a.l,∀ lo,Sm E T val c11 (.agg ((cells y).map .d) :: [.ptr p 0,.ptr h.bs.length 0]) ⟨h.bs ++ [.cells ((cells x).map .d)],lo⟩ = some (.d (.bool (same x y)),⟨h.bs ++ [.cells ((cells x).map .d)],lo⟩):=fun y hy lo =>
  S_pars ht1 hv1 (hz x) (hz y) (hsf y hy) (getB_of hp) (by rw [getB_at]; rfl)
 have hsm:∀ lo,Sm E T val sm [.d (a.d cells),.fn c11 [.ptr p 0,.ptr h.bs.length 0]] ⟨h.bs ++ [.cells ((cells x).map .d)],lo⟩ = some (bl (a.l.any fun y=>same x y),⟨h.bs ++ [.cells ((cells x).map .d)],lo⟩):=fun lo =>
  S_some ts vs rfl rfl (S_any cells ti vi ta va (h:=⟨h.bs ++ [.cells ((cells x).map .d)],(h.bs ++ [Blk.cells ((cells x).map .d)]).length⟩) (RowIs.of hz _) hs.lt fun e he lo=>hcl e he lo)
 rw [Sm_ref ht hv]
 simp [parcQ,Bd_mk,getB_of hp,getB_of hf,hsx,hsm,V.under]
theorem parts_loop {α:Type} {cells:α -> List D} {z:Nat} {c2 sm any idx idf:FuncId} {zero:List V} {key:α -> Int} (t2:T c2 = some (vpeQ z)) (v2:val c2 = false) (ts:T sm = some (someQ any)) (vs:val sm = false) (ta:T any = some (anyQ idx)) (va:val any = false) (ti:T idx = some (idxQ z)) (vi:val idx = false)
 (hz:∀ x,(cells x).length = z) (hz0:0 < z) (hzero:zero.length = z) {a b:Sl α} (ha:short a) (hb:short b) (hab:a.l.length < big) (hid:∀ e,e ∈ a.l \/ e ∈ b.l -> ∀ h,Sm E T val idf [ag (cells e)] h = some (.d (u64 (key e)),h))
 {base:List Blk} {q:Nat} (hq:getB base q = some [.fn idf []]) {v8:V} (h8:nu v8 = some v8):∀ (m i:Nat) (acc:List Int) (bs:List Blk) (v:V) (lo:Nat),i + m = a.l.length -> acc.length <= i -> Acc base 1 (acc.map u64C) bs v →
 ∃ bs' v' lo',Cd E T val (.loop [1,6,8,9,15,16,17] (partsB z c2 sm zero)) [(1,.d (b.d cells)),(6,.ptr q 0),(8,v8),(9,v),(15,.d (a.d cells)),(16,.d (i64 a.l.length)),(17,.d (i64 i))] ⟨bs,lo⟩ = some (.exit 0,[(8,v8),(9,v')],⟨bs',lo'⟩) ∧
  Acc base 1 ((acc ++ ((a.l.drop i).filter fun x=>!b.l.any fun y=>key x == key y).map key).map u64C) bs' v':=by
 have hlt:=ha.lt
 intro m
 have keyW:=Cd_round (E:=E) (T:=T) (val:=val) [1,6,8,9,15,16,17] (partsB z c2 sm zero)
 generalize Cd E T val (.loop [1,6,8,9,15,16,17] (partsB z c2 sm zero)) = W at keyW ⊢
 induction m with
 | zero =>
  intro i acc bs v lo hi ha' hA
  refine ⟨bs,v,lo,?_,by rw [List.drop_eq_nil_of_le (by omega)]; simpa using hA⟩
  have hnu:=hA.nu
  rw [keyW]
  simp [partsB,h8,hnu,show ¬ ((i:Int) < a.l.length) from by omega]
 | succ m ih =>
  intro i acc bs v lo hi ha' hA
  have hnu:=hA.nu
  have h1:i < a.l.length:=by omega
  have hx:=fun h=>ix_data (cells:=cells) hz h1 (kd:=.i64) (h:=h)
  have hw:=int_next h1 hlt
  have hmem:=List.getElem_mem h1
  rw [List.drop_eq_getElem_cons h1]
  generalize a.l[i] = x at *
  have hsx:=sub_all (hz x)
  have hA1:=hA.lay [.cells ((cells x).map .d)]
  have hq1:=hA1.get hq
  have hcl:∀ y ∈ b.l,∀ lo,Sm E T val c2 (.agg ((cells y).map .d) :: [.ptr q 0,.ptr bs.length 0]) ⟨bs ++ [.cells ((cells x).map .d)],lo⟩ = some (.d (.bool (key x == key y)),⟨bs ++ [.cells ((cells x).map .d)],lo⟩):=fun y hy lo =>
   S_vpe t2 v2 (hz x) (hz y) (fun e he=>hid e (by rcases he with rfl | rfl; exact .inl hmem; exact .inr hy)) hq1 (by rw [getB_at]; rfl)
  have hsm:∀ lo,Sm E T val sm [.d (b.d cells),.fn c2 [.ptr q 0,.ptr bs.length 0]] ⟨bs ++ [.cells ((cells x).map .d)],lo⟩ = some (bl (b.l.any fun y=>key x == key y),⟨bs ++ [.cells ((cells x).map .d)],lo⟩):=fun lo =>
   S_some ts vs rfl rfl (S_any cells ti vi ta va (h:=⟨bs ++ [.cells ((cells x).map .d)],(bs ++ [Blk.cells ((cells x).map .d)]).length⟩) (RowIs.of hz _) hb.lt fun e he lo=>hcl e he lo)
  have hput:∀ y:List V,y.length = z -> put zero 0 y = some y:=fun y hy=>by
   unfold put
   rw [if_pos (by omega),List.take_zero,List.nil_append,List.drop_eq_nil_of_le (by omega),List.append_nil]
  have hpx:=hput ((cells x).map .d) (by simpa using hz x)
  have hidx:=hid x (.inl hmem)
  have hxl:¬ (cells x).length = 0:=by rw [hz x]; omega
  by_cases hg:(b.l.any fun y=>key x == key y) = true
  · obtain ⟨bs',v',lo',q1,q2⟩:=ih (i + 1) acc (bs ++ [.cells ((cells x).map .d)]) v (min lo bs.length) (by omega) (by omega) hA1
    refine ⟨bs',v',lo',?_,by simpa [hg] using q2⟩
    rw [keyW]
    simp [partsB,hx,hsx,hw,h8,hnu,hz x,hz0,hpx,hsm,hg,hidx,hq1,getB_of hq1,show ((i:Int) < a.l.length) from by omega]
    simpa using q1
  · have hg':=Bool.eq_false_iff.2 hg
    obtain ⟨v1,bs1,lo1,k1,k2⟩:=(hA1.lay [.cells [.d (u64 (key x))]]).app (by decide) (by_:=8) (by decide) (e:=u64C (key x)) rfl (by simp; omega) (min lo bs.length) (r:=bs.length + 1) (cap:=some 1) (by
     have:getB ((bs ++ [Blk.cells ((cells x).map .d)]) ++ [.cells [.d (u64 (key x))]]) (bs ++ [Blk.cells ((cells x).map .d)]).length = some [.d (u64 (key x))]:=by rw [getB_at]; rfl
     simpa [u64C] using this)
    have hnu1:=k2.nu
    obtain ⟨bs',v',lo',q1,q2⟩:=ih (i + 1) (acc ++ [key x]) bs1 v1 lo1 (by omega) (by simp; omega) (by simpa using k2)
    refine ⟨bs',v',lo',?_,by simpa [hg'] using q2⟩
    simp only [List.append_assoc,List.cons_append,List.nil_append] at k1
    have hp1:put [V.d (D.int .u64 0)] 0 [V.d (u64 (key x))] = some [V.d (u64 (key x))]:=rfl
    rw [keyW]
    simp [partsB,hx,hsx,hw,h8,hnu,hz x,hz0,hpx,hsm,hg',hidx,hq1,getB_of hq1,fillsE,hp1,k1,hnu1,show ((i:Int) < a.l.length) from by omega]
    simpa using q1
theorem KeptP.dat {α:Type} {cells:α -> List D} {z n:Nat} {nl:Bool} {l:List α} {bs bs':List Blk} {v:V} (h:KeptP cells z n nl l bs v) (ho:∀ x,x < bs.length -> bs'[x]? = bs[x]?) (lo k:Nat) (hz:∀ x,(cells x).length = z):dataV ⟨bs',lo⟩ (k + 1) v = some (.slice nl (l.map cells)):=by
 rcases h with ⟨rfl,rfl,rfl⟩ | ⟨rfl,B,cap,rest,_,rfl,hg,_⟩
 · rfl
 · refine dataV_row (by simp; intro a _; exact hz a) (by simp) ?_ (rest:=rest)
   have:=ho B (getB_len hg)
   unfold getB at hg ⊢
   rw [this]; exact hg
theorem S_parts {α:Type} {cells:α -> List D} {z b:Nat} {id c1 c11 c2 sm any idx keep cl clos del idf sf:FuncId} {zero:List V} {key:α -> Int} {same:α -> α -> Bool} (tcl:T cl = some (cloneQ z b zero)) (vcl:val cl = false) (tdel:T del = some (delQ z idx zero)) (vdel:val del = false) (ti:T idx = some (idxQ z)) (vi:val idx = false)
 (tn:T clos = some (notQ z)) (vn:val clos = false) (tk:T keep = some (keepQ cl clos del)) (vk:val keep = false) (t1:T c1 = some (parcQ c11 sm)) (v1:val c1 = false) (t11:T c11 = some (parsQ z)) (v11:val c11 = false) (t2:T c2 = some (vpeQ z)) (v2:val c2 = false) (ts:T sm = some (someQ any)) (vs:val sm = false) (ta:T any = some (anyQ idx)) (va:val any = false)
 (tid:T id = some (partsQ z keep c1 c2 sm zero)) (vid:val id = true)
 (hz:∀ x,(cells x).length = z) (hz0:0 < z) (hzero:zero.length = z) (hb4:b <= 4096) {l m:Sl α} (hl:short l) (hm:short m) (hlb:l.l.length < big)
 (hid:∀ e,e ∈ l.l \/ e ∈ m.l -> ∀ h,Sm E T val idf [ag (cells e)] h = some (.d (u64 (key e)),h)) (hsf:∀ x ∈ m.l,∀ y ∈ l.l,∀ h,Sm E T val sf [ag (cells x),ag (cells y)] h = some (bl (same x y),h)) (h:Hp) :
 Sm E T val id [.d (l.d cells),.d (m.d cells),.fn idf [],.fn sf []] h = some (.tup [.d (.slice m.nl ((freshV same l.l m.l).map cells)),.d (.slice (goneV key l.l m.l).isEmpty ((goneV key l.l m.l).map u64C))],h):=by
 have hfr:∀ f h,frz h (.fn f []) = some (.fn f []):=fun _ _=>rfl
 have hpf:∀ f,pureV (.fn f []) = true:=fun _=>rfl
 obtain ⟨r,bs1,lo1,k1,k2,k3,k4⟩:=S_keepP (E:=E) (T:=T) (val:=val) tcl vcl tdel vdel ti vi tn vn tk vk hz hz0 hzero hb4 hm (f:=c1) (caps:=[.ptr 0 0,.ptr 2 0]) (q:=fun x=>!l.l.any fun y=>same x y) (h:=⟨[.cells [.d (l.d cells)],.cells [.fn idf []],.cells [.fn sf []]],0⟩) fun e he bs lo hle ho=>by
  simp only [List.length_cons,List.length_nil] at hle ho
  refine S_parc t1 v1 t11 v11 ts vs ta va ti vi hz hl (fun y hy=>hsf e he y hy) ?_ ?_
  · simp only [getB]; rw [ho 2 (by decide)]; rfl
  · simp only [getB]; rw [ho 0 (by decide)]; rfl
 simp only [List.length_cons,List.length_nil] at k2 k3 k4
 have hb0:getB bs1 0 = some [.d (l.d cells)]:=by simp only [getB]; rw [k3 0 (by decide)]; rfl
 have hb1:getB bs1 1 = some [.fn idf []]:=by simp only [getB]; rw [k3 1 (by decide)]; rfl
 have hnur:=k4.nu
 obtain ⟨bs',v',lo',q1,q2⟩:=parts_loop (E:=E) (zero:=zero) t2 v2 ts vs ta va ti vi hz hz0 hzero hl hm hlb hid hb1 hnur.1 l.l.length 0 [] bs1 _ lo1 (by omega) (Nat.le_refl _) (Acc.nil bs1 1)
 have hdr:dataV ⟨bs',lo'⟩ 8 r = some (.slice m.nl ((freshV same l.l m.l).map cells)):=k4.dat q2.old lo' 7 hz
 have hdv:=q2.frz lo'
 have hog:([]:List Int) ++ ((l.l.drop 0).filter fun x=>!m.l.any fun y=>key x == key y).map key = goneV key l.l m.l:=rfl
 rw [hog] at hdv
 have hnv:=q2.nu
 have hfr8:frz1 ⟨bs',lo'⟩ r = some (.d (.slice m.nl ((freshV same l.l m.l).map cells))):=by
  rcases k4 with ⟨_,_,rfl⟩ | ⟨_,B,cap,rest,_,rfl,_⟩ <;> simp only [frz1,hdr]
 rw [Sm_v tid vid]
 simp only [Int.natCast_zero,Int.ofNat_zero] at q1
 simp [partsQ,Bd_mk,hfr,k1,hb0,hnur.1,hnur.2,hpf]
 rw [Cd_keep]
 simp only [keepA_cons,keepA_nil]
 simp [hnur.1,q1,hnv,hfr8,hdv.2,hpf]
end
end Go.Proofs.YtmahnnnccohccaaGreat
namespace Go.Proofs.YtmahnnnccohccaaGreat
def tabD:List (Nat × QF):=[(58,r58),(177,(partsQ 7 157 336 338 162 pod0V)),(180,(partsQ 5 160 339 341 151 svcIZ)),(183,(partsQ 2 164 342 345 343 wayIZ)),(186,(partsQ 5 167 346 349 347 pol0V)),(179,r179),(182,r182),(185,r185),(154,(cloneQ 1 4 [(.d (.int .u32 0))])),(336,(parcQ 337 162)),(339,(parcQ 340 151)),(342,(parcQ 344 343)),(346,(parcQ 348 347)),(337,(parsQ 7)),(340,(parsQ 5)),(344,(parsQ 2)),(348,(parsQ 5)),(338,(vpeQ 7)),(341,(vpeQ 5)),(345,(vpeQ 2)),(349,(vpeQ 5)),(151,(someQ 321)),(162,(someQ 327)),(343,(someQ 449)),(347,(someQ 415)),(321,(anyQ 265)),(327,(anyQ 263)),(449,(anyQ 279)),(415,(anyQ 448)),(263,(idxQ 7)),(265,(idxQ 5)),(279,(idxQ 2)),(448,(idxQ 5)),(157,(keepQ 208 324 281)),(160,(keepQ 209 326 325)),(164,(keepQ 210 329 328)),(167,(keepQ 244 331 330)),(281,(delQ 7 263 pod0V)),(325,(delQ 5 265 svcIZ)),(328,(delQ 2 279 wayIZ)),(330,(delQ 5 448 pol0V)),(208,(cloneQ 7 72 pod0V)),(209,(cloneQ 5 48 svcIZ)),(210,(cloneQ 2 16 wayIZ)),(244,(cloneQ 5 64 pol0V)),(324,(notQ 7)),(326,(notQ 5)),(329,(notQ 2)),(331,(notQ 5))]
def TD:FuncId -> Option QF:=lookT tabD
def valD (f:FuncId):Bool:=[58,177,180,183,186,179,182,185,154].any fun n=>Nat.beq n f
theorem rt58:TD 58 = some r58:=by kernel_rfl
theorem rv58:valD 58 = true:=by kernel_rfl
theorem rt177:TD 177 = some (partsQ 7 157 336 338 162 pod0V):=by kernel_rfl
theorem rv177:valD 177 = true:=by kernel_rfl
theorem rt180:TD 180 = some (partsQ 5 160 339 341 151 svcIZ):=by kernel_rfl
theorem rv180:valD 180 = true:=by kernel_rfl
theorem rt183:TD 183 = some (partsQ 2 164 342 345 343 wayIZ):=by kernel_rfl
theorem rv183:valD 183 = true:=by kernel_rfl
theorem rt186:TD 186 = some (partsQ 5 167 346 349 347 pol0V):=by kernel_rfl
theorem rv186:valD 186 = true:=by kernel_rfl
theorem rt179:TD 179 = some r179:=by kernel_rfl
theorem rv179:valD 179 = true:=by kernel_rfl
theorem rt182:TD 182 = some r182:=by kernel_rfl
theorem rv182:valD 182 = true:=by kernel_rfl
theorem rt185:TD 185 = some r185:=by kernel_rfl
theorem rv185:valD 185 = true:=by kernel_rfl
theorem rt154:TD 154 = some (cloneQ 1 4 [(.d (.int .u32 0))]):=by kernel_rfl
theorem rv154:valD 154 = true:=by kernel_rfl
theorem rt336:TD 336 = some (parcQ 337 162):=by kernel_rfl
theorem rv336:valD 336 = false:=by kernel_rfl
theorem rt339:TD 339 = some (parcQ 340 151):=by kernel_rfl
theorem rv339:valD 339 = false:=by kernel_rfl
theorem rt342:TD 342 = some (parcQ 344 343):=by kernel_rfl
theorem rv342:valD 342 = false:=by kernel_rfl
theorem rt346:TD 346 = some (parcQ 348 347):=by kernel_rfl
theorem rv346:valD 346 = false:=by kernel_rfl
theorem rt337:TD 337 = some (parsQ 7):=by kernel_rfl
theorem rv337:valD 337 = false:=by kernel_rfl
theorem rt340:TD 340 = some (parsQ 5):=by kernel_rfl
theorem rv340:valD 340 = false:=by kernel_rfl
theorem rt344:TD 344 = some (parsQ 2):=by kernel_rfl
theorem rv344:valD 344 = false:=by kernel_rfl
theorem rt348:TD 348 = some (parsQ 5):=by kernel_rfl
theorem rv348:valD 348 = false:=by kernel_rfl
theorem rt338:TD 338 = some (vpeQ 7):=by kernel_rfl
theorem rv338:valD 338 = false:=by kernel_rfl
theorem rt341:TD 341 = some (vpeQ 5):=by kernel_rfl
theorem rv341:valD 341 = false:=by kernel_rfl
theorem rt345:TD 345 = some (vpeQ 2):=by kernel_rfl
theorem rv345:valD 345 = false:=by kernel_rfl
theorem rt349:TD 349 = some (vpeQ 5):=by kernel_rfl
theorem rv349:valD 349 = false:=by kernel_rfl
theorem rt151:TD 151 = some (someQ 321):=by kernel_rfl
theorem rv151:valD 151 = false:=by kernel_rfl
theorem rt162:TD 162 = some (someQ 327):=by kernel_rfl
theorem rv162:valD 162 = false:=by kernel_rfl
theorem rt343:TD 343 = some (someQ 449):=by kernel_rfl
theorem rv343:valD 343 = false:=by kernel_rfl
theorem rt347:TD 347 = some (someQ 415):=by kernel_rfl
theorem rv347:valD 347 = false:=by kernel_rfl
theorem rt321:TD 321 = some (anyQ 265):=by kernel_rfl
theorem rv321:valD 321 = false:=by kernel_rfl
theorem rt327:TD 327 = some (anyQ 263):=by kernel_rfl
theorem rv327:valD 327 = false:=by kernel_rfl
theorem rt449:TD 449 = some (anyQ 279):=by kernel_rfl
theorem rv449:valD 449 = false:=by kernel_rfl
theorem rt415:TD 415 = some (anyQ 448):=by kernel_rfl
theorem rv415:valD 415 = false:=by kernel_rfl
theorem rt263:TD 263 = some (idxQ 7):=by kernel_rfl
theorem rv263:valD 263 = false:=by kernel_rfl
theorem rt265:TD 265 = some (idxQ 5):=by kernel_rfl
theorem rv265:valD 265 = false:=by kernel_rfl
theorem rt279:TD 279 = some (idxQ 2):=by kernel_rfl
theorem rv279:valD 279 = false:=by kernel_rfl
theorem rt448:TD 448 = some (idxQ 5):=by kernel_rfl
theorem rv448:valD 448 = false:=by kernel_rfl
theorem rt157:TD 157 = some (keepQ 208 324 281):=by kernel_rfl
theorem rv157:valD 157 = false:=by kernel_rfl
theorem rt160:TD 160 = some (keepQ 209 326 325):=by kernel_rfl
theorem rv160:valD 160 = false:=by kernel_rfl
theorem rt164:TD 164 = some (keepQ 210 329 328):=by kernel_rfl
theorem rv164:valD 164 = false:=by kernel_rfl
theorem rt167:TD 167 = some (keepQ 244 331 330):=by kernel_rfl
theorem rv167:valD 167 = false:=by kernel_rfl
theorem rt281:TD 281 = some (delQ 7 263 pod0V):=by kernel_rfl
theorem rv281:valD 281 = false:=by kernel_rfl
theorem rt325:TD 325 = some (delQ 5 265 svcIZ):=by kernel_rfl
theorem rv325:valD 325 = false:=by kernel_rfl
theorem rt328:TD 328 = some (delQ 2 279 wayIZ):=by kernel_rfl
theorem rv328:valD 328 = false:=by kernel_rfl
theorem rt330:TD 330 = some (delQ 5 448 pol0V):=by kernel_rfl
theorem rv330:valD 330 = false:=by kernel_rfl
theorem rt208:TD 208 = some (cloneQ 7 72 pod0V):=by kernel_rfl
theorem rv208:valD 208 = false:=by kernel_rfl
theorem rt209:TD 209 = some (cloneQ 5 48 svcIZ):=by kernel_rfl
theorem rv209:valD 209 = false:=by kernel_rfl
theorem rt210:TD 210 = some (cloneQ 2 16 wayIZ):=by kernel_rfl
theorem rv210:valD 210 = false:=by kernel_rfl
theorem rt244:TD 244 = some (cloneQ 5 64 pol0V):=by kernel_rfl
theorem rv244:valD 244 = false:=by kernel_rfl
theorem rt324:TD 324 = some (notQ 7):=by kernel_rfl
theorem rv324:valD 324 = false:=by kernel_rfl
theorem rt326:TD 326 = some (notQ 5):=by kernel_rfl
theorem rv326:valD 326 = false:=by kernel_rfl
theorem rt329:TD 329 = some (notQ 2):=by kernel_rfl
theorem rv329:valD 329 = false:=by kernel_rfl
theorem rt331:TD 331 = some (notQ 5):=by kernel_rfl
theorem rv331:valD 331 = false:=by kernel_rfl
theorem rt62:TD 62 = none:=by kernel_rfl
theorem rt189:TD 189 = none:=by kernel_rfl
theorem rt188:TD 188 = none:=by kernel_rfl
theorem rt178:TD 178 = none:=by kernel_rfl
theorem rt181:TD 181 = none:=by kernel_rfl
theorem rt184:TD 184 = none:=by kernel_rfl
theorem rt187:TD 187 = none:=by kernel_rfl
structure DiffH (E:Calls'):Prop where
 h62:∀ v:Vw,v.ok -> (∀ p ∈ v.policies.l,p.wf big) -> ∀ h,E 62 [v.v] h = some (bl (vwMay v),h)
 h189:∀ s:Sl Pol,short s -> (∀ p ∈ s.l,p.ok) -> ∀ h,E 189 [.d (s.d Pol.c)] h = some (.d (Sl.d Pol.c ⟨s.nl,s.l.map Pol.own⟩),h)
 h188:∀ p q:Pol,p.ok -> q.ok -> ∀ h,E 188 [ag p.c,ag q.c] h = some (bl (p.same q),h)
 h178:∀ (p:Pod) h,E 178 [ag p.c] h = some (.d (u64 p.uid),h)
 h181:∀ (p:Svc) h,E 181 [ag p.c] h = some (.d (u64 p.id),h)
 h184:∀ (p:Way) h,E 184 [ag p.c] h = some (.d (u64 p.id),h)
 h187:∀ (p:Pol) h,E 187 [ag p.c] h = some (.d (u64 p.id),h)
section
variable {E:Calls'}
theorem D179 (x y:Pod) (h:Hp):Sm E TD valD 179 [ag x.c,ag y.c] h = some (bl (Pod.eqB x y),h):=by
 rw [Sm_v rt179 rv179]
 simp [Bd_mk,r179]
theorem D182 (x y:Svc) (h:Hp):Sm E TD valD 182 [ag x.c,ag y.c] h = some (bl (Svc.eqB x y),h):=by
 rw [Sm_v rt182 rv182]
 simp [Bd_mk,r182]
theorem D185 (x y:Way) (h:Hp):Sm E TD valD 185 [ag x.c,ag y.c] h = some (bl (Way.eqB x y),h):=by
 rw [Sm_v rt185 rv185]
 simp [Bd_mk,r185]
variable (H:DiffH E)
include H
theorem D177 {l m:Sl Pod} (hl:short l) (hm:short m) (hlb:l.l.length < big) (h:Hp) :
 Sm E TD valD 177 [.d (l.d Pod.c),.d (m.d Pod.c),.fn 178 [],.fn 179 []] h = some (.tup [.d (.slice m.nl ((freshV Pod.eqB l.l m.l).map Pod.c)),.d (.slice (goneV Pod.uid l.l m.l).isEmpty ((goneV Pod.uid l.l m.l).map u64C))],h) :=
 S_parts (E:=E) (T:=TD) (val:=valD) (z:=7) (b:=72) rt208 rv208 rt281 rv281 rt263 rv263 rt324 rv324 rt157 rv157 rt336 rv336 rt337 rv337 rt338 rv338 rt162 rv162 rt327 rv327 rt177 rv177 (fun _=>rfl) (by decide) rfl (by decide) hl hm hlb (fun e _ h=>by rw [Sm_ext rt178]; exact H.h178 e h) (fun x _ y _ h=>D179 x y h) h
theorem D180 {l m:Sl Svc} (hl:short l) (hm:short m) (hlb:l.l.length < big) (h:Hp) :
 Sm E TD valD 180 [.d (l.d Svc.c),.d (m.d Svc.c),.fn 181 [],.fn 182 []] h = some (.tup [.d (.slice m.nl ((freshV Svc.eqB l.l m.l).map Svc.c)),.d (.slice (goneV Svc.id l.l m.l).isEmpty ((goneV Svc.id l.l m.l).map u64C))],h) :=
 S_parts (E:=E) (T:=TD) (val:=valD) (z:=5) (b:=48) rt209 rv209 rt325 rv325 rt265 rv265 rt326 rv326 rt160 rv160 rt339 rv339 rt340 rv340 rt341 rv341 rt151 rv151 rt321 rv321 rt180 rv180 (fun _=>rfl) (by decide) rfl (by decide) hl hm hlb (fun e _ h=>by rw [Sm_ext rt181]; exact H.h181 e h) (fun x _ y _ h=>D182 x y h) h
theorem D183 {l m:Sl Way} (hl:short l) (hm:short m) (hlb:l.l.length < big) (h:Hp) :
 Sm E TD valD 183 [.d (l.d Way.c),.d (m.d Way.c),.fn 184 [],.fn 185 []] h = some (.tup [.d (.slice m.nl ((freshV Way.eqB l.l m.l).map Way.c)),.d (.slice (goneV Way.id l.l m.l).isEmpty ((goneV Way.id l.l m.l).map u64C))],h) :=
 S_parts (E:=E) (T:=TD) (val:=valD) (z:=2) (b:=16) rt210 rv210 rt328 rv328 rt279 rv279 rt329 rv329 rt164 rv164 rt342 rv342 rt344 rv344 rt345 rv345 rt343 rv343 rt449 rv449 rt183 rv183 (fun _=>rfl) (by decide) rfl (by decide) hl hm hlb (fun e _ h=>by rw [Sm_ext rt184]; exact H.h184 e h) (fun x _ y _ h=>D185 x y h) h
theorem D186 {l m:Sl Pol} (hl:short l) (hm:short m) (hlb:l.l.length < big) (hlo:∀ p ∈ l.l,p.ok) (hmo:∀ p ∈ m.l,p.ok) (h:Hp) :
 Sm E TD valD 186 [.d (l.d Pol.c),.d (m.d Pol.c),.fn 187 [],.fn 188 []] h = some (.tup [.d (.slice m.nl ((freshV Pol.same l.l m.l).map Pol.c)),.d (.slice (goneV Pol.id l.l m.l).isEmpty ((goneV Pol.id l.l m.l).map u64C))],h) :=
 S_parts (E:=E) (T:=TD) (val:=valD) (z:=5) (b:=64) rt244 rv244 rt330 rv330 rt448 rv448 rt331 rv331 rt167 rv167 rt346 rv346 rt348 rv348 rt349 rv349 rt347 rv347 rt415 rv415 rt186 rv186 (fun _=>rfl) (by decide) rfl (by decide) hl hm hlb (fun e _ h=>by rw [Sm_ext rt187]; exact H.h187 e h) (fun x hx y hy h=>by rw [Sm_ext rt188]; exact H.h188 x y (hmo x hx) (hlo y hy) h) h
def dlt0:Dlt:=⟨0,⟨true,[]⟩,⟨true,[]⟩,⟨true,[]⟩,⟨true,[]⟩,⟨true,[]⟩,⟨true,[]⟩,⟨true,[]⟩,⟨true,[]⟩,⟨true,[]⟩⟩
def diffN (a b:Vw):Dlt:=diffV a b b.pods.nl b.services.nl b.bound.nl b.policies.nl (goneV Pod.uid a.pods.l b.pods.l).isEmpty (goneV Svc.id a.services.l b.services.l).isEmpty (goneV Way.id a.bound.l b.bound.l).isEmpty (goneV Pol.id a.policies.l b.policies.l).isEmpty (freshP a b)
theorem D58n (a b:Vw) (ha:a.ok) (hwa:∀ p ∈ a.policies.l,p.wf big) (hb:b.ok) (hwb:∀ p ∈ b.policies.l,p.wf big) (hno:(vwMay a && vwMay b) = false) (h:Hp):Sm E TD valD 58 [a.v,b.v] h = some (.tup [ag dlt0.c,.d (i64 1)],h):=by
 have k1:=fun h=>(Sm_ext (T:=TD) (val:=valD) rt62:_ = E 62 [a.v] h).trans (H.h62 a ha hwa h)
 have k2:=fun h=>(Sm_ext (T:=TD) (val:=valD) rt62:_ = E 62 [b.v] h).trans (H.h62 b hb hwb h)
 rw [Sm_v rt58 rv58]
 cases m1:vwMay a with
 | false=>simp (decide:=true) [Bd_mk,r58,k1,m1,fillsE]; rfl
 | true =>
  have m2:vwMay b = false:=by simpa [m1] using hno
  simp (decide:=true) [Bd_mk,r58,k1,k2,m1,m2,fillsE]; rfl
theorem D58 (a b:Vw) (ha:a.ok) (hwa:∀ p ∈ a.policies.l,p.wf big) (hb:b.ok) (hwb:∀ p ∈ b.policies.l,p.wf big) (m1:vwMay a = true) (m2:vwMay b = true) (h:Hp):Sm E TD valD 58 [a.v,b.v] h = some (.tup [ag (diffN a b).c,.d (i64 0)],h):=by
 have k1:=fun h=>(Sm_ext (T:=TD) (val:=valD) rt62:_ = E 62 [a.v] h).trans (H.h62 a ha hwa h)
 have k2:=fun h=>(Sm_ext (T:=TD) (val:=valD) rt62:_ = E 62 [b.v] h).trans (H.h62 b hb hwb h)
 rw [m1] at k1
 rw [m2] at k2
 obtain ⟨r1,r2,r3,r4⟩:=may_ris m1
 have hbig:(32:Nat) < big:=by decide
 have a1:=risK_nodup r1; have a2:=risK_nodup r2; have a3:=risK_nodup r3; have a4:=risK_nodup r4
 have p1:=fun h=>D177 H (l:=a.pods) (m:=b.pods) ha.2.1 hb.2.1 (by omega) h
 have p2:=fun h=>D180 H (l:=a.services) (m:=b.services) ha.2.2.1 hb.2.2.1 (by omega) h
 have p3:=fun h=>D183 H (l:=a.bound) (m:=b.bound) ha.2.2.2.1 hb.2.2.2.1 (by omega) h
 have hok:∀ {x:Pol},x.wf big -> x.ok:=fun h=>h.fits
 have p4:=fun h=>D186 H (l:=a.policies) (m:=b.policies) ha.2.2.2.2.1 hb.2.2.2.2.1 (by omega) (fun p hp=>hok (hwa p hp)) (fun p hp=>hok (hwb p hp)) h
 have k154:=fun h=>S_cloneV (E:=E) (T:=TD) (val:=valD) (cells:=u32C) rt154 rv154 (by decide) (by decide) (fun _=>rfl) hb.1 h
 have hfs:∀ p ∈ freshV Pol.same a.policies.l b.policies.l,p ∈ b.policies.l:=fun p hp=>(List.mem_filter.1 hp).1
 have hfl:(freshV Pol.same a.policies.l b.policies.l).length <= b.policies.l.length:=List.length_filter_le _ _
 have k189:∀ h,Sm E TD valD 189 [.d (.slice b.policies.nl ((freshV Pol.same a.policies.l b.policies.l).map Pol.c))] h = some (.d (.slice b.policies.nl ((freshP a b).map Pol.c)),h):=fun h=>by
  rw [Sm_ext rt189]
  exact H.h189 ⟨b.policies.nl,freshV Pol.same a.policies.l b.policies.l⟩ ⟨Nat.le_trans hfl hb.2.2.2.2.1.1,fun hn=>by
   show freshV Pol.same a.policies.l b.policies.l = []
   have hh:b.policies.l = []:=hb.2.2.2.2.1.2 hn
   rw [freshV,hh]; rfl⟩ (fun p hp=>hok (hwb p (hfs p hp))) h
 have hD:ag (diffN a b).c = ag [u64 b.epoch,b.covers.d u32C,.slice b.pods.nl ((freshV Pod.eqB a.pods.l b.pods.l).map Pod.c),.slice b.services.nl ((freshV Svc.eqB a.services.l b.services.l).map Svc.c),.slice b.bound.nl ((freshV Way.eqB a.bound.l b.bound.l).map Way.c),.slice b.policies.nl ((freshP a b).map Pol.c),
  .slice (goneV Pod.uid a.pods.l b.pods.l).isEmpty ((goneV Pod.uid a.pods.l b.pods.l).map u64C),.slice (goneV Svc.id a.services.l b.services.l).isEmpty ((goneV Svc.id a.services.l b.services.l).map u64C),.slice (goneV Way.id a.bound.l b.bound.l).isEmpty ((goneV Way.id a.bound.l b.bound.l).map u64C),.slice (goneV Pol.id a.policies.l b.policies.l).isEmpty ((goneV Pol.id a.policies.l b.policies.l).map u64C)]:=rfl
 rw [hD]
 clear hD hfs hfl
 generalize freshP a b = F4 at *
 generalize freshV Pod.eqB a.pods.l b.pods.l = F1 at *
 generalize freshV Svc.eqB a.services.l b.services.l = F2 at *
 generalize freshV Way.eqB a.bound.l b.bound.l = F3 at *
 generalize freshV Pol.same a.policies.l b.policies.l = F5 at *
 generalize goneV Pod.uid a.pods.l b.pods.l = G1 at *
 generalize goneV Svc.id a.services.l b.services.l = G2 at *
 generalize goneV Way.id a.bound.l b.bound.l = G3 at *
 generalize goneV Pol.id a.policies.l b.policies.l = G4 at *
 rw [Sm_v rt58 rv58]
 simp (decide:=true) [Bd_mk,r58,fillsE,k1,k2,p1,p2,p3,p4,k154,k189,openA,opDE_call,noTr]
 all_goals first | rfl | done
end
end Go.Proofs.YtmahnnnccohccaaGreat
namespace Go.Proofs.YtmahnnnccohccaaGreat
theorem diffN_ok {a b:Vw} (ha:a.ok) (hb:b.ok) (hwb:∀ p ∈ b.policies.l,p.wf big):(diffN a b).ok /\ ∀ p ∈ (diffN a b).policies.l,p.wf big:=by
 have fl:∀ {α:Type} (f:α -> Bool) {s:Sl α},short s -> short ⟨s.nl,s.l.filter f⟩:=fun f s hs=>⟨Nat.le_trans (List.length_filter_le _ _) hs.1,fun hn=>by
  have:s.l = []:=hs.2 hn
  show s.l.filter f = []
  rw [this]; rfl⟩
 have gl:∀ {α:Type} (key:α -> Int) (x y:List α),x.length <= big -> short (⟨(goneV key x y).isEmpty,goneV key x y⟩:Sl Int):=fun key x y hx=>⟨by
  show (goneV key x y).length <= big
  rw [goneV,List.length_map]
  exact Nat.le_trans (List.length_filter_le _ _) hx,fun hn=>List.isEmpty_iff.1 hn⟩
 have hw:∀ p ∈ freshP a b,p.wf big:=fun p hp=>by
  obtain ⟨q,hq,rfl⟩:=List.mem_map.1 hp
  exact Pol.own_wf (hwb q (List.mem_filter.1 hq).1)
 refine ⟨⟨⟨hb.1,fl _ hb.2.1,fl _ hb.2.2.1,fl _ hb.2.2.2.1,?_,fun p hp=>(hw p hp).fits⟩,gl _ _ _ ha.2.1.1,gl _ _ _ ha.2.2.1.1,gl _ _ _ ha.2.2.2.1.1,gl _ _ _ ha.2.2.2.2.1.1⟩,hw⟩
 refine ⟨?_,fun hn=>?_⟩
 · show (freshP a b).length <= big
   rw [freshP,List.length_map]
   exact Nat.le_trans (List.length_filter_le _ _) hb.2.2.2.2.1.1
 · have:b.policies.l = []:=hb.2.2.2.2.1.2 hn
   show freshP a b = []
   rw [freshP,freshV,this]; rfl
structure ChainH (E:Calls'):Prop where
 h57:∀ v:Vw,v.ok -> ∃ b:Bool,∀ h,E 57 [v.v] h = some (bl b,h)
 h50:∀ h,E 50 [] h = some (bl true,h)
 h58n:∀ a b:Vw,a.ok -> (∀ p ∈ a.policies.l,p.wf big) -> b.ok -> (∀ p ∈ b.policies.l,p.wf big) -> (vwMay a && vwMay b) = false -> ∀ h,E 58 [a.v,b.v] h = some (.tup [ag dlt0.c,.d (i64 1)],h)
 h58:∀ a b:Vw,a.ok -> (∀ p ∈ a.policies.l,p.wf big) -> b.ok -> (∀ p ∈ b.policies.l,p.wf big) -> vwMay a = true -> vwMay b = true -> ∀ h,E 58 [a.v,b.v] h = some (.tup [ag (diffN a b).c,.d (i64 0)],h)
 h59:∀ (v:Vw) (d:Dlt),v.ok -> (∀ p ∈ v.policies.l,p.wf big) -> d.ok -> (∀ p ∈ d.policies.l,p.wf big) -> vwMay v = true -> dltMay d = true →
  ∃ n1 n2 n3 n4,∀ x:Vw,x = ⟨d.epoch,d.covers,⟨n1,putV Pod.uid v.pods.l d.pods.l d.gonePods.l⟩,⟨n2,putV Svc.id v.services.l d.services.l d.goneServices.l⟩,⟨n3,putV Way.id v.bound.l d.bound.l d.goneBound.l⟩,⟨n4,(putV Pol.id v.policies.l d.policies.l d.gonePolicies.l).map Pol.own⟩⟩ →
   x.ok /\ (∀ p ∈ x.policies.l,p.wf big) /\ ∀ h,E 59 [v.v,d.v] h = some (if vwMay x then .tup [x.v,.d (i64 0)] else .tup [vw0.v,.d (i64 1)],h)
 h60:∀ a b:Vw,a.ok -> ∀ h,E 60 [a.v,b.v] h = some (bl (a.same b),h)
theorem ChainH.put {E:Calls'} (H:ChainH E) {a' a b:Vw} (oa':a'.ok) (wa':∀ p ∈ a'.policies.l,p.wf big) (oa:a.ok) (ob:b.ok) (wb:∀ p ∈ b.policies.l,p.wf big) (ma:vwMay a = true) (mb:vwMay b = true) (hn:a'.nf = a.nf) :
 ∃ x:Vw,x.ok /\ (∀ p ∈ x.policies.l,p.wf big) /\ x.nf = b.nf /\ ∀ h,E 59 [a'.v,(diffN a b).v] h = some (.tup [x.v,.d (i64 0)],h):=by
 obtain ⟨od,wd⟩:=diffN_ok oa ob wb
 have ma':vwMay a' = true:=by rw [← vwMay_nf a',hn,vwMay_nf,ma]
 obtain ⟨n1,n2,n3,n4,k⟩:=H.h59 a' (diffN a b) oa' wa' od wd ma' (diff_may ma mb)
 obtain ⟨k1,k2,k3⟩:=k _ rfl
 have hx:=put_makes ma mb hn (n1:=n1) (n2:=n2) (n3:=n3) (n4:=n4) (d:=diffN a b) rfl
 have mx:=vwMay_nf b
 rw [← hx,vwMay_nf,mb] at mx
 refine ⟨_,k1,k2,hx,fun h=>?_⟩
 rw [k3,mx]; rfl
def TL7:FuncId -> Option QF:=lookT [(7,r7)]
def valL7 (f:FuncId):Bool:=[7].any fun n=>Nat.beq n f
theorem lt7:TL7 7 = some r7:=by kernel_rfl
theorem lv7:valL7 7 = true:=by kernel_rfl
theorem ln57:TL7 57 = none:=by kernel_rfl
theorem ln50:TL7 50 = none:=by kernel_rfl
theorem ln58:TL7 58 = none:=by kernel_rfl
theorem ln59:TL7 59 = none:=by kernel_rfl
theorem ln60:TL7 60 = none:=by kernel_rfl
theorem R7 {E:Calls'} (H:ChainH E) (a b c:Vw) (oa:a.ok) (wa:∀ p ∈ a.policies.l,p.wf big) (ob:b.ok) (wb:∀ p ∈ b.policies.l,p.wf big) (oc:c.ok) (wc:∀ p ∈ c.policies.l,p.wf big) (h:Hp) :
 Sm E TL7 valL7 7 [a.v,b.v,c.v] h = some (bl true,h):=by
 obtain ⟨ha,e1⟩:=H.h57 a oa
 obtain ⟨hb,e2⟩:=H.h57 b ob
 obtain ⟨hc,e3⟩:=H.h57 c oc
 have f1:∀ h,Sm E TL7 valL7 57 [a.v] h = some (bl ha,h):=fun h=>(Sm_ext ln57).trans (e1 h)
 have f2:∀ h,Sm E TL7 valL7 57 [b.v] h = some (bl hb,h):=fun h=>(Sm_ext ln57).trans (e2 h)
 have f3:∀ h,Sm E TL7 valL7 57 [c.v] h = some (bl hc,h):=fun h=>(Sm_ext ln57).trans (e3 h)
 have f4:∀ h,Sm E TL7 valL7 50 [] h = some (bl true,h):=fun h=>(Sm_ext ln50).trans (H.h50 h)
 clear e1 e2 e3
 rw [Sm_v lt7 lv7]
 by_cases hh:ha = true \/ hb = true \/ hc = true
 · rcases hh with rfl | rfl | rfl
   · simp (decide:=true) [Bd_mk,r7,f1,f2,f3,f4,fillsE,opsA_if]
   · cases ha <;> simp (decide:=true) [Bd_mk,r7,f1,f2,f3,f4,fillsE,opsA_if]
   · cases ha <;> cases hb <;> simp (decide:=true) [Bd_mk,r7,f1,f2,f3,f4,fillsE,opsA_if]
 · have hA:ha = false:=by cases ha <;> simp_all
   have hB:hb = false:=by cases hb <;> simp_all
   have hC:hc = false:=by cases hc <;> simp_all
   subst hA; subst hB; subst hC
   by_cases hm:vwMay a = true /\ vwMay b = true /\ vwMay c = true
   · obtain ⟨ma,mb,mc⟩:=hm
     have g1:∀ h,Sm E TL7 valL7 58 [a.v,b.v] h = _:=fun h=>(Sm_ext ln58).trans (H.h58 a b oa wa ob wb ma mb h)
     have g2:∀ h,Sm E TL7 valL7 58 [b.v,c.v] h = _:=fun h=>(Sm_ext ln58).trans (H.h58 b c ob wb oc wc mb mc h)
     have g3:∀ h,Sm E TL7 valL7 58 [a.v,c.v] h = _:=fun h=>(Sm_ext ln58).trans (H.h58 a c oa wa oc wc ma mc h)
     obtain ⟨x,ox,wx,nx,p1⟩:=H.put oa wa oa ob wb ma mb rfl
     obtain ⟨y,oy,wy,ny,p2⟩:=H.put ox wx ob oc wc mb mc nx
     obtain ⟨z,oz,wz,nz,p3⟩:=H.put oa wa oa oc wc ma mc rfl
     have q1:∀ h,Sm E TL7 valL7 59 [a.v,(diffN a b).v] h = _:=fun h=>(Sm_ext ln59).trans (p1 h)
     have q2:∀ h,Sm E TL7 valL7 59 [x.v,(diffN b c).v] h = _:=fun h=>(Sm_ext ln59).trans (p2 h)
     have q3:∀ h,Sm E TL7 valL7 59 [a.v,(diffN a c).v] h = _:=fun h=>(Sm_ext ln59).trans (p3 h)
     have s1:∀ h,Sm E TL7 valL7 60 [y.v,c.v] h = _:=fun h=>(Sm_ext ln60).trans (H.h60 y c oy h)
     have s2:∀ h,Sm E TL7 valL7 60 [z.v,c.v] h = _:=fun h=>(Sm_ext ln60).trans (H.h60 z c oz h)
     rw [Vw.same_iff.2 ny] at s1
     rw [Vw.same_iff.2 nz] at s2
     clear p1 p2 p3 nx ny nz
     generalize diffN a b = d1 at *
     generalize diffN b c = d2 at *
     generalize diffN a c = d3 at *
     simp (decide:=true) [Bd_mk,r7,f1,f2,f3,f4,g1,g2,g3,q1,q2,q3,s1,s2,fillsE,opsA_if]
   · have mk:∀ (u w:Vw),u.ok -> (∀ p ∈ u.policies.l,p.wf big) -> w.ok -> (∀ p ∈ w.policies.l,p.wf big) -> ∃ (d:Dlt) (e:Int),(∀ h,Sm E TL7 valL7 58 [u.v,w.v] h = some (.tup [ag d.c,.d (i64 e)],h)) /\ (e = 0 -> vwMay u = true /\ vwMay w = true):=fun u w ou wu ow ww=>by
      by_cases hu:(vwMay u && vwMay w) = true
      · simp only [Bool.and_eq_true] at hu
        exact ⟨_,0,fun h=>(Sm_ext ln58).trans (H.h58 u w ou wu ow ww hu.1 hu.2 h),fun _=>hu⟩
      · exact ⟨_,1,fun h=>(Sm_ext ln58).trans (H.h58n u w ou wu ow ww (Bool.eq_false_iff.2 hu) h),fun hh=>absurd hh (by decide)⟩
     obtain ⟨d1,x1,g1,y1⟩:=mk a b oa wa ob wb
     obtain ⟨d2,x2,g2,y2⟩:=mk b c ob wb oc wc
     obtain ⟨d3,x3,g3,y3⟩:=mk a c oa wa oc wc
     by_cases z1:x1 = 0
     · by_cases z2:x2 = 0
       · exact absurd ⟨(y1 z1).1,(y1 z1).2,(y2 z2).2⟩ hm
       · simp (decide:=true) [Bd_mk,r7,f1,f2,f3,f4,g1,g2,g3,z1,z2,fillsE,opsA_if]
     · simp (decide:=true) [Bd_mk,r7,f1,f2,f3,f4,g1,g2,g3,z1,fillsE,opsA_if]
end Go.Proofs.YtmahnnnccohccaaGreat
