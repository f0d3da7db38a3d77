/- What makes one row of another one, plain: what is put in, what goes. -/
import Derived.Test.YtjkfknafpgfchaaGreatIa
import Derived.Test.YtjkfknafpgfchaaGreatUa
set_option maxRecDepth 100000
set_option linter.unusedVariables false
set_option linter.unusedSimpArgs false
namespace Go.Proofs.YtjkfknafpgfchaaGreat
section
theorem xx:∀ {a b:List Int},a.Pairwise (· < ·) -> b.Pairwise (· < ·) -> (∀ x,x ∈ a ↔ x ∈ b) -> a = b
 | [],[],_,_,_=>rfl
 | [],y :: b,_,_,h=>by have:=(h y).2 (by simp); cases this
 | x :: a,[],_,_,h=>by have:=(h x).1 (by simp); cases this
 | x :: a,y :: b,ha,hb,h=>by
  obtain ⟨ha1,ha2⟩:=List.pairwise_cons.1 ha;obtain ⟨hb1,hb2⟩:=List.pairwise_cons.1 hb;have hxy:x = y:=by
   have h1:=(h x).1 (by simp);have h2:=(h y).2 (by simp);rcases List.mem_cons.1 h1 with h1 | h1
   · exact h1
   · rcases List.mem_cons.1 h2 with h2 | h2
     · exact h2.symm
     · have:=ha1 y h2;have:=hb1 x h1;omega
  subst hxy;rw [xx ha2 hb2 fun z=>?_];have:=h z;simp only [List.mem_cons] at this;constructor
  · intro hz;rcases this.1 (.inr hz) with h' | h'
    · subst h'; have:=ha1 z hz; omega
    · exact h'
  · intro hz;rcases this.2 (.inr hz) with h' | h'
    · subst h'; have:=hb1 z hz; omega
    · exact h'
section
variable {α:Type} {key:α -> Int}
theorem key_inj {l:List α} (h:(l.map key).Pairwise (· < ·)) {x y:α} (hx:x ∈ l) (hy:y ∈ l) (e:key x = key y):x = y:=by
 obtain ⟨i,hi,rfl⟩:=List.mem_iff_getElem.1 hx;obtain ⟨j,hj,rfl⟩:=List.mem_iff_getElem.1 hy;have h':=List.pairwise_iff_getElem.1 h;rcases Nat.lt_trichotomy i j with hij | hij | hij
 · have:=h' i j (by simpa using hi) (by simpa using hj) hij;simp only [List.getElem_map] at this; omega
 · subst hij; rfl
 · have:=h' j i (by simpa using hj) (by simpa using hi) hij;simp only [List.getElem_map] at this; omega
def aX (same:α -> α -> Bool) (a b:List α):List α:=b.filter fun x=>!a.any fun y=>same x y
def bq (key:α -> Int) (a b:List α):List Int:=(a.filter fun x=>!b.any fun y=>key x == key y).map key
theorem mem_putV {l fresh:List α} {gone:List Int} {e:α}:e ∈ df key l fresh gone ↔ (e ∈ l /\ key e ∉ gone /\ ∀ f ∈ fresh,key e ≠ key f) \/ e ∈ fresh:=by
 unfold df;rw [(List.mergeSort_perm _ _).mem_iff,List.mem_append,List.mem_filter];have:gD key fresh gone e = true ↔ key e ∉ gone /\ ∀ f ∈ fresh,key e ≠ key f:=by
  simp only [gD,Bool.and_eq_true,Bool.not_eq_true',List.any_eq_false];rw [← Bool.not_eq_true,xn];simp
 rw [this]
theorem D7 {l fresh:List α} {gone:List Int} (h1:(l.map key).Nodup) (h2:(fresh.map key).Nodup):((df key l fresh gone).map key).Pairwise (· < ·):=by
 have hn:=iX (gone:=gone) h1 h2;have hp:(df key l fresh gone).Perm ((l.filter (gD key fresh gone)) ++ fresh):=List.mergeSort_perm _ _;have hn2:((df key l fresh gone).map key).Nodup:=(hp.map key).nodup_iff.2 hn;have hs:=List.pairwise_mergeSort (le:=fun (a b:α)=>decide (key a <= key b)) (by intro a b c h1 h2; simp at *; omega) (by intro a b; simp; omega) ((l.filter (gD key fresh gone)) ++ fresh);have hs2:((df key l fresh gone).map key).Pairwise (· <= ·):=by
  rw [List.pairwise_map];exact hs.imp fun h=>by simpa using h
 refine (hs2.and hn2).imp fun ⟨h,h'⟩=>?_;have:_ ≠ _:=h';omega
theorem Ib {same:α -> α -> Bool} {a a' b:List α} (hs:∀ x ∈ b,∀ y ∈ a,same x y = true -> key x = key y) (ha:(a.map key).Pairwise (· < ·)) (hb:(b.map key).Pairwise (· < ·)) (hk:a'.map key = a.map key) :
 (df key a' (aX same a b) (bq key a b)).map key = b.map key /\ ∀ x ∈ df key a' (aX same a b) (bq key a b),∀ y ∈ b,key x = key y -> x = y \/ (x ∈ a' /\ ∃ z ∈ a,key z = key x /\ same y z = true):=by
 have ha':(a'.map key).Pairwise (· < ·):=by rw [hk]; exact ha
 have nd:∀ {l:List α},(l.map key).Pairwise (· < ·) -> (l.map key).Nodup:=fun h=>h.imp fun h=>by omega
 have hf:((aX same a b).map key).Pairwise (· < ·):=List.Pairwise.sublist (List.Sublist.map _ List.filter_sublist) hb;have hgone:∀ k,k ∈ bq key a b ↔ ∃ x ∈ a,key x = k /\ ∀ y ∈ b,key x ≠ key y:=by
  intro k;simp only [bq,List.mem_map,List.mem_filter,Bool.not_eq_true',List.any_eq_false,beq_iff_eq];constructor
  · rintro ⟨x,⟨h1,h2⟩,h3⟩;exact ⟨x,h1,h3,fun y hy=>by simpa using h2 y hy⟩
  · rintro ⟨x,h1,h3,h2⟩;exact ⟨x,⟨h1,fun y hy=>by simpa using h2 y hy⟩,h3⟩
 have hfresh:∀ x,x ∈ aX same a b ↔ x ∈ b /\ ∀ y ∈ a,¬ same x y = true:=by
  intro x;simp only [aX,List.mem_filter,Bool.not_eq_true',List.any_eq_false]
 have ka:∀ x ∈ a',∃ z ∈ a,key z = key x:=fun x hx=>by
  have:key x ∈ a'.map key:=List.mem_map_of_mem hx;rw [hk] at this;obtain ⟨z,h1,h2⟩:=List.mem_map.1 this;exact ⟨z,h1,h2⟩
 have ka':∀ z ∈ a,∃ x ∈ a',key x = key z:=fun x hx=>by
  have:key x ∈ a.map key:=List.mem_map_of_mem hx;rw [← hk] at this;obtain ⟨z,h1,h2⟩:=List.mem_map.1 this;exact ⟨z,h1,h2⟩
 constructor
 · refine xx (D7 (nd ha') (nd hf)) hb fun k=>?_;simp only [List.mem_map];constructor
   · rintro ⟨e,he,rfl⟩;rcases mem_putV.1 he with ⟨h1,h2,h3⟩ | h1
     · obtain ⟨z,hz,hzk⟩:=ka e h1;by_cases hex:∃ y ∈ b,key y = key e
       · exact hex
       · exact absurd ((hgone _).2 ⟨z,hz,hzk,fun y hy h=>hex ⟨y,hy,h.symm.trans hzk⟩⟩) h2
     · exact ⟨e,((hfresh e).1 h1).1,rfl⟩
   · rintro ⟨q,hq,rfl⟩;by_cases hqf:q ∈ aX same a b
     · exact ⟨q,mem_putV.2 (.inr hqf),rfl⟩
     · have:∃ y ∈ a,same q y = true:=by
        by_cases hh:∃ y ∈ a,same q y = true
        · exact hh
        · exact absurd ((hfresh q).2 ⟨hq,fun y hy h=>hh ⟨y,hy,h⟩⟩) hqf
       obtain ⟨y,hy,hsy⟩:=this;have hky:=hs q hq y hy hsy;obtain ⟨e,he,hek⟩:=ka' y hy;refine ⟨e,mem_putV.2 (.inl ⟨he,fun hg=>?_,fun f hf' hh=>?_⟩),by omega⟩
       · obtain ⟨x,h1,h2,h3⟩:=(hgone _).1 hg;exact h3 q hq (by omega)
       · have h1:=(hfresh f).1 hf';have:f = q:=key_inj hb h1.1 hq (by omega);subst this;exact h1.2 y hy hsy
 · intro x hx y hy hxy;rcases mem_putV.1 hx with ⟨h1,h2,h3⟩ | h1
   · right;refine ⟨h1,?_⟩;have hyf:y ∉ aX same a b:=fun h=>h3 y h hxy;have:∃ z ∈ a,same y z = true:=by
      by_cases hh:∃ z ∈ a,same y z = true
      · exact hh
      · exact absurd ((hfresh y).2 ⟨hy,fun z hz h=>hh ⟨z,hz,h⟩⟩) hyf
     obtain ⟨z,hz,hsz⟩:=this;have:=hs y hy z hz hsz;exact ⟨z,hz,by omega,hsz⟩
   · left;exact key_inj hb ((hfresh x).1 h1).1 hy hxy
theorem jm {same:α -> α -> Bool} {a b:List α} (hs:∀ x ∈ b,∀ y ∈ a,same x y = true -> x = y) (ha:(a.map key).Pairwise (· < ·)) (hb:(b.map key).Pairwise (· < ·)):df key a (aX same a b) (bq key a b) = b:=by
 obtain ⟨h1,h2⟩:=Ib (key:=key) (same:=same) (fun x hx y hy h=>by rw [hs x hx y hy h]) ha hb rfl;generalize df key a (aX same a b) (bq key a b) = L at *;have hl:L.length = b.length:=by have:=congrArg List.length h1; simpa using this
 refine List.ext_getElem hl fun i hi hj=>?_;have hk:key L[i] = key b[i]:=by
  have:(L.map key)[i]'(by simpa using hi) = (b.map key)[i]'(by simpa using hj):=by simp only [h1]
  simpa using this
 rcases h2 _ (List.getElem_mem hi) _ (List.getElem_mem hj) hk with h | ⟨h,z,hz,hzk,hsz⟩
 · exact h
 · have:=hs _ (List.getElem_mem hj) _ hz hsz;rw [this];exact key_inj ha h hz (by omega)
end
end
section
theorem Pol.own_nf (p:Pol):p.own.nf = p.nf:=Pol.same_iff.1 (own_same p)
def Vw.nf (v:Vw):Vw:=⟨v.epoch,v.covers.nf id,v.pods.nf id,v.services.nf id,v.bound.nf id,v.policies.nf Pol.nf⟩
theorem Vw.same_iff {a b:Vw}:a.same b = true ↔ a.nf = b.nf:=by
 simp only [Vw.same,Bool.and_eq_true,beq_iff_eq,xy,bX (g:=id) (fun x y=>Pod.eqB_iff (x:=x) (y:=y)),bX (g:=id) (fun x y=>Svc.eqB_iff (x:=x) (y:=y)),bX (g:=id) (fun x y=>Way.eqB_iff (x:=x) (y:=y)),bX (fun x y=>Pol.same_iff (a:=x) (b:=y)),Vw.nf,Vw.mk.injEq,Sl.nf_iff]
theorem jS (v:Vw):aW v.nf = aW v:=by
 have h1:(v.policies.l.map Pol.nf).any (fun p=>!aS p) = v.policies.l.any fun p=>!aS p:=by
  rw [List.any_map]; congr 1; funext p; simp [pW]
 have h2:(v.policies.l.map Pol.nf).map Pol.id = v.policies.l.map Pol.id:=by rw [List.map_map]; rfl
 simp only [aW,Vw.nf,Sl.nf,jv,zT,eO,h1,h2,List.map_id,List.length_map]
theorem uD (l:List Pol):(l.map Pol.nf).map Pol.id = l.map Pol.id:=by rw [List.map_map]; rfl
def uq (a b:Vw) (n1 n2 n3 n4 m1 m2 m3 m4:Bool) (P:List Pol):Dlt :=
 ⟨b.epoch,b.covers,⟨n1,aX Pod.eqB a.pods.l b.pods.l⟩,⟨n2,aX Svc.eqB a.services.l b.services.l⟩,⟨n3,aX Way.eqB a.bound.l b.bound.l⟩,⟨n4,P⟩,⟨m1,bq Pod.uid a.pods.l b.pods.l⟩,⟨m2,bq Svc.id a.services.l b.services.l⟩,⟨m3,bq Way.id a.bound.l b.bound.l⟩,⟨m4,bq Pol.id a.policies.l b.policies.l⟩⟩
end
section
section
variable {α:Type} {key:α -> Int} {f:α -> α}
theorem sZ (hf:∀ x,key (f x) = key x) (l fresh:List α) (gone:List Int):(df key l fresh gone).map f = df key (l.map f) (fresh.map f) gone:=by
 have h1:∀ x,gD key (fresh.map f) gone (f x) = gD key fresh gone x:=fun x=>by
  simp only [gD,hf,List.any_map]
  congr 2
  congr 1
  funext y;simp [hf]
 unfold df;rw [List.map_mergeSort (s:=fun a b=>decide (key a <= key b)) (fun a _ b _=>by simp [hf]),List.map_append,List.filter_map]
 congr 3
 congr 1
 funext x;exact (h1 x).symm
theorem zK {same:α -> α -> Bool} (hs:∀ x y,same (f x) (f y) = same x y) (a b:List α):(aX same a b).map f = aX same (a.map f) (b.map f):=by
 unfold aX;rw [List.filter_map]
 congr 2
 funext x;simp [List.any_map,Function.comp_def,hs]
theorem Dm (hf:∀ x,key (f x) = key x) (a b:List α):bq key (a.map f) (b.map f) = bq key a b:=by
 unfold bq;rw [List.filter_map,List.map_map];have h1:(fun x=>!(b.map f).any fun y=>key x == key y) ∘ f = fun x=>!b.any fun y=>key x == key y:=by
  funext x;simp [List.any_map,Function.comp_def,hf]
 rw [h1];exact List.map_congr_left fun x _=>hf x
end
theorem Source.nf_nf (s:Source):s.nf.nf = s.nf:=by simp [Source.nf,Sl.nf]
theorem Target.nf_nf (s:Target):s.nf.nf = s.nf:=by simp [Target.nf,Sl.nf]
theorem When.nf_nf (s:When):s.nf.nf = s.nf:=by simp [When.nf,Sl.nf]
theorem Rule.nf_nf (s:Rule):s.nf.nf = s.nf:=by
 simp only [Rule.nf,Sl.nf,List.map_map,Function.comp_def,Source.nf_nf,Target.nf_nf,When.nf_nf]
theorem Pol.nf_nf (s:Pol):s.nf.nf = s.nf:=by
 simp only [Pol.nf,Sl.nf,List.map_map,Function.comp_def,Rule.nf_nf]
theorem Pol.same_nf (a b:Pol):Pol.same a.nf b.nf = a.same b:=by
 rw [Bool.eq_iff_iff,Pol.same_iff,Pol.same_iff,Pol.nf_nf,Pol.nf_nf]
theorem eY {α:Type} {key:α -> Int} {l:List α} {n:Int} (h:eO key l n = true):(l.map key).Pairwise (· < ·) /\ (l.length:Int) <= n:=by
 simp only [eO,Bool.and_eq_true,decide_eq_true_eq] at h;exact ⟨lI h.1,h.2⟩
theorem jT {α:Type} {key:α -> Int} {same:α -> α -> Bool} {a b fr:List α} {n:Int} (ha:eO key a n = true) (hfr:∀ x ∈ fr,∃ y ∈ b,key x = key y):fK key (bq key a b) n fr = true:=by
 obtain ⟨h1,h2⟩:=eY ha;have hsub:(bq key a b).Sublist (a.map key):=List.Sublist.map _ List.filter_sublist;have hlen:=hsub.length_le;simp only [List.length_map] at hlen;simp only [fK,Bool.and_eq_true,decide_eq_true_eq,Bool.not_eq_true',List.any_eq_false];refine ⟨⟨nk (List.Pairwise.sublist hsub h1),by omega⟩,fun x hx=>?_⟩;rw [xn];intro hg;obtain ⟨y,hy,hk⟩:=hfr x hx;simp only [bq,List.mem_map,List.mem_filter,Bool.not_eq_true',List.any_eq_false,beq_iff_eq] at hg;obtain ⟨z,⟨_,h3⟩,h4⟩:=hg;exact h3 y hy (by omega)
theorem jq {α:Type} {key:α -> Int} {p:α -> Bool} {l:List α} {n:Int} (h:eO key l n = true):eO key (l.filter p) n = true:=by
 obtain ⟨h1,h2⟩:=eY h;have:=List.length_filter_le p l;simp only [eO,Bool.and_eq_true,decide_eq_true_eq];exact ⟨nk (List.Pairwise.sublist (List.Sublist.map _ List.filter_sublist) h1),by omega⟩
theorem iG {α:Type} {p q:α -> Bool} {l:List α} (h:l.any p = false):(l.filter q).any p = false:=by
 rw [List.any_eq_false] at h ⊢;exact fun x hx=>h x (List.mem_filter.1 hx).1
theorem jB {v:Vw} (h:aW v = true):v.epoch <= 4611686018427387903 /\ jh v.covers.l 38 = true /\ v.pods.l.any jy = false /\ v.services.l.any jA = false /\ v.bound.l.any jC = false ∧
 eO Pod.uid v.pods.l 16 = true /\ eO Svc.id v.services.l 6 = true /\ eO Way.id v.bound.l 4 = true /\ eO Pol.id v.policies.l 12 = true /\ (v.policies.l.any fun p=>!aS p) = false:=by
 simp only [aW,jv,zT,Bool.and_eq_true,Bool.not_eq_true',Bool.or_eq_false_iff,decide_eq_true_eq] at h;obtain ⟨m1,m2,⟨⟨m3,m4,m5⟩,m6,m7,m8,m9⟩,m10⟩:=h;exact ⟨m1,m2,m3,m4,m5,m6,m7,m8,m9,m10⟩
theorem JC {v:Vw} (m1:v.epoch <= 4611686018427387903) (m2:jh v.covers.l 38 = true) (m3:v.pods.l.any jy = false) (m4:v.services.l.any jA = false) (m5:v.bound.l.any jC = false)
 (m6:eO Pod.uid v.pods.l 16 = true) (m7:eO Svc.id v.services.l 6 = true) (m8:eO Way.id v.bound.l 4 = true) (m9:eO Pol.id v.policies.l 12 = true) (m10:(v.policies.l.any fun p=>!aS p) = false):aW v = true:=by
 simp [aW,jv,zT,m1,m2,m3,m4,m5,m6,m7,m8,m9,m10]
def dB (a b:Vw):List Pol:=(aX Pol.same a.policies.l b.policies.l).map Pol.own
theorem nY {a b:Vw} (ha:aW a = true) (hb:aW b = true) {n1 n2 n3 n4 m1 m2 m3 m4:Bool}:bR (uq a b n1 n2 n3 n4 m1 m2 m3 m4 (dB a b)) = true:=by
 obtain ⟨a1,a2,a3,a4,a5,a6,a7,a8,a9,a10⟩:=jB ha;obtain ⟨b1,b2,b3,b4,b5,b6,b7,b8,b9,b10⟩:=jB hb;have hid:(dB a b).map Pol.id = (aX Pol.same a.policies.l b.policies.l).map Pol.id:=by rw [dB,List.map_map]; rfl
 have hlen:(dB a b).length = (aX Pol.same a.policies.l b.policies.l).length:=by simp [dB]
 simp only [bR,Bool.and_eq_true,uq];refine ⟨⟨jT (same:=Pod.eqB) a6 fun x hx=>⟨x,(List.mem_filter.1 hx).1,rfl⟩,jT (same:=Svc.eqB) a7 fun x hx=>⟨x,(List.mem_filter.1 hx).1,rfl⟩,jT (same:=Way.eqB) a8 fun x hx=>⟨x,(List.mem_filter.1 hx).1,rfl⟩,jT (same:=Pol.same) a9 fun x hx=>?_⟩,?_⟩
 · obtain ⟨y,hy,rfl⟩:=List.mem_map.1 hx;exact ⟨y,(List.mem_filter.1 hy).1,rfl⟩
 · refine JC b1 b2 (iG b3) (iG b4) (iG b5) (jq b6) (jq b7) (jq b8) ?_ ?_
   · have:=jq (p:=fun x=>!a.policies.l.any fun y=>Pol.same x y) b9;simp only [eO,Dlt.vw,hid,hlen] at this ⊢;exact this
   · simp only [Dlt.vw,dB,List.any_map];have:=iG (q:=fun x=>!a.policies.l.any fun y=>Pol.same x y) b10;rw [List.any_eq_false] at this ⊢;intro x hx;simp only [Function.comp,Aa];exact this x hx
theorem uE {a a' b:Vw} (ha:aW a = true) (hb:aW b = true) (hn:a'.nf = a.nf) {n1 n2 n3 n4:Bool} {d:Dlt} {k1 k2 k3 k4 m1 m2 m3 m4:Bool} (hd:d = uq a b k1 k2 k3 k4 m1 m2 m3 m4 (dB a b)) :
 Vw.nf ⟨d.epoch,d.covers,⟨n1,df Pod.uid a'.pods.l d.pods.l d.gonePods.l⟩,⟨n2,df Svc.id a'.services.l d.services.l d.goneServices.l⟩,⟨n3,df Way.id a'.bound.l d.bound.l d.goneBound.l⟩,⟨n4,(df Pol.id a'.policies.l d.policies.l d.gonePolicies.l).map Pol.own⟩⟩ = b.nf:=by
 subst hd;obtain ⟨a1,a2,a3,a4,a5,a6,a7,a8,a9,a10⟩:=jB ha;obtain ⟨b1,b2,b3,b4,b5,b6,b7,b8,b9,b10⟩:=jB hb;simp only [Vw.nf,Vw.mk.injEq,Sl.nf_iff,List.map_id] at hn;obtain ⟨_,_,h1,h2,h3,h4⟩:=hn;have e1:=jm (key:=Pod.uid) (same:=Pod.eqB) (a:=a.pods.l) (b:=b.pods.l) (fun x _ y _ h=>Pod.eqB_iff.1 h) (eY a6).1 (eY b6).1;have e2:=jm (key:=Svc.id) (same:=Svc.eqB) (a:=a.services.l) (b:=b.services.l) (fun x _ y _ h=>Svc.eqB_iff.1 h) (eY a7).1 (eY b7).1;have e3:=jm (key:=Way.id) (same:=Way.eqB) (a:=a.bound.l) (b:=b.bound.l) (fun x _ y _ h=>Way.eqB_iff.1 h) (eY a8).1 (eY b8).1;have e4:=jm (key:=Pol.id) (same:=Pol.same) (a:=a.policies.l.map Pol.nf) (b:=b.policies.l.map Pol.nf) (fun x hx y hy h=>by
  obtain ⟨p,_,rfl⟩:=List.mem_map.1 hx;obtain ⟨q,_,rfl⟩:=List.mem_map.1 hy;have:=Pol.same_iff.1 h
  rwa [Pol.nf_nf,Pol.nf_nf] at this) (by rw [uD]; exact (eY a9).1) (by rw [uD]; exact (eY b9).1)
 have hk:∀ x:Pol,Pol.id x.nf = x.id:=fun _=>rfl;have e5:((df Pol.id a'.policies.l (dB a b) (bq Pol.id a.policies.l b.policies.l)).map Pol.own).map Pol.nf = b.policies.l.map Pol.nf:=by
  have o1:∀ l:List Pol,(l.map Pol.own).map Pol.nf = l.map Pol.nf:=fun l=>by
   rw [List.map_map]; exact List.map_congr_left fun x _=>Pol.own_nf x
  rw [o1,sZ hk,h4,dB,o1,zK Pol.same_nf,← Dm hk a.policies.l b.policies.l];exact e4
 simp only [Vw.nf,uq,Vw.mk.injEq,Sl.nf_iff,List.map_id,h1,h2,h3,e1,e2,e3,e5,true_and]
end
end Go.Proofs.YtjkfknafpgfchaaGreat
