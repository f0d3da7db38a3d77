/- slices.SortFunc at things of more cells than one, by a number that each of them has, as a function from outside: what it answers. -/
import Derived.Test.YtmahnnnccohccaaGreatPy
import Derived.Shelf.SlSortCmp.WholeK
import Derived.Test.YtmahnnnccohccaaGreatCp
import Derived.Test.YtmahnnnccohccaaGreatSa
import Derived.Test.YtmahnnnccohccaaGreatWa
import Derived.Test.YtmahnnnccohccaaGreatQt
import Derived.Test.YtmahnnnccohccaaGreatGn
import Derived.Test.YtmahnnnccohccaaGreatGm
set_option linter.unusedVariables false
set_option linter.unusedSimpArgs false
namespace Go.Proofs.YtmahnnnccohccaaGreat
def keyV (p:Nat) (r:List V):Option Int:=match r[p]? with
 | some (.d (.int .u64 n))=>some n
 | _=>none
def keyI (p:Nat) (r:List V):Int:=(keyV p r).getD 0
theorem keyV_some {p:Nat} {r:List V} {n:Int} (h:keyV p r = some n):r[p]? = some (.d (.int .u64 n)):=by
 unfold keyV at h
 split at h
 · rename_i m hm; cases h; exact hm
 · cases h
def chunk (z n:Nat) (cs:List V):List (List V):=(List.range n).map fun i=>(cs.drop (i * z)).take z
def sortV (p:Nat) (rs:List (List V)):List (List V):=rs.mergeSort fun x y=>decide (keyI p x <= keyI p y)
structure SF where
 z:Nat
 p:Nat
 g:FuncId
 id:FuncId
def sortFE (s:SF) (args:List V) (h:Hp):Option (V × Hp):=match args with
 | [.row b 0 n _ z,.fn g [.ptr c 0]]=>match h.get b,h.get c with
  | some cs,some [.fn id []] =>
   if z = s.z /\ g = s.g /\ id = s.id /\ b ≠ c /\ 0 < n /\ n <= 2 ^ 40 /\ n * z <= cs.length /\ (∀ r ∈ chunk z n cs,(keyV s.p r).isSome = true) /\ ((chunk z n cs).map (keyI s.p)).Nodup then
    some (.tup [],h.set b ((sortV s.p (chunk z n cs)).flatten ++ cs.drop (n * z)))
   else none
  | _,_=>none
 | _=>none
theorem sortFE_low {s:SF} {args:List V} {h:Hp} {r:V} {h':Hp} (hm:sortFE s args h = some (r,h')):LowOk h h':=by
 unfold sortFE at hm
 split at hm
 · split at hm
   · split at hm
     · cases hm; exact LowOk.set _ _ _
     · cases hm
   · cases hm
 · cases hm
end Go.Proofs.YtmahnnnccohccaaGreat
namespace Go.Proofs.YtmahnnnccohccaaGreat
open Go.Sort Go.Shelf Go.RowKit
structure Rec (k p:Nat) where
 vs:List Value
 len:vs.length = k
 one:∀ v ∈ vs,v.oneCell' = true
 key:Int
 hk:vs[p]? = some (.int .u64 key)
abbrev Rec.inh {k p:Nat} (h:p < k):Inhabited (Rec k p):=⟨⟨List.replicate k (.int .u64 0),by simp,fun v hv=>by rw [(List.mem_replicate.1 hv).2]; rfl,0,by simp [h]⟩⟩
def cfK {k p:Nat} (x y:Rec k p):Int:=if x.key < y.key then -1 else if y.key < x.key then 1 else 0
theorem ltRec {k p:Nat} (x y:Rec k p):ltOf cfK x y = decide (x.key < y.key):=by
 unfold ltOf cfK
 by_cases h1:x.key < y.key
 · simp [h1]
 · by_cases h2:y.key < x.key <;> simp [h1,h2]
theorem swoRec {k p:Nat}:SWO (ltOf (cfK (k:=k) (p:=p))) where
 irrefl x:=by rw [ltRec]; simp
 trans x y z h1 h2:=by rw [ltRec] at *; simp at *; omega
 ntrans x y z h1 h2:=by rw [ltRec] at *; simp at *; omega
theorem inj_of_nodup {α:Type} {f:α -> Int}:∀ {l:List α},(l.map f).Nodup -> ∀ a ∈ l,∀ b ∈ l,f a = f b -> a = b
 | x :: l,h,a,ha,b,hb,e=>by
  simp only [List.map_cons,List.nodup_cons,List.mem_map,not_exists,not_and] at h
  rcases List.mem_cons.1 ha with e1 | ha' <;> rcases List.mem_cons.1 hb with e2 | hb'
  · rw [e1,e2]
  · exact absurd (by rw [← e1,e]) (h.1 b hb')
  · exact absurd (by rw [← e2,e]) (h.1 a ha')
  · exact inj_of_nodup h.2 a ha' b hb' e
theorem flatten_get {z:Nat}:∀ {l:List (List V)} {j:Nat},(∀ r ∈ l,r.length = z) -> j < l.length * z -> ∃ r,l[j / z]? = some r /\ l.flatten[j]? = r[j % z]?
 | [],j,_,h=>by simp at h
 | r :: l,j,hl,h=>by
  have hr:=hl r (by simp)
  have hz:0 < z:=by
   rcases Nat.eq_zero_or_pos z with hz | hz
   · rw [hz] at h; simp at h
   · exact hz
  rcases Nat.lt_or_ge j z with hj | hj
  · refine ⟨r,by rw [Nat.div_eq_of_lt hj]; rfl,?_⟩
    rw [List.flatten_cons,List.getElem?_append_left (by omega),Nat.mod_eq_of_lt hj]
  · obtain ⟨k,rfl⟩:=Nat.exists_eq_add_of_le hj
    rw [List.length_cons,Nat.add_mul,Nat.one_mul] at h
    obtain ⟨r',e1,e2⟩:=flatten_get (l:=l) (j:=k) (fun x hx=>hl x (List.mem_cons_of_mem _ hx)) (by omega)
    refine ⟨r',by rw [Nat.add_div_left _ hz]; simpa using e1,?_⟩
    rw [List.flatten_cons,List.getElem?_append_right (by omega),hr,Nat.add_sub_cancel_left,e2,Nat.add_mod_left]
theorem sorted_one {α:Type} {f:α -> Int} {l1 l2 l:List α} (hnd:(l.map f).Nodup) (p1:l1.Perm l) (p2:l2.Perm l) (s1:l1.Pairwise fun a b=>f a <= f b) (s2:l2.Pairwise fun a b=>f a <= f b):l1 = l2:=by
 refine (p1.trans p2.symm).eq_of_pairwise ?_ s1 s2
 intro a b ha hb h1 h2
 exact inj_of_nodup hnd a (p1.mem_iff.1 ha) b (p2.mem_iff.1 hb) (by omega)
variable {P:Program} {ρr:Ren}
theorem live_at {B:Nat} {ρ:Rh} {h:Hp} {w:World} (hR:Rel B ρ h w) {b:Nat} {cs:List V} (hg:h.get b = some cs) (hne:cs ≠ []):∃ hb:b < h.bs.length,h.bs[b].live = true:=by
 obtain ⟨hb,e⟩:=get_some hg
 refine ⟨hb,?_⟩
 rw [e]
 cases cs with
 | nil=>exact absurd rfl hne
 | cons _ _=>rfl
def CmpDoes (P:Program) (s:SF):Prop:=∀ (W:World) (c:Nat) (x y:Rec s.z s.p),W.cell? ⟨c,0,none⟩ = some (.func (.func s.id) #[] #[]) →
 Calls P s.g #[.agg x.vs.toArray,.agg y.vs.toArray,.pointer (some ⟨c,0,none⟩)] W fun e w'=>e = .returned (.int .i64 (cfK x y)) /\ ∃ q os,w' = grow (W.drewN q) os
theorem sortFE_ok (s:SF) (L:SlLaysF0.n6 P ρr) (aE:∀ w,(isAgg (ρr.t 24)).run P w = .ok true w) (zE:∀ w,(Go.sizeOf (ρr.t 24)).run P w = .ok s.z w) (eg:∀ args w,(callFunc s.g args).run P w = .ok (.enter s.g args) w) (hp:s.p < s.z) (hcmp:CmpDoes P s)
 {B:Nat} {ρ:Rh} {h:Hp} {w:World} {args:List V} {vs:Array Value} {r:V} {h':Hp} (hR:Rel B ρ h w) (hv:VRs ρ (St ρ w) w args vs.toList) (hm:sortFE s args h = some (r,h')) :
 Calls P (ρr.f 6) vs w (RetOk B ρ h w r h'):=by
 unfold sortFE at hm
 split at hm
 · rename_i b n cap z g c
   split at hm
   · rename_i cs id hgb hgc
     split at hm
     · rename_i hall
       obtain ⟨rfl,rfl,rfl,hbc,hn0,hn,hlen,hkeys,hnd⟩:=hall
       cases hm
       simp only [VRs] at hv
       obtain ⟨u1,us1,e1,hu1,u2,us2,e2,hu2,e3⟩:=hv
       subst e3; subst e2
       have hvs:vs = #[u1,u2]:=Array.toList_inj.1 (by simpa using e1)
       subst hvs
       simp only [VR,VRs] at hu1 hu2
       obtain ⟨hbN,cc,rfl,hc1,hc2,_⟩:=hu1
       obtain ⟨vs2,rfl,u3,us3,e4,⟨hcN,rfl⟩,rfl⟩:=hu2
       have hvs2:vs2 = #[.pointer (some ⟨ρ c,0,none⟩)]:=Array.toList_inj.1 (by simpa using e4)
       subst hvs2
       have hz0:0 < s.z:=by omega
       have hnz:0 < n * s.z:=Nat.mul_pos hn0 hz0
       have hne:cs ≠ []:=by rintro rfl; simp at hlen; omega
       obtain ⟨arr,el,fz,k1,k2,k3,k4⟩:=block_at hR hgb hne
       obtain ⟨arr2,el2,fz2,m1,m2,m3,m4⟩:=block_at hR hgc (by simp)
       obtain ⟨hbl,hlive⟩:=live_at hR hgb hne
       obtain ⟨hcl,hclive⟩:=live_at hR hgc (by simp)
       have hcell:w.cell? ⟨ρ c,0,none⟩ = some (.func (.func s.id) #[] #[]):=by
        have h1:0 < arr2.size:=Nat.lt_of_lt_of_le Nat.zero_lt_one (by simpa using m2)
        have h2:=(m4 0 (by simp) h1).1
        simp only [List.getElem_cons_zero,VR,VRs] at h2
        obtain ⟨vs3,e5,e6⟩:=h2
        have e7:vs3 = #[]:=Array.toList_inj.1 (by simpa using e6)
        subst e7
        simp [World.cell?,m1,h1,e5]
       have hinj:ρ c ≠ ρ b:=hR.inj c b (Ne.symm hbc) (hR.live c hcl hclive) (hR.live b hbl hlive)
       have hlt:=(hR.lo b hbN).2
       have hltc:=(hR.lo c hcN).2
       have hbnd:∀ i,i < n -> i * s.z + s.z <= n * s.z:=fun i hi=>by
        have:=Nat.mul_le_mul_right s.z (show i + 1 <= n from hi)
        rwa [Nat.add_mul,Nat.one_mul] at this
       have hch:∀ i t,i < n -> t < s.z -> ((cs.drop (i * s.z)).take s.z)[t]? = cs[i * s.z + t]?:=fun i t hi ht=>by
        rw [List.getElem?_take_of_lt ht,List.getElem?_drop]
       have har:∀ i t,i < n -> t < s.z -> ∃ v u,cs[i * s.z + t]? = some v /\ arr[i * s.z + t]? = some u /\ VR ρ (St ρ w) w v u /\ u.oneCell' = true:=fun i t hi ht=>by
        have:=hbnd i hi
        have h1:i * s.z + t < cs.length:=by omega
        have h2:i * s.z + t < arr.size:=by omega
        exact ⟨cs[i * s.z + t],arr[i * s.z + t],by simp [h1],by simp [h2],k4 _ h1 h2⟩
       have hkey:∀ i,i < n -> ∃ m,keyI s.p ((cs.drop (i * s.z)).take s.z) = m /\ arr[i * s.z + s.p]? = some (.int .u64 m):=fun i hi=>by
        have h1:=hkeys ((cs.drop (i * s.z)).take s.z) (by simp only [chunk,List.mem_map,List.mem_range]; exact ⟨i,hi,rfl⟩)
        obtain ⟨m,hm⟩:=Option.isSome_iff_exists.1 h1
        have h2:=keyV_some hm
        rw [hch i s.p hi hp] at h2
        obtain ⟨v,u,a1,a2,a3,_⟩:=har i s.p hi hp
        rw [h2] at a1
        cases a1
        simp only [VR,DR] at a3
        subst a3
        exact ⟨m,by simp [keyI,hm],a2⟩
       let cell:Nat -> Value:=fun j=>(arr[j]?).getD (.bool false)
       have hcl':∀ i t,i < n -> t < s.z -> arr[i * s.z + t]? = some (cell (i * s.z + t)):=fun i t hi ht=>by
        obtain ⟨v,u,a1,a2,a3,a4⟩:=har i t hi ht
        simp only [cell,a2,Option.getD_some]
       let rc:Fin n -> Rec s.z s.p:=fun i=>⟨(List.range s.z).map fun t=>cell (i.1 * s.z + t),by simp,fun v hv=>by
        simp only [List.mem_map,List.mem_range] at hv
        obtain ⟨t,ht,rfl⟩:=hv
        obtain ⟨v,u,a1,a2,a3,a4⟩:=har i.1 t i.2 ht
        simp only [cell,a2,Option.getD_some]; exact a4,
        keyI s.p ((cs.drop (i.1 * s.z)).take s.z),by
         obtain ⟨m,q1,q2⟩:=hkey i.1 i.2
         simp only [List.getElem?_map,List.getElem?_range hp,Option.map_some,cell,q2,Option.getD_some,q1]⟩
       letI:Inhabited (Rec s.z s.p):=Rec.inh hp
       let prs:List (Rec s.z s.p × List V):=(List.finRange n).map fun i=>(rc i,(cs.drop (i.1 * s.z)).take s.z)
       have hsnd:prs.map (·.2) = chunk s.z n cs:=by
        refine List.ext_getElem (by simp [prs,chunk]) fun i h1 h2=>?_
        simp [prs,chunk]
       let d:Array (Rec s.z s.p):=(prs.map (·.1)).toArray
       have hds:d.size = n:=by simp [d,prs]
       have hdi:∀ i (hi:i < n),d[i]! = rc ⟨i,hi⟩:=fun i hi=>by
        rw [getElem!_pos d i (by omega)]
        simp [d,prs]
       have hprk:∀ x ∈ prs,x.1.key = keyI s.p x.2:=fun x hx=>by
        simp only [prs,List.mem_map] at hx
        obtain ⟨i,_,rfl⟩:=hx
        rfl
       have hkd:(prs.map (·.1)).map (·.key) = (chunk s.z n cs).map (keyI s.p):=by
        rw [← hsnd]
        have e1:(prs.map (·.1)).map (·.key) = prs.map fun x=>x.1.key:=List.map_map
        have e2:(prs.map (·.2)).map (keyI s.p) = prs.map fun x=>keyI s.p x.2:=List.map_map
        rw [e1,e2]
        exact List.map_congr_left hprk
       let enc:Rec s.z s.p -> List Value:=fun x=>x.vs
       have hH:HoldsK enc s.z w (ρ b) 0 d:=by
        intro j hj
        rw [size_flatK,hds] at hj
        have hi:j / s.z < n:=by rw [Nat.div_lt_iff_lt_mul hz0]; exact hj
        have ht:j % s.z < s.z:=Nat.mod_lt _ hz0
        have hjj:j / s.z * s.z + j % s.z = j:=by rw [Nat.mul_comm]; exact Nat.div_add_mod j s.z
        have hj2:j < arr.size:=by omega
        refine ⟨?_,by simpa using k3 j hj2⟩
        rw [get_flatK _ _ _ _ (by rw [hds]; exact hj),hdi _ hi]
        have h1:=hcl' _ _ hi ht
        rw [hjj] at h1
        have h2:(enc (rc ⟨j / s.z,hi⟩))[j % s.z]! = cell j:=by
         simp only [enc,rc]
         rw [getElem!_pos _ _ (by simpa using ht)]
         simp [hjj]
        rw [h2]
        simp only [World.cell?,k1,Nat.zero_add,id_eq]
        simpa using h1
       have hcm:CmpLays P s.g #[.pointer (some ⟨ρ c,0,none⟩)] enc s.z cfK (ρ b) 0 d.size w:=by
        intro m os dk hdk x y
        refine hcmp _ (ρ c) x y ?_
        have hh:(sortWorldK enc s.z w (ρ b) 0 m dk os).heap[ρ c]? = w.heap[ρ c]?:=by
         show ((w.heap.modify (ρ b) _) ++ os)[ρ c]? = _
         rw [Array.getElem?_append_left (by simpa using hltc),Array.getElem?_modify,if_neg (Ne.symm hinj)]
        rw [← hcell]
        simp only [World.cell?,hh]
       have hct:=AnyQ.slices_SortFunc L s.z aE zE enc (fun x=>x.len) (fun x=>x.one) cfK swoRec s.g #[.pointer (some ⟨ρ c,0,none⟩)] (ρ b) 0 cc d w eg hcm hH hlt (by rw [hds]; omega)
       rw [hds] at hct
       refine hct.mono ?_
       rintro e w' ⟨rfl,d',nn,os,hP,hS,rfl⟩
       have hd's:d'.size = n:=by rw [hP.1,hds]
       have hperm:d'.toList.Perm (prs.map (·.1)):=by
        have:=hP.2.2
        have x1:d'.extract 0 n = d':=by rw [← hd's]; exact Array.extract_size
        have x2:d.extract 0 n = d:=by rw [← hds]; exact Array.extract_size
        rw [x1,x2] at this
        exact this
       have hsrt:d'.toList.Pairwise fun a b=>a.key <= b.key:=by
        rw [List.pairwise_iff_getElem]
        intro i j hi hj hij
        have hi':i < d'.size:=by simpa using hi
        have hj':j < d'.size:=by simpa using hj
        have:=hS i j (Nat.zero_le _) hij (by omega)
        rw [ltRec,getElem!_pos d' i hi',getElem!_pos d' j hj'] at this
        simp only [decide_eq_false_iff_not] at this
        simp only [Array.getElem_toList]
        omega
       let prs':=prs.mergeSort fun x y=>decide (keyI s.p x.2 <= keyI s.p y.2)
       have hp1:prs'.map (·.2) = sortV s.p (chunk s.z n cs):=by
        rw [sortV,← hsnd]
        exact List.map_mergeSort fun _ _ _ _=>rfl
       have hpp:prs'.Perm prs:=List.mergeSort_perm _ _
       have hp2:d'.toList = prs'.map (·.1):=by
        refine sorted_one (f:=(·.key)) (l:=prs.map (·.1)) (by rw [hkd]; exact hnd) hperm (hpp.map _) hsrt ?_
        rw [List.pairwise_map]
        have hs:=List.pairwise_mergeSort (le:=fun (x y:Rec s.z s.p × List V)=>decide (keyI s.p x.2 <= keyI s.p y.2)) (by intro a b c h1 h2; simp at *; omega) (by intro a b; simp; omega) prs
        refine List.Pairwise.imp_of_mem ?_ hs
        intro a b ha hb hab
        rw [hprk a (hpp.mem_iff.1 ha),hprk b (hpp.mem_iff.1 hb)]
        simpa using hab
       have hplen:prs'.length = n:=by simp [prs',prs]
       have hat':∀ i (hi:i < n),∃ i0,∃ hi0:i0 < n,d'[i]! = rc ⟨i0,hi0⟩ /\ (sortV s.p (chunk s.z n cs))[i]? = some ((cs.drop (i0 * s.z)).take s.z):=fun i hi=>by
        have hmem:prs'[i]'(by omega) ∈ prs:=hpp.mem_iff.1 (List.getElem_mem _)
        obtain ⟨i0,_,he⟩:=List.mem_map.1 hmem
        refine ⟨i0.1,i0.2,?_,?_⟩
        · have h1:d'.toList[i]? = some (rc i0):=by
           rw [hp2,List.getElem?_map,List.getElem?_eq_getElem (by omega),← he]; rfl
          rw [getElem!_pos d' i (by omega)]
          rw [List.getElem?_eq_getElem (by simpa using (show i < d'.size by omega))] at h1
          simpa using h1
        · rw [← hp1,List.getElem?_map,List.getElem?_eq_getElem (by omega),← he]; rfl
       let w1:=putRowK enc s.z (Sort.ahead w nn) (ρ b) 0 d'
       have hheap:w1.heap = w.heap.modify (ρ b) (onCells (putCells id 0 (flatK enc s.z d'))):=rfl
       have hsz:w1.heap.size = w.heap.size:=by rw [hheap]; simp
       have hoth:∀ k,k ≠ ρ b -> w1.heap[k]? = w.heap[k]?:=fun k hk=>by
        rw [hheap,Array.getElem?_modify,if_neg (Ne.symm hk)]
       have hat:w1.heap[ρ b]? = some (.cells (putCells id 0 (flatK enc s.z d') arr) el fz):=by
        rw [hheap,Array.getElem?_modify,if_pos rfl,k1]; rfl
       have hps:(putCells id 0 (flatK enc s.z d') arr).size = arr.size:=by simp [putCells]
       have hown:∀ arr' e' fz',w.heap[ρ b]? = some (.cells arr' e' fz') -> ∃ arr'' fz'',w1.heap[ρ b]? = some (.cells arr'' e' fz'') /\ arr''.size = arr'.size:=by
        intro arr' e' fz' hh
        rw [k1] at hh
        cases hh
        exact ⟨_,_,hat,hps⟩
       have q2:=set_goes hR (hR.live b hbl hlive) hsz hoth hown rfl rfl rfl
       have hrl:∀ r ∈ sortV s.p (chunk s.z n cs),r.length = s.z:=by
        intro r hr
        have:=(List.mergeSort_perm _ _).mem_iff.1 hr
        simp only [chunk,List.mem_map,List.mem_range] at this
        obtain ⟨i,hi,rfl⟩:=this
        have:=hbnd i hi
        rw [List.length_take,List.length_drop]; omega
       have hsl:(sortV s.p (chunk s.z n cs)).length = n:=by simp [sortV,chunk]
       have hfl:((sortV s.p (chunk s.z n cs)).flatten).length = n * s.z:=by
        rw [List.length_flatten]
        have:(sortV s.p (chunk s.z n cs)).map List.length = List.replicate n s.z:=by
         rw [List.eq_replicate_iff]
         refine ⟨by simp [hsl],fun x hx=>?_⟩
         obtain ⟨r,hr,rfl⟩:=List.mem_map.1 hx
         exact hrl r hr
        rw [this]; simp
       have hnew:((sortV s.p (chunk s.z n cs)).flatten ++ cs.drop (n * s.z)).length = cs.length:=by
        rw [List.length_append,hfl,List.length_drop]; omega
       have hbr:BR ρ w1 (ρ b) (.cells ((sortV s.p (chunk s.z n cs)).flatten ++ cs.drop (n * s.z))):=by
        have hne2:(sortV s.p (chunk s.z n cs)).flatten ++ cs.drop (n * s.z) ≠ []:=fun hh=>by
         rw [hh] at hnew; simp at hnew; exact hne (List.eq_nil_of_length_eq_zero hnew.symm)
        have core:∃ arr' e' fz',w1.heap[ρ b]? = some (.cells arr' e' fz') /\ ((sortV s.p (chunk s.z n cs)).flatten ++ cs.drop (n * s.z)).length <= arr'.size /\ (∀ j,j < arr'.size -> w1.frozen? ⟨ρ b,j,none⟩ = false) ∧
         ∀ (j:Nat) (h1:j < ((sortV s.p (chunk s.z n cs)).flatten ++ cs.drop (n * s.z)).length) (h2:j < arr'.size),VR ρ (St ρ w1) w1 ((sortV s.p (chunk s.z n cs)).flatten ++ cs.drop (n * s.z))[j] arr'[j] /\ arr'[j].oneCell' = true:=by
         refine ⟨_,_,_,hat,by rw [hps,hnew]; exact k2,fun j hj=>?_,fun j h1 h2=>?_⟩
         · have:=k3 j (by rw [← hps]; exact hj)
           rw [← this]
           exact frozen?_mapBlock (Sort.ahead w nn) (ρ b) _ _
         · have hja:j < arr.size:=by rw [← hps]; exact h2
           have hjc:j < cs.length:=by rw [← hnew]; exact h1
           rcases Nat.lt_or_ge j (n * s.z) with hj | hj
           · have hi:j / s.z < n:=by rw [Nat.div_lt_iff_lt_mul hz0]; exact hj
             have ht:j % s.z < s.z:=Nat.mod_lt _ hz0
             obtain ⟨i0,hi0,a1,a2⟩:=hat' _ hi
             obtain ⟨r,b1,b2⟩:=flatten_get (j:=j) hrl (by rw [hsl]; exact hj)
             rw [a2] at b1
             cases b1
             rw [hch i0 _ hi0 ht] at b2
             obtain ⟨v,u,c1,c2,c3,c4⟩:=har i0 _ hi0 ht
             have hV:((sortV s.p (chunk s.z n cs)).flatten ++ cs.drop (n * s.z))[j] = v:=by
              rw [List.getElem_append_left (by rw [hfl]; exact hj)]
              have:=b2.trans c1
              rw [List.getElem?_eq_getElem (by rw [hfl]; exact hj)] at this
              simpa using this
             have hU:(putCells id 0 (flatK enc s.z d') arr)[j] = u:=by
              simp only [putCells,Array.getElem_mapIdx]
              rw [if_pos ⟨Nat.zero_le _,by rw [size_flatK,hd's]; omega⟩,Nat.sub_zero,get_flatK _ _ _ _ (by rw [hd's]; exact hj),a1]
              simp only [enc,rc,id_eq]
              rw [getElem!_pos _ _ (by simpa using ht)]
              simp [cell,c2]
             rw [hV,hU]
             exact ⟨c3.ext q2.ext,c4⟩
           · have hV:((sortV s.p (chunk s.z n cs)).flatten ++ cs.drop (n * s.z))[j] = cs[j]:=by
              rw [List.getElem_append_right (by rw [hfl]; exact hj)]
              simp only [List.getElem_drop,hfl]
              congr 1
              omega
             have hU:(putCells id 0 (flatK enc s.z d') arr)[j] = arr[j]:=by
              simp only [putCells,Array.getElem_mapIdx]
              rw [if_neg (by rw [size_flatK,hd's]; omega)]
             rw [hV,hU]
             exact ⟨(k4 j hjc hja).1.ext q2.ext,(k4 j hjc hja).2⟩
        revert core hne2
        cases (sortV s.p (chunk s.z n cs)).flatten ++ cs.drop (n * s.z) with
        | nil=>intro hne2 _; exact absurd rfl hne2
        | cons x xs=>intro _ core; simpa only [BR] using core
       have q1:=set_rel hR hbl hlive hsz hoth hown rfl rfl rfl (.cells ((sortV s.p (chunk s.z n cs)).flatten ++ cs.drop (n * s.z))) hbr (min h.low b)
       have hbel:Below w1.heap.size w1 (grow w1 os):=⟨rfl,rfl,rfl,by simp [grow],fun k hk=>by simp [grow,Array.getElem?_append_left hk]⟩
       obtain ⟨q3,q4⟩:=below_rel q1 hbel
       exact ⟨_,ρ,rfl,q3,q2.trans q4,by simp only [VRx,VR,VRs]; exact ⟨_,rfl,rfl⟩⟩
     · cases hm
   · cases hm
 · cases hm
end Go.Proofs.YtmahnnnccohccaaGreat
namespace Go.Proofs.YtmahnnnccohccaaGreat
section
variable {E:Calls'} {T:FuncId -> Option QF} {val:FuncId -> Bool}
theorem sub_c {e:List D} {z:Nat} (he:e.length = z):sub (e.map V.d) 0 z = some (e.map V.d):=sub_all (by simpa using he)
end
end Go.Proofs.YtmahnnnccohccaaGreat
namespace Go.Proofs.YtmahnnnccohccaaGreat
section
variable {E:Calls'} {T:FuncId -> Option QF} {val:FuncId -> Bool}
theorem chunk_flat {z:Nat}:∀ {l:List (List D)} {rest:List V},(∀ e ∈ l,e.length = z) -> chunk z l.length (flat l ++ rest) = l.map fun e=>e.map V.d
 | [],rest,_=>rfl
 | e :: l,rest,h=>by
  have he:=h e (by simp)
  have ih:=chunk_flat (l:=l) (rest:=rest) fun x hx=>h x (List.mem_cons_of_mem _ hx)
  have hl:(e.map V.d).length = z:=by simp [he]
  simp only [chunk,List.length_cons,List.range_succ_eq_map,List.map_cons,List.map_map,flat_cons,List.append_assoc] at ih ⊢
  congr 1
  · rw [Nat.zero_mul,List.drop_zero,← hl,List.take_left]
  · rw [← ih]
    refine List.map_congr_left fun i _=>?_
    simp only [Function.comp,Nat.succ_eq_add_one,Nat.add_mul,Nat.one_mul]
    rw [List.drop_append,List.drop_eq_nil_of_le (by omega),hl,List.nil_append,Nat.add_sub_cancel]
theorem sortFE_at {α:Type} {cells:α -> List D} {key:α -> Int} {z p:Nat} {g idf:FuncId} (hz:∀ x,(cells x).length = z) (hkey:∀ x,(cells x)[p]? = some (.int .u64 (key x))) {L:List α} (hnd:(L.map key).Nodup) (hne:L ≠ []) (hlen:L.length <= 2 ^ 40) {h:Hp} {b c:Nat} {cap:Option Nat} {rest:List V}
 (hb:getB h.bs b = some (flat (L.map cells) ++ rest)) (hc:getB h.bs c = some [.fn idf []]) (hbc:b ≠ c) :
 sortFE ⟨z,p,g,idf⟩ [.row b 0 L.length cap z,.fn g [.ptr c 0]] h = some (.tup [],h.set b (flat ((L.mergeSort fun x y=>decide (key x <= key y)).map cells) ++ rest)):=by
 have hw:∀ e ∈ L.map cells,e.length = z:=by simp; intro a _; exact hz a
 have hch:=chunk_flat (rest:=rest) hw
 rw [List.length_map] at hch
 have hkv:∀ x,keyV p ((cells x).map V.d) = some (key x):=fun x=>by simp [keyV,hkey]
 have hki:∀ x,keyI p ((cells x).map V.d) = key x:=fun x=>by simp [keyI,hkv]
 have hfl:=flatT_len hz L
 have h1:((L.map cells).map fun e=>e.map V.d).map (keyI p) = L.map key:=by
  rw [List.map_map,List.map_map]
  exact List.map_congr_left fun x _=>hki x
 have h2:sortV p ((L.map cells).map fun e=>e.map V.d) = ((L.mergeSort fun x y=>decide (key x <= key y)).map cells).map fun e=>e.map V.d:=by
  rw [sortV,List.map_map,List.map_map]
  symm
  refine List.map_mergeSort fun x _ y _=>?_
  simp only [Function.comp,hki]
 have h3:∀ l:List (List D),(l.map fun e=>e.map V.d).flatten = flat l:=fun l=>by simp only [flat,List.map_flatten]
 simp only [sortFE,get_eq,hb,hc]
 rw [if_pos]
 · rw [hch,h2,h3,← hfl,List.drop_left]
 · refine ⟨trivial,trivial,trivial,hbc,List.length_pos_iff.2 hne,hlen,by rw [List.length_append,hfl]; omega,?_,?_⟩
   · rw [hch]
     intro r hr
     obtain ⟨e,he,rfl⟩:=List.mem_map.1 hr
     obtain ⟨x,_,rfl⟩:=List.mem_map.1 he
     rw [hkv]; rfl
   · rw [hch,h1]; exact hnd
end
end Go.Proofs.YtmahnnnccohccaaGreat
namespace Go.Proofs.YtmahnnnccohccaaGreat
section
variable {E:Calls'} {T:FuncId -> Option QF} {val:FuncId -> Bool}
end
end Go.Proofs.YtmahnnnccohccaaGreat
namespace Go.Proofs.YtmahnnnccohccaaGreat
def sfPod:SF:=⟨7,0,489,285⟩
def sfSvc:SF:=⟨5,0,414,287⟩
def sfWay:SF:=⟨2,0,417,294⟩
def sfPol:SF:=⟨5,0,419,299⟩
def EW:Calls':=fun f args h=>match Nat.beq f 355,Nat.beq f 360,Nat.beq f 364,Nat.beq f 368 with
 | true,_,_,_=>sortFE sfPod args h
 | _,true,_,_=>sortFE sfSvc args h
 | _,_,true,_=>sortFE sfWay args h
 | _,_,_,true=>sortFE sfPol args h
 | _,_,_,_=>none
def tabW:List (Nat × QF):=[(412,q289),(286,q192),(293,q199),(298,q204),(284,q190),(292,q198),(297,q203),(300,q206),(413,q290),(416,q293),(418,q295),(420,q297),(208,q106),(209,q186),(210,q187),(244,q188),(281,q105),(325,q243),(328,q246),(330,q248),(263,q100),(265,q103),(279,q109),(448,q339),(285,q191),(287,q193),(294,q200),(299,q205)]
def TW:FuncId -> Option QF:=lookT tabW
def valW (f:FuncId):Bool:=[412,286,293,298].any fun n=>Nat.beq n f
section
variable {E:Calls'}
end
end Go.Proofs.YtmahnnnccohccaaGreat
namespace Go.Proofs.YtmahnnnccohccaaGreat
structure Edt where
 kind:Int
 id:Int
 pod:Pod
 svc:Svc
 way:Way
 pol:Pol
def Edt.c (e:Edt):List D:=[i64 e.kind,u64 e.id] ++ e.pod.c ++ e.svc.c ++ e.way.c ++ e.pol.c
@[simp] theorem Edt.len {x:Edt}:x.c.length = 21:=(rfl)
@[simp] theorem Edt.all {x:Edt}:sub x.c 0 21 = some x.c:=(rfl)
@[simp] theorem Edt.s0_1 {x:Edt}:sub x.c 0 1 = some [i64 x.kind]:=(rfl)
@[simp] theorem Edt.s1_1 {x:Edt}:sub x.c 1 1 = some [u64 x.id]:=(rfl)
@[simp] theorem Edt.s2_7 {x:Edt}:sub x.c 2 7 = some x.pod.c:=(rfl)
@[simp] theorem Edt.s9_5 {x:Edt}:sub x.c 9 5 = some x.svc.c:=(rfl)
@[simp] theorem Edt.s14_2 {x:Edt}:sub x.c 14 2 = some x.way.c:=(rfl)
@[simp] theorem Edt.s16_5 {x:Edt}:sub x.c 16 5 = some x.pol.c:=(rfl)
@[simp] theorem Edt.s5_1 {x:Edt}:sub x.c 5 1 = some [i64 x.pod.host]:=(rfl)
@[simp] theorem Edt.s6_1 {x:Edt}:sub x.c 6 1 = some [u32 x.pod.addr]:=(rfl)
theorem Cfg.p0 {x:Cfg} {n:Int}:put (x.c.map V.d) 0 [.d (u64 n)] = some (({ x with epoch:=n }:Cfg).c.map V.d):=(rfl)
theorem Cfg.p1 {x:Cfg} {n:Int}:put (x.c.map V.d) 1 [.d (u64 n)] = some (({ x with next:=n }:Cfg).c.map V.d):=(rfl)
theorem Cfg.p4 {x:Cfg} {s:Sl Pod}:put (x.c.map V.d) 4 [.d (s.d Pod.c)] = some (({ x with pods:=s }:Cfg).c.map V.d):=(rfl)
theorem Pod.p0 {x:Pod} {n:Int}:put (x.c.map V.d) 0 [.d (u64 n)] = some (({ x with uid:=n }:Pod).c.map V.d):=(rfl)
theorem Pod.p3 {x:Pod} {n:Int}:put (x.c.map V.d) 3 [.d (i64 n)] = some (({ x with host:=n }:Pod).c.map V.d):=(rfl)
theorem Pod.p4 {x:Pod} {n:Int}:put (x.c.map V.d) 4 [.d (u32 n)] = some (({ x with addr:=n }:Pod).c.map V.d):=(rfl)
section
variable {E:Calls'}
end
end Go.Proofs.YtmahnnnccohccaaGreat
namespace Go.Proofs.YtmahnnnccohccaaGreat
def WithE (E:Calls'):Prop:=∀ f,f = 412 \/ f = 286 \/ f = 293 \/ f = 298 -> ∀ args h,E f args h = Sm EW TW valW f args h
section
variable {E:Calls'} (hE:WithE E)
include hE
end
end Go.Proofs.YtmahnnnccohccaaGreat
namespace Go.Proofs.YtmahnnnccohccaaGreat
section
variable {E:Calls'} (hE:WithE E)
include hE
end
end Go.Proofs.YtmahnnnccohccaaGreat
namespace Go.Proofs.YtmahnnnccohccaaGreat
noncomputable def EO:Calls':=fun f args h=>Sm (fun _ _ _=>none) TT valT f args h
def tabO:List (Nat × QF):=[(96,q90),(208,q106),(209,q186),(210,q187),(244,q188)]
def TO:FuncId -> Option QF:=lookT tabO
def valO (f:FuncId):Bool:=[96,208,209,210].any fun n=>Nat.beq n f
def Cfg.own (c:Cfg):Cfg:={ c with policies:=⟨c.policies.nl,c.policies.l.map Pol.own⟩ }
end Go.Proofs.YtmahnnnccohccaaGreat
namespace Go.Proofs.YtmahnnnccohccaaGreat
theorem fit_empty {α:Type} {B:Nat} {l:List α} (h:l.length <= B):fit B ⟨l.isEmpty,l⟩:=⟨h,fun hh=>by simpa using hh⟩
theorem Rule.own_wf {B:Nat} {r:Rule} (h:r.wf B):r.own.wf B:=⟨⟨fit_empty h.1.1.1,h.1.2⟩,⟨fit_empty h.2.1.1.1,h.2.1.2⟩,⟨fit_empty h.2.2.1.1,h.2.2.2⟩⟩
theorem Pol.own_wf {B:Nat} {p:Pol} (h:p.wf B):p.own.wf B:=by
 refine ⟨h.1,h.2.1,h.2.2.1,h.2.2.2.1,⟨?_,fun hh=>by simpa [Pol.own] using hh⟩,fun x hx=>?_⟩
 · simp only [Pol.own,List.length_map]; exact h.2.2.2.2.1.1
 · obtain ⟨r,hr,rfl⟩:=List.mem_map.1 hx
   exact Rule.own_wf (h.2.2.2.2.2 r hr)
theorem Cfg.own_wf {B:Nat} {c:Cfg} (h:c.wf B):c.own.wf B:=by
 obtain ⟨h1,h2,h3,h4,h5,h6,h7,h8⟩:=h
 refine ⟨h1,h2,h3,h4,h5,h6,h7,⟨?_,fun hh=>?_⟩,fun x hx=>?_⟩
 · simp only [Cfg.own,List.length_map]; exact h8.1.1
 · simp only [Cfg.own] at hh ⊢; rw [h8.1.2 hh]; rfl
 · obtain ⟨p,hp,rfl⟩:=List.mem_map.1 hx
   exact Pol.own_wf (h8.2 p hp)
def Edt.wf (B:Nat) (e:Edt):Prop:=Inr .i64 e.kind /\ Inr .u64 e.id /\ e.pod.wf B /\ e.svc.wf B /\ e.way.wf B /\ e.pol.wf B
section
variable {E:Calls'} (hE:WithE E) (h385:∀ t:Target,t.wf big -> ∀ h,E 537 [ag t.c] h = some (bl (targetMay t),h)) (h90:∀ args h,E 96 args h = Sm EO TO valO 96 args h)
include hE h385 h90
end
end Go.Proofs.YtmahnnnccohccaaGreat
namespace Go.Proofs.YtmahnnnccohccaaGreat
section
variable {E:Calls'} (h385:∀ t:Target,t.wf big -> ∀ h,E 537 [ag t.c] h = some (bl (targetMay t),h))
end
end Go.Proofs.YtmahnnnccohccaaGreat
namespace Go.Proofs.YtmahnnnccohccaaGreat
end Go.Proofs.YtmahnnnccohccaaGreat
namespace Go.Proofs.YtmahnnnccohccaaGreat
section
variable {E:Calls'} {T:FuncId -> Option QF} {val:FuncId -> Bool}
theorem eql_loop {α:Type} {cells:α -> List D} {z:Nat} (hz:∀ x,(cells x).length = z) (hz0:0 < z) {k:EQ} {p:α -> α -> Bool} {s t:Sl α} (hl:s.l.length = t.l.length) (hs:s.l.length < 2 ^ 62)
 (he:∀ x y h,eqv k true (ag (cells x)) (ag (cells y)) h = some (.d (.bool (p x y != true)),h)) (h:Hp):∀ (m i:Nat),i + m = s.l.length →
   Cd E T val (.loop [0,1,12,13] (eqlB z k)) [(0,.d (s.d cells)),(1,.d (t.d cells)),(12,.d (i64 s.l.length)),(13,.d (i64 i))] h =
    if all2 p (s.l.drop i) (t.l.drop i) then some (.exit 0,[],h) else some (.ret,[(4,bl false)],h):=by
 intro m
 have key:=Cd_round (E:=E) (T:=T) (val:=val) [0,1,12,13] (eqlB z k)
 generalize Cd E T val (.loop [0,1,12,13] (eqlB z k)) = W at key ⊢
 induction m with
 | zero =>
  intro i hi
  rw [key,List.drop_eq_nil_of_le (by omega),List.drop_eq_nil_of_le (by omega)]
  simp [eqlB,all2,show ¬ ((i:Int) < s.l.length) from by omega]
 | succ m ih =>
  intro i hi
  have h1:i < s.l.length:=by omega
  have h2:i < t.l.length:=by omega
  have hx:=fun h=>idxv_sl (z:=z) h (List.getElem?_eq_getElem h1) (hz _)
  have hy:=fun h=>idxv_sl (z:=z) h (List.getElem?_eq_getElem h2) (hz _)
  have hw:=int_next h1 hs
  have:=ih (i + 1) (by omega)
  rw [key,all2_drop h1 h2]
  generalize s.l[i] = x at *
  generalize t.l[i] = y at *
  have sx:=sub_all (hz x)
  have sy:=sub_all (hz y)
  cases hq:p x y with
  | false=>simp [eqlB,hx,hy,sx,sy,he,hq,hz0,show ((i:Int) < s.l.length) from by omega]
  | true =>
   simp [eqlB,hx,hy,sx,sy,he,hq,hw,hz0,show ((i:Int) < s.l.length) from by omega]
   simpa using this
theorem S_eql {α:Type} {cells:α -> List D} {z:Nat} {id:FuncId} (hz:∀ x,(cells x).length = z) (hz0:0 < z) {k:EQ} {p:α -> α -> Bool} (ht:T id = some (eqlQ z k)) (hv:val id = true) {s t:Sl α} (hs:s.l.length < 2 ^ 62)
 (he:∀ x y h,eqv k true (ag (cells x)) (ag (cells y)) h = some (.d (.bool (p x y != true)),h)) (h:Hp):Sm E T val id [.d (s.d cells),.d (t.d cells)] h = some (bl (all2 p s.l t.l),h):=by
 rw [Sm_v ht hv]
 by_cases hl:s.l.length = t.l.length
 · have k1:=fun h=>eql_loop (E:=E) (T:=T) (val:=val) hz hz0 hl hs he h s.l.length 0 (by omega)
   simp [hl] at k1
   simp [Bd_mk,eqlQ,hl]
   rw [Cd_keep]
   simp [k1]
   cases all2 p s.l t.l <;> simp
 · have hl':¬ ((s.l.length:Int) = t.l.length):=by omega
   rw [all2_ne hl]
   simp [Bd_mk,eqlQ,hl']
theorem eql1_loop {α:Type} {cell:α -> D} {k:EQ} {p:α -> α -> Bool} {s t:Sl α} (hl:s.l.length = t.l.length) (hs:s.l.length < 2 ^ 62)
 (he:∀ x y h,eqv k true (.d (cell x)) (.d (cell y)) h = some (.d (.bool (p x y != true)),h)) (h:Hp):∀ (m i:Nat),i + m = s.l.length →
   Cd E T val (.loop [0,1,12,13] (eql1B k)) [(0,.d (s.d fun x=>[cell x])),(1,.d (t.d fun x=>[cell x])),(12,.d (i64 s.l.length)),(13,.d (i64 i))] h =
    if all2 p (s.l.drop i) (t.l.drop i) then some (.exit 0,[],h) else some (.ret,[(4,bl false)],h):=by
 intro m
 have key:=Cd_round (E:=E) (T:=T) (val:=val) [0,1,12,13] (eql1B k)
 generalize Cd E T val (.loop [0,1,12,13] (eql1B k)) = W at key ⊢
 induction m with
 | zero =>
  intro i hi
  rw [key,List.drop_eq_nil_of_le (by omega),List.drop_eq_nil_of_le (by omega)]
  simp [eql1B,all2,show ¬ ((i:Int) < s.l.length) from by omega]
 | succ m ih =>
  intro i hi
  have h1:i < s.l.length:=by omega
  have h2:i < t.l.length:=by omega
  have hx:=fun h=>idxv_sl (z:=1) h (List.getElem?_eq_getElem h1) (cells:=fun x=>[cell x]) rfl
  have hy:=fun h=>idxv_sl (z:=1) h (List.getElem?_eq_getElem h2) (cells:=fun x=>[cell x]) rfl
  have hw:=int_next h1 hs
  have:=ih (i + 1) (by omega)
  rw [key,all2_drop h1 h2]
  generalize s.l[i] = x at *
  generalize t.l[i] = y at *
  cases hq:p x y with
  | false=>simp [eql1B,hx,hy,he,hq,show ((i:Int) < s.l.length) from by omega]
  | true =>
   simp [eql1B,hx,hy,he,hq,hw,show ((i:Int) < s.l.length) from by omega]
   simpa using this
theorem S_eql1 {α:Type} {cell:α -> D} {id:FuncId} {k:EQ} {p:α -> α -> Bool} (ht:T id = some (eql1Q k)) (hv:val id = true) {s t:Sl α} (hs:s.l.length < 2 ^ 62)
 (he:∀ x y h,eqv k true (.d (cell x)) (.d (cell y)) h = some (.d (.bool (p x y != true)),h)) (h:Hp):Sm E T val id [.d (s.d fun x=>[cell x]),.d (t.d fun x=>[cell x])] h = some (bl (all2 p s.l t.l),h):=by
 rw [Sm_v ht hv]
 by_cases hl:s.l.length = t.l.length
 · have k1:=fun h=>eql1_loop (E:=E) (T:=T) (val:=val) hl hs he h s.l.length 0 (by omega)
   simp [hl] at k1
   simp [Bd_mk,eql1Q,hl]
   rw [Cd_keep]
   simp [k1]
   cases all2 p s.l t.l <;> simp
 · have hl':¬ ((s.l.length:Int) = t.l.length):=by omega
   rw [all2_ne hl]
   simp [Bd_mk,eql1Q,hl']
theorem eqf_loop {α:Type} {cells:α -> List D} {z:Nat} {zero:List V} (hz:∀ x,(cells x).length = z) (hz0:0 < z) (hzero:zero.length = z) {f:FuncId} {p:α -> α -> Bool} {s t:Sl α} (hl:s.l.length = t.l.length) (hs:s.l.length < 2 ^ 62)
 (hf:∀ x ∈ s.l,∀ y ∈ t.l,∀ h,Sm E T val f [ag (cells x),ag (cells y)] h = some (bl (p x y),h)):∀ (m i:Nat) (bs:List Blk) (lo:Nat),i + m = s.l.length -> lo = 0 →
   ∃ bs',Cd E T val (.loop [1,2,15,16,17] (eqfB z zero)) [(1,.d (t.d cells)),(2,.fn f []),(15,.d (s.d cells)),(16,.d (i64 s.l.length)),(17,.d (i64 i))] ⟨bs,lo⟩ =
    if all2 p (s.l.drop i) (t.l.drop i) then some (.exit 0,[],⟨bs',0⟩) else some (.ret,[(6,bl false)],⟨bs',0⟩):=by
 intro m
 have key:=Cd_round (E:=E) (T:=T) (val:=val) [1,2,15,16,17] (eqfB z zero)
 generalize Cd E T val (.loop [1,2,15,16,17] (eqfB z zero)) = W at key ⊢
 induction m with
 | zero =>
  rintro i bs lo hi rfl
  refine ⟨bs,?_⟩
  rw [key,List.drop_eq_nil_of_le (by omega),List.drop_eq_nil_of_le (by omega)]
  simp [eqfB,all2,show ¬ ((i:Int) < s.l.length) from by omega]
 | succ m ih =>
  rintro i bs lo hi rfl
  have h1:i < s.l.length:=by omega
  have h2:i < t.l.length:=by omega
  have hx:=fun h=>idxv_sl (z:=z) h (List.getElem?_eq_getElem h1) (hz _)
  have hy:=fun h=>idxv_sl (z:=z) h (List.getElem?_eq_getElem h2) (hz _)
  have hw:=int_next h1 hs
  have hc:=hf _ (List.getElem_mem h1) _ (List.getElem_mem h2)
  rw [key,all2_drop h1 h2]
  generalize s.l[i] = x at *
  generalize t.l[i] = y at *
  have sx:=sub_all (hz x)
  have sy:=sub_all (hz y)
  have px:put zero 0 ((cells x).map V.d) = some ((cells x).map .d):=by simp [put,hz,hzero]
  have py:put zero 0 ((cells y).map V.d) = some ((cells y).map .d):=by simp [put,hz,hzero]
  cases hq:p x y with
  | false =>
   refine ⟨bs ++ [.cells ((cells x).map .d),.cells ((cells y).map .d)],?_⟩
   simp [eqfB,hx,hy,sx,sy,px,py,hc,hq,hz0,hz,show ((i:Int) < s.l.length) from by omega]
  | true =>
   obtain ⟨bs',q⟩:=ih (i + 1) (bs ++ [.cells ((cells x).map .d),.cells ((cells y).map .d)]) 0 (by omega) rfl
   refine ⟨bs',?_⟩
   simp [eqfB,hx,hy,sx,sy,px,py,hc,hq,hw,hz0,hz,show ((i:Int) < s.l.length) from by omega]
   simpa using q
theorem S_eqf {α:Type} {cells:α -> List D} {z:Nat} {zero:List V} {id:FuncId} (hz:∀ x,(cells x).length = z) (hz0:0 < z) (hzero:zero.length = z) {f:FuncId} {p:α -> α -> Bool} (ht:T id = some (eqfQ z zero)) (hv:val id = true) {s t:Sl α} (hs:s.l.length < 2 ^ 62)
 (hf:∀ x ∈ s.l,∀ y ∈ t.l,∀ h,Sm E T val f [ag (cells x),ag (cells y)] h = some (bl (p x y),h)) (h:Hp):Sm E T val id [.d (s.d cells),.d (t.d cells),.fn f []] h = some (bl (all2 p s.l t.l),h):=by
 rw [Sm_v ht hv]
 have hfr:frz h (.fn f []) = some (.fn f []):=rfl
 by_cases hl:s.l.length = t.l.length
 · obtain ⟨bs',k1⟩:=eqf_loop (E:=E) (T:=T) (val:=val) hz hz0 hzero hl hs hf s.l.length 0 [] 0 (by omega) rfl
   simp [hl] at k1
   simp [Bd_mk,eqfQ,hl,hfr,pureV]
   rw [Cd_keep]
   simp [k1]
   cases all2 p s.l t.l <;> simp [pureV,ownR,own1,ownV]
 · have hl':¬ ((s.l.length:Int) = t.l.length):=by omega
   rw [all2_ne hl]
   simp [Bd_mk,eqfQ,hl',hfr,pureV,ownR,own1,ownV]
end
def Cfg.same (a b:Cfg):Bool:=a.epoch == b.epoch && a.next == b.next && a.hosts == b.hosts && a.ways == b.ways && (all2 Pod.eqB a.pods.l b.pods.l && (all2 Svc.eqB a.services.l b.services.l && (all2 Way.eqB a.bound.l b.bound.l && all2 Pol.same a.policies.l b.policies.l)))
end Go.Proofs.YtmahnnnccohccaaGreat
namespace Go.Proofs.YtmahnnnccohccaaGreat
theorem polMay_own (p:Pol):polMay p.own = polMay p:=by
 have:(p.rules.l.map Rule.own).all ruleMay = p.rules.l.all ruleMay:=by rw [List.all_map]; rfl
 simp only [polMay,Pol.own,List.length_map,this]
 rfl
theorem Pol.own_same (p:Pol):Pol.same p.own p = true:=by
 have:all2 Rule.same (p.rules.l.map Rule.own) p.rules.l = true:=by
  rw [all2_map]; exact all2_refl Rule.same_refl _
 simp [Pol.same,Pol.own,this]
theorem Cfg.same_refl (a:Cfg):a.same a = true:=by
 simp [Cfg.same,all2_refl (fun _=>Pod.eqB_iff.2 rfl),all2_refl (fun _=>Svc.eqB_iff.2 rfl),all2_refl (fun _=>Way.eqB_iff.2 rfl),all2_refl Pol.same_refl]
end Go.Proofs.YtmahnnnccohccaaGreat
namespace Go.Proofs.YtmahnnnccohccaaGreat
end Go.Proofs.YtmahnnnccohccaaGreat
