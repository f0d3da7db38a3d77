/- slices.SortFunc at things of more cells than one, by a number that each of them has, as a function from outside: what it answers. -/
import Derived.Test.YtjkfknafpgfchaaGreatPy
import Derived.Shelf.SlSortCmp.WholeK
import Derived.Test.YtjkfknafpgfchaaGreatCp
import Derived.Test.YtjkfknafpgfchaaGreatSa
import Derived.Test.YtjkfknafpgfchaaGreatWa
import Derived.Test.YtjkfknafpgfchaaGreatQt
import Derived.Test.YtjkfknafpgfchaaGreatGn
import Derived.Test.YtjkfknafpgfchaaGreatGm
set_option linter.unusedVariables false
set_option linter.unusedSimpArgs false
namespace Go.Proofs.YtjkfknafpgfchaaGreat
section
def Du (p:Nat) (r:List V):Option Int:=match r[p]? with
 | some (.d (.int .u64 n))=>some n
 | _=>none
def lh (p:Nat) (r:List V):Int:=(Du p r).getD 0
theorem Dv {p:Nat} {r:List V} {n:Int} (h:Du p r = some n):r[p]? = some (.d (.int .u64 n)):=by
 unfold Du at h;split at h
 · rename_i m hm; cases h; exact hm
 · cases h
def chunk (z n:Nat) (cs:List V):List (List V):=(List.range n).map fun i=>(cs.drop (i * z)).take z
def eZ (p:Nat) (rs:List (List V)):List (List V):=rs.mergeSort fun x y=>decide (lh p x <= lh p y)
structure SF where
 z:Nat
 p:Nat
 g:FuncId
 id:FuncId
def gL (s:SF) (args:List V) (h:Hp):Option (V × Hp):=match args with
 | [.row b 0 n _ z,.fn g [.ptr c 0]]=>match h.get b,h.get c with
  | some cs,some [.fn id []] =>
   if z = s.z /\ g = s.g /\ id = s.id /\ b ≠ c /\ 0 < n /\ n <= 2 ^ 40 /\ n * z <= cs.length /\ (∀ r ∈ chunk z n cs,(Du s.p r).isSome = true) /\ ((chunk z n cs).map (lh s.p)).Nodup then
    some (.tup [],h.set b ((eZ s.p (chunk z n cs)).flatten ++ cs.drop (n * z)))
   else none
  | _,_=>none
 | _=>none
theorem kE {s:SF} {args:List V} {h:Hp} {r:V} {h':Hp} (hm:gL s args h = some (r,h')):LowOk h h':=by
 unfold gL at hm;split at hm
 · split at hm
   · split at hm
     · cases hm; exact LowOk.set _ _ _
     · cases hm
   · cases hm
 · cases hm
end
section
open Go.Sort Go.Shelf Go.RowKit
structure Rec (k p:Nat) where
 vs:List Value
 len:vs.length = k
 one:∀ v ∈ vs,v.oneCell' = true
 key:Int
 hk:vs[p]? = some (.int .u64 key)
abbrev Rec.inh {k p:Nat} (h:p < k):Inhabited (Rec k p):=⟨⟨List.replicate k (.int .u64 0),by simp,fun v hv=>by rw [(List.mem_replicate.1 hv).2]; rfl,0,by simp [h]⟩⟩
def cfK {k p:Nat} (x y:Rec k p):Int:=if x.key < y.key then -1 else if y.key < x.key then 1 else 0
theorem Ca {k p:Nat} (x y:Rec k p):ltOf cfK x y = decide (x.key < y.key):=by
 unfold ltOf cfK;by_cases h1:x.key < y.key
 · simp [h1]
 · by_cases h2:y.key < x.key <;> simp [h1,h2]
theorem VU {k p:Nat}:SWO (ltOf (cfK (k:=k) (p:=p))) where
 irrefl x:=by rw [Ca]; simp
 trans x y z h1 h2:=by rw [Ca] at *; simp at *; omega
 ntrans x y z h1 h2:=by rw [Ca] at *; simp at *; omega
theorem oh {α:Type} {f:α -> Int}:∀ {l:List α},(l.map f).Nodup -> ∀ a ∈ l,∀ b ∈ l,f a = f b -> a = b
 | x :: l,h,a,ha,b,hb,e=>by
  simp only [List.map_cons,List.nodup_cons,List.mem_map,not_exists,not_and] at h;rcases List.mem_cons.1 ha with e1 | ha' <;> rcases List.mem_cons.1 hb with e2 | hb'
  · rw [e1,e2]
  · exact absurd (by rw [← e1,e]) (h.1 b hb')
  · exact absurd (by rw [← e2,e]) (h.1 a ha')
  · exact oh h.2 a ha' b hb' e
theorem qA {z:Nat}:∀ {l:List (List V)} {j:Nat},(∀ r ∈ l,r.length = z) -> j < l.length * z -> ∃ r,l[j / z]? = some r /\ l.flatten[j]? = r[j % z]?
 | [],j,_,h=>by simp at h
 | r :: l,j,hl,h=>by
  have hr:=hl r (by simp);have hz:0 < z:=by
   rcases Nat.eq_zero_or_pos z with hz | hz
   · rw [hz] at h; simp at h
   · exact hz
  rcases Nat.lt_or_ge j z with hj | hj
  · refine ⟨r,by rw [Nat.div_eq_of_lt hj]; rfl,?_⟩;rw [List.flatten_cons,List.getElem?_append_left (by omega),Nat.mod_eq_of_lt hj]
  · obtain ⟨k,rfl⟩:=Nat.exists_eq_add_of_le hj;rw [List.length_cons,Nat.add_mul,Nat.one_mul] at h;obtain ⟨r',e1,e2⟩:=qA (l:=l) (j:=k) (fun x hx=>hl x (List.mem_cons_of_mem _ hx)) (by omega);refine ⟨r',by rw [Nat.add_div_left _ hz]; simpa using e1,?_⟩;rw [List.flatten_cons,List.getElem?_append_right (by omega),hr,Nat.add_sub_cancel_left,e2,Nat.add_mod_left]
theorem AU {α:Type} {f:α -> Int} {l1 l2 l:List α} (hnd:(l.map f).Nodup) (p1:l1.Perm l) (p2:l2.Perm l) (s1:l1.Pairwise fun a b=>f a <= f b) (s2:l2.Pairwise fun a b=>f a <= f b):l1 = l2:=by
 refine (p1.trans p2.symm).eq_of_pairwise ?_ s1 s2;intro a b ha hb h1 h2;exact oh hnd a (p1.mem_iff.1 ha) b (p2.mem_iff.1 hb) (by omega)
variable {P:Program} {ρr:Ren}
theorem BX {B:Nat} {ρ:Rh} {h:Hp} {w:World} (hR:Rel B ρ h w) {b:Nat} {cs:List V} (hg:h.get b = some cs) (hne:cs ≠ []):∃ hb:b < h.bs.length,h.bs[b].live = true:=by
 obtain ⟨hb,e⟩:=kY hg;refine ⟨hb,?_⟩;rw [e];cases cs with
 | nil=>exact absurd rfl hne
 | cons _ _=>rfl
def nR (P:Program) (s:SF):Prop:=∀ (W:World) (c:Nat) (x y:Rec s.z s.p),W.cell? ⟨c,0,none⟩ = some (.func (.func s.id) #[] #[]) →
 Calls P s.g #[.agg x.vs.toArray,.agg y.vs.toArray,.pointer (some ⟨c,0,none⟩)] W fun e w'=>e = .returned (.int .i64 (cfK x y)) /\ ∃ q os,w' = grow (W.drewN q) os
theorem mr (s:SF) (L:SlLaysF0.n6 P ρr) (aE:∀ w,(isAgg (ρr.t 24)).run P w = .ok true w) (zE:∀ w,(Go.sizeOf (ρr.t 24)).run P w = .ok s.z w) (eg:∀ args w,(callFunc s.g args).run P w = .ok (.enter s.g args) w) (hp:s.p < s.z) (hcmp:nR P s)
 {B:Nat} {ρ:Rh} {h:Hp} {w:World} {args:List V} {vs:Array Value} {r:V} {h':Hp} (hR:Rel B ρ h w) (hv:VRs ρ (St ρ w) w args vs.toList) (hm:gL s args h = some (r,h')) :
 Calls P (ρr.f 6) vs w (je B ρ h w r h'):=by
 unfold gL at hm;split at hm
 · rename_i b n cap z g c;split at hm
   · rename_i cs id hgb hgc;split at hm
     · rename_i hall;obtain ⟨rfl,rfl,rfl,hbc,hn0,hn,hlen,hkeys,hnd⟩:=hall;cases hm;simp only [VRs] at hv;obtain ⟨u1,us1,e1,hu1,u2,us2,e2,hu2,e3⟩:=hv;subst e3; subst e2;have hvs:vs = #[u1,u2]:=Array.toList_inj.1 (by simpa using e1);subst hvs;simp only [VR,VRs] at hu1 hu2;obtain ⟨hbN,cc,rfl,hc1,hc2,_⟩:=hu1;obtain ⟨vs2,rfl,u3,us3,e4,⟨hcN,rfl⟩,rfl⟩:=hu2;have hvs2:vs2 = #[.pointer (some ⟨ρ c,0,none⟩)]:=Array.toList_inj.1 (by simpa using e4);subst hvs2;have hz0:0 < s.z:=by omega
       have hnz:0 < n * s.z:=Nat.mul_pos hn0 hz0;have hne:cs ≠ []:=by rintro rfl; simp at hlen; omega
       obtain ⟨arr,el,fz,k1,k2,k3,k4⟩:=eQ hR hgb hne;obtain ⟨arr2,el2,fz2,m1,m2,m3,m4⟩:=eQ hR hgc (by simp);obtain ⟨hbl,hlive⟩:=BX hR hgb hne;obtain ⟨hcl,hclive⟩:=BX hR hgc (by simp);have hcell:w.cell? ⟨ρ c,0,none⟩ = some (.func (.func s.id) #[] #[]):=by
        have h1:0 < arr2.size:=Nat.lt_of_lt_of_le Nat.zero_lt_one (by simpa using m2);have h2:=(m4 0 (by simp) h1).1;simp only [List.getElem_cons_zero,VR,VRs] at h2;obtain ⟨vs3,e5,e6⟩:=h2;have e7:vs3 = #[]:=Array.toList_inj.1 (by simpa using e6);subst e7;simp [World.cell?,m1,h1,e5]
       have hinj:ρ c ≠ ρ b:=hR.inj c b (Ne.symm hbc) (hR.live c hcl hclive) (hR.live b hbl hlive);have hlt:=(hR.lo b hbN).2;have hltc:=(hR.lo c hcN).2;have hbnd:∀ i,i < n -> i * s.z + s.z <= n * s.z:=fun i hi=>by
        have:=Nat.mul_le_mul_right s.z (show i + 1 <= n from hi)
        rwa [Nat.add_mul,Nat.one_mul] at this
       have hch:∀ i t,i < n -> t < s.z -> ((cs.drop (i * s.z)).take s.z)[t]? = cs[i * s.z + t]?:=fun i t hi ht=>by
        rw [List.getElem?_take_of_lt ht,List.getElem?_drop]
       have har:∀ i t,i < n -> t < s.z -> ∃ v u,cs[i * s.z + t]? = some v /\ arr[i * s.z + t]? = some u /\ VR ρ (St ρ w) w v u /\ u.oneCell' = true:=fun i t hi ht=>by
        have:=hbnd i hi;have h1:i * s.z + t < cs.length:=by omega
        have h2:i * s.z + t < arr.size:=by omega
        exact ⟨cs[i * s.z + t],arr[i * s.z + t],by simp [h1],by simp [h2],k4 _ h1 h2⟩
       have hkey:∀ i,i < n -> ∃ m,lh s.p ((cs.drop (i * s.z)).take s.z) = m /\ arr[i * s.z + s.p]? = some (.int .u64 m):=fun i hi=>by
        have h1:=hkeys ((cs.drop (i * s.z)).take s.z) (by simp only [chunk,List.mem_map,List.mem_range]; exact ⟨i,hi,rfl⟩);obtain ⟨m,hm⟩:=Option.isSome_iff_exists.1 h1;have h2:=Dv hm;rw [hch i s.p hi hp] at h2;obtain ⟨v,u,a1,a2,a3,_⟩:=har i s.p hi hp;rw [h2] at a1;cases a1;simp only [VR,DR] at a3;subst a3;exact ⟨m,by simp [lh,hm],a2⟩
       let cell:Nat -> Value:=fun j=>(arr[j]?).getD (.bool false)
       have hcl':∀ i t,i < n -> t < s.z -> arr[i * s.z + t]? = some (cell (i * s.z + t)):=fun i t hi ht=>by
        obtain ⟨v,u,a1,a2,a3,a4⟩:=har i t hi ht;simp only [cell,a2,Option.getD_some]
       let rc:Fin n -> Rec s.z s.p:=fun i=>⟨(List.range s.z).map fun t=>cell (i.1 * s.z + t),by simp,fun v hv=>by
        simp only [List.mem_map,List.mem_range] at hv;obtain ⟨t,ht,rfl⟩:=hv;obtain ⟨v,u,a1,a2,a3,a4⟩:=har i.1 t i.2 ht;simp only [cell,a2,Option.getD_some]; exact a4,
        lh s.p ((cs.drop (i.1 * s.z)).take s.z),by
         obtain ⟨m,q1,q2⟩:=hkey i.1 i.2;simp only [List.getElem?_map,List.getElem?_range hp,Option.map_some,cell,q2,Option.getD_some,q1]⟩
       letI:Inhabited (Rec s.z s.p):=Rec.inh hp
       let prs:List (Rec s.z s.p × List V):=(List.finRange n).map fun i=>(rc i,(cs.drop (i.1 * s.z)).take s.z)
       have hsnd:prs.map (·.2) = chunk s.z n cs:=by
        refine List.ext_getElem (by simp [prs,chunk]) fun i h1 h2=>?_;simp [prs,chunk]
       let d:Array (Rec s.z s.p):=(prs.map (·.1)).toArray
       have hds:d.size = n:=by simp [d,prs]
       have hdi:∀ i (hi:i < n),d[i]! = rc ⟨i,hi⟩:=fun i hi=>by
        rw [getElem!_pos d i (by omega)];simp [d,prs]
       have hprk:∀ x ∈ prs,x.1.key = lh s.p x.2:=fun x hx=>by
        simp only [prs,List.mem_map] at hx;obtain ⟨i,_,rfl⟩:=hx;rfl
       have hkd:(prs.map (·.1)).map (·.key) = (chunk s.z n cs).map (lh s.p):=by
        rw [← hsnd];have e1:(prs.map (·.1)).map (·.key) = prs.map fun x=>x.1.key:=List.map_map;have e2:(prs.map (·.2)).map (lh s.p) = prs.map fun x=>lh s.p x.2:=List.map_map;rw [e1,e2];exact List.map_congr_left hprk
       let enc:Rec s.z s.p -> List Value:=fun x=>x.vs
       have hH:HoldsK enc s.z w (ρ b) 0 d:=by
        intro j hj;rw [size_flatK,hds] at hj;have hi:j / s.z < n:=by rw [Nat.div_lt_iff_lt_mul hz0]; exact hj
        have ht:j % s.z < s.z:=Nat.mod_lt _ hz0;have hjj:j / s.z * s.z + j % s.z = j:=by rw [Nat.mul_comm]; exact Nat.div_add_mod j s.z
        have hj2:j < arr.size:=by omega
        refine ⟨?_,by simpa using k3 j hj2⟩;rw [get_flatK _ _ _ _ (by rw [hds]; exact hj),hdi _ hi];have h1:=hcl' _ _ hi ht;rw [hjj] at h1;have h2:(enc (rc ⟨j / s.z,hi⟩))[j % s.z]! = cell j:=by
         simp only [enc,rc];rw [getElem!_pos _ _ (by simpa using ht)];simp [hjj]
        rw [h2];simp only [World.cell?,k1,Nat.zero_add,id_eq];simpa using h1
       have hcm:CmpLays P s.g #[.pointer (some ⟨ρ c,0,none⟩)] enc s.z cfK (ρ b) 0 d.size w:=by
        intro m os dk hdk x y;refine hcmp _ (ρ c) x y ?_;have hh:(sortWorldK enc s.z w (ρ b) 0 m dk os).heap[ρ c]? = w.heap[ρ c]?:=by
         show ((w.heap.modify (ρ b) _) ++ os)[ρ c]? = _;rw [Array.getElem?_append_left (by simpa using hltc),Array.getElem?_modify,if_neg (Ne.symm hinj)]
        rw [← hcell];simp only [World.cell?,hh]
       have hct:=AnyQ.slices_SortFunc L s.z aE zE enc (fun x=>x.len) (fun x=>x.one) cfK VU s.g #[.pointer (some ⟨ρ c,0,none⟩)] (ρ b) 0 cc d w eg hcm hH hlt (by rw [hds]; omega);rw [hds] at hct;refine hct.mono ?_;rintro e w' ⟨rfl,d',nn,os,hP,hS,rfl⟩;have hd's:d'.size = n:=by rw [hP.1,hds]
       have hperm:d'.toList.Perm (prs.map (·.1)):=by
        have:=hP.2.2;have x1:d'.extract 0 n = d':=by rw [← hd's]; exact Array.extract_size
        have x2:d.extract 0 n = d:=by rw [← hds]; exact Array.extract_size
        rw [x1,x2] at this;exact this
       have hsrt:d'.toList.Pairwise fun a b=>a.key <= b.key:=by
        rw [List.pairwise_iff_getElem];intro i j hi hj hij;have hi':i < d'.size:=by simpa using hi
        have hj':j < d'.size:=by simpa using hj
        have:=hS i j (Nat.zero_le _) hij (by omega);rw [Ca,getElem!_pos d' i hi',getElem!_pos d' j hj'] at this;simp only [decide_eq_false_iff_not] at this;simp only [Array.getElem_toList];omega
       let prs':=prs.mergeSort fun x y=>decide (lh s.p x.2 <= lh s.p y.2)
       have hp1:prs'.map (·.2) = eZ s.p (chunk s.z n cs):=by
        rw [eZ,← hsnd];exact List.map_mergeSort fun _ _ _ _=>rfl
       have hpp:prs'.Perm prs:=List.mergeSort_perm _ _;have hp2:d'.toList = prs'.map (·.1):=by
        refine AU (f:=(·.key)) (l:=prs.map (·.1)) (by rw [hkd]; exact hnd) hperm (hpp.map _) hsrt ?_;rw [List.pairwise_map];have hs:=List.pairwise_mergeSort (le:=fun (x y:Rec s.z s.p × List V)=>decide (lh s.p x.2 <= lh s.p y.2)) (by intro a b c h1 h2; simp at *; omega) (by intro a b; simp; omega) prs;refine List.Pairwise.imp_of_mem ?_ hs;intro a b ha hb hab;rw [hprk a (hpp.mem_iff.1 ha),hprk b (hpp.mem_iff.1 hb)];simpa using hab
       have hplen:prs'.length = n:=by simp [prs',prs]
       have hat':∀ i (hi:i < n),∃ i0,∃ hi0:i0 < n,d'[i]! = rc ⟨i0,hi0⟩ /\ (eZ s.p (chunk s.z n cs))[i]? = some ((cs.drop (i0 * s.z)).take s.z):=fun i hi=>by
        have hmem:prs'[i]'(by omega) ∈ prs:=hpp.mem_iff.1 (List.getElem_mem _);obtain ⟨i0,_,he⟩:=List.mem_map.1 hmem;refine ⟨i0.1,i0.2,?_,?_⟩
        · have h1:d'.toList[i]? = some (rc i0):=by
           rw [hp2,List.getElem?_map,List.getElem?_eq_getElem (by omega),← he]; rfl
          rw [getElem!_pos d' i (by omega)];rw [List.getElem?_eq_getElem (by simpa using (show i < d'.size by omega))] at h1;simpa using h1
        · rw [← hp1,List.getElem?_map,List.getElem?_eq_getElem (by omega),← he]; rfl
       let w1:=putRowK enc s.z (Sort.ahead w nn) (ρ b) 0 d'
       have hheap:w1.heap = w.heap.modify (ρ b) (onCells (putCells id 0 (flatK enc s.z d'))):=rfl;have hsz:w1.heap.size = w.heap.size:=by rw [hheap]; simp
       have hoth:∀ k,k ≠ ρ b -> w1.heap[k]? = w.heap[k]?:=fun k hk=>by
        rw [hheap,Array.getElem?_modify,if_neg (Ne.symm hk)]
       have hat:w1.heap[ρ b]? = some (.cells (putCells id 0 (flatK enc s.z d') arr) el fz):=by
        rw [hheap,Array.getElem?_modify,if_pos rfl,k1]; rfl
       have hps:(putCells id 0 (flatK enc s.z d') arr).size = arr.size:=by simp [putCells]
       have hown:∀ arr' e' fz',w.heap[ρ b]? = some (.cells arr' e' fz') -> ∃ arr'' fz'',w1.heap[ρ b]? = some (.cells arr'' e' fz'') /\ arr''.size = arr'.size:=by
        intro arr' e' fz' hh;rw [k1] at hh;cases hh;exact ⟨_,_,hat,hps⟩
       have q2:=ja hR (hR.live b hbl hlive) hsz hoth hown rfl rfl rfl;have hrl:∀ r ∈ eZ s.p (chunk s.z n cs),r.length = s.z:=by
        intro r hr;have:=(List.mergeSort_perm _ _).mem_iff.1 hr;simp only [chunk,List.mem_map,List.mem_range] at this;obtain ⟨i,hi,rfl⟩:=this;have:=hbnd i hi;rw [List.length_take,List.length_drop]; omega
       have hsl:(eZ s.p (chunk s.z n cs)).length = n:=by simp [eZ,chunk]
       have hfl:((eZ s.p (chunk s.z n cs)).flatten).length = n * s.z:=by
        rw [List.length_flatten];have:(eZ s.p (chunk s.z n cs)).map List.length = List.replicate n s.z:=by
         rw [List.eq_replicate_iff];refine ⟨by simp [hsl],fun x hx=>?_⟩;obtain ⟨r,hr,rfl⟩:=List.mem_map.1 hx;exact hrl r hr
        rw [this]; simp
       have hnew:((eZ s.p (chunk s.z n cs)).flatten ++ cs.drop (n * s.z)).length = cs.length:=by
        rw [List.length_append,hfl,List.length_drop]; omega
       have hbr:BR ρ w1 (ρ b) (.cells ((eZ s.p (chunk s.z n cs)).flatten ++ cs.drop (n * s.z))):=by
        have hne2:(eZ s.p (chunk s.z n cs)).flatten ++ cs.drop (n * s.z) ≠ []:=fun hh=>by
         rw [hh] at hnew; simp at hnew; exact hne (List.eq_nil_of_length_eq_zero hnew.symm)
        have core:∃ arr' e' fz',w1.heap[ρ b]? = some (.cells arr' e' fz') /\ ((eZ s.p (chunk s.z n cs)).flatten ++ cs.drop (n * s.z)).length <= arr'.size /\ (∀ j,j < arr'.size -> w1.frozen? ⟨ρ b,j,none⟩ = false) ∧
         ∀ (j:Nat) (h1:j < ((eZ s.p (chunk s.z n cs)).flatten ++ cs.drop (n * s.z)).length) (h2:j < arr'.size),VR ρ (St ρ w1) w1 ((eZ s.p (chunk s.z n cs)).flatten ++ cs.drop (n * s.z))[j] arr'[j] /\ arr'[j].oneCell' = true:=by
         refine ⟨_,_,_,hat,by rw [hps,hnew]; exact k2,fun j hj=>?_,fun j h1 h2=>?_⟩
         · have:=k3 j (by rw [← hps]; exact hj);rw [← this];exact frozen?_mapBlock (Sort.ahead w nn) (ρ b) _ _
         · have hja:j < arr.size:=by rw [← hps]; exact h2
           have hjc:j < cs.length:=by rw [← hnew]; exact h1
           rcases Nat.lt_or_ge j (n * s.z) with hj | hj
           · have hi:j / s.z < n:=by rw [Nat.div_lt_iff_lt_mul hz0]; exact hj
             have ht:j % s.z < s.z:=Nat.mod_lt _ hz0;obtain ⟨i0,hi0,a1,a2⟩:=hat' _ hi;obtain ⟨r,b1,b2⟩:=qA (j:=j) hrl (by rw [hsl]; exact hj);rw [a2] at b1;cases b1;rw [hch i0 _ hi0 ht] at b2;obtain ⟨v,u,c1,c2,c3,c4⟩:=har i0 _ hi0 ht;have hV:((eZ s.p (chunk s.z n cs)).flatten ++ cs.drop (n * s.z))[j] = v:=by
              rw [List.getElem_append_left (by rw [hfl]; exact hj)];have:=b2.trans c1;rw [List.getElem?_eq_getElem (by rw [hfl]; exact hj)] at this;simpa using this
             have hU:(putCells id 0 (flatK enc s.z d') arr)[j] = u:=by
              simp only [putCells,Array.getElem_mapIdx];rw [if_pos ⟨Nat.zero_le _,by rw [size_flatK,hd's]; omega⟩,Nat.sub_zero,get_flatK _ _ _ _ (by rw [hd's]; exact hj),a1];simp only [enc,rc,id_eq];rw [getElem!_pos _ _ (by simpa using ht)];simp [cell,c2]
             rw [hV,hU];exact ⟨c3.ext q2.ext,c4⟩
           · have hV:((eZ s.p (chunk s.z n cs)).flatten ++ cs.drop (n * s.z))[j] = cs[j]:=by
              rw [List.getElem_append_right (by rw [hfl]; exact hj)];simp only [List.getElem_drop,hfl]
              congr 1
              omega
             have hU:(putCells id 0 (flatK enc s.z d') arr)[j] = arr[j]:=by
              simp only [putCells,Array.getElem_mapIdx];rw [if_neg (by rw [size_flatK,hd's]; omega)]
             rw [hV,hU];exact ⟨(k4 j hjc hja).1.ext q2.ext,(k4 j hjc hja).2⟩
        revert core hne2
        cases (eZ s.p (chunk s.z n cs)).flatten ++ cs.drop (n * s.z) with
        | nil=>intro hne2 _; exact absurd rfl hne2
        | cons x xs=>intro _ core; simpa only [BR] using core
       have q1:=oV hR hbl hlive hsz hoth hown rfl rfl rfl (.cells ((eZ s.p (chunk s.z n cs)).flatten ++ cs.drop (n * s.z))) hbr (min h.low b);have hbel:Below w1.heap.size w1 (grow w1 os):=⟨rfl,rfl,rfl,by simp [grow],fun k hk=>by simp [grow,Array.getElem?_append_left hk]⟩;obtain ⟨q3,q4⟩:=pI q1 hbel;exact ⟨_,ρ,rfl,q3,q2.trans q4,by simp only [VRx,VR,VRs]; exact ⟨_,rfl,rfl⟩⟩
     · cases hm
   · cases hm
 · cases hm
end
section
section
variable {E:Calls'} {T:FuncId -> Option QF} {val:FuncId -> Bool}
theorem qH {e:List D} {z:Nat} (he:e.length = z):sub (e.map V.d) 0 z = some (e.map V.d):=bB (by simpa using he)
end
end
section
section
variable {E:Calls'} {T:FuncId -> Option QF} {val:FuncId -> Bool}
theorem rP {z:Nat}:∀ {l:List (List D)} {rest:List V},(∀ e ∈ l,e.length = z) -> chunk z l.length (flat l ++ rest) = l.map fun e=>e.map V.d
 | [],rest,_=>rfl
 | e :: l,rest,h=>by
  have he:=h e (by simp);have ih:=rP (l:=l) (rest:=rest) fun x hx=>h x (List.mem_cons_of_mem _ hx);have hl:(e.map V.d).length = z:=by simp [he]
  simp only [chunk,List.length_cons,List.range_succ_eq_map,List.map_cons,List.map_map,pR,List.append_assoc] at ih ⊢
  congr 1
  · rw [Nat.zero_mul,List.drop_zero,← hl,List.take_left]
  · rw [← ih];refine List.map_congr_left fun i _=>?_;simp only [Function.comp,Nat.succ_eq_add_one,Nat.add_mul,Nat.one_mul];rw [List.drop_append,List.drop_eq_nil_of_le (by omega),hl,List.nil_append,Nat.add_sub_cancel]
theorem Eu {α:Type} {cells:α -> List D} {key:α -> Int} {z p:Nat} {g idf:FuncId} (hz:∀ x,(cells x).length = z) (hkey:∀ x,(cells x)[p]? = some (.int .u64 (key x))) {L:List α} (hnd:(L.map key).Nodup) (hne:L ≠ []) (hlen:L.length <= 2 ^ 40) {h:Hp} {b c:Nat} {cap:Option Nat} {rest:List V}
 (hb:ah h.bs b = some (flat (L.map cells) ++ rest)) (hc:ah h.bs c = some [.fn idf []]) (hbc:b ≠ c) :
 gL ⟨z,p,g,idf⟩ [.row b 0 L.length cap z,.fn g [.ptr c 0]] h = some (.tup [],h.set b (flat ((L.mergeSort fun x y=>decide (key x <= key y)).map cells) ++ rest)):=by
 have hw:∀ e ∈ L.map cells,e.length = z:=by simp; intro a _; exact hz a
 have hch:=rP (rest:=rest) hw;rw [List.length_map] at hch;have hkv:∀ x,Du p ((cells x).map V.d) = some (key x):=fun x=>by simp [Du,hkey]
 have hki:∀ x,lh p ((cells x).map V.d) = key x:=fun x=>by simp [lh,hkv]
 have hfl:=bD hz L;have h1:((L.map cells).map fun e=>e.map V.d).map (lh p) = L.map key:=by
  rw [List.map_map,List.map_map];exact List.map_congr_left fun x _=>hki x
 have h2:eZ p ((L.map cells).map fun e=>e.map V.d) = ((L.mergeSort fun x y=>decide (key x <= key y)).map cells).map fun e=>e.map V.d:=by
  rw [eZ,List.map_map,List.map_map]
  symm
  refine List.map_mergeSort fun x _ y _=>?_;simp only [Function.comp,hki]
 have h3:∀ l:List (List D),(l.map fun e=>e.map V.d).flatten = flat l:=fun l=>by simp only [flat,List.map_flatten]
 simp only [gL,get_eq,hb,hc];rw [if_pos]
 · rw [hch,h2,h3,← hfl,List.drop_left]
 · refine ⟨trivial,trivial,trivial,hbc,List.length_pos_iff.2 hne,hlen,by rw [List.length_append,hfl]; omega,?_,?_⟩
   · rw [hch];intro r hr;obtain ⟨e,he,rfl⟩:=List.mem_map.1 hr;obtain ⟨x,_,rfl⟩:=List.mem_map.1 he;rw [hkv]; rfl
   · rw [hch,h1]; exact hnd
end
end
section
end
section
end
section
structure Edt where
 kind:Int
 id:Int
 pod:Pod
 svc:Svc
 way:Way
 pol:Pol
def Edt.c (e:Edt):List D:=[i64 e.kind,u64 e.id] ++ e.pod.c ++ e.svc.c ++ e.way.c ++ e.pol.c
@[simp] theorem Edt.len {x:Edt}:x.c.length = 21:=(rfl)
@[simp] theorem Edt.all {x:Edt}:sub x.c 0 21 = some x.c:=(rfl)
@[simp] theorem Edt.s0_1 {x:Edt}:sub x.c 0 1 = some [i64 x.kind]:=(rfl)
@[simp] theorem Edt.s1_1 {x:Edt}:sub x.c 1 1 = some [u64 x.id]:=(rfl)
@[simp] theorem Edt.s2_7 {x:Edt}:sub x.c 2 7 = some x.pod.c:=(rfl)
@[simp] theorem Edt.s9_5 {x:Edt}:sub x.c 9 5 = some x.svc.c:=(rfl)
@[simp] theorem Edt.s14_2 {x:Edt}:sub x.c 14 2 = some x.way.c:=(rfl)
@[simp] theorem Edt.s16_5 {x:Edt}:sub x.c 16 5 = some x.pol.c:=(rfl)
@[simp] theorem Edt.s5_1 {x:Edt}:sub x.c 5 1 = some [i64 x.pod.host]:=(rfl)
@[simp] theorem Edt.s6_1 {x:Edt}:sub x.c 6 1 = some [u32 x.pod.addr]:=(rfl)
theorem Cfg.p0 {x:Cfg} {n:Int}:put (x.c.map V.d) 0 [.d (u64 n)] = some (({ x with epoch:=n }:Cfg).c.map V.d):=(rfl)
theorem Cfg.p1 {x:Cfg} {n:Int}:put (x.c.map V.d) 1 [.d (u64 n)] = some (({ x with next:=n }:Cfg).c.map V.d):=(rfl)
theorem Cfg.p4 {x:Cfg} {s:Sl Pod}:put (x.c.map V.d) 4 [.d (s.d Pod.c)] = some (({ x with pods:=s }:Cfg).c.map V.d):=(rfl)
theorem Pod.p0 {x:Pod} {n:Int}:put (x.c.map V.d) 0 [.d (u64 n)] = some (({ x with uid:=n }:Pod).c.map V.d):=(rfl)
theorem Pod.p3 {x:Pod} {n:Int}:put (x.c.map V.d) 3 [.d (i64 n)] = some (({ x with host:=n }:Pod).c.map V.d):=(rfl)
theorem Pod.p4 {x:Pod} {n:Int}:put (x.c.map V.d) 4 [.d (u32 n)] = some (({ x with addr:=n }:Pod).c.map V.d):=(rfl)
end
section
end
section
end
section
def Cfg.own (c:Cfg):Cfg:={ c with policies:=⟨c.policies.nl,c.policies.l.map Pol.own⟩ }
end
section
theorem pQ {α:Type} {B:Nat} {l:List α} (h:l.length <= B):fit B ⟨l.isEmpty,l⟩:=⟨h,fun hh=>by simpa using hh⟩
theorem Rule.own_wf {B:Nat} {r:Rule} (h:r.wf B):r.own.wf B:=⟨⟨pQ h.1.1.1,h.1.2⟩,⟨pQ h.2.1.1.1,h.2.1.2⟩,⟨pQ h.2.2.1.1,h.2.2.2⟩⟩
theorem Pol.own_wf {B:Nat} {p:Pol} (h:p.wf B):p.own.wf B:=by
 refine ⟨h.1,h.2.1,h.2.2.1,h.2.2.2.1,⟨?_,fun hh=>by simpa [Pol.own] using hh⟩,fun x hx=>?_⟩
 · simp only [Pol.own,List.length_map]; exact h.2.2.2.2.1.1
 · obtain ⟨r,hr,rfl⟩:=List.mem_map.1 hx;exact Rule.own_wf (h.2.2.2.2.2 r hr)
theorem Cfg.own_wf {B:Nat} {c:Cfg} (h:c.wf B):c.own.wf B:=by
 obtain ⟨h1,h2,h3,h4,h5,h6,h7,h8⟩:=h;refine ⟨h1,h2,h3,h4,h5,h6,h7,⟨?_,fun hh=>?_⟩,fun x hx=>?_⟩
 · simp only [Cfg.own,List.length_map]; exact h8.1.1
 · simp only [Cfg.own] at hh ⊢; rw [h8.1.2 hh]; rfl
 · obtain ⟨p,hp,rfl⟩:=List.mem_map.1 hx;exact Pol.own_wf (h8.2 p hp)
def Edt.wf (B:Nat) (e:Edt):Prop:=Inr .i64 e.kind /\ Inr .u64 e.id /\ e.pod.wf B /\ e.svc.wf B /\ e.way.wf B /\ e.pol.wf B
end
section
section
variable {E:Calls'} (h385:∀ t:Target,t.wf big -> ∀ h,E 276 [ag t.c] h = some (bl (aU t),h))
theorem qK {h:Hp} {k b o n z:Nat} {cap:Option Nat} {d:D} (hd:dataV h (k + 1) (.row b o n cap z) = some d):∃ l,d = .slice false l:=by
 simp only [dataV] at hd;split at hd
 · split at hd
   · split at hd
     · cases hd; exact ⟨_,rfl⟩
     · cases hd
   · cases hd
 · cases hd
theorem Gi {h:Hp} {r:V} {b:Bool} (hr:frz h r = some (bl b)):r = bl b:=by
 cases r with
 | d x=>simpa using hr
 | row b' o n cap z =>
  exfalso;simp only [frz,dD] at hr;cases hd:dataV h 8 (.row b' o n cap z) with
  | none=>rw [hd] at hr; cases hr
  | some d =>
   rw [hd] at hr;obtain ⟨l,rfl⟩:=qK hd;cases hr
 | ptr b' o=>simp [frz,dD,dataV] at hr
 | eptr cs o=>simp [frz,dD,dataV] at hr
 | undef=>simp [frz,dD] at hr
 | fn f cs=>cases cs <;> simp [frz,dD] at hr
 | mfn f cs=>simp [frz,dD,dataV] at hr
 | agg cs =>
  simp only [frz,dD] at hr;split at hr <;> cases hr
 | tup vs =>
  simp only [frz] at hr;split at hr <;> cases hr
theorem CP {T:FuncId -> Option QF} {val:FuncId -> Bool} {f:FuncId} {q:QF} (ht:T f = some q) (hv:val f = true) {l:List D} {b:Bool} (h0:∀ h,Sm E T val f [ag l] h = some (bl b,h)) {a:V} {h:Hp} (ha:frz h a = some (ag l)):Sm E T val f [a] h = some (bl b,h):=by
 have h1:=h0 h;rw [bf ht hv] at h1 ⊢;simp only [List.mapM_cons,List.mapM_nil,Gh,ha,Option.pure_def,Option.bind_eq_bind,Option.bind_some,Bg,EJ] at h1 ⊢;cases hB:Bd E T val q [ag l] ⟨[],0⟩ with
 | none=>rw [hB] at h1; cases h1
 | some p =>
  obtain ⟨r,h'⟩:=p;rw [hB] at h1;simp only [Jw] at h1 ⊢;cases hr:frz h' r with
  | none=>rw [hr] at h1; cases h1
  | some r' =>
   rw [hr] at h1;have e1:r' = bl b:=by
    simp at h1; exact h1
   subst e1;have:=Gi hr;subst this;simp [lv,tY,ni]
end
end
section
end
section
section
variable {E:Calls'} {T:FuncId -> Option QF} {val:FuncId -> Bool}
theorem FZ {α:Type} {cells:α -> List D} {z:Nat} (hz:∀ x,(cells x).length = z) (hz0:0 < z) {k:EQ} {p:α -> α -> Bool} {s t:Sl α} (hl:s.l.length = t.l.length) (hs:s.l.length < 2 ^ 62)
 (he:∀ x y h,eqv k true (ag (cells x)) (ag (cells y)) h = some (.d (.bool (p x y != true)),h)) (h:Hp):∀ (m i:Nat),i + m = s.l.length →
   Cd E T val (.loop [0,1,12,13] (zJ z k)) [(0,.d (s.d cells)),(1,.d (t.d cells)),(12,.d (i64 s.l.length)),(13,.d (i64 i))] h =
    if all2 p (s.l.drop i) (t.l.drop i) then some (.exit 0,[],h) else some (.ret,[(4,bl false)],h):=by
 intro m;have key:=ax (E:=E) (T:=T) (val:=val) [0,1,12,13] (zJ z k);generalize Cd E T val (.loop [0,1,12,13] (zJ z k)) = W at key ⊢
 induction m with
 | zero =>
  intro i hi;rw [key,List.drop_eq_nil_of_le (by omega),List.drop_eq_nil_of_le (by omega)];simp [zJ,all2,show ¬ ((i:Int) < s.l.length) from by omega]
 | succ m ih =>
  intro i hi;have h1:i < s.l.length:=by omega
  have h2:i < t.l.length:=by omega
  have hx:=fun h=>bi (z:=z) h (List.getElem?_eq_getElem h1) (hz _);have hy:=fun h=>bi (z:=z) h (List.getElem?_eq_getElem h2) (hz _);have hw:=aK h1 hs;have:=ih (i + 1) (by omega);rw [key,pF h1 h2];generalize s.l[i] = x at *;generalize t.l[i] = y at *;have sx:=bB (hz x);have sy:=bB (hz y);cases hq:p x y with
  | false=>simp [zJ,hx,hy,sx,sy,he,hq,hz0,show ((i:Int) < s.l.length) from by omega]
  | true =>
   simp [zJ,hx,hy,sx,sy,he,hq,hw,hz0,show ((i:Int) < s.l.length) from by omega];simpa using this
theorem wH {α:Type} {cells:α -> List D} {z:Nat} {id:FuncId} (hz:∀ x,(cells x).length = z) (hz0:0 < z) {k:EQ} {p:α -> α -> Bool} (ht:T id = some (eqlQ z k)) (hv:val id = true) {s t:Sl α} (hs:s.l.length < 2 ^ 62)
 (he:∀ x y h,eqv k true (ag (cells x)) (ag (cells y)) h = some (.d (.bool (p x y != true)),h)) (h:Hp):Sm E T val id [.d (s.d cells),.d (t.d cells)] h = some (bl (all2 p s.l t.l),h):=by
 rw [bf ht hv];by_cases hl:s.l.length = t.l.length
 · have k1:=fun h=>FZ (E:=E) (T:=T) (val:=val) hz hz0 hl hs he h s.l.length 0 (by omega);simp [hl] at k1;simp [af,eqlQ,hl];rw [aH];simp [k1];cases all2 p s.l t.l <;> simp
 · have hl':¬ ((s.l.length:Int) = t.l.length):=by omega
   rw [uS hl];simp [af,eqlQ,hl']
theorem Df {α:Type} {cell:α -> D} {k:EQ} {p:α -> α -> Bool} {s t:Sl α} (hl:s.l.length = t.l.length) (hs:s.l.length < 2 ^ 62)
 (he:∀ x y h,eqv k true (.d (cell x)) (.d (cell y)) h = some (.d (.bool (p x y != true)),h)) (h:Hp):∀ (m i:Nat),i + m = s.l.length →
   Cd E T val (.loop [0,1,12,13] (rY k)) [(0,.d (s.d fun x=>[cell x])),(1,.d (t.d fun x=>[cell x])),(12,.d (i64 s.l.length)),(13,.d (i64 i))] h =
    if all2 p (s.l.drop i) (t.l.drop i) then some (.exit 0,[],h) else some (.ret,[(4,bl false)],h):=by
 intro m;have key:=ax (E:=E) (T:=T) (val:=val) [0,1,12,13] (rY k);generalize Cd E T val (.loop [0,1,12,13] (rY k)) = W at key ⊢
 induction m with
 | zero =>
  intro i hi;rw [key,List.drop_eq_nil_of_le (by omega),List.drop_eq_nil_of_le (by omega)];simp [rY,all2,show ¬ ((i:Int) < s.l.length) from by omega]
 | succ m ih =>
  intro i hi;have h1:i < s.l.length:=by omega
  have h2:i < t.l.length:=by omega
  have hx:=fun h=>bi (z:=1) h (List.getElem?_eq_getElem h1) (cells:=fun x=>[cell x]) rfl;have hy:=fun h=>bi (z:=1) h (List.getElem?_eq_getElem h2) (cells:=fun x=>[cell x]) rfl;have hw:=aK h1 hs;have:=ih (i + 1) (by omega);rw [key,pF h1 h2];generalize s.l[i] = x at *;generalize t.l[i] = y at *;cases hq:p x y with
  | false=>simp [rY,hx,hy,he,hq,show ((i:Int) < s.l.length) from by omega]
  | true =>
   simp [rY,hx,hy,he,hq,hw,show ((i:Int) < s.l.length) from by omega];simpa using this
theorem E5 {α:Type} {cell:α -> D} {id:FuncId} {k:EQ} {p:α -> α -> Bool} (ht:T id = some (eql1Q k)) (hv:val id = true) {s t:Sl α} (hs:s.l.length < 2 ^ 62)
 (he:∀ x y h,eqv k true (.d (cell x)) (.d (cell y)) h = some (.d (.bool (p x y != true)),h)) (h:Hp):Sm E T val id [.d (s.d fun x=>[cell x]),.d (t.d fun x=>[cell x])] h = some (bl (all2 p s.l t.l),h):=by
 rw [bf ht hv];by_cases hl:s.l.length = t.l.length
 · have k1:=fun h=>Df (E:=E) (T:=T) (val:=val) hl hs he h s.l.length 0 (by omega);simp [hl] at k1;simp [af,eql1Q,hl];rw [aH];simp [k1];cases all2 p s.l t.l <;> simp
 · have hl':¬ ((s.l.length:Int) = t.l.length):=by omega
   rw [uS hl];simp [af,eql1Q,hl']
theorem FW {α:Type} {cells:α -> List D} {z:Nat} {zero:List V} (hz:∀ x,(cells x).length = z) (hz0:0 < z) (hzero:zero.length = z) {f:FuncId} {p:α -> α -> Bool} {s t:Sl α} (hl:s.l.length = t.l.length) (hs:s.l.length < 2 ^ 62)
 (hf:∀ x ∈ s.l,∀ y ∈ t.l,∀ h,Sm E T val f [ag (cells x),ag (cells y)] h = some (bl (p x y),h)):∀ (m i:Nat) (bs:List Blk) (lo:Nat),i + m = s.l.length -> lo = 0 →
   ∃ bs',Cd E T val (.loop [1,2,15,16,17] (zI z zero)) [(1,.d (t.d cells)),(2,.fn f []),(15,.d (s.d cells)),(16,.d (i64 s.l.length)),(17,.d (i64 i))] ⟨bs,lo⟩ =
    if all2 p (s.l.drop i) (t.l.drop i) then some (.exit 0,[],⟨bs',0⟩) else some (.ret,[(6,bl false)],⟨bs',0⟩):=by
 intro m;have key:=ax (E:=E) (T:=T) (val:=val) [1,2,15,16,17] (zI z zero);generalize Cd E T val (.loop [1,2,15,16,17] (zI z zero)) = W at key ⊢
 induction m with
 | zero =>
  rintro i bs lo hi rfl;refine ⟨bs,?_⟩;rw [key,List.drop_eq_nil_of_le (by omega),List.drop_eq_nil_of_le (by omega)];simp [zI,all2,show ¬ ((i:Int) < s.l.length) from by omega]
 | succ m ih =>
  rintro i bs lo hi rfl;have h1:i < s.l.length:=by omega
  have h2:i < t.l.length:=by omega
  have hx:=fun h=>bi (z:=z) h (List.getElem?_eq_getElem h1) (hz _);have hy:=fun h=>bi (z:=z) h (List.getElem?_eq_getElem h2) (hz _);have hw:=aK h1 hs;have hc:=hf _ (List.getElem_mem h1) _ (List.getElem_mem h2);rw [key,pF h1 h2];generalize s.l[i] = x at *;generalize t.l[i] = y at *;have sx:=bB (hz x);have sy:=bB (hz y);have px:put zero 0 ((cells x).map V.d) = some ((cells x).map .d):=by simp [put,hz,hzero]
  have py:put zero 0 ((cells y).map V.d) = some ((cells y).map .d):=by simp [put,hz,hzero]
  cases hq:p x y with
  | false =>
   refine ⟨bs ++ [.cells ((cells x).map .d),.cells ((cells y).map .d)],?_⟩;simp [zI,hx,hy,sx,sy,px,py,hc,hq,hz0,hz,show ((i:Int) < s.l.length) from by omega]
  | true =>
   obtain ⟨bs',q⟩:=ih (i + 1) (bs ++ [.cells ((cells x).map .d),.cells ((cells y).map .d)]) 0 (by omega) rfl;refine ⟨bs',?_⟩;simp [zI,hx,hy,sx,sy,px,py,hc,hq,hw,hz0,hz,show ((i:Int) < s.l.length) from by omega];simpa using q
theorem wG {α:Type} {cells:α -> List D} {z:Nat} {zero:List V} {id:FuncId} (hz:∀ x,(cells x).length = z) (hz0:0 < z) (hzero:zero.length = z) {f:FuncId} {p:α -> α -> Bool} (ht:T id = some (eqfQ z zero)) (hv:val id = true) {s t:Sl α} (hs:s.l.length < 2 ^ 62)
 (hf:∀ x ∈ s.l,∀ y ∈ t.l,∀ h,Sm E T val f [ag (cells x),ag (cells y)] h = some (bl (p x y),h)) (h:Hp):Sm E T val id [.d (s.d cells),.d (t.d cells),.fn f []] h = some (bl (all2 p s.l t.l),h):=by
 rw [bf ht hv];have hfr:frz h (.fn f []) = some (.fn f []):=rfl;by_cases hl:s.l.length = t.l.length
 · obtain ⟨bs',k1⟩:=FW (E:=E) (T:=T) (val:=val) hz hz0 hzero hl hs hf s.l.length 0 [] 0 (by omega) rfl;simp [hl] at k1;simp [af,eqfQ,hl,hfr,cO];rw [aH];simp [k1];cases all2 p s.l t.l <;> simp [cO,lv,tY,ni]
 · have hl':¬ ((s.l.length:Int) = t.l.length):=by omega
   rw [uS hl];simp [af,eqfQ,hl',hfr,cO,lv,tY,ni]
end
def Cfg.same (a b:Cfg):Bool:=a.epoch == b.epoch && a.next == b.next && a.hosts == b.hosts && a.ways == b.ways && (all2 Pod.eqB a.pods.l b.pods.l && (all2 Svc.eqB a.services.l b.services.l && (all2 Way.eqB a.bound.l b.bound.l && all2 Pol.same a.policies.l b.policies.l)))
end
section
def Lg (n:Int) (x:Int):Prop:=0 <= n /\ x < 2 ^ n.toNat /\ (1 <= x -> 2 ^ n.toNat <= 2 * x)
theorem KR:((List.range 256).all fun i=>decide ((i:Int) < 2 ^ (lenT i).toNat) && (decide (i = 0) || decide ((2:Int) ^ (lenT i).toNat <= 2 * i))) = true:=by decide +kernel
theorem Bw {x:Int} (h0:0 <= x) (h1:x < 256):Lg (lenT (IntKind.wrap .u8 x).toNat) x:=by
 have hw:IntKind.wrap .u8 x = x:=by simp [IntKind.wrap,IntKind.bits,IntKind.signed]; omega
 rw [hw];have:=List.all_eq_true.1 KR x.toNat (List.mem_range.2 (by omega));simp only [Bool.and_eq_true,Bool.or_eq_true,decide_eq_true_eq] at this;have hx:((x.toNat:Nat):Int) = x:=by omega
 rw [hx] at this;exact ⟨(vD _).1,this.1,fun h=>by rcases this.2 with h2 | h2 <;> omega⟩
theorem rC {n x K:Int} (k:Nat) (hK:K = 2 ^ k) (hK0:0 < K) (hx:K <= x) (h:Lg n (x.fdiv K)):Lg ((k:Int) + n) x:=by
 obtain ⟨h0,h1,h2⟩:=h;have e:((k:Int) + n).toNat = k + n.toNat:=by omega
 rw [Int.fdiv_eq_ediv_of_nonneg _ (by omega)] at h1 h2;have hp:(2:Int) ^ (k + n.toNat) = K * 2 ^ n.toNat:=by rw [Int.pow_add,← hK]
 have hd:=Int.mul_ediv_add_emod x K;have hm:=Int.emod_nonneg x (show K ≠ 0 by omega);have hl:=Int.emod_lt_of_pos x hK0;have hq:1 <= x / K:=by
  have:=(Int.le_ediv_iff_mul_le hK0 (a:=1) (b:=x)).2 (by omega);exact this
 refine ⟨by omega,?_,fun _=>?_⟩
 · rw [e,hp];have:=(Int.ediv_lt_iff_lt_mul hK0).1 h1;rw [Int.mul_comm]; exact this
 · rw [e,hp];have h3:=Int.mul_le_mul_of_nonneg_left (h2 hq) (Int.le_of_lt hK0);have h4:K * (2 * (x / K)) = 2 * (K * (x / K)):=by rw [Int.mul_left_comm]
   omega
theorem Gy {x:Int} (h0:0 <= x) (h1:x < 2 ^ 64):Lg (bT x) x:=by
 have hb:∀ y,0 <= y -> y < 65536 -> Lg ((if y >= 256 then 8 else 0) + lenT (IntKind.wrap .u8 (pU y)).toNat) y:=by
  intro y a b;by_cases c:y >= 256
  · rw [if_pos c,pU,if_pos c];have hd:y.fdiv 256 = y / 256:=Int.fdiv_eq_ediv_of_nonneg _ (by omega);exact rC (K:=256) 8 (by decide) (by omega) c (Bw (by rw [hd]; omega) (by rw [hd]; omega))
  · rw [if_neg c,pU,if_neg c,Int.zero_add];exact Bw a (by omega)
 have ha:∀ y,0 <= y -> y < 4294967296 -> Lg ((if y >= 65536 then 16 else 0) + ((if kH y >= 256 then 8 else 0) + lenT (IntKind.wrap .u8 (pU (kH y))).toNat)) y:=by
  intro y a b;by_cases c:y >= 65536
  · have hB:kH y = y.fdiv 65536:=by rw [kH,if_pos c]
    rw [if_pos c,hB];have hd:y.fdiv 65536 = y / 65536:=Int.fdiv_eq_ediv_of_nonneg _ (by omega);exact rC (K:=65536) 16 (by decide) (by omega) c (hb _ (by rw [hd]; omega) (by rw [hd]; omega))
  · have hB:kH y = y:=by rw [kH,if_neg c]
    rw [if_neg c,hB,Int.zero_add];exact hb _ a (by omega)
 have hz:bT x = (if x >= 4294967296 then 32 else 0) + ((if jY x >= 65536 then 16 else 0) + ((if kH (jY x) >= 256 then 8 else 0) + lenT (IntKind.wrap .u8 (pU (kH (jY x)))).toNat)):=by
  unfold bT; omega
 rw [hz];by_cases c:x >= 4294967296
 · have hA:jY x = x.fdiv 4294967296:=by rw [jY,if_pos c]
   rw [if_pos c,hA];have hd:x.fdiv 4294967296 = x / 4294967296:=Int.fdiv_eq_ediv_of_nonneg _ (by omega);exact rC (K:=4294967296) 32 (by decide) (by omega) c (ha _ (by rw [hd]; omega) (by rw [hd]; omega))
 · have hA:jY x = x:=by rw [jY,if_neg c]
   rw [if_neg c,hA,Int.zero_add];exact ha _ h0 (by omega)
theorem KN (x:Int):dP x = if (bT x + 6) / 7 > 1 then (bT x + 6) / 7 else 1:=by
 have:=oz x;have h2:(bT x + 6).tdiv 7 = (bT x + 6) / 7:=Int.tdiv_eq_ediv_of_nonneg (by omega);unfold dP; rw [h2]
theorem Aa (p:Pol):aS p.own = aS p:=by
 have:(p.rules.l.map Rule.own).all dW = p.rules.l.all dW:=by rw [List.all_map]; rfl
 simp only [aS,Pol.own,List.length_map,this];rfl
theorem Pol.own_same (p:Pol):Pol.same p.own p = true:=by
 have:all2 Rule.same (p.rules.l.map Rule.own) p.rules.l = true:=by
  rw [wJ]; exact cZ Rule.same_refl _
 simp [Pol.same,Pol.own,this]
theorem Cfg.same_refl (a:Cfg):a.same a = true:=by
 simp [Cfg.same,cZ (fun _=>Pod.eqB_iff.2 rfl),cZ (fun _=>Svc.eqB_iff.2 rfl),cZ (fun _=>Way.eqB_iff.2 rfl),cZ Pol.same_refl]
end
section
end
end Go.Proofs.YtjkfknafpgfchaaGreat
