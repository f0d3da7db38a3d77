/- slices.Sort of ints, as a function from outside: what the kit's contract says, said of memory of one's own. -/
import Derived.Test.YtmcchclfpneglaaGreatPy
import Derived.Shelf.Sort.Plain
import Derived.Shelf.Slices.In.SortNone
import Derived.Shelf.SlSortCmp.WholeK
set_option linter.unusedVariables false
set_option linter.unusedSimpArgs false
namespace Go.Proofs.YtmcchclfpneglaaGreat
section
open Go.Sort Go.Shelf Go.RowKit
def fq (zs:List Int):List V:=zs.map fun z=>.d (.int .i64 z)
def asInt:V->Option Int
 | .d (.int .i64 z)=>some z
 | _=>none
theorem CP {v:V}{z:Int}(h:asInt v=some z):v=.d (.int .i64 z):=by
 unfold asInt at h;split at h
 · cases h; rfl
 · cases h
theorem NW {cs:List V}{zs:List Int}(h:cs.mapM asInt=some zs):cs=fq zs:=by
 induction cs generalizing zs with
 | nil=>simp at h; subst h; rfl
 | cons c cs ih =>
  simp only [List.mapM_cons,Option.pure_def,Option.bind_eq_bind,Option.bind_eq_some_iff] at h;obtain ⟨z,h1,zs',h2,h3⟩:=h;cases h3;rw [CP h1,ih h2]; rfl
def dG (zs:List Int):List Int:=zs.mergeSort fun x y=>decide (x<=y)
def pE (args:List V)(h:Hp):Option (V×Hp):=match args with
 | [.d (.slice true [])]=>some (.tup [],h)
 | [.row b 0 n _ 1]=>if n=0 then some (.tup [],h) else match h.get b with
  | some cs=>match cs.mapM asInt with
   | some zs=>if zs.length=n/\n<=2 ^ 30 then some (.tup [],h.set b (fq (dG zs))) else none
   | none=>none
  | none=>none
 | _=>none
theorem GA {args:List V}{h:Hp}{r:V}{h':Hp}(hm:pE args h=some (r,h')):LowOk h h':=by
 unfold pE at hm;split at hm
 · cases hm; exact LowOk.refl _
 · split at hm
   · cases hm; exact LowOk.refl _
   · split at hm
     · split at hm
       · split at hm
         · cases hm; exact LowOk.set _ _ _
         · cases hm
       · cases hm
     · cases hm
 · cases hm
variable {P:Program}{ρr:Ren}
theorem JI (Ly:Lays.n189 P ρr){B:Nat}{ρ:Rh}{h:Hp}{w:World}{args:List V}{vs:Array Value}{r:V}{h':Hp}(hR:Rel B ρ h w)(hv:VRs ρ (St ρ w) w args vs.toList)(hm:pE args h=some (r,h')) :
 Calls P (ρr.f 189) vs w (o8 B ρ h w r h'):=by
 have one:∀ {x:V},args=[x]->∃ u,vs=#[u]/\VR ρ (St ρ w) w x u:=by
  rintro x rfl;simp only [VRs] at hv;obtain ⟨u,us,h1,h2,rfl⟩:=hv;refine ⟨u,?_,h2⟩;have:vs.toList=(#[u]:Array Value).toList:=by simpa using h1
  exact Array.toList_inj.1 this
 have none_:∀ {u:Value} {p:Option Addr} {c:Nat},u=.slice p 0 c->r=.tup []->h'=h->vs=#[u]->Calls P (ρr.f 189) vs w (o8 B ρ h w r h'):=by
  rintro u p c rfl rfl rfl rfl;refine (Any.slices_Sort_int_none Ly p c w).mono ?_;rintro e w' ⟨rfl,rfl⟩;exact ⟨_,ρ,rfl,hR,Goes.refl _ _ _,by simp only [VRx,VR,VRs]; exact ⟨_,rfl,rfl⟩⟩
 unfold pE at hm;split at hm
 · obtain ⟨u,e1,h2⟩:=one rfl;simp only [VR,DR] at h2;obtain ⟨a,c,rfl,_⟩:=h2;cases hm;exact none_ rfl rfl rfl e1
 · rename_i b n cap;obtain ⟨u,e1,h2⟩:=one rfl;simp only [VR] at h2;obtain ⟨hb,c,rfl,hc1,hc2,_⟩:=h2;split at hm
   · rename_i hn;subst hn;cases hm;exact none_ rfl rfl rfl e1
   · rename_i hn;split at hm
     · rename_i cs hg;split at hm
       · rename_i zs hzs;split at hm
         · rename_i hlen;obtain ⟨hlen,hsmall⟩:=hlen;cases hm;have hcs:=NW hzs;subst hcs;subst e1;have hne:fq zs≠[]:=fun hh=>hn (by rw [← hlen]; have:=congrArg List.length hh; simpa [fq] using this);have hll:(fq zs).length=zs.length:=by simp [fq]
           obtain ⟨arr,el,fz,k1,k2,k3,k4⟩:=gT hR hg hne;obtain ⟨hbl,hbe⟩:=nC hg;have hcell:∀ j (hj:j<zs.length) (hj2:j<arr.size),arr[j]=Value.int .i64 zs[j]:=by
            intro j hj hj2;have:=(k4 j (by omega) hj2).1;simpa [fq,VR,DR] using this
           have hH:Holds (Value.int .i64) w (ρ b) 0 zs.toArray:=by
            intro j hj;have hj':j<zs.length:=by simpa using hj
            have hj2:j<arr.size:=by omega
            refine ⟨?_,by simpa using k3 j hj2⟩;have:zs.toArray[j]! = zs[j]:=by rw [getElem!_pos _ j hj]; simp
            rw [this];simp [World.cell?,k1,hj2,hcell j hj' hj2]
           have hlt:=(hR.lo b hb).2;subst hlen;refine (Any.slices_Sort_int Ly (ρ b) 0 c zs w hH hlt (by omega)).mono ?_;rintro e w' ⟨rfl,nn,os,rfl⟩;have hlive:h.bs[b].live=true:=by
            rw [hbe];cases hh:fq zs with
            | nil=>exact absurd hh hne
            | cons _ _=>rfl
           have hsl:(dG zs).length=zs.length:=List.length_mergeSort _
           let w1:=putRow (Value.int .i64) (Sort.ahead w nn) (ρ b) 0 (dG zs).toArray
           have hheap:w1.heap=w.heap.modify (ρ b) (onCells (putCells (Value.int .i64) 0 (dG zs).toArray)):=rfl;have hsz:w1.heap.size=w.heap.size:=by rw [hheap]; simp
           have hoth:∀ k,k≠ρ b->w1.heap[k]?=w.heap[k]?:=fun k hk=>by
            rw [hheap,Array.getElem?_modify,if_neg (Ne.symm hk)]
           have hat:w1.heap[ρ b]?=some (.cells (putCells (Value.int .i64) 0 (dG zs).toArray arr) el fz):=by
            rw [hheap,Array.getElem?_modify,if_pos rfl,k1]; rfl
           have hps:(putCells (Value.int .i64) 0 (dG zs).toArray arr).size=arr.size:=by simp [putCells]
           have hown:∀ arr' e' fz',w.heap[ρ b]?=some (.cells arr' e' fz')->∃ arr'' fz'',w1.heap[ρ b]?=some (.cells arr'' e' fz'')/\arr''.size=arr'.size:=by
            intro arr' e' fz' hh;rw [k1] at hh;cases hh;exact ⟨_,_,hat,hps⟩
           have hbr:BR ρ w1 (ρ b) (.cells (fq (dG zs))):=by
            have hl2:(fq (dG zs)).length=zs.length:=by simp [fq,hsl]
            have hne2:fq (dG zs)≠[]:=fun hh=>by
             rw [hh] at hl2; exact hn hl2.symm
            have core:∃ arr' e' fz',w1.heap[ρ b]?=some (.cells arr' e' fz')/\(fq (dG zs)).length<=arr'.size/\(∀ j,j<arr'.size->w1.frozen? ⟨ρ b,j,none⟩=false) ∧
             ∀ (j:Nat) (h1:j<(fq (dG zs)).length) (h2:j<arr'.size),VR ρ (St ρ w1) w1 (fq (dG zs))[j] arr'[j]/\arr'[j].oneCell'=true:=by
             refine ⟨_,_,_,hat,by rw [hps,hl2,← hll]; exact k2,fun j hj=>?_,fun j h1 h2=>?_⟩
             · have:=k3 j (by rw [← hps]; exact hj);rw [← this];exact frozen?_mapBlock (Sort.ahead w nn) (ρ b) _ _
             · have hj:j<(dG zs).length:=by rw [hsl]; omega
               have hv:(putCells (Value.int .i64) 0 (dG zs).toArray arr)[j]=Value.int .i64 (dG zs)[j]:=by
                simp only [putCells,Array.getElem_mapIdx];rw [if_pos ⟨Nat.zero_le _,by simpa using hj⟩];simp [getElem!_pos,hj]
               rw [hv];exact ⟨by simp [fq,VR,DR],rfl⟩
            revert core hne2
            cases fq (dG zs) with
            | nil=>intro hne2 _; exact absurd rfl hne2
            | cons x xs=>intro _ core; simpa only [BR] using core
           have q1:=rY hR hbl hlive hsz hoth hown rfl rfl rfl (.cells (fq (dG zs))) hbr (min h.low b);have q2:=kL hR (hR.live b hbl hlive) hsz hoth hown rfl rfl rfl;have hbel:Below w1.heap.size w1 (grow w1 os):=⟨rfl,rfl,rfl,by simp [grow],fun k hk=>by simp [grow,Array.getElem?_append_left hk]⟩;obtain ⟨q3,q4⟩:=sJ q1 hbel;exact ⟨_,ρ,rfl,q3,q2.trans q4,by simp only [VRx,VR,VRs]; exact ⟨_,rfl,rfl⟩⟩
         · cases hm
       · cases hm
     · cases hm
 · cases hm
end
section
def FL (p:Nat)(r:List V):Option Int:=match r[p]? with
 | some (.d (.int .u64 n))=>some n
 | _=>none
def nE (p:Nat)(r:List V):Int:=(FL p r).getD 0
theorem FM {p:Nat}{r:List V}{n:Int}(h:FL p r=some n):r[p]?=some (.d (.int .u64 n)):=by
 unfold FL at h;split at h
 · rename_i m hm; cases h; exact hm
 · cases h
def chunk (z n:Nat)(cs:List V):List (List V):=(List.range n).map fun i=>(cs.drop (i * z)).take z
def gZ (p:Nat)(rs:List (List V)):List (List V):=rs.mergeSort fun x y=>decide (nE p x<=nE p y)
structure SF where
 z:Nat
 p:Nat
 g:FuncId
 id:FuncId
def fB (s:SF)(args:List V)(h:Hp):Option (V×Hp):=match args with
 | [.row b 0 n _ z,.fn g [.ptr c 0]]=>match h.get b,h.get c with
  | some cs,some [.fn id []] =>
   if z=s.z/\g=s.g/\id=s.id/\b≠c/\0<n/\n<=2 ^ 40/\n * z<=cs.length/\(∀ r∈chunk z n cs,(FL s.p r).isSome=true)/\((chunk z n cs).map (nE s.p)).Nodup then
    some (.tup [],h.set b ((gZ s.p (chunk z n cs)).flatten++cs.drop (n * z)))
   else none
  | _,_=>none
 | _=>none
theorem mJ {s:SF}{args:List V}{h:Hp}{r:V}{h':Hp}(hm:fB s args h=some (r,h')):LowOk h h':=by
 unfold fB at hm;split at hm
 · split at hm
   · split at hm
     · cases hm; exact LowOk.set _ _ _
     · cases hm
   · cases hm
 · cases hm
end
section
open Go.Sort Go.Shelf Go.RowKit
structure Rec (k p:Nat) where
 vs:List Value
 len:vs.length=k
 one:∀ v∈vs,v.oneCell'=true
 key:Int
 hk:vs[p]?=some (.int .u64 key)
abbrev Rec.inh {k p:Nat} (h:p<k):Inhabited (Rec k p):=⟨⟨List.replicate k (.int .u64 0),by simp,fun v hv=>by rw [(List.mem_replicate.1 hv).2]; rfl,0,by simp [h]⟩⟩
def cfK {k p:Nat}(x y:Rec k p):Int:=if x.key<y.key then -1 else if y.key<x.key then 1 else 0
theorem ED {k p:Nat}(x y:Rec k p):ltOf cfK x y=decide (x.key<y.key):=by
 unfold ltOf cfK;by_cases h1:x.key<y.key
 · simp [h1]
 · by_cases h2:y.key<x.key<;>simp [h1,h2]
theorem Qu {k p:Nat}:SWO (ltOf (cfK (k:=k) (p:=p))) where
 irrefl x:=by rw [ED]; simp
 trans x y z h1 h2:=by rw [ED] at *; simp at *; omega
 ntrans x y z h1 h2:=by rw [ED] at *; simp at *; omega
theorem qM {α:Type}{f:α->Int}:∀ {l:List α},(l.map f).Nodup->∀ a∈l,∀ b∈l,f a=f b->a=b
 | x::l,h,a,ha,b,hb,e=>by
  simp only [cm,List.nodup_cons,b9,not_exists,not_and] at h;rcases List.mem_cons.1 ha with e1 | ha'<;>rcases List.mem_cons.1 hb with e2 | hb'
  · rw [e1,e2]
  · exact absurd (by rw [← e1,e]) (h.1 b hb')
  · exact absurd (by rw [← e2,e]) (h.1 a ha')
  · exact qM h.2 a ha' b hb' e
theorem uB {z:Nat}:∀ {l:List (List V)} {j:Nat},(∀ r∈l,r.length=z)->j<l.length * z->∃ r,l[j / z]?=some r/\l.flatten[j]?=r[j % z]?
 | [],j,_,h=>by simp at h
 | r::l,j,hl,h=>by
  have hr:=hl r (by simp);have hz:0<z:=by
   rcases Nat.eq_zero_or_pos z with hz | hz
   · rw [hz] at h; simp at h
   · exact hz
  rcases ck j z with hj | hj
  · refine ⟨r,by rw [Nat.div_eq_of_lt hj]; rfl,?_⟩;rw [List.flatten_cons,ao (by omega),Nat.mod_eq_of_lt hj]
  · obtain ⟨k,rfl⟩:=Nat.exists_eq_add_of_le hj;rw [cf,Nat.add_mul,Nat.one_mul] at h;obtain ⟨r',e1,e2⟩:=uB (l:=l) (j:=k) (fun x hx=>hl x (List.mem_cons_of_mem _ hx)) (by omega);refine ⟨r',by rw [Nat.add_div_left _ hz]; simpa using e1,?_⟩;rw [List.flatten_cons,bk (by omega),hr,Nat.add_sub_cancel_left,e2,Nat.add_mod_left]
theorem DC {α:Type}{f:α->Int}{l1 l2 l:List α}(hnd:(l.map f).Nodup)(p1:l1.Perm l)(p2:l2.Perm l)(s1:l1.Pairwise fun a b=>f a<=f b)(s2:l2.Pairwise fun a b=>f a<=f b):l1=l2:=by
 refine (p1.trans p2.symm).eq_of_pairwise ?_ s1 s2;intro a b ha hb h1 h2;exact qM hnd a (p1.mem_iff.1 ha) b (p2.mem_iff.1 hb) (by omega)
variable {P:Program}{ρr:Ren}
theorem Ez {B:Nat}{ρ:Rh}{h:Hp}{w:World}(hR:Rel B ρ h w){b:Nat}{cs:List V}(hg:h.get b=some cs)(hne:cs≠[]):∃ hb:b<h.bs.length,h.bs[b].live=true:=by
 obtain ⟨hb,e⟩:=nC hg;refine ⟨hb,?_⟩;rw [e];cases cs with
 | nil=>exact absurd rfl hne
 | cons _ _=>rfl
def qE (P:Program)(s:SF):Prop:=∀ (W:World) (c:Nat) (x y:Rec s.z s.p),W.cell? ⟨c,0,none⟩=some (.func (.func s.id) #[] #[]) →
 Calls P s.g #[.agg x.vs.toArray,.agg y.vs.toArray,.pointer (some ⟨c,0,none⟩)] W fun e w'=>e=.returned (.int .i64 (cfK x y))/\∃ q os,w'=grow (W.drewN q) os
theorem oU (s:SF)(L:SlLaysF0.n6 P ρr)(aE:∀ w,(isAgg (ρr.t 24)).run P w=.ok true w)(zE:∀ w,(Go.sizeOf (ρr.t 24)).run P w=.ok s.z w)(eg:∀ args w,(callFunc s.g args).run P w=.ok (.enter s.g args) w)(hp:s.p<s.z)(hcmp:qE P s)
 {B:Nat} {ρ:Rh} {h:Hp} {w:World} {args:List V} {vs:Array Value} {r:V} {h':Hp} (hR:Rel B ρ h w) (hv:VRs ρ (St ρ w) w args vs.toList) (hm:fB s args h=some (r,h')) :
 Calls P (ρr.f 6) vs w (o8 B ρ h w r h'):=by
 unfold fB at hm;split at hm
 · rename_i b n cap z g c;split at hm
   · rename_i cs id hgb hgc;split at hm
     · rename_i hall;obtain ⟨rfl,rfl,rfl,hbc,hn0,hn,hlen,hkeys,hnd⟩:=hall;cases hm;simp only [VRs] at hv;obtain ⟨u1,us1,e1,hu1,u2,us2,e2,hu2,e3⟩:=hv;subst e3; subst e2;have hvs:vs=#[u1,u2]:=Array.toList_inj.1 (by simpa using e1);subst hvs;simp only [VR,VRs] at hu1 hu2;obtain ⟨hbN,cc,rfl,hc1,hc2,_⟩:=hu1;obtain ⟨vs2,rfl,u3,us3,e4,⟨hcN,rfl⟩,rfl⟩:=hu2;have hvs2:vs2=#[.pointer (some ⟨ρ c,0,none⟩)]:=Array.toList_inj.1 (by simpa using e4);subst hvs2;have hz0:0<s.z:=by omega
       have hnz:0<n * s.z:=Nat.mul_pos hn0 hz0;have hne:cs≠[]:=by rintro rfl; simp at hlen; omega
       obtain ⟨arr,el,fz,k1,k2,k3,k4⟩:=gT hR hgb hne;obtain ⟨arr2,el2,fz2,m1,m2,m3,m4⟩:=gT hR hgc (by simp);obtain ⟨hbl,hlive⟩:=Ez hR hgb hne;obtain ⟨hcl,hclive⟩:=Ez hR hgc (by simp);have hcell:w.cell? ⟨ρ c,0,none⟩=some (.func (.func s.id) #[] #[]):=by
        have h1:0<arr2.size:=cb Nat.zero_lt_one (by simpa using m2);have h2:=(m4 0 (by simp) h1).1;simp only [List.getElem_cons_zero,VR,VRs] at h2;obtain ⟨vs3,e5,e6⟩:=h2;have e7:vs3=#[]:=Array.toList_inj.1 (by simpa using e6);subst e7;simp [World.cell?,m1,h1,e5]
       have hinj:ρ c≠ρ b:=hR.inj c b (Ne.symm hbc) (hR.live c hcl hclive) (hR.live b hbl hlive);have hlt:=(hR.lo b hbN).2;have hltc:=(hR.lo c hcN).2;have hbnd:∀ i,i<n->i * s.z+s.z<=n * s.z:=fun i hi=>by
        have:=Nat.mul_le_mul_right s.z (show i+1<=n from hi)
        rwa [Nat.add_mul,Nat.one_mul] at this
       have hch:∀ i t,i<n->t<s.z->((cs.drop (i * s.z)).take s.z)[t]?=cs[i * s.z+t]?:=fun i t hi ht=>by
        rw [List.getElem?_take_of_lt ht,List.getElem?_drop]
       have har:∀ i t,i<n->t<s.z->∃ v u,cs[i * s.z+t]?=some v/\arr[i * s.z+t]?=some u/\VR ρ (St ρ w) w v u/\u.oneCell'=true:=fun i t hi ht=>by
        have:=hbnd i hi;have h1:i * s.z+t<cs.length:=by omega
        have h2:i * s.z+t<arr.size:=by omega
        exact ⟨cs[i * s.z+t],arr[i * s.z+t],by simp [h1],by simp [h2],k4 _ h1 h2⟩
       have hkey:∀ i,i<n->∃ m,nE s.p ((cs.drop (i * s.z)).take s.z)=m/\arr[i * s.z+s.p]?=some (.int .u64 m):=fun i hi=>by
        have h1:=hkeys ((cs.drop (i * s.z)).take s.z) (by simp only [chunk,b9,List.mem_range]; exact ⟨i,hi,rfl⟩);obtain ⟨m,hm⟩:=Option.isSome_iff_exists.1 h1;have h2:=FM hm;rw [hch i s.p hi hp] at h2;obtain ⟨v,u,a1,a2,a3,_⟩:=har i s.p hi hp;rw [h2] at a1;cases a1;simp only [VR,DR] at a3;subst a3;exact ⟨m,by simp [nE,hm],a2⟩
       let cell:Nat->Value:=fun j=>(arr[j]?).getD (.bool false)
       have hcl':∀ i t,i<n->t<s.z->arr[i * s.z+t]?=some (cell (i * s.z+t)):=fun i t hi ht=>by
        obtain ⟨v,u,a1,a2,a3,a4⟩:=har i t hi ht;simp only [cell,a2,Option.getD_some]
       let rc:Fin n->Rec s.z s.p:=fun i=>⟨(List.range s.z).map fun t=>cell (i.1 * s.z+t),by simp,fun v hv=>by
        simp only [b9,List.mem_range] at hv;obtain ⟨t,ht,rfl⟩:=hv;obtain ⟨v,u,a1,a2,a3,a4⟩:=har i.1 t i.2 ht;simp only [cell,a2,Option.getD_some]; exact a4,
        nE s.p ((cs.drop (i.1 * s.z)).take s.z),by
         obtain ⟨m,q1,q2⟩:=hkey i.1 i.2;simp only [List.getElem?_map,List.getElem?_range hp,Option.map_some,cell,q2,Option.getD_some,q1]⟩
       letI:Inhabited (Rec s.z s.p):=Rec.inh hp
       let prs:List (Rec s.z s.p×List V):=(List.finRange n).map fun i=>(rc i,(cs.drop (i.1 * s.z)).take s.z)
       have hsnd:prs.map (·.2)=chunk s.z n cs:=by
        refine List.ext_getElem (by simp [prs,chunk]) fun i h1 h2=>?_;simp [prs,chunk]
       let d:Array (Rec s.z s.p):=(prs.map (·.1)).toArray
       have hds:d.size=n:=by simp [d,prs]
       have hdi:∀ i (hi:i<n),d[i]! = rc ⟨i,hi⟩:=fun i hi=>by
        rw [getElem!_pos d i (by omega)];simp [d,prs]
       have hprk:∀ x∈prs,x.1.key=nE s.p x.2:=fun x hx=>by
        simp only [prs,b9] at hx;obtain ⟨i,_,rfl⟩:=hx;rfl
       have hkd:(prs.map (·.1)).map (·.key)=(chunk s.z n cs).map (nE s.p):=by
        rw [← hsnd];have e1:(prs.map (·.1)).map (·.key)=prs.map fun x=>x.1.key:=List.map_map;have e2:(prs.map (·.2)).map (nE s.p)=prs.map fun x=>nE s.p x.2:=List.map_map;rw [e1,e2];exact List.map_congr_left hprk
       let enc:Rec s.z s.p->List Value:=fun x=>x.vs
       have hH:HoldsK enc s.z w (ρ b) 0 d:=by
        intro j hj;rw [size_flatK,hds] at hj;have hi:j / s.z<n:=by rw [Nat.div_lt_iff_lt_mul hz0]; exact hj
        have ht:j % s.z<s.z:=Nat.mod_lt _ hz0;have hjj:j / s.z * s.z+j % s.z=j:=by rw [Nat.mul_comm]; exact Nat.div_add_mod j s.z
        have hj2:j<arr.size:=by omega
        refine ⟨?_,by simpa using k3 j hj2⟩;rw [get_flatK _ _ _ _ (by rw [hds]; exact hj),hdi _ hi];have h1:=hcl' _ _ hi ht;rw [hjj] at h1;have h2:(enc (rc ⟨j / s.z,hi⟩))[j % s.z]! = cell j:=by
         simp only [enc,rc];rw [getElem!_pos _ _ (by simpa using ht)];simp [hjj]
        rw [h2];simp only [World.cell?,k1,Nat.zero_add,id_eq];simpa using h1
       have hcm:CmpLays P s.g #[.pointer (some ⟨ρ c,0,none⟩)] enc s.z cfK (ρ b) 0 d.size w:=by
        intro m os dk hdk x y;refine hcmp _ (ρ c) x y ?_;have hh:(sortWorldK enc s.z w (ρ b) 0 m dk os).heap[ρ c]?=w.heap[ρ c]?:=by
         show ((w.heap.modify (ρ b) _)++os)[ρ c]?=_;rw [Array.getElem?_append_left (by simpa using hltc),Array.getElem?_modify,if_neg (Ne.symm hinj)]
        rw [← hcell];simp only [World.cell?,hh]
       have hct:=AnyQ.slices_SortFunc L s.z aE zE enc (fun x=>x.len) (fun x=>x.one) cfK Qu s.g #[.pointer (some ⟨ρ c,0,none⟩)] (ρ b) 0 cc d w eg hcm hH hlt (by rw [hds]; omega);rw [hds] at hct;refine hct.mono ?_;rintro e w' ⟨rfl,d',nn,os,hP,hS,rfl⟩;have hd's:d'.size=n:=by rw [hP.1,hds]
       have hperm:d'.toList.Perm (prs.map (·.1)):=by
        have:=hP.2.2;have x1:d'.extract 0 n=d':=by rw [← hd's]; exact Array.extract_size
        have x2:d.extract 0 n=d:=by rw [← hds]; exact Array.extract_size
        rw [x1,x2] at this;exact this
       have hsrt:d'.toList.Pairwise fun a b=>a.key<=b.key:=by
        rw [List.pairwise_iff_getElem];intro i j hi hj hij;have hi':i<d'.size:=by simpa using hi
        have hj':j<d'.size:=by simpa using hj
        have:=hS i j (Nat.zero_le _) hij (by omega);rw [ED,getElem!_pos d' i hi',getElem!_pos d' j hj'] at this;simp only [decide_eq_false_iff_not] at this;simp only [Array.getElem_toList];omega
       let prs':=prs.mergeSort fun x y=>decide (nE s.p x.2<=nE s.p y.2)
       have hp1:prs'.map (·.2)=gZ s.p (chunk s.z n cs):=by
        rw [gZ,← hsnd];exact List.map_mergeSort fun _ _ _ _=>rfl
       have hpp:prs'.Perm prs:=List.mergeSort_perm _ _;have hp2:d'.toList=prs'.map (·.1):=by
        refine DC (f:=(·.key)) (l:=prs.map (·.1)) (by rw [hkd]; exact hnd) hperm (hpp.map _) hsrt ?_;rw [List.pairwise_map];have hs:=List.pairwise_mergeSort (le:=fun (x y:Rec s.z s.p×List V)=>decide (nE s.p x.2<=nE s.p y.2)) (by intro a b c h1 h2; simp at *; omega) (by intro a b; simp; omega) prs;refine List.Pairwise.imp_of_mem ?_ hs;intro a b ha hb hab;rw [hprk a (hpp.mem_iff.1 ha),hprk b (hpp.mem_iff.1 hb)];simpa using hab
       have hplen:prs'.length=n:=by simp [prs',prs]
       have hat':∀ i (hi:i<n),∃ i0,∃ hi0:i0<n,d'[i]! = rc ⟨i0,hi0⟩/\(gZ s.p (chunk s.z n cs))[i]?=some ((cs.drop (i0 * s.z)).take s.z):=fun i hi=>by
        have hmem:prs'[i]'(by omega)∈prs:=hpp.mem_iff.1 (bh _);obtain ⟨i0,_,he⟩:=b9.1 hmem;refine ⟨i0.1,i0.2,?_,?_⟩
        · have h1:d'.toList[i]?=some (rc i0):=by
           rw [hp2,List.getElem?_map,ac (by omega),← he]; rfl
          rw [getElem!_pos d' i (by omega)];rw [ac (by simpa using (show i<d'.size by omega))] at h1;simpa using h1
        · rw [← hp1,List.getElem?_map,ac (by omega),← he]; rfl
       let w1:=putRowK enc s.z (Sort.ahead w nn) (ρ b) 0 d'
       have hheap:w1.heap=w.heap.modify (ρ b) (onCells (putCells id 0 (flatK enc s.z d'))):=rfl;have hsz:w1.heap.size=w.heap.size:=by rw [hheap]; simp
       have hoth:∀ k,k≠ρ b->w1.heap[k]?=w.heap[k]?:=fun k hk=>by
        rw [hheap,Array.getElem?_modify,if_neg (Ne.symm hk)]
       have hat:w1.heap[ρ b]?=some (.cells (putCells id 0 (flatK enc s.z d') arr) el fz):=by
        rw [hheap,Array.getElem?_modify,if_pos rfl,k1]; rfl
       have hps:(putCells id 0 (flatK enc s.z d') arr).size=arr.size:=by simp [putCells]
       have hown:∀ arr' e' fz',w.heap[ρ b]?=some (.cells arr' e' fz')->∃ arr'' fz'',w1.heap[ρ b]?=some (.cells arr'' e' fz'')/\arr''.size=arr'.size:=by
        intro arr' e' fz' hh;rw [k1] at hh;cases hh;exact ⟨_,_,hat,hps⟩
       have q2:=kL hR (hR.live b hbl hlive) hsz hoth hown rfl rfl rfl;have hrl:∀ r∈gZ s.p (chunk s.z n cs),r.length=s.z:=by
        intro r hr;have:=(List.mergeSort_perm _ _).mem_iff.1 hr;simp only [chunk,b9,List.mem_range] at this;obtain ⟨i,hi,rfl⟩:=this;have:=hbnd i hi;rw [List.length_take,List.length_drop]; omega
       have hsl:(gZ s.p (chunk s.z n cs)).length=n:=by simp [gZ,chunk]
       have hfl:((gZ s.p (chunk s.z n cs)).flatten).length=n * s.z:=by
        rw [List.length_flatten];have:(gZ s.p (chunk s.z n cs)).map List.length=List.replicate n s.z:=by
         rw [List.eq_replicate_iff];refine ⟨by simp [hsl],fun x hx=>?_⟩;obtain ⟨r,hr,rfl⟩:=b9.1 hx;exact hrl r hr
        rw [this]; simp
       have hnew:((gZ s.p (chunk s.z n cs)).flatten++cs.drop (n * s.z)).length=cs.length:=by
        rw [ap,hfl,List.length_drop]; omega
       have hbr:BR ρ w1 (ρ b) (.cells ((gZ s.p (chunk s.z n cs)).flatten++cs.drop (n * s.z))):=by
        have hne2:(gZ s.p (chunk s.z n cs)).flatten++cs.drop (n * s.z)≠[]:=fun hh=>by
         rw [hh] at hnew; simp at hnew; exact hne (List.eq_nil_of_length_eq_zero hnew.symm)
        have core:∃ arr' e' fz',w1.heap[ρ b]?=some (.cells arr' e' fz')/\((gZ s.p (chunk s.z n cs)).flatten++cs.drop (n * s.z)).length<=arr'.size/\(∀ j,j<arr'.size->w1.frozen? ⟨ρ b,j,none⟩=false) ∧
         ∀ (j:Nat) (h1:j<((gZ s.p (chunk s.z n cs)).flatten++cs.drop (n * s.z)).length) (h2:j<arr'.size),VR ρ (St ρ w1) w1 ((gZ s.p (chunk s.z n cs)).flatten++cs.drop (n * s.z))[j] arr'[j]/\arr'[j].oneCell'=true:=by
         refine ⟨_,_,_,hat,by rw [hps,hnew]; exact k2,fun j hj=>?_,fun j h1 h2=>?_⟩
         · have:=k3 j (by rw [← hps]; exact hj);rw [← this];exact frozen?_mapBlock (Sort.ahead w nn) (ρ b) _ _
         · have hja:j<arr.size:=by rw [← hps]; exact h2
           have hjc:j<cs.length:=by rw [← hnew]; exact h1
           rcases ck j (n * s.z) with hj | hj
           · have hi:j / s.z<n:=by rw [Nat.div_lt_iff_lt_mul hz0]; exact hj
             have ht:j % s.z<s.z:=Nat.mod_lt _ hz0;obtain ⟨i0,hi0,a1,a2⟩:=hat' _ hi;obtain ⟨r,b1,b2⟩:=uB (j:=j) hrl (by rw [hsl]; exact hj);rw [a2] at b1;cases b1;rw [hch i0 _ hi0 ht] at b2;obtain ⟨v,u,c1,c2,c3,c4⟩:=har i0 _ hi0 ht;have hV:((gZ s.p (chunk s.z n cs)).flatten++cs.drop (n * s.z))[j]=v:=by
              rw [List.getElem_append_left (by rw [hfl]; exact hj)];have:=b2.trans c1;rw [ac (by rw [hfl]; exact hj)] at this;simpa using this
             have hU:(putCells id 0 (flatK enc s.z d') arr)[j]=u:=by
              simp only [putCells,Array.getElem_mapIdx];rw [if_pos ⟨Nat.zero_le _,by rw [size_flatK,hd's]; omega⟩,Nat.sub_zero,get_flatK _ _ _ _ (by rw [hd's]; exact hj),a1];simp only [enc,rc,id_eq];rw [getElem!_pos _ _ (by simpa using ht)];simp [cell,c2]
             rw [hV,hU];exact ⟨c3.ext q2.ext,c4⟩
           · have hV:((gZ s.p (chunk s.z n cs)).flatten++cs.drop (n * s.z))[j]=cs[j]:=by
              rw [List.getElem_append_right (by rw [hfl]; exact hj)];simp only [List.getElem_drop,hfl]
              congr 1
              omega
             have hU:(putCells id 0 (flatK enc s.z d') arr)[j]=arr[j]:=by
              simp only [putCells,Array.getElem_mapIdx];rw [if_neg (by rw [size_flatK,hd's]; omega)]
             rw [hV,hU];exact ⟨(k4 j hjc hja).1.ext q2.ext,(k4 j hjc hja).2⟩
        revert core hne2
        cases (gZ s.p (chunk s.z n cs)).flatten++cs.drop (n * s.z) with
        | nil=>intro hne2 _; exact absurd rfl hne2
        | cons x xs=>intro _ core; simpa only [BR] using core
       have q1:=rY hR hbl hlive hsz hoth hown rfl rfl rfl (.cells ((gZ s.p (chunk s.z n cs)).flatten++cs.drop (n * s.z))) hbr (min h.low b);have hbel:Below w1.heap.size w1 (grow w1 os):=⟨rfl,rfl,rfl,by simp [grow],fun k hk=>by simp [grow,Array.getElem?_append_left hk]⟩;obtain ⟨q3,q4⟩:=sJ q1 hbel;exact ⟨_,ρ,rfl,q3,q2.trans q4,by simp only [VRx,VR,VRs]; exact ⟨_,rfl,rfl⟩⟩
     · cases hm
   · cases hm
 · cases hm
end
