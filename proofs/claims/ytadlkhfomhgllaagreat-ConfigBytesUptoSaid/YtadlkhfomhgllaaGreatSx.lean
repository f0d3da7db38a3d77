/- slices.Sort of ints, as a function from outside: what the kit's contract says, said of memory of one's own. -/
import Derived.Test.YtadlkhfomhgllaaGreatPy
import Derived.Shelf.Sort.Plain
import Derived.Shelf.Slices.In.SortNone
set_option linter.unusedVariables false
set_option linter.unusedSimpArgs false
namespace Go.Proofs.YtadlkhfomhgllaaGreat
section
open Go.Sort Go.Shelf Go.RowKit
def fe (zs:List Int):List V:=zs.map λz=>.d (.int .i64 z)
def asInt:V->Option Int
 | .d (.int .i64 z)=>some z
 | _=>none
theorem CV {v:V}{z:Int}(h:asInt v=some z):v=.d (.int .i64 z):=by
 unfold asInt at h;split at h
 . cases h; rfl
 . cases h
theorem Qw {cs:List V}{zs:List Int}(h:cs.mapM asInt=some zs):cs=fe zs:=by
 induction cs generalizing zs with
 | nil=>simp at h; subst h; rfl
 | cons c cs ih =>
  simp only [List.mapM_cons,Option.pure_def,Option.bind_eq_bind,Option.bind_eq_some_iff] at h;obtain ⟨z,h1,zs',h2,h3⟩:=h;cases h3;rw [CV h1,ih h2]; rfl
def dH (zs:List Int):List Int:=zs.mergeSort λx y=>decide (x<=y)
def qd (args:List V)(h:Hp):Option (V×Hp):=match args with
 | [.d (.slice true [])]=>some (.tup [],h)
 | [.row b 0 n _ 1]=>if n=0 then some (.tup [],h) else match h.get b with
  | some cs=>match cs.mapM asInt with
   | some zs=>if zs.length=n/\n<=2 ^ 30 then some (.tup [],h.set b (fe (dH zs))) else none
   | none=>none
  | none=>none
 | _=>none
theorem Hy {args:List V}{h:Hp}{r:V}{h':Hp}(hm:qd args h=some (r,h')):LowOk h h':=by
 unfold qd at hm;split at hm
 . cases hm; exact LowOk.refl _
 . split at hm
   . cases hm; exact LowOk.refl _
   . split at hm
     . split at hm
       . split at hm
         . cases hm; exact LowOk.set _ _ _
         . cases hm
       . cases hm
     . cases hm
 . cases hm
variable {P:Program}{ρr:Ren}
theorem Kw (Ly:Lays.n189 P ρr){B:Nat}{ρ:Rh}{h:Hp}{w:World}{args:List V}{vs:Array Value}{r:V}{h':Hp}(hR:Rel B ρ h w)(hv:VRs ρ (St ρ w) w args vs.toList)(hm:qd args h=some (r,h')) :
 Calls P (ρr.f 189) vs w (qV B ρ h w r h'):=by
 have one:∀ {x:V},args=[x]->∃ u,vs=#[u]/\VR ρ (St ρ w) w x u:=by
  rintro x rfl;simp only [VRs] at hv;obtain ⟨u,us,h1,h2,rfl⟩:=hv;refine ⟨u,?_,h2⟩;have:vs.toList=(#[u]:Array Value).toList:=by simpa using h1
  exact Array.toList_inj.1 this
 have none_:∀ {u:Value} {p:Option Addr} {c:Nat},u=.slice p 0 c->r=.tup []->h'=h->vs=#[u]->Calls P (ρr.f 189) vs w (qV B ρ h w r h'):=by
  rintro u p c rfl rfl rfl rfl;refine (Any.slices_Sort_int_none Ly p c w).mono ?_;rintro e w' ⟨rfl,rfl⟩;exact ⟨_,ρ,rfl,hR,Goes.refl _ _ _,by simp only [VRx,VR,VRs]; exact ⟨_,rfl,rfl⟩⟩
 unfold qd at hm;split at hm
 . obtain ⟨u,e1,h2⟩:=one rfl;simp only [VR,DR] at h2;obtain ⟨a,c,rfl,_⟩:=h2;cases hm;exact none_ rfl rfl rfl e1
 . rename_i b n cap;obtain ⟨u,e1,h2⟩:=one rfl;simp only [VR] at h2;obtain ⟨hb,c,rfl,hc1,hc2,_⟩:=h2;split at hm
   . rename_i hn;subst hn;cases hm;exact none_ rfl rfl rfl e1
   . rename_i hn;split at hm
     . rename_i cs hg;split at hm
       . rename_i zs hzs;split at hm
         . rename_i hlen;obtain ⟨hlen,hsmall⟩:=hlen;cases hm;have hcs:=Qw hzs;subst hcs;subst e1;have hne:fe zs≠[]:=λhh=>hn (by rw [← hlen]; have:=congrArg List.length hh; simpa [fe] using this);have hll:(fe zs).length=zs.length:=by simp [fe]
           obtain ⟨arr,el,fz,k1,k2,k3,k4⟩:=jK hR hg hne;obtain ⟨hbl,hbe⟩:=rz hg;have hcell:∀ j (hj:j<zs.length) (hj2:j<arr.size),arr[j]=Value.int .i64 zs[j]:=by
            intro j hj hj2;have:=(k4 j (by omega) hj2).1;simpa [fe,VR,DR] using this
           have hH:Holds (Value.int .i64) w (ρ b) 0 zs.toArray:=by
            intro j hj;have hj':j<zs.length:=by simpa using hj
            have hj2:j<arr.size:=by omega
            refine ⟨?_,by simpa using k3 j hj2⟩;have:zs.toArray[j]! = zs[j]:=by rw [getElem!_pos _ j hj]; simp
            rw [this];simp [World.cell?,k1,hj2,hcell j hj' hj2]
           have hlt:=(hR.lo b hb).2;subst hlen;refine (Any.slices_Sort_int Ly (ρ b) 0 c zs w hH hlt (by omega)).mono ?_;rintro e w' ⟨rfl,nn,os,rfl⟩;have hlive:h.bs[b].live=true:=by
            rw [hbe];cases hh:fe zs with
            | nil=>exact absurd hh hne
            | cons _ _=>rfl
           have hsl:(dH zs).length=zs.length:=List.length_mergeSort _
           let w1:=putRow (Value.int .i64) (Sort.ahead w nn) (ρ b) 0 (dH zs).toArray
           have hheap:w1.heap=w.heap.modify (ρ b) (onCells (putCells (Value.int .i64) 0 (dH zs).toArray)):=rfl;have hsz:w1.heap.size=w.heap.size:=by rw [hheap]; simp
           have hoth:∀ k,k≠ρ b->w1.heap[k]?=w.heap[k]?:=λk hk=>by
            rw [hheap,Array.getElem?_modify,if_neg (Ne.symm hk)]
           have hat:w1.heap[ρ b]?=some (.cells (putCells (Value.int .i64) 0 (dH zs).toArray arr) el fz):=by
            rw [hheap,Array.getElem?_modify,if_pos rfl,k1]; rfl
           have hps:(putCells (Value.int .i64) 0 (dH zs).toArray arr).size=arr.size:=by simp [putCells]
           have hown:∀ arr' e' fz',w.heap[ρ b]?=some (.cells arr' e' fz')->∃ arr'' fz'',w1.heap[ρ b]?=some (.cells arr'' e' fz'')/\arr''.size=arr'.size:=by
            intro arr' e' fz' hh;rw [k1] at hh;cases hh;exact ⟨_,_,hat,hps⟩
           have hbr:BR ρ w1 (ρ b) (.cells (fe (dH zs))):=by
            have hl2:(fe (dH zs)).length=zs.length:=by simp [fe,hsl]
            have hne2:fe (dH zs)≠[]:=λhh=>by
             rw [hh] at hl2; exact hn hl2.symm
            have core:∃ arr' e' fz',w1.heap[ρ b]?=some (.cells arr' e' fz')/\(fe (dH zs)).length<=arr'.size/\(∀ j,j<arr'.size->w1.frozen? ⟨ρ b,j,none⟩=false) ∧
             ∀ (j:Nat) (h1:j<(fe (dH zs)).length) (h2:j<arr'.size),VR ρ (St ρ w1) w1 (fe (dH zs))[j] arr'[j]/\arr'[j].oneCell'=true:=by
             refine ⟨_,_,_,hat,by rw [hps,hl2,← hll]; exact k2,λj hj=>?_,λj h1 h2=>?_⟩
             . have:=k3 j (by rw [← hps]; exact hj);rw [← this];exact frozen?_mapBlock (Sort.ahead w nn) (ρ b) _ _
             . have hj:j<(dH zs).length:=by rw [hsl]; omega
               have hv:(putCells (Value.int .i64) 0 (dH zs).toArray arr)[j]=Value.int .i64 (dH zs)[j]:=by
                simp only [putCells,Array.getElem_mapIdx];rw [if_pos ⟨Nat.zero_le _,by simpa using hj⟩];simp [getElem!_pos,hj]
               rw [hv];exact ⟨by simp [fe,VR,DR],rfl⟩
            revert core hne2
            cases fe (dH zs) with
            | nil=>intro hne2 _; exact absurd rfl hne2
            | cons x xs=>intro _ core; simpa only [BR] using core
           have q1:=vO hR hbl hlive hsz hoth hown rfl rfl rfl (.cells (fe (dH zs))) hbr (min h.low b);have q2:=mq hR (hR.live b hbl hlive) hsz hoth hown rfl rfl rfl;have hbel:Below w1.heap.size w1 (grow w1 os):=⟨rfl,rfl,rfl,by simp [grow],λk hk=>by simp [grow,Array.getElem?_append_left hk]⟩;obtain ⟨q3,q4⟩:=yu q1 hbel;exact ⟨_,ρ,rfl,q3,q2.trans q4,by simp only [VRx,VR,VRs]; exact ⟨_,rfl,rfl⟩⟩
         . cases hm
       . cases hm
     . cases hm
 . cases hm
end
section
end
