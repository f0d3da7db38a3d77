/- What it means that values of a world are such as the pure reading says; what keeps that. -/
import Derived.Test.YtjkfknafpgfchaaGreatPc
import Derived.WalkKit
import Derived.Below
import Derived.ArgAppend
set_option linter.unusedVariables false
namespace Go.Proofs.YtjkfknafpgfchaaGreat
open Go.RowKit
abbrev cellAt (w:World) (b o:Nat):Option Value:=w.cell? ⟨b,o,none⟩
mutual
def DR (S:Nat -> Prop) (w:World):D -> Value -> Prop
 | .bool b,v=>v = .bool b
 | .int k n,v=>v = .int k n
 | .str s,v=>v = .string s
 | .nilp,v=>v = .pointer none
 | .nilf,v=>v = .nilFunc
 | .nili,v=>v = .nilIface
 | .nilc,v=>v = .chan none
 | .slice nl es,v=>∃ a c,v = .slice a es.length c /\ es.length <= c /\ c <= maxLen /\ (a = none ↔ nl = true) /\ (a = none -> c = 0) ∧
  (es ≠ [] -> ∃ b o z,a = some ⟨b,o,none⟩ /\ S b /\ DRss S w b o z es)
def DRs (S:Nat -> Prop) (w:World) (b o:Nat):List D -> Prop
 | []=>True
 | d :: ds=>(∃ u,cellAt w b o = some u /\ DR S w d u) /\ DRs S w b (o + 1) ds
def DRss (S:Nat -> Prop) (w:World) (b o z:Nat):List (List D) -> Prop
 | []=>True
 | e :: es=>e.length = z /\ DRs S w b o e /\ DRss S w b (o + z) z es
end
theorem DR.one {S:Nat -> Prop} {w:World} {d:D} {v:Value} (h:DR S w d v):v.oneCell' = true:=by
 cases d <;> simp only [DR] at h <;> first | (subst h; rfl) | (obtain ⟨a,c,rfl,_⟩:=h; rfl)
mutual
theorem DR.mono {S T:Nat -> Prop} {w w':World} (hS:∀ b,S b -> T b) (ha:∀ b,S b -> w'.heap[b]? = w.heap[b]?):∀ {d:D} {v:Value},DR S w d v -> DR T w' d v
 | .bool _,_,h | .int _ _,_,h | .str _,_,h | .nilp,_,h | .nilf,_,h | .nili,_,h | .nilc,_,h=>by simpa only [DR] using h
 | .slice nl es,v,h=>by
  simp only [DR] at h ⊢;obtain ⟨a,c,e,h1,h2,h3,h4,h5⟩:=h;refine ⟨a,c,e,h1,h2,h3,h4,fun hne=>?_⟩;obtain ⟨b,o,z,e1,hb,hd⟩:=h5 hne;exact ⟨b,o,z,e1,hS b hb,DRss.mono hS ha hb hd⟩
theorem DRs.mono {S T:Nat -> Prop} {w w':World} (hS:∀ b,S b -> T b) (ha:∀ b,S b -> w'.heap[b]? = w.heap[b]?) {b:Nat} (hb:S b):∀ {o:Nat} {ds:List D},DRs S w b o ds -> DRs T w' b o ds
 | _,[],_=>by simp only [DRs]
 | o,d :: ds,h=>by
  simp only [DRs] at h ⊢;obtain ⟨⟨u,hu,hd⟩,hr⟩:=h;refine ⟨⟨u,?_,DR.mono hS ha hd⟩,DRs.mono hS ha hb hr⟩;rw [← hu];simp [cellAt,World.cell?,ha b hb]
theorem DRss.mono {S T:Nat -> Prop} {w w':World} (hS:∀ b,S b -> T b) (ha:∀ b,S b -> w'.heap[b]? = w.heap[b]?) {b:Nat} (hb:S b):∀ {o z:Nat} {es:List (List D)},DRss S w b o z es -> DRss T w' b o z es
 | _,_,[],_=>by simp only [DRss]
 | o,z,e :: es,h=>by
  simp only [DRss] at h ⊢;obtain ⟨h1,h2,h3⟩:=h;exact ⟨h1,DRs.mono hS ha hb h2,DRss.mono hS ha hb h3⟩
end
theorem DRs.get {S:Nat -> Prop} {w:World} {b:Nat}:∀ {ds:List D} {o:Nat},DRs S w b o ds -> ∀ (i:Nat) (hi:i < ds.length),∃ u,cellAt w b (o + i) = some u /\ DR S w ds[i] u
 | d :: ds,o,h,0,_=>by simp only [DRs] at h; simpa using h.1
 | d :: ds,o,h,i + 1,hi=>by
  simp only [DRs] at h;have:=DRs.get h.2 i (by simpa using hi);simpa [Nat.add_assoc,Nat.add_comm 1 i] using this
theorem DRs.of_get {S:Nat -> Prop} {w:World} {b:Nat}:∀ {ds:List D} {o:Nat},(∀ (i:Nat) (hi:i < ds.length),∃ u,cellAt w b (o + i) = some u /\ DR S w ds[i] u) -> DRs S w b o ds
 | [],_,_=>by simp only [DRs]
 | d :: ds,o,h=>by
  simp only [DRs];refine ⟨h 0 (Nat.zero_lt_succ _),DRs.of_get fun i hi=>?_⟩;have:=h (i + 1) (by simpa using hi);simpa [Nat.add_assoc,Nat.add_comm 1 i] using this
theorem DRss.get {S:Nat -> Prop} {w:World} {b z:Nat}:∀ {es:List (List D)} {o:Nat},DRss S w b o z es -> ∀ (i:Nat) (hi:i < es.length),es[i].length = z /\ DRs S w b (o + i * z) es[i]
 | d :: ds,o,h,0,_=>by simp only [DRss] at h; simpa using ⟨h.1,h.2.1⟩
 | d :: ds,o,h,i + 1,hi=>by
  simp only [DRss] at h;have:=DRss.get h.2.2 i (by simpa using hi);simpa [Nat.add_mul,Nat.add_assoc,Nat.add_comm,Nat.add_left_comm] using this
theorem DRss.of_get {S:Nat -> Prop} {w:World} {b z:Nat}:∀ {es:List (List D)} {o:Nat},(∀ (i:Nat) (hi:i < es.length),es[i].length = z /\ DRs S w b (o + i * z) es[i]) -> DRss S w b o z es
 | [],_,_=>by simp only [DRss]
 | d :: ds,o,h=>by
  simp only [DRss];have h0:=h 0 (by simp);simp at h0;refine ⟨h0.1,h0.2,DRss.of_get fun i hi=>?_⟩;have:=h (i + 1) (by simpa using hi);simpa [Nat.add_mul,Nat.add_assoc,Nat.add_comm,Nat.add_left_comm] using this
structure Rh where
 f:Nat -> Nat
 X:Nat -> Prop
 N:Nat -> Prop
 L:Nat -> Prop
 G:Nat -> Prop
instance : CoeFun Rh fun _=>Nat -> Nat:=⟨Rh.f⟩
mutual
def VR (ρ:Rh) (S:Nat -> Prop) (w:World):V -> Value -> Prop
 | .d x,v=>DR S w x v
 | .ptr b o,v=>ρ.N b /\ v = .pointer (some ⟨ρ b,o,none⟩)
 | .eptr cs o,v=>∃ b base,v = .pointer (some ⟨b,base + o,none⟩) /\ S b /\ DRs S w b base cs
 | .row b o len cap z,v=>ρ.N b /\ ∃ c,v = .slice (some ⟨ρ b,o,none⟩) len c /\ len <= c /\ c <= maxLen /\ (∀ k,cap = some k -> c = k) ∧
  ∃ arr e fz,w.heap[ρ b]? = some (.cells arr e fz) /\ o + c * z <= arr.size /\ (cap = none -> o + c * z = arr.size)
 | .fn f cs,v=>∃ vs:Array Value,v = .func (.func f) #[] vs /\ VRs ρ S w cs vs.toList
 | .mfn f cs,v=>∃ vs:Array Value,v = .func (.func f) vs #[] /\ VRs ρ S w cs vs.toList
 | .agg cs,v=>∃ vs:Array Value,v = .agg vs /\ VRs ρ S w cs vs.toList /\ ∀ u ∈ vs.toList,u.oneCell' = true
 | .tup cs,v=>∃ vs:Array Value,v = .tuple vs /\ VRs ρ S w cs vs.toList
 | .undef,_=>True
def VRs (ρ:Rh) (S:Nat -> Prop) (w:World):List V -> List Value -> Prop
 | [],l=>l = []
 | c :: cs,l=>∃ u us,l = u :: us /\ VR ρ S w c u /\ VRs ρ S w cs us
end
structure Ext (ρ:Rh) (S:Nat -> Prop) (w:World) (ρ':Rh) (S':Nat -> Prop) (w':World):Prop where
 le:∀ i,ρ.N i -> ρ'.N i
 rho:∀ i,ρ.N i -> ρ' i = ρ i
 st:∀ b,S b -> S' b
 same:∀ b,S b -> w'.heap[b]? = w.heap[b]?
 own:∀ i,ρ.N i -> ∀ arr e fz,w.heap[ρ i]? = some (.cells arr e fz) -> ∃ arr' fz',w'.heap[ρ i]? = some (.cells arr' e fz') /\ arr'.size = arr.size
 x:ρ'.X = ρ.X
 xs:∀ b,ρ.X b -> w'.heap[b]? = w.heap[b]?
 g:ρ'.G = ρ.G
theorem Ext.refl (ρ:Rh) (S:Nat -> Prop) (w:World):Ext ρ S w ρ S w:=⟨fun _ h=>h,fun _ _=>rfl,fun _ h=>h,fun _ _=>rfl,fun _ _ arr e fz h=>⟨arr,fz,h,rfl⟩,rfl,fun _ _=>rfl,rfl⟩
theorem Ext.trans {ρ ρ' ρ'':Rh} {S S' S'':Nat -> Prop} {w w' w'':World} (h:Ext ρ S w ρ' S' w') (k:Ext ρ' S' w' ρ'' S'' w''):Ext ρ S w ρ'' S'' w'' where
 le i hi:=k.le i (h.le i hi)
 rho i hi:=(k.rho i (h.le i hi)).trans (h.rho i hi)
 st b hb:=k.st b (h.st b hb)
 same b hb:=(k.same b (h.st b hb)).trans (h.same b hb)
 own i hi arr e fz ha:=by
  obtain ⟨arr',fz',h1,h2⟩:=h.own i hi arr e fz ha;have:=k.own i (h.le i hi) arr' e fz' (by rw [h.rho i hi]; exact h1);rw [h.rho i hi] at this;obtain ⟨arr'',fz'',h3,h4⟩:=this;exact ⟨arr'',fz'',h3,h4.trans h2⟩
 x:=k.x.trans h.x
 xs b hb:=(k.xs b (by rw [h.x]; exact hb)).trans (h.xs b hb)
 g:=k.g.trans h.g
section
variable {ρ ρ':Rh} {S S':Nat -> Prop} {w w':World}
mutual
theorem VR.ext (h:Ext ρ S w ρ' S' w'):∀ {x:V} {v:Value},VR ρ S w x v -> VR ρ' S' w' x v
 | .d x,v,k=>by simp only [VR] at k ⊢; exact DR.mono h.st h.same k
 | .ptr b o,v,k=>by simp only [VR] at k ⊢; exact ⟨h.le _ k.1,by rw [h.rho b k.1]; exact k.2⟩
 | .eptr cs o,v,k=>by
  simp only [VR] at k ⊢;obtain ⟨b,base,e,hb,hd⟩:=k;exact ⟨b,base,e,h.st b hb,DRs.mono h.st h.same hb hd⟩
 | .row b o len cap z,v,k=>by
  simp only [VR] at k ⊢;obtain ⟨hb,c,e,h1,h2,h3,arr,el,fz,h4,h5⟩:=k;obtain ⟨arr',fz',h6,h7⟩:=h.own b hb arr el fz h4;exact ⟨h.le _ hb,c,by rw [h.rho b hb]; exact e,h1,h2,h3,arr',el,fz',by rw [h.rho b hb]; exact h6,by rw [h7]; exact h5⟩
 | .fn f cs,v,k=>by
  simp only [VR] at k ⊢;obtain ⟨vs,e,hv⟩:=k;exact ⟨vs,e,VRs.ext h hv⟩
 | .mfn f cs,v,k=>by
  simp only [VR] at k ⊢;obtain ⟨vs,e,hv⟩:=k;exact ⟨vs,e,VRs.ext h hv⟩
 | .agg cs,v,k=>by
  simp only [VR] at k ⊢;obtain ⟨vs,e,hv,h1⟩:=k;exact ⟨vs,e,VRs.ext h hv,h1⟩
 | .tup cs,v,k=>by
  simp only [VR] at k ⊢;obtain ⟨vs,e,hv⟩:=k;exact ⟨vs,e,VRs.ext h hv⟩
 | .undef,v,_=>by simp only [VR]
theorem VRs.ext (h:Ext ρ S w ρ' S' w'):∀ {xs:List V} {vs:List Value},VRs ρ S w xs vs -> VRs ρ' S' w' xs vs
 | [],_,k=>by simp only [VRs] at k ⊢; exact k
 | x :: xs,_,k=>by
  simp only [VRs] at k ⊢;obtain ⟨u,us,e,h1,h2⟩:=k;exact ⟨u,us,e,VR.ext h h1,VRs.ext h h2⟩
end
theorem VRs.length:∀ {xs:List V} {vs:List Value},VRs ρ S w xs vs -> vs.length = xs.length
 | [],_,h=>by simp only [VRs] at h; simp [h]
 | x :: xs,_,h=>by
  simp only [VRs] at h;obtain ⟨u,us,rfl,_,h2⟩:=h;simp [VRs.length h2]
theorem VRs.get:∀ {xs:List V} {vs:List Value},VRs ρ S w xs vs -> ∀ (i:Nat) (h1:i < xs.length) (h2:i < vs.length),VR ρ S w xs[i] vs[i]
 | x :: xs,_,h,0,_,_=>by
  simp only [VRs] at h;obtain ⟨u,us,rfl,h1,h2⟩:=h;simpa using h1
 | x :: xs,_,h,i + 1,a,b=>by
  simp only [VRs] at h;obtain ⟨u,us,rfl,h1,h2⟩:=h;simpa using VRs.get h2 i (by simpa using a) (by simpa using b)
theorem VRs.of_get:∀ {xs:List V} {vs:List Value},vs.length = xs.length -> (∀ (i:Nat) (h1:i < xs.length) (h2:i < vs.length),VR ρ S w xs[i] vs[i]) -> VRs ρ S w xs vs
 | [],vs,h,_=>by simp only [VRs]; exact List.eq_nil_of_length_eq_zero h
 | x :: xs,[],h,_=>by simp at h
 | x :: xs,u :: us,h,k=>by
  simp only [VRs];exact ⟨u,us,rfl,k 0 (Nat.zero_lt_succ _) (Nat.zero_lt_succ _),VRs.of_get (by simpa using h) fun i h1 h2=>k (i + 1) (Nat.succ_lt_succ h1) (Nat.succ_lt_succ h2)⟩
theorem VRs.append {xs ys:List V} {us vs:List Value} (h:VRs ρ S w xs us) (k:VRs ρ S w ys vs):VRs ρ S w (xs ++ ys) (us ++ vs):=by
 have l1:=h.length;have l2:=k.length;refine VRs.of_get (by simp [l1,l2]) fun i h1 h2=>?_;rcases Nat.lt_or_ge i xs.length with hi | hi
 · rw [List.getElem_append_left hi,List.getElem_append_left (by omega)]; exact h.get i _ _
 · rw [List.getElem_append_right hi,List.getElem_append_right (by omega)];have:=k.get (i - xs.length) (by simp at h1; omega) (by simp at h1; omega);simp only [l1]; exact this
theorem VRs.drop {xs:List V} {us:List Value} (h:VRs ρ S w xs us) (k:Nat):VRs ρ S w (xs.drop k) (us.drop k):=by
 refine VRs.of_get (by simp [h.length]) fun i h1 h2=>?_;simp only [List.getElem_drop]; exact h.get _ _ _
theorem VRs.take {xs:List V} {us:List Value} (h:VRs ρ S w xs us) (k:Nat):VRs ρ S w (xs.take k) (us.take k):=by
 refine VRs.of_get (by simp [h.length]) fun i h1 h2=>?_;simp only [List.getElem_take]; exact h.get _ _ _
end
def St (ρ:Rh) (w:World) (b:Nat):Prop:=b < w.heap.size /\ ∀ i,(ρ.L i -> ρ i ≠ b) /\ ¬ ρ.X b
def Blk.live:Blk -> Bool
 | .cells []=>false
 | _=>true
def BR (ρ:Rh) (w:World) (r:Nat):Blk -> Prop
 | .cells []=>True
 | .cells cs=>∃ arr e fz,w.heap[r]? = some (.cells arr e fz) /\ cs.length <= arr.size /\ (∀ j,j < arr.size -> w.frozen? ⟨r,j,none⟩ = false) ∧
  ∀ (j:Nat) (h1:j < cs.length) (h2:j < arr.size),VR ρ (St ρ w) w cs[j] arr[j] /\ arr[j].oneCell' = true
 | .iter s pos=>w.heap[r]? = some (.stringIter s pos)
structure Rel (B:Nat) (ρ:Rh) (h:Hp) (w:World):Prop where
 dom:∀ i,ρ.N i -> i < h.bs.length
 ln:∀ i,ρ.L i -> ρ.N i
 live:∀ i (hi:i < h.bs.length),h.bs[i].live = true -> ρ.L i
 lo:∀ i,ρ.N i -> B <= ρ i /\ ρ i < w.heap.size
 base:B <= w.heap.size
 inj:∀ i j,i ≠ j -> ρ.L i -> ρ.L j -> ρ i ≠ ρ j
 mem:∀ i (hi:i < h.bs.length),BR ρ w (ρ i) h.bs[i]
 xB:∀ b,ρ.X b -> b < w.heap.size /\ ∀ i,ρ.L i -> ρ i ≠ b
 gB:∀ b,ρ.G b -> ¬ ρ.N b /\ b < h.bs.length
structure Goes (B:Nat) (ρ:Rh) (w:World) (ρ':Rh) (w':World):Prop where
 ext:Ext ρ (St ρ w) w ρ' (St ρ' w') w'
 below:Below B w w'
theorem Goes.refl (B:Nat) (ρ:Rh) (w:World):Goes B ρ w ρ w:=⟨Ext.refl _ _ _,Below.refl _ _⟩
theorem Goes.trans {B:Nat} {ρ ρ' ρ'':Rh} {w w' w'':World} (h:Goes B ρ w ρ' w') (k:Goes B ρ' w' ρ'' w''):Goes B ρ w ρ'' w'':=⟨h.ext.trans k.ext,h.below.trans k.below⟩
theorem BR.ext {ρ ρ':Rh} {w w':World} (h:Ext ρ (St ρ w) w ρ' (St ρ' w') w') {r:Nat} (hr:w'.heap[r]? = w.heap[r]?):∀ {b:Blk},BR ρ w r b -> BR ρ' w' r b
 | .cells [],_=>by simp only [BR]
 | .cells (c :: cs),k=>by
  simp only [BR] at k ⊢;obtain ⟨arr,e,fz,h1,h2,h3,h4⟩:=k;refine ⟨arr,e,fz,hr.trans h1,h2,fun j hj=>?_,fun j a b=>⟨(h4 j a b).1.ext h,(h4 j a b).2⟩⟩;rw [← h3 j hj];simp [World.frozen?,hr]
 | .iter s pos,k=>by simp only [BR] at k ⊢; exact hr.trans k
def ER (ρ:Rh) (w:World) (e:Env) (tmps:Array Value):Prop :=
 e.length = tmps.size /\ ∀ i,VR ρ (St ρ w) w (e.getD i .undef) (tmps.getD i undef)
theorem ER.ext {ρ ρ':Rh} {w w':World} (h:Ext ρ (St ρ w) w ρ' (St ρ' w') w') {e:Env} {t:Array Value} (k:ER ρ w e t):ER ρ' w' e t :=
 ⟨k.1,fun i=>(k.2 i).ext h⟩
theorem ER.set {ρ:Rh} {w:World} {e:Env} {t:Array Value} (k:ER ρ w e t) (i:Nat) {x:V} {v:Value} (hv:VR ρ (St ρ w) w x v):ER ρ w (e.set i x) (t.setIfInBounds i v):=by
 refine ⟨by simp [k.1],fun j=>?_⟩;have hk:=k.2 j;have hl:=k.1;simp only [List.getD_eq_getElem?_getD,Array.getD_eq_getD_getElem?,List.getElem?_set,Array.getElem?_setIfInBounds] at hk ⊢;by_cases hij:i = j
 · subst hij;by_cases hi:i < e.length
   · have:i < t.size:=by omega
     simpa [hi,this] using hv
   · have:¬ i < t.size:=by omega
     simp [hi,this,VR]
 · simpa [hij] using hk
end Go.Proofs.YtjkfknafpgfchaaGreat
