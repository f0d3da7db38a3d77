/- Each operation does in the model what the pure reading says. -/
import Derived.Test.YtjkfknafpgfchaaGreatPr
set_option linter.unusedVariables false
namespace Go.Proofs.YtjkfknafpgfchaaGreat
open Go.RowKit
variable {P:Program}
theorem pK {S:Nat -> Prop} {w:World} {v:Value} {x:D} (h:dOf v = some x):DR S w x v:=by
 unfold dOf at h;split at h <;> simp at h <;> subst h <;> (simp only [DR]; try exact ⟨none,0,rfl,Nat.le_refl _,by simp [maxLen],by simp,by simp,by simp⟩)
theorem mapM_some {α β:Type} {f:α -> Option β}:∀ {l:List α} {l':List β},l.mapM f = some l' -> l'.length = l.length /\ ∀ (i:Nat) (h1:i < l.length) (h2:i < l'.length),f l[i] = some l'[i]
 | [],l',h=>by simp at h; subst h; simp
 | x :: l,l',h=>by
  simp only [List.mapM_cons] at h;cases hx:f x with
  | none=>simp [hx] at h
  | some y =>
   cases hl:l.mapM f with
   | none=>simp [hx,hl] at h
   | some ys =>
    simp [hx,hl] at h;subst h;have ih:=mapM_some hl;refine ⟨by simp [ih.1],fun i h1 h2=>?_⟩;cases i with
    | zero=>simpa using hx
    | succ i=>simpa using ih.2 i (by simpa using h1) (by simpa using h2)
theorem VRs.of_data {ρ:Rh} {S:Nat -> Prop} {w:World} {l:List D} {vs:List Value} (hl:vs.length = l.length) (h:∀ (i:Nat) (h1:i < l.length) (h2:i < vs.length),DR S w l[i] vs[i]):VRs ρ S w (l.map .d) vs :=
 VRs.of_get (by simpa using hl) fun i h1 h2=>by simp only [List.getElem_map,VR]; exact h i (by simpa using h1) h2
theorem EI {ρ:Rh} {S:Nat -> Prop} {w:World} {v:Value} {x:V} (h:vOf v = some x):VR ρ S w x v:=by
 unfold vOf at h;split at h
 · rename_i cs;cases hm:cs.toList.mapM dOf with
   | none=>simp [hm] at h
   | some l =>
    simp [hm] at h;subst h;have hh:=mapM_some hm;have hg:∀ (i:Nat) (h1:i < l.length) (h2:i < cs.toList.length),DR S w l[i] cs.toList[i]:=fun i h1 h2=>pK (hh.2 i h2 h1);simp only [VR];refine ⟨cs,rfl,VRs.of_data hh.1.symm hg,fun u hu=>?_⟩;obtain ⟨i,hi,rfl⟩:=List.getElem_of_mem hu;exact (hg i (by rw [hh.1]; exact hi) hi).one
 · cases hd:dOf v with
   | none=>simp [hd] at h
   | some d =>
    simp [hd] at h;subst h;simp only [VR];exact pK hd
theorem ay {ρ:Rh} {w:World} {e:Env} {a:Act} (hE:ER ρ w e a.tmps) {o:Operand} {x:X} (h:bg o = some x):VR ρ (St ρ w) w (x.ev e) (a.eval o):=by
 cases o with
 | tmp t=>simp [bg] at h; subst h; exact hE.2 t
 | const v =>
  simp only [bg,Option.map_eq_some_iff] at h;obtain ⟨y,hy,rfl⟩:=h;exact EI hy
 | global g=>simp [bg] at h
 | func f=>simp [bg] at h; subst h; simp [X.ev,Act.eval,VR,VRs]
theorem kS {ρ:Rh} {S:Nat -> Prop} {w:World} {x:V} {v:Value} {xs:List V} (h:VR ρ S w x v) (hc:x.cells = some xs):VRs ρ S w xs v.cells.toList /\ ∀ u ∈ v.cells.toList,u.oneCell' = true:=by
 cases x with
 | agg cs =>
  simp [V.cells] at hc; subst hc;simp only [VR] at h;obtain ⟨vs,rfl,h1,h2⟩:=h;exact ⟨h1,h2⟩
 | tup cs=>simp [V.cells] at hc
 | undef=>simp [V.cells] at hc
 | d y =>
  simp [V.cells] at hc; subst hc;have h':=h;simp only [VR] at h;have h1:=h.one;have:v.cells = #[v]:=by cases v <;> first | rfl | (simp [Value.oneCell'] at h1)
  rw [this];exact ⟨by simp only [VRs]; exact ⟨v,[],rfl,h',rfl⟩,by simpa using h1⟩
 | ptr b o =>
  simp [V.cells] at hc; subst hc;have h':=h;simp only [VR] at h;obtain ⟨_,rfl⟩:=h;exact ⟨by simp only [VRs]; exact ⟨_,[],rfl,h',rfl⟩,by simp [Value.cells,Value.oneCell']⟩
 | eptr cs o =>
  simp [V.cells] at hc; subst hc;have h':=h;simp only [VR] at h;obtain ⟨_,_,rfl,_⟩:=h;exact ⟨by simp only [VRs]; exact ⟨_,[],rfl,h',rfl⟩,by simp [Value.cells,Value.oneCell']⟩
 | row b o len cap z =>
  simp [V.cells] at hc; subst hc;have h':=h;simp only [VR] at h;obtain ⟨_,_,rfl,_⟩:=h;exact ⟨by simp only [VRs]; exact ⟨_,[],rfl,h',rfl⟩,by simp [Value.cells,Value.oneCell']⟩
 | fn f cs =>
  simp [V.cells] at hc; subst hc;have h':=h;simp only [VR] at h;obtain ⟨_,rfl,_⟩:=h;exact ⟨by simp only [VRs]; exact ⟨_,[],rfl,h',rfl⟩,by simp [Value.cells,Value.oneCell']⟩
 | mfn f cs =>
  simp [V.cells] at hc; subst hc;have h':=h;simp only [VR] at h;obtain ⟨_,rfl,_⟩:=h;exact ⟨by simp only [VRs]; exact ⟨_,[],rfl,h',rfl⟩,by simp [Value.cells,Value.oneCell']⟩
theorem bp5 {w:World} {b:Nat} {o:Obj} (h:w.heap[b]? = some o):b < w.heap.size:=by
 rcases Nat.lt_or_ge b w.heap.size with h1 | h1
 · exact h1
 · rw [Array.getElem?_eq_none h1] at h; cases h
theorem rZ {ρ:Rh} {w w':World} (hh:w'.heap = w.heap):Ext ρ (St ρ w) w ρ (St ρ w') w':=by
 have hS:St ρ w' = St ρ w:=by funext b; simp [St,hh]
 exact ⟨fun _ h=>h,fun _ _=>rfl,fun b hb=>by rw [hS]; exact hb,fun b _=>by rw [hh],fun i _ arr e fz k=>⟨arr,fz,by rw [hh]; exact k,rfl⟩,rfl,fun _ _=>by rw [hh],rfl⟩
theorem Rel.same {B:Nat} {ρ:Rh} {h:Hp} {w w':World} (hR:Rel B ρ h w) (hh:w'.heap = w.heap):Rel B ρ h w' :=
 ⟨hR.dom,hR.ln,hR.live,fun i hi=>by rw [hh]; exact hR.lo i hi,by rw [hh]; exact hR.base,hR.inj,fun i hi=>(hR.mem i hi).ext (rZ hh) (by rw [hh]),fun b hb=>by rw [hh]; exact hR.xB b hb,hR.gB⟩
theorem Goes.drew {B:Nat} {ρ:Rh} (w:World):Goes B ρ w ρ w.drew:=⟨rZ rfl,Below.drew (Below.refl _ _)⟩
def extρ (ρ:Rh) (n r:Nat):Rh:=⟨fun i=>if i = n then r else ρ i,ρ.X,fun i=>ρ.N i \/ i = n,fun i=>ρ.L i \/ i = n,ρ.G⟩
theorem jV {ρ:Rh} {n r i:Nat} (h:i ≠ n):extρ ρ n r i = ρ i:=by simp [extρ,h]
theorem jH {ρ:Rh} {n r:Nat}:extρ ρ n r n = r:=by simp [extρ]
theorem iQ {B:Nat} {ρ:Rh} {h:Hp} {w:World} (hR:Rel B ρ h w) (o:Obj) (n:Nat) (hn:¬ ρ.N n):Goes B ρ w (extρ ρ n w.heap.size) (w.alloc o):=by
 have hne:∀ i,ρ.N i -> i ≠ n:=fun i hi e=>hn (e ▸ hi);refine ⟨⟨fun i hi=>.inl hi,fun i hi=>jV (hne i hi),fun b hb=>⟨by simp; exact Nat.lt_succ_of_lt hb.1,fun i=>⟨fun hi=>?_,(hb.2 0).2⟩⟩,fun b hb=>Below.heap_alloc _ _ _ hb.1,fun i hi arr e fz k=>⟨arr,fz,?_,rfl⟩,rfl,fun b hb=>Below.heap_alloc _ _ _ (hR.xB b hb).1,rfl⟩,(Below.refl _ _).alloc hR.base _⟩
 · by_cases e:i = n
   · subst e; rw [jH]; exact Nat.ne_of_gt hb.1
   · rw [jV e]; exact (hb.2 i).1 (hi.resolve_right e)
 · rw [Below.heap_alloc _ _ _ (hR.lo i hi).2]; exact k
theorem jR {B:Nat} {ρ:Rh} {h:Hp} {w:World} (hR:Rel B ρ h w):¬ ρ.N h.size:=fun hn=>Nat.lt_irrefl _ (hR.dom _ hn)
theorem qU {b:Blk} (l:¬ b.live = true):b = .cells []:=by
 cases b with
 | iter s p=>simp [Blk.live] at l
 | cells cs=>cases cs with
  | nil=>rfl
  | cons c cs=>simp [Blk.live] at l
theorem DY {B:Nat} {ρ:Rh} {h h':Hp} {w:World} (hR:Rel B ρ h w) (o:Obj) (b:Blk) (n:Nat) (hn:¬ ρ.N n) (hgn:¬ ρ.G n) (hlen:h.bs.length <= h'.bs.length) (hnl:n < h'.bs.length) (hat:h'.bs[n]? = some b)
 (hoth:∀ i (hi:i < h'.bs.length),i ≠ n -> (∃ hi':i < h.bs.length,h'.bs[i] = h.bs[i]) \/ h'.bs[i].live = false)
 (hb:BR (extρ ρ n w.heap.size) (w.alloc o) w.heap.size b):Rel B (extρ ρ n w.heap.size) h' (w.alloc o):=by
 have hg:=iQ hR o n hn;have hlive:∀ i (hi:i < h'.bs.length),i ≠ n -> h'.bs[i].live = true -> ∃ hi':i < h.bs.length,h'.bs[i] = h.bs[i] /\ ρ.L i:=by
  intro i hi hin hl;rcases hoth i hi hin with ⟨hi',e⟩ | e
  · exact ⟨hi',e,hR.live i hi' (by rw [← e]; exact hl)⟩
  · rw [hl] at e; cases e
 refine ⟨fun i hi=>?_,fun i hi=>hi.imp (hR.ln i) id,fun i hi hl=>?_,fun i hi=>?_,by simp; exact Nat.le_succ_of_le hR.base,fun i j hij li lj=>?_,fun i hi=>?_,fun c hc=>⟨?_,fun i hi=>?_⟩,fun c hc=>⟨fun hN=>hN.elim (hR.gB c hc).1 fun e=>hgn (e ▸ hc),Nat.lt_of_lt_of_le (hR.gB c hc).2 hlen⟩⟩
 · rcases hi with h1 | rfl
   · exact Nat.lt_of_lt_of_le (hR.dom i h1) hlen
   · exact hnl
 · by_cases e:i = n
   · exact .inr e
   · obtain ⟨_,_,h2⟩:=hlive i hi e hl;exact .inl h2
 · by_cases e:i = n
   · subst e; rw [jH]; have:=hR.base; simp; omega
   · rw [jV e];have:=hR.lo i (hi.resolve_right e);simp; omega
 · by_cases e1:i = n <;> by_cases e2:j = n
   · omega
   · subst e1;rw [jH,jV e2];exact Nat.ne_of_gt (hR.lo j (hR.ln j (lj.resolve_right e2))).2
   · subst e2;rw [jH,jV e1];exact Nat.ne_of_lt (hR.lo i (hR.ln i (li.resolve_right e1))).2
   · rw [jV e1,jV e2];exact hR.inj i j hij (li.resolve_right e1) (lj.resolve_right e2)
 · by_cases e:i = n
   · subst e;rw [jH];have:h'.bs[i] = b:=by
      rw [List.getElem?_eq_getElem hi] at hat;exact Option.some.inj hat
     rw [this];exact hb
   · rw [jV e];by_cases hl:h'.bs[i].live = true
     · obtain ⟨a1,b1,c1⟩:=hlive i hi e hl;rw [b1];exact (hR.mem i a1).ext hg.ext (Below.heap_alloc _ _ _ (hR.lo i (hR.ln i c1)).2)
     · rw [qU hl]; simp only [BR]
 · have:=(hR.xB c hc).1; simp; omega
 · by_cases e:i = n
   · subst e; rw [jH]; exact Nat.ne_of_gt (hR.xB c hc).1
   · rw [jV e]; exact (hR.xB c hc).2 i (hi.resolve_right e)
theorem uk {B:Nat} {ρ:Rh} {h:Hp} {w:World} (hR:Rel B ρ h w) (o:Obj) (b:Blk)
 (hb:BR (extρ ρ h.size w.heap.size) (w.alloc o) w.heap.size b):Rel B (extρ ρ h.size w.heap.size) { h with bs:=h.bs ++ [b] } (w.alloc o) :=
 DY hR o b h.size (jR hR) (fun hc=>Nat.lt_irrefl _ (hR.gB _ hc).2) (by simp) (by simp [Hp.size]) (by simp [Hp.size]) (fun i hi hin=>by
  simp at hi;have hi':i < h.bs.length:=by
   rcases Nat.lt_succ_iff_lt_or_eq.1 hi with h1 | h1
   · exact h1
   · exact absurd h1 hin
  exact .inl ⟨hi',by simp [List.getElem_append_left hi']⟩) hb
theorem qj {B:Nat} {ρ:Rh} {h:Hp} {w:World} (hR:Rel B ρ h w) {cs:List V} {arr:Array Value} (t:TypeId) (fz:Nat × Nat)
 (hl:cs.length <= arr.size) (hf:∀ j,j < arr.size -> ¬ (fz.1 <= j /\ j < fz.2)) (hv:VRs ρ (St ρ w) w cs (arr.toList.take cs.length)) (h1:∀ u ∈ arr.toList.take cs.length,u.oneCell' = true) :
 Rel B (extρ ρ h.size w.heap.size) (h.alloc cs) (w.alloc (.cells arr t fz)):=by
 refine uk hR _ _ ?_;have hg:=iQ hR (.cells arr t fz) h.size (jR hR);have hh:(w.alloc (.cells arr t fz)).heap[w.heap.size]? = some (.cells arr t fz):=by show (w.heap.push _)[_]? = _; simp
 cases cs with
 | nil=>simp only [BR]
 | cons c cs =>
  simp only [BR];refine ⟨arr,t,fz,hh,hl,fun j hj=>?_,fun j a b=>?_⟩
  · have:=hf j hj;obtain ⟨lo,hi⟩:=fz;unfold World.frozen?;simp only [hh];simp only [Bool.and_eq_false_iff,decide_eq_false_iff_not];simp only at this;omega
  · have hlt:j < (arr.toList.take (c :: cs).length).length:=by simp only [List.length_take,Array.length_toList]; omega
    have k:=(hv.get j a hlt).ext hg.ext;have k1:=h1 _ (List.getElem_mem hlt);simp only [List.getElem_take,Array.getElem_toList] at k k1;exact ⟨k,k1⟩
theorem ja {B:Nat} {ρ:Rh} {h:Hp} {w w':World} (hR:Rel B ρ h w) {b:Nat} (hb:ρ.L b) (hsz:w'.heap.size = w.heap.size)
 (hoth:∀ k,k ≠ ρ b -> w'.heap[k]? = w.heap[k]?) (hown:∀ arr e fz,w.heap[ρ b]? = some (.cells arr e fz) -> ∃ arr' fz',w'.heap[ρ b]? = some (.cells arr' e fz') /\ arr'.size = arr.size)
 (h1:w'.os = w.os) (h2:w'.tape = w.tape) (h3:w'.output = w.output):Goes B ρ w ρ w':=by
 refine ⟨⟨fun _ h=>h,fun _ _=>rfl,fun c hc=>⟨by rw [hsz]; exact hc.1,hc.2⟩,fun c hc=>hoth c fun e=>(hc.2 b).1 hb e.symm,fun i hi arr e fz k=>?_,rfl,fun c hc=>hoth c fun e=>(hR.xB c hc).2 b hb e.symm,rfl⟩,⟨h1,h2,h3,by rw [hsz]; exact Nat.le_refl _,fun k hk=>hoth k fun e=>by have:=(hR.lo b (hR.ln b hb)).1; omega⟩⟩;by_cases e1:ρ i = ρ b
 · rw [e1] at k ⊢; exact hown arr e fz k
 · exact ⟨arr,fz,by rw [hoth _ e1]; exact k,rfl⟩
theorem oV {B:Nat} {ρ:Rh} {h:Hp} {w w':World} (hR:Rel B ρ h w) {b:Nat} (hb:b < h.bs.length) (hlive:h.bs[b].live = true) (hsz:w'.heap.size = w.heap.size)
 (hoth:∀ k,k ≠ ρ b -> w'.heap[k]? = w.heap[k]?) (hown:∀ arr e fz,w.heap[ρ b]? = some (.cells arr e fz) -> ∃ arr' fz',w'.heap[ρ b]? = some (.cells arr' e fz') /\ arr'.size = arr.size)
 (h1:w'.os = w.os) (h2:w'.tape = w.tape) (h3:w'.output = w.output) (bl:Blk) (hbl:BR ρ w' (ρ b) bl) (lw:Nat):Rel B ρ ⟨h.bs.set b bl,lw⟩ w':=by
 have hL:=hR.live b hb hlive;have hg:=ja hR hL hsz hoth hown h1 h2 h3;have key:∀ k (hk:k < (h.bs.set b bl).length) (hk':k < h.bs.length),(h.bs.set b bl)[k].live = true -> h.bs[k].live = true:=by
  intro k hk hk' l;by_cases e:b = k
  · subst e; exact hlive
  · simpa [List.getElem_set,e] using l
 refine ⟨fun i hi=>by simpa using hR.dom i hi,hR.ln,fun i hi hl=>hR.live i (by simpa using hi) (key i hi (by simpa using hi) hl),fun i hi=>by rw [hsz]; exact hR.lo i hi,by rw [hsz]; exact hR.base,hR.inj,fun i hi=>?_,fun c hc=>by rw [hsz]; exact hR.xB c hc,fun c hc=>by simpa using hR.gB c hc⟩;simp only [List.length_set] at hi;by_cases e:b = i
 · subst e; simpa using hbl
 · simp only [List.getElem_set,e,if_false];by_cases l:h.bs[i].live = true
   · exact (hR.mem i hi).ext hg.ext (hoth _ fun e1=>hR.inj i b (fun x=>e x.symm) (hR.live i hi l) hL e1)
   · rw [qU l]; simp only [BR]
theorem kY {h:Hp} {b:Nat} {cs:List V} (hg:h.get b = some cs):∃ hb:b < h.bs.length,h.bs[b] = .cells cs:=by
 unfold Hp.get at hg;split at hg
 · rename_i c hc;obtain ⟨hb,e⟩:=List.getElem?_eq_some_iff.1 hc;cases hg;exact ⟨hb,e⟩
 · cases hg
theorem eQ {B:Nat} {ρ:Rh} {h:Hp} {w:World} (hR:Rel B ρ h w) {b:Nat} {cs:List V} (hg:h.get b = some cs) (hne:cs ≠ []) :
 ∃ arr e fz,w.heap[ρ b]? = some (.cells arr e fz) /\ cs.length <= arr.size /\ (∀ j,j < arr.size -> w.frozen? ⟨ρ b,j,none⟩ = false) ∧
  ∀ (j:Nat) (h1:j < cs.length) (h2:j < arr.size),VR ρ (St ρ w) w cs[j] arr[j] /\ arr[j].oneCell' = true:=by
 obtain ⟨hb,e⟩:=kY hg;have:=hR.mem b hb;rw [e] at this;cases cs with
 | nil=>exact absurd rfl hne
 | cons c cs=>simpa only [BR] using this
theorem jb {α:Type} {cs l:List α} {o n:Nat} (h:sub cs o n = some l):o + n <= cs.length /\ l = (cs.drop o).take n:=by
 unfold sub at h;split at h
 · cases h; exact ⟨‹_›,rfl⟩
 · cases h
theorem oO {α:Type} {cs l xs:List α} {o:Nat} (h:put cs o xs = some l):o + xs.length <= cs.length /\ l = cs.take o ++ xs ++ cs.drop (o + xs.length):=by
 unfold put at h;split at h
 · cases h; exact ⟨‹_›,rfl⟩
 · cases h
theorem oC {B:Nat} {ρ:Rh} {h:Hp} {w:World} (hR:Rel B ρ h w) {x:V} {v:Value} {n:Nat} {l:List V} (hn:0 < n) (hv:VR ρ (St ρ w) w x v) (hl:loadAt h x n = some l) :
 ∃ b o us,v = .pointer (some ⟨b,o,none⟩) /\ us.length = n /\ (∀ j u,us[j]? = some u -> w.cell? ⟨b,o + j,none⟩ = some u) /\ VRs ρ (St ρ w) w l us /\ ∀ u ∈ us,u.oneCell' = true:=by
 cases x with
 | ptr b o =>
  simp only [VR] at hv;obtain ⟨hb,rfl⟩:=hv;simp only [loadAt] at hl;cases hg:h.get b with
  | none=>simp [hg] at hl
  | some cs =>
   simp only [hg] at hl;obtain ⟨h1,rfl⟩:=jb hl;have hne:cs ≠ []:=by rintro rfl; simp at h1; omega
   obtain ⟨arr,e,fz,h2,h3,h4,h5⟩:=eQ hR hg hne;refine ⟨ρ b,o,(arr.toList.drop o).take n,rfl,by simp; omega,fun j u hu=>?_,?_,?_⟩
   · rw [List.getElem?_take] at hu;split at hu
     · simp only [List.getElem?_drop,Array.getElem?_toList] at hu;simp [World.cell?,h2,hu]
     · cases hu
   · refine VRs.of_get (by simp; omega) fun i a b=>?_;simp only [List.getElem_take,List.getElem_drop,Array.getElem_toList];exact (h5 (o + i) (by simp at a; omega) _).1
   · intro u hu;obtain ⟨i,hi,rfl⟩:=List.getElem_of_mem hu;simp only [List.getElem_take,List.getElem_drop,Array.getElem_toList];exact (h5 (o + i) (by simp at hi; omega) _).2
 | eptr cs o =>
  simp only [VR] at hv;obtain ⟨b,base,rfl,hb,hd⟩:=hv;simp only [loadAt,Option.map_eq_some_iff] at hl;obtain ⟨l',hl',rfl⟩:=hl;obtain ⟨h1,rfl⟩:=jb hl';have key:∀ i:Fin n,∃ u,cellAt w b (base + o + i.1) = some u /\ DR (St ρ w) w (cs[o + i.1]'(by have:=i.2; omega)) u:=fun i=>by
   have:=hd.get (o + i.1) (by have:=i.2; omega);simpa [Nat.add_assoc] using this
  refine ⟨b,base + o,List.ofFn fun i=>Classical.choose (key i),rfl,by simp,fun j u hu=>?_,?_,?_⟩
  · obtain ⟨hj,rfl⟩:=List.getElem?_eq_some_iff.1 hu;simp only [List.getElem_ofFn];exact (Classical.choose_spec (key ⟨j,by simpa using hj⟩)).1
  · refine VRs.of_data (by simp; omega) fun i h1 h2=>?_;simp only [List.getElem_ofFn,List.getElem_take,List.getElem_drop];exact (Classical.choose_spec (key ⟨i,by simpa using h2⟩)).2
  · intro u hu;obtain ⟨i,hi,rfl⟩:=List.getElem_of_mem hu;simp only [List.getElem_ofFn];exact (Classical.choose_spec (key ⟨i,by simpa using hi⟩)).2.one
 | _=>simp [loadAt] at hl
theorem jI (b:Nat):∀ (us:List Value) (o:Nat) (w:World),(∀ k,k ≠ b -> (w.setCells b o us).heap[k]? = w.heap[k]?) /\ (w.setCells b o us).heap.size = w.heap.size /\ (w.setCells b o us).os = w.os /\ (w.setCells b o us).tape = w.tape /\ (w.setCells b o us).output = w.output ∧
 (∀ arr e fz,w.heap[b]? = some (.cells arr e fz) -> ∃ arr',(w.setCells b o us).heap[b]? = some (.cells arr' e fz) /\ arr'.size = arr.size)
 | [],o,w=>⟨fun _ _=>rfl,rfl,rfl,rfl,rfl,fun arr e fz h=>⟨arr,h,rfl⟩⟩
 | u :: us,o,w=>by
  obtain ⟨i1,i2,i3,i4,i5,i6⟩:=jI b us (o + 1) (w.setCell ⟨b,o,none⟩ u);simp only [World.setCells];refine ⟨fun k hk=>(i1 k hk).trans (Below.heap_setCell _ _ _ _ hk),by rw [i2]; simp,i3,i4,i5,fun arr e fz h=>?_⟩;have:(w.setCell ⟨b,o,none⟩ u).heap[b]? = some (.cells (arr.setIfInBounds o u) e fz):=by
   simp [World.setCell,Array.getElem?_modify,h]
  obtain ⟨arr',h1,h2⟩:=i6 _ e fz this;exact ⟨arr',h1,by rw [h2]; simp⟩
theorem eD {B:Nat} {ρ:Rh} {h:Hp} {w:World} (hR:Rel B ρ h w) {b o:Nat} {cs xs cs':List V} {us:List Value} (hg:h.get b = some cs) (hp:put cs o xs = some cs') (h0:xs ≠ [])
 (hv:VRs ρ (St ρ w) w xs us) (h1:∀ u ∈ us,u.oneCell' = true) :
 (storeCells ⟨ρ b,o,none⟩ us).run P w = .ok () (w.setCells (ρ b) o us) /\ Rel B ρ (h.set b cs') (w.setCells (ρ b) o us) /\ Goes B ρ w ρ (w.setCells (ρ b) o us):=by
 obtain ⟨hp1,rfl⟩:=oO hp;have hpos:0 < xs.length:=List.length_pos_iff.2 h0;have hne:cs ≠ []:=by rintro rfl; simp only [List.length_nil] at hp1; omega
 obtain ⟨hb,eb⟩:=kY hg;obtain ⟨arr,e,fz,h2,h3,h4,h5⟩:=eQ hR hg hne;have hlen:=hv.length;obtain ⟨i1,i2,i3,i4,i5,i6⟩:=jI (ρ b) us o w;obtain ⟨arr',h6,h7⟩:=i6 arr e fz h2;have hcell:∀ j,j < us.length -> (w.cell? ⟨ρ b,o + j,none⟩).isSome = true:=fun j hj=>by
  have:o + j < arr.size:=by omega
  simp [World.cell?,h2,this]
 have hgo:Goes B ρ w ρ (w.setCells (ρ b) o us):=ja hR (hR.live b hb (by rw [eb]; cases cs with | nil=>exact absurd rfl hne | cons c cs=>rfl)) i2 i1 (fun a e' f k=>by
  obtain ⟨a',k1,k2⟩:=i6 a e' f k;exact ⟨a',f,k1,by omega⟩) i3 i4 i5
 refine ⟨?_,?_,hgo⟩
 · have:=run_storeCells_cells (P:=P) (ρ b) o us 0 w (by simpa using hcell) (by intro j hj; simp only [Nat.add_zero]; exact h4 _ (by omega)) h1;simpa using this
 · refine oV hR hb (by rw [eb]; cases cs with | nil=>exact absurd rfl hne | cons c cs=>rfl) i2 i1 (fun a e' f k=>by
    obtain ⟨a',k1,k2⟩:=i6 a e' f k;exact ⟨a',f,k1,by omega⟩) i3 i4 i5 _ ?_ _
   generalize hcs:cs.take o ++ xs ++ cs.drop (o + xs.length) = cs';have hlen':cs'.length = cs.length:=by rw [← hcs]; simp; omega
   cases cs' with
   | nil=>simp only [BR]
   | cons c' r' =>
    simp only [BR];refine ⟨arr',e,fz,h6,by omega,fun j hj=>?_,fun j a b'=>?_⟩
    · rw [World.frozen?_setCells]; exact h4 j (by omega)
    · have hcl:(w.setCells (ρ b) o us).cell? ⟨ρ b,j,none⟩ = some arr'[j]:=by simp [World.cell?,h6]
      simp only [← hcs] at a ⊢;by_cases hj:j < o \/ o + xs.length <= j
      · rw [World.cell?_setCells_out (ρ b) us o w ⟨ρ b,j,none⟩ (fun _ _=>by simpa [hlen] using hj)] at hcl;have hja:j < arr.size:=by omega
        simp [World.cell?,h2,hja] at hcl;have hjc:j < cs.length:=by rw [hcs,hlen'] at a; exact a
        have k:=h5 j hjc hja;rw [← hcl];have e1:(cs.take o ++ xs ++ cs.drop (o + xs.length))[j] = cs[j]:=by
         rcases hj with hj | hj
         · rw [List.getElem_append_left (by simp; omega),List.getElem_append_left (by simp; omega)]; simp
         · rw [List.getElem_append_right (by simp; omega)];simp only [List.getElem_drop]
           congr 1
           simp; omega
        rw [e1];exact ⟨k.1.ext hgo.ext,k.2⟩
      · have hj1:o <= j:=by omega
        have hj2:j - o < us.length:=by omega
        have:=World.cell?_setCells_in (ρ b) us o w hcell (j - o) hj2;rw [show o + (j - o) = j by omega,hcl] at this;simp only [Option.some.injEq] at this;rw [this];have e1:(cs.take o ++ xs ++ cs.drop (o + xs.length))[j] = xs[j - o]'(by omega):=by
         rw [List.getElem_append_left (by simp; omega),List.getElem_append_right (by simp; omega)]
         congr 1
         simp; omega
        rw [e1];exact ⟨(hv.get (j - o) (by omega) hj2).ext hgo.ext,h1 _ (List.getElem_mem hj2)⟩
end Go.Proofs.YtjkfknafpgfchaaGreat
