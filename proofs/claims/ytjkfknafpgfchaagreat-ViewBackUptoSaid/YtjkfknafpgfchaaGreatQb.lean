/- The reading with lists of slots is the reading: what it answers, that answers. -/
import Derived.Test.YtjkfknafpgfchaaGreatQa
set_option linter.unusedVariables false
set_option linter.unusedSimpArgs false
namespace Go.Proofs.YtjkfknafpgfchaaGreat
section
theorem vK {v w:V} (h:nu v = some w):v = w /\ v ≠ .undef:=by
 cases v <;> simp [nu] at h <;> exact ⟨h,by simp⟩
theorem RS {v:V} (h:okV v = true):v ≠ .undef:=by
 intro hv; subst hv; cases h
theorem nS {l:List X} {ev ev':X -> V} (hx:∀ x ∈ l,ev x = .undef \/ ev x = ev' x) (h:l.all (fun x=>okV (ev x)) = true):l.map ev = l.map ev':=by
 apply List.map_congr_left;intro x hm;rcases hx x hm with h1 | h1
 · exact absurd h1 (RS (List.all_eq_true.1 h x hm))
 · exact h1
theorem pM {ev:X -> V} {e:Env}:∀ {ps:List (Nat × Nat × X)} {cs r:List V},(∀ p ∈ ps,ev p.2.2 = .undef \/ ev p.2.2 = p.2.2.ev e) -> aA ev cs ps = some r -> fills e cs ps = some r
 | [],cs,r,_,h=>h
 | (o,n,x) :: ps,cs,r,hx,h=>by
  simp only [aA] at h;simp only [fills];rcases hx (o,n,x) (by simp) with h1 | h1
  · simp only at h1;simp [h1,V.cells] at h
  · simp only at h1;rw [h1] at h;cases hc:(x.ev e).cells with
    | none=>simp [hc] at h
    | some xs =>
     simp only [hc] at h ⊢;split at h
     · rename_i hl;rw [if_pos hl];cases hp:put cs o xs with
       | none=>simp [hp] at h
       | some cs' =>
        simp only [hp] at h ⊢;exact pM (fun p hp=>hx p (List.mem_cons_of_mem _ hp)) h
     · cases h
theorem pJ {ev:X -> V} {e:Env} {x:Option X} {dft n:Nat} (hx:∀ y ∈ x.toList,ev y = .undef \/ ev y = y.ev e) (h:bQ ev x dft = some n):bound e x dft = some n:=by
 cases x with
 | none=>exact h
 | some x =>
  rcases hx x (by simp) with h1 | h1
  · simp [bQ,h1] at h
  · simp only [bQ,h1] at h; exact h
theorem Ep {hp:Hp} {ev:X -> V} {e:Env} {k:SK} {z:Nat} {x:V} {lo hi mx:Option X} {r:V} (hx:∀ y ∈ lo.toList ++ hi.toList ++ mx.toList,ev y = .undef \/ ev y = y.ev e)
 (h:bP hp ev k z x lo hi mx = some r):cz hp e k z x lo hi mx = some r:=by
 have hlo:∀ {d n},bQ ev lo d = some n -> bound e lo d = some n:=fun h=>pJ (fun y hy=>hx y (by simp [hy])) h;have hhi:∀ {d n},bQ ev hi d = some n -> bound e hi d = some n:=fun h=>pJ (fun y hy=>hx y (by simp [hy])) h;have hmx:∀ {m:X} {d n},mx = some m -> bQ ev (some m) d = some n -> bound e (some m) d = some n:=fun q h=>pJ (fun y hy=>hx y (by simp at hy; simp [q,hy])) h;unfold bP at h;unfold cz;split at h <;> try dsimp only at h ⊢
 · split at h
   · rename_i _ _ e1 e2;rw [hlo e1,hhi e2]; exact h
   · cases h
 · split at h
   · rename_i _ _ e1 e2;rw [hlo e1,hhi e2]; exact h
   · rename_i _ _ _ e1 e2;split at h
     · rename_i e3;rw [hlo e1,hhi e2]; simp only [hmx rfl e3]; exact h
     · cases h
   · cases h
 · split at h
   · rename_i _ _ e1 e2;rw [hlo e1,hhi e2]; exact h
   · cases h
 · split at h
   · rename_i _ _ e1 e2;rw [hlo e1,hhi e2]; exact h
   · cases h
 · cases h
theorem J6 {op:BinOp} {y:V}:bJ op .undef y = none:=by cases op <;> simp [bJ]
theorem J7 {op:BinOp} {x:V}:bJ op x .undef = none:=by cases op <;> cases x <;> simp [bJ]
theorem Ju {q:EQ} {y:V}:fu q .undef y = none:=by cases q <;> simp [fu]
theorem Jv {q:EQ} {x:V}:fu q x .undef = none:=by cases q <;> cases x <;> simp [fu]
theorem gM {h:Hp} {xs:List V}:storeAt h .undef xs = none:=rfl
theorem gK {h:Hp} {z:Nat}:aF h .undef z = none:=rfl
theorem fB {h:Hp} {z b m:Nat} {xs:List V}:aC h z b .undef m xs = none:=rfl
theorem vL {C:Calls'} {r:R} {ev:X -> V} {e:Env} {h:Hp} {y:V × Hp} (hx:∀ x ∈ r.xs,ev x = .undef \/ ev x = x.ev e) (hm:opE C r ev h = some y):opM C r e h = some y:=by
 cases r with
 | mov x =>
  rcases hx x (by simp [R.xs]) with h1 | h1
  · simp [opE,h1,nu] at hm
  · simp only [opE,opM,h1] at hm ⊢;cases hn:nu (x.ev e) with
    | none=>simp [hn] at hm
    | some v=>simp [hn] at hm; rw [(vK hn).1]; exact congrArg some hm
 | pick c a b =>
  rcases hx c (by simp [R.xs]) with h1 | h1
  · simp [opE,h1] at hm
  · simp only [opE,opM,h1] at hm ⊢;split at hm
    · rename_i t ht;rw [ht];dsimp only;have key:∀ z,z ∈ [a,b] -> ∀ v,nu (ev z) = some v -> z.ev e = v:=by
       intro z hz v hv;obtain ⟨q1,q2⟩:=vK hv;rcases hx z (by simp only [R.xs]; exact List.mem_cons_of_mem _ hz) with h2 | h2
       · exact absurd h2 q2
       · rw [← h2,q1]
      cases t
      · simp only [Bool.false_eq_true,if_false] at hm ⊢;cases hn:nu (ev b) with
        | none=>simp [hn] at hm
        | some v=>simp [hn] at hm; rw [key b (by simp) v hn]; exact congrArg some hm
      · simp only [if_true] at hm ⊢;cases hn:nu (ev a) with
        | none=>simp [hn] at hm
        | some v=>simp [hn] at hm; rw [key a (by simp) v hn]; exact congrArg some hm
    · cases hm
 | new z=>exact hm
 | box x =>
  rcases hx x (by simp [R.xs]) with h1 | h1
  · simp [opE,h1,V.cells] at hm
  · simp only [opE,opM,h1] at hm ⊢; exact hm
 | build zero ps =>
  simp only [opE,opM] at hm ⊢;split at hm
  · rename_i e1;rw [pM (fun p hp=>hx _ (by simp only [R.xs]; exact List.mem_map.2 ⟨p,hp,rfl⟩)) e1]; exact hm
  · cases hm
 | buildS z n zero ps =>
  simp only [opE,opM] at hm ⊢;split at hm
  · rename_i e1;rw [pM (fun p hp=>hx _ (by simp only [R.xs]; exact List.mem_map.2 ⟨p,hp,rfl⟩)) e1]; exact hm
  · cases hm
 | mkfn f caps =>
  simp only [opE,opM] at hm ⊢;split at hm
  · rename_i e1;rw [← nS (ev':=(·.ev e)) (fun x hm=>hx x (by simpa [R.xs] using hm)) e1]; exact hm
  · cases hm
 | mkmv f caps =>
  simp only [opE,opM] at hm ⊢;split at hm
  · rename_i e1;rw [← nS (ev':=(·.ev e)) (fun x hm=>hx x (by simpa [R.xs] using hm)) e1]; exact hm
  · cases hm
 | call f args =>
  simp only [opE,opM] at hm ⊢;split at hm
  · rename_i e1;rw [← nS (ev':=(·.ev e)) (fun x hm=>hx x (by simp [R.xs,hm])) e1];rcases hx f (by simp [R.xs]) with h1 | h1
    · simp [h1,ed] at hm
    · rw [← h1]; exact hm
  · cases hm
 | minmax mx xs =>
  simp only [opE] at hm;split at hm
  · rename_i e1;rw [nS (ev':=(·.ev e)) (fun x hm=>hx x (by simpa [R.xs] using hm)) e1] at hm;cases xs with
    | nil=>cases hm
    | cons x xs=>exact hm
  · cases hm
 | slc k z x lo hi mx =>
  simp only [opE,opM] at hm ⊢;rcases hx x (by simp [R.xs]) with h1 | h1
  · rw [h1] at hm;cases k <;> simp [bP] at hm
  · rw [h1] at hm;cases hs:bP h ev k z (x.ev e) lo hi mx with
    | none=>rw [hs] at hm; simp at hm
    | some r =>
     rw [hs] at hm;rw [Ep (e:=e) (fun y hy=>hx y (by simp only [R.xs,List.append_assoc] at hy ⊢; simp only [List.mem_append] at hy ⊢; exact .inr hy)) hs];exact hm
 | _ =>
  simp only [R.xs,List.mem_cons,List.not_mem_nil,or_false,forall_eq_or_imp,forall_eq] at hx;simp only [opE,opM] at hm ⊢;first
  | (rcases hx with ⟨h1 | h1,h2 | h2⟩ <;> rw [h1,h2] at hm <;> first
      | exact hm
      | (exfalso; simp [J6,J7,Ju,Jv,one] at hm; done)
      | (exfalso; revert hm; simp [loadAt,gM,V.cells,one,gK,fB]; done)
      | (exfalso; revert hm; split <;> simp [gM,fB]; done)
      | (exfalso; revert hm; split <;> split <;> simp [gM,fB]; done)
      | (exfalso; revert hm; (repeat' split) <;> simp_all [gM,fB]; done))
  | (rcases hx with h1 | h1 <;> rw [h1] at hm <;> first
      | exact hm
      | (exfalso; revert hm; simp [loadAt,storeAt,unD,fu,V.cells,V.len,one,aF,aC]; done)
      | (exfalso; revert hm; (repeat' split) <;> simp_all [unD,V.len,gK]; done))
end
section
def Sub (n:Nat) (a:EA) (e:Env):Prop:=n <= e.length /\ ∀ i,a.get i = .undef \/ a.get i = e.getD i .undef
theorem Sub.x {n:Nat} {a:EA} {e:Env} (h:Sub n a e) (x:X):x.ea a = .undef \/ x.ea a = x.ev e:=by
 cases x with
 | c v=>exact .inr rfl
 | t i =>
  exact h.2 i
theorem Sub.set {n:Nat} {a:EA} {e:Env} (h:Sub n a e) {d:Option Nat} (hd:∀ i,d = some i -> i < n) (v:V):Sub n (bI a d v) (fE e d v):=by
 cases d with
 | none=>exact h
 | some j =>
  have hj:=hd j rfl;refine ⟨by simp only [fE,List.length_set]; exact h.1,fun i=>?_⟩;simp only [bI,fE,EA.get];by_cases hij:j = i
  · subst hij;rw [if_pos rfl];exact .inr (by rw [List.getD_eq_getElem?_getD,List.getElem?_set_self (by have:=h.1; omega)]; rfl)
  · rw [if_neg hij];rcases h.2 i with h1 | h2
    · exact .inl h1
    · exact .inr (by rw [h2,List.getD_eq_getElem?_getD,List.getD_eq_getElem?_getD,List.getElem?_set_ne hij])
theorem oq:∀ (l:List Nat) (e:EA) (i:Nat),(dN l e).get i = if i ∈ l then e.get i else .undef
 | [],e,i=>by simp [dN,EA.get]
 | j :: l,e,i=>by
  have ih:=oq l e i;simp only [dN] at ih;simp only [dN,List.map_cons,EA.get,ih];by_cases hij:j = i
  · subst hij; simp
  · have hij':¬ i = j:=fun h=>hij h.symm;simp [hij,hij']
theorem Sub.keep {n:Nat} {a:EA} {e:Env} (h:Sub n a e) (l:List Nat):Sub n (dN l a) e:=by
 refine ⟨h.1,fun i=>?_⟩;rw [oq];split
 · exact h.2 i
 · exact .inl rfl
def vv (n:Nat) (keep:List Nat):List Nat:=(List.range n).filter fun i=>!keep.contains i
theorem xI:∀ (l:List Nat) (e:Env) (i:Nat),i ∉ l -> (mask l e).getD i .undef = e.getD i .undef /\ (mask l e).length = e.length
 | [],e,i,_=>⟨rfl,rfl⟩
 | j :: l,e,i,h=>by
  simp only [List.mem_cons,not_or] at h;have ih:=xI l (e.set j .undef) i h.2;simp only [mask] at ih;simp only [mask,List.foldl_cons];refine ⟨ih.1.trans ?_,ih.2.trans (by simp)⟩;rw [List.getD_eq_getElem?_getD,List.getD_eq_getElem?_getD,List.getElem?_set_ne (fun q=>h.1 q.symm)]
theorem xJ:∀ (l:List Nat) (e:Env),(mask l e).length = e.length
 | [],e=>rfl
 | j :: l,e=>by
  have ih:=xJ l (e.set j .undef);simp only [mask] at ih;simp only [mask,List.foldl_cons];exact ih.trans (by simp)
theorem Sub.mask {n:Nat} {a:EA} {e:Env} (h:Sub n a e) (l:List Nat):Sub n (dN l a) (mask (vv n l) e):=by
 refine ⟨by rw [xJ]; exact h.1,fun i=>?_⟩;rw [oq];split
 · rename_i hi;rcases h.2 i with h1 | h2
   · exact .inl h1
   · refine .inr ?_;rw [h2];refine ((xI (vv n l) e i ?_).1).symm;simp [vv,hi]
 · exact .inl rfl
theorem RO.fits_d {n:Nat} {o:RO} (h:o.fits n = true):∀ i,o.d = some i -> i < n:=by
 intro i hi;simp only [RO.fits,hi,Bool.and_eq_true,decide_eq_true_eq] at h;exact h.1.1
theorem lV {C:Calls'} {n:Nat}:∀ {os:List RO} {a:EA} {e:Env} {h:Hp} {a':EA} {h':Hp},os.all (RO.fits n) = true -> Sub n a e -> eX C os a h = some (a',h') -> ∃ e',iU C os e h = some (e',h') /\ Sub n a' e'
 | [],a,e,h,a',h',_,hs,hm=>by simp only [eX] at hm; cases hm; exact ⟨e,rfl,hs⟩
 | o :: os,a,e,h,a',h',hf,hs,hm=>by
  simp only [List.all_cons,Bool.and_eq_true] at hf;have hd:=RO.fits_d hf.1;have hx:∀ x ∈ o.r.xs,x.ea a = .undef \/ x.ea a = x.ev e:=fun x _=>hs.x x;simp only [eX] at hm;simp only [iU];split at hm
  · rename_i hg;simp only [hg];split at hm
    · rename_i v h1 ho;rw [vL hx ho];exact lV hf.2 (hs.set hd v) hm
    · cases hm
  · rename_i j want hg;simp only [hg];have hj:=hs.2 j;split at hm
    · rename_i t ht;have hj2:e.getD j .undef = .d (.bool t):=by rw [ht] at hj; rcases hj with q | q; (· cases q); exact q.symm
      simp only [hj2];split at hm
      · rename_i htw;rw [if_pos htw];split at hm
        · rename_i v h1 ho;rw [vL hx ho];exact lV hf.2 (hs.set hd v) hm
        · cases hm
      · rename_i htw;rw [if_neg htw];exact lV hf.2 (hs.set hd _) hm
    · rename_i ht;have hj2:e.getD j .undef = .tup []:=by rw [ht] at hj; rcases hj with q | q; (· cases q); exact q.symm
      simp only [hj2];exact lV hf.2 (hs.set hd _) hm
    · cases hm
theorem xK {ev:X -> V} {e:Env} {r:R} (C:Calls') {h:Hp} {y:V × Hp} (hx:∀ x ∈ r.xs,ev x = .undef \/ ev x = x.ev e) (hm:opE C r ev h = some y):uA ev r = eU e r /\ qi ev r = dm e r:=by
 cases r <;> first
 | exact ⟨rfl,rfl⟩
 | (simp only [R.xs,List.mem_cons,List.not_mem_nil,or_false,forall_eq_or_imp,forall_eq] at hx
    rcases hx with ⟨h1 | h1,h2 | h2⟩ <;> simp only [uA,eU,qi,dm,h1,h2,and_self] <;> first
     | done
     | (exfalso; revert hm; simp only [opE,h1,h2]; simp [gM,V.cells,gK,fB]; done)
     | (exfalso; revert hm; simp only [opE,h1,h2]; split <;> simp [gM,V.cells,gK,fB]; done)
     | (exfalso; revert hm; simp only [opE,h1,h2]; split <;> split <;> simp_all [gM,V.cells,gK,fB]; done))
 | (simp only [R.xs,List.mem_cons,List.not_mem_nil,or_false,forall_eq_or_imp,forall_eq] at hx
    rcases hx with h1 | h1 <;> simp only [uA,eU,qi,dm,h1,and_self] <;>
     (exfalso; revert hm; simp [opE,h1,loadAt,gK]; done))
 | (rename_i k z x lo hi mx
    rcases hx x (by simp [R.xs]) with h1 | h1
    · exfalso; revert hm; cases k <;> simp [opE,h1,bP]
    · simp only [uA,eU,qi,dm,h1,and_self])
theorem Cj {C:Calls'} {r:R} {ev:X -> V} {e:Env} {h:Hp} {y:V × Hp × Tr} (hx:∀ x ∈ r.xs,ev x = .undef \/ ev x = x.ev e) (hm:bN C r ev h = some y):opD C r e h = some y:=by
 cases r with
 | call f args =>
  simp only [bN] at hm;simp only [opD];split at hm
  · rename_i e1;rw [← nS (ev':=(·.ev e)) (fun x hm=>hx x (by simp [R.xs,hm])) e1];rcases hx f (by simp [R.xs]) with h1 | h1
    · simp [h1,ed] at hm
    · rw [← h1]; exact hm
  · cases hm
 | _ =>
  simp only [bN] at hm;simp only [opD];split at hm
  · rename_i ho;rw [vL hx ho,← (xK C hx ho).1,← (xK C hx ho).2];exact hm
  · cases hm
theorem vQ {C:Calls'} {n:Nat}:∀ {os:List RO} {a:EA} {e:Env} {h:Hp} {l:List Tr} {a':EA} {h':Hp},os.all (RO.fits n) = true -> Sub n a e -> d9 C os a h = some (l,a',h') →
 ∃ l' e',kC C os e h = some (l',e',h') /\ l'.map (·.t) = l /\ Sub n a' e'
 | [],a,e,h,l,a',h',_,hs,hm=>by simp only [d9] at hm; cases hm; exact ⟨[],e,rfl,rfl,hs⟩
 | o :: os,a,e,h,l,a',h',hf,hs,hm=>by
  simp only [List.all_cons,Bool.and_eq_true] at hf;have hd:=RO.fits_d hf.1;have hx:∀ x ∈ o.r.xs,x.ea a = .undef \/ x.ea a = x.ev e:=fun x _=>hs.x x;simp only [d9] at hm;simp only [kC,stepD];have go:∀ {v h1 t},bN C o.r (X.ea a) h = some (v,h1,t) -> (match d9 C os (bI a o.d v) h1 with
   | some (l,e',h'')=>some (t :: l,e',h'')
   | none=>none) = some (l,a',h') -> ∃ l' e',(match kC C os (fE e o.d v) h1 with
   | some (l,e',h')=>some (Stp.mk h v h1 t :: l,e',h')
   | none=>none) = some (l',e',h') /\ l'.map (·.t) = l /\ Sub n a' e':=by
   intro v h1 t _ hm;split at hm
   · rename_i l1 e1 h2 hr;cases hm;obtain ⟨l',e',k1,k2,k3⟩:=vQ hf.2 (hs.set hd v) hr;exact ⟨_,e',by rw [k1],by simp [k2],k3⟩
   · cases hm
  have skip:(match d9 C os (bI a o.d (.tup [])) h with
   | some (l,e',h'')=>some (aV h :: l,e',h'')
   | none=>none) = some (l,a',h') -> ∃ l' e',(match kC C os (fE e o.d (.tup [])) h with
   | some (l,e',h')=>some (Stp.mk h (.tup []) h (aV h) :: l,e',h')
   | none=>none) = some (l',e',h') /\ l'.map (·.t) = l /\ Sub n a' e':=by
   intro hm;split at hm
   · rename_i l1 e1 h2 hr;cases hm;obtain ⟨l',e',k1,k2,k3⟩:=vQ hf.2 (hs.set hd _) hr;exact ⟨_,e',by rw [k1],by simp [k2],k3⟩
   · cases hm
  split at hm
  · rename_i hg;simp only [hg];split at hm
    · rename_i v h1 t ho;rw [Cj hx ho];exact go ho hm
    · cases hm
  · rename_i j want hg;simp only [hg];have hj:=hs.2 j;split at hm
    · rename_i t ht;have hj2:e.getD j .undef = .d (.bool t):=by rw [ht] at hj; rcases hj with q | q; (· cases q); exact q.symm
      simp only [hj2];split at hm
      · rename_i htw;rw [if_pos htw];split at hm
        · rename_i v h1 t ho;rw [Cj hx ho];exact go ho hm
        · cases hm
      · rename_i htw;rw [if_neg htw];exact skip hm
    · rename_i ht;have hj2:e.getD j .undef = .tup []:=by rw [ht] at hj; rcases hj with q | q; (· cases q); exact q.symm
      simp only [hj2];exact skip hm
    · cases hm
def Tr.le (t t':Tr):Prop:=t'.call = t.call /\ t'.big = t.big /\ t'.nd = t.nd /\ t'.wr = t.wr /\ t'.lo = t.lo /\ t'.hi = t.hi /\ t'.bl.n = t.bl.n /\ ∀ b,t.bl.kp.contains b = true -> t'.bl.kp.contains b = true
theorem Tr.le.refl (t:Tr):t.le t:=⟨rfl,rfl,rfl,rfl,rfl,rfl,rfl,fun _ h=>h⟩
theorem Tr.le.spares {t t' u u':Tr} (h:t.le t') (k:u.le u') (hs:t.spares u = true):t'.spares u' = true:=by
 obtain ⟨a1,a2,a3,a4,a5,a6,a7,a8⟩:=h;obtain ⟨b1,b2,b3,b4,b5,b6,b7,b8⟩:=k;unfold Tr.spares at hs ⊢;have hc:t'.calm = t.calm:=by simp only [Tr.calm,a2,a4,a5,a6]
 have hst:u'.still = u.still:=by simp only [Tr.still,b1,b2,b3,b4,b5,b6]
 rw [a2,b2,hc,hst,b1,b3,a4,a5,a6,b5,a7];split at hs
 · rename_i hbg;rw [if_pos hbg];simp only [Bool.or_eq_true] at hs ⊢;rcases hs with ((hs | hs) | hs) | hs
   · exact .inl (.inl (.inl hs))
   · exact .inl (.inl (.inr hs))
   · refine .inl (.inr ?_);simp only [Bool.and_eq_true] at hs ⊢;refine ⟨hs.1,?_⟩;rw [List.all_eq_true] at hs ⊢;intro b hb;have:=hs.2 b hb;simp only [Bool.or_eq_true] at this ⊢;exact this.imp id (a8 b)
   · exact .inr hs
 · rename_i hbg;rw [if_neg hbg];exact hs
def TrsLe:List Tr -> List Tr -> Prop
 | [],[]=>True
 | t :: l,t' :: l'=>t.le t' /\ TrsLe l l'
 | _,_=>False
theorem TrsLe.len:∀ {l l':List Tr},TrsLe l l' -> l.length = l'.length
 | [],[],_=>rfl
 | _ :: _,_ :: _,h=>by simp [TrsLe.len h.2]
 | [],_ :: _,h=>h.elim
 | _ :: _,[],h=>h.elim
theorem TrsLe.get:∀ {l l':List Tr},TrsLe l l' -> ∀ {i:Nat} {s:Tr},l[i]? = some s -> ∃ s',l'[i]? = some s' /\ s.le s'
 | _ :: _,t' :: _,h,0,s,hs=>by
  simp only [List.getElem?_cons_zero,Option.some.injEq] at hs;subst hs;exact ⟨t',rfl,h.1⟩
 | _ :: _,_ :: _,h,i + 1,s,hs=>by
  simp only [List.getElem?_cons_succ] at hs ⊢;exact TrsLe.get h.2 hs
 | [],[],_,_,_,hs=>by simp at hs
 | [],_ :: _,h,_,_,_=>h.elim
 | _ :: _,[],h,_,_,_=>h.elim
theorem TrsLe.apart {pr:List (List Nat)} {l l':List Tr} (h:TrsLe l l') (ha:fA pr l = true):fA pr l' = true:=by
 unfold fA at ha ⊢;rw [← h.len];simp only [List.all_eq_true,List.mem_range] at ha ⊢;intro i hi j hj;have:=ha i hi j hj;simp only [Bool.or_eq_true] at this ⊢;rcases this with hh | hh
 · exact .inl hh
 · refine .inr ?_;rw [List.getElem?_eq_getElem hi,List.getElem?_eq_getElem hj] at hh;simp only at hh;obtain ⟨s,hs,ms⟩:=h.get (List.getElem?_eq_getElem hi);obtain ⟨t,ht,mt⟩:=h.get (List.getElem?_eq_getElem hj);rw [hs,ht];exact ms.spares mt hh
def Tr.drop (t:Tr):Tr:=⟨t.call,t.big,t.nd,t.wr,t.lo,t.hi,⟨t.bl.n,[]⟩⟩
theorem Tr.drop_le (t:Tr):t.drop.le t:=⟨rfl,rfl,rfl,rfl,rfl,rfl,rfl,fun b hb=>by cases hb⟩
theorem drop_le:∀ l:List Tr,TrsLe (l.map Tr.drop) l
 | []=>trivial
 | t :: l=>⟨t.drop_le,drop_le l⟩
theorem rF {pr:List (List Nat)} {l:List Tr} (h:fA pr (l.map Tr.drop) = true):fA pr l = true:=(drop_le l).apart h
theorem zm (pr:List (List Nat)) (l:List Stp):fA pr (l.map (·.t)) = pG pr l:=by
 simp only [fA,pG,List.length_map]
 congr 1; funext i; congr 1; funext j; congr 1
 simp only [List.getElem?_map];cases l[i]? <;> cases l[j]? <;> rfl
theorem HZ {C:Calls'} {n:Nat} {pr:List (List Nat)} {os:List RO} {a:EA} {e:Env} {h:Hp} {a':EA} {h':Hp} (hf:os.all (RO.fits n) = true) (hs:Sub n a e) (hm:aN C pr os a h = some (a',h')) :
 ∃ e',sV C pr os e h = some (e',h') /\ Sub n a' e':=by
 unfold aN at hm;split at hm
 · rename_i l a1 h1 hr;split at hm
   · rename_i hap;cases hm;obtain ⟨l',e',k1,k2,k3⟩:=vQ hf hs hr;refine ⟨e',?_,k3⟩;unfold sV;rw [k1];subst k2;rw [zm] at hap;simp only [hap,if_true]
   · cases hm
 · cases hm
def kindOk (r:R) (t:Tr):Prop:=t.call = false /\ t.big = false /\ (r.reads = false -> t.nd = []) /\ (r.writes = false -> t.wr = []) /\ (r.lays = false -> r.writes = false -> t.lo = t.hi)
theorem HV {C:Calls'} {r:R} {e:Env} {h:Hp} {v:V} {h':Hp} (hc:r.isCall = false) (h1:r.lays = false) (h2:r.writes = false) (hm:opM C r e h = some (v,h')):h' = h:=by
 cases r <;> simp [R.isCall,R.lays,R.writes] at hc h1 h2 <;> simp only [opM,one] at hm;all_goals first
 | (cases hm; rfl)
 | (simp only [Option.map_eq_some_iff,Prod.mk.injEq] at hm; obtain ⟨_,_,_,rfl⟩:=hm; rfl)
 | (split at hm <;> first | (cases hm; rfl) | (simp only [Option.map_eq_some_iff,Prod.mk.injEq] at hm; obtain ⟨_,_,_,rfl⟩:=hm; rfl))
 | ((repeat' split at hm) <;> first | (cases hm; rfl) | cases hm | (simp only [Option.map_eq_some_iff,Prod.mk.injEq] at hm; obtain ⟨_,_,_,rfl⟩:=hm; rfl))
theorem xN {C:Calls'} {r:R} {e:Env} {h:Hp} {v:V} {h':Hp} (hc:r.isCall = false) (hm:opM C r e h = some (v,h')):∃ t,opD C r e h = some (v,h',t) /\ kindOk r t:=by
 have hs:=HV (C:=C) (e:=e) (h:=h) (v:=v) (h':=h') hc;cases r with
 | call f args=>simp [R.isCall] at hc
 | _ =>
  refine ⟨_,by simp only [opD,hm]; rfl,rfl,rfl,?_,?_,fun h1 h2=>by rw [hs h1 h2 hm]⟩ <;> intro q <;> first | rfl | (simp [R.reads,R.writes] at q; done)
theorem wR {C:Calls'}:∀ {os:List RO} {e:Env} {h:Hp} {e':Env} {h':Hp},os.all (fun o=>!o.r.isCall) = true -> iU C os e h = some (e',h') →
 ∃ l,kC C os e h = some (l,e',h') /\ l.length = os.length /\ ∀ (i:Nat) (s:Stp) (o:RO),l[i]? = some s -> os[i]? = some o -> kindOk o.r s.t
 | [],e,h,e',h',_,hm=>by simp only [iU] at hm; cases hm; exact ⟨[],rfl,rfl,fun i s o h1=>by simp at h1⟩
 | o :: os,e,h,e',h',hc,hm=>by
  simp only [List.all_cons,Bool.and_eq_true,Bool.not_eq_true'] at hc;simp only [iU] at hm;simp only [kC,stepD];have hn:kindOk o.r (aV h):=⟨rfl,rfl,fun _=>rfl,fun _=>rfl,fun _ _=>rfl⟩;have fin:∀ {v:V} {h1:Hp} {t:Tr},kindOk o.r t -> iU C os (fE e o.d v) h1 = some (e',h') -> ∃ l,(match kC C os (fE e o.d v) h1 with
   | some (l,e',h')=>some (Stp.mk h v h1 t :: l,e',h')
   | none=>none) = some (l,e',h') /\ l.length = (o :: os).length /\ ∀ (i:Nat) (s:Stp) (o':RO),l[i]? = some s -> (o :: os)[i]? = some o' -> kindOk o'.r s.t:=by
   intro v h1 t hk hm;obtain ⟨l,k1,k2,k3⟩:=wR hc.2 hm;refine ⟨_ :: l,by rw [k1],by simp [k2],fun i s o' q1 q2=>?_⟩;cases i with
   | zero=>simp at q1 q2; subst q1 q2; exact hk
   | succ i=>exact k3 i s o' (by simpa using q1) (by simpa using q2)
  split at hm
  · rename_i j want hg;simp only [hg];split at hm
    · rename_i t ht;split at hm
      · rename_i htw;rw [if_pos htw];split at hm
        · rename_i v h1 ho;obtain ⟨t,k1,k2⟩:=xN hc.1 ho;rw [k1];exact fin k2 hm
        · cases hm
      · rename_i htw;rw [if_neg htw];exact fin hn hm
    · rename_i ht;exact fin hn hm
    · cases hm
  · rename_i hg;simp only [hg];split at hm
    · rename_i v h1 ho;obtain ⟨t,k1,k2⟩:=xN hc.1 ho;rw [k1];exact fin k2 hm
    · cases hm
theorem yf {a b:R} {s t:Tr} (hs:kindOk a s) (ht:kindOk b t) (hp:zY a b = true):s.spares t = true:=by
 obtain ⟨s1,s2,s3,s4,s5⟩:=hs;obtain ⟨t1,t2,t3,t4,t5⟩:=ht;simp only [Tr.spares,s2,t2,t1,Bool.or_self,Bool.false_eq_true,if_false,List.all_eq_true];intro x hx;simp only [zY,R.free,R.still,Bool.or_eq_true,Bool.and_eq_true,Bool.not_eq_true'] at hp;rcases hp with ((⟨⟨p1,p2⟩,p3⟩ | ⟨⟨p1,p2⟩,p3⟩) | ⟨⟨p1,p2⟩,⟨p3,p4⟩⟩) | ⟨p1,p2⟩
 · rw [s4 p3,s5 p2 p3]; simp; omega
 · rw [t3 p1] at hx; cases hx
 · rw [s4 p2,s5 p1 p2]; simp; omega
 · rw [t3 (by cases b <;> simp [R.lays,R.reads] at p2 ⊢)] at hx; cases hx
theorem FC {C:Calls'} {pr:List (List Nat)} {os:List RO} {e:Env} {h:Hp} {e':Env} {h':Hp} (hc:BH pr os = true) (hm:iU C os e h = some (e',h')):sV C pr os e h = some (e',h'):=by
 simp only [BH,Bool.and_eq_true] at hc;obtain ⟨l,k1,k2,k3⟩:=wR hc.1 hm;unfold sV;rw [k1];have:pG pr l = true:=by
  simp only [pG,List.all_eq_true,List.mem_range];intro i hi j hj;have:=List.all_eq_true.1 (List.all_eq_true.1 hc.2 i (List.mem_range.2 (by omega))) j (List.mem_range.2 (by omega));simp only [Bool.or_eq_true] at this ⊢;refine this.imp id fun q=>?_;rw [List.getElem?_eq_getElem (show i < os.length by omega),List.getElem?_eq_getElem (show j < os.length by omega)] at q;rw [List.getElem?_eq_getElem hi,List.getElem?_eq_getElem hj];exact yf (k3 i _ _ (List.getElem?_eq_getElem hi) (List.getElem?_eq_getElem (show i < os.length by omega))) (k3 j _ _ (List.getElem?_eq_getElem hj) (List.getElem?_eq_getElem (show j < os.length by omega))) q
 simp only [this,if_true]
end
end Go.Proofs.YtjkfknafpgfchaaGreat
