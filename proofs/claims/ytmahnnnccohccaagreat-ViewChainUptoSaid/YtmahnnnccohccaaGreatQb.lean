/- The reading with lists of slots is the reading: what it answers, that answers. -/
import Derived.Test.YtmahnnnccohccaaGreatQa
set_option linter.unusedVariables false
set_option linter.unusedSimpArgs false
namespace Go.Proofs.YtmahnnnccohccaaGreat
theorem nu_some {v w:V} (h:nu v = some w):v = w /\ v ≠ .undef:=by
 cases v <;> simp [nu] at h <;> exact ⟨h,by simp⟩
theorem okV_ne {v:V} (h:okV v = true):v ≠ .undef:=by
 intro hv; subst hv; cases h
theorem all_okV {l:List X} {ev ev':X -> V} (hx:∀ x ∈ l,ev x = .undef \/ ev x = ev' x) (h:l.all (fun x=>okV (ev x)) = true):l.map ev = l.map ev':=by
 apply List.map_congr_left
 intro x hm
 rcases hx x hm with h1 | h1
 · exact absurd h1 (okV_ne (List.all_eq_true.1 h x hm))
 · exact h1
theorem fillsE_le {ev:X -> V} {e:Env}:∀ {ps:List (Nat × Nat × X)} {cs r:List V},(∀ p ∈ ps,ev p.2.2 = .undef \/ ev p.2.2 = p.2.2.ev e) -> fillsE ev cs ps = some r -> fills e cs ps = some r
 | [],cs,r,_,h=>h
 | (o,n,x) :: ps,cs,r,hx,h=>by
  simp only [fillsE] at h
  simp only [fills]
  rcases hx (o,n,x) (by simp) with h1 | h1
  · simp only at h1
    simp [h1,V.cells] at h
  · simp only at h1
    rw [h1] at h
    cases hc:(x.ev e).cells with
    | none=>simp [hc] at h
    | some xs =>
     simp only [hc] at h ⊢
     split at h
     · rename_i hl
       rw [if_pos hl]
       cases hp:put cs o xs with
       | none=>simp [hp] at h
       | some cs' =>
        simp only [hp] at h ⊢
        exact fillsE_le (fun p hp=>hx p (List.mem_cons_of_mem _ hp)) h
     · cases h
theorem boundE_le {ev:X -> V} {e:Env} {x:Option X} {dft n:Nat} (hx:∀ y ∈ x.toList,ev y = .undef \/ ev y = y.ev e) (h:boundE ev x dft = some n):bound e x dft = some n:=by
 cases x with
 | none=>exact h
 | some x =>
  rcases hx x (by simp) with h1 | h1
  · simp [boundE,h1] at h
  · simp only [boundE,h1] at h; exact h
theorem sliceE_le {hp:Hp} {ev:X -> V} {e:Env} {k:SK} {z:Nat} {x:V} {lo hi mx:Option X} {r:V} (hx:∀ y ∈ lo.toList ++ hi.toList ++ mx.toList,ev y = .undef \/ ev y = y.ev e)
 (h:sliceE hp ev k z x lo hi mx = some r):sliceOf hp e k z x lo hi mx = some r:=by
 have hlo:∀ {d n},boundE ev lo d = some n -> bound e lo d = some n:=fun h=>boundE_le (fun y hy=>hx y (by simp [hy])) h
 have hhi:∀ {d n},boundE ev hi d = some n -> bound e hi d = some n:=fun h=>boundE_le (fun y hy=>hx y (by simp [hy])) h
 have hmx:∀ {m:X} {d n},mx = some m -> boundE ev (some m) d = some n -> bound e (some m) d = some n:=fun q h=>boundE_le (fun y hy=>hx y (by simp at hy; simp [q,hy])) h
 unfold sliceE at h
 unfold sliceOf
 split at h <;> try dsimp only at h ⊢
 · split at h
   · rename_i _ _ e1 e2
     rw [hlo e1,hhi e2]; exact h
   · cases h
 · split at h
   · rename_i _ _ e1 e2
     rw [hlo e1,hhi e2]; exact h
   · rename_i _ _ _ e1 e2
     split at h
     · rename_i e3
       rw [hlo e1,hhi e2]; simp only [hmx rfl e3]; exact h
     · cases h
   · cases h
 · split at h
   · rename_i _ _ e1 e2
     rw [hlo e1,hhi e2]; exact h
   · cases h
 · split at h
   · rename_i _ _ e1 e2
     rw [hlo e1,hhi e2]; exact h
   · cases h
 · cases h
theorem binD_ul {op:BinOp} {y:V}:binD op .undef y = none:=by cases op <;> simp [binD]
theorem binD_ur {op:BinOp} {x:V}:binD op x .undef = none:=by cases op <;> cases x <;> simp [binD]
theorem valEq_ul {q:EQ} {y:V}:valEq q .undef y = none:=by cases q <;> simp [valEq]
theorem valEq_ur {q:EQ} {x:V}:valEq q x .undef = none:=by cases q <;> cases x <;> simp [valEq]
theorem storeAt_u {h:Hp} {xs:List V}:storeAt h .undef xs = none:=rfl
theorem rowCells_u {h:Hp} {z:Nat}:rowCells h .undef z = none:=rfl
theorem appendAt_u {h:Hp} {z b m:Nat} {xs:List V}:appendAt h z b .undef m xs = none:=rfl
theorem opE_opM {C:Calls'} {r:R} {ev:X -> V} {e:Env} {h:Hp} {y:V × Hp} (hx:∀ x ∈ r.xs,ev x = .undef \/ ev x = x.ev e) (hm:opE C r ev h = some y):opM C r e h = some y:=by
 cases r with
 | mov x =>
  rcases hx x (by simp [R.xs]) with h1 | h1
  · simp [opE,h1,nu] at hm
  · simp only [opE,opM,h1] at hm ⊢
    cases hn:nu (x.ev e) with
    | none=>simp [hn] at hm
    | some v=>simp [hn] at hm; rw [(nu_some hn).1]; exact congrArg some hm
 | pick c a b =>
  rcases hx c (by simp [R.xs]) with h1 | h1
  · simp [opE,h1] at hm
  · simp only [opE,opM,h1] at hm ⊢
    split at hm
    · rename_i t ht
      rw [ht]
      dsimp only
      have key:∀ z,z ∈ [a,b] -> ∀ v,nu (ev z) = some v -> z.ev e = v:=by
       intro z hz v hv
       obtain ⟨q1,q2⟩:=nu_some hv
       rcases hx z (by simp only [R.xs]; exact List.mem_cons_of_mem _ hz) with h2 | h2
       · exact absurd h2 q2
       · rw [← h2,q1]
      cases t
      · simp only [Bool.false_eq_true,if_false] at hm ⊢
        cases hn:nu (ev b) with
        | none=>simp [hn] at hm
        | some v=>simp [hn] at hm; rw [key b (by simp) v hn]; exact congrArg some hm
      · simp only [if_true] at hm ⊢
        cases hn:nu (ev a) with
        | none=>simp [hn] at hm
        | some v=>simp [hn] at hm; rw [key a (by simp) v hn]; exact congrArg some hm
    · cases hm
 | new z=>exact hm
 | box x =>
  rcases hx x (by simp [R.xs]) with h1 | h1
  · simp [opE,h1,V.cells] at hm
  · simp only [opE,opM,h1] at hm ⊢; exact hm
 | build zero ps =>
  simp only [opE,opM] at hm ⊢
  split at hm
  · rename_i e1
    rw [fillsE_le (fun p hp=>hx _ (by simp only [R.xs]; exact List.mem_map.2 ⟨p,hp,rfl⟩)) e1]; exact hm
  · cases hm
 | buildS z n zero ps =>
  simp only [opE,opM] at hm ⊢
  split at hm
  · rename_i e1
    rw [fillsE_le (fun p hp=>hx _ (by simp only [R.xs]; exact List.mem_map.2 ⟨p,hp,rfl⟩)) e1]; exact hm
  · cases hm
 | mkfn f caps =>
  simp only [opE,opM] at hm ⊢
  split at hm
  · rename_i e1
    rw [← all_okV (ev':=(·.ev e)) (fun x hm=>hx x (by simpa [R.xs] using hm)) e1]; exact hm
  · cases hm
 | mkmv f caps =>
  simp only [opE,opM] at hm ⊢
  split at hm
  · rename_i e1
    rw [← all_okV (ev':=(·.ev e)) (fun x hm=>hx x (by simpa [R.xs] using hm)) e1]; exact hm
  · cases hm
 | call f args =>
  simp only [opE,opM] at hm ⊢
  split at hm
  · rename_i e1
    rw [← all_okV (ev':=(·.ev e)) (fun x hm=>hx x (by simp [R.xs,hm])) e1]
    rcases hx f (by simp [R.xs]) with h1 | h1
    · simp [h1,callM] at hm
    · rw [← h1]; exact hm
  · cases hm
 | minmax mx xs =>
  simp only [opE] at hm
  split at hm
  · rename_i e1
    rw [all_okV (ev':=(·.ev e)) (fun x hm=>hx x (by simpa [R.xs] using hm)) e1] at hm
    cases xs with
    | nil=>cases hm
    | cons x xs=>exact hm
  · cases hm
 | slc k z x lo hi mx =>
  simp only [opE,opM] at hm ⊢
  rcases hx x (by simp [R.xs]) with h1 | h1
  · rw [h1] at hm
    cases k <;> simp [sliceE] at hm
  · rw [h1] at hm
    cases hs:sliceE h ev k z (x.ev e) lo hi mx with
    | none=>rw [hs] at hm; simp at hm
    | some r =>
     rw [hs] at hm
     rw [sliceE_le (e:=e) (fun y hy=>hx y (by simp only [R.xs,List.append_assoc] at hy ⊢; simp only [List.mem_append] at hy ⊢; exact .inr hy)) hs]
     exact hm
 | _ =>
  simp only [R.xs,List.mem_cons,List.not_mem_nil,or_false,forall_eq_or_imp,forall_eq] at hx
  simp only [opE,opM] at hm ⊢
  first
  | (rcases hx with ⟨h1 | h1,h2 | h2⟩ <;> rw [h1,h2] at hm <;> first
      | exact hm
      | (exfalso; simp [binD_ul,binD_ur,valEq_ul,valEq_ur,one] at hm; done)
      | (exfalso; revert hm; simp [loadAt,storeAt_u,V.cells,one,rowCells_u,appendAt_u]; done)
      | (exfalso; revert hm; split <;> simp [storeAt_u,appendAt_u]; done)
      | (exfalso; revert hm; split <;> split <;> simp [storeAt_u,appendAt_u]; done)
      | (exfalso; revert hm; (repeat' split) <;> simp_all [storeAt_u,appendAt_u]; done))
  | (rcases hx with h1 | h1 <;> rw [h1] at hm <;> first
      | exact hm
      | (exfalso; revert hm; simp [loadAt,storeAt,unD,valEq,V.cells,V.len,one,rowCells,appendAt]; done)
      | (exfalso; revert hm; (repeat' split) <;> simp_all [unD,V.len,rowCells_u]; done))
end Go.Proofs.YtmahnnnccohccaaGreat
