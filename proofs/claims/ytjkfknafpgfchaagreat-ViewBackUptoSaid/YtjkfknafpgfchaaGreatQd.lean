/- Calls: what the reading with lists of slots answers, holds of the program. -/
import Derived.Test.YtjkfknafpgfchaaGreatQb
set_option linter.unusedVariables false
set_option linter.unusedSimpArgs false
namespace Go.Proofs.YtjkfknafpgfchaaGreat
def gJ (n:Nat):RC -> QC -> RC
 | .seq a b,.seq a' b'=>.seq (gJ n a a') (gJ n b b')
 | .cond c a b,.cond _ a' b'=>.cond c (gJ n a a') (gJ n b b')
 | .block i b,.block _ b'=>.block i (gJ n b b')
 | .loop _ b,.loop keep b'=>.loop (vv n keep) (gJ n b b')
 | c,_=>c
theorem iW {n:Nat}:∀ {c:RC} {q:QC},(gJ n c q).strip = c.strip
 | .seq a b,.seq a' b'=>by simp only [gJ,RC.strip,iW]
 | .cond c a b,.cond _ a' b'=>by simp only [gJ,RC.strip,iW]
 | .block i b,.block _ b'=>by simp only [gJ,RC.strip,iW]
 | .loop _ b,.loop keep b'=>by simp only [gJ,RC.strip,iW]
 | .skip,q | .ret,q | .exit i,q | .reg pr os,q=>by cases q <;> rfl
 | .seq a b,.skip | .seq a b,.ret _ | .seq a b,.exit _ _ | .seq a b,.reg _ _ | .seq a b,.cond _ _ _ | .seq a b,.block _ _ | .seq a b,.loop _ _=>rfl
 | .cond _ a b,.skip | .cond _ a b,.ret _ | .cond _ a b,.exit _ _ | .cond _ a b,.reg _ _ | .cond _ a b,.seq _ _ | .cond _ a b,.block _ _ | .cond _ a b,.loop _ _=>rfl
 | .block _ b,.skip | .block _ b,.ret _ | .block _ b,.exit _ _ | .block _ b,.reg _ _ | .block _ b,.seq _ _ | .block _ b,.cond _ _ _ | .block _ b,.loop _ _=>rfl
 | .loop _ b,.skip | .loop _ b,.ret _ | .loop _ b,.exit _ _ | .loop _ b,.reg _ _ | .loop _ b,.seq _ _ | .loop _ b,.cond _ _ _ | .loop _ b,.block _ _=>rfl
theorem Ee {c:RC} {a b:RC} (h:c.quiet = .seq a b):∃ a' b',c = .seq a' b' /\ a'.quiet = a /\ b'.quiet = b:=by
 cases c with
 | reg pr os=>cases pr with
  | none=>cases h
  | some pr=>simp only [RC.quiet] at h; split at h <;> cases h
 | seq x y=>simp only [RC.quiet] at h; cases h; exact ⟨_,_,rfl,rfl,rfl⟩
 | _=>cases h
theorem Af {c:RC} {x:X} {a b:RC} (h:c.quiet = .cond x a b):∃ a' b',c = .cond x a' b' /\ a'.quiet = a /\ b'.quiet = b:=by
 cases c with
 | reg pr os=>cases pr with
  | none=>cases h
  | some pr=>simp only [RC.quiet] at h; split at h <;> cases h
 | cond c x y=>simp only [RC.quiet] at h; cases h; exact ⟨_,_,rfl,rfl,rfl⟩
 | _=>cases h
theorem yu {c:RC} {i:Nat} {b:RC} (h:c.quiet = .block i b):∃ b',c = .block i b' /\ b'.quiet = b:=by
 cases c with
 | reg pr os=>cases pr with
  | none=>cases h
  | some pr=>simp only [RC.quiet] at h; split at h <;> cases h
 | block i x=>simp only [RC.quiet] at h; cases h; exact ⟨_,rfl,rfl⟩
 | _=>cases h
theorem Ag {c:RC} {d:List Nat} {b:RC} (h:c.quiet = .loop d b):∃ b',c = .loop d b' /\ b'.quiet = b:=by
 cases c with
 | reg pr os=>cases pr with
  | none=>cases h
  | some pr=>simp only [RC.quiet] at h; split at h <;> cases h
 | loop i x=>simp only [RC.quiet] at h; cases h; exact ⟨_,rfl,rfl⟩
 | _=>cases h
theorem dQ {C:Calls'} {N:Nat}:∀ {n:Nat} {c:RC} {q:QC} {a:EA} {e:Env} {h:Hp} {ex:Ex} {a':EA} {h':Hp},c.quiet = q.toRC -> q.fits N = true -> Sub N a e -> aO C n q a h = some (ex,a',h') →
 ∃ e',aT C n (gJ N c q) e h = some (ex,e',h') /\ Sub N a' e'
 | 0,c,q,a,e,h,ex,a',h',_,_,_,hm=>by simp [aO] at hm
 | n + 1,c,q,a,e,h,ex,a',h',hq,hf,hs,hm=>by
  cases q with
  | skip =>
   have:c = .skip:=by
    cases c with
    | reg pr os=>cases pr with
     | none=>cases hq
     | some pr=>simp only [RC.quiet,QC.toRC] at hq; split at hq <;> cases hq
    | skip=>rfl
    | _=>cases hq
   subst this;simp only [aO] at hm; cases hm;exact ⟨e,rfl,hs⟩
  | ret keep =>
   have:c = .ret:=by
    cases c with
    | reg pr os=>cases pr with
     | none=>cases hq
     | some pr=>simp only [RC.quiet,QC.toRC] at hq; split at hq <;> cases hq
    | ret=>rfl
    | _=>cases hq
   subst this;simp only [aO] at hm; cases hm;exact ⟨e,rfl,hs.keep _⟩
  | exit i keep =>
   have:c = .exit i:=by
    cases c with
    | reg pr os=>cases pr with
     | none=>cases hq
     | some pr=>simp only [RC.quiet,QC.toRC] at hq; split at hq <;> cases hq
    | exit i=>cases hq; rfl
    | _=>cases hq
   subst this;simp only [aO] at hm; cases hm;exact ⟨e,rfl,hs.keep _⟩
  | reg pr os =>
   have hc:c = .reg pr os \/ ∃ p,pr = none /\ c = .reg (some p) os /\ BH p os = true:=by
    cases c with
    | reg pr' os'=>cases pr' with
     | none=>cases hq; exact .inl rfl
     | some p =>
      simp only [RC.quiet,QC.toRC] at hq;split at hq
      · rename_i hcalm; cases hq; exact .inr ⟨p,rfl,rfl,hcalm⟩
      · cases hq; exact .inl rfl
    | _=>cases hq
   have hfo:os.all (RO.fits N) = true:=hf;rcases hc with rfl | ⟨p,rfl,rfl,hcalm⟩
   · cases pr with
     | none =>
      simp only [aO,lead] at hm;split at hm
      · rename_i a1 h1 ho;cases hm;obtain ⟨e',k1,k2⟩:=lV hfo hs ho;exact ⟨e',by simp only [gJ,aT,k1],k2⟩
      · cases hm
     | some p =>
      simp only [aO,lead] at hm;split at hm
      · rename_i a1 h1 ho;cases hm;obtain ⟨e',k1,k2⟩:=HZ hfo hs ho;exact ⟨e',by simp only [gJ,aT,k1],k2⟩
      · cases hm
   · simp only [aO,lead] at hm;split at hm
     · rename_i a1 h1 ho;cases hm;obtain ⟨e',k1,k2⟩:=lV hfo hs ho;exact ⟨e',by simp only [gJ,aT,FC hcalm k1],k2⟩
     · cases hm
  | seq x y =>
   obtain ⟨x',y',rfl,q1,q2⟩:=Ee hq;simp only [QC.fits,Bool.and_eq_true] at hf;simp only [aO,bY] at hm;split at hm
   · rename_i a1 h1 ho;obtain ⟨e1,k1,k2⟩:=dQ q1 hf.1 hs ho;obtain ⟨e2,k3,k4⟩:=dQ q2 hf.2 k2 hm;exact ⟨e2,by simp only [gJ,aT,k1,k3],k4⟩
   · rename_i o hne;obtain ⟨e1,k1,k2⟩:=dQ q1 hf.1 hs hm;refine ⟨e1,?_,k2⟩;simp only [gJ,aT,k1];cases ex with
     | normal=>exact absurd hm (hne _ _)
     | _=>rfl
  | cond x y z =>
   obtain ⟨y',z',rfl,q1,q2⟩:=Af hq;simp only [QC.fits,Bool.and_eq_true] at hf;simp only [aO,fork] at hm;have hx:=hs.x x;split at hm
   · rename_i hv;have hv2:x.ev e = .d (.bool true):=by rw [hv] at hx; rcases hx with w | w; (· cases w); exact w.symm
     obtain ⟨e1,k1,k2⟩:=dQ q1 hf.1.2 hs hm;exact ⟨e1,by simp only [gJ,aT,hv2,if_true,k1],k2⟩
   · rename_i hv;have hv2:x.ev e = .d (.bool false):=by rw [hv] at hx; rcases hx with w | w; (· cases w); exact w.symm
     obtain ⟨e1,k1,k2⟩:=dQ q2 hf.2 hs hm;exact ⟨e1,by simp only [gJ,aT,hv2,Bool.false_eq_true,if_false,k1],k2⟩
   · cases hm
  | block i b =>
   obtain ⟨b',rfl,q1⟩:=yu hq;simp only [aO,leave] at hm;split at hm
   · rename_i j a1 h1 ho;obtain ⟨e1,k1,k2⟩:=dQ q1 hf hs ho;split at hm
     · rename_i hji;cases hm;exact ⟨e1,by simp only [gJ,aT,k1,if_pos hji],k2⟩
     · rename_i hji;cases hm;exact ⟨e1,by simp only [gJ,aT,k1,if_neg hji],k2⟩
   · rename_i o hne;obtain ⟨e1,k1,k2⟩:=dQ q1 hf hs hm;refine ⟨e1,?_,k2⟩;simp only [gJ,aT,k1];cases ex with
     | exit j=>exact absurd hm (hne _ _ _)
     | _=>rfl
  | loop keep b =>
   obtain ⟨b',rfl,q1⟩:=Ag hq;simp only [aO,bY] at hm;split at hm
   · rename_i a1 h1 ho;obtain ⟨e1,k1,k2⟩:=dQ q1 hf (hs.mask keep) ho;obtain ⟨e2,k3,k4⟩:=dQ (c:=.loop [] b') (q:=.loop keep b) hq hf k2 hm;exact ⟨e2,by simp only [gJ] at k3 ⊢; simp only [aT,k1,k3],k4⟩
   · rename_i o hne;obtain ⟨e1,k1,k2⟩:=dQ q1 hf (hs.mask keep) hm;refine ⟨e1,?_,k2⟩;simp only [gJ,aT,k1];cases ex with
     | normal=>exact absurd hm (hne _ _)
     | _=>rfl
theorem rq {N:Nat} {h:Hp} {a:EA} {e:Env} (hs:Sub N a e):∀ {l:List RV} {vs:List V},kI h a l = some vs -> qa h e l = some vs
 | [],vs,hm=>hm
 | .tmp t :: l,vs,hm=>by
  simp only [kI] at hm;split at hm
  · rename_i v vs' hv hr;cases hm;obtain ⟨q1,q2⟩:=vK hv;simp only [qa,rq hs hr];rcases hs.2 t with w | w
    · exact absurd (q1 ▸ w) q2
    · rw [← w,q1]
  · cases hm
 | .cell t sc n :: l,vs,hm=>by
  simp only [kI] at hm;split at hm
  · rename_i cs hl;split at hm
    · rename_i v vs' hv hr;cases hm;have:a.get t = e.getD t .undef:=by
       rcases hs.2 t with w | w
       · rw [w] at hl; simp [loadAt] at hl
       · exact w
      simp only [qa,← this,hl,hv,rq hs hr]
    · cases hm
  · cases hm
theorem wM:∀ (i:Nat) (vs:List V) (j:Nat),(iA i vs).get j = if i <= j then vs.getD (j - i) .undef else .undef
 | i,[],j=>by simp [iA,EA.get]
 | i,v :: l,j=>by
  simp only [iA,EA.get,wM (i + 1) l j];by_cases h:i = j
  · subst h; simp
  · by_cases h2:i <= j
    · have:j - i = (j - (i + 1)) + 1:=by omega
      rw [if_neg h,if_pos (by omega),if_pos h2,this]; simp
    · rw [if_neg h,if_neg (by omega),if_neg h2]
theorem wN {N:Nat} {vs:List V}:Sub N (iA 0 vs) (vs ++ List.replicate (N - vs.length) .undef):=by
 refine ⟨by simp; omega,fun i=>?_⟩;rw [wM,if_pos (Nat.zero_le _)];simp only [Nat.sub_zero,List.getD_eq_getElem?_getD];rcases Nat.lt_or_ge i vs.length with h | h
 · right;rw [List.getElem?_append_left h]
 · left;rw [List.getElem?_eq_none h]; rfl
def kN (P:Program) (T:FuncId -> Option QF):Prop:=∀ f q,T f = some q -> ∃ rf,AC P f = some rf /\ rf.quiet = q.toRF /\ q.fits = true
def A9 (P:Program) (T:FuncId -> Option QF) (f:FuncId):Option RF:=match T f,AC P f with
 | some q,some rf=>some ⟨rf.ntmps,rf.res,gJ rf.ntmps rf.code q.code⟩
 | _,_=>none
theorem Fv {C:Calls'} {n:Nat} {q:QF} {rf:RF} (hq:rf.quiet = q.toRF) (hf:q.fits = true) {args:List V} {h:Hp} {r:V} {h':Hp} (hm:iB C n q args h = some (r,h')) :
 mG C n ⟨rf.ntmps,rf.res,gJ rf.ntmps rf.code q.code⟩ args h = some (r,h'):=by
 have e1:rf.ntmps = q.ntmps:=congrArg RF.ntmps hq;have e2:rf.res = q.res:=congrArg RF.res hq;have e3:rf.code.quiet = q.code.toRC:=congrArg RF.code hq;simp only [QF.fits,Bool.and_eq_true] at hf;unfold iB done at hm;unfold mG;split at hm
 · rename_i a1 h1 ho;obtain ⟨e',k1,k2⟩:=dQ (N:=rf.ntmps) e3 (by rw [e1]; exact hf.1) wN ho;simp only [k1];split at hm
   · rename_i vs hr;cases hm;rw [e2,rq k2 hr]
   · cases hm
 · rename_i a1 h1 ho;obtain ⟨e',k1,k2⟩:=dQ (N:=rf.ntmps) e3 (by rw [e1]; exact hf.1) wN ho;simp only [k1];split at hm
   · rename_i vs hr;cases hm;rw [e2,rq k2 hr]
   · cases hm
 · cases hm
theorem CL {P:Program} {E:Calls'} {T:FuncId -> Option QF} (hT:kN P T) (val:FuncId -> Bool):∀ (k:Nat) {f:FuncId} {args:List V} {h:Hp} {r:V × Hp},dn E T val k f args h = some r -> ug E (A9 P T) val k f args h = some r
 | 0,f,args,h,r,hm=>by simp [dn] at hm
 | k + 1,f,args,h,r,hm=>by
  have ih:Leq (dn E T val k) (ug E (A9 P T) val k):=fun _ _ _ _=>CL hT val k;simp only [dn] at hm;simp only [ug];split at hm
  · rename_i hf;simp only [A9,hf];exact hm
  · rename_i q hf;obtain ⟨rf,h1,h2,h3⟩:=hT f q hf;simp only [A9,hf,h1];have key:∀ {as:List V} {h0:Hp} {x:V × Hp},iB (dn E T val k) k q as h0 = some x -> mG (ug E (A9 P T) val k) k ⟨rf.ntmps,rf.res,gJ rf.ntmps rf.code q.code⟩ as h0 = some x:=by
     intro as h0 x hb;obtain ⟨x,h'⟩:=x;have:=Fv h2 h3 hb;unfold mG at this ⊢;split at this
     · rename_i e1 h4 ho;rw [bU ih (Nat.le_refl _) ho]; exact this
     · rename_i e1 h4 ho;rw [bU ih (Nat.le_refl _) ho]; exact this
     · cases this
    split at hm
    · rename_i hv;simp only [hv,if_true];simp only [mH] at hm;split at hm
      · cases hm
      · rename_i as has;split at hm
        · cases hm
        · rename_i r1 h4 hb;simp only [has,key hb];exact hm
    · rename_i hv;simp only [hv];simp only [iR] at hm;split at hm
      · cases hm
      · rename_i r1 h4 hb;rw [key hb];exact hm
theorem vU {P:Program} (hmix:P.follows .mixedOrders = true) {E:Calls'} (hE:aL P E) {T:FuncId -> Option QF} (hT:kN P T) (val:FuncId -> Bool) (k:Nat):aL P (dn E T val k):=by
 have hN:BD P (A9 P T):=by
  intro f rf h;unfold A9 at h;split at h
  · rename_i q rf0 hq hrf;cases h;obtain ⟨fn,c,k1,k2,k3,k4,k5,k6⟩:=VV P f rf0 hrf;exact ⟨fn,c,k1,k2,by rw [iW]; exact k3,k4,k5,k6⟩
  · cases h
 intro f args h r h' hm;exact reads hmix hE val hN k f args h r h' (CL hT val k hm)
end Go.Proofs.YtjkfknafpgfchaaGreat
