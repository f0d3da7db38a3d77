/- Calls: what the reading with lists of slots answers, holds of the program. -/
import Derived.Test.YtllbjfmiilckiaaGreatPu
set_option maxRecDepth 100000
set_option linter.unusedVariables false
set_option linter.unusedSimpArgs false
namespace Go.Proofs.YtllbjfmiilckiaaGreat
section
def iI (n:Nat):RC->QC->RC
 | .seq a b,.seq a' b'=>.seq (iI n a a') (iI n b b')
 | .cond c a b,.cond _ a' b'=>.cond c (iI n a a') (iI n b b')
 | .block i b,.block _ b'=>.block i (iI n b b')
 | .loop _ b,.loop keep b'=>.loop (wW n keep) (iI n b b')
 | c,_=>c
theorem jH {n:Nat}:∀ {c:RC} {q:QC},(iI n c q).strip=c.strip
 | .seq a b,.seq a' b'=>by simp only [iI,RC.strip,jH]
 | .cond c a b,.cond _ a' b'=>by simp only [iI,RC.strip,jH]
 | .block i b,.block _ b'=>by simp only [iI,RC.strip,jH]
 | .loop _ b,.loop keep b'=>by simp only [iI,RC.strip,jH]
 | .skip,q | .ret,q | .exit i,q | .reg pr os,q=>by cases q<;>rfl
 | .seq a b,.skip | .seq a b,.ret _ | .seq a b,.exit _ _ | .seq a b,.reg _ _ | .seq a b,.cond _ _ _ | .seq a b,.block _ _ | .seq a b,.loop _ _=>rfl
 | .cond _ a b,.skip | .cond _ a b,.ret _ | .cond _ a b,.exit _ _ | .cond _ a b,.reg _ _ | .cond _ a b,.seq _ _ | .cond _ a b,.block _ _ | .cond _ a b,.loop _ _=>rfl
 | .block _ b,.skip | .block _ b,.ret _ | .block _ b,.exit _ _ | .block _ b,.reg _ _ | .block _ b,.seq _ _ | .block _ b,.cond _ _ _ | .block _ b,.loop _ _=>rfl
 | .loop _ b,.skip | .loop _ b,.ret _ | .loop _ b,.exit _ _ | .loop _ b,.reg _ _ | .loop _ b,.seq _ _ | .loop _ b,.cond _ _ _ | .loop _ b,.block _ _=>rfl
theorem Em {c:RC}{a b:RC}(h:c.quiet=.seq a b):∃ a' b',c=.seq a' b'/\a'.quiet=a/\b'.quiet=b:=by
 cases c with
 | reg pr os=>cases pr with
  | none=>cases h
  | some pr=>simp only [RC.quiet] at h; split at h<;>cases h
 | seq x y=>simp only [RC.quiet] at h; cases h; exact ⟨_,_,rfl,rfl,rfl⟩
 | _=>cases h
theorem Bv {c:RC}{x:X}{a b:RC}(h:c.quiet=.cond x a b):∃ a' b',c=.cond x a' b'/\a'.quiet=a/\b'.quiet=b:=by
 cases c with
 | reg pr os=>cases pr with
  | none=>cases h
  | some pr=>simp only [RC.quiet] at h; split at h<;>cases h
 | cond c x y=>simp only [RC.quiet] at h; cases h; exact ⟨_,_,rfl,rfl,rfl⟩
 | _=>cases h
theorem zM {c:RC}{i:Nat}{b:RC}(h:c.quiet=.block i b):∃ b',c=.block i b'/\b'.quiet=b:=by
 cases c with
 | reg pr os=>cases pr with
  | none=>cases h
  | some pr=>simp only [RC.quiet] at h; split at h<;>cases h
 | block i x=>simp only [RC.quiet] at h; cases h; exact ⟨_,rfl,rfl⟩
 | _=>cases h
theorem Bw {c:RC}{d:List Nat}{b:RC}(h:c.quiet=.loop d b):∃ b',c=.loop d b'/\b'.quiet=b:=by
 cases c with
 | reg pr os=>cases pr with
  | none=>cases h
  | some pr=>simp only [RC.quiet] at h; split at h<;>cases h
 | loop i x=>simp only [RC.quiet] at h; cases h; exact ⟨_,rfl,rfl⟩
 | _=>cases h
theorem eG {C:Calls'}{N:Nat}:∀ {n:Nat} {c:RC} {q:QC} {a:EA} {e:Env} {h:Hp} {ex:Ex} {a':EA} {h':Hp},c.quiet=q.toRC->q.fits N=true->Sub N a e->aV C n q a h=some (ex,a',h') →
 ∃ e',bi C n (iI N c q) e h=some (ex,e',h')/\Sub N a' e'
 | 0,c,q,a,e,h,ex,a',h',_,_,_,hm=>by simp [aV] at hm
 | n+1,c,q,a,e,h,ex,a',h',hq,hf,hs,hm=>by
  cases q with
  | skip =>
   have:c=.skip:=by
    cases c with
    | reg pr os=>cases pr with
     | none=>cases hq
     | some pr=>simp only [RC.quiet,QC.toRC] at hq; split at hq<;>cases hq
    | skip=>rfl
    | _=>cases hq
   subst this;simp only [aV] at hm; cases hm;exact ⟨e,rfl,hs⟩
  | ret keep =>
   have:c=.ret:=by
    cases c with
    | reg pr os=>cases pr with
     | none=>cases hq
     | some pr=>simp only [RC.quiet,QC.toRC] at hq; split at hq<;>cases hq
    | ret=>rfl
    | _=>cases hq
   subst this;simp only [aV] at hm; cases hm;exact ⟨e,rfl,hs.keep _⟩
  | exit i keep =>
   have:c=.exit i:=by
    cases c with
    | reg pr os=>cases pr with
     | none=>cases hq
     | some pr=>simp only [RC.quiet,QC.toRC] at hq; split at hq<;>cases hq
    | exit i=>cases hq; rfl
    | _=>cases hq
   subst this;simp only [aV] at hm; cases hm;exact ⟨e,rfl,hs.keep _⟩
  | reg pr os =>
   have hc:c=.reg pr os\/∃ p,pr=none/\c=.reg (some p) os/\Cc p os=true:=by
    cases c with
    | reg pr' os'=>cases pr' with
     | none=>cases hq; exact .inl rfl
     | some p =>
      simp only [RC.quiet,QC.toRC] at hq;split at hq
      . rename_i hcalm; cases hq; exact .inr ⟨p,rfl,rfl,hcalm⟩
      . cases hq; exact .inl rfl
    | _=>cases hq
   have hfo:os.all (RO.fits N)=true:=hf;obtain rfl | ⟨p,rfl,rfl,hcalm⟩:=hc
   . cases pr with
     | none =>
      simp only [aV,lead] at hm;split at hm
      . rename_i a1 h1 ho;cases hm;obtain ⟨e',k1,k2⟩:=mH hfo hs ho;exact ⟨e',by simp only [iI,bi,k1],k2⟩
      . cases hm
     | some p =>
      simp only [aV,lead] at hm;split at hm
      . rename_i a1 h1 ho;cases hm;obtain ⟨e',k1,k2⟩:=GJ hfo hs ho;exact ⟨e',by simp only [iI,bi,k1],k2⟩
      . cases hm
   . simp only [aV,lead] at hm;split at hm
     . rename_i a1 h1 ho;cases hm;obtain ⟨e',k1,k2⟩:=mH hfo hs ho;exact ⟨e',by simp only [iI,bi,FC hcalm k1],k2⟩
     . cases hm
  | seq x y =>
   obtain ⟨x',y',rfl,q1,q2⟩:=Em hq;simp only [QC.fits,aq] at hf;simp only [aV,dx] at hm;split at hm
   . rename_i a1 h1 ho;obtain ⟨e1,k1,k2⟩:=eG q1 hf.1 hs ho;obtain ⟨e2,k3,k4⟩:=eG q2 hf.2 k2 hm;exact ⟨e2,by simp only [iI,bi,k1,k3],k4⟩
   . rename_i o hne;obtain ⟨e1,k1,k2⟩:=eG q1 hf.1 hs hm;refine ⟨e1,?_,k2⟩;simp only [iI,bi,k1];cases ex with
     | normal=>exact absurd hm (hne _ _)
     | _=>rfl
  | cond x y z =>
   obtain ⟨y',z',rfl,q1,q2⟩:=Bv hq;simp only [QC.fits,aq] at hf;simp only [aV,fork] at hm;have hx:=hs.x x;split at hm
   . rename_i hv;have hv2:x.ev e=.d (.bool true):=by rw [hv] at hx; obtain w | w:=hx; (· cases w); exact w.symm
     obtain ⟨e1,k1,k2⟩:=eG q1 hf.1.2 hs hm;exact ⟨e1,by simp only [iI,bi,hv2,if_true,k1],k2⟩
   . rename_i hv;have hv2:x.ev e=.d (.bool false):=by rw [hv] at hx; obtain w | w:=hx; (· cases w); exact w.symm
     obtain ⟨e1,k1,k2⟩:=eG q2 hf.2 hs hm;exact ⟨e1,by simp only [iI,bi,hv2,bo,if_false,k1],k2⟩
   . cases hm
  | block i b =>
   obtain ⟨b',rfl,q1⟩:=zM hq;simp only [aV,leave] at hm;split at hm
   . rename_i j a1 h1 ho;obtain ⟨e1,k1,k2⟩:=eG q1 hf hs ho;split at hm
     . rename_i hji;cases hm;exact ⟨e1,by simp only [iI,bi,k1,if_pos hji],k2⟩
     . rename_i hji;cases hm;exact ⟨e1,by simp only [iI,bi,k1,if_neg hji],k2⟩
   . rename_i o hne;obtain ⟨e1,k1,k2⟩:=eG q1 hf hs hm;refine ⟨e1,?_,k2⟩;simp only [iI,bi,k1];cases ex with
     | exit j=>exact absurd hm (hne _ _ _)
     | _=>rfl
  | loop keep b =>
   obtain ⟨b',rfl,q1⟩:=Bw hq;simp only [aV,dx] at hm;split at hm
   . rename_i a1 h1 ho;obtain ⟨e1,k1,k2⟩:=eG q1 hf (hs.mask keep) ho;obtain ⟨e2,k3,k4⟩:=eG (c:=.loop [] b') (q:=.loop keep b) hq hf k2 hm;exact ⟨e2,by simp only [iI] at k3 ⊢; simp only [bi,k1,k3],k4⟩
   . rename_i o hne;obtain ⟨e1,k1,k2⟩:=eG q1 hf (hs.mask keep) hm;refine ⟨e1,?_,k2⟩;simp only [iI,bi,k1];cases ex with
     | normal=>exact absurd hm (hne _ _)
     | _=>rfl
theorem sO {N:Nat}{h:Hp}{a:EA}{e:Env}(hs:Sub N a e):∀ {l:List RV} {vs:List V},lG h a l=some vs->qO h e l=some vs
 | [],vs,hm=>hm
 | .tmp t::l,vs,hm=>by
  simp only [lG] at hm;split at hm
  . rename_i v vs' hv hr;cases hm;obtain ⟨q1,q2⟩:=xn hv;simp only [qO,sO hs hr];obtain w | w:=hs.2 t
    . exact absurd (q1 ▸ w) q2
    . rw [← w,q1]
  . cases hm
 | .cell t sc n::l,vs,hm=>by
  simp only [lG] at hm;split at hm
  . rename_i cs hl;split at hm
    . rename_i v vs' hv hr;cases hm;have:a.get t=e.getD t .undef:=by
       obtain w | w:=hs.2 t
       . rw [w] at hl; simp [loadAt] at hl
       . exact w
      simp only [qO,← this,hl,hv,sO hs hr]
    . cases hm
  . cases hm
theorem yG:∀ (i:Nat) (vs:List V) (j:Nat),(jg i vs).get j=if i<=j then vs.getD (j-i) .undef else .undef
 | i,[],j=>by simp [jg,EA.get]
 | i,v::l,j=>by
  simp only [jg,EA.get,yG (i+1) l j];by_cases h:i=j
  . subst h; simp
  . by_cases h2:i<=j
    . have:j-i=(j-(i+1))+1:=by omega
      rw [if_neg h,if_pos (by omega),if_pos h2,this]; simp
    . rw [if_neg h,if_neg (by omega),if_neg h2]
theorem yH {N:Nat}{vs:List V}:Sub N (jg 0 vs) (vs++List.replicate (N-vs.length) .undef):=by
 refine ⟨by simp; omega,λi=>?_⟩;rw [yG,if_pos (Nat.zero_le _)];simp only [Nat.sub_zero,bp];obtain h | h:=cr i vs.length
 . right;rw [am h]
 . left;rw [bb h]; rfl
def jy (P:Program)(T:FuncId->Option QF):Prop:=∀ f q,T f=some q->∃ rf,BB P f=some rf/\rf.quiet=q.toRF/\q.fits=true
def BN (P:Program)(T:FuncId->Option QF)(f:FuncId):Option RF:=match T f,BB P f with
 | some q,some rf=>some ⟨rf.ntmps,rf.res,iI rf.ntmps rf.code q.code⟩
 | _,_=>none
theorem Fw {C:Calls'}{n:Nat}{q:QF}{rf:RF}(hq:rf.quiet=q.toRF)(hf:q.fits=true){args:List V}{h:Hp}{r:V}{h':Hp}(hm:jh C n q args h=some (r,h')) :
 mZ C n ⟨rf.ntmps,rf.res,iI rf.ntmps rf.code q.code⟩ args h=some (r,h'):=by
 have e1:rf.ntmps=q.ntmps:=congrArg RF.ntmps hq;have e2:rf.res=q.res:=congrArg RF.res hq;have e3:rf.code.quiet=q.code.toRC:=congrArg RF.code hq;simp only [QF.fits,aq] at hf;unfold jh done at hm;unfold mZ;split at hm
 . rename_i a1 h1 ho;obtain ⟨e',k1,k2⟩:=eG (N:=rf.ntmps) e3 (by rw [e1]; exact hf.1) yH ho;simp only [k1];split at hm
   . rename_i vs hr;cases hm;rw [e2,sO k2 hr]
   . cases hm
 . rename_i a1 h1 ho;obtain ⟨e',k1,k2⟩:=eG (N:=rf.ntmps) e3 (by rw [e1]; exact hf.1) yH ho;simp only [k1];split at hm
   . rename_i vs hr;cases hm;rw [e2,sO k2 hr]
   . cases hm
 . cases hm
theorem CO {P:Program}{E:Calls'}{T:FuncId->Option QF}(hT:jy P T)(val:FuncId->Bool):∀ (k:Nat) {f:FuncId} {args:List V} {h:Hp} {r:V×Hp},dM E T val k f args h=some r->vI E (BN P T) val k f args h=some r
 | 0,f,args,h,r,hm=>by simp [dM] at hm
 | k+1,f,args,h,r,hm=>by
  have ih:Leq (dM E T val k) (vI E (BN P T) val k):=λ_ _ _ _=>CO hT val k;simp only [dM] at hm;simp only [vI];split at hm
  . rename_i hf;simp only [BN,hf];exact hm
  . rename_i q hf;obtain ⟨rf,h1,h2,h3⟩:=hT f q hf;simp only [BN,hf,h1];have key:∀ {as1:List V} {h0:Hp} {x:V×Hp},jh (dM E T val k) k q as1 h0=some x->mZ (vI E (BN P T) val k) k ⟨rf.ntmps,rf.res,iI rf.ntmps rf.code q.code⟩ as1 h0=some x:=by
     intro as1 h0 x hb;obtain ⟨x,h'⟩:=x;have:=Fw h2 h3 hb;unfold mZ at this ⊢;split at this
     . rename_i e1 h4 ho;rw [cZ ih (br _) ho]; exact this
     . rename_i e1 h4 ho;rw [cZ ih (br _) ho]; exact this
     . cases this
    split at hm
    . rename_i hv;simp only [hv,if_true];simp only [ng] at hm;split at hm
      . cases hm
      . rename_i as1 has;split at hm
        . cases hm
        . rename_i r1 h4 hb;simp only [has,key hb];exact hm
    . rename_i hv;simp only [hv];simp only [dL] at hm;split at hm
      . cases hm
      . rename_i r1 h4 hb;rw [key hb];exact hm
theorem xQ {P:Program}(hmix:P.follows .mixedOrders=true){E:Calls'}(hE:aQ P E){T:FuncId->Option QF}(hT:jy P T)(val:FuncId->Bool)(k:Nat):aQ P (dM E T val k):=by
 have hN:Ca P (BN P T):=by
  intro f rf h;unfold BN at h;split at h
  . rename_i q rf0 hq hrf;cases h;obtain ⟨fn,c,k1,k2,k3,k4,k5,k6⟩:=Po P f rf0 hrf;exact ⟨fn,c,k1,k2,by rw [jH]; exact k3,k4,k5,k6⟩
  . cases h
 intro f args h r h' hm;exact reads hmix hE val hN k f args h r h' (CO hT val k hm)
end
section
section
variable {α:Type}
noncomputable def Ja (g:Nat->Option α):Option α :=
 open Classical in if h:∃ x k,g k=some x then some (Classical.choose h) else none
def Mono (g:Nat->Option α):Prop:=∀ k x,g k=some x->g (k+1)=some x
theorem Mono.le {g:Nat->Option α}(hg:Mono g){k n:Nat}{x:α}(hle:k<=n)(h:g k=some x):g n=some x:=by
 obtain ⟨d,rfl⟩:∃ d,n=k+d:=⟨n-k,by omega⟩;clear hle
 induction d with
 | zero=>exact h
 | succ d ih=>exact hg _ _ ih
theorem zk {g:Nat->Option α}(hg:Mono g){x:α}:Ja g=some x↔∃ k,g k=some x:=by
 unfold Ja;constructor
 . intro h;split at h
   . rename_i hh;obtain ⟨k,hk⟩:=Classical.choose_spec hh;exact ⟨k,by rw [hk]; exact h⟩
   . cases h
 . rintro ⟨k,hk⟩;have hh:∃ x k,g k=some x:=⟨x,k,hk⟩;rw [dif_pos hh];obtain ⟨k',hk'⟩:=Classical.choose_spec hh;have h1:=hg.le (Nat.le_max_left k k') hk;have h2:=hg.le (Nat.le_max_right k k') hk';rw [h1] at h2;exact h2.symm
theorem jo {a b:Option α}(h:∀ x,a=some x↔b=some x):a=b:=by
 cases a with
 | none=>cases b with
  | none=>rfl
  | some y=>exact ((h y).2 rfl)
 | some x=>exact ((h x).1 rfl).symm
end
theorem zF {C C':Calls'}(hC:Leq C C'){r:R}{ev:X->V}{h:Hp}{x:V×Hp}(hm:opE C r ev h=some x):opE C' r ev h=some x:=by
 cases r with
 | call f args =>
  simp only [opE] at hm ⊢;split at hm
  . rename_i h1; rw [if_pos h1]; exact nA hC hm
  . cases hm
 | _=>exact hm
theorem wm {C C':Calls'}(hC:Leq C C'){r:R}{ev:X->V}{h:Hp}{x:V×Hp×Tr}(hm:bZ C r ev h=some x):bZ C' r ev h=some x:=by
 cases r with
 | call f args =>
  simp only [bZ] at hm ⊢;split at hm
  . rename_i h1;rw [if_pos h1];split at hm
    . rename_i v h2 ho; rw [nA hC ho]; exact hm
    . cases hm
  . cases hm
 | _=>exact hm
theorem iH {C C':Calls'}(hC:Leq C C'):∀ {os:List RO} {e:EA} {h:Hp} {x:EA×Hp},fO C os e h=some x->fO C' os e h=some x
 | [],e,h,x,hm=>hm
 | o::os,e,h,x,hm=>by
  have go:∀ {x},(match opE C o.r (X.ea e) h with
   | some (v,h')=>fO C os (bO e o.d v) h'
   | none=>none)=some x->(match opE C' o.r (X.ea e) h with
   | some (v,h')=>fO C' os (bO e o.d v) h'
   | none=>none)=some x:=by
   intro x hm;split at hm
   . rename_i v h1 ho;rw [zF hC ho];exact iH hC hm
   . cases hm
  simp only [fO] at hm ⊢;split at hm
  . exact go hm
  . split at hm
    . split at hm
      . rename_i htw;simp only [if_pos htw];exact go hm
      . rename_i htw;simp only [if_neg htw];exact iH hC hm
    . exact iH hC hm
    . cases hm
theorem kH {C C':Calls'}(hC:Leq C C'):∀ {os:List RO} {e:EA} {h:Hp} {x:List Tr×EA×Hp},eZ C os e h=some x->eZ C' os e h=some x
 | [],e,h,x,hm=>hm
 | o::os,e,h,x,hm=>by
  have go:∀ {x},(match bZ C o.r (X.ea e) h with
   | some (v,h',t)=>match eZ C os (bO e o.d v) h' with
    | some (l,e',h'')=>some (t::l,e',h'')
    | none=>none
   | none=>none)=some x->(match bZ C' o.r (X.ea e) h with
   | some (v,h',t)=>match eZ C' os (bO e o.d v) h' with
    | some (l,e',h'')=>some (t::l,e',h'')
    | none=>none
   | none=>none)=some x:=by
   intro x hm;split at hm
   . rename_i v h1 t ho;rw [wm hC ho];dsimp only;split at hm
     . rename_i hr;rw [kH hC hr];exact hm
     . cases hm
   . cases hm
  have sk:∀ {x},(match eZ C os (bO e o.d (.tup [])) h with
   | some (l,e',h'')=>some (aM h::l,e',h'')
   | none=>none)=some x->(match eZ C' os (bO e o.d (.tup [])) h with
   | some (l,e',h'')=>some (aM h::l,e',h'')
   | none=>none)=some x:=by
   intro x hm;split at hm
   . rename_i hr;rw [kH hC hr];exact hm
   . cases hm
  simp only [eZ] at hm ⊢;split at hm
  . exact go hm
  . split at hm
    . split at hm
      . rename_i htw;simp only [if_pos htw];exact go hm
      . rename_i htw;simp only [if_neg htw];exact sk hm
    . exact sk hm
    . cases hm
theorem uD {C C':Calls'}(hC:Leq C C'){pr:List (List Nat)}{os:List RO}{e:EA}{h:Hp}{x:EA×Hp}(hm:aA C pr os e h=some x):aA C' pr os e h=some x:=by
 unfold aA at hm ⊢;split at hm
 . rename_i hr;rw [kH hC hr];exact hm
 . cases hm
theorem aX {C C':Calls'}(hC:Leq C C'):∀ {m n:Nat} {c:QC} {e:EA} {h:Hp} {r:Ex×EA×Hp},m<=n->aV C m c e h=some r->aV C' n c e h=some r
 | 0,n,c,e,h,r,_,hm=>by simp [aV] at hm
 | m+1,0,c,e,h,r,hle,hm=>by omega
 | m+1,n+1,c,e,h,r,hle,hm=>by
  have hle':m<=n:=by omega
  cases c with
  | skip=>exact hm
  | ret l=>exact hm
  | exit i l=>exact hm
  | reg pr os =>
   cases pr with
   | none =>
    simp only [aV,lead] at hm ⊢;split at hm
    . rename_i ho; rw [iH hC ho]; exact hm
    . cases hm
   | some p =>
    simp only [aV,lead] at hm ⊢;split at hm
    . rename_i ho; rw [uD hC ho]; exact hm
    . cases hm
  | seq a b =>
   simp only [aV,dx] at hm ⊢;split at hm
   . rename_i e1 h1 ho;rw [aX hC hle' ho];exact aX hC hle' hm
   . rename_i o hne;rw [aX hC hle' hm];obtain ⟨ex,e1,h1⟩:=r;cases ex with
     | normal=>exact absurd hm (hne _ _)
     | _=>rfl
  | cond x a b =>
   simp only [aV,fork] at hm ⊢;split at hm
   . exact aX hC hle' hm
   . exact aX hC hle' hm
   . cases hm
  | block i b =>
   simp only [aV,leave] at hm ⊢;split at hm
   . rename_i j e1 h1 ho;rw [aX hC hle' ho];exact hm
   . rename_i o hne;rw [aX hC hle' hm];obtain ⟨ex,e1,h1⟩:=r;cases ex with
     | exit j=>exact absurd hm (hne _ _ _)
     | _=>rfl
  | loop keep b =>
   simp only [aV,dx] at hm ⊢;split at hm
   . rename_i e1 h1 ho;rw [aX hC hle' ho];exact aX hC hle' hm
   . rename_i o hne;rw [aX hC hle' hm];obtain ⟨ex,e1,h1⟩:=r;cases ex with
     | normal=>exact absurd hm (hne _ _)
     | _=>rfl
theorem tq {C C':Calls'}(hC:Leq C C'){m n:Nat}(hle:m<=n){q:QF}{args:List V}{h:Hp}{x:V×Hp}(hm:jh C m q args h=some x):jh C' n q args h=some x:=by
 unfold jh done at hm ⊢;split at hm
 . rename_i ho; rw [aX hC hle ho]; exact hm
 . rename_i ho; rw [aX hC hle ho]; exact hm
 . cases hm
theorem gJ (E:Calls')(T:FuncId->Option QF)(val:FuncId->Bool):∀ k,Leq (dM E T val k) (dM E T val (k+1))
 | 0=>λf args h r hm=>by simp [dM] at hm
 | k+1=>by
  have ih:=gJ E T val k;intro f args h r hm;rw [dM] at hm ⊢;dsimp only at hm ⊢;split at hm
  . exact hm
  . rename_i q hf;split at hm
    . rename_i hv;simp only [hv,if_true];simp only [ng] at hm ⊢;split at hm
      . cases hm
      . rename_i as1 has;split at hm
        . cases hm
        . rename_i r1 h4 hb;rw [tq ih (Nat.le_succ _) hb];exact hm
    . rename_i hv;simp only [hv];simp only [dL] at hm ⊢;split at hm
      . cases hm
      . rename_i r1 h4 hb;rw [tq ih (Nat.le_succ _) hb];exact hm
section
variable {C:Nat->Calls'}{L:Calls'}(hC:∀ k,Leq (C k) (C (k+1)))(hL:∀ f args h x,L f args h=some x↔∃ k,C k f args h=some x)
include hC in
theorem Gm {k n:Nat}(hle:k<=n):Leq (C k) (C n):=by
 obtain ⟨d,rfl⟩:∃ d,n=k+d:=⟨n-k,by omega⟩;clear hle
 induction d with
 | zero=>exact Leq.refl _
 | succ d ih=>exact λf args h r hr=>hC _ f args h r (ih f args h r hr)
include hL in
theorem Gz {r:R}{ev:X->V}{h:Hp}{x:V×Hp}(hm:opE L r ev h=some x):∃ k,opE (C k) r ev h=some x:=by
 cases r with
 | call f args =>
  simp only [opE] at hm ⊢;split at hm
  . rename_i h1;simp only [if_pos h1];unfold gK at hm ⊢;split at hm
    . exact (hL _ _ _ _).1 hm
    . exact (hL _ _ _ _).1 hm
    . cases hm
  . cases hm
 | _=>exact ⟨0,hm⟩
include hL in
theorem D8 {r:R}{ev:X->V}{h:Hp}{x:V×Hp×Tr}(hm:bZ L r ev h=some x):∃ k,bZ (C k) r ev h=some x:=by
 cases r with
 | call f args =>
  simp only [bZ] at hm ⊢;split at hm
  . rename_i h1;simp only [if_pos h1];split at hm
    . rename_i v h2 ho;unfold gK at ho ⊢;split at ho
      . obtain ⟨k,hk⟩:=(hL _ _ _ _).1 ho;exact ⟨k,by simp only [hk]; exact hm⟩
      . obtain ⟨k,hk⟩:=(hL _ _ _ _).1 ho;exact ⟨k,by simp only [hk]; exact hm⟩
      . cases ho
    . cases hm
  . cases hm
 | _=>exact ⟨0,hm⟩
include hC hL in
theorem mG:∀ {os:List RO} {e:EA} {h:Hp} {x:EA×Hp},fO L os e h=some x->∃ k,fO (C k) os e h=some x
 | [],e,h,x,hm=>⟨0,hm⟩
 | o::os,e,h,x,hm=>by
  have go:∀ {x},(match opE L o.r (X.ea e) h with
   | some (v,h')=>fO L os (bO e o.d v) h'
   | none=>none)=some x->∃ k,(match opE (C k) o.r (X.ea e) h with
   | some (v,h')=>fO (C k) os (bO e o.d v) h'
   | none=>none)=some x:=by
   intro x hm;split at hm
   . rename_i v h1 ho;obtain ⟨k1,hk1⟩:=Gz hL ho;obtain ⟨k2,hk2⟩:=mG hm;refine ⟨max k1 k2,?_⟩;rw [zF (Gm hC (Nat.le_max_left k1 k2)) hk1];exact iH (Gm hC (Nat.le_max_right k1 k2)) hk2
   . cases hm
  simp only [fO] at hm ⊢;split at hm
  . exact go hm
  . split at hm
    . split at hm
      . rename_i htw;simp only [if_pos htw];exact go hm
      . rename_i htw;simp only [if_neg htw];exact mG hm
    . exact mG hm
    . cases hm
include hC hL in
theorem qQ:∀ {os:List RO} {e:EA} {h:Hp} {x:List Tr×EA×Hp},eZ L os e h=some x->∃ k,eZ (C k) os e h=some x
 | [],e,h,x,hm=>⟨0,hm⟩
 | o::os,e,h,x,hm=>by
  have go:∀ {x},(match bZ L o.r (X.ea e) h with
   | some (v,h',t)=>match eZ L os (bO e o.d v) h' with
    | some (l,e',h'')=>some (t::l,e',h'')
    | none=>none
   | none=>none)=some x->∃ k,(match bZ (C k) o.r (X.ea e) h with
   | some (v,h',t)=>match eZ (C k) os (bO e o.d v) h' with
    | some (l,e',h'')=>some (t::l,e',h'')
    | none=>none
   | none=>none)=some x:=by
   intro x hm;split at hm
   . rename_i v h1 t ho;obtain ⟨k1,hk1⟩:=D8 hL ho;split at hm
     . rename_i hr;obtain ⟨k2,hk2⟩:=qQ hr;refine ⟨max k1 k2,?_⟩;rw [wm (Gm hC (Nat.le_max_left k1 k2)) hk1];dsimp only;rw [kH (Gm hC (Nat.le_max_right k1 k2)) hk2];exact hm
     . cases hm
   . cases hm
  have sk:∀ {x},(match eZ L os (bO e o.d (.tup [])) h with
   | some (l,e',h'')=>some (aM h::l,e',h'')
   | none=>none)=some x->∃ k,(match eZ (C k) os (bO e o.d (.tup [])) h with
   | some (l,e',h'')=>some (aM h::l,e',h'')
   | none=>none)=some x:=by
   intro x hm;split at hm
   . rename_i hr;obtain ⟨k2,hk2⟩:=qQ hr;exact ⟨k2,by rw [hk2]; exact hm⟩
   . cases hm
  simp only [eZ] at hm ⊢;split at hm
  . exact go hm
  . split at hm
    . split at hm
      . rename_i htw;simp only [if_pos htw];exact go hm
      . rename_i htw;simp only [if_neg htw];exact sk hm
    . exact sk hm
    . cases hm
end
section
variable (E:Calls')(T:FuncId->Option QF)(val:FuncId->Bool)
noncomputable def Sm:Calls':=λf args h=>Ja λk=>dM E T val k f args h
noncomputable def Cd (c:QC) (e:EA) (h:Hp):d9:=Ja λk=>aV (dM E T val k) k c e h
noncomputable def Bd (q:QF) (args:List V) (h:Hp):Option (V×Hp):=done q (Cd E T val q.code (jg 0 args) h)
variable {E T val}
theorem Sm_iff {f:FuncId}{args:List V}{h:Hp}{x:V×Hp}:Sm E T val f args h=some x↔∃ k,dM E T val k f args h=some x :=
 zk λk x hx=>gJ E T val k f args h x hx
theorem Cd_iff {c:QC}{e:EA}{h:Hp}{x:Ex×EA×Hp}:Cd E T val c e h=some x↔∃ k,aV (dM E T val k) k c e h=some x :=
 zk λk x hx=>aX (gJ E T val k) (Nat.le_succ k) hx
theorem uP {k n:Nat}(hle:k<=n):Leq (dM E T val k) (dM E T val n):=Gm (gJ E T val) hle
theorem Hl {k:Nat}:Leq (dM E T val k) (Sm E T val):=λf args h r hr=>Sm_iff.2 ⟨k,hr⟩
theorem fF {k n:Nat}{c:QC}{e:EA}{h:Hp}{x:Ex×EA×Hp}(hx:aV (dM E T val k) n c e h=some x):Cd E T val c e h=some x :=
 Cd_iff.2 ⟨max k n,aX (uP (Nat.le_max_left _ _)) (Nat.le_max_right _ _) hx⟩
theorem Im {e:EA}{h:Hp}:Cd E T val .skip e h=some (.normal,e,h):=Cd_iff.2 ⟨1,rfl⟩
theorem LP {l:List Nat}{e:EA}{h:Hp}:Cd E T val (.ret l) e h=some (.ret,bE l e,h):=Cd_iff.2 ⟨1,rfl⟩
theorem Ik {i:Nat}{l:List Nat}{e:EA}{h:Hp}:Cd E T val (.exit i l) e h=some (.exit i,bE l e,h):=Cd_iff.2 ⟨1,rfl⟩
theorem LM {os:List RO}{e:EA}{h:Hp}:Cd E T val (.reg none os) e h=lead (fO (Sm E T val) os e h):=by
 refine jo λx=>?_;rw [Cd_iff];constructor
 . rintro ⟨k,hk⟩;cases k with
   | zero=>simp [aV] at hk
   | succ k =>
    simp only [aV,lead] at hk;split at hk
    . rename_i ho; rw [iH Hl ho]; exact hk
    . cases hk
 . intro hx;unfold lead at hx;split at hx
   . rename_i ho;obtain ⟨k,hk⟩:=mG (gJ E T val) (λ_ _ _ _=>Sm_iff) ho;refine ⟨k+1,?_⟩;simp only [aV,lead];rw [iH (gJ E T val k) hk];exact hx
   . cases hx
theorem Il {pr:List (List Nat)}{os:List RO}{e:EA}{h:Hp}:Cd E T val (.reg (some pr) os) e h=lead (aA (Sm E T val) pr os e h):=by
 refine jo λx=>?_;rw [Cd_iff];constructor
 . rintro ⟨k,hk⟩;cases k with
   | zero=>simp [aV] at hk
   | succ k =>
    simp only [aV,lead] at hk;split at hk
    . rename_i ho; rw [uD Hl ho]; exact hk
    . cases hk
 . intro hx;unfold lead aA at hx;split at hx
   . rename_i ho;split at ho
     . rename_i l e1 h1 hr;obtain ⟨k,hk⟩:=qQ (gJ E T val) (λ_ _ _ _=>Sm_iff) hr;refine ⟨k+1,?_⟩;simp only [aV,lead,aA];rw [kH (gJ E T val k) hk];dsimp only;rw [ho];exact hx
     . cases ho
   . cases hx
theorem LQ {a b:QC}{e:EA}{h:Hp}:Cd E T val (.seq a b) e h=dx (Cd E T val a e h) λe h=>Cd E T val b e h:=by
 refine jo λx=>?_;rw [Cd_iff];constructor
 . rintro ⟨k,hk⟩;cases k with
   | zero=>simp [aV] at hk
   | succ k =>
    simp only [aV,dx] at hk;split at hk
    . rename_i ho; rw [fF ho]; exact fF hk
    . rename_i o hne;rw [fF hk];obtain ⟨ex,e1,h1⟩:=x;cases ex with
      | normal=>exact absurd hk (hne _ _)
      | _=>rfl
 . intro hx;unfold dx at hx;split at hx
   . rename_i ho;obtain ⟨k1,hk1⟩:=Cd_iff.1 ho;obtain ⟨k2,hk2⟩:=Cd_iff.1 hx;refine ⟨max k1 k2+1,?_⟩;simp only [aV,dx];rw [aX (uP (by omega)) (Nat.le_max_left k1 k2) hk1];exact aX (uP (by omega)) (Nat.le_max_right k1 k2) hk2
   . rename_i o hne;obtain ⟨k1,hk1⟩:=Cd_iff.1 hx;refine ⟨k1+1,?_⟩;simp only [aV,dx];rw [aX (uP (by omega)) (br k1) hk1];obtain ⟨ex,e1,h1⟩:=x;cases ex with
     | normal=>exact absurd hx (hne _ _)
     | _=>rfl
theorem Ij {c:X}{a b:QC}{e:EA}{h:Hp}:Cd E T val (.cond c a b) e h=fork (c.ea e) (Cd E T val a e h) (Cd E T val b e h):=by
 refine jo λx=>?_;rw [Cd_iff];constructor
 . rintro ⟨k,hk⟩;cases k with
   | zero=>simp [aV] at hk
   | succ k =>
    simp only [aV,fork] at hk ⊢;split at hk
    . exact fF hk
    . exact fF hk
    . cases hk
 . intro hx;unfold fork at hx;split at hx
   . rename_i hc;obtain ⟨k1,hk1⟩:=Cd_iff.1 hx;exact ⟨k1+1,by simp only [aV,fork,hc]; exact aX (uP (by omega)) (br k1) hk1⟩
   . rename_i hc;obtain ⟨k1,hk1⟩:=Cd_iff.1 hx;exact ⟨k1+1,by simp only [aV,fork,hc]; exact aX (uP (by omega)) (br k1) hk1⟩
   . cases hx
theorem EO {i:Nat}{b:QC}{e:EA}{h:Hp}:Cd E T val (.block i b) e h=leave i (Cd E T val b e h):=by
 refine jo λx=>?_;rw [Cd_iff];constructor
 . rintro ⟨k,hk⟩;cases k with
   | zero=>simp [aV] at hk
   | succ k =>
    simp only [aV,leave] at hk;split at hk
    . rename_i ho; rw [fF ho]; exact hk
    . rename_i o hne;rw [fF hk];obtain ⟨ex,e1,h1⟩:=x;cases ex with
      | exit j=>exact absurd hk (hne _ _ _)
      | _=>rfl
 . intro hx;unfold leave at hx;split at hx
   . rename_i ho;obtain ⟨k1,hk1⟩:=Cd_iff.1 ho;refine ⟨k1+1,?_⟩;simp only [aV,leave];rw [aX (uP (by omega)) (br k1) hk1];exact hx
   . rename_i o hne;obtain ⟨k1,hk1⟩:=Cd_iff.1 hx;refine ⟨k1+1,?_⟩;simp only [aV,leave];rw [aX (uP (by omega)) (br k1) hk1];obtain ⟨ex,e1,h1⟩:=x;cases ex with
     | exit j=>exact absurd hx (hne _ _ _)
     | _=>rfl
theorem wG {l:List Nat}{b:QC}{e:EA}{h:Hp}:Cd E T val (.loop l b) e h=dx (Cd E T val b (bE l e) h) λe h=>Cd E T val (.loop l b) e h:=by
 refine jo λx=>?_;rw [Cd_iff];constructor
 . rintro ⟨k,hk⟩;cases k with
   | zero=>simp [aV] at hk
   | succ k =>
    simp only [aV,dx] at hk;split at hk
    . rename_i ho; rw [fF ho]; exact fF hk
    . rename_i o hne;rw [fF hk];obtain ⟨ex,e1,h1⟩:=x;cases ex with
      | normal=>exact absurd hk (hne _ _)
      | _=>rfl
 . intro hx;unfold dx at hx;split at hx
   . rename_i ho;obtain ⟨k1,hk1⟩:=Cd_iff.1 ho;obtain ⟨k2,hk2⟩:=Cd_iff.1 hx;refine ⟨max k1 k2+1,?_⟩;simp only [aV,dx];rw [aX (uP (by omega)) (Nat.le_max_left k1 k2) hk1];exact aX (uP (by omega)) (Nat.le_max_right k1 k2) hk2
   . rename_i o hne;obtain ⟨k1,hk1⟩:=Cd_iff.1 hx;refine ⟨k1+1,?_⟩;simp only [aV,dx];rw [aX (uP (by omega)) (br k1) hk1];obtain ⟨ex,e1,h1⟩:=x;cases ex with
     | normal=>exact absurd hx (hne _ _)
     | _=>rfl
theorem DD (l:List Nat)(e:EA):bE l (bE l e)=bE l e:=by
 have:∀ m:List Nat,(∀ i∈m,i∈l)->m.map (λi=>(i,(bE l e).get i))=m.map λi=>(i,e.get i):=by
  intro m hm;apply List.map_congr_left;intro i hi;rw [oL,if_pos (hm i hi)]
 exact this l λi hi=>hi
theorem au {l:List Nat}{b:QC}{e:EA}{h:Hp}:Cd E T val (.loop l b) e h=Cd E T val (.loop l b) (bE l e) h:=by
 rw [wG (e:=e),wG (e:=bE l e),DD]
theorem Bd_iff {q:QF}{args:List V}{h:Hp}{x:V×Hp}:Bd E T val q args h=some x↔∃ k,jh (dM E T val k) k q args h=some x:=by
 unfold Bd jh;constructor
 . intro hx;unfold done at hx;split at hx
   . rename_i ho;obtain ⟨k,hk⟩:=Cd_iff.1 ho;exact ⟨k,by rw [hk]; exact hx⟩
   . rename_i ho;obtain ⟨k,hk⟩:=Cd_iff.1 ho;exact ⟨k,by rw [hk]; exact hx⟩
   . cases hx
 . rintro ⟨k,hx⟩;unfold done at hx;split at hx
   . rename_i ho; rw [fF ho]; exact hx
   . rename_i ho; rw [fF ho]; exact hx
   . cases hx
theorem ME {f:FuncId}{q:QF}(hf:T f=some q)(hv:val f=true){args:List V}{h:Hp}:Sm E T val f args h=ng args h (args.mapM (frz h)) λas1=>Bd E T val q as1 ⟨[],0⟩:=by
 refine jo λx=>?_;rw [Sm_iff];constructor
 . rintro ⟨k,hk⟩;cases k with
   | zero=>simp [dM] at hk
   | succ k =>
    simp only [dM,hf,hv,if_true,ng] at hk ⊢;split at hk
    . cases hk
    . rename_i as1 has;split at hk
      . cases hk
      . rename_i r1 h4 hb;simp only [has,Bd_iff.2 ⟨k,hb⟩];exact hk
 . intro hx;simp only [ng] at hx;split at hx
   . cases hx
   . rename_i as1 has;split at hx
     . cases hx
     . rename_i r1 h4 hb;obtain ⟨k,hk⟩:=Bd_iff.1 hb;refine ⟨k+1,?_⟩;simp only [dM,hf,hv,if_true,ng,has,hk];exact hx
theorem aW {f:FuncId}{q:QF}(hf:T f=some q)(hv:val f=false){args:List V}{h:Hp}:Sm E T val f args h=dL h (Bd E T val q args ⟨h.bs,h.bs.length⟩):=by
 refine jo λx=>?_;rw [Sm_iff];constructor
 . rintro ⟨k,hk⟩;cases k with
   | zero=>simp [dM] at hk
   | succ k =>
    simp only [dM,hf,hv,bo,if_false,dL] at hk ⊢;split at hk
    . cases hk
    . rename_i r1 h4 hb;simp only [Bd_iff.2 ⟨k,hb⟩];exact hk
 . intro hx;simp only [dL] at hx;split at hx
   . cases hx
   . rename_i r1 h4 hb;obtain ⟨k,hk⟩:=Bd_iff.1 hb;refine ⟨k+1,?_⟩;simp only [dM,hf,hv,bo,if_false,dL,hk];exact hx
theorem aO {f:FuncId}(hf:T f=none){args:List V}{h:Hp}:Sm E T val f args h=E f args h:=by
 refine jo λx=>?_;rw [Sm_iff];constructor
 . rintro ⟨k,hk⟩;cases k with
   | zero=>simp [dM] at hk
   | succ k=>simp only [dM,hf] at hk; exact hk
 . intro hx;exact ⟨1,by simp only [dM,hf]; exact hx⟩
theorem ed {P:Program}(hmix:P.follows .mixedOrders=true)(hE:aQ P E)(hT:jy P T):aQ P (Sm E T val):=by
 intro f args h r h' hm;obtain ⟨k,hk⟩:=Sm_iff.1 hm;exact xQ hmix hE hT val k f args h r h' hk
end
end
section
def AU:Nat->Nat->List Nat
 | 0,_=>[]
 | k+1,n=>match Nat.beq n 0 with
  | true=>[]
  | false=>match Nat.blt (n % 16) 12 with
   | true=>n % 16::AU k (n / 16)
   | false=>match n % 16 with
    | 12=>(12+n / 16 % 16)::AU k (n / 256)
    | 13=>(28+n / 16 % 256)::AU k (n / 4096)
    | 14=>(284+n / 16 % 65536)::AU k (n / 1048576)
    | _=>n / 16 % 18446744073709551616::AU k (n / 295147905179352825856)
def FL:Nat->IntKind
 | 0=>.i8 | 1=>.i16 | 2=>.i32 | 3=>.i64 | 4=>.u8 | 5=>.u16 | 6=>.u32 | _=>.u64
def ab2:Nat->BinOp
 | 0=>.add | 1=>.sub | 2=>.mul | 3=>.quo | 4=>.rem | 5=>.and | 6=>.or | 7=>.xor | 8=>.shl | 9=>.shr | 10=>.andNot | 11=>.eql | 12=>.neq | 13=>.lss | 14=>.leq | 15=>.gtr | _=>.geq
def dun:Nat->UnOp
 | 0=>.not | 1=>.neg | 2=>.xor | _=>.plus
def yR:Nat->Bool
 | 0=>false | _=>true
def KZ {α:Type}(f:List Nat->α×List Nat):Nat->List Nat->List α×List Nat
 | 0,l=>([],l)
 | k+1,l=>match f l with
  | (a,l)=>match KZ f k l with
   | (r,l)=>(a::r,l)
def gQ {α:Type}(f:List Nat->α×List Nat):List Nat->List α×List Nat
 | k::l=>KZ f k l
 | []=>([],[])
def FM:List Nat->Nat×List Nat
 | k::l=>(k,l)
 | []=>(0,[])
def MU:Nat->Nat->Int
 | 0,_=>0
 | k+1,n=>match Nat.beq n 0 with
  | true=>0
  | false=>2 * MU k (n / 2)+(match n % 2 with | 0=>0 | _=>1)
def dD (cs:List D):List Nat->D×List Nat
 | 0::l=>(.int .i64 0,l) | 1::l=>(.int .u64 0,l) | 2::l=>(.str ⟨#[]⟩,l) | 3::l=>(.slice true [],l) | 4::l=>(.bool false,l) | 5::l=>(.bool true,l)
 | 9::k::l=>(cs.getD k .nilp,l)
 | 6::l=>(.int .u32 0,l) | 7::l=>(.int .u8 0,l) | 8::k::n::l=>(.int (FL k) (MU 64 n),l)
 | 10::l=>(.nilp,l) | 11::l=>(.nilf,l) | 12::l=>(.nili,l) | k::l=>(.int .i64 (MU 64 (k-14)),l)
 | []=>(.nilp,[])
def dV (cs:List D):List Nat->V×List Nat
 | 14::f::l=>(.fn f [],l)
 | 13::l=>match gQ (dD cs) l with | (r,l)=>(.agg (r.map .d),l)
 | l=>match dD cs l with | (x,l)=>(.d x,l)
def dX (cs:List D)(c:Nat):List Nat->X×List Nat
 | 0::l=>match dV cs l with | (v,l)=>(.c v,l)
 | k::l=>match Nat.blt k 10 with
  | true=>(.t (c-k),l)
  | false=>(.t (k-10),l)
 | []=>(.t 0,[])
def dXo (cs:List D)(c:Nat):List Nat->Option X×List Nat
 | 0::l=>(none,l)
 | _::l=>match dX cs c l with | (x,l)=>(some x,l)
 | []=>(none,[])
def dpl (cs:List D)(c:Nat):List Nat->(Nat×Nat×X)×List Nat
 | a::b::l=>match dX cs c l with | (x,l)=>((a,b,x),l)
 | _=>((0,0,.t 0),[])
def dek:Nat->EK
 | 0=>.b | 1=>.s | k=>.i (FL (k-2))
def deq:List Nat->EQ×List Nat
 | 0::l=>(.ptr,l) | 1::l=>(.sl,l) | 2::l=>(.fn,l) | 3::l=>match gQ FM l with | (r,l)=>(.agg (r.map dek),l)
 | k::l=>(.sc (dek (k-4)),l)
 | []=>(.ptr,[])
def dR (cs:List D)(c:Nat):List Nat->R×List Nat
 | 0::l=>match dX cs c l with | (x,l)=>(.mov x,l)
 | 1::n::l=>match dX cs c l with | (x,l)=>(.load false n x,l)
 | 2::n::l=>match dX cs c l with | (x,l)=>(.load true n x,l)
 | 3::o::l=>match dX cs c l with | (x,l)=>(.fldA x o,l)
 | 4::l=>match dX cs c l with | (f,l)=>match gQ (dX cs c) l with | (r,l)=>(.call f r,l)
 | 5::op::l=>match dX cs c l with | (x,l)=>match dX cs c l with | (y,l)=>(.bin (ab2 op) x y,l)
 | 6::n::l=>match deq l with | (k,l)=>match dX cs c l with | (x,l)=>match dX cs c l with | (y,l)=>(.eq k (yR n) x y,l)
 | 7::l=>match dX cs c l with | (a,l)=>match dX cs c l with | (x,l)=>match dX cs c l with | (y,l)=>(.pick a x y,l)
 | 8::i::l=>match dX cs c l with | (x,l)=>(.ext x i,l)
 | 9::n::l=>match dX cs c l with | (x,l)=>match dX cs c l with | (y,l)=>(.store n x y,l)
 | 10::s::l=>match dX cs c l with | (x,l)=>(.len (yR s) x,l)
 | 11::a::z::l=>match dX cs c l with | (x,l)=>match dX cs c l with | (y,l)=>(.idxA (match a with | 0=>none | k+1=>some k) z x y,l)
 | 12::l=>match dX cs c l with | (x,l)=>(.box x,l)
 | 13::l=>match gQ (dV cs) l with | (z,l)=>(.new z,l)
 | 14::l=>match gQ (dV cs) l with | (z,l)=>match gQ (dpl cs c) l with | (p,l)=>(.build z p,l)
 | 15::a::b::l=>match gQ (dV cs) l with | (z,l)=>match gQ (dpl cs c) l with | (p,l)=>(.buildS a b z p,l)
 | 16::z::b::l=>match dX cs c l with | (x,l)=>match dX cs c l with | (y,l)=>(.app z b x y,l)
 | 17::op::l=>match dX cs c l with | (x,l)=>(.un (dun op) x,l)
 | 18::k::l=>match dX cs c l with | (x,l)=>(.convI (FL k) x,l)
 | 19::k::z::l=>match dX cs c l with | (x,l)=>match dXo cs c l with | (lo,l)=>match dXo cs c l with | (hi,l)=>match dXo cs c l with | (mx,l)=>(.slc (match k with | 0=>.sl | 1=>.st | k+2=>.ar k) z x lo hi mx,l)
 | 20::f::l=>match gQ (dX cs c) l with | (r,l)=>(.mkfn f r,l)
 | 21::f::l=>match gQ (dX cs c) l with | (r,l)=>(.mkmv f r,l)
 | 22::s::o::n::l=>match dX cs c l with | (x,l)=>(.fld (yR s) x o n,l)
 | 23::s::n::z::l=>match dX cs c l with | (x,l)=>match dX cs c l with | (y,l)=>(.idx (yR s) n z x y,l)
 | 24::l=>match dX cs c l with | (x,l)=>match dX cs c l with | (y,l)=>(.idxS x y,l)
 | 25::z::b::l=>match gQ (dV cs) l with | (v,l)=>match dX cs c l with | (x,l)=>match dX cs c l with | (y,l)=>(.mksl z b v x y,l)
 | 26::z::l=>match dX cs c l with | (x,l)=>match dX cs c l with | (y,l)=>(.copy z x y,l)
 | 27::z::l=>match gQ (dV cs) l with | (v,l)=>match dX cs c l with | (x,l)=>(.clear z v x,l)
 | 28::m::l=>match gQ (dX cs c) l with | (r,l)=>(.minmax (yR m) r,l)
 | 29::l=>match dX cs c l with | (x,l)=>(.range x,l)
 | 30::l=>match dX cs c l with | (x,l)=>(.next x,l)
 | 31::l=>match dX cs c l with | (x,l)=>(.convBS x,l)
 | 32::l=>match dX cs c l with | (x,l)=>(.convSB x,l)
 | 33::l=>match dX cs c l with | (x,l)=>(.convSS x,l)
 | _::l=>match dX cs c l with | (x,l)=>(.nilchk x,l)
 | []=>(.mov (.t 0),[])
def dG (cs:List D)(c:Nat):Nat->List Nat->Option (Nat×Bool)×List Nat
 | 0,l=>(none,l)
 | k+1,l=>match dX cs c l with
  | (.t i,l)=>(some (i,match k with | 0=>true | _=>false),l)
  | (_,l)=>(none,l)
def dO (cs:List D)(c:Nat):List Nat->RO×Nat×List Nat
 | h::l=>match dG cs c (h / 3) l with
  | (g,l)=>match h % 3 with
   | 0=>match dR cs c l with | (r,l)=>(⟨g,none,r⟩,c,l)
   | 1=>match dR cs c l with | (r,l)=>(⟨g,some c,r⟩,c+1,l)
   | _=>match l with
    | j::l=>match dR cs c l with | (r,l)=>(⟨g,some j,r⟩,max c (j+1),l)
    | []=>(⟨g,none,.mov (.t 0)⟩,c,[])
 | []=>(⟨none,none,.mov (.t 0)⟩,c,[])
def dOs (cs:List D):Nat->Nat->List Nat->List RO×Nat×List Nat
 | 0,c,l=>([],c,l)
 | k+1,c,l=>match dO cs c l with
  | (o,c,l)=>match dOs cs k c l with
   | (r,c,l)=>(o::r,c,l)
def dQ (cs:List D)(bs:List QC):Nat->Nat->List Nat->QC×Nat×List Nat
 | 0,c,l=>(.skip,c,l)
 | k+1,c,l=>match l with
  | 0::l=>(.skip,c,l)
  | 1::l=>match dQ cs bs k c l with | (a,c,l)=>match dQ cs bs k c l with | (b,c,l)=>(.seq a b,c,l)
  | 2::n::l=>match dOs cs n c l with | (r,c,l)=>(.reg none r,c,l)
  | 3::l=>match dX cs c l with | (x,l)=>match dQ cs bs k c l with | (a,c,l)=>match dQ cs bs k c l with | (b,c,l)=>(.cond x a b,c,l)
  | 4::l=>match gQ FM l with | (r,l)=>(.ret r,c,l)
  | 5::i::l=>match gQ FM l with | (r,l)=>(.exit i r,c,l)
  | 6::i::l=>match dQ cs bs k c l with | (a,c,l)=>(.block i a,c,l)
  | 7::i::j::l=>match gQ FM l with | (r,l)=>(.loop r (bs.getD i .skip),j,l)
  | 8::n::l=>match gQ (gQ FM) l with | (p,l)=>match dOs cs n c l with | (r,c,l)=>(.reg (some p) r,c,l)
  | _=>(.skip,c,[])
def dRV:List Nat->RV×List Nat
 | 0::t::l=>(.tmp t,l)
 | s::t::n::l=>(.cell t (match s with | 1=>false | _=>true) n,l)
 | _=>(.tmp 0,[])
def dC (cs:List D)(bs:List QC)(n:Nat):QC:=match AU 100000 n with
 | c::l=>(dQ cs bs 1000 c l).1
 | []=>.skip
def dF (cs:List D)(bs:List QC)(n:Nat):QF:=match AU 100000 n with
 | m::c::l=>match gQ dRV l with | (r,l)=>⟨m,r,(dQ cs bs 1000 c l).1⟩
 | _=>⟨0,[],.skip⟩
abbrev C0 (n:Nat):={q:QC // dC [] [] n=q}
abbrev C1 (n:Nat):={k:QC->QC // ∀ a,dC [] [a] n=k a}
abbrev C2 (n:Nat):={k:QC->QC->QC // ∀ a b,dC [] [a,b] n=k a b}
abbrev C3 (n:Nat):={k:QC->QC->QC->QC // ∀ a b c,dC [] [a,b,c] n=k a b c}
abbrev C4 (n:Nat):={k:QC->QC->QC->QC->QC // ∀ a b c d,dC [] [a,b,c,d] n=k a b c d}
abbrev C5 (n:Nat):={k:QC->QC->QC->QC->QC->QC // ∀ a b c d e,dC [] [a,b,c,d,e] n=k a b c d e}
abbrev F0 (n:Nat):={q:QF // dF [] [] n=q}
abbrev F1 (n:Nat):={k:QC->QF // ∀ a,dF [] [a] n=k a}
abbrev F2 (n:Nat):={k:QC->QC->QF // ∀ a b,dF [] [a,b] n=k a b}
abbrev F3 (n:Nat):={k:QC->QC->QC->QF // ∀ a b c,dF [] [a,b,c] n=k a b c}
abbrev F4 (n:Nat):={k:QC->QC->QC->QC->QF // ∀ a b c d,dF [] [a,b,c,d] n=k a b c d}
abbrev F5 (n:Nat):={k:QC->QC->QC->QC->QC->QF // ∀ a b c d e,dF [] [a,b,c,d,e] n=k a b c d e}
abbrev F6 (n:Nat):={k:QC->QC->QC->QC->QC->QC->QF // ∀ a b c d e f,dF [] [a,b,c,d,e,f] n=k a b c d e f}
end
section
def QOk (P:Program)(f:FuncId)(q:QF):Prop:=∃ rf,BB P f=some rf/\rf.quiet=q.toRF/\q.fits=true
theorem qok {P:Program}{f:FuncId}{q:QF}(h:(BB P f).map RF.quiet=some q.toRF)(hf:q.fits=true):QOk P f q:=by
 simp only [bk] at h;obtain ⟨rf,h1,h2⟩:=h;exact ⟨rf,h1,h2,hf⟩
theorem oks {P:Program}{l:List (Nat×QF)}(h:(l.map λp=>(BB P p.1).map RF.quiet)=l.map λp=>some p.2.toRF)(hf:(l.all λp=>p.2.fits)=true):∀ p∈l,QOk P p.1 p.2:=λp hp =>
 qok (List.map_inj_left.1 h p hp) (cn.1 hf p hp)
def gI:List (Nat×QF)->Nat->Option QF
 | [],_=>none
 | (k,q)::l,n=>match Nat.beq k n with
  | true=>some q
  | false=>gI l n
theorem di {P:Program}:∀ {l:List (Nat×QF)},(∀ p∈l,QOk P p.1 p.2)->jy P (gI l)
 | [],_=>λf q h=>by simp [gI] at h
 | (k,q0)::l,hl=>λf q h=>by
  simp only [gI] at h;split at h
  . rename_i hk;have:=Nat.eq_of_beq_eq_true hk;subst this;cases h;exact hl (k,q0) (by simp)
  . exact di (λp hp=>hl p (List.mem_cons_of_mem _ hp)) f q h
end
section
def cls (l:List (List Nat)):List (List Nat):=l.foldl (λacc d=>acc++[ded (d.flatMap λe=>e::acc.getD e [])]) []
@[simp] def zi:V:=.d (.int .i64 0)
@[simp] def zs0:V:=.d (.slice true [])
@[simp] def zu:V:=.d (.int .u64 0)
@[simp] def zw:V:=.d (.int .u32 0)
@[simp] def zb:V:=.d (.bool false)
@[simp] def sr (l:List RO)(b:QC):QC:=.seq (.reg none l) b
@[simp] def kc' (f:Nat)(a:List X):R:=.call (.c (.fn f [])) a
@[simp] def kt' (f:Nat)(a:List X):R:=.call (.t f) a
@[simp] def l1' (a:Nat):R:=.load true 1 (.t a)
@[simp] def lf (z a:Nat):R:=.load false z (.t a)
@[simp] def fa (a o:Nat):R:=.fldA (.t a) o
@[simp] def ln' (a:Nat):R:=.len false (.t a)
@[simp] def ia (z a b:Nat):R:=.idxA none z (.t a) (.t b)
@[simp] def bt (o:BinOp)(a b:Nat):R:=.bin o (.t a) (.t b)
@[simp] def bc (o:BinOp)(a:Nat)(c:Int):R:=.bin o (.t a) (.c (.d (.int .i64 c)))
@[simp] def oc' (n:Nat)(c:Int):RO:=⟨none,some n,.mov (.c (.d (.int .i64 c)))⟩
@[simp] def so' (z a b:Nat):RO:=⟨none,none,.store z (.t a) (.t b)⟩
@[simp] def nw' (n:Nat)(z:List V):RO:=⟨none,some n,.new z⟩
@[simp] def op (n:Nat)(r:R):RO:=⟨none,some n,r⟩
@[simp] def mv (n i:Nat):RO:=⟨none,some n,.mov (.t i)⟩
@[simp] def ot (g n:Nat)(r:R):RO:=⟨some (g,true),some n,r⟩
@[simp] def ow (g n:Nat)(r:R):RO:=⟨some (g,false),some n,r⟩
@[simp] def ci (n:Int):X:=.c (.d (.int .i64 n))
@[simp] def g0' :QF:=(⟨_,by cbv⟩:F0 0x214102211212031321100110c122120115).1
@[simp] def g1' (c0:QC):QF:=(⟨_,λ_=>by cbv⟩:F1 0x41410423c01221a985159c0706000110a160823211300112130011214014ac).1 c0
@[simp] def g2' :QC:=(⟨_,by cbv⟩:C0 0x10a23c08c0512206144006212113401dc71174c5dc41154dc4112dc41210bdc45c0dc4a0940c084116474112641310b543c0115445c034a0240c0141010013c5160101256478390cb1c2ca3c4c5c01256478390cb1c2ca3c4c01256478390cb1c2ca3c0120cb1c60120cb50123012301230125647839012564770125646012540123012301230120106c6c811072201221161102050131211c51121b).1
@[simp] def g3' (c0:QC):QF:=(⟨_,λ_=>by cbv⟩:F1 0x414500421218710402d0706000110a1506232114001121401402d).1 c0
@[simp] def g4' :QC:=(⟨_,by cbv⟩:C0 0x10823c06c0512204144004212113401bc71174c5bc41154bc4151bc41250bbc43c0bc4a094b084116474151641350b543c0115443c034a024b0141010013c5160101256478390cb1c2ca3c4c5c01256478390cb1c2ca3c4c01256478390cb1c2ca3c0120cb1c60120cb50123012301230125647839012564770125646012540123012301230120106c6c8110522012211610050131211c511219).1
@[simp] def g5' (c0:QC):QF:=(⟨_,λ_=>by cbv⟩:F1 0xba43210778d0706500112150011210a78d).1 c0
@[simp] def g6' (c0:QC):QF:=(⟨_,λ_=>by cbv⟩:F1 0x83210519d070610823c010519013210a19d).1 c0
@[simp] def g7' (c0:QC):QC:=(⟨_,λ_=>by cbv⟩:C1 0xec0823c0dc054c26c03c232983210619d07261092705c2221161005013121c510c0140132110c).1 c0
@[simp] def g8' :QC:=(⟨_,by cbv⟩:C0 0x12d0923c011d1508d27c007d2323159017d15d50b16159014d13d50b115111250b17c01a0115111350b13c011517c01a013c011517c01a017c01a009d26c23618321052501340103d710011c503d416204d403d415103d41350b943c0115847c074a064151541250b447c034a0241c014101123c51b019011023ab90c1c657842c3c4c1023ab90c1c657842c3c1023ab90c1c657842c1023ab90c81023ab971023a510234102341023657710236561023410234102341023102005c5c8116c).1
@[simp] def g9' (c0:QC):QF:=(⟨_,λ_ _=>by cbv⟩:{z:QC->D->QF // ∀ a b,dF [b] [a] 0x4140900421215213ac0706000112110004220c12214012ac=z a b}).1 c0 (.int .i64 (-1))
def allQ (con clo:Nat):QF:=⟨17,[.tmp 6],(sr [op 5 (.box (.t 2)),op 6 (.mov (.c zb))] (sr [mv 7 1,op 8 (ln' 7),mv 9 0,op 10 (bt .leq 8 9),mv 11 10,ot 11 12 (.mov (.t 1)),ot 11 13 (.mkfn clo [.t 5]),ot 11 14 (.call (.c (.fn con [])) [.t 12,.t 13]),ot 11 15 (.un .not (.t 14)),op 16 (.pick (.t 11) (.t 15) (.c zb)),mv 6 16] (.ret [6])))⟩
def anyQ (idx:Nat):QF:=⟨9,[.tmp 4],(sr [op 4 (.mov (.c zb))] (sr [mv 5 0,mv 6 1,op 7 (.call (.c (.fn idx [])) [.t 5,.t 6]),op 8 (bc .geq 7 0),mv 4 8] (.ret [4])))⟩
def apacQ (z con:Nat):QF:=⟨10,[.tmp 4],(sr [op 3 (.box (.t 0)),op 4 (.mov (.c zb))] (.seq (.reg (some [[],[],[],[1,2],[0,3,1,2],[4,0,3,1,2]]) [op 5 (l1' 1),op 6 (l1' 2),op 7 (.load false z (.t 3)),op 8 (kt' 6 [.t 7]),op 9 (.call (.c (.fn con [])) [.t 5,.t 8]),mv 4 9]) (.ret [4])))⟩
def aparQ (ris slf clo sm:Nat):QF:=⟨18,[.tmp 8],(sr [op 4 (.box (.t 0)),op 7 (.box (.t 3)),op 8 (.mov (.c zb))] (sr [op 9 (l1' 4),mv 10 1,op 11 (.call (.c (.fn ris [])) [.t 9,.t 10,(.c (.fn slf []))]),mv 12 11,ot 12 13 (.mov (.t 2)),ot 12 14 (.mkfn clo [.t 4,.t 7]),ot 12 15 (.call (.c (.fn sm [])) [.t 13,.t 14]),ot 12 16 (.un .not (.t 15)),op 17 (.pick (.t 12) (.t 16) (.c zb)),mv 8 17] (.ret [8])))⟩
def cloneQ (z b:Nat)(zero:List V):QF:=⟨8,[.tmp 2],(sr [op 2 (.mov (.c zs0))] (.seq (sr [mv 3 0,op 4 (.eq .sl false (.t 3) (.c zs0))] (.cond (.t 4) (sr [op 2 (.mov (.c zs0))] (.ret [2])) .skip)) (sr [op 5 (.buildS z 0 zero []),mv 6 0,op 7 (.app z b (.t 5) (.t 6)),mv 2 7] (.ret [2]))))⟩
def tO (kd:IntKind):QC:=(.seq (sr [mv 29 5,mv 30 4,op 31 (ln' 30),op 32 (bt .lss 29 31)] (.cond (.t 32) .skip (.exit 2 [0,3]))) (.seq (.block 3 (sr [mv 35 4,mv 36 5,op 37 (ia 1 35 36),op 38 (l1' 37),mv 39 4,mv 40 5,op 41 (bc .sub 40 1),op 42 (ia 1 39 41),op 43 (l1' 42),op 44 (.eq (.sc (.i kd)) true (.t 38) (.t 43))] (.cond (.t 44) (sr [mv 45 0,mv 46 3,mv 47 4,mv 48 5,op 49 (ia 1 47 48),op 50 (l1' 49),op 51 (ia 1 45 46),so' 1 51 50] (.reg none [mv 52 3,op 53 (bc .add 52 1),mv 3 53])) .skip))) (.reg none [mv 33 5,op 34 (bc .add 33 1),mv 5 34])))
def q8 (kd:IntKind):QC:=(.seq (sr [mv 10 3,mv 11 0,op 12 (ln' 11),op 13 (bt .lss 10 12)] (.cond (.t 13) .skip (.exit 0 [0]))) (.seq (.block 1 (sr [mv 16 0,mv 17 3,op 18 (ia 1 16 17),op 19 (l1' 18),mv 20 0,mv 21 3,op 22 (bc .sub 21 1),op 23 (ia 1 20 22),op 24 (l1' 23),op 25 (.eq (.sc (.i kd)) false (.t 19) (.t 24))] (.cond (.t 25) (sr [mv 26 0,mv 27 3,op 28 (.slc .sl 1 (.t 26) (some (.t 27)) none none),mv 4 28] (.seq (sr [oc' 5 1] (.block 2 (.loop [0,3,4,5] (tO kd)))) (sr [mv 54 0,mv 55 3,op 56 (.slc .sl 1 (.t 54) (some (.t 55)) none none),⟨none,none,.clear 1 [(.d (.int kd 0))] (.t 56)⟩] (sr [mv 57 0,mv 58 3,op 59 (.slc .sl 1 (.t 57) none (some (.t 58)) none),mv 2 59] (.ret [2]))))) .skip))) (.reg none [mv 14 3,op 15 (bc .add 14 1),mv 3 15])))
def cmpQ (kd:IntKind):QF:=⟨61,[.tmp 2],(sr [op 2 (.mov (.c zs0))] (.seq (sr [mv 6 0,op 7 (ln' 6),op 8 (bc .lss 7 2)] (.cond (.t 8) (sr [mv 9 0,mv 2 9] (.ret [2])) .skip)) (.seq (sr [oc' 3 1] (.block 0 (.loop [0,3] (q8 kd)))) (sr [mv 60 0,mv 2 60] (.ret [2])))))⟩
def AR (z:Nat)(zero:List V):QC:=(.seq (sr [mv 16 6,mv 17 0,op 18 (ln' 17),op 19 (bt .lss 16 18)] (.cond (.t 19) .skip (.exit 0 [0,5]))) (.seq (.block 1 (sr [mv 22 0,mv 23 6,op 24 (.idxA none z (.t 22) (.t 23)),op 25 (.load false z (.t 24)),op 7 (.new zero),⟨none,none,.store z (.t 7) (.t 25)⟩] (sr [mv 26 1,op 27 (.load false z (.t 7)),op 28 (kt' 26 [.t 27]),op 29 (.un .not (.t 28))] (.cond (.t 29) (sr [mv 30 0,mv 31 5,op 32 (.load false z (.t 7)),op 33 (.idxA none z (.t 30) (.t 31)),⟨none,none,.store z (.t 33) (.t 32)⟩] (.reg none [mv 34 5,op 35 (bc .add 34 1),mv 5 35])) .skip)))) (.reg none [mv 20 6,op 21 (bc .add 20 1),mv 6 21])))
def delQ (z idx:Nat)(zero:List V):QF:=⟨42,[.tmp 4],(sr [op 4 (.mov (.c zs0))] (sr [mv 8 0,mv 9 1,op 10 (.call (.c (.fn idx [])) [.t 8,.t 9]),mv 5 10] (.seq (sr [mv 11 5,op 12 (.eq (.sc (.i .i64)) false (.t 11) (.c (.d (.int .i64 (-1)))))] (.cond (.t 12) (sr [mv 13 0,mv 4 13] (.ret [4])) .skip)) (.seq (sr [mv 14 5,op 15 (bc .add 14 1),mv 6 15] (.block 0 (.loop [0,1,5,6] (AR z zero)))) (sr [mv 36 0,mv 37 5,op 38 (.slc .sl z (.t 36) (some (.t 37)) none none),⟨none,none,.clear z zero (.t 38)⟩] (sr [mv 39 0,mv 40 5,op 41 (.slc .sl z (.t 39) none (some (.t 40)) none),mv 4 41] (.ret [4])))))))⟩
def AX (z:Nat)(zero:List V):QC:=(sr [op 18 (bt .lss 17 16)] (.seq (.cond (.t 18) .skip (.exit 0 [])) (.seq (.block 1 (sr [mv 19 17,op 20 (.idxA none z (.t 15) (.t 17)),op 21 (.load false z (.t 20)),op 8 (.new zero),mv 7 19,⟨none,none,.store z (.t 8) (.t 21)⟩] (sr [mv 22 1,mv 23 7,op 24 (.idxA none z (.t 22) (.t 23)),op 25 (.load false z (.t 24)),op 9 (.new zero),⟨none,none,.store z (.t 9) (.t 25)⟩] (sr [mv 26 2,op 27 (.load false z (.t 8)),op 28 (.load false z (.t 9)),op 29 (kt' 26 [.t 27,.t 28]),op 30 (.un .not (.t 29))] (.cond (.t 30) (sr [op 6 (.mov (.c zb))] (.ret [6])) .skip))))) (.reg none [op 31 (bc .add 17 1),mv 17 31]))))
def eqfQ (z:Nat)(zero:List V):QF:=⟨32,[.tmp 6],(sr [op 6 (.mov (.c zb))] (.seq (sr [mv 10 0,op 11 (ln' 10),mv 12 1,op 13 (ln' 12),op 14 (.eq (.sc (.i .i64)) true (.t 11) (.t 13))] (.cond (.t 14) (sr [op 6 (.mov (.c zb))] (.ret [6])) .skip)) (.seq (sr [mv 15 0,op 16 (ln' 15),oc' 17 0] (.block 0 (.loop [1,2,15,16,17] (AX z zero)))) (sr [op 6 (.mov (.c (.d (.bool true))))] (.ret [6])))))⟩
def tX (k:EQ):QC:=(sr [op 14 (bt .lss 13 12)] (.seq (.cond (.t 14) .skip (.exit 0 [])) (.seq (.block 1 (sr [mv 15 13,mv 5 15] (sr [mv 16 0,mv 17 5,op 18 (ia 1 16 17),op 19 (l1' 18),mv 20 1,mv 21 5,op 22 (ia 1 20 21),op 23 (l1' 22),op 24 (.eq k true (.t 19) (.t 23))] (.cond (.t 24) (sr [op 4 (.mov (.c zb))] (.ret [4])) .skip)))) (.reg none [op 25 (bc .add 13 1),mv 13 25]))))
def eql1Q (k:EQ):QF:=⟨26,[.tmp 4],(sr [op 4 (.mov (.c zb))] (.seq (sr [mv 6 0,op 7 (ln' 6),mv 8 1,op 9 (ln' 8),op 10 (.eq (.sc (.i .i64)) true (.t 7) (.t 9))] (.cond (.t 10) (sr [op 4 (.mov (.c zb))] (.ret [4])) .skip)) (.seq (sr [mv 11 0,op 12 (ln' 11),oc' 13 0] (.block 0 (.loop [0,1,12,13] (tX k)))) (sr [op 4 (.mov (.c (.d (.bool true))))] (.ret [4])))))⟩
def AY (z:Nat)(k:EQ):QC:=(sr [op 14 (bt .lss 13 12)] (.seq (.cond (.t 14) .skip (.exit 0 [])) (.seq (.block 1 (sr [mv 15 13,mv 5 15] (sr [mv 16 0,mv 17 5,op 18 (.idxA none z (.t 16) (.t 17)),op 19 (.load false z (.t 18)),mv 20 1,mv 21 5,op 22 (.idxA none z (.t 20) (.t 21)),op 23 (.load false z (.t 22)),op 24 (.eq k true (.t 19) (.t 23))] (.cond (.t 24) (sr [op 4 (.mov (.c zb))] (.ret [4])) .skip)))) (.reg none [op 25 (bc .add 13 1),mv 13 25]))))
def eqlQ (z:Nat)(k:EQ):QF:=⟨26,[.tmp 4],(sr [op 4 (.mov (.c zb))] (.seq (sr [mv 6 0,op 7 (ln' 6),mv 8 1,op 9 (ln' 8),op 10 (.eq (.sc (.i .i64)) true (.t 7) (.t 9))] (.cond (.t 10) (sr [op 4 (.mov (.c zb))] (.ret [4])) .skip)) (.seq (sr [mv 11 0,op 12 (ln' 11),oc' 13 0] (.block 0 (.loop [0,1,12,13] (AY z k)))) (sr [op 4 (.mov (.c (.d (.bool true))))] (.ret [4])))))⟩
def uo:QC:=(sr [op 9 (bt .lss 8 7)] (.seq (.cond (.t 9) .skip (.exit 0 [])) (.seq (.block 1 (sr [mv 10 8,mv 5 10] (sr [mv 11 1,mv 12 0,mv 13 5,op 14 (ia 1 12 13),op 15 (l1' 14),op 16 (kt' 11 [.t 15])] (.cond (.t 16) (sr [mv 17 5,mv 4 17] (.ret [4])) .skip)))) (.reg none [op 18 (bc .add 8 1),mv 8 18]))))
def idx1Q:QF:=⟨19,[.tmp 4],(sr [oc' 4 0] (.seq (sr [mv 6 0,op 7 (ln' 6),oc' 8 0] (.block 0 (.loop [0,1,7,8] uo))) (sr [op 4 (.mov (.c (.d (.int .i64 (-1)))))] (.ret [4]))))⟩
def A8 (z:Nat):QC:=(sr [op 9 (bt .lss 8 7)] (.seq (.cond (.t 9) .skip (.exit 0 [])) (.seq (.block 1 (sr [mv 10 8,mv 5 10] (sr [mv 11 1,mv 12 0,mv 13 5,op 14 (.idxA none z (.t 12) (.t 13)),op 15 (.load false z (.t 14)),op 16 (kt' 11 [.t 15])] (.cond (.t 16) (sr [mv 17 5,mv 4 17] (.ret [4])) .skip)))) (.reg none [op 18 (bc .add 8 1),mv 8 18]))))
def idxQ (z:Nat):QF:=⟨19,[.tmp 4],(sr [oc' 4 0] (.seq (sr [mv 6 0,op 7 (ln' 6),oc' 8 0] (.block 0 (.loop [0,1,7,8] (A8 z)))) (sr [op 4 (.mov (.c (.d (.int .i64 (-1)))))] (.ret [4]))))⟩
def keepQ (cl clos del:Nat):QF:=⟨9,[.tmp 4],(sr [op 3 (.box (.t 1)),op 4 (.mov (.c zs0))] (sr [mv 5 0,op 6 (.call (.c (.fn cl [])) [.t 5]),op 7 (.mkfn clos [.t 3]),op 8 (.call (.c (.fn del [])) [.t 6,.t 7]),mv 4 8] (.ret [4])))⟩
def not1Q:QF:=⟨8,[.tmp 3],(sr [op 3 (.mov (.c zb))] (sr [op 4 (l1' 1),mv 5 0,op 6 (kt' 4 [.t 5]),op 7 (.un .not (.t 6)),mv 3 7] (.ret [3])))⟩
def notQ (z:Nat):QF:=⟨8,[.tmp 3],(sr [op 2 (.box (.t 0)),op 3 (.mov (.c zb))] (sr [op 4 (l1' 1),op 5 (.load false z (.t 2)),op 6 (kt' 4 [.t 5]),op 7 (.un .not (.t 6)),mv 3 7] (.ret [3])))⟩
def uO (z:Nat):QC:=(sr [op 11 (bt .lss 10 9)] (.seq (.cond (.t 11) .skip (.exit 0 [0,1])) (.seq (.block 1 (sr [mv 12 10,mv 7 12] (.seq (.reg (some [[],[0],[1,0],[2,1,0],[2,1,0],[2,1,0],[5,2,1,0],[4,6,5,2,1,0],[7,4,6,5,2,1,0],[3,8,7,4,6,5,2,1,0],[2,1,0],[2,1,0],[2,1,0],[11,12,2,1,0],[13,11,12,2,1,0],[10,14,13,11,12,9,3,8,7,4,6,5,2,1,0],[15,10,14,13,11,12,9,3,8,7,4,6,5,2,1,0],[16,15,10,14,13,11,12,9,3,8,7,4,6,5,2,1,0]]) [mv 13 7,op 14 (bc .gtr 13 0),mv 15 14,ot 15 16 (.mov (.t 2)),ot 15 17 (.mov (.t 0)),ot 15 18 (.mov (.t 7)),ot 15 19 (bc .sub 18 1),ot 15 20 (.idxA none z (.t 17) (.t 19)),ot 15 21 (.load false z (.t 20)),ot 15 22 (kt' 16 [.t 21]),ot 15 23 (.mov (.t 2)),ot 15 24 (.mov (.t 0)),ot 15 25 (.mov (.t 7)),ot 15 26 (.idxA none z (.t 24) (.t 25)),ot 15 27 (.load false z (.t 26)),ot 15 28 (kt' 23 [.t 27]),ot 15 29 (bt .geq 22 28),op 30 (.pick (.t 15) (.t 29) (.c zb))]) (.cond (.t 30) (sr [op 6 (.mov (.c zb))] (.ret [6])) .skip)))) (.reg none [op 31 (bc .add 10 1),mv 10 31]))))
def rsgQ (z:Nat):QF:=⟨36,[.tmp 6],(sr [op 6 (.mov (.c zb))] (.seq (sr [mv 8 0,op 9 (ln' 8),oc' 10 0] (.block 0 (.loop [0,1,2,9,10] (uO z)))) (sr [mv 32 0,op 33 (ln' 32),mv 34 1,op 35 (bt .leq 33 34),mv 6 35] (.ret [6]))))⟩
def someQ (con:Nat):QF:=⟨8,[.tmp 4],(sr [op 4 (.mov (.c zb))] (sr [mv 5 0,mv 6 1,op 7 (.call (.c (.fn con [])) [.t 5,.t 6]),mv 4 7] (.ret [4])))⟩
def vpcQ (z con c11 sm:Nat):QF:=⟨18,[.tmp 5],(sr [op 4 (.box (.t 0)),op 5 (.mov (.c zb))] (.seq (.reg (some [[],[],[],[1,2],[0,3,1,2],[4,0,3,1,2],[5,4,0,3,1,2],[6,5,4,0,3,1,2],[6,5,4,0,3,1,2],[7,8,6,5,4,0,3,1,2],[9,7,8,6,5,4,0,3,1,2],[10,9,7,8,6,5,4,0,3,1,2],[11,10,9,7,8,6,5,4,0,3,1,2]]) [op 6 (l1' 1),op 7 (l1' 2),op 8 (.load false z (.t 4)),op 9 (kt' 7 [.t 8]),op 10 (.call (.c (.fn con [])) [.t 6,.t 9]),op 11 (.un .not (.t 10)),mv 12 11,ot 12 13 (l1' 3),ot 12 14 (.mkfn c11 [.t 2,.t 4]),ot 12 15 (.call (.c (.fn sm [])) [.t 13,.t 14]),ot 12 16 (.un .not (.t 15)),op 17 (.pick (.t 12) (.t 16) (.c zb)),mv 5 17]) (.ret [5])))⟩
def vpeQ (z:Nat):QF:=⟨12,[.tmp 4],(sr [op 3 (.box (.t 0)),op 4 (.mov (.c zb))] (.seq (.reg (some [[],[],[0,1],[],[],[3,4,2,0,1],[5,3,4,2,0,1],[6,5,3,4,2,0,1]]) [op 5 (l1' 1),op 6 (.load false z (.t 2)),op 7 (kt' 5 [.t 6]),op 8 (l1' 1),op 9 (.load false z (.t 3)),op 10 (kt' 8 [.t 9]),op 11 (.eq (.sc (.i .u64)) false (.t 7) (.t 10)),mv 4 11]) (.ret [4])))⟩
def vputQ (z b c1 keep g srt:Nat):QF:=⟨20,[.tmp 8],(sr [op 5 (.box (.t 1)),op 6 (.box (.t 2)),op 7 (.box (.t 3)),op 8 (.mov (.c zs0))] (sr [mv 10 0,op 11 (.mkfn c1 [.t 6,.t 7,.t 5]),op 12 (.call (.c (.fn keep [])) [.t 10,.t 11]),mv 9 12] (sr [mv 13 9,op 14 (l1' 5),op 15 (.app z b (.t 13) (.t 14)),mv 9 15] (sr [mv 16 9,op 17 (.mkfn g [.t 7]),op 18 (.call (.c (.fn srt [])) [.t 16,.t 17])] (sr [mv 19 9,mv 8 19] (.ret [8]))))))⟩
end
