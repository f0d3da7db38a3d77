/- All operations but calls, together. -/
import Derived.Test.YtllbjfmiilckiaaGreatPq
import Derived.LoopN
import Derived.Scope
import Derived.Orders
set_option linter.unusedVariables false
set_option linter.unusedSimpArgs false
namespace Go.Proofs.YtllbjfmiilckiaaGreat
section
open Go.RowKit
section
variable {P:Program}{B:Nat}{ρ:Rh}{h:Hp}{w:World}{e:Env}{a:Act}
theorem om {S:Nat->Prop}{zero:List V}{z:Array Value}(hz:VRs ρ S w zero z.toList)(h1:∀ u∈z.toList,u.oneCell'=true)(k:Nat) :
 VRs ρ S w (List.replicate k zero).flatten ((Array.range (k * z.size)).map (z[· % z.size]!)).toList/\∀ u∈((Array.range (k * z.size)).map (z[· % z.size]!)).toList,u.oneCell'=true:=by
 have hl:=hz.length;simp only [Array.length_toList] at hl;have hfl:∀ k,(List.replicate k zero).flatten.length=k * zero.length:=by
  intro k
  induction k with
  | zero=>simp
  | succ k ih=>simp [List.replicate_succ,Nat.add_mul,ih,Nat.add_comm]
 have hget:∀ (k i:Nat) (hi:i<(List.replicate k zero).flatten.length) (hm:i % zero.length<zero.length),(List.replicate k zero).flatten[i]=zero[i % zero.length]:=by
  intro k
  induction k with
  | zero=>intro i hi; simp at hi
  | succ k ih =>
   intro i hi hm;simp only [List.replicate_succ,List.flatten_cons];obtain h2 | h2:=cr i zero.length
   . rw [List.getElem_append_left h2];simp only [Nat.mod_eq_of_lt h2]
   . rw [List.getElem_append_right h2];have hi':i-zero.length<(List.replicate k zero).flatten.length:=by
      rw [hfl] at hi ⊢;rw [Nat.add_mul] at hi;omega
     have hm':(i-zero.length) % zero.length=i % zero.length:=by
      have:i=(i-zero.length)+zero.length:=by omega
      conv=>rhs; rw [this,Nat.add_mod_right]
     rw [ih (i-zero.length) hi' (by rw [hm']; exact hm)];simp only [hm']
 have key:∀ (i:Nat) (h3:i<(List.replicate k zero).flatten.length) (h4:i<((Array.range (k * z.size)).map (z[· % z.size]!)).toList.length),
  VR ρ S w (List.replicate k zero).flatten[i] ((Array.range (k * z.size)).map (z[· % z.size]!)).toList[i]/\(((Array.range (k * z.size)).map (z[· % z.size]!)).toList[i]).oneCell'=true:=by
  intro i h3 h4;have hpos:0<z.size:=by
   simp at h4;obtain h5 | h5:=Nat.eq_zero_or_pos z.size
   . rw [h5] at h4; omega
   . exact h5
  have hm:i % z.size<z.size:=Nat.mod_lt _ hpos;have e1:((Array.range (k * z.size)).map (z[· % z.size]!)).toList[i]=z.toList[i % z.size]'(by simpa using hm):=by
   simp [hm]
  rw [hget k i h3 (by rw [← hl]; exact hm),e1];have:=hz.get (i % z.size) (by omega) (by simpa using hm);simp only [← hl];exact ⟨this,h1 _ (bj _)⟩
 refine ⟨VRs.of_get (by simp [hfl,hl]) λi h3 h4=>(key i h3 h4).1,λu hu=>?_⟩;obtain ⟨i,hi,rfl⟩:=List.getElem_of_mem hu;exact (key i (by rw [hfl]; simp at hi; rw [← hl]; exact hi) hi).2
theorem af {α β:Type}{x:Option α}{f:α->Option β}{y:β}(hh:(x >>= f)=some y):∃ z,x=some z/\f z=some y:=by
 cases x with
 | none=>cases hh
 | some z=>exact ⟨z,rfl,hh⟩
theorem parts_eval {place:Nat->Option (Nat×Nat)}{ps:Array (Nat×Operand)}{pl:List (Nat×Nat×X)}(hp:partsOf place ps=some pl) :
 ps.toList.mapM (λp=>do let (o,n) ← place p.1; pure (o,n,← bv p.2))=some pl:=hp
theorem tC (hR:Rel B ρ h w)(hE:ER ρ w e a.tmps){t:TypeId}{ps:Array (Nat×Operand)}{place:Nat->Option (Nat×Nat)}{pl:List (Nat×Nat×X)}{zero cs:List V}
 (hz:iq P t=some zero) (hp:partsOf place ps=some pl) (hf:fills e zero pl=some cs)
 (hb:∀ i z cells,P.info? t=some i->i.zero=some z->Instr.fill place z.cells (ps.toList.map λp=>(p.1,a.eval p.2))=some cells->P.built t (ps.toList.map λp=>(p.1,a.eval p.2))=some cells) :
 Does P B ρ h w (do let v ← Instr.build t (ps.map λ(i,x)=>(i,a.eval x)); pure (.value v)) (.agg cs) h:=by
 obtain ⟨i,z,hi,hzz,hl,hv,h1⟩:=eT (ρ:=ρ) (S:=St ρ w) (w:=w) hz;obtain ⟨cells,f1,f2,f3⟩:=nC hE place ps.toList pl zero cs z.cells (parts_eval hp) hf hv h1;have hbl:=hb i z cells hi hzz f1;refine bN hR (v:=.agg cells) (run_build w t _ cells (by simpa using hbl)) ?_;simp only [VR];exact ⟨cells,rfl,f2,f3⟩
theorem yI (hR:Rel B ρ h w)(hE:ER ρ w e a.tmps){t el:TypeId}{z n:Nat}{ps:Array (Nat×Operand)}{pl:List (Nat×Nat×X)}{zero cs:List V}(ht:P.underlying t=some (.slice el))(hs:iL P el=some z)
 (hz:iq P el=some zero) (hsm:n * z<=2 ^ 20) (hzp:0<z) (hp:partsOf (λi=>some (i * z,z)) ps=some pl) (hf:fills e (List.replicate n zero).flatten pl=some cs) :
 Does P B ρ h w (do let v ← Instr.buildSlice t n (ps.map λ(i,x)=>(i,a.eval x)); pure (.value v)) (.row h.size 0 n (some n) z) (h.alloc cs):=by
 obtain ⟨i,zv,hi,hzz,hl,hv,h1⟩:=eT (ρ:=ρ) (S:=St ρ w) (w:=w) hz;obtain ⟨i',hi',hiz⟩:=jv hs;obtain rfl:i'=i:=cv (hi'.symm.trans hi);have hzs:zv.cells.size=z:=by have:=hv.length; simp at this; omega
 have hfl:=om hv h1 n;rw [hzs] at hfl;obtain ⟨cells,f1,f2,f3⟩:=nC hE (λi=>some (i * z,z)) ps.toList pl _ cs _ (parts_eval hp) hf hfl.1 hfl.2;have hlen:cs.length=cells.size:=by have:=f2.length; simp at this; omega
 have hcz:cells.size=n * z:=by
  have e2:(List.replicate n zero).flatten.length=n * z:=by rw [← hfl.1.length]; simp
  have:∀ (pl:List (Nat×Nat×X)) (c c':List V),fills e c pl=some c'->c'.length=c.length:=by
   intro pl
   induction pl with
   | nil=>intro c c' hh; simp [fills] at hh; rw [hh]
   | cons p pl ih =>
    intro c c' hh;obtain ⟨o,k,x⟩:=p;simp only [fills] at hh;split at hh
    . split at hh
      . split at hh
        . rename_i xs _ _ c1 hput;obtain ⟨q1,rfl⟩:=pJ hput;rw [ih _ _ hh]; simp; omega
        . cases hh
      . cases hh
    . cases hh
  have:=this pl _ _ hf;omega
 have hbig:¬ (2 ^ 24<n * z):=by omega
 have hrun:(Instr.buildSlice t n (ps.map λ(i,x)=>(i,a.eval x))).run P w=.ok (.slice (some ⟨w.heap.size,0,none⟩) n n) (w.alloc (.cells cells el)):=by
  have f1':Instr.fill (λi=>some (i * z,z)) (Array.map (λx=>zv.cells[x % z]!) (Array.range (n * z))) (ps.map λ(i,x)=>(i,a.eval x)).toList=some cells:=by
   simpa using f1
  by_cases h0:n * z=0
  . rw [h0] at f1';have e0:Array.map (λx=>zv.cells[x % z]!) (Array.range 0)=#[]:=by simp
    rw [e0] at f1';have e2:Array.map (λ_=>(default:Value)) (Array.range 0)=#[]:=by simp
    simp at f1';simp only [Instr.buildSlice,Sem.run_bind,run_underlying ht,Result.andThen_ok,run_sizeOf hs];simp [h0,newRow,newObj,Sem.run];rw [e2,f1'];first | rfl | (simp [Sem.run]; rfl)
  . simp only [Instr.buildSlice,Sem.run_bind,run_underlying ht,Result.andThen_ok,run_sizeOf hs];simp [h0,hbig,zeroValue,typeInfo,hi,hzz,newRow,newObj,Sem.run,hzs];simp at f1';simp [f1',hbig,Sem.run]
 have hnz:n<=maxLen:=by unfold maxLen; have:=Nat.le_mul_of_pos_right n hzp; omega
 exact Does.freshRow hR (w0:=w) (t:=el) (fz:=(0,0)) (c:=n) rfl (Below.refl _ _) (jN hrun) (λj _=>by simp) (by omega) (by rw [List.take_of_length_le (by simp; omega)]; exact f2) (by rw [List.take_of_length_le (by simp; omega)]; exact f3) (br _) hnz (λk hk=>by cases hk; rfl) (by omega) (λhh=>by cases hh)
theorem yP (hR:Rel B ρ h w){sT dT el:TypeId}{s:ByteArray}(hs:P.underlying sT=some .string)(hd:P.underlying dT=some (.slice el))(he:P.underlying el=some (.int .u8))(hsz:s.size<=2 ^ 40) :
 Does P B ρ h w (do let v ← convert sT dT (.string s); pure (.value v)) (.row h.size 0 s.size none 1) (h.alloc (s.toList.map λb=>.d (.int .u8 b.toNat))):=by
 have hrun:=run_bytes_of_string (P:=P) w sT dT el s hs hd he;have hge:=grownCap_ge w s.size 0 el;have hle:s.size<=maxLen:=by unfold maxLen; omega
 have hl:s.toList=s.data.toList:=ByteArray.toList_eq s;have hn:s.toList.length=s.size:=by rw [hl]; simp
 have hcells:(bytesRow s (grownCap w s.size 0 el)).toList.take (s.toList.map λb=>V.d (.int .u8 b.toNat)).length=s.data.toList.map λb=>Value.int .u8 b.toNat:=by
  simp only [bytesRow,Array.toList_append,Array.toList_map,b9,hn];rw [List.take_append_of_le_length (by simp),List.take_of_length_le (by simp)]
 have hsz2:(bytesRow s (grownCap w s.size 0 el)).size=grownCap w s.size 0 el:=by simp [bytesRow]; omega
 refine Does.freshRow hR (w0:=w.drew) (t:=el) (c:=grownCap w s.size 0 el) rfl (Below.drew (Below.refl _ _)) (jN hrun) (λj hj=>by simp only; omega) (by rw [hsz2]; simp only [b9,hn]; exact hge) ?_ ?_ hge (grownCap_le_maxLen _ _ _ _ hle) (λk hk=>by cases hk) (by omega) (λ_=>by omega)
 . rw [hcells,hl];have:(s.data.toList.map λb=>V.d (D.int .u8 b.toNat))=(s.data.toList.map λb=>D.int .u8 b.toNat).map .d:=by simp
   rw [this];exact VRs.of_data (by simp) λi h1 h2=>by simp [DR]
 . rw [hcells];intro u hu;obtain ⟨b,_,rfl⟩:=ce.1 hu;rfl
theorem AO (hR:Rel B ρ h w){sT dT el:TypeId}{v:Value}{xv:V}{m:Nat}{cs:List V}{l:List UInt8}(hs:P.underlying sT=some (.slice el))(he:P.underlying el=some (.int .u8))(hd:P.underlying dT=some .string)
 (hx:VRx h ρ w xv v) (hrow:aP h xv 1=some (m,cs)) (hns:∀ s,xv≠.d (.str s)) (hl:cs.mapM (λv=>match v with | .d (.int .u8 n)=>some (UInt8.ofNat n.toNat) | _=>none)=some l) :
 (convert sT dT v).run P w=.ok (.string ⟨l.toArray⟩) w:=by
 obtain ⟨us,l1,l2,l3,l4,l5⟩:=ib (P:=P) hR hx hrow;have hsl:∃ ad n c,v=.slice ad n c:=by
  cases xv with
  | d y=>cases y with
   | slice nl es=>simp only [VR,DR] at hx; obtain ⟨_,_,rfl,_⟩:=hx; exact ⟨_,_,_,rfl⟩
   | str s=>exact absurd rfl (hns s)
   | _=>simp [aP] at hrow
  | row b o len cap z=>simp only [VR] at hx; obtain ⟨_,_,rfl,_⟩:=hx; exact ⟨_,_,_,rfl⟩
  | _=>simp [aP] at hrow
 obtain ⟨ad,n,c,rfl⟩:=hsl;have hnm:n=m:=by
  have:=l2 w;simp [Builtin.lenOf] at this;exact this
 subst hnm;have hfull:us.take (n * 1)=us:=List.take_of_length_le (by omega);have hf:=l3 n w (br _) rfl;rw [hfull] at hf;have hmm:=mapM_some hl;have hlen:=l4.length;have hus:us=(us.map λu=>match u with | .int _ k=>k | _=>0).map (Value.int .u8):=by
  apply List.ext_getElem
  . simp
  . intro i h1 h2;simp only [List.getElem_map];have h3:=hmm.2 i (by omega) (by omega);have h4:=l4.get i (by omega) h1;split at h3
    . rename_i q k heq;rw [heq] at h4;have:=dB h4;rw [this]
    . cases h3
 have hl':l=us.map λu=>UInt8.ofNat (match u with | .int _ k=>k | _=>0:Int).toNat:=by
  apply List.ext_getElem
  . simp; omega
  . intro i h1 h2;simp only [List.getElem_map];have h3:=hmm.2 i (by omega) h1;have h4:=l4.get i (by omega) (by omega);split at h3
    . rename_i q k heq;rw [heq] at h4;have:=dB h4;rw [this];exact (cv h3).symm
    . cases h3
 rw [run_convert_bytes_string w sT dT el ad n c hs he hd];cases ad with
 | none =>
  have:us=[]:=by
   have h6:(Builtin.firstCells 1 n (.slice none n c)).run P w=.ok #[] w:=run_firstCells_none _ _ _ _ _;rw [h6] at hf;simpa using hf
  subst this;simp at hl';subst hl';rfl
 | some ad =>
  have hload:(loadCells ad n).run P w=.ok ((us.map λu=>match u with | .int _ k=>k | _=>0).map (Value.int .u8)).toArray w:=by
   rw [← hus]; simpa [Builtin.firstCells] using hf
  rw [run_bytesToString w ad n c _ hload,hl']
  congr 2
  have:∀ (vs:List Int) (r:ByteArray),vs.foldl (λr n=>r.push (UInt8.ofNat n.toNat)) r=⟨r.data++(vs.map λn=>UInt8.ofNat n.toNat).toArray⟩:=by
   intro vs
   induction vs with
   | nil=>intro r; simp
   | cons v vs ih=>intro r; simp only [List.foldl_cons,ih]; simp [ByteArray.push]
  rw [this];rw [show (ByteArray.empty.data++_)=_ from Array.empty_append];simp
theorem Jj (hR:Rel B ρ h w)(hE:ER ρ w e a.tmps){o:Oper}{r:R}{C:Calls'}(hc:tQ P o=some r)(hnc:∀ f args,r≠.call f args){x:V}{h':Hp}(hm:opM C r e h=some (x,h')) :
 Does P B ρ h w (execOp a.eval o) x h':=by
 replace hc:=yO hc (by rintro rfl; rw [Eb] at hm; cases hm);obtain ⟨dst,op,ty,pos,after,guard⟩:=o;cases op with
 | move y =>
  simp only [bA,bk] at hc;obtain ⟨X',ho,rfl⟩:=hc;simp only [opM,bd,cy] at hm;obtain ⟨rfl,rfl⟩:=hm;exact Does.pure hR (v:=a.eval y) rfl (aI hE ho)
 | assign y =>
  simp only [bA,bk] at hc;obtain ⟨X',ho,rfl⟩:=hc;simp only [opM,bd,cy] at hm;obtain ⟨rfl,rfl⟩:=hm;exact Does.pure hR (v:=a.eval y) rfl (aI hE ho)
 | pick c y z =>
  simp only [bA] at hc;replace hc:=af hc; obtain ⟨Xc,h1,hc⟩:=hc;replace hc:=af hc; obtain ⟨Xa,h2,hc⟩:=hc;replace hc:=af hc; obtain ⟨Xb,h3,hc⟩:=hc;cases hc;simp only [opM] at hm;split at hm
  . rename_i t ht;simp only [bd,cy] at hm;obtain ⟨rfl,rfl⟩:=hm;have hv:=aI hE h1;rw [ht] at hv;have ec:=qg hv;cases t
    . exact Does.pure hR (v:=a.eval z) (by simp [execOp,ec,asBool]) (by simpa using aI hE h3)
    . exact Does.pure hR (v:=a.eval y) (by simp [execOp,ec,asBool]) (by simpa using aI hE h2)
  . cases hm
 | alloc t =>
  simp only [bA] at hc;replace hc:=af hc; obtain ⟨zl,hz,hc⟩:=hc;cases hc;simp only [opM,bd,cy] at hm;obtain ⟨rfl,rfl⟩:=hm;obtain ⟨i,z,hi,hzz,hl,hv,h1⟩:=eT (ρ:=ρ) (S:=St ρ w) (w:=w) hz;exact Does.fresh hR (arr:=z.cells) (t:=t) (by simp [execOp,Instr.alloc,zeroValue,typeInfo,hi,hzz,newVar,newRow,newObj,Sem.run]) hv h1
 | box t y =>
  simp only [bA] at hc;replace hc:=af hc; obtain ⟨X',ho,hc⟩:=hc;cases hc;simp only [opM] at hm;split at hm
  . rename_i cs hcs;simp only [bd,cy] at hm;obtain ⟨rfl,rfl⟩:=hm;obtain ⟨k1,k2⟩:=lN (aI hE ho) hcs;exact Does.fresh hR (arr:=(a.eval y).cells) (t:=t) (by simp [execOp,Instr.box,newVar,newRow,newObj,Sem.run]) k1 k2
  . cases hm
 | build t ps =>
  simp only [bA] at hc;replace hc:=af hc; obtain ⟨zero,hz,hc⟩:=hc;split at hc
  . rename_i fs hu;replace hc:=af hc; obtain ⟨places,hpl,hc⟩:=hc;replace hc:=af hc; obtain ⟨pl,hp,hc⟩:=hc;cases hc;simp only [opM] at hm;split at hm
    . rename_i cs hcs;simp only [bd,cy] at hm;obtain ⟨rfl,rfl⟩:=hm;refine tC hR hE hz hp hcs λi z cells hi hzz hf=>?_;simp only [Program.built,hi,hu,hzz,hpl];exact hf
    . cases hm
  . rename_i n el hu;replace hc:=af hc; obtain ⟨z,hs,hc⟩:=hc;replace hc:=af hc; obtain ⟨pl,hp,hc⟩:=hc;cases hc;simp only [opM] at hm;split at hm
    . rename_i cs hcs;simp only [bd,cy] at hm;obtain ⟨rfl,rfl⟩:=hm;obtain ⟨ie,hie,hiz⟩:=jv hs;refine tC hR hE hz hp hcs λi z' cells hi hzz hf=>?_;simp only [Program.built,hi,hu,hzz,hie,hiz];exact hf
    . cases hm
  . cases hc
 | buildSlice t n ps =>
  simp only [bA] at hc;replace hc:=af hc; obtain ⟨el,he,hc⟩:=hc;replace hc:=af hc; obtain ⟨z,hs,hc⟩:=hc;replace hc:=af hc; obtain ⟨zero,hz,hc⟩:=hc;split at hc
  . rename_i hsm;replace hc:=af hc; obtain ⟨pl,hp,hc⟩:=hc;cases hc;have hu:P.underlying t=some (.slice el):=by
     unfold kL at he;split at he
     . cases he; assumption
     . cases he
    simp only [opM] at hm;split at hm
    . rename_i cs hcs;simp only [bd,cy] at hm;obtain ⟨rfl,rfl⟩:=hm;exact yI hR hE hu hs hz hsm.1 hsm.2 hp hcs
    . cases hm
  . cases hc
 | load t ad =>
  simp only [bA] at hc;replace hc:=af hc; obtain ⟨n,hs,hc⟩:=hc;split at hc
  . cases hc
  . rename_i hn;replace hc:=af hc; obtain ⟨ag,ha,hc⟩:=hc;replace hc:=af hc; obtain ⟨X',ho,hc⟩:=hc;cases hc;simp only [opM] at hm;split at hm
    . rename_i cs hcs;simp only [bk] at hm;obtain ⟨v,hv,hm⟩:=hm;cases hm;exact DN hR hE ha hs hn ho hcs hv
    . cases hm
 | store t ad y =>
  simp only [bA] at hc;replace hc:=af hc; obtain ⟨n,hs,hc⟩:=hc;replace hc:=af hc; obtain ⟨X1,h1,hc⟩:=hc;replace hc:=af hc; obtain ⟨X2,h2,hc⟩:=hc;cases hc;simp only [opM] at hm;split at hm
  . rename_i xs hxs;split at hm
    . rename_i hn;simp only [bk] at hm;obtain ⟨h2',hv,hm⟩:=hm;cases hm;exact BK hR hE hs hn.2 h1 h2 hxs hn.1 hv
    . cases hm
  . cases hm
 | nilCheck y =>
  simp only [bA] at hc;replace hc:=af hc; obtain ⟨X',ho,hc⟩:=hc;cases hc;have hv:=aI hE ho;simp only [opM] at hm;split at hm
  . rename_i b o heq;cases hm;rw [heq] at hv;have hv':=hv;simp only [VR] at hv;obtain ⟨hb,ea⟩:=hv;exact Does.pure hR (v:=a.eval y) (by simp [execOp,ea]) hv'
  . rename_i cs o heq;cases hm;rw [heq] at hv;have hv':=hv;simp only [VR] at hv;obtain ⟨b,base,ea,_⟩:=hv;exact Does.pure hR (v:=a.eval y) (by simp [execOp,ea]) hv'
  . rename_i f cs heq;cases hm;rw [heq] at hv;have hv':=hv;simp only [VR] at hv;obtain ⟨vs,ea,_⟩:=hv;exact Does.pure hR (v:=a.eval y) (by simp [execOp,ea]) hv'
  . rename_i f cs heq;cases hm;rw [heq] at hv;have hv':=hv;simp only [VR] at hv;obtain ⟨vs,ea,_⟩:=hv;exact Does.pure hR (v:=a.eval y) (by simp [execOp,ea]) hv'
  . cases hm
 | binOp op t y z ty' =>
  simp only [bA] at hc;have he:∀ neg k X1 X2,tV P t=some k->bv y=some X1->bv z=some X2->opM C (.eq k neg X1 X2) e h=some (x,h')->op=(if neg then .neq else .eql)->Does P B ρ h w (execOp a.eval ⟨dst,.binOp op t y z ty',ty,pos,after,guard⟩) x h':=by
   intro neg k X1 X2 hk h1 h2 hm hop;simp only [opM] at hm;split at hm
   . rename_i b hb;simp only [bd,cy] at hm;obtain ⟨rfl,rfl⟩:=hm;have:=M9 hk (aI hE h1) (aI hE h2) hb y z neg;rw [← hop] at this;exact bN hR this (by simp only [VR,DR])
   . cases hm
  have hb:op≠.eql->op≠.neq->∀ X1 X2,bv y=some X1->bv z=some X2->opM C (.bin op X1 X2) e h=some (x,h')->Does P B ρ h w (execOp a.eval ⟨dst,.binOp op t y z ty',ty,pos,after,guard⟩) x h':=by
   intro n1 n2 X1 X2 h1 h2 hm;simp only [opM,one,bk] at hm;obtain ⟨d,hd,hm⟩:=hm;cases hm;obtain ⟨r,hr,hdr⟩:=IB (P:=P) (t:=t) (x:=y) (y:=z) n1 n2 (aI hE h1) (aI hE h2) hd;exact bN hR hr (by simp only [VR]; exact hdr)
  by_cases h1:op=.eql
  . subst h1;simp only at hc;replace hc:=af hc; obtain ⟨k,hk,hc⟩:=hc;replace hc:=af hc; obtain ⟨X1,q1,hc⟩:=hc;replace hc:=af hc; obtain ⟨X2,q2,hc⟩:=hc;cases hc;exact he false k X1 X2 hk q1 q2 hm rfl
  . by_cases h2:op=.neq
    . subst h2;simp only at hc;replace hc:=af hc; obtain ⟨k,hk,hc⟩:=hc;replace hc:=af hc; obtain ⟨X1,q1,hc⟩:=hc;replace hc:=af hc; obtain ⟨X2,q2,hc⟩:=hc;cases hc;exact he true k X1 X2 hk q1 q2 hm rfl
    . have hc':(do let x ← bv y; let z ← bv z; pure (R.bin op x z))=some r:=by
       cases op<;>first | exact absurd rfl h1 | exact absurd rfl h2 | exact hc
      obtain ⟨X1,q1,hc'⟩:=af hc';obtain ⟨X2,q2,hc'⟩:=af hc';cases hc';exact hb h1 h2 X1 X2 q1 q2 hm
 | unOp op t y =>
  simp only [bA] at hc;replace hc:=af hc; obtain ⟨X',ho,hc⟩:=hc;cases hc;simp only [opM,one,bk] at hm;obtain ⟨d,hd,hm⟩:=hm;cases hm;obtain ⟨r,hr,hdr⟩:=Ps (P:=P) (aI hE ho) hd;exact bN hR hr (by simp only [VR]; exact hdr)
 | convert sT dT y =>
  simp only [bA] at hc;split at hc
  . rename_i k1 k2 hs hd;replace hc:=af hc; obtain ⟨X',ho,hc⟩:=hc;cases hc;have hv:=aI hE ho;simp only [opM] at hm;split at hm
    . rename_i q n heq;cases hm;rw [heq] at hv;have ea:=dB hv;exact bN hR (v:=.int k2 (k2.wrap n)) (by rw [ea]; simp [convert,run_underlying hs,run_underlying hd,Conv.intToInt]) (by simp only [VR,DR])
    . cases hm
  . rename_i hs hd;replace hc:=af hc; obtain ⟨X',ho,hc⟩:=hc;cases hc;have hv:=aI hE ho;simp only [opM] at hm;split at hm
    . rename_i s heq;cases hm;rw [heq] at hv;have ea:=kr hv;exact bN hR (v:=.string s) (by rw [ea]; simp [convert,run_underlying hs,run_underlying hd]) (by simp only [VR,DR])
    . cases hm
  . rename_i el hs hd;split at hc
    . rename_i he;replace hc:=af hc; obtain ⟨X',ho,hc⟩:=hc;cases hc;have hv:=aI hE ho;simp only [opM] at hm;split at hm
      . rename_i s heq;split at hm
        . rename_i hsz;cases hm;rw [heq] at hv;have ea:=kr hv;simp only [execOp,ea];exact yP hR hs hd he hsz
        . cases hm
      . cases hm
    . cases hc
  . rename_i el hs hd;split at hc
    . rename_i he;replace hc:=af hc; obtain ⟨X',ho,hc⟩:=hc;cases hc;have hv:=aI hE ho;simp only [opM] at hm;split at hm
      . cases hm
      . rename_i xv hns;split at hm
        . rename_i m cs hrow;split at hm
          . rename_i l hl;cases hm;exact bN hR (AO (P:=P) hR hs he hd hv hrow (λs hs'=>hns s hs') hl) (by simp only [VR,DR])
          . cases hm
        . cases hm
    . cases hc
  . cases hc
 | makeFunc fn first caps =>
  simp only [bA] at hc;split at hc
  . rename_i f;split at hc
    case isFalse =>
     split at hc
     case isFalse=>cases hc
     rename_i hemp;have hcaps:caps=#[]:=by
      have:caps.toList=[]:=by simpa using hemp
      exact Array.ext' (by simpa using this)
     subst hcaps;replace hc:=af hc; obtain ⟨xs,hx,hc⟩:=hc;cases hc;cases hm;refine Does.pure hR (v:=.func (.func f) (first.map a.eval) #[]) (by simp [execOp,Instr.makeFunc]) ?_;simp only [VR];exact ⟨_,rfl,by simpa using oQ hE hx⟩
    rename_i hemp;have hfirst:first=#[]:=by
     have:first.toList=[]:=by simpa using hemp
     exact Array.ext' (by simpa using this)
    subst hfirst;replace hc:=af hc; obtain ⟨xs,hx,hc⟩:=hc;cases hc;cases hm;refine Does.pure hR (v:=.func (.func f) #[] (caps.map a.eval)) (by simp [execOp,Instr.makeFunc]) ?_;simp only [VR];exact ⟨_,rfl,by simpa using oQ hE hx⟩
  . cases hc
 | makeSlice t l c =>
  simp only [bA] at hc;replace hc:=af hc; obtain ⟨el,he,hc⟩:=hc;replace hc:=af hc; obtain ⟨z,hs,hc⟩:=hc;replace hc:=af hc; obtain ⟨by',hby,hc⟩:=hc;replace hc:=af hc; obtain ⟨zero,hz,hc⟩:=hc;replace hc:=af hc; obtain ⟨X1,h1,hc⟩:=hc;replace hc:=af hc; obtain ⟨X2,h2,hc⟩:=hc;cases hc;have hu:P.underlying t=some (.slice el):=by
   unfold kL at he;split at he
   . cases he; assumption
   . cases he
  have v1:=aI hE h1;have v2:=aI hE h2;simp only [opM] at hm;split at hm
  . rename_i n1 n2 e1 e2;split at hm
    . rename_i hh;obtain ⟨g1,g2,g3,g4⟩:=hh;cases hm;rw [e1] at v1;rw [e2] at v2;have ea:=dB v1;have eb:=dB v2;obtain ⟨i,zv,hi,hzz,hl,hv,ho⟩:=eT (ρ:=ρ) (S:=St ρ w) (w:=w) hz;obtain ⟨i',hi',hiz⟩:=jv hs;obtain rfl:i'=i:=cv (hi'.symm.trans hi);have hbi:i'.bytes=by':=by simpa [Fz,hi] using hby
      have hzs:zv.cells.size=z:=by have:=hv.length; simp at this; omega
      have hbytes:(i'.bytes:Int) * n2<=281474976710656:=by
       have:(i'.bytes:Int)<=4096:=by omega
       have h5:(i'.bytes:Int) * n2<=4096 * n2:=Int.mul_le_mul_of_nonneg_right this (by omega);omega
      have hrun:=run_make (P:=P) w t el i' zv hu hi hzz .i64 .i64 n1 n2 g1 g2 hbytes (by omega);have hfl:=om hv ho n2.toNat;have hmc:madeCells zv.cells (n2.toNat * i'.size)=(Array.range (n2.toNat * zv.cells.size)).map (zv.cells[· % zv.cells.size]!):=by rw [hiz,hzs]; simp [madeCells,hzs]
      rw [hmc] at hrun;simp only [execOp,ea,eb];have hlen:=hfl.1.length;simp only [Array.length_toList] at hlen;exact Does.freshRow hR (w0:=w) (t:=el) (fz:=(0,0)) (c:=n2.toNat) rfl (Below.refl _ _) (jN hrun) (λj _=>by simp) (by omega) (by rw [List.take_of_length_le (by simp only [Array.length_toList]; omega)]; exact hfl.1) (by rw [List.take_of_length_le (by simp only [Array.length_toList]; omega)]; exact hfl.2) (by omega) (by unfold maxLen; omega) (λk hk=>by cases hk; rfl) (by simp [hzs]) (λhh=>by cases hh)
    . cases hm
  . cases hm
 | slice t y lo hi mx =>
  simp only [bA] at hc;replace hc:=af hc; obtain ⟨lo',hlo,hc⟩:=hc;replace hc:=af hc; obtain ⟨hi',hhi,hc⟩:=hc;replace hc:=af hc; obtain ⟨mx',hmx,hc⟩:=hc;split at hc
  . rename_i hu;replace hc:=af hc; obtain ⟨X',ho,hc⟩:=hc;cases hc;have hv:=aI hE ho;simp only [opM,bk] at hm;obtain ⟨v,hs,hm⟩:=hm;cases hm;cases hX:X'.ev e with
    | d q =>
     rw [hX] at hs hv;cases q with
     | str s =>
      have ea:=kr hv;simp only [dA] at hs;split at hs
      . rename_i l k hbl hbk;have hmn:mx=none:=by cases mx with | none=>rfl | some o=>cases ho:bv o<;>simp [ho] at hmx
        subst hmn;split at hs
        . rename_i hh;cases hs;have hb:=lu (P:=P) hE false hlo hhi hbl hbk hh.1 hh.2;refine bN hR (v:=.string (s.extract l k)) ?_ (by simp only [VR,DR]);rw [ea];simp [Instr.sliceAt,Instr.slice,run_underlying hu,hb]
        . cases hs
      . cases hs
     | _=>simp [dA] at hs
    | _=>rw [hX] at hs; simp [dA] at hs
  . rename_i el hu;replace hc:=af hc; obtain ⟨z,hz,hc⟩:=hc;replace hc:=af hc; obtain ⟨X',ho,hc⟩:=hc;cases hc;simp only [opM,bk] at hm;obtain ⟨v,hs,hm⟩:=hm;cases hm;obtain ⟨u,h1,h2⟩:=zZ (P:=P) hR hE hu hz hlo hhi hmx (aI hE ho) hs;exact bN hR h1 h2
  . rename_i n el hu;replace hc:=af hc; obtain ⟨z,hz,hc⟩:=hc;replace hc:=af hc; obtain ⟨X',ho,hc⟩:=hc;cases hc;have hv:=aI hE ho;simp only [opM,bk] at hm;obtain ⟨v,hs,hm⟩:=hm;cases hm;cases hX:X'.ev e with
    | ptr b o =>
     rw [hX] at hs hv;simp only [dA] at hs;split at hs
     . rename_i l k hbl hbk;have hmn:mx=none:=by cases mx with | none=>rfl | some o=>cases ho:bv o<;>simp [ho] at hmx
       subst hmn;split at hs
       . rename_i hh;obtain ⟨g1,g2,g3,g4⟩:=hh;split at hs
         . rename_i cs hg;split at hs
           . rename_i hcs;cases hs;simp only [VR] at hv;obtain ⟨hb,ea⟩:=hv;have hbd:=lu (P:=P) hE false hlo hhi hbl hbk g1 (by omega:k<=n);have hne:cs≠[]:=by rintro rfl; simp only [cm] at hcs; omega
             obtain ⟨arr,e0,fz,q1,q2,q3,q4⟩:=fK hR hg hne;refine bN hR (v:=.slice (some (if n=l then ⟨ρ b,o,none⟩ else ⟨ρ b,o+l * z,none⟩)) (k-l) (n-l)) ?_ ?_
             . rw [ea];simp only [Instr.sliceAt,Instr.sureAddr,Sem.run_bind,run_underlying hu,Result.andThen_ok,Option.map_none,hbd,run_sizeOf hz,add_plain',Sem.run_pure]
             . simp only [VR];refine ⟨hb,n-l,by rw [if_neg (by omega)],by omega,by unfold maxLen; omega,λq hq=>by cases hq; rfl,arr,e0,fz,q1,?_⟩;have h7:l * z<=n * z:=Nat.mul_le_mul_right _ (by omega);rw [Nat.sub_mul]; exact ⟨by omega,λhh=>by cases hh⟩
           . cases hs
         . cases hs
       . cases hs
     . cases hs
    | _=>rw [hX] at hs; simp [dA] at hs
  . cases hc
 | fieldAddr t y f =>
  simp only [bA] at hc;split at hc
  . rename_i fs hu;replace hc:=af hc; obtain ⟨fd,hf,hc⟩:=hc;replace hc:=af hc; obtain ⟨n,hs,hc⟩:=hc;split at hc
    . cases hc
    . rename_i hn;replace hc:=af hc; obtain ⟨X',ho,hc⟩:=hc;cases hc;have hv:=aI hE ho;have hrun:∀ b o,a.eval y=.pointer (some ⟨b,o,none⟩)->(Instr.fieldAt t (a.eval y) f).run P w=.ok (.pointer (some ⟨b,o+fd.offset,none⟩)) w:=by
       intro b o ea;rw [ea];simp [Instr.fieldAt,run_underlying hu,hf,Instr.sureAddr,fieldPlace,run_sizeOf hs,hn,add_plain']
      simp only [opM] at hm;split at hm
      . rename_i b o heq;cases hm;rw [heq] at hv;simp only [VR] at hv;exact bN hR (hrun _ _ hv.2) (by simp only [VR]; exact ⟨hv.1,trivial⟩)
      . rename_i cs o heq;cases hm;rw [heq] at hv;simp only [VR] at hv;obtain ⟨b,base,ea,hb,hd⟩:=hv;exact bN hR (hrun _ _ ea) (by simp only [VR]; exact ⟨b,base,by rw [Nat.add_assoc],hb,hd⟩)
      . cases hm
  . cases hc
 | field t y f =>
  simp only [bA] at hc;split at hc
  . rename_i fs hu;replace hc:=af hc; obtain ⟨fd,hf,hc⟩:=hc;replace hc:=af hc; obtain ⟨ag,ha,hc⟩:=hc;replace hc:=af hc; obtain ⟨X',ho,hc⟩:=hc;replace hc:=af hc; obtain ⟨n,hs,hc⟩:=hc;cases hc;have hv:=aI hE ho;simp only [opM] at hm;split at hm
    . rename_i cs heq;rw [heq] at hv;simp only [VR] at hv;obtain ⟨vs,ea,hvs,h1⟩:=hv;split at hm
      . rename_i l hsub;simp only [bk] at hm;obtain ⟨v,hmk,hm⟩:=hm;cases hm;obtain ⟨q1,rfl⟩:=jP hsub;have hlen:=hvs.length;simp only [Array.length_toList] at hlen;have h1':ag=false->n=1:=by
         intro hag;obtain ⟨_,h3⟩ | ⟨h3,_⟩:=oW hmk
         . have:=congrArg List.length h3; simp at this; omega
         . rw [hag] at h3; cases h3
        have hp:=p8 (P:=P) ha hs h1' vs fd.offset (by omega) w;refine bN hR (v:=bX ag ((vs.toList.drop fd.offset).take n)) ?_ (oZ ((hvs.drop _).take _) (λu hu=>h1 u (List.mem_of_mem_drop (List.mem_of_mem_take hu))) hmk);rw [ea];simp [Instr.field,run_underlying hu,hf,asAgg,hp]
      . cases hm
    . cases hm
  . cases hc
 | indexAddr t y i =>
  simp only [bA] at hc;split at hc
  . rename_i n el hu;replace hc:=af hc; obtain ⟨z,hz,hc⟩:=hc;replace hc:=af hc; obtain ⟨X1,h1,hc⟩:=hc;replace hc:=af hc; obtain ⟨X2,h2,hc⟩:=hc;cases hc;have v1:=aI hE h1;have v2:=aI hE h2;have hrun:∀ b o k q,a.eval y=.pointer (some ⟨b,o,none⟩)->a.eval i=.int q k->0<=k->k<n->(Instr.indexAt t (a.eval y) (a.eval i)).run P w=.ok (.pointer (some ⟨b,o+k.toNat * z,none⟩)) w:=by
     intro b o k q ea eb g1 g2;rw [ea,eb];simp [Instr.indexAt,asIntOf,run_underlying hu,Instr.sureAddr,g1,g2,run_sizeOf hz,add_plain']
    simp only [opM] at hm;split at hm
    . rename_i e1 e2 e3; cases e2
    . rename_i e1 e2 e3; cases e2
    . rename_i k q k' n' b o e1 e2 e3;cases e2;split at hm
      . rename_i hh;cases hm;rw [e1] at v2;rw [e3] at v1;simp only [VR] at v1;exact bN hR (hrun _ _ _ _ v1.2 (dB v2) hh.1 hh.2) (by simp only [VR]; exact ⟨v1.1,trivial⟩)
      . cases hm
    . rename_i k q k' n' cs o e1 e2 e3;cases e2;split at hm
      . rename_i hh;cases hm;rw [e1] at v2;rw [e3] at v1;simp only [VR] at v1;obtain ⟨b,base,ea,hb,hd⟩:=v1;exact bN hR (hrun _ _ _ _ ea (dB v2) hh.1 hh.2) (by simp only [VR]; exact ⟨b,base,by rw [Nat.add_assoc],hb,hd⟩)
      . cases hm
    . cases hm
  . rename_i el hu;replace hc:=af hc; obtain ⟨z,hz,hc⟩:=hc;replace hc:=af hc; obtain ⟨X1,h1,hc⟩:=hc;replace hc:=af hc; obtain ⟨X2,h2,hc⟩:=hc;cases hc;have v1:=aI hE h1;have v2:=aI hE h2;have hrun:∀ b o k q n c,a.eval y=.slice (some ⟨b,o,none⟩) n c->a.eval i=.int q k->0<=k->k<n->(Instr.indexAt t (a.eval y) (a.eval i)).run P w=.ok (.pointer (some ⟨b,o+k.toNat * z,none⟩)) w:=by
     intro b o k q n c ea eb g1 g2;rw [ea,eb];simp [Instr.indexAt,asIntOf,run_underlying hu,g1,g2,run_sizeOf hz,add_plain']
    simp only [opM] at hm;split at hm
    . rename_i q k nl es e1 e2 e3;split at hm
      . rename_i hk;split at hm
        . rename_i c hcs;split at hm
          . rename_i hcz;cases hm;rw [e1] at v2;rw [e3] at v1;simp only [VR,DR] at v1;obtain ⟨ad,cp,ea,g1,g2,g3,g4,g5⟩:=v1;obtain ⟨hlt,hce⟩:=bx.1 hcs;have hes:es≠[]:=by rintro rfl; simp at hlt
            obtain ⟨b,o,z',rfl,hb,hd⟩:=g5 hes;obtain ⟨q1,q2⟩:=hd.get _ hlt;have hzz:z'=z:=by rw [← q1,hce,hcz]
            subst hzz;refine bN hR (hrun _ _ _ _ _ _ ea (dB v2) hk (by omega)) ?_;simp only [VR];rw [hce] at q2;exact ⟨b,_,by rw [Nat.add_zero],hb,q2⟩
          . cases hm
        . cases hm
      . cases hm
    . rename_i q k b o len cap z' e1 e2 e3;split at hm
      . rename_i hh;obtain ⟨g1,g2,rfl⟩:=hh;cases hm;rw [e1] at v2;rw [e3] at v1;simp only [VR] at v1;obtain ⟨hb,c,ea,_⟩:=v1;exact bN hR (hrun _ _ _ _ _ _ ea (dB v2) g1 g2) (by simp only [VR]; exact ⟨hb,trivial⟩)
      . cases hm
    . rename_i e1 e2 e3; cases e2
    . rename_i e1 e2 e3; cases e2
    . cases hm
  . cases hc
 | index t y i =>
  simp only [bA] at hc;split at hc
  . rename_i n el hu;replace hc:=af hc; obtain ⟨ag,ha,hc⟩:=hc;replace hc:=af hc; obtain ⟨z,hz,hc⟩:=hc;replace hc:=af hc; obtain ⟨X1,h1,hc⟩:=hc;replace hc:=af hc; obtain ⟨X2,h2,hc⟩:=hc;cases hc;have v1:=aI hE h1;have v2:=aI hE h2;simp only [opM] at hm;split at hm
    . rename_i q k cs e1 e2;split at hm
      . rename_i hk;split at hm
        . rename_i l hsub;simp only [bk] at hm;obtain ⟨v,hmk,hm⟩:=hm;cases hm;obtain ⟨q1,rfl⟩:=jP hsub;rw [e1] at v2;rw [e2] at v1;simp only [VR] at v1;obtain ⟨vs,ea,hvs,ho⟩:=v1;have hlen:=hvs.length;simp only [Array.length_toList] at hlen;have h1':ag=false->z=1:=by
           intro hag;obtain ⟨_,h3⟩ | ⟨h3,_⟩:=oW hmk
           . have:=congrArg List.length h3; simp at this; omega
           . rw [hag] at h3; cases h3
          have hp:=p8 (P:=P) ha hz h1' vs (k.toNat * z) (by omega) w;refine bN hR (v:=bX ag ((vs.toList.drop (k.toNat * z)).take z)) ?_ (oZ ((hvs.drop _).take _) (λu hu=>ho u (List.mem_of_mem_drop (List.mem_of_mem_take hu))) hmk);rw [ea,dB v2];simp [Instr.index,asIntOf,run_underlying hu,hk.1,hk.2,run_sizeOf hz,hp]
        . cases hm
      . cases hm
    . cases hm
  . rename_i hu;replace hc:=af hc; obtain ⟨X1,h1,hc⟩:=hc;replace hc:=af hc; obtain ⟨X2,h2,hc⟩:=hc;cases hc;have v1:=aI hE h1;have v2:=aI hE h2;simp only [opM] at hm;split at hm
    . rename_i q k s e1 e2;split at hm
      . rename_i hk;split at hm
        . rename_i b hb;cases hm;rw [e1] at v2;rw [e2] at v1;have hb':s[k.toNat]?=some b:=by
           rw [ByteArray.toList_eq] at hb;obtain ⟨hlt,he⟩:=bx.1 hb;have hlt':k.toNat<s.size:=by simpa using hlt
           rw [getElem?_pos s k.toNat hlt']
           congr 1
          refine bN hR (v:=.int .u8 b.toNat) ?_ (by simp only [VR,DR]);rw [kr v1,dB v2];simp [Instr.index,asIntOf,run_underlying hu,hk,hb']
        . cases hm
      . cases hm
    . cases hm
  . cases hc
 | extract y i =>
  simp only [bA] at hc;replace hc:=af hc; obtain ⟨X',ho,hc⟩:=hc;cases hc;have hv:=aI hE ho;simp only [opM] at hm;split at hm
  . rename_i vs heq;rw [heq] at hv;simp only [bk] at hm;obtain ⟨v,hi,hm⟩:=hm;cases hm;simp only [VR] at hv;obtain ⟨us,ea,hus⟩:=hv;obtain ⟨hlt,rfl⟩:=bx.1 hi;have hlen:=hus.length;simp only [Array.length_toList] at hlen;have:=hus.get i hlt (by simpa using (by omega:i<us.size));have hlt':i<us.size:=by omega
    refine bN hR (v:=us[i]) ?_ (by simpa using this);rw [ea];simp [Instr.extract,hlt']
  . cases hm
 | range t y =>
  simp only [bA] at hc;split at hc
  . rename_i hu;replace hc:=af hc; obtain ⟨X',ho,hc⟩:=hc;cases hc;have hv:=aI hE ho;simp only [opM] at hm;split at hm
    . rename_i s heq;rw [heq] at hv;cases hm;refine DC hR ?_;simp only [execOp,kr hv];exact jN (by simp [Instr.range,run_underlying hu,newObj,Sem.run])
    . cases hm
  . cases hc
 | next y isS =>
  cases isS with
  | false=>simp [bA] at hc
  | true =>
   simp only [bA] at hc;replace hc:=af hc; obtain ⟨X',ho,hc⟩:=hc;cases hc;have hv:=aI hE ho;simp only [opM] at hm;split at hm
   . rename_i b heq;rw [heq] at hv;split at hm
     . rename_i s pos hb;exact DY hR hv hb hm
     . cases hm
   . cases hm
 | call c =>
  obtain ⟨callee,args,argTypes⟩:=c;cases callee with
  | value f =>
   simp only [bA] at hc;replace hc:=af hc; obtain ⟨F,h1,hc⟩:=hc;replace hc:=af hc; obtain ⟨xs,h2,hc⟩:=hc;cases hc;exact absurd rfl (hnc _ _)
  | invoke r m=>simp [bA] at hc
  | builtin b =>
   simp only [bA] at hc;replace hc:=af hc; obtain ⟨xs,hxs,hc⟩:=hc;have hev:=oQ hE hxs;have hex:execOp a.eval ⟨dst,.call ⟨.builtin b,args,argTypes⟩,ty,pos,after,guard⟩=builtin b argTypes ty (args.map fun | .const _=>true | _=>false) (args.map a.eval):=rfl;rw [hex];have hargs:(args.map a.eval)=(args.toList.map a.eval).toArray:=by apply Array.ext'; simp
   rw [hargs];generalize args.toList.map a.eval=us at hev;clear hex hargs hxs;have two:∀ {p q:X},xs=[p,q]->∃ u v,us=[u,v]/\VRx h ρ w (p.ev e) u/\VRx h ρ w (q.ev e) v:=by
    intro p q hpq;subst hpq;simp only [ct,List.map_nil,VRs] at hev;obtain ⟨u1,_,rfl,v1,u2,_,rfl,v2,rfl⟩:=hev;exact ⟨_,_,rfl,v1,v2⟩
   have onev:∀ {p:X},xs=[p]->∃ u,us=[u]/\VRx h ρ w (p.ev e) u:=by
    intro p hpq;subst hpq;simp only [ct,List.map_nil,VRs] at hev;obtain ⟨u1,_,rfl,v1,rfl⟩:=hev;exact ⟨_,rfl,v1⟩
   have elem:∀ {t el},kL P t=some el->P.underlying t=some (.slice el):=by
    intro t el he;unfold kL at he;split at he
    . cases he; assumption
    . cases he
   split at hc
   ·
     rename_i s y;obtain ⟨u1,u2,rfl,v1,v2⟩:=two rfl;replace hc:=af hc; obtain ⟨t,ht,hc⟩:=hc;replace hc:=af hc; obtain ⟨tx,htx,hc⟩:=hc;replace hc:=af hc; obtain ⟨el,he,hc⟩:=hc;split at hc
     . rename_i hok;replace hc:=af hc; obtain ⟨z,hz,hc⟩:=hc;replace hc:=af hc; obtain ⟨by',hby,hc⟩:=hc;cases hc;simp only [opM] at hm;split at hm
       . rename_i m cs hrow;have hty:P.underlying tx=some .string\/∃ k,P.underlying tx=some (.slice k):=by
          have:=hok.1;unfold WX at this;split at this
          . exact .inr ⟨_,by assumption⟩
          . exact .inl (by assumption)
          . cases this
         have key:=wQ (P:=P) (ty:=ty) hR (elem he) hty hz hby hok.2 v1 v2 hrow hm;have e1:argTypes[0]?=some t:=ht;have e2:argTypes[1]?=some tx:=htx;have:∀ us,Builtin.append_ argTypes ty us=Builtin.append_ #[t,tx] ty us:=λus=>by
          unfold Builtin.append_;simp only [e1,e2];rfl
         simp only [builtin,this];exact key
       . cases hm
     . cases hc
   ·
     rename_i y;obtain ⟨u1,rfl,v1⟩:=onev rfl;replace hc:=af hc; obtain ⟨t,ht,hc⟩:=hc;have e1:argTypes[0]?=some t:=ht;split at hc
     . rename_i el hu;cases hc;simp only [opM] at hm;split at hm
       . rename_i n hl;cases hm;have hlen:∃ ad c,u1=.slice ad n c:=by
          cases hy:y.ev e with
          | d q=>rw [hy] at hl v1; cases q with
           | slice nl es=>simp only [VR,DR] at v1; obtain ⟨ad,c,rfl,_⟩:=v1; simp [V.len] at hl; subst hl; exact ⟨ad,c,rfl⟩
           | _=>simp [V.len] at hl
          | row b o len cap z=>rw [hy] at hl v1; simp only [VR] at v1; obtain ⟨_,c,rfl,_⟩:=v1; simp [V.len] at hl; subst hl; exact ⟨_,c,rfl⟩
          | _=>rw [hy] at hl; simp [V.len] at hl
         obtain ⟨ad,c,rfl⟩:=hlen;refine bN hR (v:=goInt n) ?_ (by simp only [VR,DR,goInt]);simp [Builtin.len_,e1,run_underlying hu]
       . cases hm
     . rename_i hu;cases hc;simp only [opM] at hm;split at hm
       . rename_i n hl;cases hm;have hlen:∃ s:ByteArray,u1=.string s/\n=s.size:=by
          cases hy:y.ev e with
          | d q=>rw [hy] at hl v1; cases q with
           | str s=>have:=kr v1; simp [V.len] at hl; exact ⟨s,this,hl.symm⟩
           | _=>simp [V.len] at hl
          | _=>rw [hy] at hl; simp [V.len] at hl
         obtain ⟨s,rfl,rfl⟩:=hlen;refine bN hR (v:=goInt s.size) ?_ (by simp only [VR,DR,goInt]);simp [Builtin.len_,e1,run_underlying hu]
       . cases hm
     . rename_i n el hu;cases hc;cases hm;refine bN hR (v:=goInt n) ?_ (by simp only [X.ev,VR,DR,goInt]);simp [Builtin.len_,e1,run_underlying hu]
     . cases hc
   ·
     rename_i p q;obtain ⟨u1,u2,rfl,v1,v2⟩:=two rfl;replace hc:=af hc; obtain ⟨t,ht,hc⟩:=hc;replace hc:=af hc; obtain ⟨el,he,hc⟩:=hc;replace hc:=af hc; obtain ⟨z,hz,hc⟩:=hc;cases hc;have e1:argTypes[0]?=some t:=ht;have hu:=elem he;simp only [opM] at hm;split at hm
     . rename_i m cs b o len cap z' hrow hp;split at hm
       . rename_i hzz;subst hzz;obtain ⟨ws,l1,l2,l3,l4,l5⟩:=ib (P:=P) hR v2 hrow;rw [hp] at v1;have v1':=v1;simp only [VR] at v1;obtain ⟨hb,c,rfl,g1,g2,g3,g4⟩:=v1;have hf:=l3 (min m len) w (Nat.min_le_left _ _) rfl;have hrest:∀ w',(storeCells ⟨ρ b,o,none⟩ (ws.take (min m len * z'))).run P w=.ok () w'->(Builtin.copy_ argTypes ty [Value.slice (some ⟨ρ b,o,none⟩) len c,u2].toArray).run P w=.ok (goInt (min m len:Nat)) w':=by
          intro w' hs';simp only [Builtin.copy_,e1,List.getElem?_toArray,List.getElem?_cons_zero,List.getElem?_cons_succ,Sem.run_bind,run_underlying hu,Result.andThen_ok,l2,run_sizeOf hz];rw [show Nat.min m len=min m len from rfl];simp [hf,hs']
         cases hg:h.get b with
         | none=>simp [hg] at hm
         | some cs0 =>
          simp only [hg] at hm;split at hm
          . rename_i h0;cases hm;refine bN hR (v:=goInt (min m len:Nat)) (hrest w ?_) (by simp only [VR,DR,goInt]);rw [h0]; simp [storeCells]
          . rename_i h0;cases hput:put cs0 o (cs.take (min m len * z')) with
            | none=>simp [hput] at hm
            | some cs' =>
             simp only [hput,bd,cy] at hm;obtain ⟨rfl,rfl⟩:=hm;have hcl:=l4.length;have hle:min m len * z'<=m * z':=Nat.mul_le_mul_right _ (Nat.min_le_left _ _);have hne:cs.take (min m len * z')≠[]:=by
              intro h9;have h10:=congrArg List.length h9;rw [List.length_take,cm] at h10;omega
             obtain ⟨q1,q2,q3⟩:=fC (P:=P) hR hg hput hne (l4.take _) (λu hu=>l5 u (List.mem_of_mem_take hu));have hs1:(h.set b cs').size=h.size:=by simp [Hp.set,Hp.size]
             exact ⟨_,ρ,_,.inl (jN (hrest _ q1)),q2,q3,by simp only [VR,DR,goInt]⟩
       . cases hm
     . cases hm
   ·
     rename_i p;obtain ⟨u1,rfl,v1⟩:=onev rfl;replace hc:=af hc; obtain ⟨t,ht,hc⟩:=hc;replace hc:=af hc; obtain ⟨el,he,hc⟩:=hc;replace hc:=af hc; obtain ⟨z,hz,hc⟩:=hc;replace hc:=af hc; obtain ⟨zero,hzz,hc⟩:=hc;cases hc;have e1:argTypes[0]?=some t:=ht;have hu:=elem he;obtain ⟨i,zv,hi,hzv,hl,hv,h1⟩:=eT (ρ:=ρ) (S:=St ρ w) (w:=w) hzz;obtain ⟨i',hi',hiz⟩:=jv hz;obtain rfl:i'=i:=cv (hi'.symm.trans hi);have hzs:zv.cells.size=z:=by have:=hv.length; simp at this; omega
     simp only [opM] at hm;split at hm
     . rename_i b o len cap z' hp;split at hm
       . rename_i hze;subst hze;rw [hp] at v1;simp only [VR] at v1;obtain ⟨hb,c,rfl,g1,g2,g3,g4⟩:=v1;cases hg:h.get b with
         | none=>simp [hg] at hm
         | some cs0 =>
          simp only [hg] at hm;have hfl:=om hv h1 len;rw [hzs] at hfl;have hzc:(Builtin.zeroCells zv.cells len).toList=((Array.range (len * z')).map (zv.cells[· % z']!)).toList:=by simp [Builtin.zeroCells,hzs]
          have hrest:∀ w',(storeCells ⟨ρ b,o,none⟩ ((Array.range (len * z')).map (zv.cells[· % z']!)).toList).run P w=.ok () w'->(Builtin.clear_ argTypes ty [Value.slice (some ⟨ρ b,o,none⟩) len c].toArray).run P w=.ok (.tuple #[]) w':=by
           intro w' hs';rw [← hzc] at hs';by_cases hl0:len=0
           . subst hl0;simp [Builtin.zeroCells,storeCells] at hs';subst hs';simp [Builtin.clear_,e1,run_underlying hu]
           . simp [Builtin.clear_,e1,run_underlying hu,hl0,zeroValue,typeInfo,hi,hzv,hs']
          split at hm
          . rename_i h0;cases hm;refine bN hR (v:=.tuple #[]) (hrest w ?_) (by simp only [VR]);rw [h0]; simp [storeCells]
          . rename_i h0;cases hput:put cs0 o (List.replicate len zero).flatten with
            | none=>simp [hput] at hm
            | some cs' =>
             simp only [hput,bd,cy] at hm;obtain ⟨rfl,rfl⟩:=hm;have hne:(List.replicate len zero).flatten≠[]:=by
              intro h9;have h10:=hfl.1.length;rw [h9] at h10;simp at h10;omega
             obtain ⟨q1,q2,q3⟩:=fC (P:=P) hR hg hput hne hfl.1 hfl.2;have hs1:(h.set b cs').size=h.size:=by simp [Hp.set,Hp.size]
             exact ⟨_,ρ,_,.inl (jN (hrest _ q1)),q2,q3,by simp only [VR]⟩
       . cases hm
     . rename_i nl hp;cases hm;rw [hp] at v1;simp only [VR,DR] at v1;obtain ⟨ad,c,rfl,_⟩:=v1;refine bN hR (v:=.tuple #[]) ?_ (by simp only [VR]);cases ad<;>simp [Builtin.clear_,e1,run_underlying hu]
     . cases hm
   . cases hc;simp only [opM] at hm;split at hm
     . cases hm
     . rename_i p ps;split at hm
       . rename_i v hv;cases hm;simp only [ct,VRs] at hev;obtain ⟨u1,us',rfl,v1,v2⟩:=hev;obtain ⟨u,q1,q2⟩:=nH (P:=P) false v1 v2 hv;refine bN hR (v:=u) ?_ q2;simpa [Builtin.min_] using q1
       . cases hm
   . cases hc;simp only [opM] at hm;split at hm
     . cases hm
     . rename_i p ps;split at hm
       . rename_i v hv;cases hm;simp only [ct,VRs] at hev;obtain ⟨u1,us',rfl,v1,v2⟩:=hev;obtain ⟨u,q1,q2⟩:=nH (P:=P) true v1 v2 hv;refine bN hR (v:=u) ?_ q2;simpa [Builtin.max_] using q1
       . cases hm
   . cases hc
 | _=>simp [bA] at hc
end
end
section
open Go.RowKit
def LowOk (h h':Hp):Prop:=h.bs.length<=h'.bs.length/\h'.low<=h.low/\∀ i,i<h.bs.length->i<h'.low->h'.bs[i]?=h.bs[i]?
theorem LowOk.refl (h:Hp):LowOk h h:=⟨br _,br _,λ_ _ _=>rfl⟩
theorem LowOk.trans {a b c:Hp}(h:LowOk a b)(k:LowOk b c):LowOk a c :=
 ⟨cj h.1 k.1,cj k.2.1 h.2.1,λi hi hl=>(k.2.2 i (cg hi h.1) hl).trans (h.2.2 i hi (cg hl k.2.1))⟩
theorem LowOk.alloc (h:Hp)(cs:List V):LowOk h (h.alloc cs) :=
 ⟨by simp [Hp.alloc],br _,λi hi _=>by simp [Hp.alloc,am hi]⟩
theorem LowOk.setB (h:Hp)(b:Nat)(x:Blk):LowOk h ⟨h.bs.set b x,min h.low b⟩ :=
 ⟨by simp,Nat.min_le_left _ _,λi hi hl=>by
  simp only at hl;rw [ac (by omega)]⟩
theorem LowOk.set (h:Hp)(b:Nat)(cs:List V):LowOk h (h.set b cs):=LowOk.setB h b _
def jR (B:Nat)(ρ:Rh)(h:Hp)(w:World)(r:V)(h':Hp)(e:Ending)(w':World):Prop :=
 ∃ v ρ',e=.returned v/\Rel B ρ' h' w'/\Goes B ρ w ρ' w'/\VRx h' ρ' w' r v
def aQ (P:Program)(C:Calls'):Prop:=∀ f args h r h',C f args h=some (r,h') →
 (∀ vs w,(callFunc f vs).run P w=.ok (.enter f vs) w)/\LowOk h h' ∧
 ∀ B ρ w (vs:Array Value),Rel B ρ h w->VRs ρ (St ρ w) w args vs.toList->Calls P f vs w (jR B ρ h w r h')
theorem Az {h:Hp}{z bytes m:Nat}{s:V}{xs:List V}{r:V}{h':Hp}(ha:aK h z bytes s m xs=some (r,h')):LowOk h h':=by
 unfold aK at ha;split at ha
 . split at ha
   . cases ha; exact LowOk.refl _
   . split at ha
     . cases ha
     . split at ha
       . cases ha; exact LowOk.alloc _ _
       . cases ha
 . split at ha
   . cases ha
   . split at ha
     . cases ha; exact LowOk.refl _
     . split at ha
       . cases ha
       . split at ha
         . cases ha
         . split at ha
           . cases ha
           . split at ha
             . split at ha
               . split at ha
                 . cases ha; exact LowOk.set _ _ _
                 . cases ha
               . cases ha; exact LowOk.alloc _ _
             . split at ha
               . cases ha; exact (LowOk.set _ _ _).trans (LowOk.alloc _ _)
               . split at ha
                 . split at ha
                   . cases ha; exact LowOk.set _ _ _
                   . cases ha
                 . split at ha
                   . cases ha; exact (LowOk.set _ _ _).trans (LowOk.alloc _ _)
                   . cases ha
 . split at ha
   . cases ha; exact LowOk.refl _
   . cases ha
 . cases ha
theorem rY {P:Program}{C:Calls'}(hC:aQ P C){r:R}{e:Env}{h:Hp}{x:V}{h':Hp}(hm:opM C r e h=some (x,h')):LowOk h h':=by
 cases r<;>simp only [opM,one] at hm
 case mov=>cases hm; exact LowOk.refl _
 case pick=>split at hm<;>cases hm; exact LowOk.refl _
 case new=>cases hm; exact LowOk.alloc _ _
 case box=>split at hm<;>cases hm; exact LowOk.alloc _ _
 case build=>split at hm<;>cases hm; exact LowOk.refl _
 case buildS=>split at hm<;>cases hm; exact LowOk.alloc _ _
 case load =>
  split at hm
  . simp only [bk] at hm; obtain ⟨_,_,hm⟩:=hm; cases hm; exact LowOk.refl _
  . cases hm
 case store =>
  split at hm
  . split at hm
    . simp only [bk] at hm;obtain ⟨h2,hs,hm⟩:=hm;cases hm;unfold storeAt at hs;split at hs
      . split at hs
        . split at hs
          . cases hs; exact LowOk.set _ _ _
          . cases hs
        . cases hs
      . cases hs
    . cases hm
  . cases hm
 case nilchk=>split at hm<;>cases hm<;>exact LowOk.refl _
 case bin=>simp only [bk] at hm; obtain ⟨_,_,hm⟩:=hm; cases hm; exact LowOk.refl _
 case eq=>split at hm<;>cases hm; exact LowOk.refl _
 case un=>simp only [bk] at hm; obtain ⟨_,_,hm⟩:=hm; cases hm; exact LowOk.refl _
 case convI=>split at hm<;>cases hm; exact LowOk.refl _
 case convBS =>
  split at hm
  . cases hm
  . split at hm
    . split at hm
      . cases hm; exact LowOk.refl _
      . cases hm
    . cases hm
 case convSB =>
  split at hm
  . split at hm
    . cases hm; exact LowOk.alloc _ _
    . cases hm
  . cases hm
 case convSS=>split at hm<;>cases hm; exact LowOk.refl _
 case fldA=>split at hm<;>cases hm<;>exact LowOk.refl _
 case fld =>
  split at hm
  . split at hm
    . simp only [bk] at hm; obtain ⟨_,_,hm⟩:=hm; cases hm; exact LowOk.refl _
    . cases hm
  . cases hm
 case idxA =>
  split at hm
  . split at hm
    . split at hm
      . split at hm
        . cases hm; exact LowOk.refl _
        . cases hm
      . cases hm
    . cases hm
  . split at hm
    . cases hm; exact LowOk.refl _
    . cases hm
  . split at hm
    . cases hm; exact LowOk.refl _
    . cases hm
  . split at hm
    . cases hm; exact LowOk.refl _
    . cases hm
  . cases hm
 case idx =>
  split at hm
  . split at hm
    . split at hm
      . simp only [bk] at hm; obtain ⟨_,_,hm⟩:=hm; cases hm; exact LowOk.refl _
      . cases hm
    . cases hm
  . cases hm
 case idxS =>
  split at hm
  . split at hm
    . split at hm
      . cases hm; exact LowOk.refl _
      . cases hm
    . cases hm
  . cases hm
 case slc=>simp only [bk] at hm; obtain ⟨_,_,hm⟩:=hm; cases hm; exact LowOk.refl _
 case mkfn=>cases hm; exact LowOk.refl _
 case mkmv=>cases hm; exact LowOk.refl _
 case mksl =>
  split at hm
  . split at hm
    . cases hm; exact LowOk.alloc _ _
    . cases hm
  . cases hm
 case ext =>
  split at hm
  . simp only [bk] at hm; obtain ⟨_,_,hm⟩:=hm; cases hm; exact LowOk.refl _
  . cases hm
 case call =>
  unfold gK at hm;split at hm
  . exact (hC _ _ _ _ _ hm).2.1
  . exact (hC _ _ _ _ _ hm).2.1
  . cases hm
 case app =>
  split at hm
  . exact Az hm
  . cases hm
 case len=>split at hm<;>cases hm; exact LowOk.refl _
 case copy =>
  split at hm
  . split at hm
    . split at hm
      . split at hm
        . cases hm; exact LowOk.refl _
        . split at hm
          . cases hm; exact LowOk.set _ _ _
          . cases hm
      . cases hm
    . cases hm
  . cases hm
 case clear =>
  split at hm
  . split at hm
    . split at hm
      . split at hm
        . cases hm; exact LowOk.refl _
        . split at hm
          . cases hm; exact LowOk.set _ _ _
          . cases hm
      . cases hm
    . cases hm
  . cases hm; exact LowOk.refl _
  . cases hm
 case minmax =>
  split at hm
  . cases hm
  . split at hm<;>cases hm; exact LowOk.refl _
 case range =>
  split at hm
  . cases hm;exact ⟨by simp,br _,λi hi _=>by simp [am hi]⟩
  . cases hm
 case next =>
  split at hm
  . split at hm
    . split at hm
      . cases hm; exact LowOk.setB _ _ _
      . cases hm; exact LowOk.refl _
    . cases hm
  . cases hm
def Leq (C C':Calls'):Prop:=∀ f args h r,C f args h=some r->C' f args h=some r
theorem uC {C C':Calls'}(hC:Leq C C'){r:R}{e:Env}{h:Hp}{x:V×Hp}(hm:opM C r e h=some x):opM C' r e h=some x:=by
 cases r<;>first | exact hm | skip
 simp only [opM,gK] at hm ⊢;split at hm
 . rename_i heq
   (try rw [heq])
   exact hC _ _ _ _ hm
 . rename_i heq
   (try rw [heq])
   exact hC _ _ _ _ hm
 . cases hm
theorem kD {C C':Calls'}(hC:Leq C C'):∀ {os:List RO} {e:Env} {h:Hp} {x:Env×Hp},jF C os e h=some x->jF C' os e h=some x
 | [],e,h,x,hm=>hm
 | o::os,e,h,x,hm=>by
  simp only [jF] at hm ⊢;split at hm
  . rename_i j want hg
    (try simp only [hg])
    split at hm
    . rename_i t ht
      (try simp only [ht])
      split at hm
      . rename_i htw;rw [if_pos htw];split at hm
        . rename_i v h1 h2;rw [uC hC h2];exact kD hC hm
        . cases hm
      . rename_i htw;rw [if_neg htw];exact kD hC hm
    . rename_i ht
      (try simp only [ht])
      exact kD hC hm
    . cases hm
  . rename_i hg
    (try simp only [hg])
    split at hm
    . rename_i v h1 h2;rw [uC hC h2];exact kD hC hm
    . cases hm
theorem nA {C C':Calls'}(hC:Leq C C'){f:V}{args:List V}{h:Hp}{x:V×Hp}(hm:gK C f args h=some x):gK C' f args h=some x:=by
 unfold gK at hm ⊢;split at hm
 . exact hC _ _ _ _ hm
 . exact hC _ _ _ _ hm
 . cases hm
theorem Gy {C C':Calls'}(hC:Leq C C'){r:R}{e:Env}{h:Hp}{x:V×Hp×Tr}(hm:opD C r e h=some x):opD C' r e h=some x:=by
 cases r with
 | call f args =>
  simp only [opD] at hm ⊢;split at hm
  . rename_i v h1 h2;rw [nA hC h2];exact hm
  . cases hm
 | _ =>
  simp only [opD] at hm ⊢;split at hm
  . rename_i v h1 h2;rw [uC hC h2];exact hm
  . cases hm
theorem BJ {C C':Calls'}(hC:Leq C C'){o:RO}{e:Env}{h:Hp}{x:Stp}(hm:stepD C o e h=some x):stepD C' o e h=some x:=by
 have key:∀ y:Stp,(match opD C o.r e h with | some (v,h',t)=>some (⟨h,v,h',t⟩:Stp) | none=>none)=some y->(match opD C' o.r e h with | some (v,h',t)=>some (⟨h,v,h',t⟩:Stp) | none=>none)=some y:=by
  intro y hy;split at hy
  . rename_i v h1 t h2;rw [Gy hC h2];exact hy
  . cases hy
 simp only [stepD] at hm ⊢;split at hm
 . rename_i hg
   (try simp only [hg])
   exact key _ hm
 . rename_i j want hg
   (try simp only [hg])
   split at hm
   . rename_i t ht
     (try simp only [ht])
     split at hm
     . rename_i htw;rw [if_pos htw];exact key _ hm
     . rename_i htw;rw [if_neg htw];exact hm
   . rename_i ht
     (try simp only [ht])
     exact hm
   . cases hm
theorem ww {C C':Calls'}(hC:Leq C C'):∀ {os:List RO} {e:Env} {h:Hp} {x:List Stp×Env×Hp},lq C os e h=some x->lq C' os e h=some x
 | [],e,h,x,hm=>hm
 | o::os,e,h,x,hm=>by
  simp only [lq] at hm ⊢;split at hm
  . rename_i s hs;rw [BJ hC hs];split at hm
    . rename_i l e1 h1 hr;simp only [ww hC hr];exact hm
    . cases hm
  . cases hm
theorem Ec {C C':Calls'}(hC:Leq C C'){pr:List (List Nat)}{os:List RO}{e:Env}{h:Hp}{x:Env×Hp}(hm:uE C pr os e h=some x):uE C' pr os e h=some x:=by
 simp only [uE] at hm ⊢;split at hm
 . rename_i l e1 h1 hr;rw [ww hC hr];exact hm
 . cases hm
theorem cZ {C C':Calls'}(hC:Leq C C'):∀ {m n:Nat} {c:RC} {e:Env} {h:Hp} {r:Ex×Env×Hp},m<=n->bi C m c e h=some r->bi C' n c e h=some r
 | 0,n,c,e,h,r,_,hm=>by simp [bi] at hm
 | m+1,0,c,e,h,r,hle,hm=>by omega
 | m+1,n+1,c,e,h,r,hle,hm=>by
  have hle':m<=n:=by omega
  cases c with
  | skip=>simpa only [bi] using hm
  | ret=>simpa only [bi] using hm
  | exit i=>simpa only [bi] using hm
  | reg pr os =>
   cases pr with
   | none =>
    simp only [bi] at hm ⊢;split at hm
    . rename_i e1 h1 ho; rw [kD hC ho]; exact hm
    . cases hm
   | some pr =>
    simp only [bi] at hm ⊢;split at hm
    . rename_i e1 h1 ho; rw [Ec hC ho]; exact hm
    . cases hm
  | seq a b =>
   simp only [bi] at hm ⊢;split at hm
   . rename_i e1 h1 h2;rw [cZ hC hle' h2];exact cZ hC hle' hm
   . rename_i q hne;rw [cZ hC hle' hm];obtain ⟨ex,e1,h1⟩:=r;cases ex with
     | normal=>exact absurd hm (hne _ _)
     | ret=>rfl
     | exit i=>rfl
  | cond x a b =>
   simp only [bi] at hm ⊢;split at hm
   . rename_i t ht
     (try simp only [ht])
     exact cZ hC hle' hm
   . cases hm
  | block i b =>
   simp only [bi] at hm ⊢;split at hm
   . rename_i j e1 h1 h2;rw [cZ hC hle' h2];exact hm
   . rename_i q hne;rw [cZ hC hle' hm];obtain ⟨ex,e1,h1⟩:=r;cases ex with
     | normal=>rfl
     | ret=>rfl
     | exit j=>exact absurd hm (hne _ _ _)
  | loop dead b =>
   simp only [bi] at hm ⊢;split at hm
   . rename_i e1 h1 h2;rw [cZ hC hle' h2];exact cZ hC hle' hm
   . rename_i q hne;rw [cZ hC hle' hm];obtain ⟨ex,e1,h1⟩:=r;cases ex with
     | normal=>exact absurd hm (hne _ _)
     | ret=>rfl
     | exit i=>rfl
theorem Leq.refl (C:Calls'):Leq C C:=λ_ _ _ _ h=>h
section
variable {P:Program}{C:Calls'}{B:Nat}{ρ:Rh}{h:Hp}{w:World}{e:Env}{a:Act}
theorem si {x:V}{v:Value}(hE:ER ρ w e a.tmps)(hv:VR ρ (St ρ w) w x v)(d:Option Nat):ER ρ w (gu e d x) (a.put d v).tmps:=by
 cases d with
 | none=>exact hE
 | some d=>exact hE.set d hv
theorem put_defers (d:Option Nat)(v:Value):(a.put d v).defers=a.defers:=by cases d<;>rfl
theorem GI (hC:aQ P C)(hR:Rel B ρ h w)(hE:ER ρ w e a.tmps){o:Oper}{r:R}(hc:tQ P o=some r){x:V}{h':Hp}(hm:opM C r e h=some (x,h')){K:Act->World->Prop}{Q:Exit->Act->World->Prop}
 (hK:∀ v ρ' w',Rel B ρ' h' w'->Goes B ρ w ρ' w'->VRx h' ρ' w' x v->K (a.put o.dst v) w'):o.wp P a w K Q:=by
 by_cases hcall:∃ f args,r=.call f args
 . obtain ⟨f,args,rfl⟩:=hcall;replace hc:=yO hc (by intro hh; cases hh);obtain ⟨dst,op,ty,pos,after,guard⟩:=o;cases op with
   | call c =>
    obtain ⟨callee,as1,argTypes⟩:=c;cases callee with
    | value fo =>
     simp only [bA] at hc;replace hc:=af hc; obtain ⟨F,h1,hc⟩:=hc;replace hc:=af hc; obtain ⟨xs,h2,hc⟩:=hc;cases hc;simp only [opM,gK] at hm;split at hm
     . rename_i q caps heq;have hf:=aI hE h1;rw [heq] at hf;simp only [VR] at hf;obtain ⟨vs,ef,hvs⟩:=hf;have hargs:=oQ hE h2;obtain ⟨k1,_,k2⟩:=hC _ _ _ _ _ hm;have hrun:(execOp a.eval ⟨dst,.call ⟨.value fo,as1,argTypes⟩,ty,pos,after,guard⟩).run P w=.ok (.enter q (as1.map a.eval++vs)) w:=by
        simp only [execOp,resolve,ef,Deferred.ofValue];simp [invoke,k1]
       unfold Oper.wp;rw [hrun,Oper.upon_enter];refine (k2 B ρ w (as1.map a.eval++vs) hR ?_).mono λe' w' ⟨v,ρ',e1,e2,e3,e4⟩=>?_
       . simpa using hargs.append hvs
       . subst e1; exact hK v ρ' w' e2 e3 e4
     . rename_i q first heq
       have hf:=aI hE h1;rw [heq] at hf;simp only [VR] at hf;obtain ⟨vs,ef,hvs⟩:=hf;have hargs:=oQ hE h2;obtain ⟨k1,_,k2⟩:=hC _ _ _ _ _ hm;have hrun:(execOp a.eval ⟨dst,.call ⟨.value fo,as1,argTypes⟩,ty,pos,after,guard⟩).run P w=.ok (.enter q (vs++as1.map a.eval)) w:=by
        simp only [execOp,resolve,ef,Deferred.ofValue];simp [invoke,k1]
       unfold Oper.wp;rw [hrun,Oper.upon_enter];refine (k2 B ρ w (vs++as1.map a.eval) hR ?_).mono λe' w' ⟨v,ρ',e1,e2,e3,e4⟩=>?_
       . simpa using hvs.append hargs
       . subst e1; exact hK v ρ' w' e2 e3 e4
     . cases hm
    | invoke r m=>simp [bA] at hc
    | builtin b =>
     exfalso;simp only [bA] at hc;replace hc:=af hc; obtain ⟨xs,hxs,hc⟩:=hc;split at hc
     . replace hc:=af hc; obtain ⟨t,ht,hc⟩:=hc;replace hc:=af hc; obtain ⟨tx,htx,hc⟩:=hc;replace hc:=af hc; obtain ⟨el,he,hc⟩:=hc;split at hc
       . replace hc:=af hc; obtain ⟨z,hz,hc⟩:=hc;replace hc:=af hc; obtain ⟨by',hby,hc⟩:=hc;cases hc
       . cases hc
     . replace hc:=af hc; obtain ⟨t,ht,hc⟩:=hc;split at hc<;>cases hc
     . replace hc:=af hc; obtain ⟨t,ht,hc⟩:=hc;replace hc:=af hc; obtain ⟨el,he,hc⟩:=hc;replace hc:=af hc; obtain ⟨z,hz,hc⟩:=hc;cases hc
     . replace hc:=af hc; obtain ⟨t,ht,hc⟩:=hc;replace hc:=af hc; obtain ⟨el,he,hc⟩:=hc;replace hc:=af hc; obtain ⟨z,hz,hc⟩:=hc;replace hc:=af hc; obtain ⟨zz,hzz,hc⟩:=hc;cases hc
     . cases hc
     . cases hc
     . cases hc
   | next it st =>
    exfalso;cases st
    . simp [bA] at hc
    . simp only [bA] at hc;replace hc:=af hc; obtain ⟨_,_,hc⟩:=hc;cases hc
   | _ =>
    exfalso;simp only [bA,bk] at hc
    repeat' (first | (cases hc; done) | (obtain ⟨_,_,hc⟩:=hc; cases hc; done) | (replace hc:=af hc; obtain ⟨_,_,hc⟩:=hc) | split at hc)
 . have hd:=Jj (P:=P) hR hE hc (λf args h=>hcall ⟨f,args,h⟩) hm;obtain ⟨v,ρ',w',hrun,k1,k2,k3⟩:=hd;unfold Oper.wp;obtain hrun | ⟨hrun,rfl⟩:=hrun
   . rw [hrun,Oper.upon_value]; exact hK v ρ' w' k1 k2 k3
   . rw [hrun,Oper.upon_skip]; exact hK undef ρ' w' k1 k2 k3
theorem lC {ops:Array Oper}{j s:Nat}{p:Oper}(hp:ops[j]?=some p)(hs:p.dst=some s)(hE:ER ρ w e a.tmps){t:Bool}(he:e.getD s .undef=.d (.bool t)):yielded ops a.tmps j=some t:=by
 have hv:=hE.2 s;rw [he] at hv;simp only [VR,DR] at hv;have:a.tmps[s]?=some (.bool t):=by
  rw [Array.getD_eq_getD_getElem?] at hv;cases hq:a.tmps[s]? with
  | none=>rw [hq] at hv; simp [undef] at hv
  | some u=>rw [hq] at hv; simp at hv; rw [hv]
 simp [yielded,hp,hs,this]
theorem qh {ops:Array Oper}{j s:Nat}{p:Oper}(hp:ops[j]?=some p)(hs:p.dst=some s)(hE:ER ρ w e a.tmps)(he:e.getD s .undef=.tup []):yielded ops a.tmps j=none:=by
 have hv:=hE.2 s;rw [he] at hv;simp only [VR,VRs] at hv;obtain ⟨vs,h1,h2⟩:=hv;rw [Array.getD_eq_getD_getElem?] at h1;cases hq:a.tmps[s]? with
 | none=>simp [yielded,hp,hs,hq]
 | some u=>rw [hq] at h1; simp at h1; subst h1; simp [yielded,hp,hs,hq]
theorem lS {ops:Array Oper}{o:Oper}{ro:RO}(hc:q9 P ops o=some ro):tQ P o=some ro.r/\ro.d=o.dst ∧
 ((o.guard=none/\ro.g=none)\/∃ j want p s,o.guard=some (j,want)/\ops[j]?=some p/\p.dst=some s/\ro.g=some (s,want)):=by
 unfold q9 at hc;replace hc:=af hc; obtain ⟨r,hr,hc⟩:=hc;split at hc
 . rename_i hg;cases hc;exact ⟨hr,rfl,.inl ⟨hg,rfl⟩⟩
 . rename_i j want hg;replace hc:=af hc; obtain ⟨p,hp,hc⟩:=hc;replace hc:=af hc; obtain ⟨s,hs,hc⟩:=hc;cases hc;exact ⟨hr,rfl,.inr ⟨j,want,p,s,hg,hp,hs,rfl⟩⟩
def After (B:Nat)(ρ:Rh)(h:Hp)(w:World)(a:Act)(e':Env)(h':Hp)(a':Act)(w':World):Prop :=
 ∃ ρ',Rel B ρ' h' w'/\Goes B ρ w ρ' w'/\ER ρ' w' e' a'.tmps/\a'.defers=a.defers
theorem xU (hE:ER ρ w e a.tmps)(d:Option Nat):ER ρ w (gu e d (.tup [])) (a.put d undef).tmps :=
 si hE (by simp only [VR,VRs]; exact ⟨#[],rfl,rfl⟩) d
theorem Bj (hC:aQ P C){ops:Array Oper}{Q:Exit->Act->World->Prop}:∀ (l:List Oper) (os:List RO) {e:Env} {h:Hp} {ρ:Rh} {w:World} {a:Act} {e':Env} {h':Hp},l.mapM (q9 P ops)=some os->jF C os e h=some (e',h') →
 Rel B ρ h w->ER ρ w e a.tmps->(∀ a' w',After B ρ h w a e' h' a' w'->Q .normal a' w')->wpList P ops Q l a w
 | [],os,e,h,ρ,w,a,e',h',hm,ho,hR,hE,hQ=>by
  simp at hm; subst hm;simp only [jF,bd,cy] at ho;obtain ⟨rfl,rfl⟩:=ho;exact hQ a w ⟨ρ,hR,Goes.refl _ _ _,hE,rfl⟩
 | o::l,os,e,h,ρ,w,a,e',h',hm,ho,hR,hE,hQ=>by
  simp only [List.mapM_cons] at hm;replace hm:=af hm; obtain ⟨ro,hro,hm⟩:=hm;replace hm:=af hm; obtain ⟨os',hos,hm⟩:=hm;cases hm;obtain ⟨hr,hd,hg⟩:=lS hro;have doit:∀ v h1,opM C ro.r e h=some (v,h1)->jF C os' (gu e ro.d v) h1=some (e',h')->o.wp P a w (wpList P ops Q l) Q:=by
   intro v h1 h2 h3;refine GI hC hR hE hr h2 λu ρ' w' k1 k2 k3=>?_;rw [hd] at h3;refine Bj hC l os' hos h3 k1 (si (hE.ext k2.ext) k3 o.dst) λa' w'' ⟨ρ'',m1,m2,m3,m4⟩=>?_;exact hQ a' w'' ⟨ρ'',m1,k2.trans m2,m3,by rw [m4,put_defers]⟩
  have leave:jF C os' (gu e ro.d (.tup [])) h=some (e',h')->wpList P ops Q l (a.put o.dst undef) w:=by
   intro h3;rw [hd] at h3;refine Bj hC l os' hos h3 hR (xU hE o.dst) λa' w'' ⟨ρ'',m1,m2,m3,m4⟩=>?_;exact hQ a' w'' ⟨ρ'',m1,m2,m3,by rw [m4,put_defers]⟩
  simp only [jF] at ho;unfold wpList;obtain ⟨hg1,hg2⟩ | ⟨j,want,p,s,hg1,hp,hs,hg2⟩:=hg
  . simp only [hg2] at ho;have hw:Region.wanted o (yielded ops a.tmps)=true:=by simp [Region.wanted,hg1]
    rw [if_pos hw];split at ho
    . rename_i v h1 h2;exact .inl (doit v h1 h2 ho)
    . cases ho
  . simp only [hg2] at ho;split at ho
    . rename_i t heq;have hy:=lC hp hs hE heq;split at ho
      . rename_i htw;have hw:Region.wanted o (yielded ops a.tmps)=true:=by simp [Region.wanted,hg1,hy,htw]
        rw [if_pos hw];split at ho
        . rename_i v h1 h2;exact .inl (doit v h1 h2 ho)
        . cases ho
      . rename_i htw;have hw:¬ Region.wanted o (yielded ops a.tmps)=true:=by simp [Region.wanted,hg1,hy,htw]
        rw [if_neg hw];exact leave ho
    . rename_i heq;have hy:=qh hp hs hE heq;have hw:¬ Region.wanted o (yielded ops a.tmps)=true:=by simp [Region.wanted,hg1,hy]
      rw [if_neg hw];exact leave ho
    . cases ho
def Ex.to:Ex->Exit
 | .normal=>.normal
 | .ret=>.ret
 | .exit i=>.exit i
def wH (P:Program)(C:Calls'):Prop:=∀ (B:Nat) (id:Nat) (ops:Array Oper) (os:List RO) (e:Env) (h:Hp) (ρ:Rh) (w:World) (a:Act) (e':Env) (h':Hp) (Q:Exit->Act->World->Prop),
 ops.toList.mapM (q9 P ops)=some os->tT ops os=true->uE C (dz ops) os e h=some (e',h')->Rel B ρ h w->ER ρ w e a.tmps →
 (∀ a' w',After B ρ h w a e' h' a' w'->Q .normal a' w')->(Code.region id ops true).wp P Q a w
theorem Jb {t:Array Value}(dead:List Nat):∀ {e:Env},ER ρ w e t->ER ρ w (mask dead e) t:=by
 induction dead with
 | nil=>intro e h; exact h
 | cons d ds ih =>
  intro e hE;refine ih (e:=e.set d .undef) ⟨by simpa using hE.1,λi=>?_⟩;have:=hE.2 i;by_cases hd:d=i
  . subst hd;by_cases hlt:d<e.length
    . simp [bp,List.getElem?_set,hlt,VR]
    . simp [bp,List.getElem?_set,hlt,VR]
  . simpa [bp,List.getElem?_set,hd] using this
theorem II (hC:aQ P C)(hD:wH P C):∀ (n:Nat) (c:Code) (rc:RC) {e:Env} {h:Hp} {ρ:Rh} {w:World} {a:Act} {ex:Ex} {e':Env} {h':Hp} {Q:Exit->Act->World->Prop},comp P c=some rc.strip->bi C n rc e h=some (ex,e',h') →
 Rel B ρ h w->ER ρ w e a.tmps->(∀ a' w',After B ρ h w a e' h' a' w'->Q ex.to a' w')->c.wp P Q a w:=by
 intro n
 induction n with
 | zero=>intro c rc e h ρ w a ex e' h' Q _ hn; simp [bi] at hn
 | succ n ih =>
  intro c
  induction c with
  | scope b ihb =>
   intro rc e h ρ w a ex e' h' Q hc hn hR hE hQ;refine wp_scope_straight (ihb rc hc hn hR hE λa' w' hA=>?_);have:=hQ a' w' hA;cases ex<;>exact this
  | skip =>
   intro rc e h ρ w a ex e' h' Q hc hn hR hE hQ;cases rc<;>simp [comp,RC.strip] at hc;simp only [bi,bd,cy] at hn;obtain ⟨rfl,rfl,rfl⟩:=hn;exact wp_skip (hQ a w ⟨ρ,hR,Goes.refl _ _ _,hE,rfl⟩)
  | label l =>
   intro rc e h ρ w a ex e' h' Q hc hn hR hE hQ;cases rc<;>simp [comp,RC.strip] at hc;simp only [bi,bd,cy] at hn;obtain ⟨rfl,rfl,rfl⟩:=hn;exact wp_label (hQ a w ⟨ρ,hR,Goes.refl _ _ _,hE,rfl⟩)
  | ret =>
   intro rc e h ρ w a ex e' h' Q hc hn hR hE hQ;cases rc<;>simp [comp,RC.strip] at hc;simp only [bi,bd,cy] at hn;obtain ⟨rfl,rfl,rfl⟩:=hn;exact wp_ret (hQ a w ⟨ρ,hR,Goes.refl _ _ _,hE,rfl⟩)
  | exit i =>
   intro rc e h ρ w a ex e' h' Q hc hn hR hE hQ;cases rc<;>simp [comp,RC.strip] at hc;subst hc;simp only [bi,bd,cy] at hn;obtain ⟨rfl,rfl,rfl⟩:=hn;exact wp_exit (hQ a w ⟨ρ,hR,Goes.refl _ _ _,hE,rfl⟩)
  | goto l=>intro rc e h ρ w a ex e' h' Q hc; simp [comp] at hc
  | refuse s=>intro rc e h ρ w a ex e' h' Q hc; simp [comp] at hc
  | rangeFunc f ps x y=>intro rc e h ρ w a ex e' h' Q hc; simp [comp] at hc
  | region id ops draw =>
   intro rc e h ρ w a ex e' h' Q hc hn hR hE hQ;simp only [comp] at hc;replace hc:=af hc; obtain ⟨os,hos,hc⟩:=hc;cases draw with
   | false =>
    simp only [bo,if_false] at hc;cases rc<;>simp [RC.strip,pure] at hc;obtain ⟨rfl,rfl⟩:=hc;simp only [bi] at hn;split at hn
    . rename_i e1 h1 ho;cases hn;exact wp_region_list (Bj hC ops.toList os hos ho hR hE hQ)
    . cases hn
   | true =>
    simp only [if_true] at hc;split at hc
    . rename_i hdr;cases rc<;>simp [RC.strip,pure] at hc;obtain ⟨rfl,rfl⟩:=hc;simp only [bi] at hn;split at hn
      . rename_i e1 h1 ho;cases hn;exact hD B id ops os e h ρ w a _ _ Q hos hdr ho hR hE hQ
      . cases hn
    . cases hc
  | seq x y _ _ =>
   intro rc e h ρ w a ex e' h' Q hc hn hR hE hQ;simp only [comp] at hc;replace hc:=af hc; obtain ⟨rx,hx,hc⟩:=hc;replace hc:=af hc; obtain ⟨ry,hy,hc⟩:=hc;cases rc<;>simp [RC.strip,pure] at hc;obtain ⟨rfl,rfl⟩:=hc;simp only [bi] at hn;split at hn
   . rename_i e1 h1 hn1;refine wp_seq (ih x _ hx hn1 hR hE λa1 w1 ⟨ρ1,m1,m2,m3,m4⟩=>?_);refine ih y _ hy hn m1 m3 λa2 w2 ⟨ρ2,q1,q2,q3,q4⟩=>hQ a2 w2 ⟨ρ2,q1,m2.trans q2,q3,q4.trans m4⟩
   . rename_i r hne;have hne':ex≠.normal:=by rintro rfl; exact hne _ _ hn
     refine wp_seq (ih x _ hx hn hR hE λa1 w1 hA=>?_);have:=hQ a1 w1 hA;cases ex with
     | normal=>exact absurd rfl hne'
     | ret=>exact this
     | exit i=>exact this
  | cond x t f _ _ =>
   intro rc e h ρ w a ex e' h' Q hc hn hR hE hQ;simp only [comp] at hc;replace hc:=af hc; obtain ⟨X',ho,hc⟩:=hc;replace hc:=af hc; obtain ⟨rt,ht,hc⟩:=hc;replace hc:=af hc; obtain ⟨rf,hf,hc⟩:=hc;cases rc<;>simp [RC.strip,pure] at hc;obtain ⟨rfl,rfl,rfl⟩:=hc;simp only [bi] at hn;split at hn
   . rename_i b heq;have hv:=aI hE ho;rw [heq] at hv;have eb:=qg hv;cases b
     . exact wp_cond_false eb (ih f _ hf (by simpa using hn) hR hE hQ)
     . exact wp_cond_true eb (ih t _ ht (by simpa using hn) hR hE hQ)
   . cases hn
  | block i b _ =>
   intro rc e h ρ w a ex e' h' Q hc hn hR hE hQ;simp only [comp] at hc;replace hc:=af hc; obtain ⟨rb,hb,hc⟩:=hc;cases rc<;>simp [RC.strip,pure] at hc;obtain ⟨rfl,rfl⟩:=hc;simp only [bi] at hn;split at hn
   . rename_i j e1 h1 hn1;refine wp_block (ih b _ hb hn1 hR hE λa1 w1 hA=>?_);simp only [Ex.to,Exit.inBlock];split at hn
     . rename_i hji;cases hn;rw [if_pos hji];exact hQ a1 w1 hA
     . rename_i hji;cases hn;rw [if_neg hji];exact hQ a1 w1 hA
   . rename_i r hne;refine wp_block (ih b _ hb hn hR hE λa1 w1 hA=>?_);have:=hQ a1 w1 hA;cases ex with
     | normal=>exact this
     | ret=>exact this
     | exit j=>exact absurd hn (hne j _ _)
  | loop b _ =>
   intro rc e h ρ w a ex e' h' Q hc hn hR hE hQ;simp only [comp] at hc;replace hc:=af hc; obtain ⟨rb,hb,hc⟩:=hc;cases rc<;>simp [RC.strip,pure] at hc;rename_i dead rb';subst hc;have key:∀ (m:Nat),m<=n+1->∀ {e:Env} {h:Hp} {ρ:Rh} {w:World} {a:Act} {Q:Exit->Act->World->Prop},bi C m (.loop dead rb') e h=some (ex,e',h')->Rel B ρ h w->ER ρ w e a.tmps →
    (∀ a' w',After B ρ h w a e' h' a' w'->Q ex.to a' w')->Code.rounds P b Q m a w:=by
    intro m
    induction m with
    | zero=>intro _ e h ρ w a Q hn; simp [bi] at hn
    | succ m ihm =>
     intro hmn e h ρ w a Q hn hR hE hQ;simp only [bi] at hn;have body:∀ {ex1:Ex} {e1:Env} {h1:Hp} {Q1:Exit->Act->World->Prop},bi C m rb' (mask dead e) h=some (ex1,e1,h1)->(∀ a' w',After B ρ h w a e1 h1 a' w'->Q1 ex1.to a' w')->b.wp P Q1 a w:=by
      intro ex1 e1 h1 Q1 hn1 hQ1;have hn1':bi C n rb' (mask dead e) h=some (ex1,e1,h1):=cZ (Leq.refl C) (by omega) hn1;exact ih b rb' hb hn1' hR (Jb dead hE) hQ1
     rw [rounds_succ];split at hn
     . rename_i e1 h1 hn1;refine body hn1 λa1 w1 ⟨ρ1,m1,m2,m3,m4⟩=>?_;exact ihm (by omega) hn m1 m3 λa2 w2 ⟨ρ2,q1,q2,q3,q4⟩=>hQ a2 w2 ⟨ρ2,q1,m2.trans q2,q3,q4.trans m4⟩
     . rename_i r hne;refine body hn λa1 w1 hA=>?_;have:=hQ a1 w1 hA;cases ex with
       | normal=>exact absurd hn (hne _ _)
       | ret=>exact this
       | exit i=>exact this
   exact wp_loop_rounds (n+1) (key (n+1) (br _) hn hR hE hQ)
end
end
