/- All operations but calls, together. -/
import Derived.Test.YtjkfknafpgfchaaGreatPx
set_option linter.unusedVariables false
set_option linter.unusedSimpArgs false
namespace Go.Proofs.YtjkfknafpgfchaaGreat
open Go.RowKit
section
variable {P:Program} {B:Nat} {ρ:Rh} {h:Hp} {w:World} {e:Env} {a:Act}
theorem nQ {S:Nat -> Prop} {zero:List V} {z:Array Value} (hz:VRs ρ S w zero z.toList) (h1:∀ u ∈ z.toList,u.oneCell' = true) (k:Nat) :
 VRs ρ S w (List.replicate k zero).flatten ((Array.range (k * z.size)).map (z[· % z.size]!)).toList /\ ∀ u ∈ ((Array.range (k * z.size)).map (z[· % z.size]!)).toList,u.oneCell' = true:=by
 have hl:=hz.length;simp only [Array.length_toList] at hl;have hfl:∀ k,(List.replicate k zero).flatten.length = k * zero.length:=by
  intro k
  induction k with
  | zero=>simp
  | succ k ih=>simp [List.replicate_succ,Nat.add_mul,ih,Nat.add_comm]
 have hget:∀ (k i:Nat) (hi:i < (List.replicate k zero).flatten.length) (hm:i % zero.length < zero.length),(List.replicate k zero).flatten[i] = zero[i % zero.length]:=by
  intro k
  induction k with
  | zero=>intro i hi; simp at hi
  | succ k ih =>
   intro i hi hm;simp only [List.replicate_succ,List.flatten_cons];rcases Nat.lt_or_ge i zero.length with h2 | h2
   · rw [List.getElem_append_left h2];simp only [Nat.mod_eq_of_lt h2]
   · rw [List.getElem_append_right h2];have hi':i - zero.length < (List.replicate k zero).flatten.length:=by
      rw [hfl] at hi ⊢;rw [Nat.add_mul] at hi;omega
     have hm':(i - zero.length) % zero.length = i % zero.length:=by
      have:i = (i - zero.length) + zero.length:=by omega
      conv=>rhs; rw [this,Nat.add_mod_right]
     rw [ih (i - zero.length) hi' (by rw [hm']; exact hm)];simp only [hm']
 have key:∀ (i:Nat) (h3:i < (List.replicate k zero).flatten.length) (h4:i < ((Array.range (k * z.size)).map (z[· % z.size]!)).toList.length),
  VR ρ S w (List.replicate k zero).flatten[i] ((Array.range (k * z.size)).map (z[· % z.size]!)).toList[i] /\ (((Array.range (k * z.size)).map (z[· % z.size]!)).toList[i]).oneCell' = true:=by
  intro i h3 h4;have hpos:0 < z.size:=by
   simp at h4;rcases Nat.eq_zero_or_pos z.size with h5 | h5
   · rw [h5] at h4; omega
   · exact h5
  have hm:i % z.size < z.size:=Nat.mod_lt _ hpos;have e1:((Array.range (k * z.size)).map (z[· % z.size]!)).toList[i] = z.toList[i % z.size]'(by simpa using hm):=by
   simp [hm]
  rw [hget k i h3 (by rw [← hl]; exact hm),e1];have:=hz.get (i % z.size) (by omega) (by simpa using hm);simp only [← hl];exact ⟨this,h1 _ (List.getElem_mem _)⟩
 refine ⟨VRs.of_get (by simp [hfl,hl]) fun i h3 h4=>(key i h3 h4).1,fun u hu=>?_⟩;obtain ⟨i,hi,rfl⟩:=List.getElem_of_mem hu;exact (key i (by rw [hfl]; simp at hi; rw [← hl]; exact hi) hi).2
theorem ae {α β:Type} {x:Option α} {f:α -> Option β} {y:β} (hh:(x >>= f) = some y):∃ z,x = some z /\ f z = some y:=by
 cases x with
 | none=>cases hh
 | some z=>exact ⟨z,rfl,hh⟩
theorem parts_eval {place:Nat -> Option (Nat × Nat)} {ps:Array (Nat × Operand)} {pl:List (Nat × Nat × X)} (hp:partsOf place ps = some pl) :
 ps.toList.mapM (fun p=>do let (o,n) ← place p.1; pure (o,n,← bg p.2)) = some pl:=hp
theorem rJ (hR:Rel B ρ h w) (hE:ER ρ w e a.tmps) {t:TypeId} {ps:Array (Nat × Operand)} {place:Nat -> Option (Nat × Nat)} {pl:List (Nat × Nat × X)} {zero cs:List V}
 (hz:gy P t = some zero) (hp:partsOf place ps = some pl) (hf:fills e zero pl = some cs)
 (hb:∀ i z cells,P.info? t = some i -> i.zero = some z -> Instr.fill place z.cells (ps.toList.map fun p=>(p.1,a.eval p.2)) = some cells -> P.built t (ps.toList.map fun p=>(p.1,a.eval p.2)) = some cells) :
 Does P B ρ h w (do let v ← Instr.build t (ps.map fun (i,x)=>(i,a.eval x)); pure (.value v)) (.agg cs) h:=by
 obtain ⟨i,z,hi,hzz,hl,hv,h1⟩:=dS (ρ:=ρ) (S:=St ρ w) (w:=w) hz;obtain ⟨cells,f1,f2,f3⟩:=mU hE place ps.toList pl zero cs z.cells (parts_eval hp) hf hv h1;have hbl:=hb i z cells hi hzz f1;refine bG hR (v:=.agg cells) (run_build w t _ cells (by simpa using hbl)) ?_;simp only [VR];exact ⟨cells,rfl,f2,f3⟩
theorem wO (hR:Rel B ρ h w) (hE:ER ρ w e a.tmps) {t el:TypeId} {z n:Nat} {ps:Array (Nat × Operand)} {pl:List (Nat × Nat × X)} {zero cs:List V} (ht:P.underlying t = some (.slice el)) (hs:gQ P el = some z)
 (hz:gy P el = some zero) (hsm:n * z <= 2 ^ 20) (hzp:0 < z) (hp:partsOf (fun i=>some (i * z,z)) ps = some pl) (hf:fills e (List.replicate n zero).flatten pl = some cs) :
 Does P B ρ h w (do let v ← Instr.buildSlice t n (ps.map fun (i,x)=>(i,a.eval x)); pure (.value v)) (.row h.size 0 n (some n) z) (h.alloc cs):=by
 obtain ⟨i,zv,hi,hzz,hl,hv,h1⟩:=dS (ρ:=ρ) (S:=St ρ w) (w:=w) hz;obtain ⟨i',hi',hiz⟩:=iP hs;obtain rfl:i' = i:=Option.some.inj (hi'.symm.trans hi);have hzs:zv.cells.size = z:=by have:=hv.length; simp at this; omega
 have hfl:=nQ hv h1 n;rw [hzs] at hfl;obtain ⟨cells,f1,f2,f3⟩:=mU hE (fun i=>some (i * z,z)) ps.toList pl _ cs _ (parts_eval hp) hf hfl.1 hfl.2;have hlen:cs.length = cells.size:=by have:=f2.length; simp at this; omega
 have hcz:cells.size = n * z:=by
  have e2:(List.replicate n zero).flatten.length = n * z:=by rw [← hfl.1.length]; simp
  have:∀ (pl:List (Nat × Nat × X)) (c c':List V),fills e c pl = some c' -> c'.length = c.length:=by
   intro pl
   induction pl with
   | nil=>intro c c' hh; simp [fills] at hh; rw [hh]
   | cons p pl ih =>
    intro c c' hh;obtain ⟨o,k,x⟩:=p;simp only [fills] at hh;split at hh
    · split at hh
      · split at hh
        · rename_i xs _ _ c1 hput;obtain ⟨q1,rfl⟩:=oO hput;rw [ih _ _ hh]; simp; omega
        · cases hh
      · cases hh
    · cases hh
  have:=this pl _ _ hf;omega
 have hbig:¬ (2 ^ 24 < n * z):=by omega
 have hrun:(Instr.buildSlice t n (ps.map fun (i,x)=>(i,a.eval x))).run P w = .ok (.slice (some ⟨w.heap.size,0,none⟩) n n) (w.alloc (.cells cells el)):=by
  have f1':Instr.fill (fun i=>some (i * z,z)) (Array.map (fun x=>zv.cells[x % z]!) (Array.range (n * z))) (ps.map fun (i,x)=>(i,a.eval x)).toList = some cells:=by
   simpa using f1
  by_cases h0:n * z = 0
  · rw [h0] at f1';have e0:Array.map (fun x=>zv.cells[x % z]!) (Array.range 0) = #[]:=by simp
    rw [e0] at f1';have e2:Array.map (fun _=>(default:Value)) (Array.range 0) = #[]:=by simp
    simp at f1';simp only [Instr.buildSlice,Sem.run_bind,run_underlying ht,Result.andThen_ok,run_sizeOf hs];simp [h0,newRow,newObj,Sem.run];rw [e2,f1'];first | rfl | (simp [Sem.run]; rfl)
  · simp only [Instr.buildSlice,Sem.run_bind,run_underlying ht,Result.andThen_ok,run_sizeOf hs];simp [h0,hbig,zeroValue,typeInfo,hi,hzz,newRow,newObj,Sem.run,hzs];simp at f1';simp [f1',hbig,Sem.run]
 have hnz:n <= maxLen:=by unfold maxLen; have:=Nat.le_mul_of_pos_right n hzp; omega
 exact Does.freshRow hR (w0:=w) (t:=el) (fz:=(0,0)) (c:=n) rfl (Below.refl _ _) (iZ hrun) (fun j _=>by simp) (by omega) (by rw [List.take_of_length_le (by simp; omega)]; exact f2) (by rw [List.take_of_length_le (by simp; omega)]; exact f3) (Nat.le_refl _) hnz (fun k hk=>by cases hk; rfl) (by omega) (fun hh=>by cases hh)
theorem wV (hR:Rel B ρ h w) {sT dT el:TypeId} {s:ByteArray} (hs:P.underlying sT = some .string) (hd:P.underlying dT = some (.slice el)) (he:P.underlying el = some (.int .u8)) (hsz:s.size <= 2 ^ 40) :
 Does P B ρ h w (do let v ← convert sT dT (.string s); pure (.value v)) (.row h.size 0 s.size none 1) (h.alloc (s.toList.map fun b=>.d (.int .u8 b.toNat))):=by
 have hrun:=run_bytes_of_string (P:=P) w sT dT el s hs hd he;have hge:=grownCap_ge w s.size 0 el;have hle:s.size <= maxLen:=by unfold maxLen; omega
 have hl:s.toList = s.data.toList:=ByteArray.toList_eq s;have hn:s.toList.length = s.size:=by rw [hl]; simp
 have hcells:(bytesRow s (grownCap w s.size 0 el)).toList.take (s.toList.map fun b=>V.d (.int .u8 b.toNat)).length = s.data.toList.map fun b=>Value.int .u8 b.toNat:=by
  simp only [bytesRow,Array.toList_append,Array.toList_map,List.length_map,hn];rw [List.take_append_of_le_length (by simp),List.take_of_length_le (by simp)]
 have hsz2:(bytesRow s (grownCap w s.size 0 el)).size = grownCap w s.size 0 el:=by simp [bytesRow]; omega
 refine Does.freshRow hR (w0:=w.drew) (t:=el) (c:=grownCap w s.size 0 el) rfl (Below.drew (Below.refl _ _)) (iZ hrun) (fun j hj=>by simp only; omega) (by rw [hsz2]; simp only [List.length_map,hn]; exact hge) ?_ ?_ hge (grownCap_le_maxLen _ _ _ _ hle) (fun k hk=>by cases hk) (by omega) (fun _=>by omega)
 · rw [hcells,hl];have:(s.data.toList.map fun b=>V.d (D.int .u8 b.toNat)) = (s.data.toList.map fun b=>D.int .u8 b.toNat).map .d:=by simp
   rw [this];exact VRs.of_data (by simp) fun i h1 h2=>by simp [DR]
 · rw [hcells];intro u hu;obtain ⟨b,_,rfl⟩:=List.mem_map.1 hu;rfl
theorem QP:∀ (l:List UInt8) (r:ByteArray),(l.map (fun b=>(b.toNat:Int))).foldl (fun r n=>r.push (UInt8.ofNat n.toNat)) r = ⟨r.data ++ l.toArray⟩:=foldl_push_byteCells
theorem zB (hR:Rel B ρ h w) {sT dT el:TypeId} {v:Value} {xv:V} {m:Nat} {cs:List V} {l:List UInt8} (hs:P.underlying sT = some (.slice el)) (he:P.underlying el = some (.int .u8)) (hd:P.underlying dT = some .string)
 (hx:VRx h ρ w xv v) (hrow:aF h xv 1 = some (m,cs)) (hns:∀ s,xv ≠ .d (.str s)) (hl:cs.mapM (fun v=>match v with | .d (.int .u8 n)=>some (UInt8.ofNat n.toNat) | _=>none) = some l) :
 (convert sT dT v).run P w = .ok (.string ⟨l.toArray⟩) w:=by
 obtain ⟨us,l1,l2,l3,l4,l5⟩:=gm (P:=P) hR hx hrow;have hsl:∃ ad n c,v = .slice ad n c:=by
  cases xv with
  | d y=>cases y with
   | slice nl es=>simp only [VR,DR] at hx; obtain ⟨_,_,rfl,_⟩:=hx; exact ⟨_,_,_,rfl⟩
   | str s=>exact absurd rfl (hns s)
   | _=>simp [aF] at hrow
  | row b o len cap z=>simp only [VR] at hx; obtain ⟨_,_,rfl,_⟩:=hx; exact ⟨_,_,_,rfl⟩
  | _=>simp [aF] at hrow
 obtain ⟨ad,n,c,rfl⟩:=hsl;have hnm:n = m:=by
  have:=l2 w;simp [Builtin.lenOf] at this;exact this
 subst hnm;have hfull:us.take (n * 1) = us:=List.take_of_length_le (by omega);have hf:=l3 n w (Nat.le_refl _) rfl;rw [hfull] at hf;have hmm:=mapM_some hl;have hlen:=l4.length;have hus:us = (us.map fun u=>match u with | .int _ k=>k | _=>0).map (Value.int .u8):=by
  apply List.ext_getElem
  · simp
  · intro i h1 h2;simp only [List.getElem_map];have h3:=hmm.2 i (by omega) (by omega);have h4:=l4.get i (by omega) h1;split at h3
    · rename_i q k heq;rw [heq] at h4;have:=cB h4;rw [this]
    · cases h3
 have hl':l = us.map fun u=>UInt8.ofNat (match u with | .int _ k=>k | _=>0:Int).toNat:=by
  apply List.ext_getElem
  · simp; omega
  · intro i h1 h2;simp only [List.getElem_map];have h3:=hmm.2 i (by omega) h1;have h4:=l4.get i (by omega) (by omega);split at h3
    · rename_i q k heq;rw [heq] at h4;have:=cB h4;rw [this];exact (Option.some.inj h3).symm
    · cases h3
 rw [run_convert_bytes_string w sT dT el ad n c hs he hd];cases ad with
 | none =>
  have:us = []:=by
   have h6:(Builtin.firstCells 1 n (.slice none n c)).run P w = .ok #[] w:=run_firstCells_none _ _ _ _ _;rw [h6] at hf;simpa using hf
  subst this;simp at hl';subst hl';rfl
 | some ad =>
  have hload:(loadCells ad n).run P w = .ok ((us.map fun u=>match u with | .int _ k=>k | _=>0).map (Value.int .u8)).toArray w:=by
   rw [← hus]; simpa [Builtin.firstCells] using hf
  rw [run_bytesToString w ad n c _ hload,hl']
  congr 2
  have:∀ (vs:List Int) (r:ByteArray),vs.foldl (fun r n=>r.push (UInt8.ofNat n.toNat)) r = ⟨r.data ++ (vs.map fun n=>UInt8.ofNat n.toNat).toArray⟩:=by
   intro vs
   induction vs with
   | nil=>intro r; simp
   | cons v vs ih=>intro r; simp only [List.foldl_cons,ih]; simp [ByteArray.push]
  rw [this];rw [show (ByteArray.empty.data ++ _) = _ from Array.empty_append];simp
theorem KZ (hR:Rel B ρ h w) (hE:ER ρ w e a.tmps) {o:Oper} {r:R} {C:Calls'} (hc:rU P o = some r) (hnc:∀ f args,r ≠ .call f args) {x:V} {h':Hp} (hm:opM C r e h = some (x,h')) :
 Does P B ρ h w (execOp a.eval o) x h':=by
 replace hc:=wT hc (by rintro rfl; rw [DV] at hm; cases hm);obtain ⟨dst,op,ty,pos,after,guard⟩:=o;cases op with
 | move y =>
  simp only [bu,Option.map_eq_some_iff] at hc;obtain ⟨X',ho,rfl⟩:=hc;simp only [opM,Option.some.injEq,Prod.mk.injEq] at hm;obtain ⟨rfl,rfl⟩:=hm;exact Does.pure hR (v:=a.eval y) rfl (ay hE ho)
 | assign y =>
  simp only [bu,Option.map_eq_some_iff] at hc;obtain ⟨X',ho,rfl⟩:=hc;simp only [opM,Option.some.injEq,Prod.mk.injEq] at hm;obtain ⟨rfl,rfl⟩:=hm;exact Does.pure hR (v:=a.eval y) rfl (ay hE ho)
 | pick c y z =>
  simp only [bu] at hc;replace hc:=ae hc; obtain ⟨Xc,h1,hc⟩:=hc;replace hc:=ae hc; obtain ⟨Xa,h2,hc⟩:=hc;replace hc:=ae hc; obtain ⟨Xb,h3,hc⟩:=hc;cases hc;simp only [opM] at hm;split at hm
  · rename_i t ht;simp only [Option.some.injEq,Prod.mk.injEq] at hm;obtain ⟨rfl,rfl⟩:=hm;have hv:=ay hE h1;rw [ht] at hv;have ec:=pg hv;cases t
    · exact Does.pure hR (v:=a.eval z) (by simp [execOp,ec,asBool]) (by simpa using ay hE h3)
    · exact Does.pure hR (v:=a.eval y) (by simp [execOp,ec,asBool]) (by simpa using ay hE h2)
  · cases hm
 | alloc t =>
  simp only [bu] at hc;replace hc:=ae hc; obtain ⟨zl,hz,hc⟩:=hc;cases hc;simp only [opM,Option.some.injEq,Prod.mk.injEq] at hm;obtain ⟨rfl,rfl⟩:=hm;obtain ⟨i,z,hi,hzz,hl,hv,h1⟩:=dS (ρ:=ρ) (S:=St ρ w) (w:=w) hz;exact Does.fresh hR (arr:=z.cells) (t:=t) (by simp [execOp,Instr.alloc,zeroValue,typeInfo,hi,hzz,newVar,newRow,newObj,Sem.run]) hv h1
 | box t y =>
  simp only [bu] at hc;replace hc:=ae hc; obtain ⟨X',ho,hc⟩:=hc;cases hc;simp only [opM] at hm;split at hm
  · rename_i cs hcs;simp only [Option.some.injEq,Prod.mk.injEq] at hm;obtain ⟨rfl,rfl⟩:=hm;obtain ⟨k1,k2⟩:=kS (ay hE ho) hcs;exact Does.fresh hR (arr:=(a.eval y).cells) (t:=t) (by simp [execOp,Instr.box,newVar,newRow,newObj,Sem.run]) k1 k2
  · cases hm
 | build t ps =>
  simp only [bu] at hc;replace hc:=ae hc; obtain ⟨zero,hz,hc⟩:=hc;split at hc
  · rename_i fs hu;replace hc:=ae hc; obtain ⟨places,hpl,hc⟩:=hc;replace hc:=ae hc; obtain ⟨pl,hp,hc⟩:=hc;cases hc;simp only [opM] at hm;split at hm
    · rename_i cs hcs;simp only [Option.some.injEq,Prod.mk.injEq] at hm;obtain ⟨rfl,rfl⟩:=hm;refine rJ hR hE hz hp hcs fun i z cells hi hzz hf=>?_;simp only [Program.built,hi,hu,hzz,hpl];exact hf
    · cases hm
  · rename_i n el hu;replace hc:=ae hc; obtain ⟨z,hs,hc⟩:=hc;replace hc:=ae hc; obtain ⟨pl,hp,hc⟩:=hc;cases hc;simp only [opM] at hm;split at hm
    · rename_i cs hcs;simp only [Option.some.injEq,Prod.mk.injEq] at hm;obtain ⟨rfl,rfl⟩:=hm;obtain ⟨ie,hie,hiz⟩:=iP hs;refine rJ hR hE hz hp hcs fun i z' cells hi hzz hf=>?_;simp only [Program.built,hi,hu,hzz,hie,hiz];exact hf
    · cases hm
  · cases hc
 | buildSlice t n ps =>
  simp only [bu] at hc;replace hc:=ae hc; obtain ⟨el,he,hc⟩:=hc;replace hc:=ae hc; obtain ⟨z,hs,hc⟩:=hc;replace hc:=ae hc; obtain ⟨zero,hz,hc⟩:=hc;split at hc
  · rename_i hsm;replace hc:=ae hc; obtain ⟨pl,hp,hc⟩:=hc;cases hc;have hu:P.underlying t = some (.slice el):=by
     unfold jU at he;split at he
     · cases he; assumption
     · cases he
    simp only [opM] at hm;split at hm
    · rename_i cs hcs;simp only [Option.some.injEq,Prod.mk.injEq] at hm;obtain ⟨rfl,rfl⟩:=hm;exact wO hR hE hu hs hz hsm.1 hsm.2 hp hcs
    · cases hm
  · cases hc
 | load t ad =>
  simp only [bu] at hc;replace hc:=ae hc; obtain ⟨n,hs,hc⟩:=hc;split at hc
  · cases hc
  · rename_i hn;replace hc:=ae hc; obtain ⟨ag,ha,hc⟩:=hc;replace hc:=ae hc; obtain ⟨X',ho,hc⟩:=hc;cases hc;simp only [opM] at hm;split at hm
    · rename_i cs hcs;simp only [Option.map_eq_some_iff] at hm;obtain ⟨v,hv,hm⟩:=hm;cases hm;exact Dz hR hE ha hs hn ho hcs hv
    · cases hm
 | store t ad y =>
  simp only [bu] at hc;replace hc:=ae hc; obtain ⟨n,hs,hc⟩:=hc;replace hc:=ae hc; obtain ⟨X1,h1,hc⟩:=hc;replace hc:=ae hc; obtain ⟨X2,h2,hc⟩:=hc;cases hc;simp only [opM] at hm;split at hm
  · rename_i xs hxs;split at hm
    · rename_i hn;simp only [Option.map_eq_some_iff] at hm;obtain ⟨h2',hv,hm⟩:=hm;cases hm;exact AZ hR hE hs hn.2 h1 h2 hxs hn.1 hv
    · cases hm
  · cases hm
 | nilCheck y =>
  simp only [bu] at hc;replace hc:=ae hc; obtain ⟨X',ho,hc⟩:=hc;cases hc;have hv:=ay hE ho;simp only [opM] at hm;split at hm
  · rename_i b o heq;cases hm;rw [heq] at hv;have hv':=hv;simp only [VR] at hv;obtain ⟨hb,ea⟩:=hv;exact Does.pure hR (v:=a.eval y) (by simp [execOp,ea]) hv'
  · rename_i cs o heq;cases hm;rw [heq] at hv;have hv':=hv;simp only [VR] at hv;obtain ⟨b,base,ea,_⟩:=hv;exact Does.pure hR (v:=a.eval y) (by simp [execOp,ea]) hv'
  · rename_i f cs heq;cases hm;rw [heq] at hv;have hv':=hv;simp only [VR] at hv;obtain ⟨vs,ea,_⟩:=hv;exact Does.pure hR (v:=a.eval y) (by simp [execOp,ea]) hv'
  · rename_i f cs heq;cases hm;rw [heq] at hv;have hv':=hv;simp only [VR] at hv;obtain ⟨vs,ea,_⟩:=hv;exact Does.pure hR (v:=a.eval y) (by simp [execOp,ea]) hv'
  · cases hm
 | binOp op t y z ty' =>
  simp only [bu] at hc;have he:∀ neg k X1 X2,rX P t = some k -> bg y = some X1 -> bg z = some X2 -> opM C (.eq k neg X1 X2) e h = some (x,h') -> op = (if neg then .neq else .eql) -> Does P B ρ h w (execOp a.eval ⟨dst,.binOp op t y z ty',ty,pos,after,guard⟩) x h':=by
   intro neg k X1 X2 hk h1 h2 hm hop;simp only [opM] at hm;split at hm
   · rename_i b hb;simp only [Option.some.injEq,Prod.mk.injEq] at hm;obtain ⟨rfl,rfl⟩:=hm;have:=Q0 hk (ay hE h1) (ay hE h2) hb y z neg;rw [← hop] at this;exact bG hR this (by simp only [VR,DR])
   · cases hm
  have hb:op ≠ .eql -> op ≠ .neq -> ∀ X1 X2,bg y = some X1 -> bg z = some X2 -> opM C (.bin op X1 X2) e h = some (x,h') -> Does P B ρ h w (execOp a.eval ⟨dst,.binOp op t y z ty',ty,pos,after,guard⟩) x h':=by
   intro n1 n2 X1 X2 h1 h2 hm;simp only [opM,one,Option.map_eq_some_iff] at hm;obtain ⟨d,hd,hm⟩:=hm;cases hm;obtain ⟨r,hr,hdr⟩:=J9 (P:=P) (t:=t) (x:=y) (y:=z) n1 n2 (ay hE h1) (ay hE h2) hd;exact bG hR hr (by simp only [VR]; exact hdr)
  by_cases h1:op = .eql
  · subst h1;simp only at hc;replace hc:=ae hc; obtain ⟨k,hk,hc⟩:=hc;replace hc:=ae hc; obtain ⟨X1,q1,hc⟩:=hc;replace hc:=ae hc; obtain ⟨X2,q2,hc⟩:=hc;cases hc;exact he false k X1 X2 hk q1 q2 hm rfl
  · by_cases h2:op = .neq
    · subst h2;simp only at hc;replace hc:=ae hc; obtain ⟨k,hk,hc⟩:=hc;replace hc:=ae hc; obtain ⟨X1,q1,hc⟩:=hc;replace hc:=ae hc; obtain ⟨X2,q2,hc⟩:=hc;cases hc;exact he true k X1 X2 hk q1 q2 hm rfl
    · have hc':(do let x ← bg y; let z ← bg z; pure (R.bin op x z)) = some r:=by
       cases op <;> first | exact absurd rfl h1 | exact absurd rfl h2 | exact hc
      obtain ⟨X1,q1,hc'⟩:=ae hc';obtain ⟨X2,q2,hc'⟩:=ae hc';cases hc';exact hb h1 h2 X1 X2 q1 q2 hm
 | unOp op t y =>
  simp only [bu] at hc;replace hc:=ae hc; obtain ⟨X',ho,hc⟩:=hc;cases hc;simp only [opM,one,Option.map_eq_some_iff] at hm;obtain ⟨d,hd,hm⟩:=hm;cases hm;obtain ⟨r,hr,hdr⟩:=VY (P:=P) (ay hE ho) hd;exact bG hR hr (by simp only [VR]; exact hdr)
 | convert sT dT y =>
  simp only [bu] at hc;split at hc
  · rename_i k1 k2 hs hd;replace hc:=ae hc; obtain ⟨X',ho,hc⟩:=hc;cases hc;have hv:=ay hE ho;simp only [opM] at hm;split at hm
    · rename_i q n heq;cases hm;rw [heq] at hv;have ea:=cB hv;exact bG hR (v:=.int k2 (k2.wrap n)) (by rw [ea]; simp [convert,run_underlying hs,run_underlying hd,Conv.intToInt]) (by simp only [VR,DR])
    · cases hm
  · rename_i hs hd;replace hc:=ae hc; obtain ⟨X',ho,hc⟩:=hc;cases hc;have hv:=ay hE ho;simp only [opM] at hm;split at hm
    · rename_i s heq;cases hm;rw [heq] at hv;have ea:=jL hv;exact bG hR (v:=.string s) (by rw [ea]; simp [convert,run_underlying hs,run_underlying hd]) (by simp only [VR,DR])
    · cases hm
  · rename_i el hs hd;split at hc
    · rename_i he;replace hc:=ae hc; obtain ⟨X',ho,hc⟩:=hc;cases hc;have hv:=ay hE ho;simp only [opM] at hm;split at hm
      · rename_i s heq;split at hm
        · rename_i hsz;cases hm;rw [heq] at hv;have ea:=jL hv;simp only [execOp,ea];exact wV hR hs hd he hsz
        · cases hm
      · cases hm
    · cases hc
  · rename_i el hs hd;split at hc
    · rename_i he;replace hc:=ae hc; obtain ⟨X',ho,hc⟩:=hc;cases hc;have hv:=ay hE ho;simp only [opM] at hm;split at hm
      · cases hm
      · rename_i xv hns;split at hm
        · rename_i m cs hrow;split at hm
          · rename_i l hl;cases hm;exact bG hR (zB (P:=P) hR hs he hd hv hrow (fun s hs'=>hns s hs') hl) (by simp only [VR,DR])
          · cases hm
        · cases hm
    · cases hc
  · cases hc
 | makeFunc fn first caps =>
  simp only [bu] at hc;split at hc
  · rename_i f;split at hc
    case isFalse =>
     split at hc
     case isFalse=>cases hc
     rename_i hemp;have hcaps:caps = #[]:=by
      have:caps.toList = []:=by simpa using hemp
      exact Array.ext' (by simpa using this)
     subst hcaps;replace hc:=ae hc; obtain ⟨xs,hx,hc⟩:=hc;cases hc;cases hm;refine Does.pure hR (v:=.func (.func f) (first.map a.eval) #[]) (by simp [execOp,Instr.makeFunc]) ?_;simp only [VR];exact ⟨_,rfl,by simpa using oD hE hx⟩
    rename_i hemp;have hfirst:first = #[]:=by
     have:first.toList = []:=by simpa using hemp
     exact Array.ext' (by simpa using this)
    subst hfirst;replace hc:=ae hc; obtain ⟨xs,hx,hc⟩:=hc;cases hc;cases hm;refine Does.pure hR (v:=.func (.func f) #[] (caps.map a.eval)) (by simp [execOp,Instr.makeFunc]) ?_;simp only [VR];exact ⟨_,rfl,by simpa using oD hE hx⟩
  · cases hc
 | makeSlice t l c =>
  simp only [bu] at hc;replace hc:=ae hc; obtain ⟨el,he,hc⟩:=hc;replace hc:=ae hc; obtain ⟨z,hs,hc⟩:=hc;replace hc:=ae hc; obtain ⟨by',hby,hc⟩:=hc;replace hc:=ae hc; obtain ⟨zero,hz,hc⟩:=hc;replace hc:=ae hc; obtain ⟨X1,h1,hc⟩:=hc;replace hc:=ae hc; obtain ⟨X2,h2,hc⟩:=hc;cases hc;have hu:P.underlying t = some (.slice el):=by
   unfold jU at he;split at he
   · cases he; assumption
   · cases he
  have v1:=ay hE h1;have v2:=ay hE h2;simp only [opM] at hm;split at hm
  · rename_i n1 n2 e1 e2;split at hm
    · rename_i hh;obtain ⟨g1,g2,g3,g4⟩:=hh;cases hm;rw [e1] at v1;rw [e2] at v2;have ea:=cB v1;have eb:=cB v2;obtain ⟨i,zv,hi,hzz,hl,hv,ho⟩:=dS (ρ:=ρ) (S:=St ρ w) (w:=w) hz;obtain ⟨i',hi',hiz⟩:=iP hs;obtain rfl:i' = i:=Option.some.inj (hi'.symm.trans hi);have hbi:i'.bytes = by':=by simpa [FB,hi] using hby
      have hzs:zv.cells.size = z:=by have:=hv.length; simp at this; omega
      have hbytes:(i'.bytes:Int) * n2 <= 281474976710656:=by
       have:(i'.bytes:Int) <= 4096:=by omega
       have h5:(i'.bytes:Int) * n2 <= 4096 * n2:=Int.mul_le_mul_of_nonneg_right this (by omega);omega
      have hrun:=run_make (P:=P) w t el i' zv hu hi hzz .i64 .i64 n1 n2 g1 g2 hbytes (by omega);have hfl:=nQ hv ho n2.toNat;have hmc:madeCells zv.cells (n2.toNat * i'.size) = (Array.range (n2.toNat * zv.cells.size)).map (zv.cells[· % zv.cells.size]!):=by rw [hiz,hzs]; simp [madeCells,hzs]
      rw [hmc] at hrun;simp only [execOp,ea,eb];have hlen:=hfl.1.length;simp only [Array.length_toList] at hlen;exact Does.freshRow hR (w0:=w) (t:=el) (fz:=(0,0)) (c:=n2.toNat) rfl (Below.refl _ _) (iZ hrun) (fun j _=>by simp) (by omega) (by rw [List.take_of_length_le (by simp only [Array.length_toList]; omega)]; exact hfl.1) (by rw [List.take_of_length_le (by simp only [Array.length_toList]; omega)]; exact hfl.2) (by omega) (by unfold maxLen; omega) (fun k hk=>by cases hk; rfl) (by simp [hzs]) (fun hh=>by cases hh)
    · cases hm
  · cases hm
 | slice t y lo hi mx =>
  simp only [bu] at hc;replace hc:=ae hc; obtain ⟨lo',hlo,hc⟩:=hc;replace hc:=ae hc; obtain ⟨hi',hhi,hc⟩:=hc;replace hc:=ae hc; obtain ⟨mx',hmx,hc⟩:=hc;split at hc
  · rename_i hu;replace hc:=ae hc; obtain ⟨X',ho,hc⟩:=hc;cases hc;have hv:=ay hE ho;simp only [opM,Option.map_eq_some_iff] at hm;obtain ⟨v,hs,hm⟩:=hm;cases hm;cases hX:X'.ev e with
    | d q =>
     rw [hX] at hs hv;cases q with
     | str s =>
      have ea:=jL hv;simp only [cz] at hs;split at hs
      · rename_i l k hbl hbk;have hmn:mx = none:=by cases mx with | none=>rfl | some o=>cases ho:bg o <;> simp [ho] at hmx
        subst hmn;split at hs
        · rename_i hh;cases hs;have hb:=kD (P:=P) hE false hlo hhi hbl hbk hh.1 hh.2;refine bG hR (v:=.string (s.extract l k)) ?_ (by simp only [VR,DR]);rw [ea];simp [Instr.sliceAt,Instr.slice,run_underlying hu,hb]
        · cases hs
      · cases hs
     | _=>simp [cz] at hs
    | _=>rw [hX] at hs; simp [cz] at hs
  · rename_i el hu;replace hc:=ae hc; obtain ⟨z,hz,hc⟩:=hc;replace hc:=ae hc; obtain ⟨X',ho,hc⟩:=hc;cases hc;simp only [opM,Option.map_eq_some_iff] at hm;obtain ⟨v,hs,hm⟩:=hm;cases hm;obtain ⟨u,h1,h2⟩:=yN (P:=P) hR hE hu hz hlo hhi hmx (ay hE ho) hs;exact bG hR h1 h2
  · rename_i n el hu;replace hc:=ae hc; obtain ⟨z,hz,hc⟩:=hc;replace hc:=ae hc; obtain ⟨X',ho,hc⟩:=hc;cases hc;have hv:=ay hE ho;simp only [opM,Option.map_eq_some_iff] at hm;obtain ⟨v,hs,hm⟩:=hm;cases hm;cases hX:X'.ev e with
    | ptr b o =>
     rw [hX] at hs hv;simp only [cz] at hs;split at hs
     · rename_i l k hbl hbk;have hmn:mx = none:=by cases mx with | none=>rfl | some o=>cases ho:bg o <;> simp [ho] at hmx
       subst hmn;split at hs
       · rename_i hh;obtain ⟨g1,g2,g3,g4⟩:=hh;split at hs
         · rename_i cs hg;split at hs
           · rename_i hcs;cases hs;simp only [VR] at hv;obtain ⟨hb,ea⟩:=hv;have hbd:=kD (P:=P) hE false hlo hhi hbl hbk g1 (by omega:k <= n);have hne:cs ≠ []:=by rintro rfl; simp only [List.length_nil] at hcs; omega
             obtain ⟨arr,e0,fz,q1,q2,q3,q4⟩:=eQ hR hg hne;refine bG hR (v:=.slice (some (if n = l then ⟨ρ b,o,none⟩ else ⟨ρ b,o + l * z,none⟩)) (k - l) (n - l)) ?_ ?_
             · rw [ea];simp only [Instr.sliceAt,Instr.sureAddr,Sem.run_bind,run_underlying hu,Result.andThen_ok,Option.map_none,hbd,run_sizeOf hz,add_plain',Sem.run_pure]
             · simp only [VR];refine ⟨hb,n - l,by rw [if_neg (by omega)],by omega,by unfold maxLen; omega,fun q hq=>by cases hq; rfl,arr,e0,fz,q1,?_⟩;have h7:l * z <= n * z:=Nat.mul_le_mul_right _ (by omega);rw [Nat.sub_mul]; exact ⟨by omega,fun hh=>by cases hh⟩
           · cases hs
         · cases hs
       · cases hs
     · cases hs
    | _=>rw [hX] at hs; simp [cz] at hs
  · cases hc
 | fieldAddr t y f =>
  simp only [bu] at hc;split at hc
  · rename_i fs hu;replace hc:=ae hc; obtain ⟨fd,hf,hc⟩:=hc;replace hc:=ae hc; obtain ⟨n,hs,hc⟩:=hc;split at hc
    · cases hc
    · rename_i hn;replace hc:=ae hc; obtain ⟨X',ho,hc⟩:=hc;cases hc;have hv:=ay hE ho;have hrun:∀ b o,a.eval y = .pointer (some ⟨b,o,none⟩) -> (Instr.fieldAt t (a.eval y) f).run P w = .ok (.pointer (some ⟨b,o + fd.offset,none⟩)) w:=by
       intro b o ea;rw [ea];simp [Instr.fieldAt,run_underlying hu,hf,Instr.sureAddr,fieldPlace,run_sizeOf hs,hn,add_plain']
      simp only [opM] at hm;split at hm
      · rename_i b o heq;cases hm;rw [heq] at hv;simp only [VR] at hv;exact bG hR (hrun _ _ hv.2) (by simp only [VR]; exact ⟨hv.1,trivial⟩)
      · rename_i cs o heq;cases hm;rw [heq] at hv;simp only [VR] at hv;obtain ⟨b,base,ea,hb,hd⟩:=hv;exact bG hR (hrun _ _ ea) (by simp only [VR]; exact ⟨b,base,by rw [Nat.add_assoc],hb,hd⟩)
      · cases hm
  · cases hc
 | field t y f =>
  simp only [bu] at hc;split at hc
  · rename_i fs hu;replace hc:=ae hc; obtain ⟨fd,hf,hc⟩:=hc;replace hc:=ae hc; obtain ⟨ag,ha,hc⟩:=hc;replace hc:=ae hc; obtain ⟨X',ho,hc⟩:=hc;replace hc:=ae hc; obtain ⟨n,hs,hc⟩:=hc;cases hc;have hv:=ay hE ho;simp only [opM] at hm;split at hm
    · rename_i cs heq;rw [heq] at hv;simp only [VR] at hv;obtain ⟨vs,ea,hvs,h1⟩:=hv;split at hm
      · rename_i l hsub;simp only [Option.map_eq_some_iff] at hm;obtain ⟨v,hmk,hm⟩:=hm;cases hm;obtain ⟨q1,rfl⟩:=jb hsub;have hlen:=hvs.length;simp only [Array.length_toList] at hlen;have h1':ag = false -> n = 1:=by
         intro hag;rcases oH hmk with ⟨_,h3⟩ | ⟨h3,_⟩
         · have:=congrArg List.length h3; simp at this; omega
         · rw [hag] at h3; cases h3
        have hp:=oQ (P:=P) ha hs h1' vs fd.offset (by omega) w;refine bG hR (v:=bM ag ((vs.toList.drop fd.offset).take n)) ?_ (oI ((hvs.drop _).take _) (fun u hu=>h1 u (List.mem_of_mem_drop (List.mem_of_mem_take hu))) hmk);rw [ea];simp [Instr.field,run_underlying hu,hf,asAgg,hp]
      · cases hm
    · cases hm
  · cases hc
 | indexAddr t y i =>
  simp only [bu] at hc;split at hc
  · rename_i n el hu;replace hc:=ae hc; obtain ⟨z,hz,hc⟩:=hc;replace hc:=ae hc; obtain ⟨X1,h1,hc⟩:=hc;replace hc:=ae hc; obtain ⟨X2,h2,hc⟩:=hc;cases hc;have v1:=ay hE h1;have v2:=ay hE h2;have hrun:∀ b o k q,a.eval y = .pointer (some ⟨b,o,none⟩) -> a.eval i = .int q k -> 0 <= k -> k < n -> (Instr.indexAt t (a.eval y) (a.eval i)).run P w = .ok (.pointer (some ⟨b,o + k.toNat * z,none⟩)) w:=by
     intro b o k q ea eb g1 g2;rw [ea,eb];simp [Instr.indexAt,asIntOf,run_underlying hu,Instr.sureAddr,g1,g2,run_sizeOf hz,add_plain']
    simp only [opM] at hm;split at hm
    · rename_i e1 e2 e3; cases e2
    · rename_i e1 e2 e3; cases e2
    · rename_i k q k' n' b o e1 e2 e3;cases e2;split at hm
      · rename_i hh;cases hm;rw [e1] at v2;rw [e3] at v1;simp only [VR] at v1;exact bG hR (hrun _ _ _ _ v1.2 (cB v2) hh.1 hh.2) (by simp only [VR]; exact ⟨v1.1,trivial⟩)
      · cases hm
    · rename_i k q k' n' cs o e1 e2 e3;cases e2;split at hm
      · rename_i hh;cases hm;rw [e1] at v2;rw [e3] at v1;simp only [VR] at v1;obtain ⟨b,base,ea,hb,hd⟩:=v1;exact bG hR (hrun _ _ _ _ ea (cB v2) hh.1 hh.2) (by simp only [VR]; exact ⟨b,base,by rw [Nat.add_assoc],hb,hd⟩)
      · cases hm
    · cases hm
  · rename_i el hu;replace hc:=ae hc; obtain ⟨z,hz,hc⟩:=hc;replace hc:=ae hc; obtain ⟨X1,h1,hc⟩:=hc;replace hc:=ae hc; obtain ⟨X2,h2,hc⟩:=hc;cases hc;have v1:=ay hE h1;have v2:=ay hE h2;have hrun:∀ b o k q n c,a.eval y = .slice (some ⟨b,o,none⟩) n c -> a.eval i = .int q k -> 0 <= k -> k < n -> (Instr.indexAt t (a.eval y) (a.eval i)).run P w = .ok (.pointer (some ⟨b,o + k.toNat * z,none⟩)) w:=by
     intro b o k q n c ea eb g1 g2;rw [ea,eb];simp [Instr.indexAt,asIntOf,run_underlying hu,g1,g2,run_sizeOf hz,add_plain']
    simp only [opM] at hm;split at hm
    · rename_i q k nl es e1 e2 e3;split at hm
      · rename_i hk;split at hm
        · rename_i c hcs;split at hm
          · rename_i hcz;cases hm;rw [e1] at v2;rw [e3] at v1;simp only [VR,DR] at v1;obtain ⟨ad,cp,ea,g1,g2,g3,g4,g5⟩:=v1;obtain ⟨hlt,hce⟩:=List.getElem?_eq_some_iff.1 hcs;have hes:es ≠ []:=by rintro rfl; simp at hlt
            obtain ⟨b,o,z',rfl,hb,hd⟩:=g5 hes;obtain ⟨q1,q2⟩:=hd.get _ hlt;have hzz:z' = z:=by rw [← q1,hce,hcz]
            subst hzz;refine bG hR (hrun _ _ _ _ _ _ ea (cB v2) hk (by omega)) ?_;simp only [VR];rw [hce] at q2;exact ⟨b,_,by rw [Nat.add_zero],hb,q2⟩
          · cases hm
        · cases hm
      · cases hm
    · rename_i q k b o len cap z' e1 e2 e3;split at hm
      · rename_i hh;obtain ⟨g1,g2,rfl⟩:=hh;cases hm;rw [e1] at v2;rw [e3] at v1;simp only [VR] at v1;obtain ⟨hb,c,ea,_⟩:=v1;exact bG hR (hrun _ _ _ _ _ _ ea (cB v2) g1 g2) (by simp only [VR]; exact ⟨hb,trivial⟩)
      · cases hm
    · rename_i e1 e2 e3; cases e2
    · rename_i e1 e2 e3; cases e2
    · cases hm
  · cases hc
 | index t y i =>
  simp only [bu] at hc;split at hc
  · rename_i n el hu;replace hc:=ae hc; obtain ⟨ag,ha,hc⟩:=hc;replace hc:=ae hc; obtain ⟨z,hz,hc⟩:=hc;replace hc:=ae hc; obtain ⟨X1,h1,hc⟩:=hc;replace hc:=ae hc; obtain ⟨X2,h2,hc⟩:=hc;cases hc;have v1:=ay hE h1;have v2:=ay hE h2;simp only [opM] at hm;split at hm
    · rename_i q k cs e1 e2;split at hm
      · rename_i hk;split at hm
        · rename_i l hsub;simp only [Option.map_eq_some_iff] at hm;obtain ⟨v,hmk,hm⟩:=hm;cases hm;obtain ⟨q1,rfl⟩:=jb hsub;rw [e1] at v2;rw [e2] at v1;simp only [VR] at v1;obtain ⟨vs,ea,hvs,ho⟩:=v1;have hlen:=hvs.length;simp only [Array.length_toList] at hlen;have h1':ag = false -> z = 1:=by
           intro hag;rcases oH hmk with ⟨_,h3⟩ | ⟨h3,_⟩
           · have:=congrArg List.length h3; simp at this; omega
           · rw [hag] at h3; cases h3
          have hp:=oQ (P:=P) ha hz h1' vs (k.toNat * z) (by omega) w;refine bG hR (v:=bM ag ((vs.toList.drop (k.toNat * z)).take z)) ?_ (oI ((hvs.drop _).take _) (fun u hu=>ho u (List.mem_of_mem_drop (List.mem_of_mem_take hu))) hmk);rw [ea,cB v2];simp [Instr.index,asIntOf,run_underlying hu,hk.1,hk.2,run_sizeOf hz,hp]
        · cases hm
      · cases hm
    · cases hm
  · rename_i hu;replace hc:=ae hc; obtain ⟨X1,h1,hc⟩:=hc;replace hc:=ae hc; obtain ⟨X2,h2,hc⟩:=hc;cases hc;have v1:=ay hE h1;have v2:=ay hE h2;simp only [opM] at hm;split at hm
    · rename_i q k s e1 e2;split at hm
      · rename_i hk;split at hm
        · rename_i b hb;cases hm;rw [e1] at v2;rw [e2] at v1;have hb':s[k.toNat]? = some b:=by
           rw [ByteArray.toList_eq] at hb;obtain ⟨hlt,he⟩:=List.getElem?_eq_some_iff.1 hb;have hlt':k.toNat < s.size:=by simpa using hlt
           rw [getElem?_pos s k.toNat hlt']
           congr 1
          refine bG hR (v:=.int .u8 b.toNat) ?_ (by simp only [VR,DR]);rw [jL v1,cB v2];simp [Instr.index,asIntOf,run_underlying hu,hk,hb']
        · cases hm
      · cases hm
    · cases hm
  · cases hc
 | extract y i =>
  simp only [bu] at hc;replace hc:=ae hc; obtain ⟨X',ho,hc⟩:=hc;cases hc;have hv:=ay hE ho;simp only [opM] at hm;split at hm
  · rename_i vs heq;rw [heq] at hv;simp only [Option.map_eq_some_iff] at hm;obtain ⟨v,hi,hm⟩:=hm;cases hm;simp only [VR] at hv;obtain ⟨us,ea,hus⟩:=hv;obtain ⟨hlt,rfl⟩:=List.getElem?_eq_some_iff.1 hi;have hlen:=hus.length;simp only [Array.length_toList] at hlen;have:=hus.get i hlt (by simpa using (by omega:i < us.size));have hlt':i < us.size:=by omega
    refine bG hR (v:=us[i]) ?_ (by simpa using this);rw [ea];simp [Instr.extract,hlt']
  · cases hm
 | range t y =>
  simp only [bu] at hc;split at hc
  · rename_i hu;replace hc:=ae hc; obtain ⟨X',ho,hc⟩:=hc;cases hc;have hv:=ay hE ho;simp only [opM] at hm;split at hm
    · rename_i s heq;rw [heq] at hv;cases hm;refine Dr hR ?_;simp only [execOp,jL hv];exact iZ (by simp [Instr.range,run_underlying hu,newObj,Sem.run])
    · cases hm
  · cases hc
 | next y isS =>
  cases isS with
  | false=>simp [bu] at hc
  | true =>
   simp only [bu] at hc;replace hc:=ae hc; obtain ⟨X',ho,hc⟩:=hc;cases hc;have hv:=ay hE ho;simp only [opM] at hm;split at hm
   · rename_i b heq;rw [heq] at hv;split at hm
     · rename_i s pos hb;exact DD hR hv hb hm
     · cases hm
   · cases hm
 | call c =>
  obtain ⟨callee,args,argTypes⟩:=c;cases callee with
  | value f =>
   simp only [bu] at hc;replace hc:=ae hc; obtain ⟨F,h1,hc⟩:=hc;replace hc:=ae hc; obtain ⟨xs,h2,hc⟩:=hc;cases hc;exact absurd rfl (hnc _ _)
  | invoke r m=>simp [bu] at hc
  | builtin b =>
   simp only [bu] at hc;replace hc:=ae hc; obtain ⟨xs,hxs,hc⟩:=hc;have hev:=oD hE hxs;have hex:execOp a.eval ⟨dst,.call ⟨.builtin b,args,argTypes⟩,ty,pos,after,guard⟩ = builtin b argTypes ty (args.map fun | .const _=>true | _=>false) (args.map a.eval):=rfl;rw [hex];have hargs:(args.map a.eval) = (args.toList.map a.eval).toArray:=by apply Array.ext'; simp
   rw [hargs];generalize args.toList.map a.eval = us at hev;clear hex hargs hxs;have two:∀ {p q:X},xs = [p,q] -> ∃ u v,us = [u,v] /\ VRx h ρ w (p.ev e) u /\ VRx h ρ w (q.ev e) v:=by
    intro p q hpq;subst hpq;simp only [List.map_cons,List.map_nil,VRs] at hev;obtain ⟨u1,_,rfl,v1,u2,_,rfl,v2,rfl⟩:=hev;exact ⟨_,_,rfl,v1,v2⟩
   have onev:∀ {p:X},xs = [p] -> ∃ u,us = [u] /\ VRx h ρ w (p.ev e) u:=by
    intro p hpq;subst hpq;simp only [List.map_cons,List.map_nil,VRs] at hev;obtain ⟨u1,_,rfl,v1,rfl⟩:=hev;exact ⟨_,rfl,v1⟩
   have elem:∀ {t el},jU P t = some el -> P.underlying t = some (.slice el):=by
    intro t el he;unfold jU at he;split at he
    · cases he; assumption
    · cases he
   split at hc
   ·
     rename_i s y;obtain ⟨u1,u2,rfl,v1,v2⟩:=two rfl;replace hc:=ae hc; obtain ⟨t,ht,hc⟩:=hc;replace hc:=ae hc; obtain ⟨tx,htx,hc⟩:=hc;replace hc:=ae hc; obtain ⟨el,he,hc⟩:=hc;split at hc
     · rename_i hok;replace hc:=ae hc; obtain ⟨z,hz,hc⟩:=hc;replace hc:=ae hc; obtain ⟨by',hby,hc⟩:=hc;cases hc;simp only [opM] at hm;split at hm
       · rename_i m cs hrow;have hty:P.underlying tx = some .string \/ ∃ k,P.underlying tx = some (.slice k):=by
          have:=hok.1;unfold bm3 at this;split at this
          · exact .inr ⟨_,by assumption⟩
          · exact .inl (by assumption)
          · cases this
         have key:=uW (P:=P) (ty:=ty) hR (elem he) hty hz hby hok.2 v1 v2 hrow hm;have e1:argTypes[0]? = some t:=ht;have e2:argTypes[1]? = some tx:=htx;have:∀ us,Builtin.append_ argTypes ty us = Builtin.append_ #[t,tx] ty us:=fun us=>by
          unfold Builtin.append_;simp only [e1,e2];rfl
         simp only [builtin,this];exact key
       · cases hm
     · cases hc
   ·
     rename_i y;obtain ⟨u1,rfl,v1⟩:=onev rfl;replace hc:=ae hc; obtain ⟨t,ht,hc⟩:=hc;have e1:argTypes[0]? = some t:=ht;split at hc
     · rename_i el hu;cases hc;simp only [opM] at hm;split at hm
       · rename_i n hl;cases hm;have hlen:∃ ad c,u1 = .slice ad n c:=by
          cases hy:y.ev e with
          | d q=>rw [hy] at hl v1; cases q with
           | slice nl es=>simp only [VR,DR] at v1; obtain ⟨ad,c,rfl,_⟩:=v1; simp [V.len] at hl; subst hl; exact ⟨ad,c,rfl⟩
           | _=>simp [V.len] at hl
          | row b o len cap z=>rw [hy] at hl v1; simp only [VR] at v1; obtain ⟨_,c,rfl,_⟩:=v1; simp [V.len] at hl; subst hl; exact ⟨_,c,rfl⟩
          | _=>rw [hy] at hl; simp [V.len] at hl
         obtain ⟨ad,c,rfl⟩:=hlen;refine bG hR (v:=goInt n) ?_ (by simp only [VR,DR,goInt]);simp [Builtin.len_,e1,run_underlying hu]
       · cases hm
     · rename_i hu;cases hc;simp only [opM] at hm;split at hm
       · rename_i n hl;cases hm;have hlen:∃ s:ByteArray,u1 = .string s /\ n = s.size:=by
          cases hy:y.ev e with
          | d q=>rw [hy] at hl v1; cases q with
           | str s=>have:=jL v1; simp [V.len] at hl; exact ⟨s,this,hl.symm⟩
           | _=>simp [V.len] at hl
          | _=>rw [hy] at hl; simp [V.len] at hl
         obtain ⟨s,rfl,rfl⟩:=hlen;refine bG hR (v:=goInt s.size) ?_ (by simp only [VR,DR,goInt]);simp [Builtin.len_,e1,run_underlying hu]
       · cases hm
     · rename_i n el hu;cases hc;cases hm;refine bG hR (v:=goInt n) ?_ (by simp only [X.ev,VR,DR,goInt]);simp [Builtin.len_,e1,run_underlying hu]
     · cases hc
   ·
     rename_i p q;obtain ⟨u1,u2,rfl,v1,v2⟩:=two rfl;replace hc:=ae hc; obtain ⟨t,ht,hc⟩:=hc;replace hc:=ae hc; obtain ⟨el,he,hc⟩:=hc;replace hc:=ae hc; obtain ⟨z,hz,hc⟩:=hc;cases hc;have e1:argTypes[0]? = some t:=ht;have hu:=elem he;simp only [opM] at hm;split at hm
     · rename_i m cs b o len cap z' hrow hp;split at hm
       · rename_i hzz;subst hzz;obtain ⟨ws,l1,l2,l3,l4,l5⟩:=gm (P:=P) hR v2 hrow;rw [hp] at v1;have v1':=v1;simp only [VR] at v1;obtain ⟨hb,c,rfl,g1,g2,g3,g4⟩:=v1;have hf:=l3 (min m len) w (Nat.min_le_left _ _) rfl;have hrest:∀ w',(storeCells ⟨ρ b,o,none⟩ (ws.take (min m len * z'))).run P w = .ok () w' -> (Builtin.copy_ argTypes ty [Value.slice (some ⟨ρ b,o,none⟩) len c,u2].toArray).run P w = .ok (goInt (min m len:Nat)) w':=by
          intro w' hs';simp only [Builtin.copy_,e1,List.getElem?_toArray,List.getElem?_cons_zero,List.getElem?_cons_succ,Sem.run_bind,run_underlying hu,Result.andThen_ok,l2,run_sizeOf hz];rw [show Nat.min m len = min m len from rfl];simp [hf,hs']
         cases hg:h.get b with
         | none=>simp [hg] at hm
         | some cs0 =>
          simp only [hg] at hm;split at hm
          · rename_i h0;cases hm;refine bG hR (v:=goInt (min m len:Nat)) (hrest w ?_) (by simp only [VR,DR,goInt]);rw [h0]; simp [storeCells]
          · rename_i h0;cases hput:put cs0 o (cs.take (min m len * z')) with
            | none=>simp [hput] at hm
            | some cs' =>
             simp only [hput,Option.some.injEq,Prod.mk.injEq] at hm;obtain ⟨rfl,rfl⟩:=hm;have hcl:=l4.length;have hle:min m len * z' <= m * z':=Nat.mul_le_mul_right _ (Nat.min_le_left _ _);have hne:cs.take (min m len * z') ≠ []:=by
              intro h9;have h10:=congrArg List.length h9;rw [List.length_take,List.length_nil] at h10;omega
             obtain ⟨q1,q2,q3⟩:=eD (P:=P) hR hg hput hne (l4.take _) (fun u hu=>l5 u (List.mem_of_mem_take hu));have hs1:(h.set b cs').size = h.size:=by simp [Hp.set,Hp.size]
             exact ⟨_,ρ,_,.inl (iZ (hrest _ q1)),q2,q3,by simp only [VR,DR,goInt]⟩
       · cases hm
     · cases hm
   ·
     rename_i p;obtain ⟨u1,rfl,v1⟩:=onev rfl;replace hc:=ae hc; obtain ⟨t,ht,hc⟩:=hc;replace hc:=ae hc; obtain ⟨el,he,hc⟩:=hc;replace hc:=ae hc; obtain ⟨z,hz,hc⟩:=hc;replace hc:=ae hc; obtain ⟨zero,hzz,hc⟩:=hc;cases hc;have e1:argTypes[0]? = some t:=ht;have hu:=elem he;obtain ⟨i,zv,hi,hzv,hl,hv,h1⟩:=dS (ρ:=ρ) (S:=St ρ w) (w:=w) hzz;obtain ⟨i',hi',hiz⟩:=iP hz;obtain rfl:i' = i:=Option.some.inj (hi'.symm.trans hi);have hzs:zv.cells.size = z:=by have:=hv.length; simp at this; omega
     simp only [opM] at hm;split at hm
     · rename_i b o len cap z' hp;split at hm
       · rename_i hze;subst hze;rw [hp] at v1;simp only [VR] at v1;obtain ⟨hb,c,rfl,g1,g2,g3,g4⟩:=v1;cases hg:h.get b with
         | none=>simp [hg] at hm
         | some cs0 =>
          simp only [hg] at hm;have hfl:=nQ hv h1 len;rw [hzs] at hfl;have hzc:(Builtin.zeroCells zv.cells len).toList = ((Array.range (len * z')).map (zv.cells[· % z']!)).toList:=by simp [Builtin.zeroCells,hzs]
          have hrest:∀ w',(storeCells ⟨ρ b,o,none⟩ ((Array.range (len * z')).map (zv.cells[· % z']!)).toList).run P w = .ok () w' -> (Builtin.clear_ argTypes ty [Value.slice (some ⟨ρ b,o,none⟩) len c].toArray).run P w = .ok (.tuple #[]) w':=by
           intro w' hs';rw [← hzc] at hs';by_cases hl0:len = 0
           · subst hl0;simp [Builtin.zeroCells,storeCells] at hs';subst hs';simp [Builtin.clear_,e1,run_underlying hu]
           · simp [Builtin.clear_,e1,run_underlying hu,hl0,zeroValue,typeInfo,hi,hzv,hs']
          split at hm
          · rename_i h0;cases hm;refine bG hR (v:=.tuple #[]) (hrest w ?_) (by simp only [VR]);rw [h0]; simp [storeCells]
          · rename_i h0;cases hput:put cs0 o (List.replicate len zero).flatten with
            | none=>simp [hput] at hm
            | some cs' =>
             simp only [hput,Option.some.injEq,Prod.mk.injEq] at hm;obtain ⟨rfl,rfl⟩:=hm;have hne:(List.replicate len zero).flatten ≠ []:=by
              intro h9;have h10:=hfl.1.length;rw [h9] at h10;simp at h10;omega
             obtain ⟨q1,q2,q3⟩:=eD (P:=P) hR hg hput hne hfl.1 hfl.2;have hs1:(h.set b cs').size = h.size:=by simp [Hp.set,Hp.size]
             exact ⟨_,ρ,_,.inl (iZ (hrest _ q1)),q2,q3,by simp only [VR]⟩
       · cases hm
     · rename_i nl hp;cases hm;rw [hp] at v1;simp only [VR,DR] at v1;obtain ⟨ad,c,rfl,_⟩:=v1;refine bG hR (v:=.tuple #[]) ?_ (by simp only [VR]);cases ad <;> simp [Builtin.clear_,e1,run_underlying hu]
     · cases hm
   · cases hc;simp only [opM] at hm;split at hm
     · cases hm
     · rename_i p ps;split at hm
       · rename_i v hv;cases hm;simp only [List.map_cons,VRs] at hev;obtain ⟨u1,us',rfl,v1,v2⟩:=hev;obtain ⟨u,q1,q2⟩:=mZ (P:=P) false v1 v2 hv;refine bG hR (v:=u) ?_ q2;simpa [Builtin.min_] using q1
       · cases hm
   · cases hc;simp only [opM] at hm;split at hm
     · cases hm
     · rename_i p ps;split at hm
       · rename_i v hv;cases hm;simp only [List.map_cons,VRs] at hev;obtain ⟨u1,us',rfl,v1,v2⟩:=hev;obtain ⟨u,q1,q2⟩:=mZ (P:=P) true v1 v2 hv;refine bG hR (v:=u) ?_ q2;simpa [Builtin.max_] using q1
       · cases hm
   · cases hc
 | _=>simp [bu] at hc
end
end Go.Proofs.YtjkfknafpgfchaaGreat
