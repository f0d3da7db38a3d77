/- append. -/
import Derived.Test.YtjkfknafpgfchaaGreatPw
set_option linter.unusedVariables false
set_option linter.unusedSimpArgs false
namespace Go.Proofs.YtjkfknafpgfchaaGreat
open Go.RowKit
section
variable {P:Program} {B:Nat} {ρ:Rh} {h:Hp} {w:World}
theorem iM {t tx ty e:TypeId} {z m sLen sCap:Nat} {x:Value} {base:Option Addr} {new:Array Value} {w':World} (ht:P.underlying t = some (.slice e)) (htx:P.underlying tx = some .string \/ ∃ k,P.underlying tx = some (.slice k)) (hz:gQ P e = some z)
 (hl:∀ w0,(Builtin.lenOf x).run P w0 = .ok m w0) (hf:(Builtin.firstCells z m x).run P w = .ok new w) (hroom:sLen + m <= sCap)
 (hst:∀ a,base = some a -> (storeCells (a.add (sLen * z)) new.toList).run P w = .ok () w') (hn:base = none -> w' = w) :
 (Builtin.append_ #[t,tx] ty #[.slice base sLen sCap,x]).run P w = .ok (.slice base (sLen + m) sCap) w':=by
 cases base with
 | none =>
  have:=hn rfl;subst this;rcases htx with hk | ⟨k,hk⟩ <;> simp [Builtin.append_,run_underlying ht,run_underlying hk,run_sizeOf hz,hl,hroom,hf]
 | some a =>
  have:=hst a rfl;rcases htx with hk | ⟨k,hk⟩ <;> simp [Builtin.append_,run_underlying ht,run_underlying hk,run_sizeOf hz,hl,hroom,hf,this]
theorem vT {t tx ty e:TypeId} {i:TypeInfo} {zv:Value} {m sLen sCap:Nat} {x s:Value} {base:Option Addr} {new old:Array Value} (hs:s = .slice base sLen sCap) (ht:P.underlying t = some (.slice e)) (htx:P.underlying tx = some .string \/ ∃ k,P.underlying tx = some (.slice k)) (hi:P.info? e = some i) (hz:i.zero = some zv)
 (hl:∀ w0,(Builtin.lenOf x).run P w0 = .ok m w0) (hf:(Builtin.firstCells i.size m x).run P w.drew = .ok new w.drew) (hfo:(Builtin.firstCells i.size sLen s).run P w.drew = .ok old w.drew) (hg:sCap < sLen + m)
 (hr:roomy (sLen + m) i.bytes = true) :
 (Builtin.append_ #[t,tx] ty #[s,x]).run P w = .ok (.slice (some ⟨w.heap.size,0,none⟩) (sLen + m) (grownCap w (sLen + m) sCap e))
  (w.drew.alloc (.cells (old ++ new ++ Builtin.zeroCells zv.cells (grownCap w (sLen + m) sCap e - (sLen + m))) e)):=by
 subst hs;simp only [roomy,Bool.and_eq_true,decide_eq_true_eq] at hr;have hn:¬ (sLen + m <= sCap):=by omega
 have h63':¬ (9223372036854775807 < ((sLen:Int) + (m:Int))):=by omega
 have hmul:(sLen + m) * i.bytes <= 2 ^ 30 * 2 ^ 12:=Nat.mul_le_mul hr.1 hr.2;have hfit:=growslice_fits (bytes:=i.bytes) hg (by omega);have h48':¬ (281474976710656 < Builtin.nextslicecap (sLen + m) sCap * i.bytes):=by omega
 rcases htx with hk | ⟨k,hk⟩ <;> simp [Builtin.append_,run_underlying ht,run_underlying hk,sizeOf,typeInfo,zeroValue,hi,hz,hl,hn,h63',h48',Question.forced,hf,hfo,newRow,grownCap]
theorem iZ {s:Sem Value} {v:Value} {w w':World} (hs:s.run P w = .ok v w'):(do let v ← s; pure (Next.value v):Sem Next).run P w = .ok (.value v) w':=by
 rw [Sem.run_bind,hs]; rfl
theorem uW (hR:Rel B ρ h w) {s x:Value} {sv xv r:V} {t tx ty e:TypeId} {z bytes m:Nat} {xs:List V} {h':Hp} (ht:P.underlying t = some (.slice e)) (htx:P.underlying tx = some .string \/ ∃ k,P.underlying tx = some (.slice k))
 (hz:gQ P e = some z) (hby:FB P e = some bytes) (hzero:(gy P e).isSome = true) (hs:VR ρ (St ρ w) w sv s) (hx:VR ρ (St ρ w) w xv x) (hxs:aF h xv z = some (m,xs)) (ha:aC h z bytes sv m xs = some (r,h')) :
 Does P B ρ h w (do let v ← Builtin.append_ #[t,tx] ty #[s,x]; pure (.value v)) r h':=by
 obtain ⟨us,l1,l2,l3,l4,l5⟩:=gm (P:=P) hR hx hxs;obtain ⟨i,hi,hiz⟩:=iP hz;obtain ⟨lz,hlz⟩:=Option.isSome_iff_exists.1 hzero;obtain ⟨i',zv,hi',hzv,hzl,hzr,hz1⟩:=dS (ρ:=ρ) (S:=St ρ w) (w:=w) hlz;obtain rfl:i' = i:=Option.some.inj (hi'.symm.trans hi);have hbi:i'.bytes = bytes:=by simpa [FB,hi] using hby
 have hzs:zv.cells.size = z:=by have:=hzr.length; simp at this; omega
 have hfull:us.take (m * z) = us:=List.take_of_length_le (by omega);have hf0:∀ w0,w0.heap = w.heap -> (Builtin.firstCells z m x).run P w0 = .ok us.toArray w0:=fun w0 h0=>by have:=l3 m w0 (Nat.le_refl _) h0; rwa [hfull] at this
 have nothing:m = 0 -> ∀ base sLen sCap,s = .slice base sLen sCap -> sLen <= sCap -> (∀ a,base = some a -> True) -> (Builtin.append_ #[t,tx] ty #[s,x]).run P w = .ok s w:=by
  intro hm base sLen sCap e1 hle _;subst hm;have hus:us = []:=List.eq_nil_of_length_eq_zero (by simpa using l1);subst hus;rw [e1];exact iM ht htx hz l2 (hf0 w rfl) (by simpa using hle) (fun a _=>by simp [storeCells]) (fun _=>rfl)
 have grows:∀ (base:Option Addr) (sLen sCap:Nat) (olds:List Value) (oc:List V) (hA:Hp),s = .slice base sLen sCap -> sCap < sLen + m -> (∀ w0,w0.heap = w.heap -> (Builtin.firstCells z sLen s).run P w0 = .ok olds.toArray w0) -> olds.length = sLen * z →
  VRs ρ (St ρ w) w oc olds -> (∀ u ∈ olds,u.oneCell' = true) -> roomy (sLen + m) bytes = true -> Rel B ρ hA w -> hA.size = h.size →
  Does P B ρ hA w (do let v ← Builtin.append_ #[t,tx] ty #[s,x]; pure (.value v)) (.row hA.size 0 (sLen + m) none z) (hA.alloc (oc ++ xs)):=by
  intro base sLen sCap olds oc hA e1 hg ho hol hoc ho1 hro hRA hsA;have hle:sLen + m <= maxLen:=by
   simp only [roomy,Bool.and_eq_true,decide_eq_true_eq] at hro;unfold maxLen; omega
  have hge:=grownCap_ge w (sLen + m) sCap e;have hcl:=hoc.length;have hxl:=l4.length;have hrun:=vT (P:=P) (w:=w) (ty:=ty) e1 ht htx hi hzv l2 (by rw [hiz]; exact hf0 w.drew rfl) (by rw [hiz]; exact ho w.drew rfl) hg (by rw [hbi]; exact hro);have hsplit:(olds.toArray ++ us.toArray ++ Builtin.zeroCells zv.cells (grownCap w (sLen + m) sCap e - (sLen + m))).toList.take (oc ++ xs).length = olds ++ us:=by
   simp only [Array.toList_append,List.length_append,List.append_assoc];rw [← List.append_assoc,List.take_append_of_le_length (by simp; omega)];rw [List.take_of_length_le (by simp; omega)]
  refine Does.freshRow hRA (w0:=w.drew) (t:=e) (fz:=(0,0)) (c:=grownCap w (sLen + m) sCap e) rfl (Below.drew (Below.refl _ _)) (iZ hrun) (fun j _=>by simp) ?_ ?_ ?_ hge (grownCap_le_maxLen _ _ _ _ hle) (fun k hk=>by cases hk) (Nat.le_of_eq ?_) (fun _=>?_)
  · simp only [Array.size_append,List.size_toArray,List.length_append]; omega
  · rw [hsplit]; exact hoc.append l4
  · rw [hsplit]; intro u hu; rcases List.mem_append.1 hu with h1 | h1
    · exact ho1 u h1
    · exact l5 u h1
  · simp only [Array.size_append,List.size_toArray,size_zeroCells,hzs,hol,l1,← Nat.add_mul]
    congr 1; omega
  · simp only [Array.size_append,List.size_toArray,size_zeroCells,hzs,hol,l1,← Nat.add_mul]
    congr 1; omega
 cases sv with
 | d y =>
  simp only [VR] at hs;cases y with
  | slice nl es =>
   simp only [DR] at hs;obtain ⟨a,c,rfl,h1,h2,h3,h4,h5⟩:=hs;have hs':VR ρ (St ρ w) w (.d (.slice nl es)) (.slice a es.length c):=by simp only [VR,DR]; exact ⟨a,c,rfl,h1,h2,h3,h4,h5⟩
   cases nl with
   | true =>
    have ha0:a = none:=h3.2 rfl;subst ha0;have hc0:c = 0:=h4 rfl;subst hc0;have he0:es = []:=List.eq_nil_of_length_eq_zero (by omega);subst he0;simp only [aC] at ha;split at ha
    · rename_i hm;cases ha;exact Does.pure hR (iZ (nothing hm none 0 0 rfl (Nat.le_refl _) (fun _ _=>trivial))) hs'
    · rename_i hm;split at ha
      · cases ha
      · split at ha
        · rename_i hro;cases ha;have:=grows none 0 0 [] [] h rfl (by omega) (fun w0 _=>by simp [Builtin.firstCells]) (by simp) (by simp [VRs]) (by simp) (by simpa using hro) hR rfl;simpa using this
        · cases ha
   | false =>
    cases es with
    | nil =>
     simp only [aC] at ha;split at ha
     · rename_i hm;cases ha;exact Does.pure hR (iZ (nothing hm a 0 c rfl (Nat.zero_le _) (fun _ _=>trivial))) hs'
     · cases ha
    | cons e1 es=>simp [aC] at ha
  | _=>simp [aC] at ha
 | row b o len cap z' =>
  have hs0:=hs;simp only [VR] at hs;obtain ⟨hb,c,rfl,h1,h2,h3,arr0,el0,fz0,h4,h4'⟩:=hs;have h4a:=h4'.1;simp only [aC] at ha;split at ha
  · cases ha
  · rename_i hzz;have hzz1:z' = z:=by
     rcases Nat.decEq z' z with e | e
     · exact absurd (Or.inl e) hzz
     · exact e
    have hzpos:0 < z:=by
     rcases Nat.eq_zero_or_pos z with e | e
     · exact absurd (Or.inr e) hzz
     · exact e
    subst hzz1;split at ha
    · rename_i hm;cases ha;exact Does.pure hR (iZ (nothing hm _ len c rfl h1 (fun _ _=>trivial))) hs0
    · rename_i hm;cases hg:h.get b with
      | none=>simp [hg] at ha
      | some cs =>
       simp only [hg] at ha;cases hsub:sub cs o (len * z') with
       | none=>simp [hsub] at ha
       | some old =>
        simp only [hsub] at ha;split at ha
        · cases ha
        · rename_i hro;have hro':roomy (len + m) bytes = true:=by simpa using hro
          have hrow:aF h (.row b o len cap z') z' = some (len,old):=by simp [aF,hg,hsub]
          obtain ⟨os,m1,m2,m3,m4,m5⟩:=gm (P:=P) hR hs0 hrow;have hofull:os.take (len * z') = os:=List.take_of_length_le (by omega);have hfo:∀ w0,w0.heap = w.heap -> (Builtin.firstCells z' len (.slice (some ⟨ρ b,o,none⟩) len c)).run P w0 = .ok os.toArray w0:=fun w0 h0=>by have:=m3 len w0 (Nat.le_refl _) h0; rwa [hofull] at this
          have hxl:=l4.length;have hxpos:0 < xs.length:=by rw [← hxl,l1]; exact Nat.mul_pos (by omega) hzpos
          have hxne:xs ≠ []:=List.length_pos_iff.1 hxpos;cases cap with
          | some k =>
           have hck:=h3 k rfl;subst hck;simp only at ha;split at ha
           · rename_i hroom;cases hput:put cs (o + len * z') xs with
             | none=>simp [hput] at ha
             | some cs' =>
              simp only [hput,Option.some.injEq,Prod.mk.injEq] at ha;obtain ⟨rfl,rfl⟩:=ha;obtain ⟨q1,q2,q3⟩:=eD (P:=P) hR hg hput hxne l4 l5;have hs1:(h.set b cs').size = h.size:=by simp [Hp.set,Hp.size]
              have hrun:=iM (P:=P) (ty:=ty) ht htx hz l2 (hf0 w rfl) hroom (base:=some ⟨ρ b,o,none⟩) (fun a ea=>by cases ea; rw [add_plain']; exact q1) (fun e=>by cases e);refine ⟨_,ρ,_,.inl (iZ hrun),q2,q3,?_⟩;have:=hs0.ext q3.ext;simp only [VR] at this ⊢;obtain ⟨g1,c',e,g2,g3,g4,g5⟩:=this;cases e;exact ⟨g1,c,rfl,hroom,g3,g4,g5⟩
           · rename_i hroom;cases ha;exact grows _ len c os old h rfl (by omega) hfo m1 m4 m5 hro' hR rfl
          | none =>
           simp only at ha;have ha2:(o = 0 /\ 0 < cs.length /\ some (V.row h.size 0 (len + m) none z',(h.set b []).alloc (old ++ xs)) = some (r,h')) ∨
            (o + (len + m) * z' <= cs.length /\ (match put cs (o + len * z') xs with | some cs'=>some (V.row b o (len + m) none z',h.set b cs') | none=>none) = some (r,h')):=by
            split at ha
            · rename_i hcond;exact .inl ⟨hcond.1,hcond.2.2,ha⟩
            · split at ha
              · rename_i hin;exact .inr ⟨hin,ha⟩
              · split at ha
                · rename_i hcond;exact .inl ⟨hcond.1,hcond.2,ha⟩
                · cases ha
           clear ha;rcases ha2 with ⟨ho0,hcpos,ha⟩ | ⟨hin,ha⟩
           · subst ho0;cases ha;obtain ⟨s1,hold⟩:=jb hsub;have hol:old.length = len * z':=by rw [← m4.length,m1]
             have hle0:len * z' <= cs.length:=by omega
             have hgo0:∀ j (hj:j < old.length) (hj2:j < cs.length),old[j] = cs[j]:=fun j hj hj2=>by simp only [hold,List.drop_zero,List.getElem_take]
             have hkill:Rel B ρ (h.set b []) w:=xA hR b _;have hks:(h.set b []).size = h.size:=by simp [Hp.set,Hp.size]
             by_cases hroom:len + m <= c
             · obtain ⟨hb',eb⟩:=kY hg;have hne:cs ≠ []:=List.length_pos_iff.1 hcpos;have hlive:h.bs[b].live = true:=by rw [eb]; cases cs with | nil=>exact absurd rfl hne | cons c cs=>rfl
               obtain ⟨arr,el,fz,g2,g3,g4,g5⟩:=eQ hR hg hne;have harr:arr0 = arr:=by rw [h4] at g2; cases g2; rfl
               subst harr;have hcap:(len + m) * z' <= c * z':=Nat.mul_le_mul_right _ hroom;rw [Nat.add_mul] at hcap;obtain ⟨i1,i2,i3,i4,i5,i6⟩:=jI (ρ b) us (len * z') w;obtain ⟨arr',h6,h7⟩:=i6 arr0 el fz g2;have hcell:∀ j,j < us.length -> (w.cell? ⟨ρ b,len * z' + j,none⟩).isSome = true:=fun j hj=>by
                have:len * z' + j < arr0.size:=by omega
                simp [World.cell?,g2,this]
               have hst:(storeCells ⟨ρ b,len * z',none⟩ us).run P w = .ok () (w.setCells (ρ b) (len * z') us):=by
                have:=run_storeCells_cells (P:=P) (ρ b) (len * z') us 0 w (by simpa using hcell) (by intro j hj; simp only [Nat.add_zero]; exact g4 _ (by omega)) l5;simpa using this
               have hown:∀ a e f,w.heap[ρ b]? = some (.cells a e f) -> ∃ a' f',(w.setCells (ρ b) (len * z') us).heap[ρ b]? = some (.cells a' e f') /\ a'.size = a.size:=fun a e' f k=>by
                obtain ⟨a',k1,k2⟩:=i6 a e' f k;exact ⟨a',f,k1,by omega⟩
               have hgo:=ja hR (hR.live b hb' hlive) i2 i1 hown i3 i4 i5;have hrun:=iM (P:=P) (ty:=ty) ht htx hz l2 (hf0 w rfl) hroom (base:=some ⟨ρ b,0,none⟩) (fun a ea=>by cases ea; rw [add_plain',Nat.zero_add]; exact hst) (fun e=>by cases e);have hbr:BR ρ (w.setCells (ρ b) (len * z') us) (ρ b) (.cells (old ++ xs)):=by
                have hlen':(old ++ xs).length = len * z' + us.length:=by rw [List.length_append,hol,hxl]
                have htot:len * z' + us.length <= arr'.size:=by omega
                generalize hoe:old ++ xs = ox at hlen';cases ox with
                | nil=>simp only [BR]
                | cons c' r' =>
                 simp only [BR];refine ⟨arr',el,fz,h6,by omega,fun j hj=>?_,fun j a b'=>?_⟩
                 · rw [World.frozen?_setCells]; exact g4 j (by omega)
                 · have hcl:(w.setCells (ρ b) (len * z') us).cell? ⟨ρ b,j,none⟩ = some arr'[j]:=by simp [World.cell?,h6]
                   simp only [← hoe] at a ⊢;by_cases hj:j < len * z'
                   · rw [World.cell?_setCells_out (ρ b) us (len * z') w ⟨ρ b,j,none⟩ (fun _ _=>Or.inl hj)] at hcl;have hja:j < arr0.size:=by omega
                     simp [World.cell?,g2,hja] at hcl;have k:=g5 j (by omega) hja;rw [← hcl,List.getElem_append_left (by omega),hgo0 j (by omega) (by omega)];exact ⟨k.1.ext hgo.ext,k.2⟩
                   · have hj2:j - len * z' < us.length:=by omega
                     have:=World.cell?_setCells_in (ρ b) us (len * z') w hcell (j - len * z') hj2;rw [show len * z' + (j - len * z') = j by omega,hcl] at this;simp only [Option.some.injEq] at this;rw [this,List.getElem_append_right (by omega)];have e1:j - old.length = j - len * z':=by rw [hol]
                     simp only [e1];exact ⟨(l4.get (j - len * z') (by omega) hj2).ext hgo.ext,l5 _ (List.getElem_mem hj2)⟩
               obtain ⟨r1,r2⟩:=Ei hR hb' hlive i2 i1 hown i3 i4 i5 _ hbr (min h.low b);refine ⟨_,_,_,.inl (iZ hrun),r1,r2,?_⟩;simp only [VR];exact ⟨.inr rfl,c,by rw [lG],hroom,h2,(fun k hk=>by cases hk),arr',el,fz,by rw [lG]; exact h6,by omega,fun _=>by have:=h4'.2 rfl; omega⟩
             · have:=grows _ len c os old (h.set b []) rfl (by omega) hfo m1 m4 m5 hro' hkill hks;rw [hks] at this;exact this
           · cases hput:put cs (o + len * z') xs with
             | none=>simp [hput] at ha
             | some cs' =>
              simp only [hput,Option.some.injEq,Prod.mk.injEq] at ha;obtain ⟨rfl,rfl⟩:=ha;have hne:cs ≠ []:=by
               rintro rfl;have:=(oO hput).1;simp only [List.length_nil] at this;omega
              obtain ⟨arr,el,fz,g2,g3,_,_⟩:=eQ hR hg hne;have harr:arr0 = arr:=by rw [h4] at g2; cases g2; rfl
              subst harr;have hsz0:=h4'.2 rfl;have hroom:len + m <= c:=by
               have hle:(len + m) * z' <= c * z':=by omega
               exact Nat.le_of_mul_le_mul_right hle hzpos
              obtain ⟨q1,q2,q3⟩:=eD (P:=P) hR hg hput hxne l4 l5;have hrun:=iM (P:=P) (ty:=ty) ht htx hz l2 (hf0 w rfl) hroom (base:=some ⟨ρ b,o,none⟩) (fun a ea=>by cases ea; rw [add_plain']; exact q1) (fun e=>by cases e);refine ⟨_,ρ,_,.inl (iZ hrun),q2,q3,?_⟩;have:=hs0.ext q3.ext;simp only [VR] at this ⊢;obtain ⟨g1,c',e,g2,g3,g4,g5⟩:=this;cases e;exact ⟨g1,c,rfl,hroom,g3,g4,g5⟩
 | _=>simp [aC] at ha
end
end Go.Proofs.YtjkfknafpgfchaaGreat
