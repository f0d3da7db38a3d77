/- The other operations. -/
import Derived.Test.YtjkfknafpgfchaaGreatPa
import Derived.Laws.IdiomStrings
import Derived.Laws.BytesString
import Derived.Laws.MakeOwn
set_option linter.unusedVariables false
set_option linter.unusedSimpArgs false
namespace Go.Proofs.YtjkfknafpgfchaaGreat
section
open Go.RowKit
section
variable {P:Program} {B:Nat} {ρ:Rh} {h:Hp} {w:World} {e:Env} {a:Act}
abbrev VRx (h:Hp) (ρ:Rh) (w:World):=VR ρ (St ρ w) w
abbrev VRy (ρ:Rh) (w:World):=VR ρ (St ρ w) w
theorem pg {v:Value} {t:Bool} (k:VRy ρ w (.d (.bool t)) v):v = .bool t:=by simpa only [VR,DR] using k
theorem cB {v:Value} {q:IntKind} {n:Int} (k:VRy ρ w (.d (.int q n)) v):v = .int q n:=by simpa only [VR,DR] using k
theorem jL {v:Value} {s:ByteArray} (k:VRy ρ w (.d (.str s)) v):v = .string s:=by simpa only [VR,DR] using k
theorem J9 {op:BinOp} (h1:op ≠ .eql) (h2:op ≠ .neq) {t:TypeId} {x y:Operand} {u v:Value} {xv yv:V} {d:D} (hx:VRy ρ w xv u) (hy:VRy ρ w yv v) (hb:bJ op xv yv = some d) :
 ∃ r,(do eqGuard op t x y u v; binOp op t u v).run P w = .ok r w /\ DR (St ρ w) w d r:=by
 have hg:(eqGuard op t x y u v).run P w = .ok () w:=by
  cases op <;> first | exact absurd rfl h1 | exact absurd rfl h2 | rfl
 simp only [Sem.run_bind,hg,Result.andThen_ok];unfold bJ at hb;split at hb
 · rw [cB hx,cB hy];split at hb
   · cases hb
   · rename_i hn;cases hb;exact ⟨_,by simp only [binOp,Op.shift,if_neg hn]; rfl,by simp only [DR]⟩
 · rw [cB hx,cB hy];split at hb
   · cases hb
   · rename_i hn;cases hb;exact ⟨_,by simp only [binOp,Op.shift,if_neg hn]; rfl,by simp only [DR]⟩
 · rw [cB hx,cB hy];split at hb
   · rename_i hk;subst hk;cases op <;> simp only [dU] at hb <;> first
      | exact absurd rfl h1
      | exact absurd rfl h2
      | (cases hb; done)
      | (cases hb; simp only [DR]; refine ⟨_,?_,rfl⟩; simp only [binOp,ne_eq,not_true_eq_false,if_false,Op.intArith,Op.intBits,Op.intCmp]; rfl)
      | (split at hb
         · cases hb
         · rename_i hn;cases hb;simp only [DR]; refine ⟨_,?_,rfl⟩; simp only [binOp,ne_eq,not_true_eq_false,if_false,Op.intDiv,if_neg hn]; rfl)
   · cases hb
 · rw [jL hx,jL hy];cases op <;> simp only [uX] at hb <;> first
    | exact absurd rfl h1
    | exact absurd rfl h2
    | (cases hb; done)
    | (cases hb; simp only [DR]; refine ⟨_,?_,rfl⟩; simp only [binOp,Op.stringOp]; rfl)
    | (split at hb
       · rename_i s1 s2 hn;cases hb;simp only [DR];refine ⟨_,?_,rfl⟩;have hn':¬ (9223372036854775807 < (s1.size:Int) + (s2.size:Int)):=by omega
         simp [binOp,Op.stringOp,hn']
       · cases hb)
 · cases hb
theorem VY {op:UnOp} {u:Value} {xv:V} {d:D} (hx:VRy ρ w xv u) (hb:unD op xv = some d):∃ r,(Op.unary op u).run P w = .ok r w /\ DR (St ρ w) w d r:=by
 unfold unD at hb;split at hb
 · rw [pg hx]; cases hb; exact ⟨_,rfl,by simp only [DR]⟩
 · rw [cB hx]; cases hb; exact ⟨_,rfl,by simp only [DR]⟩
 · rw [cB hx]; cases hb; exact ⟨_,rfl,by simp only [DR]⟩
 · cases hb
theorem vz {t q:TypeId} (d:Nat) (hu:P.underlying t = some (.pointer q)) (p:Option Addr):(Op.equalIn (d + 1) t (.pointer p) (.pointer none)).run P w = .ok p.isNone w:=by
 cases p <;> simp [Op.equalIn,run_underlying hu]
theorem FX {t q:TypeId} (d:Nat) (hu:P.underlying t = some (.pointer q)) (p:Option Addr):(Op.equalIn (d + 1) t (.pointer none) (.pointer p)).run P w = .ok p.isNone w:=by
 cases p <;> simp [Op.equalIn,run_underlying hu]
theorem FY {t q:TypeId} (d:Nat) (hu:P.underlying t = some (.slice q)) (p:Option Addr) (a b a' b':Nat):(Op.equalIn (d + 1) t (.slice p a b) (.slice none a' b')).run P w = .ok p.isNone w:=by
 cases p <;> simp [Op.equalIn,run_underlying hu]
theorem Q3 {t:TypeId} {a b c} (d:Nat) (hu:P.underlying t = some (.func a b c)) (f:Fn) (x y:Array Value):(Op.equalIn (d + 1) t (.func f x y) .nilFunc).run P w = .ok false w:=by
 simp [Op.equalIn,run_underlying hu]
theorem Km {t:TypeId} {a b c} (d:Nat) (hu:P.underlying t = some (.func a b c)):(Op.equalIn (d + 1) t .nilFunc .nilFunc).run P w = .ok true w:=by
 simp [Op.equalIn,run_underlying hu]
theorem ig {t:TypeId} {u v:Value} {b:Bool} (x y:Operand) (neg:Bool) (he:(Op.equalIn (9999 + 1) t u v).run P w = .ok b w) (h1:binOp .eql t u v = (do pure (.bool (← Op.equal t u v)))) (h2:binOp .neq t u v = (do pure (.bool (!(← Op.equal t u v)))))
 (hg:∀ op,(eqGuard op t x y u v).run P w = .ok () w):(do eqGuard (if neg then .neq else .eql) t x y u v; binOp (if neg then .neq else .eql) t u v).run P w = .ok (.bool (b != neg)) w:=by
 have he':(Op.equal t u v).run P w = .ok b w:=he;cases neg
 · simp [hg,h1,he']
 · simp [hg,h2,he']
theorem nZ {t:TypeId} (hk:rX P t = some .ptr):∃ q,P.underlying t = some (.pointer q):=by
 unfold rX at hk;cases hu:P.underlying t with
 | none=>simp [hu] at hk
 | some kd=>cases kd <;> simp [hu] at hk <;> exact ⟨_,rfl⟩
theorem BM {t:TypeId} (hk:rX P t = some .sl):∃ q,P.underlying t = some (.slice q):=by
 unfold rX at hk;cases hu:P.underlying t with
 | none=>simp [hu] at hk
 | some kd=>cases kd <;> simp [hu] at hk <;> exact ⟨_,rfl⟩
theorem BK {t:TypeId} (hk:rX P t = some .fn):∃ a b c,P.underlying t = some (.func a b c):=by
 unfold rX at hk;cases hu:P.underlying t with
 | none=>simp [hu] at hk
 | some kd=>cases kd <;> simp [hu] at hk <;> exact ⟨_,_,_,rfl⟩
theorem Q0 {k:EQ} {t:TypeId} {xv yv:V} {u v:Value} {b:Bool} (hk:rX P t = some k) (hx:VRy ρ w xv u) (hy:VRy ρ w yv v) (hb:fu k xv yv = some b) (x y:Operand) (neg:Bool) :
 (do eqGuard (if neg then .neq else .eql) t x y u v; binOp (if neg then .neq else .eql) t u v).run P w = .ok (.bool (b != neg)) w:=by
 have hk0:=hk;unfold fu at hb;unfold rX at hk;split at hb
 ·
   rename_i q c d;cases hu:P.underlying t with
   | none=>simp [hu] at hk
   | some kd =>
    cases q <;> cases c <;> cases d <;> simp only [kJ] at hb <;> try (cases hb; done)
    · cases kd <;> simp [hu] at hk <;> try (first | (split at hk <;> simp at hk) | skip; done)
      rw [pg hx,pg hy]; cases hb;cases neg <;> simp [eqGuard,run_eql_bool,run_neq_bool,hu]
    · rw [cB hx,cB hy];split at hb
      · rename_i hh;obtain ⟨rfl,rfl⟩:=hh;cases hb;cases neg <;> simp [eqGuard,binOp,Op.intCmp] <;> first | rfl | (cases hq:(_ == _:Bool) <;> simp_all)
      · cases hb
    · rw [jL hx,jL hy]; cases hb;cases neg <;> simp [eqGuard,binOp,Op.stringOp]
 ·
   rename_i ks xs ys;have hx':=hx;have hy':=hy;simp only [VR] at hx hy;obtain ⟨us,rfl,hus,_⟩:=hx;obtain ⟨vs,rfl,hvs,_⟩:=hy;cases hu:P.underlying t with
   | none=>simp [hu] at hk
   | some kd =>
    cases kd <;> simp only [hu] at hk <;> try (cases hk; done)
    rename_i fs;split at hk
    · cases hk
    · rename_i hgd;cases hkk:gV P 200 t with
      | none=>simp [hkk] at hk
      | some ks' =>
       simp [hkk] at hk;subst hk;have hr:=FV (P:=P) 200 10000 (by omega) hkk (show gZ P t = some true by simp [gZ,hu]) hus hvs hb;simp only [bM,if_true,Array.toArray_toList] at hr;have hgd':P.eqGuardType P.depth t = false:=by simpa using hgd
       cases neg
       · simp only [Bool.false_eq_true,if_false,Sem.run_bind,run_eqGuard_agg w _ t x y us vs hgd',Result.andThen_ok,run_eql_struct,hr];simp
       · simp only [if_true,Sem.run_bind,run_eqGuard_agg w _ t x y us vs hgd',Result.andThen_ok,run_neq_struct,hr];simp
 · obtain ⟨_,hu⟩:=nZ hk0;simp only [VR,DR] at hx hy; subst hx hy; cases hb;exact ig x y neg (vz _ hu none) rfl rfl (fun op=>by cases op <;> rfl)
 · obtain ⟨_,hu⟩:=nZ hk0;simp only [VR,DR] at hx hy; obtain ⟨_,rfl⟩:=hx; subst hy; cases hb;exact ig x y neg (vz _ hu (some _)) rfl rfl (fun op=>by cases op <;> rfl)
 · obtain ⟨_,hu⟩:=nZ hk0;simp only [VR,DR] at hx hy; obtain ⟨_,rfl⟩:=hy; subst hx; cases hb;exact ig x y neg (FX _ hu (some _)) rfl rfl (fun op=>by cases op <;> rfl)
 · obtain ⟨_,hu⟩:=nZ hk0;simp only [VR,DR] at hx hy; obtain ⟨_,_,rfl,_⟩:=hx; subst hy; cases hb;exact ig x y neg (vz _ hu (some _)) rfl rfl (fun op=>by cases op <;> rfl)
 · obtain ⟨_,hu⟩:=BM hk0;simp only [VR,DR] at hx hy; obtain ⟨a1,c1,rfl,_,_,h3,_⟩:=hx; obtain ⟨a2,c2,rfl,_,_,h4,_⟩:=hy;have:=h4.2 (by trivial);subst this;cases hb;have he:=FY (P:=P) (w:=w) 9999 hu a1 (List.length ‹List (List D)›) c1 ([]:List (List D)).length c2;have hb:a1.isNone = b:=by
    cases a1 with
    | none=>exact (h3.1 rfl).symm
    | some a1=>cases b with
     | true=>have:=h3.2 rfl; cases this
     | false=>rfl
   rw [hb] at he;exact ig x y neg he rfl rfl (fun op=>by cases op <;> rfl)
 · obtain ⟨_,hu⟩:=BM hk0;simp only [VR,DR] at hx hy; obtain ⟨_,c1,rfl,_⟩:=hx; obtain ⟨a2,c2,rfl,_,_,h4,_⟩:=hy;have:=h4.2 (by trivial);subst this;cases hb;exact ig x y neg (FY _ hu (some _) _ _ _ _) rfl rfl (fun op=>by cases op <;> rfl)
 · obtain ⟨_,_,_,hu⟩:=BK hk0;simp only [VR,DR] at hx hy; obtain ⟨_,rfl,_⟩:=hx; subst hy; cases hb;exact ig x y neg (Q3 _ hu _ _ _) rfl rfl (fun op=>by cases op <;> rfl)
 · obtain ⟨_,_,_,hu⟩:=BK hk0;simp only [VR,DR] at hx hy; subst hx hy; cases hb;exact ig x y neg (Km _ hu) rfl rfl (fun op=>by cases op <;> rfl)
 · cases hb
end
end
section
open Go.RowKit
section
variable {P:Program} {B:Nat} {ρ:Rh} {h:Hp} {w:World} {e:Env} {a:Act}
theorem bG (hR:Rel B ρ h w) {s:Sem Value} {v:Value} {x:V} (hs:s.run P w = .ok v w) (hv:VRx h ρ w x v):Does P B ρ h w (do let v ← s; pure (Next.value v)) x h :=
 Does.pure hR (iZ hs) hv
theorem ic (hE:ER ρ w e a.tmps) {x:Option Operand} {y:Option X} {dft n:Nat} (hx:x.mapM bg = some y) (hb:bound e y dft = some n) :
 (x = none /\ n = dft) \/ ∃ o k i,x = some o /\ a.eval o = .int k i /\ 0 <= i /\ i.toNat = n:=by
 cases x with
 | none=>simp at hx; subst hx; simp [bound] at hb; exact .inl ⟨rfl,hb.symm⟩
 | some o =>
  cases ho:bg o with
  | none=>simp [ho] at hx
  | some X' =>
   simp [ho] at hx;subst hx;have hv:=ay hE ho;simp only [bound] at hb;split at hb
   · rename_i q i heq;rw [heq] at hv;split at hb
     · rename_i h0;cases hb;exact .inr ⟨o,q,i,rfl,cB hv,h0,rfl⟩
     · cases hb
   · cases hb
theorem kD (hE:ER ρ w e a.tmps) (isS:Bool) {lo hi:Option Operand} {lo' hi':Option X} {len cap l k:Nat} (hlo:lo.mapM bg = some lo') (hhi:hi.mapM bg = some hi')
 (b1:bound e lo' 0 = some l) (b2:bound e hi' len = some k) (h1:l <= k) (h2:k <= cap) :
 (Instr.sliceBounds isS len cap (lo.map a.eval) (hi.map a.eval) none).run P w = .ok (l,k,cap) w:=by
 rcases ic hE hlo b1 with ⟨rfl,rfl⟩ | ⟨o1,k1,i1,rfl,e1,g1,rfl⟩ <;> rcases ic hE hhi b2 with ⟨rfl,rfl⟩ | ⟨o2,k2,i2,rfl,e2,g2,rfl⟩
 · simp [Instr.sliceBounds]
 · simp only [Instr.sliceBounds,Option.map_some,Option.map_none,e2,Sem.run_bind,Sem.run_pure,Result.andThen_ok];rw [run_sliceBound w k2 i2 _ _ g2 (by omega)];simp
 · simp only [Instr.sliceBounds,Option.map_some,Option.map_none,e1,Sem.run_bind,Sem.run_pure,Result.andThen_ok];simp [run_sliceBound w k1 i1 _ _ g1 (show i1 <= (k:Int) by omega)]
 · simp only [Instr.sliceBounds,Option.map_some,Option.map_none,e1,e2,Sem.run_bind,Sem.run_pure,Result.andThen_ok];rw [run_sliceBound w k2 i2 _ _ g2 (by omega)];simp [run_sliceBound w k1 i1 _ _ g1 (show i1 <= (i2.toNat:Int) by omega)]
theorem yE (hE:ER ρ w e a.tmps) {lo hi mx:Option Operand} {lo' hi' mx':Option X} {len cap l k m:Nat} (hlo:lo.mapM bg = some lo') (hhi:hi.mapM bg = some hi') (hmx:mx.mapM bg = some mx') (hms:mx'.isSome = true) (hhs:hi'.isSome = true)
 (b1:bound e lo' 0 = some l) (b2:bound e hi' len = some k) (b3:bound e mx' 0 = some m) (h1:l <= k) (h2:k <= m) (h3:m <= cap) :
 (Instr.sliceBounds true len cap (lo.map a.eval) (hi.map a.eval) (mx.map a.eval)).run P w = .ok (l,k,m) w:=by
 rcases ic hE hmx b3 with ⟨rfl,rfl⟩ | ⟨o3,k3,i3,rfl,e3,g3,rfl⟩
 · simp at hmx; subst hmx; cases hms
 rcases ic hE hhi b2 with ⟨rfl,rfl⟩ | ⟨o2,k2,i2,rfl,e2,g2,rfl⟩
 · simp at hhi; subst hhi; cases hhs
 rcases ic hE hlo b1 with ⟨rfl,rfl⟩ | ⟨o1,k1,i1,rfl,e1,g1,rfl⟩
 · simp only [Instr.sliceBounds,Option.map_some,Option.map_none,e2,e3,Sem.run_bind,Sem.run_pure,Result.andThen_ok];rw [run_sliceBound w k3 i3 _ _ g3 (by omega)];simp only [Result.andThen_ok];rw [run_sliceBound w k2 i2 _ _ g2 (by omega)];simp
 · simp only [Instr.sliceBounds,Option.map_some,Option.map_none,e1,e2,e3,Sem.run_bind,Sem.run_pure,Result.andThen_ok];rw [run_sliceBound w k3 i3 _ _ g3 (by omega)];simp only [Result.andThen_ok];rw [run_sliceBound w k2 i2 _ _ g2 (by omega)];simp [run_sliceBound w k1 i1 _ _ g1 (show i1 <= (i2.toNat:Int) by omega)]
theorem DRss.sub {S:Nat -> Prop} {b z o:Nat} {es:List (List D)} (hd:DRss S w b o z es) (l k:Nat) (hk:k <= es.length):DRss S w b (o + l * z) z ((es.take k).drop l) :=
 DRss.of_get fun i hi=>by
  have hi':l + i < es.length:=by simp at hi; omega
  have:=hd.get (l + i) hi';simp only [List.getElem_drop,List.getElem_take];rw [Nat.add_mul] at this;rw [Nat.add_assoc];exact this
theorem yN (hR:Rel B ρ h w) (hE:ER ρ w e a.tmps) {t el:TypeId} {z:Nat} {xv r:V} {v:Value} {lo hi mx:Option Operand} {lo' hi' mx':Option X} (ht:P.underlying t = some (.slice el)) (hz:gQ P el = some z)
 (hlo:lo.mapM bg = some lo') (hhi:hi.mapM bg = some hi') (hmx:mx.mapM bg = some mx') (hx:VRx h ρ w xv v) (hm:cz h e .sl z xv lo' hi' mx' = some r) :
 ∃ u,(Instr.sliceAt t v (lo.map a.eval) (hi.map a.eval) (mx.map a.eval)).run P w = .ok u w /\ VRx h ρ w r u:=by
 cases xv with
 | d y =>
  cases y with
  | slice nl es =>
   simp only [VR,DR] at hx;obtain ⟨ad,c,rfl,h1,h2,h3,h4,h5⟩:=hx;simp only [cz] at hm;split at hm
   · rename_i l k hbl hbk;have hmn:mx = none:=by cases mx with | none=>rfl | some o=>cases ho:bg o <;> simp [ho] at hmx
     subst hmn;split at hm
     · rename_i hh;obtain ⟨g1,g2,g3⟩:=hh;cases hm;have hb:=kD (P:=P) hE true hlo hhi hbl hbk g1 (by omega:k <= c);refine ⟨_,by simp only [Instr.sliceAt,Instr.slice,Sem.run_bind,run_underlying ht,Result.andThen_ok,Option.map_none,hb,run_sizeOf hz]; rfl,?_⟩;simp only [VR,DR];have hlen:((es.take k).drop l).length = k - l:=by simp; omega
       refine ⟨_,c - l,by rw [hlen],by rw [hlen]; omega,by omega,?_,?_,fun hne=>?_⟩
       · split
         · exact h3
         · rw [← h3]; cases ad <;> simp
       · intro hn;have:ad = none:=by
          split at hn
          · exact hn
          · cases ad with | none=>rfl | some _=>simp at hn
         rw [h4 this]; simp
       · have hlk:l < k:=by
          have:((es.take k).drop l).length ≠ 0:=fun e=>hne (List.eq_nil_of_length_eq_zero e);omega
         have hes:es ≠ []:=by rintro rfl; simp at g2; omega
         obtain ⟨b,o,z',e1,hb,hd⟩:=h5 hes;have hzz:z' = z:=by
          cases es with
          | nil=>exact absurd rfl hes
          | cons x xs=>simp only [DRss] at hd; simp at g3; rw [← hd.1]; exact g3
         subst hzz;refine ⟨b,o + l * z',z',?_,hb,hd.sub l k g2⟩;rw [if_neg (by omega),e1];simp [add_plain']
     · cases hm
   · cases hm
  | _=>simp [cz] at hm
 | row b o len cap z' =>
  have hx0:=hx;simp only [VR] at hx;obtain ⟨hb,c,rfl,h1,h2,h3,arr,e0,fz,h4,h5⟩:=hx;simp only [cz] at hm;split at hm
  · rename_i l k hbl hbk;have hmn:mx = none:=by cases mx with | none=>rfl | some o=>cases ho:bg o <;> simp [ho] at hmx
    subst hmn;split at hm
    · rename_i hh;obtain ⟨g1,g2,rfl⟩:=hh;have hbd:=kD (P:=P) hE true hlo hhi hbl hbk g1 (by omega:k <= c);have hrun:(Instr.sliceAt t (.slice (some ⟨ρ b,o,none⟩) len c) (lo.map a.eval) (hi.map a.eval) ((none:Option Operand).map a.eval)).run P w = .ok (.slice (if c = l then some ⟨ρ b,o,none⟩ else some ⟨ρ b,o + l * z',none⟩) (k - l) (c - l)) w:=by
       simp only [Instr.sliceAt,Instr.slice,Sem.run_bind,run_underlying ht,Result.andThen_ok,Option.map_none,hbd,run_sizeOf hz,Option.map_some,add_plain',Sem.run_pure]
      refine ⟨_,hrun,?_⟩;split at hm
      · rename_i hl0;subst hl0;cases hm;simp only [VR];refine ⟨hb,c,?_,by omega,h2,h3,arr,e0,fz,h4,h5⟩;simp
      · split at hm
        · rename_i hl0 hll;cases hm;simp only [VR];refine ⟨hb,c - l,by rw [if_neg (by omega)],by omega,by omega,fun q hq=>?_,arr,e0,fz,h4,?_⟩
          · cases cap with
            | none=>cases hq
            | some c'=>have:=h3 c' rfl; simp at hq; omega
          · rw [Nat.sub_mul];have:l * z' <= c * z':=Nat.mul_le_mul_right _ (by omega);obtain ⟨h5a,h5b⟩:=h5;refine ⟨by omega,fun hn=>?_⟩;have hcn:cap = none:=by
             cases cap with
             | none=>rfl
             | some c'=>simp at hn
            have:=h5b hcn;omega
        · rename_i hl0 hll;cases hm;have hkl:k - l = 0:=by omega
          simp only [VR,DR];rw [hkl];refine ⟨_,c - l,rfl,by simp,by omega,?_,?_,by simp⟩
          · split <;> simp
          · split <;> simp
    · cases hm
  · rename_i l k mX hbl hbk;cases hbm:bound e (some mX) 0 with
    | none=>simp [hbm] at hm
    | some m =>
     simp only [hbm] at hm;split at hm
     · rename_i hh;obtain ⟨g1,g2,g3,rfl,g4,hhs⟩:=hh;cases hm;have hbd:=yE (P:=P) (len:=len) (cap:=c) hE hlo hhi hmx rfl hhs hbl hbk hbm g1 g2 (by omega);have hrun:(Instr.sliceAt t (.slice (some ⟨ρ b,o,none⟩) len c) (lo.map a.eval) (hi.map a.eval) (mx.map a.eval)).run P w = .ok (.slice (if m = l then some ⟨ρ b,o,none⟩ else some ⟨ρ b,o + l * z',none⟩) (k - l) (m - l)) w:=by
        simp only [Instr.sliceAt,Instr.slice,Sem.run_bind,run_underlying ht,Result.andThen_ok,hbd,run_sizeOf hz,Option.map_some,add_plain',Sem.run_pure]
       refine ⟨_,hrun,?_⟩;simp only [VR];refine ⟨hb,m - l,?_,by omega,by omega,fun q hq=>by cases hq; rfl,arr,e0,fz,h4,?_⟩
       · rcases g4 with rfl | g4
         · simp
         · rw [if_neg (by omega)]
       · have h6:m * z' <= c * z':=Nat.mul_le_mul_right _ (by omega);have h7:l * z' <= m * z':=Nat.mul_le_mul_right _ (by omega);rw [Nat.sub_mul]; exact ⟨by have:=h5.1; omega,fun hh=>by cases hh⟩
     · cases hm
  · cases hm
 | _=>simp [cz] at hm
end
end
section
open Go.RowKit
section
variable {P:Program} {B:Nat} {ρ:Rh} {h:Hp} {w:World} {e:Env} {a:Act}
theorem oH {sc:Bool} {cs:List V} {x:V} (hm:mk sc cs = some x):(sc = true /\ cs = [x]) \/ (sc = false /\ x = .agg cs):=by
 unfold mk at hm;split at hm
 · cases hm; exact .inl ⟨rfl,rfl⟩
 · cases hm
 · cases hm; exact .inr ⟨rfl,rfl⟩
theorem oI {S:Nat -> Prop} {ag:Bool} {cs:List V} {us:List Value} {x:V} (hv:VRs ρ S w cs us) (h1:∀ u ∈ us,u.oneCell' = true) (hm:mk (!ag) cs = some x):VR ρ S w x (bM ag us):=by
 rcases oH hm with ⟨h2,rfl⟩ | ⟨h2,rfl⟩
 · have:ag = false:=by simpa using h2
   subst this;simp only [VRs] at hv;obtain ⟨u,us',rfl,h3,rfl⟩:=hv;simpa [bM] using h3
 · have:ag = true:=by simpa using h2
   subst this;simp only [VR,bM,if_true];exact ⟨_,rfl,by simpa using hv,by simpa using h1⟩
theorem Dz (hR:Rel B ρ h w) (hE:ER ρ w e a.tmps) {t:TypeId} {ad:Operand} {ag:Bool} {n:Nat} {X':X} {cs:List V} {x:V} (ha:gZ P t = some ag) (hs:gQ P t = some n) (hn:n ≠ 0) (ho:bg ad = some X')
 (hl:loadAt h (X'.ev e) n = some cs) (hm:mk (!ag) cs = some x):Does P B ρ h w (do let v ← Instr.loadAt t (a.eval ad); pure (.value v)) x h:=by
 obtain ⟨b,o,us,e1,l1,l2,l3,l4⟩:=oC hR (by omega) (ay hE ho) hl;have hlist:=run_loadCells_list (P:=P) w ⟨b,o,none⟩ us (fun j v hv=>by rw [add_plain']; exact l2 j v hv);refine bG hR (v:=bM ag us) ?_ (oI l3 l4 hm);rw [e1];cases ag with
 | true=>simp [Instr.loadAt,Instr.sureAddr,loadVar,iO ha,run_sizeOf hs,← l1,hlist,bM]
 | false =>
  rcases oH hm with ⟨_,rfl⟩ | ⟨h2,_⟩
  · simp only [VRs] at l3;obtain ⟨u,us',rfl,h3,rfl⟩:=l3;have:=l2 0 u rfl;simp only [Nat.add_zero] at this;simp [Instr.loadAt,Instr.sureAddr,loadVar,iO ha,load,Sem.run,this,bM]
  · cases h2
theorem AZ (hR:Rel B ρ h w) (hE:ER ρ w e a.tmps) {t:TypeId} {ad vo:Operand} {n:Nat} {X1 X2:X} {xs:List V} {h':Hp} (hs:gQ P t = some n) (hn:0 < n) (h1:bg ad = some X1) (h2:bg vo = some X2)
 (hc:(X2.ev e).cells = some xs) (hl:xs.length = n) (hst:storeAt h (X1.ev e) xs = some h'):Does P B ρ h w (do Instr.storeAt t (a.eval ad) (a.eval vo); pure .skip) .undef h':=by
 obtain ⟨k1,k2⟩:=kS (ay hE h2) hc;have hv:=ay hE h1;cases hx:X1.ev e with
 | ptr b o =>
  rw [hx] at hv hst;simp only [VR] at hv;obtain ⟨hb,ea⟩:=hv;simp only [storeAt] at hst;cases hg:h.get b with
  | none=>simp [hg] at hst
  | some cs =>
   simp only [hg] at hst;cases hp:put cs o xs with
   | none=>simp [hp] at hst
   | some cs' =>
    simp only [hp,Option.some.injEq] at hst;subst hst;have hne:xs ≠ []:=by rintro rfl; simp at hl; omega
    obtain ⟨q1,q2,q3⟩:=eD (P:=P) hR hg hp hne k1 k2;have hsz:(h.set b cs').size = h.size:=by simp [Hp.set,Hp.size]
    have hlen:=k1.length;simp only [Array.length_toList] at hlen;refine ⟨undef,ρ,_,.inr ⟨?_,rfl⟩,q2,q3,by simp only [VR]⟩;rw [ea];have:¬ ((a.eval vo).cells.size ≠ n):=by omega
    simp [Instr.storeAt,Instr.sureAddr,storeVar,run_sizeOf hs,this,q1]
 | _=>rw [hx] at hst; simp [storeAt] at hst
theorem oD {l:List Operand} {xs:List X} (hE:ER ρ w e a.tmps) (hm:l.mapM bg = some xs):VRs ρ (St ρ w) w (xs.map (·.ev e)) (l.map a.eval):=by
 have hh:=mapM_some hm;exact VRs.of_get (by simp [hh.1]) fun i h1 h2=>by
  simp only [List.getElem_map];exact ay hE (hh.2 i (by simpa using h2) (by simpa using h1))
theorem Dr (hR:Rel B ρ h w) {s:ByteArray} {sem:Sem Next} (hs:sem.run P w = .ok (.value (.pointer (some ⟨w.heap.size,0,none⟩))) (w.alloc (.stringIter s 0))) :
 Does P B ρ h w sem (.ptr h.size 0) { h with bs:=h.bs ++ [.iter s 0] }:=by
 refine ⟨_,_,_,.inl hs,uk hR _ _ (by simp only [BR]; show (w.heap.push _)[_]? = _; simp),iQ hR _ _ (jR hR),?_⟩;simp only [VR];exact ⟨.inr rfl,by rw [jH]⟩
theorem DD (hR:Rel B ρ h w) {b:Nat} {v:Value} {s:ByteArray} {pos:Nat} {t:TypeId} (hv:VRx h ρ w (.ptr b 0) v) (hb:h.bs[b]? = some (.iter s pos)) {x:V} {h':Hp}
 (hm:(if pos < s.size then some (V.tup [.d (.bool true),.d (.int .i64 pos),.d (.int .i32 (Utf8.decode s pos).1)],(⟨h.bs.set b (.iter s (pos + (Utf8.decode s pos).2)),min h.low b⟩:Hp)) else some (V.tup [.d (.bool false)],h)) = some (x,h')) :
 Does P B ρ h w (do let u ← Instr.next v true t; pure (.value u)) x h':=by
 simp only [VR] at hv;obtain ⟨hbn,rfl⟩:=hv;obtain ⟨hb',eb⟩:=List.getElem?_eq_some_iff.1 hb;have hm0:=hR.mem b hb';rw [eb] at hm0;simp only [BR] at hm0;split at hm
 · rename_i hp;simp only [Option.some.injEq,Prod.mk.injEq] at hm;obtain ⟨rfl,rfl⟩:=hm;have hlt:=(hR.lo b hbn).2
   let w':World:={ w with heap:=w.heap.setIfInBounds (ρ b) (.stringIter s (pos + (Utf8.decode s pos).2)) }
   have hrun:(Instr.next (.pointer (some ⟨ρ b,0,none⟩)) true t).run P w = .ok (.tuple #[.bool true,goInt pos,.int .i32 (Utf8.decode s pos).1]) w':=by
    simp [Instr.next,getObj,setObj,Sem.run,hm0,hp,w',goInt]
   have hoth:∀ k,k ≠ ρ b -> w'.heap[k]? = w.heap[k]?:=fun k hk=>by simp [w',Array.getElem?_setIfInBounds,Ne.symm hk]
   have hown:∀ arr e fz,w.heap[ρ b]? = some (.cells arr e fz) -> ∃ arr' fz',w'.heap[ρ b]? = some (.cells arr' e fz') /\ arr'.size = arr.size:=fun arr e fz k=>by rw [hm0] at k; cases k
   have hbr:BR ρ w' (ρ b) (.iter s (pos + (Utf8.decode s pos).2)):=by simp [BR,w',Array.getElem?_setIfInBounds,hlt]
   have hsz:w'.heap.size = w.heap.size:=by simp [w']
   have hlive:h.bs[b].live = true:=by rw [eb]; rfl
   refine ⟨_,ρ,w',.inl (iZ hrun),oV hR hb' hlive hsz hoth hown rfl rfl rfl _ hbr _,ja hR (hR.live b hb' hlive) hsz hoth hown rfl rfl rfl,?_⟩
   · simp only [VR,VRs,DR,goInt];exact ⟨_,rfl,_,_,rfl,rfl,_,_,rfl,rfl,_,_,rfl,rfl,rfl⟩
 · rename_i hp;simp only [Option.some.injEq,Prod.mk.injEq] at hm;obtain ⟨rfl,rfl⟩:=hm;refine bG hR (v:=.tuple #[.bool false]) ?_ ?_
   · simp [Instr.next,getObj,Sem.run,hm0,hp]
   · simp only [VR,VRs,DR];exact ⟨_,rfl,_,_,rfl,rfl,rfl⟩
theorem mZ (mx:Bool):∀ {xs:List V} {vs:List Value} {x:V} {v:Value} {r:V},VRy ρ w x v -> VRs ρ (St ρ w) w xs vs -> fw mx x xs = some r →
 ∃ u,(vs.foldlM (if mx then Builtin.max2 else Builtin.min2) v).run P w = .ok u w /\ VRy ρ w r u
 | [],vs,x,v,r,hx,hxs,hm=>by
  simp only [VRs] at hxs;subst hxs;simp [fw] at hm;subst hm;exact ⟨v,by simp,hx⟩
 | y :: ys,vs,x,v,r,hx,hxs,hm=>by
  simp only [VRs] at hxs;obtain ⟨u,us,rfl,hy,hys⟩:=hxs;unfold fw at hm;split at hm
  · rename_i heq; cases heq
  · rename_i k1 n1 k2 n2 l heq;cases heq;split at hm
    · rename_i hk;subst hk;rw [cB hx,cB hy];obtain ⟨u',h1,h2⟩:=mZ mx (v:=.int k1 (if mx then (if n2 > n1 then n2 else n1) else (if n2 < n1 then n2 else n1))) (by simp only [VR,DR]) hys hm;refine ⟨u',?_,h2⟩;rw [List.foldlM_cons,Sem.run_bind];cases mx <;> simp [Builtin.max2,Builtin.min2] at h1 ⊢ <;> exact h1
    · cases hm
  · cases hm
end
end
end Go.Proofs.YtjkfknafpgfchaaGreat
