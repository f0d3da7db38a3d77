/- Rows and policies but for nil and empty: when they are the same; whether they may be. -/
import Derived.Test.YtjkfknafpgfchaaGreatWo
import Derived.Test.YtjkfknafpgfchaaGreatCp
import Derived.Test.YtjkfknafpgfchaaGreatWa
import Derived.Test.YtjkfknafpgfchaaGreatGn
set_option linter.unusedVariables false
set_option linter.unusedSimpArgs false
set_option maxRecDepth 100000
namespace Go.Proofs.YtjkfknafpgfchaaGreat
section
theorem bX {α β:Type} {f:α -> α -> Bool} {g:α -> β} (h:∀ x y,f x y = true ↔ g x = g y):∀ {l m:List α},all2 f l m = true ↔ l.map g = m.map g
 | [],[]=>by simp [all2]
 | [],y :: m=>by simp [all2]
 | x :: l,[]=>by simp [all2]
 | x :: l,y :: m=>by
  have ih:=bX (f:=f) (g:=g) h (l:=l) (m:=m);simp only [all2,Bool.and_eq_true,List.map_cons,List.cons.injEq];rw [h x y,ih]
def Sl.nf {α:Type} (f:α -> α) (s:Sl α):Sl α:=⟨false,s.l.map f⟩
theorem Sl.nf_iff {α:Type} {f:α -> α} {s t:Sl α}:s.nf f = t.nf f ↔ s.l.map f = t.l.map f:=by
 simp [Sl.nf]
def Source.nf (s:Source):Source:=⟨s.names.nf id,s.spaces.nf id,s.nets.nf id⟩
def Target.nf (s:Target):Target:=⟨s.ports.nf id,s.methods.nf id,s.paths.nf id,s.hosts.nf id⟩
def When.nf (s:When):When:=⟨s.head,s.terms.nf id⟩
def Rule.nf (s:Rule):Rule:=⟨s.frm.nf Source.nf,s.to.nf Target.nf,s.whn.nf When.nf⟩
def Pol.nf (s:Pol):Pol:={ s with rules:=s.rules.nf Rule.nf }
theorem qf {l m:List Term}:all2 Term.eqB l m = true ↔ l.map id = m.map id:=bX (f:=Term.eqB) (g:=id) fun _ _=>Term.eqB_iff
theorem Db {l m:List Cidr}:all2 Cidr.eqB l m = true ↔ l.map id = m.map id:=bX (f:=Cidr.eqB) (g:=id) fun _ _=>Cidr.eqB_iff
theorem xy {l m:List Int}:all2 (fun x y:Int=>x == y) l m = true ↔ l.map id = m.map id:=bX (f:=fun x y:Int=>x == y) (g:=id) fun _ _=>by simp
theorem Source.same_iff {a b:Source}:a.same b = true ↔ a.nf = b.nf:=by
 simp only [Source.same,Bool.and_eq_true,qf,Db,Source.nf,Source.mk.injEq,Sl.nf_iff]
theorem Target.same_iff {a b:Target}:a.same b = true ↔ a.nf = b.nf:=by
 simp only [Target.same,Bool.and_eq_true,qf,xy,Target.nf,Target.mk.injEq,Sl.nf_iff];constructor
 · rintro ⟨h1,h2,h3,h4⟩; exact ⟨h4,h1,h2,h3⟩
 · rintro ⟨h4,h1,h2,h3⟩; exact ⟨h1,h2,h3,h4⟩
theorem When.same_iff {a b:When}:a.same b = true ↔ a.nf = b.nf:=by
 simp only [When.same,Bool.and_eq_true,qf,eqS_iff,When.nf,When.mk.injEq,Sl.nf_iff]
theorem Rule.same_iff {a b:Rule}:a.same b = true ↔ a.nf = b.nf:=by
 simp only [Rule.same,Bool.and_eq_true,bX (fun x y=>Source.same_iff (a:=x) (b:=y)),bX (fun x y=>Target.same_iff (a:=x) (b:=y)),bX (fun x y=>When.same_iff (a:=x) (b:=y)),Rule.nf,Rule.mk.injEq,Sl.nf_iff]
theorem Pol.same_iff {a b:Pol}:a.same b = true ↔ a.nf = b.nf:=by
 simp only [Pol.same,Bool.and_eq_true,beq_iff_eq,eqS_iff,bX (fun x y=>Rule.same_iff (a:=x) (b:=y)),Pol.nf,Pol.mk.injEq,Sl.nf_iff]
theorem uT {α:Type} {p:α -> Bool} {f:α -> α} (h:∀ x,p (f x) = p x) (s:Sl α):(s.nf f).l.all p = s.l.all p:=by
 simp only [Sl.nf,List.all_map]
 congr 1
 funext x;exact h x
theorem lK (s:Sl Term):aR (s.nf id) = aR s:=by simp [aR,Sl.nf]
theorem vY (s:Source):dM s.nf = dM s:=by
 simp only [dM,Source.nf,lK];simp [jl,Sl.nf]
theorem wm (s:Target):aU s.nf = aU s:=by
 simp only [aU,Target.nf,lK];simp [Sl.nf]
theorem Bq (s:When):gu s.nf = gu s:=by
 simp only [gu,When.nf,lK];simp [Sl.nf]
theorem AJ (s:Rule):dW s.nf = dW s:=by
 simp only [dW,Rule.nf,uT vY,uT wm,uT Bq];simp [Sl.nf]
theorem pW (p:Pol):aS p.nf = aS p:=by
 simp only [aS,Pol.nf,uT AJ];simp only [Sl.nf,List.length_map];rfl
end
section
abbrev Pr (α:Type):=List Int -> Option (α × List Int)
def Pr.ret {α:Type} (x:α):Pr α:=fun b=>some (x,b)
def Pr.seq {α β:Type} (p:Pr α) (q:Pr β):Pr (α × β):=fun b=>match p b with
 | some (x,l)=>match q l with
  | some (y,m)=>some ((x,y),m)
  | none=>none
 | none=>none
def Pr.map {α β:Type} (f:α -> β) (p:Pr α):Pr β:=fun b=>match p b with
 | some (x,l)=>some (f x,l)
 | none=>none
def Pr.keep {α:Type} (p:Pr α) (ok:α -> Bool):Pr α:=fun b=>match p b with
 | some (x,l)=>if ok x = true then some (x,l) else none
 | none=>none
def byteL (b:List Int):Prop:=∀ c ∈ b,0 <= c /\ c < 256
theorem byteL.app {a b:List Int}:byteL (a ++ b) ↔ byteL a /\ byteL b:=by
 simp only [byteL,List.mem_append];exact ⟨fun h=>⟨fun c hc=>h c (.inl hc),fun c hc=>h c (.inr hc)⟩,fun h c hc=>hc.elim (h.1 c) (h.2 c)⟩
theorem byteL.nil:byteL []:=fun c hc=>by cases hc
theorem byteL.cons {a:Int} {b:List Int}:byteL (a :: b) ↔ (0 <= a /\ a < 256) /\ byteL b:=by
 simp [byteL]
theorem byteL.flat {α:Type} {e:α -> List Int} {l:List α} (h:∀ x ∈ l,byteL (e x)):byteL (l.flatMap e):=fun c hc=>by
 obtain ⟨x,hx,hcx⟩:=List.mem_flatMap.1 hc;exact h x hx c hcx
structure Cod {α:Type} (p:Pr α) (e:α -> List Int) (ok:α -> Prop):Prop where
 rng:∀ x,ok x -> byteL (e x)
 fwd:∀ x l,ok x -> p (e x ++ l) = some (x,l)
 bwd:∀ b x l,byteL b -> p b = some (x,l) -> b = e x ++ l /\ ok x
theorem Cod.seq {α β:Type} {p:Pr α} {q:Pr β} {e:α -> List Int} {f:β -> List Int} {ok:α -> Prop} {ok':β -> Prop} (h:Cod p e ok) (k:Cod q f ok') :
 Cod (p.seq q) (fun x=>e x.1 ++ f x.2) (fun x=>ok x.1 /\ ok' x.2) where
 rng x hx:=byteL.app.2 ⟨h.rng _ hx.1,k.rng _ hx.2⟩
 fwd x l hx:=by
  unfold Pr.seq;rw [List.append_assoc,h.fwd x.1 _ hx.1];simp only [k.fwd x.2 _ hx.2]
 bwd b x l hb hx:=by
  unfold Pr.seq at hx;split at hx
  · rename_i y m h1;split at hx
    · rename_i z n h2;cases hx;obtain ⟨a1,a2⟩:=h.bwd _ _ _ hb h1;subst a1;obtain ⟨c1,c2⟩:=k.bwd _ _ _ (byteL.app.1 hb).2 h2;exact ⟨by rw [List.append_assoc,← c1],a2,c2⟩
    · cases hx
  · cases hx
theorem Cod.iso {α β:Type} {p:Pr α} {e:α -> List Int} {ok:α -> Prop} (h:Cod p e ok) (f:α -> β) (g:β -> α) {e':β -> List Int} {ok':β -> Prop}
 (hg:∀ y,ok' y -> ok (g y) /\ f (g y) = y) (hf:∀ x,ok x -> ok' (f x)) (he:∀ x,ok x -> e' (f x) = e x):Cod (p.map f) e' ok' where
 rng y hy:=by
  obtain ⟨h1,h2⟩:=hg y hy;have h3:=he _ h1;rw [h2] at h3;rw [h3]; exact h.rng _ h1
 fwd y l hy:=by
  obtain ⟨h1,h2⟩:=hg y hy;have h3:=he _ h1;rw [h2] at h3;unfold Pr.map;rw [h3,h.fwd _ _ h1];simp only [h2]
 bwd b y l hb hy:=by
  unfold Pr.map at hy;split at hy
  · rename_i x m h1;cases hy;obtain ⟨a1,a2⟩:=h.bwd _ _ _ hb h1;exact ⟨by rw [he _ a2]; exact a1,hf _ a2⟩
  · cases hy
theorem Cod.keep {α:Type} {p:Pr α} {e:α -> List Int} {ok:α -> Prop} (h:Cod p e ok) (may:α -> Bool):Cod (p.keep may) e (fun x=>ok x /\ may x = true) where
 rng x hx:=h.rng x hx.1
 fwd x l hx:=by
  unfold Pr.keep;rw [h.fwd _ _ hx.1];simp only [hx.2,if_true]
 bwd b x l hb hx:=by
  unfold Pr.keep at hx;split at hx
  · rename_i y m h1;split at hx
    · rename_i hm;cases hx;obtain ⟨a1,a2⟩:=h.bwd _ _ _ hb h1;exact ⟨a1,a2,hm⟩
    · cases hx
  · cases hx
theorem Cod.weaken {α:Type} {p:Pr α} {e:α -> List Int} {ok ok':α -> Prop} (h:Cod p e ok) (k:∀ x,ok x ↔ ok' x):Cod p e ok' :=
 ⟨fun x hx=>h.rng x ((k x).2 hx),fun x l hx=>h.fwd x l ((k x).2 hx),fun b x l hb hx=>⟨(h.bwd b x l hb hx).1,(k x).1 (h.bwd b x l hb hx).2⟩⟩
theorem Cod.inj {α:Type} {p:Pr α} {e:α -> List Int} {ok:α -> Prop} (h:Cod p e ok) {x y:α} (hx:ok x) (hy:ok y) (he:e x = e y):x = y:=by
 have h1:=h.fwd x [] hx;have h2:=h.fwd y [] hy;rw [he,h2] at h1;cases h1; rfl
def pV {α:Type} (p:Pr α):Nat -> Pr (List α)
 | 0=>Pr.ret []
 | n + 1=>Pr.map (fun x=>x.1 :: x.2) (p.seq (pV p n))
theorem Cod.row {α:Type} {p:Pr α} {e:α -> List Int} {ok:α -> Prop} (h:Cod p e ok):∀ n,Cod (pV p n) (fun l=>l.flatMap e) (fun l=>l.length = n /\ ∀ x ∈ l,ok x)
 | 0=>⟨fun x hx=>byteL.flat fun y hy=>h.rng y (hx.2 y hy),fun x l hx=>by
  have:x = []:=List.eq_nil_of_length_eq_zero hx.1;subst this; rfl,fun b x l hb hx=>by
  simp only [pV,Pr.ret,Option.some.injEq,Prod.mk.injEq] at hx;obtain ⟨rfl,rfl⟩:=hx;exact ⟨rfl,rfl,fun x hx=>by cases hx⟩⟩
 | n + 1=>⟨fun x hx=>byteL.flat fun y hy=>h.rng y (hx.2 y hy),fun x l hx=>by
  cases x with
  | nil=>exact absurd hx.1 (by simp)
  | cons y ys =>
   have k:=(h.seq (Cod.row h n)).fwd (y,ys) l ⟨hx.2 y (by simp),by simpa using hx.1,fun z hz=>hx.2 z (by simp [hz])⟩;simp only [pV,Pr.map,List.flatMap_cons];rw [k],fun b x l hb hx=>by
  simp only [pV,Pr.map] at hx;split at hx
  · rename_i y m h1;cases hx;obtain ⟨a1,a2,a3,a4⟩:=(h.seq (Cod.row h n)).bwd _ _ _ hb h1;exact ⟨by simpa using a1,by simp [a3],fun z hz=>(List.mem_cons.1 hz).elim (fun e=>e ▸ a2) (a4 z)⟩
  · cases hx⟩
def iy:Nat -> Int -> List Int -> Option (Int × List Int)
 | _,_,[]=>none
 | i,x,c :: l=>if i = 9 /\ c > 1 then none
  else if c < 128 then (if dP (x + c % 128 * 128 ^ i) = i + 1 then some (x + c % 128 * 128 ^ i,l) else none)
  else iy (i + 1) (x + c % 128 * 128 ^ i) l
def pUint:Pr Int:=iy 0 0
theorem wrap_u8 (x:Int):IntKind.wrap .u8 x = x % 256:=by simp [IntKind.wrap,IntKind.bits,IntKind.signed]
theorem TV:((List.range 256).all fun a=>decide (orI .u8 (a:Int) 128 = (a:Int) % 128 + 128)) = true:=by decide +kernel
theorem zW (x:Int):orI .u8 (IntKind.wrap .u8 x) 128 = x % 128 + 128:=by
 rw [wrap_u8];have h:=List.all_eq_true.1 TV (x % 256).toNat (List.mem_range.2 (by omega));simp only [decide_eq_true_eq] at h;have e:(((x % 256).toNat:Nat):Int) = x % 256:=by omega
 rw [e] at h;rw [h]; omega
theorem Jt:∀ (k i:Nat) (y acc:Int) (l:List Int),0 <= y -> y < 128 ^ (k + 1) -> 0 <= acc -> acc + y * 128 ^ i < 2 ^ 64 -> dP (acc + y * 128 ^ i) = i + k + 1 -> iy i acc (iD k y ++ l) = some (acc + y * 128 ^ i,l):=by
 intro k
 induction k with
 | zero =>
  intro i y acc l h0 h1 ha hx hg;have hy:y < 128:=by simpa using h1
  have hw:IntKind.wrap .u8 y = y:=by rw [wrap_u8]; omega
  have hm:y % 128 = y:=by omega
  have h9:¬ (i = 9 /\ y > 1):=by
   rintro ⟨rfl,hy1⟩;have h128:(128:Int) ^ 9 = 2 ^ 63:=by decide
   rw [h128] at hx;omega
  simp only [iD,List.cons_append,List.nil_append,iy,hw];rw [if_neg h9,if_pos hy,hm,if_pos (by rw [hg]; omega)]
 | succ k ih =>
  intro i y acc l h0 h1 ha hx hg;have hd:y.fdiv 128 = y / 128:=Int.fdiv_eq_ediv_of_nonneg _ (by omega);have hgl:=(qX (acc + y * 128 ^ i)).2;have h9:¬ (i = 9 /\ y % 128 + 128 > 1):=by rintro ⟨rfl,_⟩; omega
  have hlt:¬ (y % 128 + 128 < 128):=by omega
  have hm:(y % 128 + 128) % 128 = y % 128:=by omega
  have hp:(0:Int) < 128 ^ i:=Int.pow_pos (by omega);have he:acc + y % 128 * 128 ^ i + y / 128 * 128 ^ (i + 1) = acc + y * 128 ^ i:=by
   rw [Int.pow_succ,Int.mul_comm (128 ^ i) 128,← Int.mul_assoc,Int.add_assoc,← Int.add_mul]
   congr 2; omega
  have h1':y / 128 < 128 ^ (k + 1):=by
   rw [Int.pow_succ] at h1;exact (Int.ediv_lt_iff_lt_mul (by omega)).2 h1
  have hacc:0 <= acc + y % 128 * 128 ^ i:=Int.add_nonneg ha (Int.mul_nonneg (by omega) (Int.le_of_lt hp));have:=ih (i + 1) (y / 128) (acc + y % 128 * 128 ^ i) l (by omega) h1' hacc (by rw [he]; exact hx) (by rw [he,hg]; push_cast; omega);simp only [iD,List.cons_append,iy,zW,hd];rw [if_neg h9,if_neg hlt,hm,this,he]
theorem Js:∀ (b:List Int) (i:Nat) (acc x:Int) (l:List Int),byteL b -> 0 <= acc -> acc < 128 ^ i -> i <= 9 -> iy i acc b = some (x,l) →
 ∃ (k:Nat) (y:Int),b = iD k y ++ l /\ 0 <= y /\ x = acc + y * 128 ^ i /\ dP x = i + k + 1 /\ 0 <= x /\ x < 2 ^ 64:=by
 intro b
 induction b with
 | nil=>intro i acc x l _ _ _ _ h; simp [iy] at h
 | cons c b ih =>
  intro i acc x l hb h0 h1 hi h;obtain ⟨hc,hb'⟩:=byteL.cons.1 hb;have hp:(0:Int) < 128 ^ i:=Int.pow_pos (by omega);simp only [iy] at h;split at h
  · cases h
  · rename_i h9;split at h
    · rename_i hlt;split at h
      · rename_i hg;cases h;have hm:c % 128 = c:=by omega
        rw [hm] at hg ⊢;have hnn:0 <= c * 128 ^ i:=Int.mul_nonneg hc.1 (Int.le_of_lt hp);refine ⟨0,c,by simp only [iD,wrap_u8,List.cons_append,List.nil_append]; congr 1; omega,hc.1,rfl,by rw [hg]; push_cast; omega,by omega,?_⟩;by_cases hi9:i = 9
        · subst hi9;have h128:(128:Int) ^ 9 = 2 ^ 63:=by decide
          rw [h128] at h1 ⊢;have:c <= 1:=by
           by_cases hc1:c <= 1
           · exact hc1
           · exact absurd ⟨rfl,by omega⟩ h9
          omega
        · have h8:(128:Int) ^ i <= 128 ^ 8:=by
           have:i <= 8:=by omega
           exact_mod_cast Nat.pow_le_pow_right (by omega:0 < 128) this
          have h128:(128:Int) ^ 8 = 2 ^ 56:=by decide
          have h2:c * 128 ^ i <= 127 * 128 ^ i:=Int.mul_le_mul_of_nonneg_right (by omega) (Int.le_of_lt hp);rw [h128] at h8;omega
      · cases h
    · rename_i hge;have hi8:i <= 8:=by
       by_cases hi9:i = 9
       · exact absurd ⟨hi9,by omega⟩ h9
       · omega
      have hnn:0 <= c % 128 * 128 ^ i:=Int.mul_nonneg (by omega) (Int.le_of_lt hp);have hlt:acc + c % 128 * 128 ^ i < 128 ^ (i + 1):=by
       have h2:c % 128 * 128 ^ i <= 127 * 128 ^ i:=Int.mul_le_mul_of_nonneg_right (by omega) (Int.le_of_lt hp);rw [Int.pow_succ]; omega
      obtain ⟨k,y,e1,e2,e3,e4,e5,e6⟩:=ih (i + 1) _ x l hb' (by omega) hlt (by omega) h;have hw:(c % 128 + 128 * y) % 128 = c % 128:=by omega
      have hd:(c % 128 + 128 * y).fdiv 128 = y:=by rw [Int.fdiv_eq_ediv_of_nonneg _ (by omega)]; omega
      refine ⟨k + 1,c % 128 + 128 * y,?_,by omega,?_,by rw [e4]; push_cast; omega,e5,e6⟩
      · simp only [iD,zW,hd,hw,List.cons_append];rw [← e1]
        congr 1; omega
      · rw [e3,Int.pow_succ,Int.add_mul,Int.mul_comm (128 ^ i) 128,← Int.mul_assoc,Int.mul_comm y 128,Int.add_assoc]
theorem jd:∀ (k:Nat) (x:Int),byteL (iD k x)
 | 0,x=>by simp only [iD,byteL.cons,wrap_u8]; exact ⟨by omega,byteL.nil⟩
 | k + 1,x=>by simp only [iD,byteL.cons,zW]; exact ⟨by omega,jd k _⟩
theorem uint_cod:Cod pUint aM (fun x=>0 <= x /\ x < 2 ^ 64) where
 rng x _:=jd _ _
 fwd x l hx:=by
  obtain ⟨h0,h1⟩:=hx;have hg:=qX x;obtain ⟨a0,a1,_⟩:=Gy h0 h1;have hl:=oz x;have hgeq:=KN x;have e:((dP x).toNat - 1 + 1:Nat) = (dP x).toNat:=by omega
  have hlt:x < 128 ^ ((dP x).toNat - 1 + 1):=by
   rw [e];have h7:(128:Int) ^ (dP x).toNat = 2 ^ (7 * (dP x).toNat):=by
    rw [Int.pow_mul]; rfl
   have hle:(bT x).toNat <= 7 * (dP x).toNat:=by split at hgeq <;> omega
   have hpp:(2:Int) ^ (bT x).toNat <= 2 ^ (7 * (dP x).toNat):=by
    exact_mod_cast Nat.pow_le_pow_right (by omega:0 < 2) hle
   rw [h7]; omega
  have:=Jt ((dP x).toNat - 1) 0 x 0 l h0 hlt (Int.le_refl 0) (by simpa using h1) (by simp; omega);simpa [pUint,aM] using this
 bwd b x l hb hx:=by
  obtain ⟨k,y,e1,e2,e3,e4,e5,e6⟩:=Js b 0 0 x l hb (Int.le_refl 0) (by simp) (by omega) hx;have hxy:x = y:=by simpa using e3
  subst hxy;refine ⟨?_,e5,e6⟩;have:(dP x).toNat - 1 = k:=by omega
  rw [aM,this]; exact e1
def bV (most:Int):Pr Int:=pUint.keep fun n=>decide (n <= most)
theorem dL {most:Int} (h:most < 2 ^ 64):Cod (bV most) aM (fun x=>0 <= x /\ x <= most) :=
 (uint_cod.keep _).weaken fun x=>by simp only [decide_eq_true_eq]; omega
def DX {α:Type} (most:Int) (p:Pr α):Pr (List α):=fun b=>match bV most b with
 | some (n,l)=>pV p n.toNat l
 | none=>none
theorem Cod.seqB {α:Type} {p:Pr α} {e:α -> List Int} {ok:α -> Prop} (h:Cod p e ok) {most:Int} (hm:most < 2 ^ 64):Cod (DX most p) (seqB e) (fun l=>(l.length:Int) <= most /\ ∀ x ∈ l,ok x) where
 rng x hx:=byteL.app.2 ⟨jd _ _,byteL.flat fun y hy=>h.rng y (hx.2 y hy)⟩
 fwd x l hx:=by
  unfold DX Go.Proofs.YtjkfknafpgfchaaGreat.seqB;rw [List.append_assoc,(dL hm).fwd _ _ ⟨by omega,hx.1⟩];simp only [Int.toNat_natCast];exact (Cod.row h x.length).fwd x l ⟨rfl,hx.2⟩
 bwd b x l hb hx:=by
  unfold DX at hx;split at hx
  · rename_i n m h1;obtain ⟨a1,a2,a3⟩:=(dL hm).bwd _ _ _ hb h1;subst a1;obtain ⟨c1,c2,c3⟩:=(Cod.row h n.toNat).bwd _ _ _ (byteL.app.1 hb).2 hx;have hn:n = (x.length:Int):=by omega
    refine ⟨?_,by omega,c3⟩;unfold Go.Proofs.YtjkfknafpgfchaaGreat.seqB;rw [List.append_assoc,← c1,hn]
  · cases hx
def pByte:Pr Int
 | []=>none
 | c :: l=>some (c,l)
theorem byte_cod:Cod pByte (fun c=>[c]) (fun c=>0 <= c /\ c < 256) where
 rng c hc:=byteL.cons.2 ⟨hc,byteL.nil⟩
 fwd c l _:=rfl
 bwd b c l hb h:=by
  cases b with
  | nil=>cases h
  | cons a b =>
   simp only [pByte,Option.some.injEq,Prod.mk.injEq] at h;obtain ⟨rfl,rfl⟩:=h;exact ⟨rfl,(byteL.cons.1 hb).1⟩
def pU32:Pr Int
 | a :: b :: c :: d :: l=>some (a + 256 * b + 65536 * c + 16777216 * d,l)
 | _=>none
theorem u32_cod:Cod pU32 yV (fun x=>0 <= x /\ x < 4294967296) where
 rng x _:=by
  simp only [yV,byteL.cons,wrap_u8];exact ⟨by omega,by omega,by omega,by omega,byteL.nil⟩
 fwd x l hx:=by
  have f1:x.fdiv 256 = x / 256:=Int.fdiv_eq_ediv_of_nonneg _ (by omega);have f2:x.fdiv 65536 = x / 65536:=Int.fdiv_eq_ediv_of_nonneg _ (by omega);have f3:x.fdiv 16777216 = x / 16777216:=Int.fdiv_eq_ediv_of_nonneg _ (by omega);simp only [yV,wrap_u8,f1,f2,f3,List.cons_append,List.nil_append,pU32,Option.some.injEq,Prod.mk.injEq,and_true];omega
 bwd b x l hb h:=by
  unfold pU32 at h;split at h
  · rename_i p q r s m;cases h;simp only [byteL.cons] at hb;obtain ⟨h1,h2,h3,h4,_⟩:=hb;have f1:∀ y:Int,y.fdiv 256 = y / 256:=fun y=>Int.fdiv_eq_ediv_of_nonneg _ (by omega);have f2:∀ y:Int,y.fdiv 65536 = y / 65536:=fun y=>Int.fdiv_eq_ediv_of_nonneg _ (by omega);have f3:∀ y:Int,y.fdiv 16777216 = y / 16777216:=fun y=>Int.fdiv_eq_ediv_of_nonneg _ (by omega);refine ⟨?_,by omega,by omega⟩;simp only [yV,wrap_u8,f1,f2,f3,List.cons_append,List.nil_append,List.cons.injEq,and_true];omega
  · cases h
def dJ (s:ByteArray):List Int:=s.toList.map fun b=>(b.toNat:Int)
theorem lq (s:ByteArray):byteL (dJ s):=fun c hc=>by
 obtain ⟨b,_,rfl⟩:=List.mem_map.1 hc;have:=b.toNat_lt;omega
theorem kg (s:ByteArray):(dJ s).length = s.size:=by rw [dJ,List.length_map,iN]
theorem tH (s:ByteArray):strOf (dJ s) = s:=by
 have:(dJ s).map (fun n=>UInt8.ofNat n.toNat) = s.data.toList:=by
  rw [dJ,bv,List.map_map];refine (List.map_congr_left fun b _=>?_).trans (List.map_id _);simp
 rw [strOf,this]
theorem sO {l:List Int} (h:byteL l):dJ (strOf l) = l:=by
 rw [dJ,bv,strOf];simp only [List.map_map];refine (List.map_congr_left fun c hc=>?_).trans (List.map_id _);have:=h c hc;simp only [Function.comp,UInt8.toNat_ofNat',id];omega
def iC (most:Int):Pr ByteArray:=fun b=>match pUint b with
 | some (n,l)=>if n <= most /\ n <= l.length then some (strOf (l.take n.toNat),l.drop n.toNat) else none
 | none=>none
theorem fe (most:Int):Cod (iC most) eP (fun s=>(s.size:Int) <= most /\ s.size < 2 ^ 64) where
 rng s _:=byteL.app.2 ⟨jd _ _,lq s⟩
 fwd s l hs:=by
  have h2:=kg s;unfold iC;have:eP s ++ l = aM s.size ++ (dJ s ++ l):=by rw [← List.append_assoc]; rfl
  rw [this,uint_cod.fwd _ _ ⟨by omega,by omega⟩];simp only [Int.toNat_natCast,List.length_append];rw [if_pos ⟨hs.1,by omega⟩,List.take_left' h2,List.drop_left' h2,tH]
 bwd b s l hb h:=by
  unfold iC at h;split at h
  · rename_i n m h1;obtain ⟨a1,a2,a3⟩:=uint_cod.bwd _ _ _ hb h1;subst a1;have hm:=(byteL.app.1 hb).2;split at h
    · rename_i hc;cases h;have hb2:byteL (m.take n.toNat):=fun c hc=>hm c (List.mem_of_mem_take hc);have hsz:(strOf (m.take n.toNat)).size = n.toNat:=by rw [gN,List.length_take]; omega
      refine ⟨?_,by omega,by omega⟩;have:eP (strOf (m.take n.toNat)) = aM n ++ m.take n.toNat:=by
       have e1:eP (strOf (m.take n.toNat)) = aM (strOf (m.take n.toNat)).size ++ dJ (strOf (m.take n.toNat)):=rfl;rw [e1,sO hb2,hsz]
       congr 2; omega
      rw [this,List.append_assoc,List.take_append_drop]
    · cases h
  · cases h
end
section
theorem wrap_u64 (x:Int):IntKind.wrap .u64 x = x % 18446744073709551616:=by simp [IntKind.wrap,IntKind.bits,IntKind.signed]
def SlOk {α:Type} (most:Int) (ok:α -> Prop) (s:Sl α):Prop:=s.nl = s.l.isEmpty /\ (s.l.length:Int) <= most /\ ∀ x ∈ s.l,ok x
def pSl {α:Type} (most:Int) (p:Pr α):Pr (Sl α):=(DX most p).map fun l=>⟨l.isEmpty,l⟩
theorem Cod.sl {α:Type} {p:Pr α} {e:α -> List Int} {ok:α -> Prop} (h:Cod p e ok) {most:Int} (hm:most < 2 ^ 64):Cod (pSl most p) (fun s=>Go.Proofs.YtjkfknafpgfchaaGreat.seqB e s.l) (SlOk most ok) :=
 (h.seqB hm).iso (fun l=>(⟨l.isEmpty,l⟩:Sl α)) Sl.l (fun s hs=>⟨hs.2,by obtain ⟨n,l⟩:=s; have:=hs.1; simp only at this; rw [this]⟩) (fun l hl=>⟨rfl,hl⟩) (fun l hl=>rfl)
def Sl.can {α:Type} (f:α -> α) (s:Sl α):Sl α:=⟨s.l.isEmpty,s.l.map f⟩
theorem Sl.can_ok {α:Type} {f:α -> α} {most:Int} {ok:α -> Prop} {s:Sl α} (h1:(s.l.length:Int) <= most) (h2:∀ x ∈ s.l,ok (f x)):SlOk most ok (s.can f) :=
 ⟨by simp [Sl.can],by simpa [Sl.can] using h1,fun x hx=>by
  obtain ⟨y,hy,rfl⟩:=List.mem_map.1 hx;exact h2 y hy⟩
theorem Sl.can_nf {α:Type} {f g:α -> α} (h:∀ x,g (f x) = g x) (s:Sl α):(s.can f).nf g = s.nf g:=by
 simp only [Sl.can,Sl.nf,List.map_map]
 congr 1
 exact List.map_congr_left fun x _=>h x
theorem og {α β:Type} {f g:α -> List β} {l:List α} (h:∀ x ∈ l,f x = g x):l.flatMap f = l.flatMap g:=by
 induction l with
 | nil=>rfl
 | cons x l ih=>simp only [List.flatMap_cons,h x (by simp),ih fun y hy=>h y (by simp [hy])]
theorem oU {α:Type} {e:α -> List Int} {f:α -> α} (h:∀ x,e (f x) = e x) (l:List α):seqB e (l.map f) = seqB e l:=by
 simp only [seqB,List.length_map,List.flatMap_map]
 congr 1
 exact og fun x _=>h x
def termOk (t:Term):Prop:=(0 <= t.kind /\ t.kind < 256) /\ ((t.text.size:Int) <= 64 /\ t.text.size < 2 ^ 64)
def xW:Pr Term:=(pByte.seq (iC 64)).map fun x=>⟨x.1,x.2⟩
theorem term_cod:Cod xW jc termOk :=
 (byte_cod.seq (fe 64)).iso (fun x=>(⟨x.1,x.2⟩:Term)) (fun t=>(t.kind,t.text)) (fun t ht=>⟨ht,rfl⟩) (fun x hx=>hx) (fun x hx=>by
   have h:=hx.1;simp only [jc,wrap_u8,List.cons_append,List.nil_append]
   congr 1; omega)
def cidrOk (t:Cidr):Prop:=(0 <= t.addr /\ t.addr < 4294967296) /\ (0 <= t.bits /\ t.bits < 256)
def xU:Pr Cidr:=(pU32.seq pByte).map fun x=>⟨x.1,x.2⟩
theorem cidr_cod:Cod xU mI cidrOk :=
 (u32_cod.seq byte_cod).iso (fun x=>(⟨x.1,x.2⟩:Cidr)) (fun t=>(t.addr,t.bits)) (fun t ht=>⟨ht,rfl⟩) (fun x hx=>hx) (fun x hx=>by
   have h:=hx.2;simp only [mI,wrap_u8]
   congr 2; omega)
def H7 (n:Int):Prop:=0 <= n /\ n <= 65536
def Ck:Pr Int:=bV 65536
theorem port_cod:Cod Ck lD H7:=by
 have h:=dL (most:=65536) (by decide);refine ⟨fun x hx=>jd _ _,fun x l hx=>?_,fun b x l hb hx=>?_⟩
 · have e:lD x = aM x:=by rw [lD,wrap_u64]; congr 1; have:=hx.1; have:=hx.2; omega
   rw [e]; exact h.fwd x l hx
 · obtain ⟨a1,a2⟩:=h.bwd b x l hb hx;have e:lD x = aM x:=by rw [lD,wrap_u64]; congr 1; have:=a2.1; have:=a2.2; omega
   exact ⟨by rw [e]; exact a1,a2⟩
abbrev TmOk:Sl Term -> Prop:=SlOk 6 termOk
abbrev pTerms:Pr (Sl Term):=pSl 6 xW
theorem terms_cod:Cod pTerms (fun s=>seqB jc s.l) TmOk:=term_cod.sl (by decide)
def sourceOk (s:Source):Prop:=TmOk s.names /\ TmOk s.spaces /\ SlOk 6 cidrOk s.nets
def oK:Pr Source:=(pTerms.seq (pTerms.seq (pSl 6 xU))).map fun x=>⟨x.1,x.2.1,x.2.2⟩
theorem source_cod:Cod oK dX sourceOk :=
 (terms_cod.seq (terms_cod.seq (cidr_cod.sl (most:=6) (by decide)))).iso (fun x=>(⟨x.1,x.2.1,x.2.2⟩:Source)) (fun t=>(t.names,t.spaces,t.nets)) (fun t ht=>⟨ht,rfl⟩) (fun x hx=>hx) (fun x hx=>by
   simp [dX,gp])
def targetOk (s:Target):Prop:=SlOk 6 H7 s.ports /\ TmOk s.methods /\ TmOk s.paths /\ TmOk s.hosts
def oL:Pr Target:=((pSl 6 Ck).seq (pTerms.seq (pTerms.seq pTerms))).map fun x=>⟨x.1,x.2.1,x.2.2.1,x.2.2.2⟩
theorem target_cod:Cod oL dY targetOk :=
 ((port_cod.sl (most:=6) (by decide)).seq (terms_cod.seq (terms_cod.seq terms_cod))).iso (fun x=>(⟨x.1,x.2.1,x.2.2.1,x.2.2.2⟩:Target)) (fun t=>(t.ports,t.methods,t.paths,t.hosts)) (fun t ht=>⟨ht,rfl⟩) (fun x hx=>hx) (fun x hx=>by
  simp [dY,gp])
def whenOk (s:When):Prop:=((s.head.size:Int) <= 64 /\ s.head.size < 2 ^ 64) /\ TmOk s.terms
def yc:Pr When:=((iC 64).seq pTerms).map fun x=>⟨x.1,x.2⟩
theorem when_cod:Cod yc jD whenOk :=
 ((fe 64).seq terms_cod).iso (fun x=>(⟨x.1,x.2⟩:When)) (fun t=>(t.head,t.terms)) (fun t ht=>⟨ht,rfl⟩) (fun x hx=>hx) (fun x hx=>by
  simp [jD,gp])
def ruleOk (s:Rule):Prop:=SlOk 3 sourceOk s.frm /\ SlOk 3 targetOk s.to /\ SlOk 3 whenOk s.whn
def xV:Pr Rule:=((pSl 3 oK).seq ((pSl 3 oL).seq (pSl 3 yc))).map fun x=>⟨x.1,x.2.1,x.2.2⟩
theorem rule_cod:Cod xV jr ruleOk :=
 ((source_cod.sl (most:=3) (by decide)).seq ((target_cod.sl (most:=3) (by decide)).seq (when_cod.sl (most:=3) (by decide)))).iso (fun x=>(⟨x.1,x.2.1,x.2.2⟩:Rule)) (fun t=>(t.frm,t.to,t.whn)) (fun t ht=>⟨ht,rfl⟩) (fun x hx=>hx) (fun x hx=>rfl)
abbrev fq (n:Int):Prop:=0 <= n /\ n < 2 ^ 64
abbrev lL (most:Int) (s:ByteArray):Prop:=(s.size:Int) <= most /\ s.size < 2 ^ 64
def polOk (p:Pol):Prop:=fq p.id /\ lL 20 p.ns /\ fq p.service /\ (0 <= p.deny /\ p.deny <= 1) /\ SlOk 6 ruleOk p.rules
def K4:Pr Pol:=(pUint.seq ((iC 20).seq (pUint.seq ((bV 1).seq (pSl 6 xV))))).map fun x=>⟨x.1,x.2.1,x.2.2.1,x.2.2.2.1,x.2.2.2.2⟩
theorem pol_cod:Cod K4 gI polOk :=
 (uint_cod.seq ((fe 20).seq (uint_cod.seq ((dL (most:=1) (by decide)).seq (rule_cod.sl (most:=6) (by decide)))))).iso (fun x=>(⟨x.1,x.2.1,x.2.2.1,x.2.2.2.1,x.2.2.2.2⟩:Pol)) (fun t=>(t.id,t.ns,t.service,t.deny,t.rules)) (fun t ht=>⟨ht,rfl⟩) (fun x hx=>hx) (fun x hx=>by
   have h:=hx.2.2.2.1;have e:IntKind.wrap .u64 x.2.2.2.1 = x.2.2.2.1:=by rw [wrap_u64]; omega
   simp [gI,e])
def nX (b:List Int):Option Pol:=match K4 b with
 | some (p,[])=>if aS p = true then some p else none
 | _=>none
theorem FM {p:Pol} (h:polOk p) (hm:aS p = true):nX (gI p) = some p:=by
 have:=pol_cod.fwd p [] h;rw [List.append_nil] at this;rw [nX,this]; simp [hm]
theorem FL {b:List Int} {p:Pol} (hb:byteL b) (h:nX b = some p):b = gI p /\ polOk p /\ aS p = true:=by
 unfold nX at h;split at h
 · rename_i q h1;split at h
   · rename_i hm;cases h;obtain ⟨a1,a2⟩:=pol_cod.bwd _ _ _ hb h1;exact ⟨by simpa using a1,a2,hm⟩
   · cases h
 · cases h
def lC (most:Int):Pr Pol:=fun b=>match iC most b with
 | some (s,l)=>match nX (dJ s) with
  | some p=>some (p,l)
  | none=>none
 | none=>none
def Ac (most:Int) (p:Pol):Prop:=polOk p /\ aS p = true /\ ((gI p).length:Int) <= most
theorem polT_cod {most:Int}:Cod (lC most) fH (Ac most) where
 rng p hp:=(fe ((gI p).length)).rng _ ⟨by rw [gN]; omega,by rw [gN]; have:=lW hp.2.1; omega⟩
 fwd p l hp:=by
  unfold lC fH;rw [(fe most).fwd _ _ ⟨by rw [gN]; exact hp.2.2,by rw [gN]; have:=lW hp.2.1; omega⟩];simp only [sO (pol_cod.rng p hp.1),FM hp.1 hp.2.1]
 bwd b p l hb h:=by
  unfold lC at h;split at h
  · rename_i s m h1;split at h
    · rename_i q h2;cases h;obtain ⟨a1,a2⟩:=(fe most).bwd _ _ _ hb h1;obtain ⟨c1,c2,c3⟩:=FL (lq s) h2;have hs:strOf (gI p) = s:=by rw [← c1,tH]
      refine ⟨by rw [fH,hs]; exact a1,c2,c3,?_⟩;rw [← c1,kg]; exact a2.1
    · cases h
  · cases h
def podOk (p:Pod):Prop:=fq p.uid /\ lL 20 p.ns /\ lL 20 p.sa /\ (0 <= p.host /\ p.host <= 9) /\ (0 <= p.addr /\ p.addr <= 4294967295) /\ (0 <= p.port /\ p.port <= 65535) /\ fq p.service
def svcOk (p:Svc):Prop:=fq p.id /\ lL 20 p.ns /\ (0 <= p.addr /\ p.addr <= 4294967295) /\ (0 <= p.port /\ p.port <= 65535) /\ fq p.way
def wayOk (p:Way):Prop:=fq p.id /\ (0 <= p.node /\ p.node <= 9)
def cfgOk (c:Cfg):Prop:=fq c.epoch /\ fq c.next /\ (0 <= c.hosts /\ c.hosts <= 4) /\ (0 <= c.ways /\ c.ways <= 4) /\ SlOk 16 podOk c.pods /\ SlOk 6 svcOk c.services /\ SlOk 4 wayOk c.bound /\ SlOk 12 (Ac 8192) c.policies
def Source.can (s:Source):Source:=⟨s.names.can id,s.spaces.can id,s.nets.can id⟩
def Target.can (s:Target):Target:=⟨s.ports.can id,s.methods.can id,s.paths.can id,s.hosts.can id⟩
def When.can (s:When):When:=⟨s.head,s.terms.can id⟩
def Rule.can (s:Rule):Rule:=⟨s.frm.can Source.can,s.to.can Target.can,s.whn.can When.can⟩
def Pol.can (s:Pol):Pol:={ s with rules:=s.rules.can Rule.can }
def Cfg.can (c:Cfg):Cfg:={ c with pods:=c.pods.can id,services:=c.services.can id,bound:=c.bound.can id,policies:=c.policies.can Pol.can }
theorem Source.can_nf (s:Source):s.can.nf = s.nf:=by simp [Source.can,Source.nf,Sl.can_nf]
theorem Target.can_nf (s:Target):s.can.nf = s.nf:=by simp [Target.can,Target.nf,Sl.can_nf]
theorem When.can_nf (s:When):s.can.nf = s.nf:=by simp [When.can,When.nf,Sl.can_nf]
theorem Rule.can_nf (s:Rule):s.can.nf = s.nf:=by simp [Rule.can,Rule.nf,Sl.can_nf,Source.can_nf,Target.can_nf,When.can_nf]
theorem Pol.can_nf (s:Pol):s.can.nf = s.nf:=by simp [Pol.can,Pol.nf,Sl.can_nf,Rule.can_nf]
theorem AX (s:Source):dX s.nf = dX s:=by simp [dX,Source.nf,Sl.nf,gp]
theorem Bb (s:Target):dY s.nf = dY s:=by simp [dY,Target.nf,Sl.nf,gp]
theorem JE (s:When):jD s.nf = jD s:=by simp [jD,When.nf,Sl.nf,gp]
theorem Ja (s:Rule):jr s.nf = jr s:=by
 simp only [jr,Rule.nf,Sl.nf,oU AX,oU Bb,oU JE]
theorem vM (s:Pol):gI s.nf = gI s:=by
 simp only [gI,Pol.nf,Sl.nf,oU Ja]
theorem yg (s:Pol):fH s.nf = fH s:=by rw [fH,vM]; rfl
theorem DZ {p q:Pol} (h:p.nf = q.nf):gI p = gI q:=by rw [← vM p,← vM q,h]
theorem Ab {p q:Pol} (h:p.nf = q.nf):fH p = fH q:=by rw [← yg p,← yg q,h]
theorem qF {p q:Pol} (h:p.nf = q.nf):aS p = aS q:=by rw [← pW p,← pW q,h]
theorem Inr.u64 {n:Int} (h:Inr .u64 n):fq n:=by
 simp [Inr,Lit.wf,IntKind.min,IntKind.max,IntKind.bits,IntKind.signed] at h;exact ⟨h.1,by omega⟩
theorem Inr.u32 {n:Int} (h:Inr .u32 n):0 <= n /\ n <= 4294967295:=by
 simp [Inr,Lit.wf,IntKind.min,IntKind.max,IntKind.bits,IntKind.signed] at h;exact ⟨h.1,by omega⟩
theorem Bc {t:Term} (h:gq t = true):termOk t:=by
 simp only [gq,Bool.and_eq_true] at h;obtain ⟨_,h⟩:=h;split at h
 · rename_i hk;have:=qV h;simp only [beq_iff_eq] at hk;exact ⟨by omega,by omega,by omega⟩
 · simp only [Bool.and_eq_true,decide_eq_true_eq] at h;exact ⟨by omega,by omega,by omega⟩
theorem fJ {s:Sl Term} (h:aR s = true):TmOk (s.can id):=by
 simp only [aR,Bool.and_eq_true,decide_eq_true_eq,List.all_eq_true] at h;exact Sl.can_ok h.1 fun x hx=>Bc (h.2 x hx)
theorem vZ {s:Source} (h:dM s = true) (hw:∀ c ∈ s.nets.l,Inr .u32 c.addr):sourceOk s.can:=by
 simp only [dM,Bool.and_eq_true,jl,decide_eq_true_eq,List.all_eq_true] at h;refine ⟨fJ h.1.1,fJ h.1.2.1,Sl.can_ok h.2.1 fun x hx=>?_⟩;have h2:=h.2.2 x hx;simp only [lQ,Bool.and_eq_true,decide_eq_true_eq] at h2;have h3:=(hw x hx).u32;exact ⟨⟨h3.1,by show x.addr < _; omega⟩,h2.1,by show x.bits < _; omega⟩
theorem wo {s:Target} (h:aU s = true):targetOk s.can:=by
 simp only [aU,Bool.and_eq_true,decide_eq_true_eq,List.all_eq_true] at h;refine ⟨Sl.can_ok h.1.2.1 fun x hx=>?_,fJ h.1.1.1,fJ h.1.1.2.1,fJ h.1.1.2.2.1⟩;have h2:=h.1.2.2 x hx;simp only [ko,Bool.and_eq_true,decide_eq_true_eq] at h2;exact ⟨by show 0 <= x; omega,by show x <= _; omega⟩
theorem Br {s:When} (h:gu s = true):whenOk s.can:=by
 simp only [gu,Bool.and_eq_true,iJ,decide_eq_true_eq] at h;exact ⟨⟨h.1.1.2.2,by show s.head.size < _; have:=h.1.1.2.2; omega⟩,fJ h.1.2.1⟩
theorem AL {s:Rule} (h:dW s = true) (hw:∀ x ∈ s.frm.l,∀ c ∈ x.nets.l,Inr .u32 c.addr):ruleOk s.can:=by
 simp only [dW,Bool.and_eq_true,decide_eq_true_eq,List.all_eq_true] at h;exact ⟨Sl.can_ok h.1.1.1 fun x hx=>vZ (h.1.1.2 x hx) (hw x hx),Sl.can_ok h.1.2.1 fun x hx=>wo (h.1.2.2 x hx),Sl.can_ok h.2.1 fun x hx=>Br (h.2.2 x hx)⟩
theorem zO {s:ByteArray} (h:eu s = true):lL 20 s:=by
 have:=xE h;exact ⟨by omega,by omega⟩
theorem D5 {B:Nat} {p:Pol} (h:aS p = true) (hw:p.wf B):polOk p.can:=by
 simp only [aS,Bool.and_eq_true,Bool.or_eq_true,beq_iff_eq,decide_eq_true_eq,List.all_eq_true] at h;refine ⟨hw.1.u64,?_,hw.2.2.1.u64,?_,Sl.can_ok h.2.1 fun x hx=>AL (h.2.2 x hx) fun y hy c hc=>?_⟩
 · rcases h.1.1.1.2 with hh | hh
   · have:=qV hh;exact ⟨by show (p.ns.size:Int) <= _; omega,by show p.ns.size < _; omega⟩
   · exact zO hh
 · have:=h.1.2;show 0 <= p.deny /\ p.deny <= 1;omega
 · exact (((hw.2.2.2.2.2 x hx).1.2 y hy).2.2.2 c hc).1
end
section
def Cfg.nf (c:Cfg):Cfg:=⟨c.epoch,c.next,c.hosts,c.ways,c.pods.nf id,c.services.nf id,c.bound.nf id,c.policies.nf Pol.nf⟩
theorem Cfg.same_iff {a b:Cfg}:a.same b = true ↔ a.nf = b.nf:=by
 simp only [Cfg.same,Bool.and_eq_true,beq_iff_eq,bX (g:=id) (fun x y=>Pod.eqB_iff (x:=x) (y:=y)),bX (g:=id) (fun x y=>Svc.eqB_iff (x:=x) (y:=y)),bX (g:=id) (fun x y=>Way.eqB_iff (x:=x) (y:=y)),bX (fun x y=>Pol.same_iff (a:=x) (b:=y)),Cfg.nf,Cfg.mk.injEq,Sl.nf_iff,and_assoc]
theorem Cfg.can_nf (c:Cfg):c.can.nf = c.nf:=by simp [Cfg.can,Cfg.nf,Sl.can_nf,Pol.can_nf]
end
section
def Step {α:Type} (p:Pr α) (st:Option (List Int)) (x:α) (st':Option (List Int)):Prop:=match st with
 | none=>st' = none
 | some b=>match p b with
  | some (y,l)=>x = y /\ st' = some l
  | none=>st' = none
theorem Step.seq {α β:Type} {p:Pr α} {q:Pr β} {s s1 s2:Option (List Int)} {x:α} {y:β} (h:Step p s x s1) (k:Step q s1 y s2):Step (p.seq q) s (x,y) s2:=by
 unfold Step at *;cases s with
 | none=>simp only at h ⊢; subst h; exact k
 | some b =>
  simp only [Pr.seq] at h ⊢;cases hp:p b with
  | none=>rw [hp] at h; simp only at h ⊢; subst h; exact k
  | some z =>
   obtain ⟨z,l⟩:=z;rw [hp] at h;simp only at h ⊢;obtain ⟨rfl,rfl⟩:=h;simp only at k;cases hq:q l with
   | none=>rw [hq] at k; exact k
   | some w =>
    obtain ⟨w,m⟩:=w;rw [hq] at k;simp only at k ⊢;exact ⟨by rw [k.1],k.2⟩
theorem Step.map {α β:Type} {p:Pr α} {s s1:Option (List Int)} {x:α} (f:α -> β) (h:Step p s x s1):Step (p.map f) s (f x) s1:=by
 unfold Step at *;cases s with
 | none=>exact h
 | some b =>
  simp only [Pr.map] at h ⊢;cases hp:p b with
  | none=>rw [hp] at h; exact h
  | some z =>
   obtain ⟨z,l⟩:=z;rw [hp] at h;simp only at h ⊢;exact ⟨by rw [h.1],h.2⟩
theorem Step.nil {α:Type} {p:Pr α} {s:Option (List Int)}:Step (pV p 0) s [] s:=by
 cases s <;> simp [Step,pV,Pr.ret]
theorem Step.row {α:Type} {p:Pr α} {s s1 s2:Option (List Int)} {x:α} {l:List α} {n:Nat} (h:Step p s x s1) (k:Step (pV p n) s1 l s2):Step (pV p (n + 1)) s (x :: l) s2:=by
 have:=(h.seq k).map (fun x=>x.1 :: x.2);exact this
def StepZ (p:Pr Int) (s:Option (List Int)) (n:Int) (s':Option (List Int)):Prop:=Step p s n s' /\ (s' = none -> n = 0)
theorem StepZ.seq {α:Type} {p:Pr α} {most n:Int} {s s1 s2:Option (List Int)} {l:List α} (h:StepZ (bV most) s n s1) (k:Step (pV p n.toNat) s1 l s2):Step (DX most p) s l s2:=by
 obtain ⟨h,hz⟩:=h;unfold Step at *;cases s with
 | none =>
  simp only at h ⊢;subst h;exact k
 | some b =>
  simp only [DX] at h ⊢;cases hp:bV most b with
  | none=>rw [hp] at h; simp only at h ⊢; subst h; exact k
  | some z =>
   obtain ⟨z,m⟩:=z;rw [hp] at h;simp only at h ⊢;obtain ⟨rfl,rfl⟩:=h;exact k
def Hng (w:Bool) (K:Nat -> Prop) (bs:List Blk) (v:V) (d:D) (k:Nat):Prop:=∀ bs' lo,(∀ x,K x -> bs'[x]? = bs[x]?) -> ∀ j,k <= j -> dataV ⟨bs',lo⟩ j v = some d /\ (w = true -> ni ⟨bs',lo⟩ j v = true)
variable {w:Bool}
theorem Hng.d {K:Nat -> Prop} {bs:List Blk} {d:D} {k:Nat} (h:∀ nl c cs,d ≠ .slice nl (c :: cs)):Hng w K bs (.d d) d k:=fun bs' lo _ j _=>by
 refine ⟨by cases j <;> rfl,fun _=>?_⟩;cases d with
 | slice nl es =>
  cases es with
  | nil=>cases j <;> rfl
  | cons c cs=>exact absurd rfl (h nl c cs)
 | _=>cases j <;> rfl
theorem Hng.on {K K':Nat -> Prop} {bs bs':List Blk} {v:V} {d:D} {k:Nat} (h:Hng w K bs v d k) (hb:∀ x,K x -> bs'[x]? = bs[x]?) (hK:∀ x,K x -> K' x):Hng w K' bs' v d k :=
 fun bs2 lo h2 j hj=>h bs2 lo (fun x hx=>(h2 x (hK x hx)).trans (hb x hx)) j hj
theorem Hng.up {K:Nat -> Prop} {bs:List Blk} {v:V} {d:D} {k k':Nat} (h:Hng w K bs v d k) (hk:k <= k'):Hng w K bs v d k':=fun bs2 lo h2 j hj=>h bs2 lo h2 j (Nat.le_trans hk hj)
def Hngs (w:Bool) (K:Nat -> Prop) (bs:List Blk) (k:Nat):List V -> List D -> Prop
 | [],[]=>True
 | v :: vs,d :: ds=>Hng w K bs v d k /\ Hngs w K bs k vs ds
 | _,_=>False
theorem Hngs.on {K K':Nat -> Prop} {bs bs':List Blk} {k:Nat} (hb:∀ x,K x -> bs'[x]? = bs[x]?) (hK:∀ x,K x -> K' x):∀ {vs:List V} {ds:List D},Hngs w K bs k vs ds -> Hngs w K' bs' k vs ds
 | [],[],_=>trivial
 | _ :: _,_ :: _,h=>⟨h.1.on hb hK,Hngs.on hb hK h.2⟩
 | [],_ :: _,h=>h.elim
 | _ :: _,[],h=>h.elim
theorem Hngs.app {K:Nat -> Prop} {bs:List Blk} {k:Nat}:∀ {vs ws:List V} {ds es:List D},Hngs w K bs k vs ds -> Hngs w K bs k ws es -> Hngs w K bs k (vs ++ ws) (ds ++ es)
 | [],_,[],_,_,h=>h
 | _ :: _,_,_ :: _,_,h,h'=>⟨h.1,Hngs.app h.2 h'⟩
 | [],_,_ :: _,_,h,_=>h.elim
 | _ :: _,_,[],_,h,_=>h.elim
theorem Hngs.len {K:Nat -> Prop} {bs:List Blk} {k:Nat}:∀ {vs:List V} {ds:List D},Hngs w K bs k vs ds -> vs.length = ds.length
 | [],[],_=>rfl
 | _ :: _,_ :: _,h=>by simp [Hngs.len h.2]
 | [],_ :: _,h=>h.elim
 | _ :: _,[],h=>h.elim
theorem Hngs.up {K:Nat -> Prop} {bs:List Blk} {k k':Nat} (hk:k <= k'):∀ {vs:List V} {ds:List D},Hngs w K bs k vs ds -> Hngs w K bs k' vs ds
 | [],[],_=>trivial
 | _ :: _,_ :: _,h=>⟨h.1.up hk,Hngs.up hk h.2⟩
 | [],_ :: _,h=>h.elim
 | _ :: _,[],h=>h.elim
theorem Hngs.mapM {K:Nat -> Prop} {bs:List Blk} {k:Nat} {bs':List Blk} {lo:Nat} (hb:∀ x,K x -> bs'[x]? = bs[x]?) {j:Nat} (hj:k <= j):∀ {vs:List V} {ds:List D},Hngs w K bs k vs ds -> vs.mapM (dataV ⟨bs',lo⟩ j) = some ds /\ (w = true -> vs.all (ni ⟨bs',lo⟩ j) = true)
 | [],[],_=>⟨rfl,fun _=>rfl⟩
 | v :: vs,d :: ds,h=>by
  obtain ⟨a1,a2⟩:=h.1 bs' lo hb j hj;obtain ⟨b1,b2⟩:=Hngs.mapM (lo:=lo) hb hj h.2;refine ⟨?_,fun hw=>by simp [a2 hw,b2 hw]⟩;rw [List.mapM_cons,a1,b1];rfl
 | [],_ :: _,h=>h.elim
 | _ :: _,[],h=>h.elim
theorem iH {z:Nat}:∀ (es:List (List D)),(∀ e ∈ es,e.length = z) -> dataV.chunks z es.flatten es.length = es
 | [],_=>rfl
 | e :: es,h=>by
  have he:e.length = z:=h e (by simp);simp only [List.flatten_cons,List.length_cons,dataV.chunks];rw [List.take_left' he,List.drop_left' he,iH es fun x hx=>h x (by simp [hx])]
theorem Hng.row {K:Nat -> Prop} {bs:List Blk} {k b n z:Nat} {cap:Option Nat} {cs:List V} {es:List (List D)} (hKb:K b) (hb:ah bs b = some cs) (hcs:Hngs w K bs k cs es.flatten) (hz:∀ e ∈ es,e.length = z) (hn:n = es.length) :
 Hng w K bs (.row b 0 n cap z) (.slice false es) (k + 1):=by
 intro bs' lo h j hj;cases j with
 | zero=>omega
 | succ j =>
  have hg:Hp.get ⟨bs',lo⟩ b = some cs:=by
   unfold ah at hb;simp only [Hp.get,h b hKb];split at hb
   · rename_i hb2; rw [hb2]; simpa using hb
   · cases hb
  obtain ⟨m1,m2⟩:=Hngs.mapM (lo:=lo) h (show k <= j by omega) hcs;have hlen:cs.length = n * z:=by
   rw [hcs.len,hn,List.length_flatten];have:es.map List.length = List.replicate es.length z:=by
    rw [List.eq_replicate_iff];exact ⟨by simp,fun x hx=>by obtain ⟨e,he,rfl⟩:=List.mem_map.1 hx; exact hz e he⟩
   rw [this]; simp
  have hs:sub cs 0 (n * z) = some cs:=by
   unfold sub;rw [if_pos (by omega)];simp [← hlen]
  refine ⟨?_,?_⟩
  · simp only [dataV,hg,hs,m1];rw [hn,iH es hz]
  · intro hw;simp only [ni,hg];exact m2 hw
theorem Hng.data {K:Nat -> Prop} {bs:List Blk} {d:D} {k:Nat}:Hng false K bs (.d d) d k:=fun bs' lo _ j _=>⟨by cases j <;> rfl,fun h=>by cases h⟩
theorem Hng.weak {K:Nat -> Prop} {bs:List Blk} {v:V} {d:D} {k:Nat} (h:Hng true K bs v d k):Hng false K bs v d k:=fun bs' lo hb j hj=>⟨(h bs' lo hb j hj).1,fun h=>by cases h⟩
theorem Hngs.data {K:Nat -> Prop} {bs:List Blk} {k:Nat}:∀ {ds:List D},Hngs false K bs k (ds.map .d) ds
 | []=>trivial
 | _ :: _=>⟨Hng.data,Hngs.data⟩
end
section
theorem Step.of {α:Type} {p:Pr α} {b:List Int} {x:α} {st':Option (List Int)} (h:Step p (some b) x st'):(∃ l,p b = some (x,l) /\ st' = some l) \/ (p b = none /\ st' = none):=by
 unfold Step at h;simp only at h;split at h
 · rename_i y l hp;exact .inl ⟨l,by rw [hp,h.1],h.2⟩
 · rename_i hp;exact .inr ⟨hp,h⟩
theorem Step.ok {α:Type} {p:Pr α} {b:List Int} {x:α} {l:List Int} (h:p b = some (x,l)):Step p (some b) x (some l):=by simp [Step,h]
theorem Step.fails {α:Type} {p:Pr α} {b:List Int} {x:α} (h:p b = none):Step p (some b) x none:=by simp [Step,h]
theorem gW {n:Int} (h0:0 <= n) (h1:n <= 4294967295):Inr .i64 n:=by
 simp [Inr,Lit.wf,IntKind.min,IntKind.max,IntKind.bits,IntKind.signed]; omega
theorem fQ {n:Int} (h:fq n):Inr .u64 n:=by
 obtain ⟨h0,h1⟩:=h;simp [Inr,Lit.wf,IntKind.min,IntKind.max,IntKind.bits,IntKind.signed]; omega
theorem sJ {n:Int} (h0:0 <= n) (h1:n <= 4294967295):Inr .u32 n:=by
 simp [Inr,Lit.wf,IntKind.min,IntKind.max,IntKind.bits,IntKind.signed]; omega
theorem SlOk.wf {α:Type} {f:Nat -> α -> Prop} {ok:α -> Prop} {most:Int} {B:Nat} {s:Sl α} (h:SlOk most ok s) (hm:most <= B) (hf:∀ x,ok x -> f B x):s.wf B f:=by
 obtain ⟨h1,h2,h3⟩:=h;refine ⟨⟨by omega,fun hn=>?_⟩,fun x hx=>hf x (h3 x hx)⟩;rw [h1] at hn;exact List.isEmpty_iff.1 hn
section
variable {B:Nat} (hB:8192 <= B)
include hB
theorem termOk.wf {t:Term} (h:termOk t):t.wf B:=⟨gW h.1.1 (by have:=h.1.2; omega),by have:=h.2.1; omega⟩
omit hB in
theorem cidrOk.wf {t:Cidr} (h:cidrOk t):t.wf B:=⟨sJ h.1.1 (by have:=h.1.2; omega),gW h.2.1 (by have:=h.2.2; omega)⟩
theorem TmOk.wf {s:Sl Term} (h:TmOk s):s.wf B Term.wf:=SlOk.wf h (by omega) fun x hx=>termOk.wf hB hx
theorem sourceOk.wf {s:Source} (h:sourceOk s):s.wf B:=⟨TmOk.wf hB h.1,TmOk.wf hB h.2.1,SlOk.wf h.2.2 (by omega) fun x hx=>cidrOk.wf hx⟩
theorem targetOk.wf {s:Target} (h:targetOk s):s.wf B:=⟨SlOk.wf (f:=Gr) h.1 (by omega) fun x hx=>gW hx.1 (by have:=hx.2; omega),TmOk.wf hB h.2.1,TmOk.wf hB h.2.2.1,TmOk.wf hB h.2.2.2⟩
theorem whenOk.wf {s:When} (h:whenOk s):s.wf B:=⟨by have:=h.1.1; omega,TmOk.wf hB h.2⟩
theorem ruleOk.wf {s:Rule} (h:ruleOk s):s.wf B:=⟨SlOk.wf h.1 (by omega) fun x hx=>sourceOk.wf hB hx,SlOk.wf h.2.1 (by omega) fun x hx=>targetOk.wf hB hx,SlOk.wf h.2.2 (by omega) fun x hx=>whenOk.wf hB hx⟩
theorem polOk.wf {p:Pol} (h:polOk p):p.wf B:=⟨fQ h.1,by have:=h.2.1.1; omega,fQ h.2.2.1,gW h.2.2.2.1.1 (by have:=h.2.2.2.1.2; omega),SlOk.wf h.2.2.2.2 (by omega) fun x hx=>ruleOk.wf hB hx⟩
theorem podOk.wf {p:Pod} (h:podOk p):p.wf B:=by
 obtain ⟨h1,h2,h3,h4,h5,h6,h7⟩:=h;exact ⟨fQ h1,by have:=h2.1; omega,by have:=h3.1; omega,gW h4.1 (by have:=h4.2; omega),sJ h5.1 h5.2,gW h6.1 (by have:=h6.2; omega),fQ h7⟩
theorem svcOk.wf {p:Svc} (h:svcOk p):p.wf B:=by
 obtain ⟨h1,h2,h3,h4,h5⟩:=h;exact ⟨fQ h1,by have:=h2.1; omega,sJ h3.1 h3.2,gW h4.1 (by have:=h4.2; omega),fQ h5⟩
omit hB in
theorem wayOk.wf {p:Way} (h:wayOk p):p.wf B:=⟨fQ h.1,gW h.2.1 (by have:=h.2.2; omega)⟩
theorem cfgOk.wf {c:Cfg} (h:cfgOk c):c.wf B:=by
 obtain ⟨h1,h2,h3,h4,h5,h6,h7,h8⟩:=h;exact ⟨fQ h1,fQ h2,gW h3.1 (by have:=h3.2; omega),gW h4.1 (by have:=h4.2; omega),SlOk.wf h5 (by omega) fun x hx=>podOk.wf hB hx,SlOk.wf h6 (by omega) fun x hx=>svcOk.wf hB hx,SlOk.wf h7 (by omega) fun x hx=>wayOk.wf hx,SlOk.wf h8 (by omega) fun x hx=>polOk.wf hB hx.1⟩
end
end
end Go.Proofs.YtjkfknafpgfchaaGreat
