/- code.Reader: a number, a text, a byte, four bytes from the front of bytes. -/
import Derived.Test.YthkeklemhcfbcaaGreatQt
import Derived.Test.YthkeklemhcfbcaaGreatUa
import Derived.Test.YthkeklemhcfbcaaGreatRD
import Derived.KernelRfl
set_option maxRecDepth 100000
set_option linter.unusedVariables false
set_option linter.unusedSimpArgs false
namespace Go.Proofs.YthkeklemhcfbcaaGreat
def tabRd:List (Nat × QF):=[(6,r94),(7,r89),(16,r224),(17,r225),(18,r226),(19,r227),(20,r228),(21,r229),(22,r230),(23,r231),(24,r232),(25,r233),(26,r234),(27,r235),(28,r236),(29,r237),(30,r238),(53,r390),(54,r391),(55,r392),(56,r393),(57,r394),(58,r395),(59,r396),(61,r397),(62,r398),(100,r468),(101,r469),(102,r470),(103,r471),(104,r472),(105,r473),(153,r542),(154,r543),(155,r544),(156,r545),(157,r546),(190,r586),(191,r587),(192,r588),(193,r589),(244,r609),(245,r610),(246,r611),(247,r612)]
def TRd:FuncId -> Option QF:=lookT tabRd
def valRd (f:FuncId):Bool:=[7,6,28,54,245,247].any fun n=>Nat.beq n f
theorem rt224:TRd 16 = some (r224):=by kernel_rfl
theorem rv224:valRd 16 = false:=by kernel_rfl
theorem rt225:TRd 17 = some (r225):=by kernel_rfl
theorem rv225:valRd 17 = false:=by kernel_rfl
theorem rt226:TRd 18 = some (r226):=by kernel_rfl
theorem rv226:valRd 18 = false:=by kernel_rfl
theorem rt227:TRd 19 = some (r227):=by kernel_rfl
theorem rv227:valRd 19 = false:=by kernel_rfl
theorem rt228:TRd 20 = some (r228):=by kernel_rfl
theorem rv228:valRd 20 = false:=by kernel_rfl
theorem rt229:TRd 21 = some (r229):=by kernel_rfl
theorem rv229:valRd 21 = false:=by kernel_rfl
theorem rt230:TRd 22 = some (r230):=by kernel_rfl
theorem rv230:valRd 22 = false:=by kernel_rfl
theorem rt231:TRd 23 = some (r231):=by kernel_rfl
theorem rv231:valRd 23 = false:=by kernel_rfl
theorem rt232:TRd 24 = some (r232):=by kernel_rfl
theorem rv232:valRd 24 = false:=by kernel_rfl
theorem rt233:TRd 25 = some (r233):=by kernel_rfl
theorem rv233:valRd 25 = false:=by kernel_rfl
theorem rt234:TRd 26 = some (r234):=by kernel_rfl
theorem rv234:valRd 26 = false:=by kernel_rfl
theorem rt235:TRd 27 = some (r235):=by kernel_rfl
theorem rv235:valRd 27 = false:=by kernel_rfl
theorem rt236:TRd 28 = some (r236):=by kernel_rfl
theorem rv236:valRd 28 = true:=by kernel_rfl
theorem rt237:TRd 29 = some (r237):=by kernel_rfl
theorem rv237:valRd 29 = false:=by kernel_rfl
theorem rt238:TRd 30 = some (r238):=by kernel_rfl
theorem rv238:valRd 30 = false:=by kernel_rfl
theorem rt390:TRd 53 = some (takeQ (.int .u64 0)):=by kernel_rfl
theorem rv390:valRd 53 = false:=by kernel_rfl
theorem rt391:TRd 54 = some (r391):=by kernel_rfl
theorem rv391:valRd 54 = true:=by kernel_rfl
theorem rt392:TRd 55 = some (takeQ (.str ⟨#[]⟩)):=by kernel_rfl
theorem rv392:valRd 55 = false:=by kernel_rfl
theorem rt393:TRd 56 = some (r393):=by kernel_rfl
theorem rv393:valRd 56 = false:=by kernel_rfl
theorem rt394:TRd 57 = some (r394):=by kernel_rfl
theorem rv394:valRd 57 = false:=by kernel_rfl
theorem rt395:TRd 58 = some (r395):=by kernel_rfl
theorem rv395:valRd 58 = false:=by kernel_rfl
theorem rt396:TRd 59 = some (r396):=by kernel_rfl
theorem rv396:valRd 59 = false:=by kernel_rfl
theorem rt397:TRd 61 = some (r397):=by kernel_rfl
theorem rv397:valRd 61 = false:=by kernel_rfl
theorem rt398:TRd 62 = some (r398):=by kernel_rfl
theorem rv398:valRd 62 = false:=by kernel_rfl
theorem rt468:TRd 100 = some (r468):=by kernel_rfl
theorem rv468:valRd 100 = false:=by kernel_rfl
theorem rt469:TRd 101 = some (r469):=by kernel_rfl
theorem rv469:valRd 101 = false:=by kernel_rfl
theorem rt470:TRd 102 = some (r470):=by kernel_rfl
theorem rv470:valRd 102 = false:=by kernel_rfl
theorem rt471:TRd 103 = some (r471):=by kernel_rfl
theorem rv471:valRd 103 = false:=by kernel_rfl
theorem rt472:TRd 104 = some (r472):=by kernel_rfl
theorem rv472:valRd 104 = false:=by kernel_rfl
theorem rt473:TRd 105 = some (r473):=by kernel_rfl
theorem rv473:valRd 105 = false:=by kernel_rfl
theorem rt542:TRd 153 = some (r542):=by kernel_rfl
theorem rv542:valRd 153 = false:=by kernel_rfl
theorem rt543:TRd 154 = some (r543):=by kernel_rfl
theorem rv543:valRd 154 = false:=by kernel_rfl
theorem rt544:TRd 155 = some (r544):=by kernel_rfl
theorem rv544:valRd 155 = false:=by kernel_rfl
theorem rt545:TRd 156 = some (r545):=by kernel_rfl
theorem rv545:valRd 156 = false:=by kernel_rfl
theorem rt546:TRd 157 = some (r546):=by kernel_rfl
theorem rv546:valRd 157 = false:=by kernel_rfl
theorem rt586:TRd 190 = some (r586):=by kernel_rfl
theorem rv586:valRd 190 = false:=by kernel_rfl
theorem rt587:TRd 191 = some (r587):=by kernel_rfl
theorem rv587:valRd 191 = false:=by kernel_rfl
theorem rt588:TRd 192 = some (r588):=by kernel_rfl
theorem rv588:valRd 192 = false:=by kernel_rfl
theorem rt589:TRd 193 = some (r589):=by kernel_rfl
theorem rv589:valRd 193 = false:=by kernel_rfl
theorem rt609:TRd 244 = some (takeQ (.int .u32 0)):=by kernel_rfl
theorem rv609:valRd 244 = false:=by kernel_rfl
theorem rt610:TRd 245 = some (r610):=by kernel_rfl
theorem rv610:valRd 245 = true:=by kernel_rfl
theorem rt611:TRd 246 = some (takeQ (.int .u8 0)):=by kernel_rfl
theorem rv611:valRd 246 = false:=by kernel_rfl
theorem rt612:TRd 247 = some (r612):=by kernel_rfl
theorem rv612:valRd 247 = true:=by kernel_rfl
theorem rt404:TRd 99 = none:=by kernel_rfl
theorem rt378:TRd 60 = none:=by kernel_rfl
theorem rt91:TRd 8 = none:=by kernel_rfl
theorem rt129:TRd 31 = none:=by kernel_rfl
theorem rt94:TRd 6 = some (r94):=by kernel_rfl
theorem rv94:valRd 6 = true:=by kernel_rfl
theorem rt89:TRd 7 = some (r89):=by kernel_rfl
theorem rv89:valRd 7 = true:=by kernel_rfl
def u8C (n:Int):List D:=[.int .u8 n]
def BRow (bs:List Blk) (p:Nat) (v:V) (l:List Int):Prop :=
 (l = [] /\ ∃ nl,v = .d (.slice nl [])) \/ (l ≠ [] /\ ∃ B o cs,v = .row B o l.length none 1 /\ B < p /\ getB bs B = some cs /\ sub cs o l.length = some (l.map (iv .u8)))
theorem BRow.nu {bs:List Blk} {p:Nat} {v:V} {l:List Int} (h:BRow bs p v l):Go.Proofs.YthkeklemhcfbcaaGreat.nu v = some v /\ okV v = true /\ v.cells = some [v]:=by
 rcases h with ⟨_,nl,rfl⟩ | ⟨_,B,o,cs,rfl,_⟩ <;> exact ⟨rfl,rfl,rfl⟩
theorem BRow.len {bs:List Blk} {p:Nat} {v:V} {l:List Int} (h:BRow bs p v l) (hp:Hp):lenv false v hp = some (.d (i64 l.length),hp):=by
 rcases h with ⟨rfl,nl,rfl⟩ | ⟨_,B,o,cs,rfl,_⟩ <;> rfl
theorem BRow.on {bs bs':List Blk} {p:Nat} {v:V} {l:List Int} (h:BRow bs p v l) (ho:∀ x,x ≠ p -> x < bs.length -> bs'[x]? = bs[x]?):BRow bs' p v l:=by
 rcases h with h | ⟨h1,B,o,cs,h2,h3,h4,h5⟩
 · exact .inl h
 · exact .inr ⟨h1,B,o,cs,h2,h3,by rw [← h4]; unfold getB; rw [ho B (Nat.ne_of_lt h3) (getB_len h4)],h5⟩
theorem BRow.drop {bs:List Blk} {p:Nat} {v:V} {l:List Int} (h:BRow bs p v l) {n:Nat} (hn:0 < n) (hnl:n <= l.length):∃ v',BRow bs p v' (l.drop n) /\ ∀ (hp:Hp) (ev:X -> V) (x:X),ev x = .d (.int .i64 n) -> sliceE hp ev .sl 1 v (some x) none none = some v':=by
 rcases h with ⟨rfl,_⟩ | ⟨h1,B,o,cs,rfl,h3,h4,h5⟩
 · simp at hnl; omega
 · by_cases hlt:n < l.length
   · refine ⟨.row B (o + n) (l.length - n) none 1,.inr ⟨?_,B,o + n,cs,by rw [List.length_drop],h3,h4,?_⟩,fun hp ev x hx=>?_⟩
     · intro h0
       have:=congrArg List.length h0
       simp at this; omega
     · simp only [sub] at h5 ⊢
       split at h5
       · rename_i hle
         simp only [Option.some.injEq] at h5
         rw [List.length_drop,if_pos (by omega)]
         congr 1
         rw [List.map_drop,← h5,List.drop_take,List.drop_drop]
       · cases h5
     · have hn0:¬ n = 0:=by omega
       simp [sliceE,boundE,hx,hnl,hlt,hn0]
   · have he:n = l.length:=by omega
     refine ⟨.d (.slice false []),.inl ⟨List.drop_eq_nil_of_le (by omega),false,rfl⟩,fun hp ev x hx=>?_⟩
     have hn0:¬ n = 0:=by omega
     simp [sliceE,boundE,hx,hnl,hlt,hn0]
def RdS (p:Nat) (bs:List Blk) (st:Option (List Int)):Prop:=∃ v l,getB bs p = some [v,bl st.isNone] /\ BRow bs p v l /\ byteL l /\ l.length <= big /\ ∀ b,st = some b -> b = l
def Old (p:Nat) (bs bs':List Blk):Prop:=bs.length <= bs'.length /\ ∀ y,y ≠ p -> y < bs.length -> bs'[y]? = bs[y]?
theorem Old.refl (p:Nat) (bs:List Blk):Old p bs bs:=⟨Nat.le_refl _,fun _ _ _=>rfl⟩
theorem Old.trans {p:Nat} {a b c:List Blk} (h:Old p a b) (k:Old p b c):Old p a c:=⟨Nat.le_trans h.1 k.1,fun y h1 h2=>(k.2 y h1 (Nat.lt_of_lt_of_le h2 h.1)).trans (h.2 y h1 h2)⟩
theorem Old.lay {p:Nat} (bs ys:List Blk):Old p bs (bs ++ ys):=⟨by simp,fun y _ h=>List.getElem?_append_left h⟩
theorem Old.set {p:Nat} (bs:List Blk) (b:Blk):Old p bs (bs.set p b):=⟨by simp,fun y h _=>by rw [List.getElem?_set_ne (Ne.symm h)]⟩
theorem RdS.lt {p:Nat} {bs:List Blk} {st:Option (List Int)} (h:RdS p bs st):p < bs.length:=by
 obtain ⟨v,l,h1,_⟩:=h; exact getB_len h1
theorem RdS.lay {p:Nat} {bs:List Blk} {st:Option (List Int)} (h:RdS p bs st) (ys:List Blk):RdS p (bs ++ ys) st:=by
 obtain ⟨v,l,h1,h2,h3⟩:=h
 exact ⟨v,l,getB_of h1,h2.on fun x _ hx=>List.getElem?_append_left hx,h3⟩
def Reads {α:Type} (E:Calls') (f:FuncId) (args:List V) (p:Nat) (bs:List Blk) (st:Option (List Int)) (P:Pr α) (enc:α -> D) (zero:α):Prop :=
 ∃ x st' bs',∃ F:Nat -> Nat,(∀ lo,Sm E TRd valRd f args ⟨bs,lo⟩ = some (.d (enc x),⟨bs',F lo⟩)) /\ Step P st x st' /\ (st' = none -> x = zero) /\ RdS p bs' st' /\ Old p bs bs' /\ (∀ lo:Nat,F lo <= lo) /\ (st = none -> bs' = bs /\ ∀ lo,F lo = lo) /\ (st ≠ none -> ∀ lo,F lo <= p)
def Finds {α:Type} (E:Calls') (f:FuncId) (caps:List V) (p:Nat) (bs:List Blk) (P:Pr α) (enc:α -> D):Prop :=
 ∀ v l,BRow bs p v l -> byteL l -> l.length <= big -> (∃ y n,P l = some (y,l.drop n) /\ 0 < n /\ n <= l.length /\ ∀ lo,Sm E TRd valRd f (v :: caps) ⟨bs,lo⟩ = some (.tup [.d (enc y),.d (i64 n)],⟨bs,lo⟩)) ∨
  (P l = none /\ ∃ d,∀ lo,Sm E TRd valRd f (v :: caps) ⟨bs,lo⟩ = some (.tup [.d d,.d (i64 (-1))],⟨bs,lo⟩))
section
variable {E:Calls'}
theorem take_reads {α:Type} {id:FuncId} {P:Pr α} {enc:α -> D} {zero:α} (ht:TRd id = some (takeQ (enc zero))) (hv:valRd id = false) {p:Nat} {bs:List Blk} {st:Option (List Int)} {f:FuncId} {caps:List V} (hR:RdS p bs st) (hf:Finds E f caps p bs P enc) :
 Reads E id [.ptr p 0,.fn f caps] p bs st P enc zero:=by
 have hp:=hR.lt
 obtain ⟨v,l,h1,h2,h3,h4,h5⟩:=hR
 obtain ⟨n1,n2,n3⟩:=h2.nu
 have hR0:RdS p bs st:=⟨v,l,h1,h2,h3,h4,h5⟩
 cases st with
 | none =>
  simp only [Option.isNone_none] at h1
  refine ⟨zero,none,bs,fun lo=>lo,fun lo=>?_,rfl,fun _=>rfl,hR0,Old.refl _ _,fun lo=>Nat.le_refl _,fun _=>⟨rfl,fun _=>rfl⟩,fun h=>absurd rfl h⟩
  rw [Sm_ref ht hv]
  simp [takeQ,Bd_mk,h1,opsA_if,V.under]
 | some b =>
  obtain rfl:=h5 b rfl
  simp only [Option.isNone_some] at h1
  rcases hf v b h2 h3 h4 with ⟨y,n,k1,k2,k3,k4⟩ | ⟨k1,d,k4⟩
  · obtain ⟨v',g1,g2⟩:=h2.drop k2 k3
    obtain ⟨m1,m2,m3⟩:=g1.nu
    have hneg:¬ ((n:Int) < 0):=by omega
    refine ⟨y,some (b.drop n),bs.set p (.cells [v',bl false]),fun lo=>min lo p,fun lo=>?_,?_,(fun h=>by cases h),⟨v',b.drop n,?_,g1.on fun x hx hl=>by rw [List.getElem?_set_ne (Ne.symm hx)],fun c hc=>h3 c (List.mem_of_mem_drop hc),by rw [List.length_drop]; omega,fun b' hb'=>by cases hb'; rfl⟩,Old.set _ _,fun lo=>Nat.min_le_left _ _,fun h=>(by cases h),fun _ lo=>Nat.min_le_right _ _⟩
    · rw [Sm_ref ht hv]
      simp [takeQ,Bd_mk,h1,k4,n1,n2,m3,hneg,opsA_if,V.under,g2,storeAt,put,Hp.set]
      rw [if_neg (by omega),Nat.min_eq_right (Nat.le_of_lt hp)]
    · simp [Step,k1]
    · rw [getB_set,if_pos rfl,if_pos hp]; rfl
  · refine ⟨zero,none,bs.set p (.cells [v,bl true]) ++ [.cells [.d (enc zero)]],fun lo=>min lo p,fun lo=>?_,?_,fun _=>rfl,⟨v,b,?_,h2.on fun x hx hl=>?_,h3,h4,fun b' hb'=>by cases hb'⟩,⟨by simp,fun y hy hl=>?_⟩,fun lo=>Nat.min_le_left _ _,fun h=>(by cases h),fun _ lo=>Nat.min_le_right _ _⟩
    · rw [Sm_ref ht hv]
      have hset:getB (bs.set p (.cells [v,bl true]) ++ [.cells [.d (enc zero)]]) bs.length = some [.d (enc zero)]:=by
       have:=getB_at (bs:=bs.set p (.cells [v,bl true])) (ys:=[.cells [.d (enc zero)]])
       rw [List.length_set] at this
       rw [this]; rfl
      simp [takeQ,Bd_mk,h1,k4,n1,n2,opsA_if,V.under,storeAt,put,Hp.set,hset]
      rw [if_neg (by omega),Nat.min_eq_right (Nat.le_of_lt hp)]
    · simp [Step,k1]
    · refine getB_of ?_
      rw [getB_set,if_pos rfl,if_pos hp]; rfl
    · rw [List.getElem?_append_left (by simpa using hl),List.getElem?_set_ne (Ne.symm hx)]
    · rw [List.getElem?_append_left (by simpa using hl),List.getElem?_set_ne (Ne.symm hy)]
theorem Reads.through {α:Type} {f g:FuncId} {av args:List V} {p:Nat} {bs:List Blk} (ys:List Blk) {st:Option (List Int)} {P:Pr α} {enc:α -> D} {zero:α} (h:Reads E f av p (bs ++ ys) st P enc zero)
 (hg:∀ x bs' lo',Sm E TRd valRd f av ⟨bs ++ ys,bs.length⟩ = some (.d (enc x),⟨bs',lo'⟩) -> ∀ lo,Sm E TRd valRd g args ⟨bs,lo⟩ = byRef ⟨bs,lo⟩ (some (.d (enc x),⟨bs',lo'⟩))) (hR:RdS p bs st):Reads E g args p bs st P enc zero:=by
 have hp:=hR.lt
 obtain ⟨x,st',b2,F,k1,k2,k3,k4,k5,k6,k7,k8⟩:=h
 have hh:=hg x b2 _ (k1 bs.length)
 cases st with
 | none =>
  obtain ⟨e7,q7⟩:=k7 rfl
  subst e7
  have hn:st' = none:=k2
  subst hn
  refine ⟨x,none,bs,fun lo=>lo,fun lo=>?_,k2,k3,hR,Old.refl _ _,fun lo=>Nat.le_refl _,fun _=>⟨rfl,fun _=>rfl⟩,fun h=>absurd rfl h⟩
  rw [hh lo,byRef_s,if_pos ⟨by show bs.length <= F bs.length; rw [q7]; exact Nat.le_refl _,rfl⟩]
 | some b =>
  have k8:=k8 (by simp) bs.length
  refine ⟨x,st',b2,fun lo=>min lo (F bs.length),fun lo=>?_,k2,k3,k4,(Old.lay bs ys).trans k5,fun lo=>Nat.min_le_left _ _,fun h=>(by cases h),fun _ lo=>Nat.le_trans (Nat.min_le_right _ _) k8⟩
  rw [hh lo,byRef_s,if_neg (fun hh=>by have:=hh.1; simp only at this; omega)]
end
end Go.Proofs.YthkeklemhcfbcaaGreat
namespace Go.Proofs.YthkeklemhcfbcaaGreat
theorem or_add {a y:Int} {i:Nat} (h0:0 <= a) (h1:a < 128 ^ i) (h2:0 <= y) (h3:a + y * 128 ^ i < 2 ^ 64):orI .u64 a (y * 128 ^ i) = a + y * 128 ^ i:=by
 obtain ⟨A,rfl⟩:=Int.eq_ofNat_of_zero_le h0
 obtain ⟨Y,rfl⟩:=Int.eq_ofNat_of_zero_le h2
 have e1:((Y:Int) * 128 ^ i) = ((Y * 128 ^ i:Nat):Int):=by push_cast; rfl
 rw [e1] at h3 ⊢
 have h1':A < 2 ^ (7 * i):=by
  have:(128:Nat) ^ i = 2 ^ (7 * i):=by rw [Nat.pow_mul]
  rw [← this]; exact_mod_cast h1
 have h3':A + Y * 128 ^ i < 2 ^ 64:=by exact_mod_cast h3
 have e2:A ||| Y * 128 ^ i = A + Y * 128 ^ i:=by
  have h:=Nat.two_pow_add_eq_or_of_lt h1' Y
  have h128:(128:Nat) ^ i = 2 ^ (7 * i):=by rw [Nat.pow_mul]
  rw [h128,Nat.mul_comm Y,Nat.or_comm,← h,Nat.add_comm]
 have hw:IntKind.u64.bits = 64:=rfl
 simp only [orI,hw,BitVec.ofInt_natCast,BitVec.toNat_or,BitVec.toNat_ofNat]
 rw [Nat.mod_eq_of_lt (by omega),Nat.mod_eq_of_lt (by omega),e2,wrap_u64]
 omega
def andI (k:IntKind) (a b:Int):Int:=k.wrap ((BitVec.ofInt k.bits a &&& BitVec.ofInt k.bits b).toNat)
theorem bin_and {k:IntKind} {a b:Int}:binD .and (.d (.int k a)) (.d (.int k b)) = some (.int k (andI k a b)):=by simp [binD,binInt,andI]
theorem and_tab:((List.range 256).all fun a=>decide (andI .u8 (a:Int) 127 = (a:Int) % 128)) = true:=by decide +kernel
theorem and_127 {c:Int} (h:0 <= c /\ c < 256):binD .and (.d (.int .u8 c)) (.d (.int .u8 127)) = some (.int .u8 (c % 128)):=by
 have k:=List.all_eq_true.1 and_tab c.toNat (List.mem_range.2 (by omega))
 simp only [decide_eq_true_eq] at k
 have e:((c.toNat:Nat):Int) = c:=by omega
 rw [e] at k
 rw [bin_and,k]
theorem bin_mul {k:IntKind} {a b:Int}:binD .mul (.d (.int k a)) (.d (.int k b)) = some (.int k (k.wrap (a * b))):=by simp [binD,binInt]
section
variable {E:Calls'} (h404:∀ x h,E 99 [.d (u64 x)] h = some (.d (i64 (grpT x)),h))
include h404
theorem short_loop {l:List Int} (hb:byteL l) (hl:l.length <= big) (nl:Bool):∀ (m i:Nat) (acc:Int),i + m = l.length -> (m = 0 \/ i <= 9) -> 0 <= acc -> acc < 128 ^ i →
 (∃ x n,shortG i acc (l.drop i) = some (x,l.drop n) /\ 0 < n /\ n <= l.length /\ Cd E TRd valRd (.loop [4,7,8,9] r391_b0) [(4,.d (u64 acc)),(7,.d (Sl.d u8C ⟨nl,l⟩)),(8,.d (i64 l.length)),(9,.d (i64 i))] ⟨[],0⟩ = some (.ret,[(2,.d (u64 x)),(3,.d (i64 n))],⟨[],0⟩)) ∨
 (shortG i acc (l.drop i) = none /\ (Cd E TRd valRd (.loop [4,7,8,9] r391_b0) [(4,.d (u64 acc)),(7,.d (Sl.d u8C ⟨nl,l⟩)),(8,.d (i64 l.length)),(9,.d (i64 i))] ⟨[],0⟩ = some (.ret,[(2,.d (u64 0)),(3,.d (i64 (-1)))],⟨[],0⟩) ∨
   Cd E TRd valRd (.loop [4,7,8,9] r391_b0) [(4,.d (u64 acc)),(7,.d (Sl.d u8C ⟨nl,l⟩)),(8,.d (i64 l.length)),(9,.d (i64 i))] ⟨[],0⟩ = some (.exit 0,[],⟨[],0⟩))):=by
 intro m
 have key:=Cd_round (E:=E) (T:=TRd) (val:=valRd) [4,7,8,9] r391_b0
 generalize Cd E TRd valRd (.loop [4,7,8,9] r391_b0) = W at key ⊢
 have hlb:l.length < 2 ^ 62:=Nat.lt_of_le_of_lt hl (by decide)
 induction m with
 | zero =>
  intro i acc hi _ h0 h1
  have hd:l.drop i = []:=List.drop_eq_nil_of_le (by omega)
  refine .inr ⟨by rw [hd]; rfl,.inr ?_⟩
  rw [key]
  simp [r391_b0,show ¬ ((i:Int) < l.length) from by omega]
 | succ m ih =>
  intro i acc hi h9 h0 h1
  have h9':i <= 9:=by omega
  have hlt:i < l.length:=by omega
  have hx:=fun h=>idxv_sl (z:=1) h (List.getElem?_eq_getElem hlt) (cells:=u8C) (s:=⟨nl,l⟩) rfl
  have hc:=hb _ (List.getElem_mem hlt)
  rw [List.drop_eq_getElem_cons hlt]
  generalize l[i] = c at *
  have hw:=int_next hlt hlb
  have hand:=and_127 hc
  have hcv:IntKind.wrap .u64 (c % 128) = c % 128:=by rw [wrap_u64]; omega
  have hmul:binD .mul (.d (.int .i64 7)) (.d (.int .i64 (i:Int))) = some (.int .i64 (7 * (i:Int))):=by rw [bin_mul,wrap64] <;> omega
  have hp:(0:Int) < 128 ^ i:=Int.pow_pos (by omega)
  have hli:((i:Int) < (l.length:Int)):=by omega
  have hsub:∀ x:Int,sub (u8C x) 0 1 = some (u8C x):=fun _=>rfl
  by_cases e9:i = 9 /\ c > 1
  · obtain ⟨e0,e1⟩:=e9
    refine .inr ⟨by simp only [shortG]; rw [if_pos ⟨e0,e1⟩],.inl ?_⟩
    have hi9:(i:Int) = 9:=by omega
    rw [key]
    simp [r391_b0,hx,hli,hw,e1,show ((i:Int) == 9) = true from by simp [hi9],u8C,opsA_if]
  · have hyb:acc + c % 128 * 128 ^ i < 2 ^ 64 /\ c % 128 * 128 ^ i < 2 ^ 64 /\ 0 <= c % 128 * 128 ^ i:=by
     have hnn:0 <= c % 128 * 128 ^ i:=Int.mul_nonneg (by omega) (Int.le_of_lt hp)
     by_cases hi9:i = 9
     · subst hi9
       have h128:(128:Int) ^ 9 = 2 ^ 63:=by decide
       rw [h128] at h1 ⊢
       have:c <= 1:=by
        by_cases hc1:c <= 1
        · exact hc1
        · exact absurd ⟨rfl,by omega⟩ e9
       omega
     · have h8:(128:Int) ^ i <= 128 ^ 8:=by
        have:i <= 8:=by omega
        exact_mod_cast Nat.pow_le_pow_right (by omega:0 < 128) this
       have h128:(128:Int) ^ 8 = 2 ^ 56:=by decide
       have h2:c % 128 * 128 ^ i <= 127 * 128 ^ i:=Int.mul_le_mul_of_nonneg_right (by omega) (Int.le_of_lt hp)
       rw [h128] at h8
       omega
    have hshl:binD .shl (.d (.int .u64 (c % 128))) (.d (.int .i64 (7 * (i:Int)))) = some (.int .u64 (c % 128 * 128 ^ i)):=by
     rw [bin_shl (by omega)]
     have e1:(7 * (i:Int)).toNat = 7 * i:=by omega
     have e2:min (7 * i) IntKind.u64.bits = 7 * i:=Nat.min_eq_left (by show 7 * i <= 64; omega)
     have e3:(2:Int) ^ (7 * i) = 128 ^ i:=by rw [Int.pow_mul]; rfl
     rw [e1,e2,e3,wrap_u64]
     congr 2; omega
    have hor:binD .or (.d (.int .u64 acc)) (.d (.int .u64 (c % 128 * 128 ^ i))) = some (.int .u64 (acc + c % 128 * 128 ^ i)):=by rw [bin_or,or_add h0 h1 (by omega) hyb.1]
    have n1:∀ x h,Sm E TRd valRd 99 [.d (u64 x)] h = some (.d (i64 (grpT x)),h):=fun x h=>(Sm_ext rt404).trans (h404 x h)
    have hpk:(if (i:Int) = 9 then decide (c > 1) else false) = false:=by
     by_cases hi9:i = 9
     · have:¬ c > 1:=fun hc1=>e9 ⟨hi9,hc1⟩
       simp [hi9,this]
     · simp [show ¬ (i:Int) = 9 from by omega]
    have hw1:IntKind.wrap .i64 ((i:Int) + 1) = ((i + 1:Nat):Int):=hw
    simp only [shortG]
    rw [if_neg e9]
    by_cases e2:c < 128
    · rw [if_pos e2]
      by_cases e3:grpT (acc + c % 128 * 128 ^ i) = i + 1
      · rw [if_pos e3]
        refine .inl ⟨acc + c % 128 * 128 ^ i,i + 1,rfl,by omega,by omega,?_⟩
        rw [key]
        by_cases hi9:(i:Int) = 9
        · have hc1:¬ c > 1:=fun hc1=>e9 ⟨by omega,hc1⟩
          simp [r391_b0,hx,hli,hw1,hand,hcv,hmul,hshl,hor,n1,e2,e3,show ((i:Int) == 9) = true from by simp [hi9],hc1,u8C,opsA_if]
          try omega
        · simp [r391_b0,hx,hli,hw1,hand,hcv,hmul,hshl,hor,n1,e2,e3,hi9,u8C,opsA_if]
      · rw [if_neg e3]
        refine .inr ⟨rfl,.inl ?_⟩
        have e3':¬ grpT (acc + c % 128 * 128 ^ i) = ((i + 1:Nat):Int):=by push_cast; exact e3
        rw [key]
        by_cases hi9:(i:Int) = 9
        · have hc1:¬ c > 1:=fun hc1=>e9 ⟨by omega,hc1⟩
          simp [r391_b0,hx,hli,hw1,hand,hcv,hmul,hshl,hor,n1,e2,e3,e3',show ((i:Int) == 9) = true from by simp [hi9],hc1,u8C,opsA_if]
        · simp [r391_b0,hx,hli,hw1,hand,hcv,hmul,hshl,hor,n1,e2,e3,e3',hi9,u8C,opsA_if]
    · rw [if_neg e2]
      have hi8:¬ (i:Int) = 9:=fun hi9=>e9 ⟨by omega,by omega⟩
      have hlt2:acc + c % 128 * 128 ^ i < 128 ^ (i + 1):=by
       have h2:c % 128 * 128 ^ i <= 127 * 128 ^ i:=Int.mul_le_mul_of_nonneg_right (by omega) (Int.le_of_lt hp)
       rw [Int.pow_succ]; omega
      have hr:W [(4,.d (u64 acc)),(7,.d (Sl.d u8C ⟨nl,l⟩)),(8,.d (i64 l.length)),(9,.d (i64 i))] ⟨[],0⟩ = W [(4,.d (u64 (acc + c % 128 * 128 ^ i))),(7,.d (Sl.d u8C ⟨nl,l⟩)),(8,.d (i64 l.length)),(9,.d (i64 ((i + 1:Nat):Int)))] ⟨[],0⟩:=by
       rw [key]
       simp [r391_b0,hx,hli,hw1,hand,hcv,hmul,hshl,hor,e2,hi8,u8C,opsA_if]
      rw [hr]
      exact ih (i + 1) _ (by omega) (by omega) (by omega) hlt2
theorem F391 (l:List Int) (hb:byteL l) (hl:l.length <= big) (nl:Bool) :
 (∃ x n,pUint l = some (x,l.drop n) /\ 0 < n /\ n <= l.length /\ Bd E TRd valRd r391 [.d (Sl.d u8C ⟨nl,l⟩)] ⟨[],0⟩ = some (.tup [.d (u64 x),.d (i64 n)],⟨[],0⟩)) ∨
 (pUint l = none /\ Bd E TRd valRd r391 [.d (Sl.d u8C ⟨nl,l⟩)] ⟨[],0⟩ = some (.tup [.d (u64 0),.d (i64 (-1))],⟨[],0⟩)):=by
 rcases short_loop h404 hb hl nl l.length 0 0 (by omega) (by omega) (Int.le_refl 0) (by simp) with ⟨x,n,k1,k2,k3,k4⟩ | ⟨k1,k4 | k4⟩
 · refine .inl ⟨x,n,by simpa [pUint] using k1,k2,k3,?_⟩
   simp only [Int.natCast_zero] at k4
   simp [Bd_mk,r391]
   rw [Cd_keep]
   simp [k4]
 · refine .inr ⟨by simpa [pUint] using k1,?_⟩
   simp only [Int.natCast_zero] at k4
   simp [Bd_mk,r391]
   rw [Cd_keep]
   simp [k4]
 · refine .inr ⟨by simpa [pUint] using k1,?_⟩
   simp only [Int.natCast_zero] at k4
   simp [Bd_mk,r391]
   rw [Cd_keep]
   simp [k4]
end
end Go.Proofs.YthkeklemhcfbcaaGreat
namespace Go.Proofs.YthkeklemhcfbcaaGreat
theorem u8_flat (l:List Int):(l.map u8C).flatten = l.map fun n=>D.int .u8 n:=by
 induction l with
 | nil=>rfl
 | cons x l ih=>simp only [List.map_cons,List.flatten_cons,ih]; rfl
theorem BRow.frz {bs:List Blk} {p:Nat} {v:V} {l:List Int} (h:BRow bs p v l):∃ nl,∀ lo,Go.Proofs.YthkeklemhcfbcaaGreat.frz ⟨bs,lo⟩ v = some (.d (Sl.d u8C ⟨nl,l⟩)):=by
 rcases h with ⟨rfl,nl,rfl⟩ | ⟨h1,B,o,cs,rfl,h3,h4,h5⟩
 · exact ⟨nl,fun lo=>by simp [Go.Proofs.YthkeklemhcfbcaaGreat.frz,frz1,Sl.d]⟩
 · refine ⟨false,fun lo=>?_⟩
   have hm:(l.map (iv .u8)).mapM (dataV ⟨bs,lo⟩ 7) = some (l.map fun n=>D.int .u8 n):=by
    have:=mapM_dataV ⟨bs,lo⟩ 7 (l.map fun n=>D.int .u8 n)
    rw [List.map_map] at this
    exact this
   have hd:dataV ⟨bs,lo⟩ 8 (.row B o l.length none 1) = some (.slice false (l.map u8C)):=by
    simp only [dataV,get_eq,h4,Nat.mul_one,h5,hm]
    rw [← u8_flat]
    have:=chunks_flatV (z:=1) (l.map u8C) (fun e he=>by obtain ⟨n,_,rfl⟩:=List.mem_map.1 he; rfl)
    rw [List.length_map] at this
    rw [this]
   simp [Go.Proofs.YthkeklemhcfbcaaGreat.frz,frz1,hd,Sl.d]
section
variable {E:Calls'}
theorem val_two {f:FuncId} {q:QF} (ht:TRd f = some q) (hv:valRd f = true) {v:V} {h h':Hp} {d a b:D} (hf:Go.Proofs.YthkeklemhcfbcaaGreat.frz h v = some (.d d)) (hB:Bd E TRd valRd q [.d d] ⟨[],0⟩ = some (.tup [.d a,.d b],h')) (ho:ownR h' (.tup [.d a,.d b]) = true):Sm E TRd valRd f [v] h = some (.tup [.d a,.d b],h):=by
 rw [Sm_v ht hv]
 have hz:Go.Proofs.YthkeklemhcfbcaaGreat.frz h' (.tup [.d a,.d b]) = some (.tup [.d a,.d b]):=by simp [Go.Proofs.YthkeklemhcfbcaaGreat.frz,frz1]
 simp [hf,hB,hz,ho]
section
variable (h404:∀ x h,E 99 [.d (u64 x)] h = some (.d (i64 (grpT x)),h))
include h404
theorem find391 (p:Nat) (bs:List Blk):Finds E 54 [] p bs pUint u64:=by
 intro v l hB hb hl
 obtain ⟨nl,hf⟩:=hB.frz
 rcases F391 h404 l hb hl nl with ⟨x,n,k1,k2,k3,k4⟩ | ⟨k1,k4⟩
 · exact .inl ⟨x,n,k1,k2,k3,fun lo=>val_two rt391 rv391 (hf lo) k4 rfl⟩
 · exact .inr ⟨k1,.int .u64 0,fun lo=>val_two rt391 rv391 (hf lo) k4 rfl⟩
theorem R225 {p:Nat} {bs:List Blk} {st:Option (List Int)} (hR:RdS p bs st):Reads E 17 [.ptr p 0] p bs st pUint u64 0:=by
 have h:=take_reads (E:=E) (enc:=u64) (zero:=0) rt390 rv390 hR (find391 h404 p bs)
 have h':Reads E 53 [.ptr p 0,.fn 54 []] p (bs ++ []) st pUint u64 0:=by rw [List.append_nil]; exact h
 refine h'.through [] (fun x bs' lo' k lo=>?_) hR
 rw [List.append_nil] at k
 rw [Sm_ref rt225 rv225]
 simp [Bd_mk,r225,k]
end
theorem find612 (p:Nat) (bs:List Blk):Finds E 247 [] p bs pByte (fun n=>.int .u8 n):=by
 intro v l hB hb hl
 obtain ⟨nl,hf⟩:=hB.frz
 cases l with
 | nil =>
  refine .inr ⟨rfl,.int .u8 0,fun lo=>val_two (h':=⟨[],0⟩) rt612 rv612 (hf lo) ?_ rfl⟩
  simp [Bd_mk,r612,Sl.d]
 | cons c l =>
  refine .inl ⟨c,1,rfl,by omega,by simp,fun lo=>val_two (h':=⟨[],0⟩) rt612 rv612 (hf lo) ?_ rfl⟩
  have hx:=fun h=>idxv_sl (z:=1) (k:=0) (s:=⟨nl,c :: l⟩) (cells:=u8C) (e:=c) h rfl rfl
  simp only [Int.natCast_zero] at hx
  have hne:¬ ((l.length:Int) + 1 = 0):=by omega
  simp [Bd_mk,r612,hx,hne,u8C]
theorem R589 {p:Nat} {bs:List Blk} {st:Option (List Int)} (hR:RdS p bs st):Reads E 193 [.ptr p 0] p bs st pByte (fun n=>.int .u8 n) 0:=by
 have h:=take_reads (E:=E) (enc:=fun n=>D.int .u8 n) (zero:=0) rt611 rv611 hR (find612 p bs)
 have h':Reads E 246 [.ptr p 0,.fn 247 []] p (bs ++ []) st pByte (fun n=>.int .u8 n) 0:=by rw [List.append_nil]; exact h
 refine h'.through [] (fun x bs' lo' k lo=>?_) hR
 rw [List.append_nil] at k
 rw [Sm_ref rt589 rv589]
 simp [Bd_mk,r589,k]
theorem or_u32 {a y:Int} {i:Nat} (h0:0 <= a) (h1:a < 2 ^ i) (h2:0 <= y) (h3:a + y * 2 ^ i < 2 ^ 32):orI .u32 (y * 2 ^ i) a = a + y * 2 ^ i:=by
 obtain ⟨A,rfl⟩:=Int.eq_ofNat_of_zero_le h0
 obtain ⟨Y,rfl⟩:=Int.eq_ofNat_of_zero_le h2
 have e1:((Y:Int) * 2 ^ i) = ((Y * 2 ^ i:Nat):Int):=by push_cast; rfl
 rw [e1] at h3 ⊢
 have h1':A < 2 ^ i:=by exact_mod_cast h1
 have h3':A + Y * 2 ^ i < 2 ^ 32:=by exact_mod_cast h3
 have e2:Y * 2 ^ i ||| A = A + Y * 2 ^ i:=by
  have h:=Nat.two_pow_add_eq_or_of_lt h1' Y
  rw [Nat.mul_comm Y,← h,Nat.add_comm]
 have hw:IntKind.u32.bits = 32:=rfl
 simp only [orI,hw,BitVec.ofInt_natCast,BitVec.toNat_or,BitVec.toNat_ofNat]
 rw [Nat.mod_eq_of_lt (by omega),Nat.mod_eq_of_lt (by omega),e2]
 simp [IntKind.wrap,IntKind.bits,IntKind.signed]
 omega
end
end Go.Proofs.YthkeklemhcfbcaaGreat
namespace Go.Proofs.YthkeklemhcfbcaaGreat
variable {w:Bool}
def KB (L:Nat) (bs:List Blk) (B:Nat):Nat -> Prop:=fun x=>L <= x /\ x < bs.length /\ x ≠ B
def KL (L:Nat) (bs:List Blk):Nat -> Prop:=fun x=>L <= x /\ x < bs.length
def AccV (w:Bool) (L z k n:Nat) (ds:List D) (bs:List Blk) (v:V):Prop:=(n = 0 /\ ds = [] /\ v = .d (.slice true [])) \/ (0 < n /\ ∃ B cs,L <= B /\ v = .row B 0 n none z /\ getB bs B = some cs /\ cs.length = n * z /\ Hngs w (KB L bs B) bs k cs ds)
theorem AccV.nil (L z k:Nat) (bs:List Blk):AccV w L z k 0 [] bs (.d (.slice true [])):=.inl ⟨rfl,rfl,rfl⟩
theorem AccV.nu {L z k n:Nat} {ds:List D} {bs:List Blk} {v:V} (h:AccV w L z k n ds bs v):nu v = some v:=by
 rcases h with ⟨_,_,rfl⟩ | ⟨_,B,cs,_,rfl,_⟩ <;> rfl
theorem AccV.on {L z k n:Nat} {ds:List D} {bs bs':List Blk} {v:V} (h:AccV w L z k n ds bs v) (hl:bs.length <= bs'.length) (ho:∀ x,L <= x -> x < bs.length -> bs'[x]? = bs[x]?):AccV w L z k n ds bs' v:=by
 rcases h with h | ⟨h0,B,cs,h1,h2,h3,h4,h5⟩
 · exact .inl h
 · refine .inr ⟨h0,B,cs,h1,h2,?_,h4,h5.on (fun x hx=>ho x hx.1 hx.2.1) fun x hx=>⟨hx.1,by have:=hx.2.1; omega,hx.2.2⟩⟩
   rw [← h3]; unfold getB; rw [ho B h1 (getB_len h3)]
theorem AccV.app {L L2 z k n:Nat} {ds es:List D} {bs:List Blk} {v:V} (h:AccV w L z k n ds bs v) (hz0:0 < z) {by_:Nat} (hby:by_ <= 4096) (hl:n < big) {r:Nat} {cap:Option Nat} {vs:List V} (hvl:vs.length = z) (hr:getB bs r = some vs)
 (hL:L <= L2) (hB:∀ B n' c,v = .row B 0 n' c z -> B < L2) (hv:Hngs w (KL L2 bs) bs k vs es) (hLb:L <= bs.length) :
 ∃ v' bs',∃ F:Nat -> Nat,(∀ lo,appv ⟨bs,lo⟩ z by_ v (.row r 0 1 cap z) = some (v',⟨bs',F lo⟩)) /\ AccV w L z k (n + 1) (ds ++ es) bs' v' /\ bs.length <= bs'.length /\ (∀ x,x < L -> bs'[x]? = bs[x]?) /\ ∀ lo:Nat,F lo <= lo:=by
 have hrc:∀ lo,rowCells ⟨bs,lo⟩ (.row r 0 1 cap z) z = some (1,vs):=fun lo=>by
  have:sub vs 0 z = some vs:=sub_all hvl
  simp only [rowCells,if_true,get_eq,hr,Nat.one_mul,this,Option.map_some]
 have hroom:∀ n,n <= big -> roomy n by_ = true:=fun n hn=>by simp only [roomy,Bool.and_eq_true,decide_eq_true_eq]; exact ⟨hn,hby⟩
 rcases h with ⟨rfl,rfl,rfl⟩ | ⟨h0,B,cs,h1,rfl,h3,h4,h5⟩
 · refine ⟨.row bs.length 0 1 none z,bs ++ [.cells vs],id,fun lo=>by simp only [appv,hrc,appendAt,if_neg (show ¬ (1 = 0) by decide),if_neg (show ¬ z = 0 by omega),hroom 1 (by decide),if_true]; rfl,.inr ⟨by omega,bs.length,vs,hLb,rfl,by simp,by simpa using hvl,?_⟩,by simp,fun x hx=>by rw [List.getElem?_append_left (by omega)],fun lo=>Nat.le_refl _⟩
   exact hv.on (fun x hx=>by rw [List.getElem?_append_left hx.2]) fun x hx=>⟨by have:=hx.1; omega,by have:=hx.2; simp; omega,by have:=hx.2; omega⟩
 · have hsub:sub cs 0 (n * z) = some cs:=sub_all h4
   have hpos:0 < cs.length:=by rw [h4]; exact Nat.mul_pos h0 hz0
   have hbl:=getB_len h3
   have hBL:=hB B n none rfl
   refine ⟨.row bs.length 0 (n + 1) none z,bs.set B (.cells []) ++ [.cells (cs ++ vs)],fun lo=>min lo B,fun lo=>by simp only [appv,hrc,appendAt,ne_eq,not_true_eq_false,false_or,if_neg (show ¬ (1 = 0) by decide),if_neg (show ¬ z = 0 by omega),get_eq,h3,hsub,hroom (n + 1) (by omega),Bool.not_true,Bool.false_eq_true,if_false,hpos,and_self,if_true,Hp.size,Hp.alloc,Hp.set,List.length_set],.inr ⟨by omega,bs.length,cs ++ vs,hLb,rfl,?_,by rw [List.length_append,h4,hvl,Nat.succ_mul],?_⟩,by simp,fun x hx=>?_,fun lo=>Nat.min_le_left _ _⟩
   · have:getB (bs.set B (.cells []) ++ [.cells (cs ++ vs)]) (bs.set B (.cells [])).length = some (cs ++ vs):=by rw [getB_at]; rfl
     rw [List.length_set] at this
     exact this
   · have ho:∀ x,x < bs.length -> x ≠ B -> (bs.set B (.cells []) ++ [.cells (cs ++ vs)])[x]? = bs[x]?:=fun x hx hne=>by
      rw [List.getElem?_append_left (by simpa using hx),List.getElem?_set_ne (Ne.symm hne)]
     refine (h5.on (fun x hx=>ho x hx.2.1 hx.2.2) fun x hx=>⟨hx.1,by have:=hx.2.1; simp; omega,by have:=hx.2.1; omega⟩).app (hv.on (fun x hx=>ho x hx.2 (by have:=hx.1; omega)) fun x hx=>⟨by have:=hx.1; omega,by have:=hx.2; simp; omega,by have:=hx.2; omega⟩)
   · rw [List.getElem?_append_left (by simp; omega),List.getElem?_set_ne (by omega)]
theorem AccV.hng {L z k n:Nat} {bs:List Blk} {v:V} {es:List (List D)} (h:AccV w L z k n es.flatten bs v) (hz:∀ e ∈ es,e.length = z) (hn:n = es.length):Hng w (KL L bs) bs v (.slice es.isEmpty es) (k + 1):=by
 rcases h with ⟨h0,h1,rfl⟩ | ⟨h0,B,cs,h1,rfl,h3,h4,h5⟩
 · have:es = []:=List.eq_nil_of_length_eq_zero (by omega)
   subst this
   exact Hng.d fun nl c cs hh=>by simp at hh
 · have he:es.isEmpty = false:=by cases es with
    | nil=>simp at hn; omega
    | cons _ _=>rfl
   rw [he]
   exact Hng.row ⟨h1,getB_len h3⟩ h3 (h5.on (fun _ _=>rfl) fun x hx=>⟨hx.1,hx.2.1⟩) hz hn
def Rds {α:Type} (w:Bool) (E:Calls') (g:FuncId) (args:List V) (p:Nat) (P:Pr α) (cells:α -> List D) (k:Nat) (Z:V) (bs:List Blk):Prop :=
 ∀ st,RdS p bs st -> ∃ v vs x st' bs',∃ F:Nat -> Nat,(∀ lo,Sm E TRd valRd g args ⟨bs,lo⟩ = some (v,⟨bs',F lo⟩)) /\ v.cells = some vs /\ Hngs w (KL bs.length bs') bs' k vs (cells x) /\ Step P st x st' /\ RdS p bs' st' /\ Old p bs bs' /\ (∀ lo:Nat,F lo <= lo) /\ (st = none -> v = Z /\ bs' = bs /\ ∀ lo,F lo = lo) /\ (st ≠ none -> ∀ lo,F lo <= p)
def RdsW {α:Type} (w:Bool) (E:Calls') (g:FuncId) (args:List V) (p:Nat) (P:Pr α) (cells:α -> List D) (k:Nat) (bs:List Blk):Prop :=
 ∀ st,RdS p bs st -> ∃ v vs x st' bs',∃ F:Nat -> Nat,(∀ lo,Sm E TRd valRd g args ⟨bs,lo⟩ = some (v,⟨bs',F lo⟩)) /\ v.cells = some vs /\ Hngs w (KL bs.length bs') bs' k vs (cells x) /\ Step P st x st' /\ RdS p bs' st' /\ Old p bs bs' /\ ∀ lo:Nat,F lo <= lo
theorem Rds.weak {α:Type} {E:Calls'} {g:FuncId} {args:List V} {p:Nat} {P:Pr α} {cells:α -> List D} {k:Nat} {Z:V} {bs:List Blk} (h:Rds w E g args p P cells k Z bs):RdsW w E g args p P cells k bs:=fun st hR=>by
 obtain ⟨v,vs,x,st',bs',F,a1,a2,a3,a4,a5,a6,a7,_⟩:=h st hR
 exact ⟨v,vs,x,st',bs',F,a1,a2,a3,a4,a5,a6,a7⟩
def RdsR {α:Type} (w:Bool) (E:Calls') (g:FuncId) (args:List V) (p:Nat) (P:Pr (Sl α)) (cells:α -> List D) (k:Nat) (bs:List Blk):Prop :=
 ∀ st,RdS p bs st -> ∃ v x st' bs',∃ F:Nat -> Nat,(∀ lo,Sm E TRd valRd g args ⟨bs,lo⟩ = some (v,⟨bs',F lo⟩)) /\ (v.cells = some [v] /\ nu v = some v) /\ Hng w (KL bs.length bs') bs' v (Sl.d cells x) k /\ Step P st x st' /\ RdS p bs' st' /\ Old p bs bs' /\ (∀ lo:Nat,F lo <= lo) /\ (st ≠ none -> ∀ lo,F lo <= p)
theorem RdsR.mk {α:Type} {E:Calls'} {g:FuncId} {args:List V} {p:Nat} {P:Pr (Sl α)} {cells:α -> List D} {k:Nat} {bs:List Blk} (h0:RdS p bs none -> ∀ lo,Sm E TRd valRd g args ⟨bs,lo⟩ = some (.d (.slice true []),⟨bs,lo⟩))
 (h1:∀ b,RdS p bs (some b) -> ∃ v x st' bs',∃ F:Nat -> Nat,(∀ lo,Sm E TRd valRd g args ⟨bs,lo⟩ = some (v,⟨bs',F lo⟩)) /\ (v.cells = some [v] /\ nu v = some v) /\ Hng w (KL bs.length bs') bs' v (Sl.d cells x) k /\ Step P (some b) x st' /\ RdS p bs' st' /\ Old p bs bs' /\ (∀ lo:Nat,F lo <= lo) /\ ∀ lo,F lo <= p):RdsR w E g args p P cells k bs:=by
 intro st hR
 cases st with
 | none=>exact ⟨_,⟨true,[]⟩,none,bs,fun lo=>lo,h0 hR,⟨rfl,rfl⟩,Hng.d (by simp [Sl.d]),rfl,hR,Old.refl _ _,fun lo=>Nat.le_refl _,fun h=>absurd rfl h⟩
 | some b =>
  obtain ⟨v,x,st',bs',F,a1,a2,a3,a4,a5,a6,a7,a8⟩:=h1 b hR
  exact ⟨v,x,st',bs',F,a1,a2,a3,a4,a5,a6,a7,fun _=>a8⟩
end Go.Proofs.YthkeklemhcfbcaaGreat
namespace Go.Proofs.YthkeklemhcfbcaaGreat
variable {w:Bool}
def rowB (z by_:Nat) (zero:List V):QC:=(.seq (.reg none [op 12 (.bin .lss (.t 11) (.t 10))]) (.seq (.cond (.t 12) .skip (.exit 0 [7])) (.seq (.block 1 (.reg none [mv 13 7,mv 14 2,op 15 (.call (.t 14) []),op 16 (.buildS z 1 zero [(0,z,(.t 15))]),op 17 (.app z by_ (.t 13) (.t 16)),mv 7 17])) (.reg none [op 18 (.bin .add (.t 11) (ci 1)),mv 11 18]))))
def rowQ (sm z by_:Nat) (zero:List V):QF:=⟨20,[.tmp 6],(.seq (.reg none [op 3 (.box (.t 0)),op 6 (.mov (.c (.d (.slice true []))))]) (.seq (.reg none [op 7 (.mov (.c (.d (.slice true []))))]) (.seq (.seq (.reg none [op 8 (.load false 1 (.t 3)),mv 9 1,op 10 (.call (.c (.fn sm [])) [.t 8,.t 9]),op 11 (.mov (ci 0))]) (.block 0 (.loop [2,7,10,11] (rowB z by_ zero)))) (.seq (.reg none [mv 19 7,mv 6 19]) (.ret [6])))))⟩
theorem fill_one {ev:X -> V} {x:X} {v:V} {vs zero:List V} {z:Nat} (hx:ev x = v) (hv:v.cells = some vs) (hvl:vs.length = z) (hz:zero.length = z):fillsE ev zero [(0,z,x)] = some vs:=by
 have hd:zero.drop vs.length = []:=List.drop_eq_nil_of_le (by omega)
 simp [fillsE,hx,hv,hvl,put,hz,hd]
theorem Hngs.cells_len {K:Nat -> Prop} {bs:List Blk} {k:Nat} {vs:List V} {ds:List D} (h:Hngs w K bs k vs ds) {z:Nat} (hz:ds.length = z):vs.length = z:=h.len.trans hz
theorem RdS.upto {p:Nat} {bs bs':List Blk} {st:Option (List Int)} (h:RdS p bs st) (ho:∀ y,y <= p -> bs'[y]? = bs[y]?):RdS p bs' st:=by
 obtain ⟨v,l,h1,h2,h3⟩:=h
 refine ⟨v,l,?_,?_,h3⟩
 · rw [← h1]; unfold getB; rw [ho p (Nat.le_refl _)]
 · rcases h2 with h | ⟨g1,B,o,cs,g2,g3,g4,g5⟩
   · exact .inl h
   · exact .inr ⟨g1,B,o,cs,g2,g3,by rw [← g4]; unfold getB; rw [ho B (by omega)],g5⟩
section
variable {E:Calls'}
theorem row_loop {α:Type} {P:Pr α} {cells:α -> List D} {z by_ k:Nat} {zero:List V} (hz0:0 < z) (hby:by_ <= 4096) (hzero:zero.length = z) (hcl:∀ x,(cells x).length = z) {g:FuncId} {args:List V} {fv:V} (hfv:∀ C h,callM C fv [] h = C g args h) (hnu:nu fv = some fv)
 {p:Nat} {bs0:List Blk} (hp:p < bs0.length) (hone:∀ bs,Old p bs0 bs -> RdsW w E g args p P cells k bs) {N:Nat} (hN:N < big) :
 ∀ (m i:Nat) (bs:List Blk) (v:V) (st:Option (List Int)) (ds:List D),i + m = N -> RdS p bs st -> AccV w bs0.length z k i ds bs v -> Old p bs0 bs →
 ∃ v' xs st' bs',∃ F:Nat -> Nat,(∀ lo,Cd E TRd valRd (.loop [2,7,10,11] (rowB z by_ zero)) [(2,fv),(7,v),(10,.d (i64 N)),(11,.d (i64 i))] ⟨bs,lo⟩ = some (.exit 0,[(7,v')],⟨bs',F lo⟩)) /\ xs.length = m /\ AccV w bs0.length z k N (ds ++ (xs.map cells).flatten) bs' v' /\ Step (pRow P m) st xs st' /\ RdS p bs' st' /\ Old p bs0 bs' /\ ∀ lo:Nat,F lo <= lo:=by
 intro m
 have hN2:N < 2 ^ 62:=Nat.lt_trans hN (by decide)
 have key:=Cd_round (E:=E) (T:=TRd) (val:=valRd) [2,7,10,11] (rowB z by_ zero)
 generalize Cd E TRd valRd (.loop [2,7,10,11] (rowB z by_ zero)) = W at key ⊢
 induction m with
 | zero =>
  intro i bs v st ds hi hR hA ho
  have:i = N:=by omega
  subst this
  refine ⟨v,[],st,bs,id,fun lo=>?_,rfl,by simpa using hA,Step.nil,hR,ho,fun lo=>Nat.le_refl _⟩
  rw [key]
  simp [rowB]
 | succ m ih =>
  intro i bs v st ds hi hR hA ho
  obtain ⟨v1,vs,x,st1,bs1,F1,a1,a2,a3,a4,a5,a6,a7⟩:=hone bs ho st hR
  have hvl:=a3.cells_len (hcl x)
  have hA1:AccV w bs0.length z k i ds (bs1 ++ [.cells vs]) v:=hA.on (by have:=a6.1; simp; omega) fun y h1 h2=>by
   rw [List.getElem?_append_left (by have:=a6.1; omega)]
   exact a6.2 y (by omega) h2
  have hBl:∀ B n' c,v = .row B 0 n' c z -> B < bs.length:=by
   rintro B n' c rfl
   rcases hA with ⟨_,_,h⟩ | ⟨_,B',cs,_,h,h3,_⟩
   · cases h
   · cases h; exact getB_len h3
  have hle:=ho.1
  have hle1:=a6.1
  obtain ⟨v2,bs2,F2,b1,b2,b3,b4,b5⟩:=hA1.app hz0 hby (by omega) (r:=bs1.length) (cap:=some 1) hvl (by simp) (L2:=bs.length) hle hBl
   (a3.on (fun y hy=>by rw [List.getElem?_append_left hy.2]) fun y hy=>⟨hy.1,by have:=hy.2; simp; omega⟩) (by simp; omega)
  have hR2:RdS p bs2 st1:=a5.upto fun y hy=>by
   rw [b4 y (by omega),List.getElem?_append_left (by omega)]
  have ho2:Old p bs0 bs2:=⟨by simp at b3; omega,fun y h1 h2=>by
   rw [b4 y h2,List.getElem?_append_left (by omega),a6.2 y h1 (by omega),ho.2 y h1 h2]⟩
  obtain ⟨v',xs,st',bs',F3,c1,c2,c3,c4,c5,c6,c7⟩:=ih (i + 1) bs2 v2 st1 _ (by omega) hR2 b2 ho2
  refine ⟨v',x :: xs,st',bs',fun lo=>F3 (F2 (F1 lo)),fun lo=>?_,by simp [c2],by simpa using c3,Step.row a4 c4,c5,c6,fun lo=>Nat.le_trans (c7 _) (Nat.le_trans (b5 _) (a7 _))⟩
  rw [← c1,key]
  have hw:=int_next (i:=i) (n:=N) (by omega) hN2
  have hlt:((i:Int) < (N:Int)):=by omega
  have hfill:∀ ev:X -> V,ev (.t 15) = v1 -> fillsE ev zero [(0,z,.t 15)] = some vs:=fun ev he=>fill_one he a2 hvl hzero
  simp [rowB,hlt,hA.nu,hnu,hfv,a1,hfill,b1,b2.nu,hw]
end
end Go.Proofs.YthkeklemhcfbcaaGreat
namespace Go.Proofs.YthkeklemhcfbcaaGreat
variable {w:Bool}
section
variable {E:Calls'}
theorem F237 {p:Nat} {bs:List Blk} {st:Option (List Int)} (hR:RdS p bs st):∃ bs',(∀ lo,Sm E TRd valRd 29 [.ptr p 0] ⟨bs,lo⟩ = some (.tup [],⟨bs',min lo p⟩)) /\ RdS p bs' none /\ Old p bs bs':=by
 have hp:=hR.lt
 obtain ⟨v,l,h1,h2,h3,h4,h5⟩:=hR
 obtain ⟨n1,n2,n3⟩:=h2.nu
 refine ⟨bs.set p (.cells [v,bl true]),fun lo=>?_,⟨v,l,?_,h2.on fun x hx hl=>by rw [List.getElem?_set_ne (Ne.symm hx)],h3,h4,fun b hb=>by cases hb⟩,Old.set _ _⟩
 · rw [Sm_ref rt237 rv237]
   simp [r237,Bd_mk,h1,storeAt,put,Hp.set,V.under,V.under.go]
   rw [if_neg (by omega),Nat.min_eq_right (Nat.le_of_lt hp)]
   rfl
 · rw [getB_set,if_pos rfl,if_pos hp]; rfl
theorem u64_small {n most:Int} (h0:0 <= most) (h1:most < 2 ^ 63) (hn:n <= most) (h2:0 <= n):IntKind.wrap .i64 n = n:=wrap64 (by omega) (by omega)
section
variable (h404:∀ x h,E 99 [.d (u64 x)] h = some (.d (i64 (grpT x)),h))
include h404
theorem R394 {p:Nat} {bs:List Blk} {st:Option (List Int)} (hR:RdS p bs st) {most:Int} (hm0:0 <= most) (hm:most < 2 ^ 63) :
 ∃ n st' bs',∃ F:Nat -> Nat,(∀ lo,Sm E TRd valRd 57 [.agg [.ptr p 0],.d (i64 most)] ⟨bs,lo⟩ = some (.d (i64 n),⟨bs',F lo⟩)) /\ StepZ (pSmall most) st n st' /\ 0 <= n /\ n <= most /\ RdS p bs' st' /\ Old p bs bs' /\ (∀ lo:Nat,F lo <= lo) /\ (st = none -> n = 0 /\ bs' = bs /\ ∀ lo,F lo = lo) /\ (st ≠ none -> ∀ lo,F lo <= p):=by
 have hp:=hR.lt
 obtain ⟨x,st1,bs1,F1,k1,k2,k3,k4,k5,k6,k7,k8⟩:=R225 h404 (hR.lay [.cells [.ptr p 0]])
 have hL:getB bs1 bs.length = some [.ptr p 0]:=by
  have:=k5.2 bs.length (by omega) (by simp)
  unfold getB; rw [this]; simp
 have hw:IntKind.wrap .u64 most = most:=by rw [wrap_u64]; omega
 cases st with
 | none =>
  obtain ⟨rfl,k7⟩:=k7 rfl
  have hn:st1 = none:=k2
  subst hn
  have hx:=k3 rfl
  subst hx
  refine ⟨0,none,bs,id,fun lo=>?_,⟨rfl,fun _=>rfl⟩,Int.le_refl _,hm0,hR,Old.refl _ _,fun lo=>Nat.le_refl _,fun _=>⟨rfl,rfl,fun _=>rfl⟩,fun h=>absurd rfl h⟩
  rw [Sm_ref rt394 rv394]
  simp [r394,Bd_mk,k1,k7,hw,show ¬ ((0:Int) > most) from by omega,show IntKind.wrap .i64 0 = 0 from by decide,V.under]
 | some b =>
  have k8:=k8 (by simp)
  have hlow:¬ bs.length <= F1 bs.length:=by have:=k8 bs.length; omega
  cases hu:pUint b with
  | none =>
   have hst:st1 = none:=by simpa [Step,hu] using k2
   subst hst
   have hx:=k3 rfl
   subst hx
   refine ⟨0,none,bs1,fun lo=>min lo (F1 bs.length),fun lo=>?_,⟨by simp [Step,pSmall,Pr.keep,hu],fun _=>rfl⟩,Int.le_refl _,hm0,k4,(Old.lay bs _).trans k5,fun lo=>Nat.min_le_left _ _,fun h=>(by cases h),fun _ lo=>Nat.le_trans (Nat.min_le_right _ _) (k8 _)⟩
   rw [Sm_ref rt394 rv394]
   simp [r394,Bd_mk,k1,hw,show ¬ ((0:Int) > most) from by omega,show IntKind.wrap .i64 0 = 0 from by decide,hlow]
  | some y =>
   obtain ⟨y,l⟩:=y
   have hst:x = y /\ st1 = some l:=by simpa [Step,hu] using k2
   obtain ⟨rfl,rfl⟩:=hst
   have hbyte:byteL b:=by
    obtain ⟨v,l',g1,g2,g3,g4,g5⟩:=hR
    rw [g5 b rfl]; exact g3
   have h0:=(uint_cod.bwd b x l hbyte hu).2
   by_cases hgt:x > most
   · obtain ⟨bs2,q1,q2,q3⟩:=F237 (E:=E) k4
     refine ⟨0,none,bs2,fun lo=>min lo (min (F1 bs.length) p),fun lo=>?_,⟨by simp [Step,pSmall,Pr.keep,hu,show ¬ x <= most from by omega],fun _=>rfl⟩,Int.le_refl _,hm0,q2,((Old.lay bs _).trans k5).trans q3,fun lo=>Nat.min_le_left _ _,fun h=>(by cases h),fun _ lo=>Nat.le_trans (Nat.min_le_right _ _) (Nat.min_le_right _ _)⟩
     rw [Sm_ref rt394 rv394]
     simp [r394,Bd_mk,k1,hw,hgt,hL,q1,show ¬ bs.length <= min (F1 bs.length) p from by omega]
   · refine ⟨x,some l,bs1,fun lo=>min lo (F1 bs.length),fun lo=>?_,⟨by simp [Step,pSmall,Pr.keep,hu,show x <= most from by omega],fun h=>by cases h⟩,h0.1,by omega,k4,(Old.lay bs _).trans k5,fun lo=>Nat.min_le_left _ _,fun h=>(by cases h),fun _ lo=>Nat.le_trans (Nat.min_le_right _ _) (k8 _)⟩
     rw [Sm_ref rt394 rv394]
     simp [r394,Bd_mk,k1,hw,hgt,u64_small hm0 hm (by omega) h0.1,hlow]
omit h404 in
theorem row_zero {z by_:Nat} {zero:List V} {fv v:V} (hv:nu v = some v) (h:Hp):Cd E TRd valRd (.loop [2,7,10,11] (rowB z by_ zero)) [(2,fv),(7,v),(10,.d (i64 0)),(11,.d (i64 0))] h = some (.exit 0,[(7,v)],h):=by
 rw [Cd_round]
 simp [rowB]
theorem S_rowN {id z by_:Nat} {zero:List V} (ht:TRd id = some (rowQ 57 z by_ zero)) (hv:valRd id = false) {fv:V} (hnu:nu fv = some fv) (hok:okV fv = true) {p:Nat} {bs:List Blk} {most:Int} (hm0:0 <= most) (hm:most < big) (hR:RdS p bs none) (lo:Nat) :
 Sm E TRd valRd id [.agg [.ptr p 0],.d (i64 most),fv] ⟨bs,lo⟩ = some (.d (.slice true []),⟨bs,lo⟩):=by
 obtain ⟨n,st1,bs1,F1,a1,a2,a3,a4,a5,a6,a7,a8,a9⟩:=R394 h404 (hR.lay [.cells [.ptr p 0]]) hm0 (show most < 2 ^ 63 from Int.lt_trans hm (by decide))
 obtain ⟨rfl,rfl,a8⟩:=a8 rfl
 rw [Sm_ref ht hv]
 simp [rowQ,Bd_mk,a1,a8,hnu]
 rw [Cd_keep]
 simp [row_zero (E:=E) (v:=.d (.slice true [])) rfl,V.under,hnu]
theorem S_row {α:Type} {P:Pr α} {cells:α -> List D} {z by_ k id:Nat} {zero:List V} (ht:TRd id = some (rowQ 57 z by_ zero)) (hv:valRd id = false) (hz0:0 < z) (hby:by_ <= 4096) (hzero:zero.length = z) (hcl:∀ x,(cells x).length = z) {g:FuncId} {args:List V} {fv:V} (hfv:∀ C h,callM C fv [] h = C g args h) (hnu:nu fv = some fv) (hok:okV fv = true)
 {p:Nat} {bs:List Blk} {most:Int} (hm0:0 <= most) (hm:most < big) (hone:∀ bs',Old p bs bs' -> RdsW w E g args p P cells k bs') :
 RdsR w E id [.agg [.ptr p 0],.d (i64 most),fv] p (pSl most P) cells (k + 1) bs:=by
 refine RdsR.mk (S_rowN h404 ht hv hnu hok hm0 hm) fun b hR=>?_
 have hp:=hR.lt
 obtain ⟨n,st1,bs1,F1,a1,a2,a3,a4,a5,a6,a7,a8,a9⟩:=R394 h404 (hR.lay [.cells [.ptr p 0]]) hm0 (show most < 2 ^ 63 from Int.lt_trans hm (by decide))
 have a9:=a9 (by simp)
 obtain ⟨N,rfl⟩:=Int.eq_ofNat_of_zero_le a3
 obtain ⟨v',xs,st',bs',F2,c1,c2,c3,c4,c5,c6,c7⟩:=row_loop (E:=E) (by_:=by_) hz0 hby hzero hcl hfv hnu (bs0:=bs ++ [.cells [.ptr p 0]]) (by simp; omega) (fun bs' ho=>hone bs' ((Old.lay bs _).trans ho)) (N:=N) (by omega) N 0 bs1 (.d (.slice true [])) st1 [] (by omega) a5 (AccV.nil _ _ _ _) a6
 have hflat:(xs.map cells).length = N:=by simp [c2]
 have hH:=AccV.hng (es:=xs.map cells) (by simpa using c3) (fun e he=>by obtain ⟨x,_,rfl⟩:=List.mem_map.1 he; exact hcl x) hflat.symm
 have hS:Step (pSl most P) (some b) ⟨xs.isEmpty,xs⟩ st':=by
  have:=(StepZ.seq a2 (l:=xs) (s2:=st') (by simpa using c4)).map fun l=>(⟨l.isEmpty,l⟩:Sl α)
  exact this
 have hF:F2 (F1 bs.length) <= p:=Nat.le_trans (c7 _) (a9 _)
 refine ⟨v',⟨xs.isEmpty,xs⟩,st',bs',fun lo=>min lo (F2 (F1 bs.length)),fun lo=>?_,⟨?_,c3.nu⟩,?_,hS,c5,(Old.lay bs _).trans c6,fun lo=>Nat.min_le_left _ _,fun lo=>Nat.le_trans (Nat.min_le_right _ _) hF⟩
 · rw [Sm_ref ht hv]
   simp only [Int.natCast_zero] at c1
   simp [rowQ,Bd_mk,a1,hnu]
   rw [Cd_keep]
   simp [c1,c3.nu,hnu,show ¬ bs.length <= F2 (F1 bs.length) from by omega]
 · rcases c3 with ⟨_,_,rfl⟩ | ⟨_,B,cs,_,rfl,_⟩ <;> rfl
 · have:Sl.d cells ⟨xs.isEmpty,xs⟩ = .slice (xs.map cells).isEmpty (xs.map cells):=by simp [Sl.d]
   rw [this]
   exact hH.on (fun _ _=>rfl) fun x hx=>⟨by
    have h1:bs.length + 1 <= x:=hx.1
    omega,hx.2⟩
end
end
end Go.Proofs.YthkeklemhcfbcaaGreat
namespace Go.Proofs.YthkeklemhcfbcaaGreat
section
variable {E:Calls'}
theorem find610 (p:Nat) (bs:List Blk):Finds E 245 [] p bs pU32 (fun n=>.int .u32 n):=by
 intro v l hB hb hl
 obtain ⟨nl,hf⟩:=hB.frz
 have hlen:∀ h,lenv false (.d (Sl.d u8C ⟨nl,l⟩)) h = some (.d (i64 l.length),h):=fun h=>by simp [Sl.d]
 have short:l.length < 4 -> pU32 l = none -> (pU32 l = none /\ ∃ d,∀ lo,Sm E TRd valRd 245 (v :: []) ⟨bs,lo⟩ = some (.tup [.d d,.d (i64 (-1))],⟨bs,lo⟩)):=fun h1 h2=>by
  have h3:((l.length:Int) < 4):=by omega
  exact ⟨h2,.int .u32 0,fun lo=>val_two (h':=⟨[],0⟩) rt610 rv610 (hf lo) (by simp [Bd_mk,r610,hlen,h3]) rfl⟩
 match l,hb,hl,hf,hlen,short with
 | [],_,_,_,_,short=>exact .inr (short (by simp) rfl)
 | [_],_,_,_,_,short=>exact .inr (short (by simp) rfl)
 | [_,_],_,_,_,_,short=>exact .inr (short (by simp) rfl)
 | [_,_,_],_,_,_,_,short=>exact .inr (short (by simp) rfl)
 | a :: b :: c :: d :: l,hb,hl,hf,hlen,_ =>
  have ha:=hb a (by simp)
  have hb':=hb b (by simp)
  have hc:=hb c (by simp)
  have hd:=hb d (by simp)
  refine .inl ⟨a + 256 * b + 65536 * c + 16777216 * d,4,rfl,by omega,by simp,fun lo=>val_two (h':=⟨[],0⟩) rt610 rv610 (hf lo) ?_ rfl⟩
  have x0:=fun h=>idxv_sl (z:=1) (k:=0) (s:=⟨nl,a :: b :: c :: d :: l⟩) (cells:=u8C) (e:=a) h rfl rfl
  have x1:=fun h=>idxv_sl (z:=1) (k:=1) (s:=⟨nl,a :: b :: c :: d :: l⟩) (cells:=u8C) (e:=b) h rfl rfl
  have x2:=fun h=>idxv_sl (z:=1) (k:=2) (s:=⟨nl,a :: b :: c :: d :: l⟩) (cells:=u8C) (e:=c) h rfl rfl
  have x3:=fun h=>idxv_sl (z:=1) (k:=3) (s:=⟨nl,a :: b :: c :: d :: l⟩) (cells:=u8C) (e:=d) h rfl rfl
  have h3:¬ (((a :: b :: c :: d :: l).length:Int) < 4):=by simp; omega
  have wu:∀ n:Int,0 <= n -> n < 4294967296 -> IntKind.wrap .u32 n = n:=fun n h1 h2=>by simp [IntKind.wrap,IntKind.bits,IntKind.signed]; omega
  have s1:binD .shl (.d (.int .u32 d)) (.d (.int .u64 24)) = some (.int .u32 (d * 2 ^ 24)):=by rw [bin_shl (by omega)]; congr 1; show D.int .u32 (IntKind.wrap .u32 (d * 2 ^ 24)) = _; rw [wu _ (by omega) (by omega)]
  have s2:binD .shl (.d (.int .u32 c)) (.d (.int .u64 16)) = some (.int .u32 (c * 2 ^ 16)):=by rw [bin_shl (by omega)]; congr 1; show D.int .u32 (IntKind.wrap .u32 (c * 2 ^ 16)) = _; rw [wu _ (by omega) (by omega)]
  have s3:binD .shl (.d (.int .u32 b)) (.d (.int .u64 8)) = some (.int .u32 (b * 2 ^ 8)):=by rw [bin_shl (by omega)]; congr 1; show D.int .u32 (IntKind.wrap .u32 (b * 2 ^ 8)) = _; rw [wu _ (by omega) (by omega)]
  have o1:orI .u32 (d * 2 ^ 24) (c * 2 ^ 16) = c * 2 ^ 16 + d * 2 ^ 24:=or_u32 (by omega) (by omega) (by omega) (by omega)
  have e2:c * 2 ^ 16 + d * 2 ^ 24 = (c + d * 2 ^ 8) * 2 ^ 16:=by omega
  have o2:orI .u32 (c * 2 ^ 16 + d * 2 ^ 24) (b * 2 ^ 8) = b * 2 ^ 8 + (c * 2 ^ 16 + d * 2 ^ 24):=by rw [e2]; exact or_u32 (by omega) (by omega) (by omega) (by omega)
  have e3:b * 2 ^ 8 + (c * 2 ^ 16 + d * 2 ^ 24) = (b + c * 2 ^ 8 + d * 2 ^ 16) * 2 ^ 8:=by omega
  have o3:orI .u32 (b * 2 ^ 8 + (c * 2 ^ 16 + d * 2 ^ 24)) a = a + 256 * b + 65536 * c + 16777216 * d:=by
   rw [e3,or_u32 (by omega) (by omega) (by omega) (by omega)]; omega
  simp only [show ((0:Nat):Int) = 0 from rfl,show ((1:Nat):Int) = 1 from rfl,show ((2:Nat):Int) = 2 from rfl,show ((3:Nat):Int) = 3 from rfl] at x0 x1 x2 x3
  have h3':¬ ((l.length:Int) + 1 + 1 + 1 + 1 < 4):=by omega
  simp [Bd_mk,r610,hlen,h3',x0,x1,x2,x3,u8C,wu a ha.1 (by omega),wu b hb'.1 (by omega),wu c hc.1 (by omega),wu d hd.1 (by omega),s1,s2,s3,bin_or]
  have p24:(2:Int) ^ 24 = 16777216:=by decide
  have p16:(2:Int) ^ 16 = 65536:=by decide
  have p8:(2:Int) ^ 8 = 256:=by decide
  rw [← o3,← o2,← o1,p24,p16,p8]
theorem R588 {p:Nat} {bs:List Blk} {st:Option (List Int)} (hR:RdS p bs st):Reads E 192 [.ptr p 0] p bs st pU32 (fun n=>.int .u32 n) 0:=by
 have h:=take_reads (E:=E) (enc:=fun n=>D.int .u32 n) (zero:=0) rt609 rv609 hR (find610 p bs)
 have h':Reads E 244 [.ptr p 0,.fn 245 []] p (bs ++ []) st pU32 (fun n=>.int .u32 n) 0:=by rw [List.append_nil]; exact h
 refine h'.through [] (fun x bs' lo' k lo=>?_) hR
 rw [List.append_nil] at k
 rw [Sm_ref rt588 rv588]
 simp [Bd_mk,r588,k]
theorem BRow.text {bs:List Blk} {p:Nat} {v:V} {l:List Int} (h:BRow bs p v l) {n x:Nat} (hn:0 < n) (hx:n + x <= l.length) :
 ∃ w,(∀ (hp:Hp) (ev:X -> V) (a b:X),ev a = .d (.int .i64 n) -> ev b = .d (.int .i64 ((n + x:Nat):Int)) -> sliceE hp ev .sl 1 v (some a) (some b) none = some w) /\ ∀ lo,convBSv w ⟨bs,lo⟩ = some (.d (.str (strOf ((l.drop n).take x))),⟨bs,lo⟩):=by
 rcases h with ⟨rfl,_⟩ | ⟨h1,B,o,cs,rfl,h3,h4,h5⟩
 · simp at hx; omega
 · by_cases hlt:n < l.length
   · refine ⟨.row B (o + n) x none 1,fun hp ev a b ha hb=>?_,fun lo=>?_⟩
     · have e1:((n + x:Nat):Int).toNat = n + x:=Int.toNat_natCast _
       have hn0:¬ n = 0:=by omega
       simp only [sliceE,boundE,ha,hb,Int.natCast_nonneg,if_true,Int.toNat_natCast,Nat.le_add_right,hx,hn0,hlt,if_false,true_and,Nat.mul_one,Option.map_none,Nat.add_sub_cancel_left]
     · have hs:sub cs (o + n) x = some (((l.drop n).take x).map (iv .u8)):=by
        simp only [sub] at h5 ⊢
        split at h5
        · rename_i hle
          simp only [Option.some.injEq] at h5
          rw [if_pos (by omega)]
          congr 1
          rw [List.map_take,List.map_drop,← h5,List.drop_take,List.take_take,List.drop_drop,Nat.min_eq_left (by omega)]
        · cases h5
       have hb:=convBS_b (h:=⟨bs,lo⟩) (l:=(l.drop n).take x)
       have hall:(((l.drop n).take x).map fun n=>[D.int .u8 n]).all (fun e=>e.length == 1) = true:=by
        rw [List.all_eq_true]
        intro e he
        obtain ⟨m,_,rfl⟩:=List.mem_map.1 he
        rfl
       simp only [convBSv,bytesD,rowCells,hall,if_true,bytes_flat] at hb
       simp only [convBSv,rowCells,if_true,get_eq,h4,Nat.mul_one,hs,Option.map_some]
       exact hb
   · have he:n = l.length:=by omega
     have hx0:x = 0:=by omega
     subst hx0
     refine ⟨.d (.slice false []),fun hp ev a b ha hb=>?_,fun lo=>?_⟩
     · have hn0:¬ n = 0:=by omega
       simp only [Nat.add_zero] at hb
       simp [sliceE,boundE,ha,hb,hlt,hn0]
       omega
     · simp only [List.take_zero]
       rfl
section
variable (h404:∀ x h,E 99 [.d (u64 x)] h = some (.d (i64 (grpT x)),h))
include h404
theorem find393 {p:Nat} {bs:List Blk} {m:Nat} {most:Int} (hm:getB bs m = some [.d (i64 most)]) (h0:0 <= most) (h1:most < 2 ^ 62):Finds E 56 [.ptr m 0] p bs (pText most) (fun s=>.str s):=by
 intro v l hB hb hl
 obtain ⟨n1,n2,n3⟩:=hB.nu
 have hlen:=fun h=>hB.len h
 have hw:IntKind.wrap .u64 most = most:=by rw [wrap_u64]; omega
 have hlb:l.length < 2 ^ 62:=Nat.lt_of_le_of_lt hl (by decide)
 rcases find391 h404 p bs v l hB hb hl with ⟨x,n,k1,k2,k3,k4⟩ | ⟨k1,d,k4⟩
 · have hux:=(uint_cod.bwd l x (l.drop n) hb k1).2
   have hneg:¬ ((n:Int) < 0):=by omega
   have hmn:¬ (most < 0):=by omega
   have hws:IntKind.wrap .i64 ((l.length:Int) - n) = (l.length:Int) - n:=wrap64 (by omega) (by omega)
   have hwu:IntKind.wrap .u64 ((l.length:Int) - n) = (l.length:Int) - n:=by rw [wrap_u64]; omega
   by_cases hbig:x <= most /\ x <= ((l.drop n).length:Int)
   · have hb2:x <= (l.length:Int) - n:=by have:=hbig.2; rw [List.length_drop] at this; omega
     obtain ⟨X,rfl⟩:=Int.eq_ofNat_of_zero_le hux.1
     have hXn:n + X <= l.length:=by omega
     obtain ⟨w,g1,g2⟩:=hB.text k2 hXn
     have hwx:IntKind.wrap .i64 (X:Int) = X:=wrap64 (by omega) (by omega)
     have hwe:IntKind.wrap .i64 ((n:Int) + X) = ((n + X:Nat):Int):=by rw [wrap64] <;> omega
     refine .inl ⟨strOf ((l.drop n).take X),n + X,?_,by omega,by omega,fun lo=>?_⟩
     · simp only [pText,k1]
       rw [if_pos hbig,List.drop_drop]
       simp
     · rw [Sm_ref rt393 rv393]
       simp [Bd_mk,r393,k4,hm,hneg,hmn,hw,hws,hwu,hlen,n1,n2,n3,opsA_if,show ¬ (X:Int) > most from by omega,show ¬ (X:Int) > (l.length:Int) - n from by omega,hwx,hwe,g1,g2,V.under,V.under.go]
   · refine .inr ⟨?_,.str ⟨#[]⟩,fun lo=>?_⟩
     · simp only [pText,k1]
       rw [if_neg hbig]
     · rw [Sm_ref rt393 rv393]
       by_cases hg:x > most
       · simp [Bd_mk,r393,k4,hm,hneg,hmn,hw,hws,hwu,hlen,n1,n2,n3,opsA_if,hg,V.under,V.under.go]
       · have hg2:x > (l.length:Int) - n:=by rw [List.length_drop] at hbig; omega
         simp [Bd_mk,r393,k4,hm,hneg,hmn,hw,hws,hwu,hlen,n1,n2,n3,opsA_if,hg,hg2,V.under,V.under.go]
 · refine .inr ⟨by simp only [pText,k1],.str ⟨#[]⟩,fun lo=>?_⟩
   rw [Sm_ref rt393 rv393]
   simp [Bd_mk,r393,k4,hm,hw,hlen,n1,n2,n3,opsA_if,V.under,V.under.go]
theorem R229 {p:Nat} {bs:List Blk} {st:Option (List Int)} (hR:RdS p bs st) {most:Int} (h0:0 <= most) (h1:most < 2 ^ 62):Reads E 21 [.ptr p 0,.d (i64 most)] p bs st (pText most) (fun s=>.str s) ⟨#[]⟩:=by
 have h:=take_reads (E:=E) (enc:=fun s=>D.str s) (zero:=⟨#[]⟩) rt392 rv392 (hR.lay [.cells [.d (i64 most)]]) (find393 h404 (p:=p) (m:=bs.length) (by simp) h0 h1)
 refine h.through [.cells [.d (i64 most)]] (fun x bs' lo' k lo=>?_) hR
 rw [Sm_ref rt229 rv229]
 simp [Bd_mk,r229,k]
end
theorem F397 {p:Nat} {bs:List Blk} {st:Option (List Int)} (hR:RdS p bs st):∃ l,(∀ b,st = some b -> b = l) /\ ∀ lo,Sm E TRd valRd 61 [.ptr p 0] ⟨bs,lo⟩ = some (.d (i64 l.length),⟨bs,lo⟩):=by
 obtain ⟨v,l,h1,h2,h3,h4,h5⟩:=hR
 obtain ⟨n1,n2,n3⟩:=h2.nu
 refine ⟨l,h5,fun lo=>?_⟩
 have hlen:=fun h=>h2.len h
 rw [Sm_ref rt397 rv397]
 simp [Bd_mk,r397,h1,n1,n2,n3,hlen,V.under]
theorem F398 {p:Nat} {bs:List Blk} {st:Option (List Int)} (hR:RdS p bs st) (lo:Nat):Sm E TRd valRd 62 [.ptr p 0] ⟨bs,lo⟩ = some (.d (i64 (if st.isNone = true then 2 else 0)),⟨bs,lo⟩):=by
 obtain ⟨v,l,h1,h2,h3,h4,h5⟩:=hR
 obtain ⟨n1,n2,n3⟩:=h2.nu
 rw [Sm_ref rt398 rv398]
 cases hst:st.isNone <;> rw [hst] at h1 <;> simp [Bd_mk,r398,h1,n1,n2,n3,opsA_if,V.under]
theorem F238 {p:Nat} {bs:List Blk} {st:Option (List Int)} (hR:RdS p bs st):∃ bs',∃ F:Nat -> Nat,(∀ lo,Sm E TRd valRd 30 [.ptr p 0] ⟨bs,lo⟩ = some (.d (i64 (if st = some [] then 0 else 2)),⟨bs',F lo⟩)) /\ Old p bs bs' /\ ∀ lo:Nat,F lo <= lo:=by
 obtain ⟨l,k1,k2⟩:=F397 (E:=E) hR
 have hp:=hR.lt
 by_cases hl:0 < l.length
 · obtain ⟨bs',q1,q2,q3⟩:=F237 (E:=E) hR
   have q4:=F398 (E:=E) q2 (min bs.length p)
   have hne:¬ st = some []:=fun h=>by have:=k1 _ h; subst this; simp at hl
   refine ⟨bs',fun lo=>min lo (min bs.length p),fun lo=>?_,q3,fun lo=>Nat.min_le_left _ _⟩
   rw [Sm_ref rt238 rv238]
   simp at q4
   simp [Bd_mk,r238,k2,q1,q4,hl,hne,V.under]
   intro hh
   omega
 · have hl0:l = []:=List.eq_nil_of_length_eq_zero (by omega)
   subst hl0
   have q4:=F398 (E:=E) hR bs.length
   refine ⟨bs,id,fun lo=>?_,Old.refl _ _,fun lo=>Nat.le_refl _⟩
   rw [Sm_ref rt238 rv238]
   cases st with
   | none=>simp at q4; simp [Bd_mk,r238,k2,q4,V.under]
   | some b =>
    have:=k1 b rfl
    subst this
    simp at q4; simp [Bd_mk,r238,k2,q4,V.under]
end
end Go.Proofs.YthkeklemhcfbcaaGreat
namespace Go.Proofs.YthkeklemhcfbcaaGreat
def Quiet (K:List Nat) (u:Tr):Prop:=u.call = false /\ u.big = false /\ u.wr = [] /\ u.lo = u.hi /\ ∀ b ∈ u.nd,b ∈ K
def Sto (K:List Nat) (u:Tr):Prop:=u.call = false /\ u.big = false /\ u.lo = u.hi /\ ∀ b ∈ u.wr,b ∉ K
def Lay (K:List Nat) (m:Nat) (u:Tr):Prop:=u.call = false /\ u.big = false /\ u.wr = [] /\ u.nd = [] /\ m <= u.lo /\ ∀ b ∈ K,b < m
def TrR (K:List Nat) (m:Nat) (t:Tr):Prop:=(∀ u,Quiet K u -> t.spares u = true /\ u.spares t = true) /\ ∀ u,Lay K m u -> t.spares u = true /\ u.spares t = true
theorem Quiet.spares {K:List Nat} {u w:Tr} (h:Quiet K u) (k:Quiet K w):u.spares w = true:=by
 obtain ⟨a1,a2,a3,a4,_⟩:=h
 obtain ⟨b1,b2,_⟩:=k
 simp only [Tr.spares,a2,b2,b1,a3,a4,Bool.or_self,Bool.false_eq_true,if_false,List.all_eq_true]
 intro b _
 simp
theorem Quiet.sto {K:List Nat} {u w:Tr} (h:Quiet K u) (k:Sto K w):u.spares w = true /\ w.spares u = true:=by
 obtain ⟨a1,a2,a3,a4,a5⟩:=h
 obtain ⟨b1,b2,b3,b4⟩:=k
 constructor
 · simp only [Tr.spares,a2,b2,b1,a3,a4,Bool.or_self,Bool.false_eq_true,if_false,List.all_eq_true]
   intro b _
   simp
 · simp only [Tr.spares,a2,b2,a1,b3,Bool.or_self,Bool.false_eq_true,if_false,List.all_eq_true]
   intro b hb
   have:b ∉ w.wr:=fun hw=>b4 b hw (a5 b hb)
   simp [this]
theorem Quiet.lay {K:List Nat} {m:Nat} {u w:Tr} (h:Quiet K u) (k:Lay K m w):u.spares w = true /\ w.spares u = true:=by
 obtain ⟨a1,a2,a3,a4,a5⟩:=h
 obtain ⟨b1,b2,b3,b4,b5,b6⟩:=k
 constructor
 · simp only [Tr.spares,a2,b2,b1,b4,Bool.or_self,Bool.false_eq_true,if_false,List.all_nil]
 · simp only [Tr.spares,a2,b2,a1,b3,Bool.or_self,Bool.false_eq_true,if_false,List.all_eq_true]
   intro b hb
   have h1:=b6 b (a5 b hb)
   have:¬ w.lo <= b:=by omega
   simp [this]
def Cls (K:List Nat) (m:Nat):Nat -> Tr -> Prop
 | 0,t=>Quiet K t
 | 1,t=>TrR K m t
 | 2,t=>Sto K t
 | _,t=>Lay K m t
def ClsOk (K:List Nat) (m:Nat):List Nat -> List Tr -> Prop
 | [],[]=>True
 | c :: cs,t :: ts=>Cls K m c t /\ ClsOk K m cs ts
 | _,_=>False
def clsP:Nat -> Nat -> Bool
 | 0,_=>true
 | _,0=>true
 | 1,3=>true
 | 3,1=>true
 | _,_=>false
def clsCk (pr:List (List Nat)) (cs:List Nat):Bool:=(List.range cs.length).all fun i=>(List.range cs.length).all fun j =>
 i == j || (pr.getD i []).contains j || (pr.getD j []).contains i || clsP (cs.getD i 2) (cs.getD j 2)
theorem ClsOk.len {K:List Nat} {m:Nat}:∀ {cs:List Nat} {ts:List Tr},ClsOk K m cs ts -> cs.length = ts.length
 | [],[],_=>rfl
 | _ :: _,_ :: _,h=>by simp [ClsOk.len h.2]
 | [],_ :: _,h=>h.elim
 | _ :: _,[],h=>h.elim
theorem ClsOk.get {K:List Nat} {m:Nat}:∀ {cs:List Nat} {ts:List Tr},ClsOk K m cs ts -> ∀ {i:Nat},i < ts.length -> ∃ t,ts[i]? = some t /\ Cls K m (cs.getD i 2) t
 | [],[],_,i,hi=>by simp at hi
 | c :: cs,t :: ts,h,0,_=>⟨t,rfl,h.1⟩
 | c :: cs,t :: ts,h,i + 1,hi=>by
  obtain ⟨t,h1,h2⟩:=ClsOk.get h.2 (i:=i) (by simpa using hi)
  exact ⟨t,by simpa using h1,by simpa using h2⟩
 | [],_ :: _,h,_,_=>h.elim
 | _ :: _,[],h,_,hi=>h.elim
theorem Cls.spares {K:List Nat} {m:Nat} {s t:Tr} {a b:Nat} (ha:Cls K m a s) (hb:Cls K m b t) (h:clsP a b = true):s.spares t = true:=by
 unfold clsP at h
 split at h
 · have ha:Quiet K s:=ha
   unfold Cls at hb
   split at hb
   · exact ha.spares hb
   · exact (hb.1 _ ha).2
   · exact (ha.sto hb).1
   · exact (ha.lay hb).1
 · have hb:Quiet K t:=hb
   unfold Cls at ha
   split at ha
   · exact Quiet.spares ha hb
   · exact (ha.1 _ hb).1
   · exact (hb.sto ha).2
   · exact (hb.lay ha).2
 · have ha:TrR K m s:=ha
   have hb:Lay K m t:=hb
   exact (ha.2 _ hb).1
 · have ha:Lay K m s:=ha
   have hb:TrR K m t:=hb
   exact (hb.2 _ ha).2
 · cases h
theorem apartT_cls {pr:List (List Nat)} {l:List Tr} (K:List Nat) (m:Nat) (cs:List Nat) (hck:clsCk pr cs = true) (h:ClsOk K m cs l):apartT pr l = true:=by
 unfold apartT
 simp only [List.all_eq_true,List.mem_range]
 intro i hi j hj
 simp only [clsCk,h.len,List.all_eq_true,List.mem_range] at hck
 have hc:=hck i hi j hj
 obtain ⟨s,s1,s2⟩:=h.get hi
 obtain ⟨t,t1,t2⟩:=h.get hj
 simp only [Bool.or_eq_true] at hc ⊢
 rcases hc with hc | hc
 · exact .inl hc
 · refine .inr ?_
   rw [s1,t1]
   exact s2.spares t2 hc
theorem read_open {C:Calls'} {f:FuncId} {A:List V} {bs bs':List Blk} {v:V} {p:Nat} {F:Nat -> Nat} (hc:∀ lo,C f A ⟨bs,lo⟩ = some (v,⟨bs',F lo⟩)) (hp:p < bs.length) (ho:Old p bs bs') {st:Option (List Int)} (h0:st = none -> bs' = bs /\ ∀ lo,F lo = lo) (h1:st ≠ none -> ∀ lo,F lo <= p)
 {K:List Nat} (hK:∀ b ∈ K,b ≠ p /\ ∃ cs,getB bs b = some cs /\ sameVs cs cs = true) {m:Nat} (hm:bs.length <= m) :
 ∃ t,∃ G:Nat -> Nat,(∀ (lo:Nat) (args:List X) (ev:X -> V),args.all (fun x=>okV (ev x)) = true -> args.map ev = A -> ev (.c (.fn f [])) = .fn f [] -> opDE C (.call (.c (.fn f [])) args) ev ⟨bs,lo⟩ = some (v,⟨bs',G lo⟩,t)) /\ TrR K m t /\ (∀ lo,G lo <= lo) /\ (st = none -> ∀ lo,G lo = lo) /\ (st ≠ none -> ∀ lo,G lo <= p):=by
 cases st with
 | none =>
  obtain ⟨e0,f0⟩:=h0 rfl
  subst e0
  refine ⟨⟨true,false,[],[],bs'.length,bs'.length,0⟩,fun lo=>lo,fun lo args ev ha hm hf=>?_,⟨fun u hu=>⟨?_,?_⟩,fun u hu=>⟨?_,?_⟩⟩,fun lo=>Nat.le_refl _,fun _ lo=>rfl,fun h=>absurd rfl h⟩
  · rw [opDE_call,if_pos ha,hf,hm,callM_fn,List.append_nil,hc,f0]
    simp
  · obtain ⟨a1,a2,a3,a4,_⟩:=hu
    simp [Tr.spares,a1,a2]
  · obtain ⟨a1,a2,a3,a4,_⟩:=hu
    simp [Tr.spares,a2,a3,a4]
  · obtain ⟨a1,a2,a3,a4,_⟩:=hu
    simp [Tr.spares,a1,a2,a4]
  · obtain ⟨a1,a2,a3,a4,a5,_⟩:=hu
    have:bs'.length <= u.lo:=by omega
    simp [Tr.spares,a2,a3,this]
 | some b =>
  have h1:=h1 (by simp) bs.length
  refine ⟨⟨true,true,[],[],bs.length,bs'.length,⟨F bs.length,keptL bs bs'⟩⟩,fun lo=>min lo (F bs.length),fun lo args ev ha hm hf=>?_,⟨fun u hu=>⟨?_,?_⟩,fun u hu=>⟨?_,?_⟩⟩,fun lo=>Nat.min_le_left _ _,(fun h=>by cases h),fun _ lo=>Nat.le_trans (Nat.min_le_right _ _) h1⟩
  · rw [opDE_call,if_pos ha,hf,hm,callM_fn,List.append_nil,hc]
    simp only
    rw [if_neg (by omega)]
  · obtain ⟨a1,a2,a3,a4,a5⟩:=hu
    have:(u.nd.all fun b=>decide (b < F bs.length) || (keptL bs bs').contains b) = true:=by
     rw [List.all_eq_true]
     intro b hb
     obtain ⟨c1,cs,c2,c3⟩:=hK b (a5 b hb)
     have hbl:=getB_len c2
     have hcell:bs[b]? = some (.cells cs):=by
      unfold getB at c2
      split at c2
      · rename_i hh; rw [hh]; simpa using c2
      · cases c2
     have:b ∈ keptL bs bs':=by
      simp only [keptL,List.mem_filter,List.mem_range]
      exact ⟨hbl,by rw [ho.2 b c1 hbl,hcell]; exact c3⟩
     simp [this]
    simp only [Tr.spares,a1,this,Bool.true_or,if_true]
    simp
  · obtain ⟨a1,a2,a3,a4,a5⟩:=hu
    simp [Tr.spares,Tr.calm,a2,a3,a4]
  · obtain ⟨a1,a2,a3,a4,_⟩:=hu
    simp [Tr.spares,a1,a4]
  · obtain ⟨a1,a2,a3,a4,a5,_⟩:=hu
    have:bs.length <= u.lo:=by omega
    simp [Tr.spares,a2,a3,this]
end Go.Proofs.YthkeklemhcfbcaaGreat
